/- How the arguments of the law PoolNone are read. No conditions beyond those that each theorem names. -/
import Derived.Test.YtdinjabnfjoojaaNA
import Derived.Test.YtdinjabnfjoojaaSxU
import Derived.Test.YtdinjabnfjoojaaSxZD
import Derived.Test.YtdinjabnfjoojaaRows
import Derived.WalkKit
import Derived.ProofKit
import Derived.OpenShut
set_option maxRecDepth 100000
set_option linter.unusedVariables false
set_option linter.unusedSimpArgs false
namespace Go.Proofs.Ytdinjabnfjoojaa
open Go.Sx Go.ChangeShapes Go.WideShapes Go.ChangeAt Go.RowKit

theorem own : ownKnob Try.prog.godebug = none := by kernel_rfl
theorem laidOut : laidOutB Try.prog = true := by kernel_rfl
theorem act_opened {W : World} {r : Reach} {base : Nat} {v : Value} (h : Value.okWide Try.prog W r base 43 v) : ∃ u p b o, v = .agg #[.int .i64 u, .int .i64 p, .int .i64 b, .int .i64 o] := by
  unfold Value.okWide at h
  rw [Try.underlying43] at h
  obtain ⟨cs, rfl, hsz, ts, hts, _, hc⟩ := h
  have e1 : Try.prog.cellTypes Try.prog.depth 43 = some [3, 3, 3, 3] := by kernel_rfl
  rw [e1] at hts
  cases hts
  have e2 : Try.prog.cellsOf 43 = 4 := by kernel_rfl
  rw [e2] at hsz
  have hi : ∀ v, Cell.okWide Try.prog W r base 3 v → ∃ n, v = .int .i64 n := fun v h => okWide_int Try.underlying3 (by unfold Value.okWide; rw [Try.underlying3]; exact h)
  obtain ⟨l⟩ := cs
  match l, hsz with
  | [a, b, c, d], _ =>
    obtain ⟨u0, h0, k0⟩ := hc 0 a rfl
    obtain ⟨u1, h1, k1⟩ := hc 1 b rfl
    obtain ⟨u2, h2, k2⟩ := hc 2 c rfl
    obtain ⟨u3, h3, k3⟩ := hc 3 d rfl
    cases h0; cases h1; cases h2; cases h3
    obtain ⟨z, rfl⟩ := hi _ k0
    obtain ⟨m, rfl⟩ := hi _ k1
    obtain ⟨x, rfl⟩ := hi _ k2
    obtain ⟨t, rfl⟩ := hi _ k3
    exact ⟨z, m, x, t, rfl⟩
end Go.Proofs.Ytdinjabnfjoojaa
