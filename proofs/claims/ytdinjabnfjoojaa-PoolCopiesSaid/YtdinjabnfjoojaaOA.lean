/- The two given actions of the law PoolCopies opened. No conditions. -/
import Derived.Test.YtdinjabnfjoojaaO
import Derived.Test.YtdinjabnfjoojaaM
set_option maxRecDepth 100000
set_option linter.unusedVariables false
set_option linter.unusedSimpArgs false
namespace Go.Proofs.Ytdinjabnfjoojaa
open Go.Sx Go.ChangeShapes Go.WideShapes Go.ChangeAt Go.RowKit

theorem acts2_open {W : World} {r : Reach} {base : Nat} {v : Value} (h : Value.okWide Try.prog W r base 46 v) : ∃ x1 x2 : ActT, v = .agg (actV x1 ++ actV x2).toArray := by
  unfold Value.okWide at h
  rw [Try.underlying46] at h
  obtain ⟨cs, rfl, hsz, ts, hts, _, hc⟩ := h
  have e1 : Try.prog.cellTypes Try.prog.depth 46 = some [3, 3, 3, 3, 3, 3, 3, 3] := by kernel_rfl
  rw [e1] at hts
  cases hts
  have e2 : Try.prog.cellsOf 46 = 8 := by kernel_rfl
  rw [e2] at hsz
  have hi : ∀ v, Cell.okWide Try.prog W r base 3 v → ∃ n, v = .int .i64 n := fun v h => okWide_int Try.underlying3 (by unfold Value.okWide; rw [Try.underlying3]; exact h)
  obtain ⟨l⟩ := cs
  match l, hsz with
  | [a0, a1, a2, a3, a4, a5, a6, a7], _ =>
    obtain ⟨u0, h0, k0⟩ := hc 0 a0 rfl
    obtain ⟨u1, h1, k1⟩ := hc 1 a1 rfl
    obtain ⟨u2, h2, k2⟩ := hc 2 a2 rfl
    obtain ⟨u3, h3, k3⟩ := hc 3 a3 rfl
    obtain ⟨u4, h4, k4⟩ := hc 4 a4 rfl
    obtain ⟨u5, h5, k5⟩ := hc 5 a5 rfl
    obtain ⟨u6, h6, k6⟩ := hc 6 a6 rfl
    obtain ⟨u7, h7, k7⟩ := hc 7 a7 rfl
    cases h0
    cases h1
    cases h2
    cases h3
    cases h4
    cases h5
    cases h6
    cases h7
    obtain ⟨z0, rfl⟩ := hi _ k0
    obtain ⟨z1, rfl⟩ := hi _ k1
    obtain ⟨z2, rfl⟩ := hi _ k2
    obtain ⟨z3, rfl⟩ := hi _ k3
    obtain ⟨z4, rfl⟩ := hi _ k4
    obtain ⟨z5, rfl⟩ := hi _ k5
    obtain ⟨z6, rfl⟩ := hi _ k6
    obtain ⟨z7, rfl⟩ := hi _ k7
    exact ⟨⟨z0, z1, z2, z3⟩, ⟨z4, z5, z6, z7⟩, rfl⟩
end Go.Proofs.Ytdinjabnfjoojaa
