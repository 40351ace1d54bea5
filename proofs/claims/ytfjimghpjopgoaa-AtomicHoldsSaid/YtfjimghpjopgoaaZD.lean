/- How the arguments of the law AtomicHolds are read. No conditions beyond those that each theorem names. -/
import Derived.Test.YtfjimghpjopgoaaW
import Derived.Test.YtfjimghpjopgoaaZB
set_option maxRecDepth 100000
set_option linter.unusedVariables false
set_option linter.unusedSimpArgs false
namespace Go.Proofs.Ytfjimghpjopgoaa
open Go.Sx Go.ChangeShapes Go.WideShapes Go.ChangeAt Go.RowKit

theorem cfg_opened {W : World} {r : Reach} {base : Nat} {v : Value} (h : Value.okWide Try.prog W r base 23 v) : ∃ u p b o, v = .agg #[.int .i64 u, .int .i64 p, .int .i64 b, .int .i64 o] := by
  unfold Value.okWide at h
  rw [Try.underlying23] at h
  obtain ⟨cs, rfl, hsz, ts, hts, _, hc⟩ := h
  have e1 : Try.prog.cellTypes Try.prog.depth 23 = some [3, 3, 3, 3] := by kernel_rfl
  rw [e1] at hts
  cases hts
  have e2 : Try.prog.cellsOf 23 = 4 := by kernel_rfl
  rw [e2] at hsz
  have hi : ∀ v, Cell.okWide Try.prog W r base 3 v → ∃ n, v = .int .i64 n := fun v h => okWide_int Try.underlying3 (by unfold Value.okWide; rw [Try.underlying3]; exact h)
  obtain ⟨l⟩ := cs
  match l, hsz with
  | [a, b, c, d], _ =>
    obtain ⟨u0, h0, k0⟩ := hc 0 a rfl
    obtain ⟨u1, h1, k1⟩ := hc 1 b rfl
    obtain ⟨u2, h2, k2⟩ := hc 2 c rfl
    obtain ⟨u3, h3, k3⟩ := hc 3 d rfl
    cases h0; cases h1; cases h2; cases h3
    obtain ⟨z, rfl⟩ := hi _ k0
    obtain ⟨m, rfl⟩ := hi _ k1
    obtain ⟨x, rfl⟩ := hi _ k2
    obtain ⟨t, rfl⟩ := hi _ k3
    exact ⟨z, m, x, t, rfl⟩
theorem byte_dec {H : Type} {enc : TypeId × Value → H} {w : World} {base : Nat} {sp : Nat → Bool} {held : Bool} (n : Nat) (cs : List Value) (y : DataW H × List MemPlace) (h : DataW.trod enc Try.prog w base sp held n 5 cs = some y) : ∃ a : Int, cs = byteE.enc a := by
  obtain ⟨z, hz, _⟩ := DataW.trod_int Try.underlying5 h
  exact ⟨z, hz⟩
theorem bytes_open {H : Type} {enc : TypeId × Value → H} {W : World} {base b0 : Nat} {sp : Nat → Bool} {held : Bool} {r : Reach} {v : Value} {d : DataW H} {ps : List MemPlace} (hval : Value.okWide Try.prog W r b0 49 v) (h : DataW.Trod enc Try.prog W base sp held 49 v d ps) : ∃ A : List Int, Arr byteE W v A := by
  obtain ⟨a, n, c, rfl⟩ := okWide_slice Try.underlying49 hval
  obtain ⟨fuel, h⟩ := h
  obtain ⟨v, L, e, hA, _⟩ := trod_arr (E := byteE) Try.underlying49 (by kernel_rfl) byte_dec h
  have : v = .slice a n c := by simpa [Value.cells] using e.symm
  subst this
  exact ⟨L, hA⟩
end Go.Proofs.Ytfjimghpjopgoaa
