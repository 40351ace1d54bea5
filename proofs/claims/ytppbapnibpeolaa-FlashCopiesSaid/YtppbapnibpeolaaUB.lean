/- How an argument of two calls is read. No conditions beyond those that each theorem names. -/
import Derived.Test.YtppbapnibpeolaaU
set_option maxRecDepth 100000
set_option linter.unusedVariables false
set_option linter.unusedSimpArgs false
namespace Go.Proofs.Ytppbapnibpeolaa
open Go.Sx Go.ChangeShapes Go.WideShapes Go.ChangeAt Go.RowKit

theorem u29 : Try.prog.underlying 29 = some (.array 2 28) := by kernel_rfl
theorem co28 : Try.prog.cellsOf 28 = 5 := by kernel_rfl
theorem co29 : Try.prog.cellsOf 29 = 10 := by kernel_rfl
theorem two_open {H : Type} {enc : TypeId × Value → H} {W : World} {base b0 : Nat} {sp : Nat → Bool} {held : Bool} {r : Reach} {v : Value} {d : DataW H} {ps : List MemPlace} (hval : Value.okWide Try.prog W r b0 29 v) (h : DataW.Trod enc Try.prog W base sp held 29 v d ps) :
    ∃ (x1 x2 : Av) (a1 a2 : Ac), v = .agg (x1.cells ++ x2.cells).toArray ∧ AvAt W.heap.size W x1 a1 ∧ AvAt W.heap.size W x2 a2 := by
  unfold Value.okWide at hval
  rw [u29] at hval
  obtain ⟨cs, rfl, _⟩ := hval
  obtain ⟨fuel, h⟩ := h
  obtain ⟨xs, m, rfl, _, hl, hxl, hel⟩ := DataW.trod_array u29 h
  rw [co29] at hl
  have g : ∀ i, i < 2 → ∃ x : Av, ((cs.toList.drop (i * 5)).take 5) = x.cells ∧ ∃ a : Ac, AvAt W.heap.size W x a := fun i hi => by
    have q := hel i hi
    rw [co28] at q
    obtain ⟨y, hy⟩ : ∃ y, xs[i]? = some y := ⟨_, List.getElem?_eq_getElem (by omega)⟩
    rw [hy] at q
    exact act_dec _ _ _ q
  obtain ⟨x1, q1, a1, h1⟩ := g 0 (by decide)
  obtain ⟨x2, q2, a2, h2⟩ := g 1 (by decide)
  refine ⟨x1, x2, a1, a2, ?_, h1, h2⟩
  have e : cs.toList = x1.cells ++ x2.cells := by
    rw [← q1, ← q2]
    have hl' : cs.toList.length = 10 := hl
    rw [Nat.zero_mul, List.drop_zero, Nat.one_mul, List.take_of_length_le (l := cs.toList.drop 5) (by rw [List.length_drop]; omega), List.take_append_drop]
  rw [← e, Array.toArray_toList]
end Go.Proofs.Ytppbapnibpeolaa
