/- The arguments of the chapter's laws opened. No conditions beyond those that each theorem names. -/
import Derived.Test.YtdinjabnfjoojaaL
import Derived.Test.YtdinjabnfjoojaaSxU
import Derived.Test.YtdinjabnfjoojaaSxZD
import Derived.Test.YtdinjabnfjoojaaRows
import Derived.WalkKit
import Derived.ProofKit
import Derived.OpenShut
set_option maxRecDepth 100000
set_option linter.unusedVariables false
set_option linter.unusedSimpArgs false
namespace Go.Proofs.Ytdinjabnfjoojaa
open Go.Sx Go.ChangeShapes Go.WideShapes Go.ChangeAt Go.RowKit

theorem own : ownKnob Try.prog.godebug = none := by kernel_rfl
theorem laidOut : laidOutB Try.prog = true := by kernel_rfl
theorem int_dec {H : Type} {enc : TypeId × Value → H} {w : World} {base : Nat} {sp : Nat → Bool} {held : Bool} (n : Nat) (cs : List Value) (y : DataW H × List MemPlace) (h : DataW.trod enc Try.prog w base sp held n 3 cs = some y) : ∃ a : Int, cs = intE.enc a := by
  obtain ⟨z, rfl, _⟩ := DataW.trod_int Try.underlying3 h
  exact ⟨z, rfl⟩
theorem act_dec {H : Type} {enc : TypeId × Value → H} {w : World} {base : Nat} {sp : Nat → Bool} {held : Bool} (n : Nat) (cs : List Value) (y : DataW H × List MemPlace) (h : DataW.trod enc Try.prog w base sp held n 43 cs = some y) : ∃ a : ActT, cs = actE.enc a := by
  obtain ⟨hl, hc⟩ := trod_cells (ts := [3, 3, 3, 3]) Try.underlying43 (by kernel_rfl) (by intro u hu; simp only [List.mem_cons, List.not_mem_nil, or_false] at hu; rcases hu with rfl | rfl | rfl | rfl <;> kernel_rfl) (by kernel_rfl) h
  obtain ⟨_, c0, _, e0, h0⟩ := hc 0 3 rfl
  obtain ⟨_, c1, _, e1, h1⟩ := hc 1 3 rfl
  obtain ⟨_, c2, _, e2, h2⟩ := hc 2 3 rfl
  obtain ⟨_, c3, _, e3, h3⟩ := hc 3 3 rfl
  obtain ⟨z0, hz0, _⟩ := DataW.trod_int Try.underlying3 h0
  obtain ⟨z1, hz1, _⟩ := DataW.trod_int Try.underlying3 h1
  obtain ⟨z2, hz2, _⟩ := DataW.trod_int Try.underlying3 h2
  obtain ⟨z3, hz3, _⟩ := DataW.trod_int Try.underlying3 h3
  cases hz0; cases hz1; cases hz2; cases hz3
  refine ⟨⟨z0, z1, z2, z3⟩, ?_⟩
  match cs, hl, e0, e1, e2, e3 with
  | [a0, a1, a2, a3], _, e0, e1, e2, e3 =>
    simp only [List.getElem?_cons_zero, List.getElem?_cons_succ, Option.some.injEq] at e0 e1 e2 e3
    rw [e0, e1, e2, e3]
    rfl
theorem ints_open {H : Type} {enc : TypeId × Value → H} {W : World} {base b0 : Nat} {sp : Nat → Bool} {held : Bool} {r : Reach} {v : Value} {d : DataW H} {ps : List MemPlace} (hval : Value.okWide Try.prog W r b0 23 v) (h : DataW.Trod enc Try.prog W base sp held 23 v d ps) : ∃ A : List Int, Arr intE W v A := by
  obtain ⟨a, n, c, rfl⟩ := okWide_slice Try.underlying23 hval
  obtain ⟨fuel, h⟩ := h
  obtain ⟨v, L, e, hA, _⟩ := trod_arr (E := intE) Try.underlying23 (by kernel_rfl) int_dec h
  have : v = .slice a n c := by simpa [Value.cells] using e.symm
  subst this
  exact ⟨L, hA⟩
theorem acts_open {H : Type} {enc : TypeId × Value → H} {W : World} {base b0 : Nat} {sp : Nat → Bool} {held : Bool} {r : Reach} {v : Value} {d : DataW H} {ps : List MemPlace} (hval : Value.okWide Try.prog W r b0 35 v) (h : DataW.Trod enc Try.prog W base sp held 35 v d ps) : ∃ A : List ActT, Arr actE W v A := by
  obtain ⟨a, n, c, rfl⟩ := okWide_slice Try.underlying35 hval
  obtain ⟨fuel, h⟩ := h
  obtain ⟨v, L, e, hA, _⟩ := trod_arr (E := actE) Try.underlying35 (by kernel_rfl) act_dec h
  have : v = .slice a n c := by simpa [Value.cells] using e.symm
  subst this
  exact ⟨L, hA⟩
end Go.Proofs.Ytdinjabnfjoojaa
