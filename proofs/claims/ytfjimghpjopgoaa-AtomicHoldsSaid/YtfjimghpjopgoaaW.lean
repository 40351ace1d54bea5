/- The law AtomicPlays returns true for every list of calls and every number of iterations, and changes no argument. No conditions. -/
import Derived.Test.YtfjimghpjopgoaaS
import Derived.Test.YtfjimghpjopgoaaSxU
import Derived.Test.YtfjimghpjopgoaaSxZD
import Derived.Test.YtfjimghpjopgoaaRows
import Derived.WalkKit
import Derived.ProofKit
import Derived.OpenShut
set_option maxRecDepth 100000
set_option linter.unusedVariables false
set_option linter.unusedSimpArgs false
namespace Go.Proofs.Ytfjimghpjopgoaa
open Go.Sx Go.ChangeShapes Go.WideShapes Go.ChangeAt Go.RowKit

theorem own : ownKnob Try.prog.godebug = none := by kernel_rfl
theorem laidOut : laidOutB Try.prog = true := by kernel_rfl

theorem act_dec {H : Type} {enc : TypeId × Value → H} {w : World} {base : Nat} {sp : Nat → Bool} {held : Bool} (n : Nat) (cs : List Value) (y : DataW H × List MemPlace) (h : DataW.trod enc Try.prog w base sp held n 54 cs = some y) : ∃ a : ActT, cs = actE.enc a := by
  obtain ⟨hl, hc⟩ := trod_cells (ts := [3, 3, 3, 3, 4]) Try.underlying54 (by kernel_rfl) (by intro u hu; simp only [List.mem_cons, List.not_mem_nil, or_false] at hu; rcases hu with rfl | rfl | rfl | rfl | rfl <;> kernel_rfl) (by kernel_rfl) h
  obtain ⟨_, c0, _, e0, h0⟩ := hc 0 3 rfl
  obtain ⟨_, c1, _, e1, h1⟩ := hc 1 3 rfl
  obtain ⟨_, c2, _, e2, h2⟩ := hc 2 3 rfl
  obtain ⟨_, c3, _, e3, h3⟩ := hc 3 3 rfl
  obtain ⟨_, c4, _, e4, h4⟩ := hc 4 4 rfl
  obtain ⟨z0, hz0, _⟩ := DataW.trod_int Try.underlying3 h0
  obtain ⟨z1, hz1, _⟩ := DataW.trod_int Try.underlying3 h1
  obtain ⟨z2, hz2, _⟩ := DataW.trod_int Try.underlying3 h2
  obtain ⟨z3, hz3, _⟩ := DataW.trod_int Try.underlying3 h3
  obtain ⟨z4, hz4, _⟩ := DataW.trod_bool Try.underlying4 h4
  cases hz0; cases hz1; cases hz2; cases hz3; cases hz4
  refine ⟨⟨z0, z1, z2, z3, z4⟩, ?_⟩
  match cs, hl, e0, e1, e2, e3, e4 with
  | [a0, a1, a2, a3, a4], _, e0, e1, e2, e3, e4 =>
    simp only [List.getElem?_cons_zero, List.getElem?_cons_succ, Option.some.injEq] at e0 e1 e2 e3 e4
    rw [e0, e1, e2, e3, e4]
    rfl
theorem acts_open {H : Type} {enc : TypeId × Value → H} {W : World} {base b0 : Nat} {sp : Nat → Bool} {held : Bool} {r : Reach} {v : Value} {d : DataW H} {ps : List MemPlace} (hval : Value.okWide Try.prog W r b0 48 v) (h : DataW.Trod enc Try.prog W base sp held 48 v d ps) : ∃ A : List ActT, Arr actE W v A := by
  obtain ⟨a, n, c, rfl⟩ := okWide_slice Try.underlying48 hval
  obtain ⟨fuel, h⟩ := h
  obtain ⟨v, L, e, hA, _⟩ := trod_arr (E := actE) Try.underlying48 (by kernel_rfl) act_dec h
  have : v = .slice a n c := by simpa [Value.cells] using e.symm
  subst this
  exact ⟨L, hA⟩

theorem contract7 (H : Type) (enc : TypeId × Value → H) (W : World) (base : Nat) (args : Array Value) (ds gs : List (DataW H)) (before : List MemPlace)
    (hval : ∀ (j : Nat) t v, Try.f7.params[j]? = some t → args[j]? = some v → Value.okWide Try.prog W .any base t v)
    (hW : DataW.Whole enc Try.prog Try.f7.params.toList Rows.atomicPlaysSpec.vars false W args.toList ds gs before) :
    Calls Try.prog 7 args W fun e W' => ∃ v, e = .returned v ∧ Rows.atomicPlaysSpec.post enc Try.prog Try.f7 false true false false W args v W' := by
  have hW' := hW
  obtain ⟨p, q, hA0, hV, rfl, hfz, hnd⟩ := hW
  have hA : DataW.TrodAll enc Try.prog W 0 (fun _ => true) true Try.f7.params.toList args.toList ds p := hA0
  rw [Try.params7] at hA hval
  obtain ⟨v0, vs0, d0, ds0, p0, q0, hargs, rfl, rfl, h0, r0⟩ := trodAll_cons hA
  obtain ⟨v1, vs1, d1, ds1, p1, q1, rfl, rfl, rfl, h1, r1⟩ := trodAll_cons r0
  obtain ⟨rfl, rfl, rfl⟩ := trodAll_nil r1
  obtain rfl : args = #[v0, v1] := by cases args; simp_all
  obtain ⟨rfl, rfl⟩ := trodVars_none hV
  obtain ⟨A, hsA⟩ := acts_open (hval 0 48 v0 rfl rfl) h0
  obtain ⟨many, rfl⟩ := okWide_int Try.underlying3 (hval 1 3 v1 rfl rfl)
  refine (c7 v0 A many W hsA).run.mono fun e W' ⟨he, hs⟩ => ?_
  subst he
  refine ⟨_, rfl, law_post (tb := 4) laidOut ?_ rfl hW' hs rfl (by kernel_rfl) Try.underlying4⟩
  rw [Try.params7]
  intro t ht
  simp only [List.mem_cons, List.not_mem_nil, or_false] at ht
  rcases ht with rfl | rfl
  all_goals exact ⟨by kernel_rfl, of_decide_eq_true (by kernel_rfl)⟩

theorem lifted7 (os : Os) (started : os.Started) (H : Type) (enc : TypeId × Value → H) :
    ReturnsInHanded {} Try.checked os 7 .any (Rows.atomicPlaysSpec.pre6 enc Try.prog Try.f7 Rows.atomicPlaysRow.domain false) (Rows.atomicPlaysSpec.post enc Try.prog Try.f7 false true false false) := by
  refine returnsInHanded_of_change (C := Try.checked) own started (by kernel_rfl) Try.func7
    (ChangeSpec.witness6 (enc := enc) (C := Try.checked) false ⟨#[], #[.slice none 0 0, .int .i64 0], []⟩ 7 (by kernel_rfl) (by kernel_rfl) (by kernel_rfl) (by kernel_rfl)) ?_
  intro W base args ds gs before hval hW _ _
  exact contract7 H enc W base args ds gs before hval hW

theorem over7 : Rows.atomicPlaysRow.holds Try.pinned (OpenSpec.ofChange Rows.atomicPlaysSpec) :=
  OpenClaim.holds_of_wide 7 Try.f7 rfl rfl rfl rfl rfl rfl rfl ⟨rfl, rfl, rfl, rfl, rfl⟩ rfl rfl rfl rfl rfl (by kernel_rfl) Try.func7 (by kernel_rfl)
    (of_decide_eq_true (by kernel_rfl)) (by unfold Func.isWrapper; first | (rw [if_pos (by decide +kernel)]; kernel_rfl) | (rw [if_neg (by decide +kernel)]; exact ⟨rfl, rfl⟩))
    (fun os started H enc _ => lifted7 os started H enc)

theorem atomicPlaysProved : Rows.AtomicPlaysSaid := over7
end Go.Proofs.Ytfjimghpjopgoaa
