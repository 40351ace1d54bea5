/- The law AtomicNone returns true for every command, and changes no argument. No conditions. -/
import Derived.Test.YtfjimghpjopgoaaL
import Derived.Test.YtfjimghpjopgoaaSxU
import Derived.Test.YtfjimghpjopgoaaRows
import Derived.WalkKit
import Derived.ProofKit
import Derived.OpenShut
set_option maxRecDepth 100000
set_option linter.unusedVariables false
set_option linter.unusedSimpArgs false
namespace Go.Proofs.Ytfjimghpjopgoaa
open Go.Sx Go.ChangeShapes Go.WideShapes Go.ChangeAt Go.RowKit

theorem own : ownKnob Try.prog.godebug = none := by kernel_rfl
theorem laidOut : laidOutB Try.prog = true := by kernel_rfl
theorem wf64 {n : Int} (h : (Lit.int .i64 n).wf = true) : -9223372036854775808 ≤ n ∧ n ≤ 9223372036854775807 := by
  simpa [Lit.wf, IntKind.min, IntKind.max, IntKind.signed, IntKind.bits] using h

theorem act_open {W : World} {r : Reach} {base : Nat} {v : Value} (h : Value.okWide Try.prog W r base 54 v) : ∃ x a b c d, v = .agg #[.int .i64 x, .int .i64 a, .int .i64 b, .int .i64 c, .bool d] := by
  unfold Value.okWide at h
  rw [Try.underlying54] at h
  obtain ⟨cs, rfl, hsz, ts, hts, _, hc⟩ := h
  have e1 : Try.prog.cellTypes Try.prog.depth 54 = some [3, 3, 3, 3, 4] := by kernel_rfl
  rw [e1] at hts
  cases hts
  have e2 : Try.prog.cellsOf 54 = 5 := by kernel_rfl
  rw [e2] at hsz
  have hi : ∀ v, Cell.okWide Try.prog W r base 3 v → ∃ n, v = .int .i64 n := fun v h => okWide_int Try.underlying3 (by unfold Value.okWide; rw [Try.underlying3]; exact h)
  have hB : ∀ v, Cell.okWide Try.prog W r base 4 v → ∃ n, v = .bool n := fun v h => okWide_bool Try.underlying4 (by unfold Value.okWide; rw [Try.underlying4]; exact h)
  obtain ⟨l⟩ := cs
  match l, hsz with
  | [a, b, c, d, e], _ =>
    obtain ⟨u0, h0, k0⟩ := hc 0 a rfl
    obtain ⟨u1, h1, k1⟩ := hc 1 b rfl
    obtain ⟨u2, h2, k2⟩ := hc 2 c rfl
    obtain ⟨u3, h3, k3⟩ := hc 3 d rfl
    obtain ⟨u4, h4, k4⟩ := hc 4 e rfl
    cases h4
    cases h0; cases h1; cases h2; cases h3
    obtain ⟨z, rfl⟩ := hi _ k0
    obtain ⟨m, rfl⟩ := hi _ k1
    obtain ⟨x, rfl⟩ := hi _ k2
    obtain ⟨t, rfl⟩ := hi _ k3
    obtain ⟨q, rfl⟩ := hB _ k4
    exact ⟨z, m, x, t, q, rfl⟩

theorem contract8 (H : Type) (enc : TypeId × Value → H) (W : World) (base : Nat) (args : Array Value) (ds gs : List (DataW H)) (before : List MemPlace)
    (hval : ∀ (j : Nat) t v, Try.f8.params[j]? = some t → args[j]? = some v → Value.okWide Try.prog W .any base t v)
    (hW : DataW.Whole enc Try.prog Try.f8.params.toList Rows.atomicNoneSpec.vars false W args.toList ds gs before) :
    Calls Try.prog 8 args W fun e W' => ∃ v, e = .returned v ∧ Rows.atomicNoneSpec.post enc Try.prog Try.f8 false true false false W args v W' := by
  have hW' := hW
  obtain ⟨p, q, hA0, hV, rfl, hfz, hnd⟩ := hW
  have hA : DataW.TrodAll enc Try.prog W 0 (fun _ => true) true Try.f8.params.toList args.toList ds p := hA0
  rw [Try.params8] at hA hval
  obtain ⟨v0, vs0, d0, ds0, p0, q0, hargs, rfl, rfl, h0, r0⟩ := trodAll_cons hA
  obtain ⟨rfl, rfl, rfl⟩ := trodAll_nil r0
  obtain rfl : args = #[v0] := by cases args; simp_all
  obtain ⟨rfl, rfl⟩ := trodVars_none hV
  obtain ⟨x, a, b, c, d, rfl⟩ := act_open (hval 0 54 v0 rfl rfl)
  refine (c8 x a b c d W).run.mono fun e W' ⟨he, hs⟩ => ?_
  subst he
  refine ⟨_, rfl, law_post (tb := 4) laidOut ?_ rfl hW' hs rfl (by kernel_rfl) Try.underlying4⟩
  rw [Try.params8]
  intro t ht
  simp only [List.mem_cons, List.not_mem_nil, or_false] at ht
  subst ht
  exact ⟨by kernel_rfl, of_decide_eq_true (by kernel_rfl)⟩

theorem lifted8 (os : Os) (started : os.Started) (H : Type) (enc : TypeId × Value → H) :
    ReturnsInHanded {} Try.checked os 8 .any (Rows.atomicNoneSpec.pre6 enc Try.prog Try.f8 Rows.atomicNoneRow.domain false) (Rows.atomicNoneSpec.post enc Try.prog Try.f8 false true false false) := by
  refine returnsInHanded_of_change (C := Try.checked) own started (by kernel_rfl) Try.func8
    (ChangeSpec.witness6 (enc := enc) (C := Try.checked) false ⟨#[], #[.agg #[.int .i64 0, .int .i64 0, .int .i64 0, .int .i64 0, .bool false]], []⟩ 8 (by kernel_rfl) (by kernel_rfl) (by kernel_rfl) (by kernel_rfl)) ?_
  intro W base args ds gs before hval hW _ _
  exact contract8 H enc W base args ds gs before hval hW

theorem over8 : Rows.atomicNoneRow.holds Try.pinned (OpenSpec.ofChange Rows.atomicNoneSpec) :=
  OpenClaim.holds_of_wide 8 Try.f8 rfl rfl rfl rfl rfl rfl rfl ⟨rfl, rfl, rfl, rfl, rfl⟩ rfl rfl rfl rfl rfl (by kernel_rfl) Try.func8 (by kernel_rfl)
    (of_decide_eq_true (by kernel_rfl)) (by unfold Func.isWrapper; first | (rw [if_pos (by decide +kernel)]; kernel_rfl) | (rw [if_neg (by decide +kernel)]; exact ⟨rfl, rfl⟩))
    (fun os started H enc _ => lifted8 os started H enc)

theorem atomicNoneProved : Rows.AtomicNoneSaid := over8
end Go.Proofs.Ytfjimghpjopgoaa
