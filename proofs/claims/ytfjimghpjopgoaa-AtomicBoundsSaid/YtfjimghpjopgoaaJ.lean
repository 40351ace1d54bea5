/- The law AtomicPieces returns true for every configuration, address, number of blocks and limit, and changes no argument. No conditions. -/
import Derived.Test.YtfjimghpjopgoaaI
import Derived.Test.YtfjimghpjopgoaaH
import Derived.Test.YtfjimghpjopgoaaSxU
import Derived.Test.YtfjimghpjopgoaaRows
import Derived.WalkKit
import Derived.ProofKit
import Derived.OpenShut
set_option maxRecDepth 100000
set_option linter.unusedVariables false
set_option linter.unusedSimpArgs false
namespace Go.Proofs.Ytfjimghpjopgoaa
open Go.Sx Go.ChangeShapes Go.WideShapes Go.ChangeAt Go.RowKit

theorem own : ownKnob Try.prog.godebug = none := by kernel_rfl
theorem laidOut : laidOutB Try.prog = true := by kernel_rfl
theorem wf64 {n : Int} (h : (Lit.int .i64 n).wf = true) : -9223372036854775808 ≤ n ∧ n ≤ 9223372036854775807 := by
  simpa [Lit.wf, IntKind.min, IntKind.max, IntKind.signed, IntKind.bits] using h

theorem cfg_open {W : World} {r : Reach} {base : Nat} {v : Value} (h : Value.okWide Try.prog W r base 23 v) : ∃ u p b o, v = .agg #[.int .i64 u, .int .i64 p, .int .i64 b, .int .i64 o] := by
  unfold Value.okWide at h
  rw [Try.underlying23] at h
  obtain ⟨cs, rfl, hsz, ts, hts, _, hc⟩ := h
  have e1 : Try.prog.cellTypes Try.prog.depth 23 = some [3, 3, 3, 3] := by kernel_rfl
  rw [e1] at hts
  cases hts
  have e2 : Try.prog.cellsOf 23 = 4 := by kernel_rfl
  rw [e2] at hsz
  have hi : ∀ v, Cell.okWide Try.prog W r base 3 v → ∃ n, v = .int .i64 n := fun v h => okWide_int Try.underlying3 (by unfold Value.okWide; rw [Try.underlying3]; exact h)
  obtain ⟨l⟩ := cs
  match l, hsz with
  | [a, b, c, d], _ =>
    obtain ⟨u0, h0, k0⟩ := hc 0 a rfl
    obtain ⟨u1, h1, k1⟩ := hc 1 b rfl
    obtain ⟨u2, h2, k2⟩ := hc 2 c rfl
    obtain ⟨u3, h3, k3⟩ := hc 3 d rfl
    cases h0; cases h1; cases h2; cases h3
    obtain ⟨z, rfl⟩ := hi _ k0
    obtain ⟨m, rfl⟩ := hi _ k1
    obtain ⟨x, rfl⟩ := hi _ k2
    obtain ⟨t, rfl⟩ := hi _ k3
    exact ⟨z, m, x, t, rfl⟩

theorem contract3 (H : Type) (enc : TypeId × Value → H) (W : World) (base : Nat) (args : Array Value) (ds gs : List (DataW H)) (before : List MemPlace)
    (hval : ∀ (j : Nat) t v, Try.f3.params[j]? = some t → args[j]? = some v → Value.okWide Try.prog W .any base t v)
    (hW : DataW.Whole enc Try.prog Try.f3.params.toList Rows.atomicPiecesSpec.vars false W args.toList ds gs before) :
    Calls Try.prog 3 args W fun e W' => ∃ v, e = .returned v ∧ Rows.atomicPiecesSpec.post enc Try.prog Try.f3 false true false false W args v W' := by
  have hW' := hW
  obtain ⟨p, q, hA0, hV, rfl, hfz, hnd⟩ := hW
  have hA : DataW.TrodAll enc Try.prog W 0 (fun _ => true) true Try.f3.params.toList args.toList ds p := hA0
  rw [Try.params3] at hA hval
  obtain ⟨v0, vs0, d0, ds0, p0, q0, hargs, rfl, rfl, h0, r0⟩ := trodAll_cons hA
  obtain ⟨v1, vs1, d1, ds1, p1, q1, rfl, rfl, rfl, h1, r1⟩ := trodAll_cons r0
  obtain ⟨v2, vs2, d2, ds2, p2, q2, rfl, rfl, rfl, h2, r2⟩ := trodAll_cons r1
  obtain ⟨v3, vs3, d3, ds3, p3, q3, rfl, rfl, rfl, h3, r3⟩ := trodAll_cons r2
  obtain ⟨rfl, rfl, rfl⟩ := trodAll_nil r3
  obtain rfl : args = #[v0, v1, v2, v3] := by cases args; simp_all
  obtain ⟨rfl, rfl⟩ := trodVars_none hV
  obtain ⟨u, pw, b, o, rfl⟩ := cfg_open (hval 0 23 v0 rfl rfl)
  obtain ⟨a1, rfl, rfl, rfl, w1⟩ := open_int Try.underlying3 (hval 1 3 v1 rfl rfl) h1
  obtain ⟨a2, rfl, rfl, rfl, w2⟩ := open_int Try.underlying3 (hval 2 3 v2 rfl rfl) h2
  obtain ⟨a3, rfl⟩ := okWide_bool Try.underlying4 (hval 3 4 v3 rfl rfl)
  refine (c3 c9 u pw b o a1 a2 a3 W).run.mono fun e W' ⟨he, hs⟩ => ?_
  subst he
  refine ⟨_, rfl, law_post (tb := 4) laidOut ?_ rfl hW' hs rfl (by kernel_rfl) Try.underlying4⟩
  rw [Try.params3]
  intro t ht
  simp only [List.mem_cons, List.not_mem_nil, or_false] at ht
  have r23 : Try.prog.readableRec 23 = true := by kernel_rfl
  have r3 : Try.prog.readableRec 3 = true := by kernel_rfl
  have r4 : Try.prog.readableRec 4 = true := by kernel_rfl
  have s25 : 25 < Try.prog.types.size := of_decide_eq_true (by kernel_rfl)
  rcases ht with rfl | rfl | rfl | rfl
  · exact ⟨r23, Nat.lt_trans (by decide) s25⟩
  · exact ⟨r3, Nat.lt_trans (by decide) s25⟩
  · exact ⟨r3, Nat.lt_trans (by decide) s25⟩
  · exact ⟨r4, Nat.lt_trans (by decide) s25⟩

theorem lifted3 (os : Os) (started : os.Started) (H : Type) (enc : TypeId × Value → H) :
    ReturnsInHanded {} Try.checked os 3 .any (Rows.atomicPiecesSpec.pre6 enc Try.prog Try.f3 Rows.atomicPiecesRow.domain false) (Rows.atomicPiecesSpec.post enc Try.prog Try.f3 false true false false) := by
  refine returnsInHanded_of_change (C := Try.checked) own started (by kernel_rfl) Try.func3
    (ChangeSpec.witness6 (enc := enc) (C := Try.checked) false ⟨#[], #[.agg #[.int .i64 0, .int .i64 0, .int .i64 0, .int .i64 0], .int .i64 0, .int .i64 0, .bool false], []⟩ 8 (by kernel_rfl) (by kernel_rfl) (by kernel_rfl) (by kernel_rfl)) ?_
  intro W base args ds gs before hval hW _ _
  exact contract3 H enc W base args ds gs before hval hW

theorem over3 : Rows.atomicPiecesRow.holds Try.pinned (OpenSpec.ofChange Rows.atomicPiecesSpec) :=
  OpenClaim.holds_of_wide 3 Try.f3 rfl rfl rfl rfl rfl rfl rfl ⟨rfl, rfl, rfl, rfl, rfl⟩ rfl rfl rfl rfl rfl (by kernel_rfl) Try.func3 (by kernel_rfl)
    (of_decide_eq_true (by kernel_rfl)) (by unfold Func.isWrapper; first | (rw [if_pos (by decide +kernel)]; kernel_rfl) | (rw [if_neg (by decide +kernel)]; exact ⟨rfl, rfl⟩))
    (fun os started H enc _ => lifted3 os started H enc)

theorem atomicPiecesProved : Rows.AtomicPiecesSaid := over3
end Go.Proofs.Ytfjimghpjopgoaa
