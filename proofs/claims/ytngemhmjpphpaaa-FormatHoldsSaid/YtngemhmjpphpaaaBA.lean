/- What the specification's lengths are. No conditions beyond those that each theorem names. -/
import Derived.Test.YtngemhmjpphpaaaB
set_option maxRecDepth 100000
set_option linter.unusedVariables false
set_option linter.unusedSimpArgs false
namespace Go.Proofs.Ytngemhmjpphpaaa
open Go.Sx

theorem c25 (z m : Int) (x : Bool) (t : Int) (fi act : Bool) (w : World) : Gives Try.prog 25 [fmtV z m x t fi, .bool act] w (.int .i64 (mvd m act)) := by
  refine gives mix t25 rfl rfl (ε := [.int .i64 z, .int .i64 m, .bool x, .int .i64 t, .bool fi, .bool act]) (fitsF _ _ _ _ _ ⟨⟨_, rfl⟩, trivial⟩) (den_blk fun b _ _ _ => ?_)
  refine den_split (fun h => den_split (fun h' => den_leaf ?_) (fun h' => den_leaf ?_)) (fun h => den_leaf ?_)
  all_goals simp_all [BE.den, IE.den, nth, vint, vbool, denL, SV.den, mvd]
theorem fOk_t {z m : Int} {x : Bool} {t : Int} {fi : Bool} (h : fOk z m x t fi = true) : 0 ≤ t := by
  simp only [fOk, pOk, Bool.and_eq_true, Bool.or_eq_true, decide_eq_true_eq] at h
  omega
theorem c20 (z m : Int) (x : Bool) (t : Int) (fi : Bool) (n : Int) (act : Bool) (w : World) :
    Gives Try.prog 20 [fmtV z m x t fi, .int .i64 n, .bool act] w (.tuple #[.int .i64 (leA z m x t fi n act), .int .i64 (leB z m x t fi n act), .int .i64 (leE z m x t fi n act)]) := by
  refine gives mix t20 rfl rfl (ε := [.int .i64 z, .int .i64 m, .bool x, .int .i64 t, .bool fi, .int .i64 n, .bool act]) (fitsF _ _ _ _ _ ⟨⟨_, rfl⟩, ⟨_, rfl⟩, trivial⟩) (den_blk fun b _ _ _ => ?_)
  refine den_call_bool (b := fOk z m x t fi) (fun w _ => c15 z m x t fi w) rfl (fun _ _ _ _ => ?_)
  refine den_norm (by simp only [List.cons_append, List.nil_append]; rfl) ?_
  have no : lOk z m x t fi n act = false → denL ([] : List Value) [.tuple [.int .i64 (.lit 0), .int .i64 (.lit 0), .int .i64 (.lit 2)]] = [.tuple #[.int .i64 (leA z m x t fi n act), .int .i64 (leB z m x t fi n act), .int .i64 (leE z m x t fi n act)]] := fun h => by
    simp [leA, leB, leE, h]; rfl
  refine den_split (fun h => den_leaf (no ?_)) (fun h => den_split (fun h1 => den_leaf (no ?_)) (fun h1 => den_split (fun h2 => den_leaf (no ?_)) (fun h2 => ?_)))
  · have h : fOk z m x t fi = false := by simpa [BE.den, nth, vbool] using h
    simp [lOk, h]
  · have h1 : n < 0 := of_decide_eq_true h1
    have : ¬ 0 ≤ n := by omega
    simp [lOk, this]
  · have h2 : 65536 < n := of_decide_eq_true h2
    have : ¬ n ≤ 65536 := by omega
    simp [lOk, this]
  have hF : fOk z m x t fi = true := by simpa [BE.den, nth, vbool] using h
  have hn0 : 0 ≤ n := Int.not_lt.1 (of_decide_eq_false h1)
  have hn1 : n ≤ 65536 := Int.not_lt.1 (of_decide_eq_false h2)
  have hf := fOk_parts hF
  have ht := fOk_t hF
  have hz : 0 ≤ z ∧ z ≤ 4096 := by omega
  have hm := mvd_range (act := act) hf.2
  have k1 := mul_range hn0 hn1 (show 0 ≤ z + mvd m act by omega) (by omega)
  have k2 := mul_range hn0 hn1 hz.1 (by omega)
  have k3 := mul_range hn0 hn1 hm.1 (by omega)
  have key : lOk z m x t fi n act = true → ∀ (ε : List Value) (wx ws : World) (X : Nat → Prop) (k : VC), True := fun _ _ _ _ _ _ => trivial
  have yes : lOk z m x t fi n act = true → (leA z m x t fi n act = lenA z x (mvd m act) n ∧ leB z m x t fi n act = lenB x (mvd m act) n ∧ leE z m x t fi n act = 0) := fun hl => by simp [leA, leB, leE, hl]
  cases act with
  | true =>
    refine den_split_true rfl (den_split (fun h3 => den_leaf (no ?_)) (fun h3 => ?_))
    · have h3 : t = 0 := of_decide_eq_true h3
      simp [lOk, h3]
    · have h3 : ¬ t = 0 := of_decide_eq_false h3
      have hl : lOk z m x t fi n true = true := by unfold lOk; rw [hF, decide_eq_true hn0, decide_eq_true hn1, decide_eq_true (show 0 < t by omega)]; rfl
      obtain ⟨e1, e2, e3⟩ := yes hl
      rw [e1, e2, e3]
      cases x with
      | true =>
        refine den_split_true rfl (den_start1 fun _ _ => den_call_int (x := mvd m true) (fun w _ => c25 z m true t fi true w) rfl (fun _ _ _ _ => den_norm (by simp only [List.cons_append, List.nil_append]; rfl) (den_ob ?_ (den_ob ?_ (den_ob ?_ (den_ob ?_ (den_leaf rfl)))))))
        all_goals (refine decide_eq_true ?_; simp only [IE.den, nth, vint]; omega)
      | false =>
        refine den_split_false rfl (den_start1 fun _ _ => den_ob ?_ (den_ob ?_ (den_call_int (x := mvd m true) (fun w _ => c25 z m false t fi true w) rfl (fun _ _ _ _ => den_norm (by simp only [List.cons_append, List.nil_append]; rfl) (den_ob ?_ (den_ob ?_ (den_leaf rfl)))))))
        all_goals (refine decide_eq_true ?_; simp only [IE.den, nth, vint]; omega)
  | false =>
    have hl : lOk z m x t fi n false = true := by unfold lOk; rw [hF, decide_eq_true hn0, decide_eq_true hn1]; rfl
    obtain ⟨e1, e2, e3⟩ := yes hl
    rw [e1, e2, e3]
    cases x with
    | true =>
      refine den_split_false rfl (den_split_true rfl (den_start1 fun _ _ => den_call_int (x := mvd m false) (fun w _ => c25 z m true t fi false w) rfl (fun _ _ _ _ => den_norm (by simp only [List.cons_append, List.nil_append]; rfl) (den_ob ?_ (den_ob ?_ (den_ob ?_ (den_ob ?_ (den_leaf rfl))))))))
      all_goals (refine decide_eq_true ?_; simp only [IE.den, nth, vint]; omega)
    | false =>
      refine den_split_false rfl (den_split_false rfl (den_start1 fun _ _ => den_ob ?_ (den_ob ?_ (den_call_int (x := mvd m false) (fun w _ => c25 z m false t fi false w) rfl (fun _ _ _ _ => den_norm (by simp only [List.cons_append, List.nil_append]; rfl) (den_ob ?_ (den_ob ?_ (den_leaf rfl))))))))
      all_goals (refine decide_eq_true ?_; simp only [IE.den, nth, vint]; omega)
theorem leb (z m : Int) (x : Bool) (t : Int) (fi : Bool) (n : Int) (act : Bool) (a b no : Int) (h1 : leA z m x t fi n act = a) (h2 : leB z m x t fi n act = b) (h3 : leE z m x t fi n act = no) (w : World) :
    Gives Try.prog 23 [fmtV z m x t fi, .int .i64 n, .bool act, .int .i64 a, .int .i64 b, .int .i64 no] w (.bool true) :=
  (c23 z m x t fi n act a b no w).to (by rw [decide_eq_true h1, decide_eq_true h2, decide_eq_true h3]; rfl)
theorem le_no {z m : Int} {x : Bool} {t : Int} {fi : Bool} {n : Int} {act : Bool} (h : lOk z m x t fi n act = false) : leA z m x t fi n act = 0 ∧ leB z m x t fi n act = 0 ∧ leE z m x t fi n act = 2 := by simp [leA, leB, leE, h]
theorem le_yes {z m : Int} {x : Bool} {t : Int} {fi : Bool} {n : Int} {act : Bool} (h : lOk z m x t fi n act = true) : leA z m x t fi n act = lenA z x (mvd m act) n ∧ leB z m x t fi n act = lenB x (mvd m act) n ∧ leE z m x t fi n act = 0 := by simp [leA, leB, leE, h]
end Go.Proofs.Ytngemhmjpphpaaa
