/- What the functions of the law FormatPlaces return, each for every argument that its theorem names. No conditions beyond those. -/
import Derived.Test.YtngemhmjpphpaaaA
import Derived.Test.YtngemhmjpphpaaaProg
import Derived.KernelRfl
set_option maxRecDepth 100000
set_option linter.unusedVariables false
set_option linter.unusedSimpArgs false
namespace Go.Proofs.Ytngemhmjpphpaaa
open Go.Sx

def lOk (z m : Int) (x : Bool) (t : Int) (fi : Bool) (n : Int) (act : Bool) : Bool := fOk z m x t fi && decide (0 ≤ n) && decide (n ≤ 65536) && (!act || decide (0 < t))
def mvd (m : Int) (act : Bool) : Int := if act = true ∧ m = 8 then 0 else m
theorem lOk_parts {z m : Int} {x : Bool} {t : Int} {fi : Bool} {n : Int} {act : Bool} (h : lOk z m x t fi n act = true) : fOk z m x t fi = true ∧ 0 ≤ n ∧ n ≤ 65536 ∧ (act = true → 0 < t) := by
  simp only [lOk, Bool.and_eq_true, Bool.or_eq_true, decide_eq_true_eq, Bool.not_eq_true'] at h
  refine ⟨h.1.1.1, h.1.1.2, h.1.2, fun ha => ?_⟩
  rcases h.2 with h | h
  · rw [ha] at h; cases h
  · exact h
theorem has4 (p q r s : Bool) : (!has [p, q, r, s] false) = (p && q && r && s) := by cases p <;> cases q <;> cases r <;> cases s <;> rfl
theorem lOk_all (z m : Int) (x : Bool) (t : Int) (fi : Bool) (n : Int) (act : Bool) : (!has [fOk z m x t fi, decide (0 ≤ n), decide (n ≤ 65536), (!act || decide (0 < t))] false) = lOk z m x t fi n act := has4 _ _ _ _
theorem c34b (s : Value) (p q r' u : Bool) (w : World) (r : Bool) (hs : Reads w s 1 4 [.bool p, .bool q, .bool r', .bool u]) (hr : (p && q && r' && u) = r) :
    Gives Try.prog 34 [s] w (.bool r) := by
  rw [← hr, ← has4]
  exact c34 s [p, q, r', u] w (by simp) hs
theorem c39ok (z m : Int) (x : Bool) (t : Int) (fi : Bool) (n : Int) (act : Bool) (h : lOk z m x t fi n act = true) (w : World) :
    Gives Try.prog 39 [fmtV z m x t fi, .int .i64 n, .bool act] w (.tuple #[.agg #[.int .i64 z, .int .i64 m, .bool x, .int .i64 t, .bool fi, .int .i64 (mvd m act)], .int .i64 0]) := by
  have hp := lOk_parts h
  have hb : (fOk z m x t fi && decide (0 ≤ n) && decide (n ≤ 65536) && true) = true := by simp [hp.1, hp.2.1, hp.2.2.1]
  refine gives mix t39 rfl rfl (ε := [.int .i64 z, .int .i64 m, .bool x, .int .i64 t, .bool fi, .int .i64 n, .bool act]) (fitsF _ _ _ _ _ ⟨⟨_, rfl⟩, ⟨_, rfl⟩, trivial⟩) ?_
  refine den_blk fun b _ _ _ => den_blk fun b2 _ _ _ => den_blk fun b3 _ _ _ => den_call_bool (fun w _ => c14 z m x t fi w) rfl (fun w1 w1' _ _ => ?_)
  cases act with
  | false =>
    refine den_split_true rfl (den_blk fun b4 _ _ _ => den_call_bool (b := true) (fun w h => c34b _ _ _ _ _ w true (HasBlk.reads h.facts.1 0 4 4 1 (by simp [denL])) hb) rfl (fun w2 w2' _ _ => ?_))
    refine den_split_false rfl (den_split_false rfl (den_leaf ?_))
    simp [denL, SV.den, IE.den, BE.den, nth, vint, vbool, mvd]
  | true =>
    have ht := hp.2.2.2 rfl
    have hb : (fOk z m x t fi && decide (0 ≤ n) && decide (n ≤ 65536) && decide (0 < t)) = true := by simp [hp.1, hp.2.1, hp.2.2.1, ht]
    refine den_split_false rfl (den_blk fun b4 _ _ _ => den_call_bool (b := true) (fun w h => c34b _ _ _ _ _ w true (HasBlk.reads h.facts.1 0 4 4 1 (by simp [denL])) hb) rfl (fun w2 w2' _ _ => ?_))
    refine den_split_false rfl (den_split_true rfl (den_split (fun h8 => den_leaf ?_) (fun h8 => den_leaf ?_)))
    · have h8 : m = 8 := by simpa [BE.den, IE.den, nth, vint] using h8
      simp [denL, SV.den, IE.den, BE.den, nth, vint, vbool, mvd, h8]
    · have h8 : ¬ m = 8 := by simpa [BE.den, IE.den, nth, vint] using h8
      simp [denL, SV.den, IE.den, BE.den, nth, vint, vbool, mvd, h8]
theorem c39no (z m : Int) (x : Bool) (t : Int) (fi : Bool) (n : Int) (act : Bool) (h : lOk z m x t fi n act = false) (w : World) :
    Gives Try.prog 39 [fmtV z m x t fi, .int .i64 n, .bool act] w (.tuple #[.agg #[.int .i64 0, .int .i64 0, .bool false, .int .i64 0, .bool false, .int .i64 0], .int .i64 2]) := by
  refine gives mix t39 rfl rfl (ε := [.int .i64 z, .int .i64 m, .bool x, .int .i64 t, .bool fi, .int .i64 n, .bool act]) (fitsF _ _ _ _ _ ⟨⟨_, rfl⟩, ⟨_, rfl⟩, trivial⟩) ?_
  refine den_blk fun b _ _ _ => den_blk fun b2 _ _ _ => den_blk fun b3 _ _ _ => den_call_bool (fun w _ => c14 z m x t fi w) rfl (fun w1 w1' _ _ => ?_)
  cases act with
  | false =>
    have hb : (fOk z m x t fi && decide (0 ≤ n) && decide (n ≤ 65536) && true) = false := by simpa [lOk] using h
    exact den_split_true rfl (den_blk fun b4 _ _ _ => den_call_bool (b := false) (fun w h => c34b _ _ _ _ _ w false (HasBlk.reads h.facts.1 0 4 4 1 (by simp [denL])) hb) rfl (fun w2 w2' _ _ => den_split_true rfl (den_leaf rfl)))
  | true =>
    have hb : (fOk z m x t fi && decide (0 ≤ n) && decide (n ≤ 65536) && decide (0 < t)) = false := by simpa [lOk] using h
    exact den_split_false rfl (den_blk fun b4 _ _ _ => den_call_bool (b := false) (fun w h => c34b _ _ _ _ _ w false (HasBlk.reads h.facts.1 0 4 4 1 (by simp [denL])) hb) rfl (fun w2 w2' _ _ => den_split_true rfl (den_leaf rfl)))
def lenA (z : Int) (x : Bool) (mv n : Int) : Int := if x = true then n * (z + mv) else n * z
def lenB (x : Bool) (mv n : Int) : Int := if x = true then 0 else n * mv
theorem mul_range {n a : Int} (h1 : 0 ≤ n) (h2 : n ≤ 65536) (h3 : 0 ≤ a) (h4 : a ≤ 4160) : 0 ≤ n * a ∧ n * a ≤ 272629760 := by
  refine ⟨Int.mul_nonneg h1 h3, ?_⟩
  have := Int.mul_le_mul h2 h4 h3 (by omega : (0 : Int) ≤ 65536)
  omega
theorem c40 (z m : Int) (x : Bool) (t : Int) (fi : Bool) (mv n : Int) (hz : 0 ≤ z ∧ z ≤ 4096) (hm : 0 ≤ mv ∧ mv ≤ 64) (hn : 0 ≤ n ∧ n ≤ 65536) (w : World) :
    Gives Try.prog 40 [.agg #[.int .i64 z, .int .i64 m, .bool x, .int .i64 t, .bool fi, .int .i64 mv], .int .i64 n] w (.tuple #[.int .i64 (lenA z x mv n), .int .i64 (lenB x mv n)]) := by
  have h1 := mul_range hn.1 hn.2 (show 0 ≤ z + mv by omega) (by omega)
  have h2 := mul_range hn.1 hn.2 hz.1 (by omega)
  have h3 := mul_range hn.1 hn.2 hm.1 (by omega)
  refine gives mix t40 rfl rfl (ε := [.int .i64 z, .int .i64 m, .bool x, .int .i64 t, .bool fi, .int .i64 mv, .int .i64 n]) (fitsF _ _ _ _ _ ⟨⟨_, rfl⟩, ⟨_, rfl⟩, trivial⟩) ?_
  cases x with
  | true =>
    refine den_blk fun b _ _ _ => den_split_true rfl (den_ob ?_ (den_ob ?_ (den_ob ?_ (den_ob ?_ (den_leaf rfl)))))
    all_goals (simp [BE.den, IE.den, nth, vint]; omega)
  | false =>
    refine den_blk fun b _ _ _ => den_split_false rfl (den_start1 fun w1 _ => den_ob ?_ (den_ob ?_ (den_ob ?_ (den_ob ?_ (den_leaf rfl)))))
    all_goals (simp [BE.den, IE.den, nth, vint]; omega)
theorem mvd_range {m : Int} {act : Bool} (h : m = 0 ∨ m = 8 ∨ m = 16 ∨ m = 64) : 0 ≤ mvd m act ∧ mvd m act ≤ 64 := by unfold mvd; split <;> omega
def leA (z m : Int) (x : Bool) (t : Int) (fi : Bool) (n : Int) (act : Bool) : Int := if lOk z m x t fi n act then lenA z x (mvd m act) n else 0
def leB (z m : Int) (x : Bool) (t : Int) (fi : Bool) (n : Int) (act : Bool) : Int := if lOk z m x t fi n act then lenB x (mvd m act) n else 0
def leE (z m : Int) (x : Bool) (t : Int) (fi : Bool) (n : Int) (act : Bool) : Int := if lOk z m x t fi n act then 0 else 2
theorem c46 (z m : Int) (x : Bool) (t : Int) (fi : Bool) (n : Int) (act : Bool) (w : World) :
    Gives Try.prog 46 [fmtV z m x t fi, .int .i64 n, .bool act] w (.tuple #[.int .i64 (leA z m x t fi n act), .int .i64 (leB z m x t fi n act), .int .i64 (leE z m x t fi n act)]) := by
  refine gives mix t46 rfl rfl (ε := [.int .i64 z, .int .i64 m, .bool x, .int .i64 t, .bool fi, .int .i64 n, .bool act]) (fitsF _ _ _ _ _ ⟨⟨_, rfl⟩, ⟨_, rfl⟩, trivial⟩) (den_blk fun b _ _ _ => ?_)
  cases h : lOk z m x t fi n act with
  | true =>
    have hp := lOk_parts h
    have hf := fOk_parts hp.1
    refine den_call [.int .i64 z, .int .i64 m, .bool x, .int .i64 t, .bool fi, .int .i64 (mvd m act), .int .i64 0] (fitsF _ _ _ _ _ ⟨⟨_, rfl⟩, ⟨_, rfl⟩, trivial⟩) rfl (fun w _ => c39ok z m x t fi n act h w) (fun w1 w1' _ _ => den_blk fun b2 _ _ _ => den_split_false rfl ?_)
    refine den_call [.int .i64 (lenA z x (mvd m act) n), .int .i64 (lenB x (mvd m act) n)] ⟨⟨_, rfl⟩, ⟨_, rfl⟩, trivial⟩ rfl (fun w _ => c40 z m x t fi (mvd m act) n (by omega) (mvd_range hf.2) ⟨hp.2.1, hp.2.2.1⟩ w) (fun w1 w1' _ _ => den_leaf ?_)
    simp [leA, leB, leE, h]; rfl
  | false =>
    refine den_call [.int .i64 0, .int .i64 0, .bool false, .int .i64 0, .bool false, .int .i64 0, .int .i64 2] (fitsF _ _ _ _ _ ⟨⟨_, rfl⟩, ⟨_, rfl⟩, trivial⟩) rfl (fun w _ => c39no z m x t fi n act h w) (fun w1 w1' _ _ => den_blk fun b2 _ _ _ => den_split_true rfl (den_leaf ?_))
    simp [leA, leB, leE, h]; rfl
theorem c23 (z m : Int) (x : Bool) (t : Int) (fi : Bool) (n : Int) (act : Bool) (a b no : Int) (w : World) :
    Gives Try.prog 23 [fmtV z m x t fi, .int .i64 n, .bool act, .int .i64 a, .int .i64 b, .int .i64 no] w (.bool (decide (leA z m x t fi n act = a) && decide (leB z m x t fi n act = b) && decide (leE z m x t fi n act = no))) := by
  refine gives mix t23 rfl rfl (ε := [.int .i64 z, .int .i64 m, .bool x, .int .i64 t, .bool fi, .int .i64 n, .bool act, .int .i64 a, .int .i64 b, .int .i64 no]) (fitsF _ _ _ _ _ ⟨⟨_, rfl⟩, ⟨_, rfl⟩, ⟨_, rfl⟩, ⟨_, rfl⟩, ⟨_, rfl⟩, trivial⟩) (den_blk fun b _ _ _ => ?_)
  refine den_call [.int .i64 (leA z m x t fi n act), .int .i64 (leB z m x t fi n act), .int .i64 (leE z m x t fi n act)] ⟨⟨_, rfl⟩, ⟨_, rfl⟩, ⟨_, rfl⟩, trivial⟩ rfl (fun w _ => c46 z m x t fi n act w) (fun w1 w1' _ _ => den_split (fun h1 => den_split (fun h2 => den_call_int (fun w _ => c18 _ w) rfl (fun w1 w1' _ _ => den_leaf ?_)) (fun h2 => den_leaf ?_)) (fun h1 => den_leaf ?_))
  all_goals simp_all [BE.den, IE.den, nth, vint, denL, SV.den]
def exE (len n : Int) : Int := if len < n then 4 else if n < len then 5 else 0
theorem c41 (a : Option Addr) (len c : Nat) (n : Int) (w : World) : Gives Try.prog 41 [.slice a len c, .int .i64 n] w (.int .i64 (exE len n)) := by
  refine gives mix t41 rfl rfl (ε := [.slice a len c, .int .i64 n]) ⟨⟨_, _, _, rfl⟩, ⟨_, rfl⟩, trivial⟩ (den_split (fun h1 => den_leaf ?_) (fun h1 => den_split (fun h2 => den_leaf ?_) (fun h2 => den_leaf ?_)))
  · have h1 : (len : Int) < n := of_decide_eq_true h1
    rw [show exE len n = 4 from if_pos h1]; rfl
  · have h1 : ¬ (len : Int) < n := of_decide_eq_false h1
    have h2 : n < (len : Int) := of_decide_eq_true h2
    rw [show exE len n = 5 from (if_neg h1).trans (if_pos h2)]; rfl
  · have h1 : ¬ (len : Int) < n := of_decide_eq_false h1
    have h2 : ¬ n < (len : Int) := of_decide_eq_false h2
    rw [show exE len n = 0 from (if_neg h1).trans (if_neg h2)]; rfl
end Go.Proofs.Ytngemhmjpphpaaa
