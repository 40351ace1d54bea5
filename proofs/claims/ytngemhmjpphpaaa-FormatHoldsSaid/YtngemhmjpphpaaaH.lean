/- Comparison of lists of blocks; the law FormatJoins. No conditions beyond those that each theorem names. -/
import Derived.Test.YtngemhmjpphpaaaDA
import Derived.Test.YtngemhmjpphpaaaF
import Derived.Test.YtngemhmjpphpaaaTB
set_option maxRecDepth 100000
set_option maxHeartbeats 4000000
set_option linter.unusedVariables false
set_option linter.unusedSimpArgs false
namespace Go.Proofs.Ytngemhmjpphpaaa
open Go.Sx

theorem c24 (lo lo' : Nat) (s s' : Value) (LV LV' : List (Sl × Sl)) (L : List Bl) (w : World) (h : Blks lo w s LV L) (h' : Blks lo' w s' LV' L) (hm : L.length < 9223372036854775808) : Gives Try.prog 24 [s, s'] w (.bool true) := by
  obtain ⟨a, c, rfl⟩ := h.slice
  obtain ⟨a', c', rfl⟩ := h'.slice
  have hl := h.len
  have hl' := h'.len
  refine gives mix t24 rfl rfl (ε := [.slice a LV.length c, .slice a' LV'.length c']) ⟨⟨_, _, _, rfl⟩, ⟨_, _, _, rfl⟩, trivial⟩ (den_splitNot (fun he => ?_) (fun he => ?_))
  · exfalso
    simp only [BE.den, IE.den, nth, vlen] at he
    have := of_decide_eq_false he
    omega
  refine den_for LV.length (fun j w' => True) ⟨rfl, fun w _ => trivial⟩ ?_
  intro j w1 hj hI hk hfa
  refine den_norm (by simp only [List.cons_append, List.nil_append]; rfl) (den_splitLt (fun hlt => ?_) (fun hge => ?_))
  · have hlt' : j < LV.length := by simpa [IE.den, nth, vint, vlen] using hlt
    obtain ⟨p, q, hp, hq, g1, g2, n1, n2⟩ := h.pick hlt'
    obtain ⟨p', q', hp', hq', g1', g2', n1', n2'⟩ := h'.pick (j := j) (by omega)
    obtain rfl : q = q' := Option.some.inj (hq.symm.trans hq')
    refine den_start1 fun w2 h2 => ?_
    refine den_idxD (E := bvE) (L := LV) p j [p.1.v] rfl (by decide) rfl hp ⟨⟨_, _, _, rfl⟩, trivial⟩ (fun m v hv => by cases m with | zero => exact hv | succ m => simp at hv) (h.same h2.base).arr (fun ad had => by simp [BlkIn, nth, blkOf, vaddr]) (den_norm (by simp only [List.cons_append, List.nil_append]; rfl) ?_)
    refine den_str q.1 p.1.v u40 u5 u9 rfl (g1.same h2.base).1 (fun ad had _ => by simp [BlkIn, nth, blkOf, vaddr]) (fun v => rfl) (den_norm (by simp only [List.cons_append, List.nil_append]; rfl) ?_)
    refine den_idxD (E := bvE) (L := LV') p' j [p'.1.v] rfl (by decide) rfl hp' ⟨⟨_, _, _, rfl⟩, trivial⟩ (fun m v hv => by cases m with | zero => exact hv | succ m => simp at hv) (h'.same h2.base).arr (fun ad had => by simp [BlkIn, nth, blkOf, vaddr]) (den_norm (by simp only [List.cons_append, List.nil_append]; rfl) ?_)
    refine den_str q.1 p'.1.v u40 u5 u9 rfl (g1'.same h2.base).1 (fun ad had _ => by simp [BlkIn, nth, blkOf, vaddr]) (fun v => rfl) (den_norm (by simp only [List.cons_append, List.nil_append]; rfl) ?_)
    refine den_strNe q.1 q.1 rfl rfl (fun v => rfl) ?_
    rw [strEq_refl]
    refine den_norm (by simp only [List.cons_append, List.nil_append]; rfl) (den_split_false rfl ?_)
    refine den_idxD2 (E := bvE) (L := LV) p j [p.2.v] rfl (by decide) rfl hp ⟨⟨_, _, _, rfl⟩, trivial⟩ (fun m v hv => by cases m with | zero => exact hv | succ m => simp at hv) (h.same h2.base).arr (fun ad had => by simp [BlkIn, nth, blkOf, vaddr]) (den_norm (by simp only [List.cons_append, List.nil_append]; rfl) ?_)
    refine den_str q.2 p.2.v u40 u5 u9 rfl (g2.same h2.base).1 (fun ad had _ => by simp [BlkIn, nth, blkOf, vaddr]) (fun v => rfl) (den_norm (by simp only [List.cons_append, List.nil_append]; rfl) ?_)
    refine den_idxD2 (E := bvE) (L := LV') p' j [p'.2.v] rfl (by decide) rfl hp' ⟨⟨_, _, _, rfl⟩, trivial⟩ (fun m v hv => by cases m with | zero => exact hv | succ m => simp at hv) (h'.same h2.base).arr (fun ad had => by simp [BlkIn, nth, blkOf, vaddr]) (den_norm (by simp only [List.cons_append, List.nil_append]; rfl) ?_)
    refine den_str q.2 p'.2.v u40 u5 u9 rfl (g2'.same h2.base).1 (fun ad had _ => by simp [BlkIn, nth, blkOf, vaddr]) (fun v => rfl) (den_norm (by simp only [List.cons_append, List.nil_append]; rfl) ?_)
    refine den_strNe q.2 q.2 rfl rfl (fun v => rfl) ?_
    rw [strEq_refl]
    refine den_norm (by simp only [List.cons_append, List.nil_append]; rfl) (den_split_false rfl ?_)
    have hjm : (j : Int) < 9223372036854775807 := by omega
    exact den_ob64 (by simp only [IE.den, nth, vint]; omega) (den_next rfl hlt' fun w5 _ => trivial)
  · exact den_leaf_ne (by decide) (den_leaf rfl)

theorem Two.mono {lo lo' : Nat} {w : World} {d m : Value} {D M : List Int} (h : Two lo w d m D M) (hl : lo' ≤ lo) : Two lo' w d m D M :=
  ⟨h.hd, h.hm, fun g hg => Nat.le_trans hl (h.ld g hg), fun g hg => Nat.le_trans hl (h.lm g hg), h.ne, Nat.le_trans hl h.sz⟩
theorem JR.fits {lo : Nat} {z m : Int} {x : Bool} {t : Int} {fi act : Bool} {L : List Bl} {v : Value} {w : World} (h : JR lo z m x t fi act L v w) :
    ∃ a n c a' n' c', v = .tuple #[.slice a n c, .slice a' n' c', .int .i64 (if jOk z m x t fi act L then 0 else 2)] ∧ Two lo w (.slice a n c) (.slice a' n' c') (if jOk z m x t fi act L then jD x (mvd m act).toNat L else []) (if jOk z m x t fi act L then jM x (mvd m act).toNat L else []) := by
  obtain ⟨d, mm, rfl, hT⟩ := h
  obtain ⟨a, c, hd⟩ := hT.hd.slice
  obtain ⟨a', c', hm⟩ := hT.hm.slice
  exact ⟨a, _, c, a', _, c', by rw [← hd, ← hm], by rw [← hd, ← hm]; exact hT⟩

theorem c7 (z m : Int) (x : Bool) (t : Int) (fi act : Bool) (s : Value) (LV : List (Sl × Sl)) (L : List Bl) (w : World) (h : Blks 0 w s LV L) (hm : L.length < 9223372036854775808) :
    Gives Try.prog 7 [fmtV z m x t fi, .bool act, s] w (.bool true) := by
  obtain ⟨sa, sc, rfl⟩ := h.slice
  refine gives mix t7 rfl rfl (ε := [.int .i64 z, .int .i64 m, .bool x, .int .i64 t, .bool fi, .bool act, .slice sa LV.length sc]) ⟨⟨_, rfl⟩, ⟨_, rfl⟩, ⟨_, rfl⟩, ⟨_, rfl⟩, ⟨_, rfl⟩, ⟨_, rfl⟩, ⟨_, _, _, rfl⟩, trivial⟩ (den_blk fun b7 k7 _ _ => den_norm (by simp only [List.cons_append, List.nil_append]; rfl) ?_)
  have z7 : w.heap.size ≤ b7 := k7
  refine den_call_bool (b := fewB L) (fun w1 h1 => c27 _ LV L w1 (h.same h1.base) hm) rfl (fun w1 w2 h1 h2 => den_norm (by simp only [List.cons_append, List.nil_append]; rfl) (den_splitNot (fun hf => ?_) (fun hf => ?_)))
  · exact den_call_bool (b := true) (fun w1 h1 => c19 w1) rfl (fun w1 w2 h1 h2 => den_leaf rfl)
  have hfew : fewB L = true := by
    simpa [BE.den, nth, vbool] using hf
  refine den_callR (fun w1 l w2 => ∃ a n c a' n' c', l = [.slice a n c, .slice a' n' c', .int .i64 (if jOk z m x t fi act L then 0 else 2)] ∧ Two w.heap.size w2 (.slice a n c) (.slice a' n' c') (if jOk z m x t fi act L then jD x (mvd m act).toNat L else []) (if jOk z m x t fi act L then jM x (mvd m act).toNat L else [])) (fun w1 h1 => (c28 z m x t fi act _ LV L w1 (h.same h1.base) hfew).mono fun v w2 hJ => ?_) ?_
  · obtain ⟨a, n, c, a', n', c', rfl, hT⟩ := hJ.fits
    exact ⟨[.slice a n c, .slice a' n' c', .int .i64 (if jOk z m x t fi act L then 0 else 2)], ⟨⟨_, _, _, rfl⟩, ⟨_, _, _, rfl⟩, ⟨_, rfl⟩, trivial⟩, rfl, a, n, c, a', n', c', rfl, hT.mono h1.base.size⟩
  rintro w1 l w2 h1 _ ⟨a, n, c, a', n', c', rfl, hT2⟩ h12
  refine den_norm (by simp only [List.cons_append, List.nil_append]; rfl) ?_
  refine den_callR (fun w1 l w2 => ∃ a n c a' n' c', l = [.slice a n c, .slice a' n' c', .int .i64 (if jOk z m x t fi act L then 0 else 2)] ∧ Two w.heap.size w2 (.slice a n c) (.slice a' n' c') (if jOk z m x t fi act L then jD x (mvd m act).toNat L else []) (if jOk z m x t fi act L then jM x (mvd m act).toNat L else [])) (fun w3 h3 => (c29 z m x t fi act _ LV L w3 (h.same h3.base) hfew).mono fun v w4 hJ => ?_) ?_
  · obtain ⟨a, n, c, a', n', c', rfl, hT⟩ := hJ.fits
    exact ⟨[.slice a n c, .slice a' n' c', .int .i64 (if jOk z m x t fi act L then 0 else 2)], ⟨⟨_, _, _, rfl⟩, ⟨_, _, _, rfl⟩, ⟨_, rfl⟩, trivial⟩, rfl, a, n, c, a', n', c', rfl, hT.mono h3.base.size⟩
  rintro w3 l w4 h3 _ ⟨d, k, e, d', k', e', rfl, hT4⟩ h34
  have hT4' := (hT2.same (shown_same h3)).same h34
  generalize (if jOk z m x t fi act L then jD x (mvd m act).toNat L else []) = A at hT2 hT4 hT4'
  generalize (if jOk z m x t fi act L then jM x (mvd m act).toNat L else []) = B at hT2 hT4 hT4'
  generalize (if jOk z m x t fi act L then (0 : Int) else 2) = E
  refine den_norm (by simp only [List.cons_append, List.nil_append]; rfl) (den_start0 fun w5 h5 => den_str A (.slice a n c) u40 u5 u9 rfl (hT4'.same (shown_same h5)).hd.arr (fun ad had _ => by simp [BlkIn, nth, blkOf, vaddr]) (fun v => rfl) (den_norm (by simp only [List.cons_append, List.nil_append]; rfl) ?_))
  refine den_start0 fun w6 h6 => den_str A (.slice d k e) u40 u5 u9 rfl ((hT4.same (shown_same h5)).same (shown_same h6)).hd.arr (fun ad had _ => by simp [BlkIn, nth, blkOf, vaddr]) (fun v => rfl) (den_norm (by simp only [List.cons_append, List.nil_append]; rfl) ?_)
  refine den_start0 fun w7 h7 => den_strEq A A rfl rfl (fun v => rfl) ?_
  rw [strEq_refl]
  refine den_norm (by simp only [List.cons_append, List.nil_append]; rfl) (den_split_true rfl ?_)
  refine den_start0 fun w8 h8 => den_str B (.slice a' n' c') u40 u5 u9 rfl ((((hT4'.same (shown_same h5)).same (shown_same h6)).same (shown_same h7)).same (shown_same h8)).hm.arr (fun ad had _ => by simp [BlkIn, nth, blkOf, vaddr]) (fun v => rfl) (den_norm (by simp only [List.cons_append, List.nil_append]; rfl) ?_)
  refine den_start0 fun w9 h9 => den_str B (.slice d' k' e') u40 u5 u9 rfl (((((hT4.same (shown_same h5)).same (shown_same h6)).same (shown_same h7)).same (shown_same h8)).same (shown_same h9)).hm.arr (fun ad had _ => by simp [BlkIn, nth, blkOf, vaddr]) (fun v => rfl) (den_norm (by simp only [List.cons_append, List.nil_append]; rfl) ?_)
  refine den_start0 fun w10 h10 => den_strEq B B rfl rfl (fun v => rfl) ?_
  rw [strEq_refl]
  refine den_norm (by simp only [List.cons_append, List.nil_append]; rfl) (den_split_true rfl ?_)
  refine den_call_int (x := E) (fun w _ => c18 E w) rfl (fun _ _ _ _ => den_norm (by simp only [List.cons_append, List.nil_append]; rfl) (den_split_true (by simp [BE.den, IE.den, nth, vint]) ?_))
  exact den_call_bool (b := true) (fun w1 h1 => c19 w1) rfl (fun w1 w2 h1 h2 => den_leaf rfl)
end Go.Proofs.Ytngemhmjpphpaaa
