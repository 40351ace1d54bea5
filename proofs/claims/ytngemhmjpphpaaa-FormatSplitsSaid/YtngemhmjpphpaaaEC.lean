/- What Split returns, for every format and every buffers. No conditions beyond those that each theorem names. -/
import Derived.Test.YtngemhmjpphpaaaEB
set_option maxRecDepth 100000
set_option maxHeartbeats 2000000
set_option linter.unusedVariables false
set_option linter.unusedSimpArgs false
namespace Go.Proofs.Ytngemhmjpphpaaa
open Go.Sx

theorem given_old {w : World} {a : Option Addr} {n c : Nat} {D : List Int} (h : Given byteE w (.slice a n c) D) : Old w.heap.size w ⟨a, n, c⟩ D := ⟨h, fun ad had => h.2.2.2 ad had⟩
theorem exE_zero {A B : Int} (h : exE A B = 0) : A = B := by
  unfold exE at h
  split at h
  · omega
  · split at h <;> omega

theorem c21 (z m : Int) (x : Bool) (t : Int) (fi : Bool) (n : Int) (act : Bool) (sd sm : Value) (D M : List Int) (w : World) (hd : Given byteE w sd D) (hm : Given byteE w sm M) :
    GivesR Try.prog 21 [fmtV z m x t fi, .int .i64 n, .bool act, sd, sm] w (fun v w' => SR w.heap.size z m x t fi n act D M v w') := by
  obtain ⟨da, dc, rfl⟩ := hd.1.slice
  obtain ⟨ma, mc, rfl⟩ := hm.1.slice
  refine givesR mix t21 rfl rfl (ε := [.int .i64 z, .int .i64 m, .bool x, .int .i64 t, .bool fi, .int .i64 n, .bool act, .slice da D.length dc, .slice ma M.length mc]) ⟨⟨_, rfl⟩, ⟨_, rfl⟩, ⟨_, rfl⟩, ⟨_, rfl⟩, ⟨_, rfl⟩, ⟨_, rfl⟩, ⟨_, rfl⟩, ⟨_, _, _, rfl⟩, ⟨_, _, _, rfl⟩, trivial⟩ (den_blk fun b9 k9 _ _ => den_norm (by simp only [List.cons_append, List.nil_append]; rfl) ?_)
  have z9 : w.heap.size ≤ b9 := k9
  cases h : lOk z m x t fi n act with
  | false =>
    have he : spE z m x t fi n act D.length M.length = 2 := by simp [spE, h]
    refine den_call [.int .i64 0, .int .i64 0, .bool false, .int .i64 0, .bool false, .int .i64 0, .int .i64 2] ⟨⟨_, rfl⟩, ⟨_, rfl⟩, ⟨_, rfl⟩, ⟨_, rfl⟩, ⟨_, rfl⟩, ⟨_, rfl⟩, ⟨_, rfl⟩, trivial⟩ rfl (fun w1 _ => c39no z m x t fi n act h w1) (fun w1 w1' _ _ => den_norm (by simp only [List.cons_append, List.nil_append]; rfl) (den_blk fun b2 _ _ _ => den_split_true rfl (den_leafR _ rfl fun w2 _ => ?_)))
    exact sr_no (by rw [he]; decide) 2 he.symm
  | true =>
  have hp := lOk_parts h
  have hf := fOk_parts hp.1
  have hmr := mvd_range (act := act) hf.2
  have he : spE z m x t fi n act D.length M.length = (if exE D.length (lenA z x (mvd m act) n) = 0 then exE M.length (lenB x (mvd m act) n) else exE D.length (lenA z x (mvd m act) n)) := by simp [spE, h]
  refine den_call [.int .i64 z, .int .i64 m, .bool x, .int .i64 t, .bool fi, .int .i64 (mvd m act), .int .i64 0] ⟨⟨_, rfl⟩, ⟨_, rfl⟩, ⟨_, rfl⟩, ⟨_, rfl⟩, ⟨_, rfl⟩, ⟨_, rfl⟩, ⟨_, rfl⟩, trivial⟩ rfl (fun w1 _ => c39ok z m x t fi n act h w1) (fun w1 w2 h1 h2 => den_norm (by simp only [List.cons_append, List.nil_append]; rfl) (den_blk fun b17 k17 _ k170 => den_norm (by simp only [List.cons_append, List.nil_append]; rfl) (den_split_false rfl ?_)))
  have z17 : w.heap.size ≤ b17 := k170
  refine den_call [.int .i64 (lenA z x (mvd m act) n), .int .i64 (lenB x (mvd m act) n)] ⟨⟨_, rfl⟩, ⟨_, rfl⟩, trivial⟩ rfl (fun w3 _ => c40 z m x t fi (mvd m act) n (by omega) hmr ⟨hp.2.1, hp.2.2.1⟩ w3) (fun w3 w4 h3 h4 => den_norm (by simp only [List.cons_append, List.nil_append]; rfl) ?_)
  refine den_call_int (x := exE D.length (lenA z x (mvd m act) n)) (fun w5 _ => c41 _ _ _ _ w5) rfl (fun w5 w6 h5 h6 => den_norm (by simp only [List.cons_append, List.nil_append]; rfl) (den_splitNot (fun e1 => ?_) (fun e1 => ?_)))
  · have e1' : exE D.length (lenA z x (mvd m act) n) ≠ 0 := by
      simp only [BE.den, IE.den, nth, vint] at e1
      exact of_decide_eq_false e1
    rw [if_neg e1'] at he
    exact den_leafR _ rfl fun w7 _ => sr_no (by rw [he]; exact e1') _ he.symm
  have e1' : exE D.length (lenA z x (mvd m act) n) = 0 := by
    simp only [BE.den, IE.den, nth, vint] at e1
    exact of_decide_eq_true e1
  rw [if_pos e1'] at he
  refine den_call_int (x := exE M.length (lenB x (mvd m act) n)) (fun w7 _ => c41 _ _ _ _ w7) rfl (fun w7 w8 h7 h8 => den_norm (by simp only [List.cons_append, List.nil_append]; rfl) (den_splitNot (fun e2 => ?_) (fun e2 => ?_)))
  · have e2' : exE M.length (lenB x (mvd m act) n) ≠ 0 := by
      simp only [BE.den, IE.den, nth, vint] at e2
      exact of_decide_eq_false e2
    exact den_leafR _ rfl fun w9 _ => sr_no (by rw [he]; exact e2') _ he.symm
  have e2' : exE M.length (lenB x (mvd m act) n) = 0 := by
    simp only [BE.den, IE.den, nth, vint] at e2
    exact of_decide_eq_true e2
  rw [e2'] at he
  have hA := exE_zero e1'
  have hB := exE_zero e2'
  clear e1 e2
  -- the numbers
  obtain ⟨nn, rfl⟩ : ∃ k : Nat, n = k := ⟨n.toNat, by omega⟩
  obtain ⟨zz, rfl⟩ : ∃ k : Nat, z = k := ⟨z.toNat, by omega⟩
  obtain ⟨mm, rfl⟩ : ∃ k : Nat, m = k := ⟨m.toNat, by omega⟩
  generalize hmv : mvd (mm : Int) act = mv0 at *
  obtain ⟨mv, rfl⟩ : ∃ k : Nat, mv0 = k := ⟨mv0.toNat, by omega⟩
  have hmvm : mv ≤ mm := by
    have : mvd (mm : Int) act ≤ mm := by unfold mvd; split <;> omega
    omega
  have hspl : splL zz mm x t fi nn act D M = (List.range nn).map (blkAt zz mm mv x D M) := by
    unfold splL
    rw [if_pos he, hmv]
    simp
  refine den_callR (fun w9 l w10 => ∃ b, l = [.func (.func 53) #[] #[pt b]] ∧ w9.heap.size ≤ b ∧ HasBlk w10 (pt b) [.slice da D.length dc]) (fun w9 h9 => ?_) (fun w9 l w10 h9 hfl hR h910 => ?_)
  · refine (c42 _ w9 ⟨_, _, _, rfl⟩).mono fun v w' ⟨b, hb, hv, hh⟩ => ⟨[v], ?_, rfl, b, by rw [hv], hb, hh⟩
    subst hv
    exact ⟨rfl, trivial⟩
  obtain ⟨pd, rfl, hpd, hbd⟩ := hR
  refine den_norm (by simp only [List.cons_append, List.nil_append]; rfl) ?_
  refine den_callR (fun w11 l w12 => ∃ b, l = [.func (.func 53) #[] #[pt b]] ∧ w11.heap.size ≤ b ∧ HasBlk w12 (pt b) [.slice ma M.length mc]) (fun w11 h11 => ?_) (fun w11 l w12 h11 hfl hR h1112 => ?_)
  · refine (c42 _ w11 ⟨_, _, _, rfl⟩).mono fun v w' ⟨b, hb, hv, hh⟩ => ⟨[v], ?_, rfl, b, by rw [hv], hb, hh⟩
    subst hv
    exact ⟨rfl, trivial⟩
  obtain ⟨pm, rfl, hpm, hbm⟩ := hR
  have z9w : w.heap.size ≤ w9.heap.size := h9.base.size
  have z11w : w10.heap.size ≤ w11.heap.size := h11.kept.size
  have lpd : pd < w10.heap.size := hbd.pts.lt (by simp) pd rfl
  have lpm : pm < w12.heap.size := hbm.pts.lt (by simp) pm rfl
  have l17 : b17 < w9.heap.size := h9.lt (i := 17) (by simp [keys]) rfl
  have l9 : b9 < w9.heap.size := h9.lt (i := 9) (by simp [keys]) rfl
  have hbd12 : HasBlk w12 (pt pd) [.slice da D.length dc] := by
    obtain ⟨b, ty, e, hh⟩ := hbd
    cases e
    exact ⟨pd, ty, rfl, (h1112.block pd (Nat.lt_of_lt_of_le lpd z11w) (fun h => h)).trans (((shown_same h11).block pd lpd (fun h => h)).trans hh)⟩
  have z1112 : w11.heap.size ≤ w12.heap.size := h1112.size
  refine den_norm (by simp only [List.cons_append, List.nil_append]; rfl) (den_blk fun b24 k24 _ k240 => den_blk fun b25 k25 _ k250 => den_norm (by simp only [List.cons_append, List.nil_append]; rfl) ?_)
  have z24 : w.heap.size ≤ b24 := k240
  have z25 : w.heap.size ≤ b25 := k250
  refine den_cut (fun ls w' => ls = [.func (.func 53) #[] #[pt (if x then pd else pm)]] ∧ HasBlk w' (pt pd) [.slice da D.length dc] ∧ HasBlk w' (pt pm) [.slice ma M.length mc] ∧ pd ≠ b25 ∧ pm ≠ b25 ∧ pd ≠ b24 ∧ pm ≠ b24) ?_ ?_
  · have n1 : pd ≠ b25 ∧ pm ≠ b25 ∧ pd ≠ b24 ∧ pm ≠ b24 := by
      refine ⟨?_, ?_, ?_, ?_⟩ <;> omega
    have keepd : ∀ {p : Nat} {l : List Value} {e : List Value} {fs : Facts} {w13 : World}, Shown (G0 Try.prog w) e [25, 24] fs w12 w13 → HasBlk w12 (pt p) l → (∀ b, BlkIn e [25, 24] b → b = b25 ∨ b = b24) → p ≠ b25 → p ≠ b24 → HasBlk w13 (pt p) l := fun h13 hh hin q1 q2 => by
      obtain ⟨b, ty, e', hh⟩ := hh
      cases e'
      exact ⟨_, ty, rfl, (h13.kept.block _ (Array.getElem?_eq_some_iff.1 hh).1 (fun hb => by rcases hin _ hb with e | e; exact q1 e; exact q2 e)).trans hh⟩
    refine den_split (fun hx => ?_) (fun hx => ?_)
    · have hx' : x = true := hx
      subst hx'
      exact den_leaf_eq fun w13 h13 => ⟨rfl, keepd h13 hbd12 (fun b hb => by simp [BlkIn, nth, blkOf, vaddr] at hb; omega) n1.1 n1.2.2.1, keepd h13 hbm (fun b hb => by simp [BlkIn, nth, blkOf, vaddr] at hb; omega) n1.2.1 n1.2.2.2, n1⟩
    · have hx' : x = false := hx
      subst hx'
      exact den_leaf_eq fun w13 h13 => ⟨rfl, keepd h13 hbd12 (fun b hb => by simp [BlkIn, nth, blkOf, vaddr] at hb; omega) n1.1 n1.2.2.1, keepd h13 hbm (fun b hb => by simp [BlkIn, nth, blkOf, vaddr] at hb; omega) n1.2.1 n1.2.2.2, n1⟩
  rintro l w13 hf13 ⟨rfl, hbd13, hbm13, nd25, nm25, nd24, nm24⟩ hk13 hfa13
  refine den_norm (by simp only [List.cons_append, List.nil_append]; rfl) ?_
  have npd17 : pd ≠ b17 := by omega
  have npm17 : pm ≠ b17 := by omega
  have nepm : pd ≠ pm := by omega
  have bnd : ∀ i : Int, i = nn → 0 ≤ i ∧ i ≤ 65536 := fun i hi => by omega
  refine den_callM (fun _ b => b = pd ∨ b = pm) (fun w14 l w15 => ∃ s LV, l = [s] ∧ Blks w.heap.size w15 s LV ((List.range nn).map (blkAt zz mm mv x D M))) (fun w14 h14 b hb hlt => ⟨fun hd => (by cases hd), fun hlt2 => absurd (show b < w.heap.size from hlt2) (by rcases hb with rfl | rfl <;> omega), fun hin => ?_, fun hx => (by cases hx)⟩) (fun w14 h14 => ?_) (fun w14 l w15 h14 hfl hR hk15 => ?_)
  · simp [BlkIn, nth, blkOf, vaddr] at hin
    omega
  · have hbd14 : HasBlk w14 (pt pd) [.slice da D.length dc] := by
      obtain ⟨b, ty, e, hh⟩ := hbd13
      cases e
      exact ⟨pd, ty, rfl, ((shown_same h14).block pd (Array.getElem?_eq_some_iff.1 hh).1 (fun h => h)).trans hh⟩
    have hbm14 : HasBlk w14 (pt pm) [.slice ma M.length mc] := by
      obtain ⟨b, ty, e, hh⟩ := hbm13
      cases e
      exact ⟨pm, ty, rfl, ((shown_same h14).block pm (Array.getElem?_eq_some_iff.1 hh).1 (fun h => h)).trans hh⟩
    have f25 : HasBlk w14 (pt b25) _ := h14.facts.1
    have f24 : HasBlk w14 (pt b24) _ := h14.facts.2.1
    have f17 : HasBlk w14 (pt b17) _ := h14.facts.2.2.1
    have g25 := f25.pts.lt (by simp [denL]) b25 rfl
    have g24 := f24.pts.lt (by simp [denL]) b24 rfl
    have g17 := f17.pts.lt (by simp [denL]) b17 rfl
    have gpd := hbd14.pts.lt (by simp) pd rfl
    have gpm := hbm14.pts.lt (by simp) pm rfl
    have oldD : Old w.heap.size w14 ⟨da, D.length, dc⟩ D := (given_old hd).same h14.base
    have oldM : Old w.heap.size w14 ⟨ma, M.length, mc⟩ M := (given_old hm).same h14.base
    have srcD : Src w.heap.size pd w14 D := ⟨⟨da, D.length, dc⟩, hbd14, oldD⟩
    have srcM : Src w.heap.size pm w14 M := ⟨⟨ma, M.length, mc⟩, hbm14, oldM⟩
    cases x with
    | true =>
      have hlenD : D.length = nn * (zz + mv) := by
        have : lenA (zz : Int) true (mv : Int) (nn : Int) = ((nn * (zz + mv) : Nat) : Int) := by simp [lenA]
        rw [this] at hA
        exact_mod_cast hA
      have := c43e nn zz mm mv true t fi w.heap.size b24 b17 b25 pd D M w14 (by omega) (by omega) (by omega) hmvm hlenD ⟨f24.pts, f17.pts, f25.pts⟩ ⟨g24, g17, g25⟩ srcD (by omega) ⟨gpd, nd24, npd17, nd25⟩ rfl
      refine Runs.mono (R := fun v w' => ∃ LV, BlksNew w14.heap.size w' v LV ((List.range nn).map (blkAt zz mm mv true D M))) (M := fun b => b = pd) (by simpa [denL, SV.den, IE.den, nth, vint, vaddr, addO, addr_add] using this) (fun v w' ⟨LV, hn⟩ _ => ?_) (fun _ _ h => .inl h)
      obtain ⟨va, vc, hv⟩ := hn.mine.slice
      have hz := h14.base.size
      have hB := hn.blks
      exact ⟨[v], ⟨⟨_, _, _, hv⟩, trivial⟩, rfl, ⟨v, LV, rfl, ⟨hB.arr, hB.len, fun ad had => Nat.le_trans hz (hB.at_ ad had), fun i p q hp hq => by
        obtain ⟨q1, q2, q3, q4⟩ := hB.each i p q hp hq
        exact ⟨q1, q2, fun ad had => Nat.le_trans hz (q3 ad had), fun ad had => Nat.le_trans hz (q4 ad had)⟩⟩⟩, trivial⟩
    | false =>
      have hlenD : D.length = nn * zz := by
        have : lenA (zz : Int) false (mv : Int) (nn : Int) = ((nn * zz : Nat) : Int) := by simp [lenA]
        rw [this] at hA
        exact_mod_cast hA
      have hlenM : M.length = nn * mv := by
        have : lenB false (mv : Int) (nn : Int) = ((nn * mv : Nat) : Int) := by simp [lenB]
        rw [this] at hB
        exact_mod_cast hB
      have := c43s nn zz mm mv false t fi w.heap.size b24 b17 b25 pd pm D M w14 (by omega) (by omega) (by omega) hmvm hlenD hlenM ⟨f24.pts, f17.pts, f25.pts⟩ ⟨g24, g17, g25⟩ srcD srcM ⟨by omega, by omega⟩ ⟨gpd, nd24, npd17, nd25⟩ ⟨gpm, nm24, npm17, nm25⟩ nepm rfl
      refine Runs.mono (R := fun v w' => ∃ LV, BlksNew w14.heap.size w' v LV ((List.range nn).map (blkAt zz mm mv false D M))) (M := fun b => b = pd ∨ b = pm) (by simpa [denL, SV.den, IE.den, nth, vint, vaddr, addO, addr_add] using this) (fun v w' ⟨LV, hn⟩ _ => ?_) (fun _ _ h => h)
      obtain ⟨va, vc, hv⟩ := hn.mine.slice
      have hz := h14.base.size
      have hB := hn.blks
      exact ⟨[v], ⟨⟨_, _, _, hv⟩, trivial⟩, rfl, ⟨v, LV, rfl, ⟨hB.arr, hB.len, fun ad had => Nat.le_trans hz (hB.at_ ad had), fun i p q hp hq => by
        obtain ⟨q1, q2, q3, q4⟩ := hB.each i p q hp hq
        exact ⟨q1, q2, fun ad had => Nat.le_trans hz (q3 ad had), fun ad had => Nat.le_trans hz (q4 ad had)⟩⟩⟩, trivial⟩
  obtain ⟨s, LV, rfl, hB⟩ := hR
  refine den_norm (by simp only [List.cons_append, List.nil_append]; rfl) (den_leafR _ rfl fun w16 h16 => ⟨s, LV, by simp [SV.den, denL, IE.den, BE.den, nth, vint, vbool, vaddr, addO, addr_add, he], ?_⟩)
  rw [hspl]
  exact hB.same (shown_same h16)
end Go.Proofs.Ytngemhmjpphpaaa
