/- A pool that equals its specification is found so. No conditions beyond those that each theorem names. -/
import Derived.Test.YtdinjabnfjoojaaI
set_option maxRecDepth 100000
set_option maxHeartbeats 1000000
set_option linter.unusedVariables false
set_option linter.unusedSimpArgs false
namespace Go.Proofs.Ytdinjabnfjoojaa
open Go.Sx

theorem cn_none {L : List Bk} (hok : OkL L) {s : Int} (h : ¬ (1 ≤ s ∧ s ≤ 4)) : cn L s = 0 := by
  unfold cn
  rw [List.filter_eq_nil_iff.2]
  · rfl
  · intro x hx
    have := hok.st x hx
    simp only [isSt, decide_eq_true_eq]
    omega
theorem of_len {L : List Bk} (hok : OkL L) (s : Int) : ((ofN s L L.length).length : Int) = cntS L s := by
  rw [ofN_length (Nat.le_refl _)]
  have : (cntTo s L L.length : Int) = cn L s := by simp [cntTo, cn]
  rw [this]
  unfold cntS
  split
  · rfl
  · exact cn_none hok ‹_›

theorem c16 (b : Nat) (s t : Value) (L : List Bk) (w : World) (h : Pair w b s t L) : Gives Try.prog 16 [pt b, t] w (.bool true) := by
  refine Runs.gives ?_
  obtain ⟨at_, ct, rfl⟩ := h.ref.1.slice
  have hlen := h.ok.len
  have ht := h.ref.1
  have h0 := runs mix t16 rfl rfl (ε := [pt b, .slice at_ L.length ct]) (w := w) (M := fun _ => False) (R := fun v _ => v = .bool true) ⟨⟨_, rfl⟩, ⟨_, _, _, rfl⟩, trivial⟩ trivial (by simp [keys]) (by simp [keys]) (by simp [keys]) ?_
  · simpa [SV.den, denL, IE.den, BE.den, nth, vint, vbool, vaddr, addO, addr_add] using h0
  refine den_blk fun b2 k2 _ k20 => den_blk fun b3 k3 _ k30 => den_norm (by simp only [List.cons_append, List.nil_append]; rfl) ?_
  have z2 : w.heap.size ≤ b2 := k20
  have z3 : w.heap.size ≤ b3 := k30
  refine den_loop (fun ls _ => ∃ j : Nat, ls = [.int .i64 ((j : Int) - 1)] ∧ j ≤ L.length + 2) (fun ls _ => L.length + 2 - (vint (nth ls 0) + 1).toNat) (fun w1 h1 => ⟨0, rfl, by omega⟩) ?_
  rintro w1 l w2 h1 hf ⟨j, rfl, hj⟩ hk hfa
  refine den_norm (by simp only [List.cons_append, List.nil_append]; rfl) (den_splitLe (fun hle => ?_) (fun hgt => ?_))
  · have hle' : (j : Int) - 1 ≤ L.length := hle
    refine den_start1 fun w3 h3 => ?_
    refine den_call_int (x := (bkAt L ((j : Int) - 1)).st) (fun w4 h4 => c24 (pt b) L _ w4 (h.ord.r.same h4.base)) rfl fun w4 w5 h4 h5 => den_norm (by simp only [List.cons_append, List.nil_append]; rfl) ?_
    refine den_call [.int .i64 (bkAt L ((j : Int) - 1)).st, .int .i64 (bkAt L ((j : Int) - 1)).er] ⟨⟨_, rfl⟩, ⟨_, rfl⟩, trivial⟩ rfl (fun w6 h6 => c44 _ L _ w6 (ht.same h6.base)) fun w6 w7 h6 h7 => den_norm (by simp only [List.cons_append, List.nil_append]; rfl) (den_splitNot (fun e => ?_) (fun _ => ?_))
    · simp [BE.den, IE.den, nth, vint] at e
    refine den_call_int (x := (bkAt L ((j : Int) - 1)).er) (fun w4 h4 => c25 (pt b) L _ w4 (h.ord.r.same h4.base)) rfl fun w8 w9 h8 h9 => den_norm (by simp only [List.cons_append, List.nil_append]; rfl) ?_
    refine den_call [.int .i64 (bkAt L ((j : Int) - 1)).st, .int .i64 (bkAt L ((j : Int) - 1)).er] ⟨⟨_, rfl⟩, ⟨_, rfl⟩, trivial⟩ rfl (fun w6 h6 => c44 _ L _ w6 (ht.same h6.base)) fun w10 w11 h10 h11 => den_norm (by simp only [List.cons_append, List.nil_append]; rfl) (den_splitNot (fun e => ?_) (fun _ => ?_))
    · simp [BE.den, IE.den, nth, vint] at e
    refine den_ob64 (by simp only [IE.den, nth, vint]; omega) (den_leaf' fun w12 h12 => (if_pos rfl).mpr ⟨⟨j + 1, by simp [SV.den, denL, IE.den, BE.den, nth, vint, vbool, vaddr, addO, addr_add], by omega⟩, ?_⟩)
    simp [SV.den, denL, IE.den, BE.den, nth, vint, vbool, vaddr, addO, addr_add]
    omega
  refine den_loop (fun ls _ => ∃ j : Nat, ls = [.int .i64 j] ∧ j ≤ 6) (fun ls _ => 6 - (vint (nth ls 0)).toNat) (fun w1 h1 => ⟨0, rfl, by omega⟩) ?_
  rintro w3 l w4 h3 hf ⟨st, rfl, hst⟩ hk4 hfa4
  refine den_norm (by simp only [List.cons_append, List.nil_append]; rfl) (den_splitLe (fun hle => ?_) (fun hgt5 => ?_))
  · have hle' : (st : Int) ≤ 5 := hle
    refine den_callR (fun w l w' => ∃ v, l = [v] ∧ Mine intE 3 w' v (ofN st L L.length) ∧ ∀ g, v.ownBlock = some g → w.heap.size ≤ g) (fun w5 h5 => ?_) (fun w5 l w6 h5 hf hR hs56 => ?_)
    · refine (c18 _ L st w5 (ht.same h5.base) (by omega)).mono fun v w' hv => ?_
      obtain ⟨av, cv, hv'⟩ := hv.1.slice
      exact ⟨[v], ⟨⟨_, _, _, hv'⟩, trivial⟩, rfl, v, rfl, hv⟩
    obtain ⟨v6, rfl, hv6, hg6⟩ := hR
    have l2 := h5.lt (i := 2) (b := b2) (by simp [keys]) rfl
    have l3 := h5.lt (i := 3) (b := b3) (by simp [keys]) rfl
    have z5 : w.heap.size ≤ w5.heap.size := h5.base.size
    obtain ⟨a6, c6, e6⟩ := hv6.slice
    refine den_norm (by simp only [List.cons_append, List.nil_append]; rfl) (den_blk fun b7 k7 _ k70 => den_norm (by simp only [List.cons_append, List.nil_append]; rfl) ?_)
    have z7 : w.heap.size ≤ b7 := k70
    have g6lt : ∀ g, v6.ownBlock = some g → w5.heap.size ≤ g ∧ g < w6.heap.size := fun g hg => ⟨hg6 g hg, hv6.lt hg⟩
    have hv7 : ∀ {w7 : World} {fs : Facts} {ε : List Value}, Shown (GM Try.prog w (fun _ => False) true) ε [7] fs w6 w7 → nth ε 7 = pt b7 → Mine intE 3 w7 v6 (ofN st L L.length) := fun h7 hn => hv6.kept h7.kept fun g hg hin => by
      have := g6lt g hg
      simp [BlkIn, hn, blkOf, vaddr] at hin
      omega
    refine den_callR (fun w l w' => ∃ v, l = [v] ∧ SeqAt Try.prog w.heap.size w'.heap.size w' v ((eachF st 0 L).map fun x => (yvals Try.prog [3, 3] x).toArray)) (fun w7 h7 => ?_) (fun w7 l w8 h7 hf hR hs78 => ?_)
    · refine (c17 (pt b) L st w7 (h.ord.r.same h7.base) h.ok.ne (by omega)).mono fun v w' hv => ?_
      obtain ⟨g, caps, Ft, rfl, h2⟩ := hv.ex
      exact ⟨[.func (.func g) #[] caps], ⟨rfl, trivial⟩, rfl, _, rfl, hv⟩
    obtain ⟨v, rfl, hv⟩ := hR
    have l7 := h7.lt (i := 7) (b := b7) (by simp [keys]) rfl
    have m8 := (hv7 h7 rfl).same hs78
    have z67 : w6.heap.size ≤ w7.heap.size := h7.kept.size
    have z56 : w5.heap.size ≤ w6.heap.size := hs56.size
    refine den_norm (by simp only [List.cons_append, List.nil_append]; rfl) (den_start1 fun w9 h9 => ?_)
    refine den_call_int (x := cntS L st) (fun w10 h10 => c26 b s L st w10 (h.ord.same h10.base) h.ok.ne) rfl fun w10 w11 h10 h11 => den_norm (by simp only [List.cons_append, List.nil_append]; rfl) (den_splitNot (fun e => ?_) (fun _ => ?_))
    · have := of_len h.ok st
      simp [BE.den, IE.den, nth, vint, e6, vlen, this] at e
    have s11 := ((shown_same h9).trans (shown_same h10)).trans h11
    refine den_split_false ?_ (den_blk fun b10 k10 _ k100 => den_norm (by simp only [List.cons_append, List.nil_append]; rfl) ?_)
    · obtain ⟨g, caps, Ft, rfl, h2⟩ := hv.ex
      rfl
    have z11 : w8.heap.size ≤ w11.heap.size := s11.size
    have z78 : w7.heap.size ≤ w8.heap.size := hs78.size
    have hvs := hv.kept s11 (fun _ _ _ _ h => h)
    have m11 := m8.same s11
    refine den_range (eachF st 0 L) (fun k l wx => l = [.int .i64 k] ∧ Mine intE 3 wx v6 (ofN st L L.length)) w7.heap.size w8.heap.size ?_ ?_ ?_ (fun w12 h12 => ⟨rfl, m11.same (shown_new h12 fun y hy => by simp [BlkIn, nth, blkOf, vaddr] at hy; omega)⟩) ?_ ?_
    · intro x hx
      obtain ⟨i, hi⟩ := List.getElem?_of_mem hx
      obtain ⟨j, y, _, _, _, rfl⟩ := eachF_inv hi
      exact ⟨⟨_, rfl⟩, ⟨_, rfl⟩, trivial⟩
    · intro y hy
      simp [BlkIn, nth, blkOf, vaddr] at hy
      omega
    · intro w12 h12
      exact hvs.kept (shown_new h12 fun y hy => by simp [BlkIn, nth, blkOf, vaddr] at hy; omega) fun b _ _ _ h => h
    · rintro w12 Ft h12 k x hx l hl w0 w' ⟨rfl, hm0⟩ hq hk' hfa' hFt
      obtain ⟨i, y, hy, hys, hci, rfl⟩ := eachF_inv hx
      have hi := (List.getElem?_eq_some_iff.1 hy).1
      have hm' := hm0.quiet hq
      have hof : (ofN st L L.length)[k]? = some (i : Int) := by rw [← hci]; exact ofN_get (Nat.le_refl _) hi hy hys
      have hkl := (List.getElem?_eq_some_iff.1 hof).1
      have ht' : Arr refE w' (.slice at_ L.length ct) L := ht.same hk'
      subst e6
      refine den_norm (by simp only [List.cons_append, List.nil_append]; rfl) (den_splitLe (fun e => ?_) (fun e => ?_))
      · have : ((ofN st L L.length).length : Int) ≤ k := e
        omega
      refine den_idx2 (E := intE) (L := ofN st L L.length) (i : Int) k [.int .i64 i] hm'.arr rfl (by decide) rfl hof ⟨⟨_, rfl⟩, trivial⟩ (whole _) (fun w h => hm'.arr.same (shown_same h)) (fun _ _ => by simp [BlkIn]) (fun w13 h13 => den_norm (by simp only [List.cons_append, List.nil_append]; rfl) (den_splitNot (fun e => ?_) (fun _ => ?_)))
      · simp [BE.den, IE.den, nth, vint] at e
      have ht13 := ht'.same (shown_same h13)
      refine den_idx2 (E := refE) (L := L) y i [.int .i64 y.er] ht13 rfl (by decide) (by simp [IE.den, nth, vint]) hy ⟨⟨_, rfl⟩, trivial⟩ head2 (fun w h => ht13.same (shown_same h)) (fun _ _ => by simp [BlkIn]) (fun w14 h14 => den_norm (by simp only [List.cons_append, List.nil_append]; rfl) (den_splitNot (fun e => ?_) (fun _ => ?_)))
      · simp [BE.den, IE.den, nth, vint] at e
      have m14 := hm'.same ((shown_same h13).trans (shown_same h14))
      refine den_ob64 (by simp only [IE.den, nth, vint]; have : (ofN st L L.length).length ≤ L.length := by rw [ofN_length (Nat.le_refl _)]; simp [cntTo]; exact List.length_filter_le _ _
                          omega) ?_
      refine den_leaf_round hFt fun w15 h15 => ⟨by simp [SV.den, denL, IE.den, BE.den, nth, vint, vbool, vaddr, addO, addr_add], m14.kept h15.kept fun g hg hin => ?_⟩
      have := g6lt g hg
      simp [BlkIn, nth, blkOf, vaddr] at hin
      omega
    · rintro w12 h12 l hl w0 w' ⟨rfl, hm0⟩ hq hk' hfa'
      subst e6
      refine den_norm (by simp only [List.cons_append, List.nil_append]; rfl) (den_splitNot (fun e => ?_) (fun _ => ?_))
      · have := ofN_length (st := (st : Int)) (L := L) (Nat.le_refl _)
        simp [BE.den, IE.den, nth, vint, vlen, eachF_length, this] at e
      refine den_ob64 (by simp only [IE.den, nth, vint]; omega) (den_leaf' fun w13 h13 => (if_pos rfl).mpr ⟨⟨st + 1, by simp [SV.den, denL, IE.den, BE.den, nth, vint, vbool, vaddr, addO, addr_add], by omega⟩, ?_⟩)
      simp [SV.den, denL, IE.den, BE.den, nth, vint, vbool, vaddr, addO, addr_add]
      omega
  refine den_call [.int .i64 (if coldest 3 L < 0 then 0 else coldest 3 L), .bool (decide (0 ≤ coldest 3 L))] ⟨⟨_, rfl⟩, ⟨_, rfl⟩, trivial⟩ rfl (fun w5 h5 => c20 (pt b) L w5 (h.ord.r.same h5.base) h.ok.ne (by omega)) fun w5 w6 h5 h6 => den_norm (by simp only [List.cons_append, List.nil_append]; rfl) ?_
  refine den_call [.int .i64 (if coldest 3 L < 0 then 0 else coldest 3 L), .bool (decide (0 ≤ coldest 3 L))] ⟨⟨_, rfl⟩, ⟨_, rfl⟩, trivial⟩ rfl (fun w5 h5 => c45 _ L w5 (ht.same h5.base) (by omega)) fun w7 w8 h7 h8 => den_norm (by simp only [List.cons_append, List.nil_append]; rfl) ?_
  refine den_call [.int .i64 (lo L), .int .i64 (hi L)] ⟨⟨_, rfl⟩, ⟨_, rfl⟩, trivial⟩ rfl (fun w5 h5 => c13 (pt b) L w5 (h.ord.r.same h5.base) h.ok.ne (by omega)) fun w9 w10 h9 h10 => den_norm (by simp only [List.cons_append, List.nil_append]; rfl) ?_
  refine den_call [.int .i64 (lo L), .int .i64 (hi L)] ⟨⟨_, rfl⟩, ⟨_, rfl⟩, trivial⟩ rfl (fun w5 h5 => c46 _ L w5 (ht.same h5.base) (by omega)) fun w11 w12 h11 h12 => den_norm (by simp only [List.cons_append, List.nil_append]; rfl) ?_
  refine den_split_true (by simp [BE.den, IE.den, nth, vint]) (den_split_true (by simp [BE.den, nth, vbool]) (den_split_true (by simp [BE.den, IE.den, nth, vint]) ?_))
  exact fun w13 h13 w14 hq hk14 => (if_neg (by decide)).mpr ((if_neg (by decide)).mpr ⟨_, rfl, by simp [SV.den, denL, IE.den, BE.den, nth, vint, vbool, vaddr, addO, addr_add, eqB_eq], hk14⟩)
end Go.Proofs.Ytdinjabnfjoojaa
