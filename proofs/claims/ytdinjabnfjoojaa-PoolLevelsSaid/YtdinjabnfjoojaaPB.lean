/- The law PoolLevels' walk: it returns true for every list of erase counts and of calls. No conditions beyond those that each theorem names. -/
import Derived.Test.YtdinjabnfjoojaaPA
set_option maxRecDepth 100000
set_option maxHeartbeats 2000000
set_option linter.unusedVariables false
set_option linter.unusedSimpArgs false
namespace Go.Proofs.Ytdinjabnfjoojaa
open Go.Sx

theorem c7 (s1 s2 : Value) (A : List Int) (acts : List ActT) (w : World) (h1 : Arr intE w s1 A) (h2 : Arr actE w s2 acts) : Gives Try.prog 7 [s1, s2] w (.bool true) := by
  refine Runs.gives ?_
  obtain ⟨a1, c1, rfl⟩ := h1.slice
  obtain ⟨a2, c2, rfl⟩ := h2.slice
  have h0 := runs mix t7 rfl rfl (ε := [.slice a1 A.length c1, .slice a2 acts.length c2]) (w := w) (M := fun _ => False) (R := fun v _ => v = .bool true) ⟨⟨_, _, _, rfl⟩, ⟨_, _, _, rfl⟩, trivial⟩ trivial (by simp [keys]) (by simp [keys]) (by simp [keys]) ?_
  · simpa [SV.den, denL, IE.den, BE.den, nth, vint, vbool, vaddr, addO, addr_add] using h0
  refine den_blk fun b2 k2 _ k20 => den_norm (by simp only [List.cons_append, List.nil_append]; rfl) (den_splitLt (fun e => ?_) (fun e1 => den_splitLt (fun e => ?_) (fun e2 => ?_)))
  · exact den_call_bool (b := true) (fun w1 _ => c8 w1) rfl fun _ _ _ _ => den_norm (by simp only [List.cons_append, List.nil_append]; rfl) (den_leafMA _ rfl fun _ _ _ _ => rfl)
  · exact den_call_bool (b := true) (fun w1 _ => c8 w1) rfl fun _ _ _ _ => den_norm (by simp only [List.cons_append, List.nil_append]; rfl) (den_leafMA _ rfl fun _ _ _ _ => rfl)
  have e1' : (A.length : Int) ≤ 20 := e1
  have e2' : (acts.length : Int) ≤ 50 := e2
  have z2 : w.heap.size ≤ b2 := k20
  refine den_callR (fun w1 l w2 => ∃ p, l = [p, .int .i64 (newE A)] ∧ NewR A w1 w2 p) (fun w1 k1 => ?_) (fun w1 l w2 k1 hf hR hs12 => ?_)
  · refine (c9 _ A w1 (h1.same k1.base) (by omega)).mono fun v w' ⟨p, hv, h3, h4⟩ => ?_
    have hp : Base.ptr.fits p := by
      rcases newE_or A with h | h
      · obtain ⟨b, s, rfl, _⟩ := h4 h; exact ⟨_, rfl⟩
      · rw [h3 (by rw [h]; decide)]; exact ⟨_, rfl⟩
    exact ⟨[p, .int .i64 (newE A)], ⟨hp, ⟨_, rfl⟩, trivial⟩, hv, p, rfl, h3, h4⟩
  obtain ⟨p, rfl, hN⟩ := hR
  have z1 : w.heap.size ≤ w1.heap.size := k1.base.size
  have l2 := k1.lt (i := 2) (b := b2) (by simp [keys]) rfl
  have z12' := hs12.size
  refine den_norm (by simp only [List.cons_append, List.nil_append]; rfl) ?_
  refine den_call_int (x := newE A) (fun w5 k5 => c10 _ w5) rfl fun w5 w6 k5 k6 => den_norm (by simp only [List.cons_append, List.nil_append]; rfl) ?_
  rcases newE_or A with he | he
  rotate_left
  · refine den_splitNot (fun _ => ?_) (fun e => ?_)
    · exact den_call_bool (b := true) (fun w1 _ => c8 w1) rfl fun _ _ _ _ => den_norm (by simp only [List.cons_append, List.nil_append]; rfl) (den_leafMA _ rfl fun _ _ _ _ => rfl)
    · rw [he] at e
      simp [BE.den, IE.den, nth, vint] at e
  refine den_splitNot (fun e => ?_) (fun _ => ?_)
  · simp [BE.den, IE.den, nth, vint, he] at e
  have s26 := (shown_same k5).trans k6
  obtain ⟨b, s, rfl, hP, hb, hg⟩ := hN.2 he
  have hfo : ∀ x, MP b s x → w1.heap.size ≤ x := fun x hx => by
    rcases hx with rfl | hx
    · exact hb
    · exact hg x hx
  refine den_loop (fun ls w' => ∃ (j : Nat) (L : List Bk), ls = [.int .i64 j] ∧ j ≤ acts.length ∧ PoolAt w' b s L ∧ OkL L) (fun ls _ => acts.length - (vint (nth ls 0)).toNat) (fun w7 k7 => ⟨0, newL A, rfl, Nat.zero_le _, (hP.same s26).same (shown_same k7), newL_ok he⟩) ?_
  clear hP
  rintro w7 l w8 k7 hf ⟨j, L, rfl, hj, hp, hok⟩ hk hfa
  have hlen := hok.len
  refine den_norm (by simp only [List.cons_append, List.nil_append]; rfl) (den_splitLt (fun h => ?_) (fun h => ?_))
  · have hlt : j < acts.length := by simpa [IE.den, nth, vint, vlen] using h
    have hx : acts[j]? = some acts[j] := by simp [hlt]
    generalize acts[j] = x at hx
    refine den_idx2 (E := actE) (L := acts) x j (actE.enc x) (h2.same hk) rfl (by decide) rfl hx ⟨⟨_, rfl⟩, ⟨_, rfl⟩, ⟨_, rfl⟩, ⟨_, rfl⟩, trivial⟩ (whole _) (fun w h => h2.same h.base) (fun ad had => ?_) (fun w9 k9 => den_norm (by simp only [List.cons_append, List.nil_append, actE]; rfl) ?_)
    · have := h2.lt hx (by decide) ad had
      simp [BlkIn, nth, blkOf, vaddr] <;> omega
    have hp9 := hp.same (shown_same k9)
    have z89 := (shown_same k9).size
    have z8 : w1.heap.size ≤ w8.heap.size := by have := hp.lt; have := hfo b (.inl rfl); omega
    refine den_blk fun b11 k11 _ k110 => den_norm (by simp only [List.cons_append, List.nil_append]; rfl) ?_
    have z11 : w9.heap.size ≤ b11 := k11
    refine den_splitNot (fun _ => den_splitNot (fun _ => den_splitLt (fun _ => ?_) (fun _ => den_splitLt (fun _ => ?_) (fun _ => ?_))) (fun _ => ?_)) (fun _ => ?_)
    · refine den_callM (fun _ => MP b s) (fun w10 l w11 => ∃ v, l = [.int .i64 v] ∧ PoolAt w11 b s (turnL L x.i (isSt 2) 3)) (fun w10 k10 y hy _ => ?_) (fun w10 k10 => ?_) (fun w10 l w11 k10 hf hR hk11 => ?_)
      · have := hfo y hy
        have := hp.foot y hy
        exact ⟨fun hd => (by cases hd), fun hlt => absurd (show y < w.heap.size from hlt) (by omega), fun hin => (by simp [BlkIn, nth, blkOf, vaddr] at hin; omega), fun _ => (hp9.same (shown_new k10 fun y hy => by simp [BlkIn, nth, blkOf, vaddr] at hy; omega)).notRec hy⟩
      · refine (c21 b s L x.i w10 (hp9.same (shown_new k10 fun y hy => by simp [BlkIn, nth, blkOf, vaddr] at hy; omega)) hok).mono (fun v w' ⟨hv, hp2⟩ _ => ?_) (fun _ _ h => h)
        subst hv
        exact ⟨[_], ⟨⟨_, rfl⟩, trivial⟩, rfl, ⟨_, rfl, hp2⟩, trivial⟩
      obtain ⟨v, rfl, hp2⟩ := hR
      refine den_norm (by simp only [List.cons_append, List.nil_append]; rfl) (den_ob64 (by simp only [IE.den, nth, vint]; omega) (den_leaf' fun w14 k14 => (if_pos rfl).mpr ⟨⟨j + 1, turnL L x.i (isSt 2) 3, by simp [SV.den, denL, IE.den, BE.den, nth, vint, vbool, vaddr, addO, addr_add], by omega, hp2.same (shown_same k14), turnL_ok hok ⟨by decide, by decide⟩⟩, ?_⟩))
      simp [SV.den, denL, IE.den, BE.den, nth, vint, vbool, vaddr, addO, addr_add]
      omega
    · refine den_callM (fun _ => MP b s) (fun w10 l w11 => ∃ v, l = [.int .i64 v] ∧ PoolAt w11 b s (relL L x.i)) (fun w10 k10 y hy _ => ?_) (fun w10 k10 => ?_) (fun w10 l w11 k10 hf hR hk11 => ?_)
      · have := hfo y hy
        have := hp.foot y hy
        exact ⟨fun hd => (by cases hd), fun hlt => absurd (show y < w.heap.size from hlt) (by omega), fun hin => (by simp [BlkIn, nth, blkOf, vaddr] at hin; omega), fun _ => (hp9.same (shown_new k10 fun y hy => by simp [BlkIn, nth, blkOf, vaddr] at hy; omega)).notRec hy⟩
      · refine (c12 b s L x.i w10 (hp9.same (shown_new k10 fun y hy => by simp [BlkIn, nth, blkOf, vaddr] at hy; omega)) hok).mono (fun v w' ⟨hv, hp2⟩ _ => ?_) (fun _ _ h => h)
        subst hv
        exact ⟨[_], ⟨⟨_, rfl⟩, trivial⟩, rfl, ⟨_, rfl, hp2⟩, trivial⟩
      obtain ⟨v, rfl, hp2⟩ := hR
      refine den_norm (by simp only [List.cons_append, List.nil_append]; rfl) (den_ob64 (by simp only [IE.den, nth, vint]; omega) (den_leaf' fun w14 k14 => (if_pos rfl).mpr ⟨⟨j + 1, relL L x.i, by simp [SV.den, denL, IE.den, BE.den, nth, vint, vbool, vaddr, addO, addr_add], by omega, hp2.same (shown_same k14), relL_ok hok⟩, ?_⟩))
      simp [SV.den, denL, IE.den, BE.den, nth, vint, vbool, vaddr, addO, addr_add]
      omega
    · refine den_callM (fun _ => MP b s) (fun w10 l w11 => ∃ v, l = [.int .i64 v] ∧ PoolAt w11 b s (setL L x.i x.st x.er)) (fun w10 k10 y hy _ => ?_) (fun w10 k10 => ?_) (fun w10 l w11 k10 hf hR hk11 => ?_)
      · have := hfo y hy
        have := hp.foot y hy
        exact ⟨fun hd => (by cases hd), fun hlt => absurd (show y < w.heap.size from hlt) (by omega), fun hin => (by simp [BlkIn, nth, blkOf, vaddr] at hin; omega), fun _ => (hp9.same (shown_new k10 fun y hy => by simp [BlkIn, nth, blkOf, vaddr] at hy; omega)).notRec hy⟩
      · refine (c23 b s L x.i x.st x.er w10 (hp9.same (shown_new k10 fun y hy => by simp [BlkIn, nth, blkOf, vaddr] at hy; omega)) hok).mono (fun v w' ⟨hv, hp2⟩ _ => ?_) (fun _ _ h => h)
        subst hv
        exact ⟨[_], ⟨⟨_, rfl⟩, trivial⟩, rfl, ⟨_, rfl, hp2⟩, trivial⟩
      obtain ⟨v, rfl, hp2⟩ := hR
      refine den_norm (by simp only [List.cons_append, List.nil_append]; rfl) (den_ob64 (by simp only [IE.den, nth, vint]; omega) (den_leaf' fun w14 k14 => (if_pos rfl).mpr ⟨⟨j + 1, setL L x.i x.st x.er, by simp [SV.den, denL, IE.den, BE.den, nth, vint, vbool, vaddr, addO, addr_add], by omega, hp2.same (shown_same k14), setL_ok hok⟩, ?_⟩))
      simp [SV.den, denL, IE.den, BE.den, nth, vint, vbool, vaddr, addO, addr_add]
      omega
    all_goals
      refine den_callR (fun w l w' => ∃ bp sp, l = [pt bp] ∧ PoolAt w' bp sp L ∧ w.heap.size ≤ bp ∧ ∀ g, sp.ownBlock = some g → w.heap.size ≤ g) (fun w13 k13 => ?_) (fun w13 l w14 k13 hf hR s1314 => ?_)
      · refine (c19 (pt b) L w13 (hp9.r.same (shown_new k13 fun y hy => by simp [BlkIn, nth, blkOf, vaddr] at hy; omega)) hok.ne (by omega)).mono fun v w' ⟨b', s', hv, h3, h4, h5⟩ => ?_
        exact ⟨[pt b'], ⟨⟨_, rfl⟩, trivial⟩, hv, b', s', rfl, h3, h4, h5⟩
      obtain ⟨bp, sp, rfl, hC, hbp, hsp⟩ := hR
      have s913 : Same w9 w13 := shown_new k13 fun y hy => by simp [BlkIn, nth, blkOf, vaddr] at hy; omega
      have l11 := k13.lt (i := 11) (b := b11) (by simp [keys]) rfl
      have z913 := s913.size
      have z1314 := s1314.size
      have hp14 := (hp9.same s913).same s1314
      have cp : ∀ y, MP bp sp y → w13.heap.size ≤ y ∧ y < w14.heap.size := fun y hy => ⟨by rcases hy with rfl | hy; exact hbp; exact hsp y hy, hC.foot y hy⟩
      have pp : ∀ y, MP b s y → y < w9.heap.size := hp9.foot
      refine den_norm (by simp only [List.cons_append, List.nil_append]; rfl) (den_blk fun b13 k13' _ k130 => den_norm (by simp only [List.cons_append, List.nil_append]; rfl) ?_)
      have z13 : w14.heap.size ≤ b13 := k13'
      refine den_call_int (x := cntS L 1) (fun w15 k15 => c26 bp sp L 1 w15 (hC.same (shown_new k15 fun y hy => by simp [BlkIn, nth, blkOf, vaddr] at hy; omega)) hok.ne) rfl fun w15 w16 k15 k16 => den_norm (by simp only [List.cons_append, List.nil_append]; rfl) ?_
      have s1415 : Same w14 w15 := shown_new k15 fun y hy => by simp [BlkIn, nth, blkOf, vaddr] at hy; omega
      have s1416 := s1415.trans k16
      have z1415 := s1415.size
      have z1516 := k16.size
      have l13 := k15.lt (i := 13) (b := b13) (by simp [keys]) rfl
      have hp16 := hp14.same s1416
      have hC16 := hC.same s1416
      refine den_callM (fun _ => MP b s) (fun w17 l w18 => l = [.int .i64 (takI L), .int .i64 (takE L)] ∧ PoolAt w18 b s (takL L)) (fun w17 k17 y hy _ => ?_) (fun w17 k17 => ?_) (fun w17 l w18 k17 hf hR k18 => ?_)
      · have := hfo y hy
        have := pp y hy
        exact ⟨fun hd => (by cases hd), fun hlt => absurd (show y < w.heap.size from hlt) (by omega), fun hin => (by simp [BlkIn, nth, blkOf, vaddr] at hin; omega), fun _ => (hp16.same (shown_same k17)).notRec hy⟩
      · refine (c11 b s L w17 (hp16.same (shown_same k17)) hok).mono (fun v w' ⟨hv, hp2⟩ _ => ?_) (fun _ _ h => h)
        exact ⟨[.int .i64 (takI L), .int .i64 (takE L)], ⟨⟨_, rfl⟩, ⟨_, rfl⟩, trivial⟩, hv, ⟨rfl, hp2⟩, trivial⟩
      obtain ⟨rfl, hp18⟩ := hR
      have z1617 := (shown_same k17).size
      have z1718 := k18.size
      have hC18 : PoolAt w18 bp sp L := (hC16.same (shown_same k17)).kept k18 (fun e => by have := cp bp (.inl rfl); have := pp _ e; omega) fun g hg e => by have := cp g (.inr hg); have := pp _ e; omega
      refine den_norm (by simp only [List.cons_append, List.nil_append]; rfl) (den_blk fun b17 k17' _ k170 => den_norm (by simp only [List.cons_append, List.nil_append]; rfl) ?_)
      have z17 : w18.heap.size ≤ b17 := k17'
      have hcs : cntS L 1 = cn L 1 := by simp [cntS]
      have hcs2 : cntS (takL L) 1 = cn (takL L) 1 := by simp [cntS]
      refine den_splitEq (fun e0 => ?_) (fun e0 => ?_)
      · have e0' : cntS L 1 = 0 := e0
        rw [hcs, cn_zero] at e0'
        refine den_splitNot (fun e => ?_) (fun _ => ?_)
        · simp [BE.den, IE.den, nth, vint, takE, e0'] at e
        refine den_ob64 (by simp only [IE.den, nth, vint]; omega) (den_leaf' fun w19 k19 => (if_pos rfl).mpr ⟨⟨j + 1, takL L, by simp [SV.den, denL, IE.den, BE.den, nth, vint, vbool, vaddr, addO, addr_add], by omega, hp18.same (shown_new k19 fun y hy => by simp [BlkIn, nth, blkOf, vaddr] at hy; omega), takL_ok hok⟩, ?_⟩)
        simp [SV.den, denL, IE.den, BE.den, nth, vint, vbool, vaddr, addO, addr_add]
        omega
      have e0' : ¬ coldest 1 L < 0 := fun h => e0 (show cntS L 1 = 0 by rw [hcs]; exact cn_zero.2 h)
      obtain ⟨k, y0, hck, hyk, hy1⟩ := coldest_some e0'
      have hE : takE L = 0 := by simp [takE, e0']
      have hI : takI L = k := by unfold takI; rw [if_neg e0', hck]
      have hbk : bkAt L k = y0 := bkAt_some hyk
      have hT : takL L = L.set k ⟨y0.er, 2⟩ := by
        unfold takL
        rw [if_neg e0', hck, hbk]
        rfl
      have hkl := (List.getElem?_eq_some_iff.1 hyk).1
      have hbk2 : bkAt (takL L) k = ⟨y0.er, 2⟩ := bkAt_some (by rw [hT]; simp [hkl])
      have hcn : cn (takL L) 1 = cn L 1 - 1 := by rw [hT, cn_set _ 1 hyk]; simp [hy1]
      have hnn : 0 ≤ cn L 1 ∧ cn L 1 ≤ L.length := by
        unfold cn
        have := List.length_filter_le (isSt 1) L
        omega
      have hne2 : takL L ≠ [] := (takL_ok hok).ne
      rw [hI, hE]
      refine den_call_int (x := 0) (fun w19 k19 => c10 0 w19) rfl fun w19 w20 k19 k20 => den_norm (by simp only [List.cons_append, List.nil_append]; rfl) (den_splitNot (fun e => ?_) (fun _ => ?_))
      · simp [BE.den, IE.den, nth, vint] at e
      have s1819 : Same w18 w19 := shown_new k19 fun y hy => by simp [BlkIn, nth, blkOf, vaddr] at hy; omega
      have s20 := s1819.trans k20
      have l17 := k19.lt (i := 17) (b := b17) (by simp [keys]) rfl
      have z1819 := s1819.size
      have z1920 := k20.size
      refine den_call_int (x := 1) (fun w21 k21 => (c24 (pt bp) L k w21 (hC18.same (s20.trans (shown_same k21))).r).to (by rw [hbk, hy1])) rfl fun w21 w22 k21 k22 => den_norm (by simp only [List.cons_append, List.nil_append]; rfl) (den_splitNot (fun e => ?_) (fun _ => ?_))
      · simp [BE.den, IE.den, nth, vint] at e
      have s22 := (s20.trans (shown_same k21)).trans k22
      refine den_call_int (x := 2) (fun w23 k23 => (c24 (pt b) (takL L) k w23 (hp18.same (s22.trans (shown_same k23))).r).to (by rw [hbk2])) rfl fun w23 w24 k23 k24 => den_norm (by simp only [List.cons_append, List.nil_append]; rfl) (den_splitNot (fun e => ?_) (fun _ => ?_))
      · simp [BE.den, IE.den, nth, vint] at e
      have s24 := (s22.trans (shown_same k23)).trans k24
      refine den_call_int (x := cntS (takL L) 1) (fun w25 k25 => c26 b s (takL L) 1 w25 (hp18.same (s24.trans (shown_same k25))) hne2) rfl fun w25 w26 k25 k26 => den_norm (by simp only [List.cons_append, List.nil_append]; rfl) (den_ob64 (by simp only [IE.den, nth, vint]; omega) (den_splitNot (fun e => ?_) (fun _ => ?_)))
      · simp [BE.den, IE.den, nth, vint] at e
        omega
      have s26' := (s24.trans (shown_same k25)).trans k26
      refine den_callR (fun w l w' => ∃ v, l = [v] ∧ SeqAt Try.prog w.heap.size w'.heap.size w' v ((eachF 1 0 L).map fun x => (yvals Try.prog [3, 3] x).toArray)) (fun w27 k27 => ?_) (fun w27 l w28 k27 hf hR s2728 => ?_)
      · refine (c17 (pt bp) L 1 w27 (hC18.same (s26'.trans (shown_same k27))).r hok.ne (by omega)).mono fun v w' hv => ?_
        obtain ⟨g, caps, Ft, rfl, h2⟩ := hv.ex
        exact ⟨[.func (.func g) #[] caps], ⟨rfl, trivial⟩, rfl, _, rfl, hv⟩
      obtain ⟨v, rfl, hv⟩ := hR
      have s28 := (s26'.trans (shown_same k27)).trans s2728
      have z27 := (s26'.trans (shown_same k27)).size
      have z19x := (((((shown_same k21).trans k22).trans (shown_same k23)).trans k24).trans (((shown_same k25).trans k26).trans (shown_same k27))).size
      have z28 := s2728.size
      refine den_norm (by simp only [List.cons_append, List.nil_append]; rfl) (den_split_false ?_ ?_)
      · obtain ⟨g, caps, Ft, rfl, h2⟩ := hv.ex
        rfl
      refine den_range (eachF 1 0 L) (fun k l wx => l = [] ∧ PoolAt wx bp sp L ∧ PoolAt wx b s (takL L)) w27.heap.size w28.heap.size ?_ ?_ ?_ (fun w29 k29 => ⟨rfl, hC18.same (s28.trans (shown_same k29)), hp18.same (s28.trans (shown_same k29))⟩) ?_ ?_
      · intro x hx
        obtain ⟨i, hi⟩ := List.getElem?_of_mem hx
        obtain ⟨j, y, _, _, _, rfl⟩ := eachF_inv hi
        exact ⟨⟨_, rfl⟩, ⟨_, rfl⟩, trivial⟩
      · intro y hy
        simp [BlkIn, nth, blkOf, vaddr] at hy
        omega
      · intro w29 k29
        exact hv.kept (shown_same k29) fun b _ _ _ h => h
      · rintro w29 Ft k29 m x' hx' l hl w0 w' ⟨rfl, hc0, hp0⟩ hq hk' hfa' hFt
        obtain ⟨i, y, hy, hys, hci, rfl⟩ := eachF_inv hx'
        have hc' : PoolAt w' bp sp L := ⟨hc0.blk.quiet hq, hc0.mine.quiet hq, hc0.apart⟩
        have hp' : PoolAt w' b s (takL L) := ⟨hp0.blk.quiet hq, hp0.mine.quiet hq, hp0.apart⟩
        obtain ⟨j', y', hcj, hyj, hle⟩ := coldest_least hy hys
        obtain rfl : k = j' := by rw [hck] at hcj; omega
        obtain rfl : y0 = y' := by rw [hyk] at hyj; cases hyj; rfl
        refine den_norm (by simp only [List.cons_append, List.nil_append]; rfl) ?_
        refine den_call_int (x := y0.er) (fun w30 k30 => (c25 (pt bp) L k w30 (hc'.same (shown_same k30)).r).to (by rw [hbk])) rfl fun w30 w31 k30 k31 => den_norm (by simp only [List.cons_append, List.nil_append]; rfl) (den_splitLt (fun e => ?_) (fun _ => ?_))
        · have : y.er < y0.er := e
          omega
        have s31 := (shown_same k30).trans k31
        refine den_call_int (x := y0.er) (fun w32 k32 => (c25 (pt bp) L k w32 (hc'.same (s31.trans (shown_same k32))).r).to (by rw [hbk])) rfl fun w32 w33 k32 k33 => den_norm (by simp only [List.cons_append, List.nil_append]; rfl) (den_splitEq (fun e => den_splitLt (fun e4 => ?_) (fun _ => ?_)) (fun _ => ?_))
        · have h5 : y.er = y0.er := e
          have h6 : ((0 + i : Nat) : Int) < k := e4
          omega
        all_goals
          have s33 := (s31.trans (shown_same k32)).trans k33
          exact den_leaf_round hFt fun w34 k34 => ⟨rfl, hc'.same (s33.trans (shown_same k34)), hp'.same (s33.trans (shown_same k34))⟩
      · rintro w29 k29 l hl w0 w' ⟨rfl, hc0, hp0⟩ hq hk' hfa'
        have hp' : PoolAt w' b s (takL L) := ⟨hp0.blk.quiet hq, hp0.mine.quiet hq, hp0.apart⟩
        refine den_norm (by simp only [List.cons_append, List.nil_append]; rfl) (den_ob64 (by simp only [IE.den, nth, vint]; omega) (den_leaf' fun w30 k30 => (if_pos rfl).mpr ⟨⟨j + 1, takL L, by simp [SV.den, denL, IE.den, BE.den, nth, vint, vbool, vaddr, addO, addr_add], by omega, hp'.same (shown_same k30), takL_ok hok⟩, ?_⟩))
        simp [SV.den, denL, IE.den, BE.den, nth, vint, vbool, vaddr, addO, addr_add]
        omega
  · exact den_call_bool (b := true) (fun w9 _ => c8 w9) rfl fun _ _ _ _ => den_norm (by simp only [List.cons_append, List.nil_append]; rfl) (fun w13 h13 w14 hq hk14 => (if_neg (by decide)).mpr ⟨_, rfl, by simp [SV.den, denL, IE.den, BE.den, nth, vint, vbool, vaddr, addO, addr_add], hk14⟩)
end Go.Proofs.Ytdinjabnfjoojaa
