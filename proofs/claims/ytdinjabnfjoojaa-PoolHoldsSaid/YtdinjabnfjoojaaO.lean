/- The law PoolCopies' walk: it returns true for every list of erase counts and of calls. No conditions beyond those that each theorem names. -/
import Derived.Test.YtdinjabnfjoojaaL
set_option maxRecDepth 100000
set_option maxHeartbeats 2000000
set_option linter.unusedVariables false
set_option linter.unusedSimpArgs false
namespace Go.Proofs.Ytdinjabnfjoojaa
open Go.Sx

def actV (a : ActT) : List Value := [.int .i64 a.wh, .int .i64 a.i, .int .i64 a.st, .int .i64 a.er]
theorem Pair.quiet {w w' : World} {b : Nat} {s t : Value} {L : List Bk} (h : Pair w b s t L) (hk : Quiet w w') : Pair w' b s t L :=
  ⟨⟨h.ord.blk.quiet hk, h.ord.mine.quiet hk, h.ord.apart⟩, ⟨h.ref.1.quiet hk, h.ref.2.1, h.ref.2.2.1, fun ad had => Nat.lt_of_lt_of_le (h.ref.2.2.2 ad had) hk.size⟩, h.ok, h.sep⟩
theorem hasBlk_notRec {w : World} {b : Nat} {l : List Value} (h : HasBlk w (pt b) l) : ¬ IsRec w b := by
  obtain ⟨x', ty, e, hh⟩ := h
  cases e
  rintro ⟨o, ho, hr⟩
  rw [hh] at ho; cases ho; cases hr
theorem PoolAt.notRec {w : World} {b : Nat} {s : Value} {L : List Bk} (h : PoolAt w b s L) {x : Nat} (hx : MP b s x) : ¬ IsRec w x := by
  rcases hx with rfl | hx
  · exact hasBlk_notRec h.blk
  · exact h.mine.notRec hx

theorem c5 (s1 s2 : Value) (A : List Int) (acts : List ActT) (x1 x2 : ActT) (many : Int) (w : World) (h1 : Arr intE w s1 A) (h2 : Arr actE w s2 acts) : Gives Try.prog 5 [s1, s2, .agg (actV x1 ++ actV x2).toArray, .int .i64 many] w (.bool true) := by
  refine Runs.gives ?_
  obtain ⟨a1, c1, rfl⟩ := h1.slice
  obtain ⟨a2, c2, rfl⟩ := h2.slice
  have h0 := runs mix t5 rfl rfl (ε := .slice a1 A.length c1 :: .slice a2 acts.length c2 :: (actV x1 ++ (actV x2 ++ [(Value.int .i64 many)]))) (w := w) (M := fun _ => False) (R := fun v _ => v = .bool true) ⟨⟨_, _, _, rfl⟩, ⟨_, _, _, rfl⟩, ⟨_, rfl⟩, ⟨_, rfl⟩, ⟨_, rfl⟩, ⟨_, rfl⟩, ⟨_, rfl⟩, ⟨_, rfl⟩, ⟨_, rfl⟩, ⟨_, rfl⟩, ⟨_, rfl⟩, trivial⟩ trivial (by simp [keys]) (by simp [keys]) (by simp [keys]) ?_
  · simpa [SV.den, denL, IE.den, BE.den, nth, vint, vbool, vaddr, addO, addr_add, actV] using h0
  refine den_norm (by simp only [actV, List.cons_append, List.nil_append]; rfl) (den_blk fun b11 k11 _ k110 => den_blk fun b12 k12 _ k120 => den_blk fun b13 k13 _ k130 => den_norm (by simp only [List.cons_append, List.nil_append]; rfl) (den_splitLt (fun e => ?_) (fun e1 => den_splitLt (fun e => ?_) (fun e2 => ?_))))
  · exact den_call_bool (b := true) (fun w1 _ => c8 w1) rfl fun _ _ _ _ => den_norm (by simp only [List.cons_append, List.nil_append]; rfl) (den_leafMA _ rfl fun _ _ _ _ => rfl)
  · exact den_call_bool (b := true) (fun w1 _ => c8 w1) rfl fun _ _ _ _ => den_norm (by simp only [List.cons_append, List.nil_append]; rfl) (den_leafMA _ rfl fun _ _ _ _ => rfl)
  have e1' : (A.length : Int) ≤ 20 := e1
  have e2' : (acts.length : Int) ≤ 30 := e2
  have z11 : w.heap.size ≤ b11 := k110
  have z12 : w.heap.size ≤ b12 := k120
  have z13 : w.heap.size ≤ b13 := k130
  refine den_callR (fun w1 l w2 => ∃ p, l = [p, .int .i64 (newE A)] ∧ NewR A w1 w2 p) (fun w1 k1 => ?_) (fun w1 l w2 k1 hf hR hs12 => ?_)
  · refine (c9 _ A w1 (h1.same k1.base) (by omega)).mono fun v w' ⟨p, hv, h3, h4⟩ => ?_
    have hp : Base.ptr.fits p := by
      rcases newE_or A with h | h
      · obtain ⟨b, s, rfl, _⟩ := h4 h; exact ⟨_, rfl⟩
      · rw [h3 (by rw [h]; decide)]; exact ⟨_, rfl⟩
    exact ⟨[p, .int .i64 (newE A)], ⟨hp, ⟨_, rfl⟩, trivial⟩, hv, p, rfl, h3, h4⟩
  obtain ⟨p, rfl, hN⟩ := hR
  have z1 : w.heap.size ≤ w1.heap.size := k1.base.size
  have l11 := k1.lt (i := 11) (b := b11) (by simp [keys]) rfl
  have l12 := k1.lt (i := 12) (b := b12) (by simp [keys]) rfl
  have l13 := k1.lt (i := 13) (b := b13) (by simp [keys]) rfl
  refine den_norm (by simp only [List.cons_append, List.nil_append]; rfl) ?_
  refine den_callR (fun w3 l w4 => ∃ t, l = [t, .int .i64 (newE A)] ∧ (newE A = 0 → Given refE w4 t (newL A) ∧ ∀ ad, vaddr t = some ad → w3.heap.size ≤ ad.block)) (fun w3 k3 => ?_) (fun w3 l w4 k3 hf hR hs34 => ?_)
  · refine (c14 _ A w3 (h1.same k3.base) (by omega)).mono fun v w' ⟨t', hv, h3, h4⟩ => ?_
    have ht : Base.slice.fits t' := by
      rcases newE_or A with h | h
      · obtain ⟨a', c', e'⟩ := (h4 h).1.1.slice; exact ⟨_, _, _, e'⟩
      · rw [h3 (by rw [h]; decide)]; exact ⟨_, _, _, rfl⟩
    exact ⟨[t', .int .i64 (newE A)], ⟨ht, ⟨_, rfl⟩, trivial⟩, hv, t', rfl, h4⟩
  obtain ⟨t, rfl, hT⟩ := hR
  have s23 := shown_same k3
  have z23 := s23.size
  have z12' := hs12.size
  refine den_norm (by simp only [List.cons_append, List.nil_append]; rfl) ?_
  rcases newE_or A with he | he
  rotate_left
  · refine den_splitNot (fun _ => ?_) (fun e => ?_)
    · refine den_call_int (x := newE A) (fun w5 k5 => c10 _ w5) rfl fun w5 w6 k5 k6 => den_norm (by simp only [List.cons_append, List.nil_append]; rfl) (den_splitEq (fun _ => ?_) (fun hne => absurd rfl hne))
      exact den_call_bool (b := true) (fun w1 _ => c8 w1) rfl fun _ _ _ _ => den_norm (by simp only [List.cons_append, List.nil_append]; rfl) (den_leafMA _ rfl fun _ _ _ _ => rfl)
    · rw [he] at e
      simp [BE.den, IE.den, nth, vint] at e
  refine den_splitNot (fun e => ?_) (fun _ => ?_)
  · simp [BE.den, IE.den, nth, vint, he] at e
  refine den_call_int (x := newE A) (fun w5 k5 => c10 _ w5) rfl fun w5 w6 k5 k6 => den_norm (by simp only [List.cons_append, List.nil_append]; rfl) (den_splitNot (fun e => ?_) (fun _ => ?_))
  · simp [BE.den, IE.den, nth, vint, he] at e
  have s46 := (shown_same k5).trans k6
  obtain ⟨b, s, rfl, hP, hb, hg⟩ := hN.2 he
  obtain ⟨hgt, hn⟩ := hT he
  obtain ⟨hp4, hfo4⟩ := pair_new he hP ⟨hb, hg⟩ (s23.trans hs34) hgt (fun ad had => by have := hn ad had; omega)
  have hp6 := hp4.same s46
  refine den_loop (fun ls w' => ∃ (j : Nat) (t : Value) (L : List Bk), ls = [.int .i64 j, t] ∧ j ≤ acts.length ∧ Pair w' b s t L ∧ ∀ x, Foot b s t x → w1.heap.size ≤ x) (fun ls _ => acts.length - (vint (nth ls 0)).toNat) (fun w7 k7 => ⟨0, t, newL A, rfl, Nat.zero_le _, hp6.same (shown_same k7), fun x hx => by have := hfo4 x hx; omega⟩) ?_
  clear hp6 hp4 hfo4 hgt hn hT hP
  rintro w7 l w8 k7 hf ⟨j, t', L, rfl, hj, hp, hfo⟩ hk hfa
  obtain ⟨at_, ct, ht'⟩ := hp.ref.1.slice
  have hPl := hp.lt
  refine den_norm (by simp only [List.cons_append, List.nil_append]; rfl) (den_splitLt (fun h => ?_) (fun h => ?_))
  · have hlt : j < acts.length := by simpa [IE.den, nth, vint, vlen] using h
    have hx : acts[j]? = some acts[j] := by simp [hlt]
    generalize acts[j] = x at hx
    refine den_idx2 (E := actE) (L := acts) x j (actE.enc x) (h2.same hk) rfl (by decide) rfl hx ⟨⟨_, rfl⟩, ⟨_, rfl⟩, ⟨_, rfl⟩, ⟨_, rfl⟩, trivial⟩ (whole _) (fun w h => h2.same h.base) (fun ad had => ?_) (fun w9 k9 => den_norm (by simp only [List.cons_append, List.nil_append, actE]; rfl) ?_)
    · have := h2.lt hx (by decide) ad had
      simp [BlkIn, nth, blkOf, vaddr] <;> omega
    refine den_callM (fun _ => MP b s) (fun w10 l w11 => ∃ t2, l = [t2, .bool true] ∧ Pair w11 b s t2 (actL L x) ∧ ∀ y, Foot b s t2 y → Foot b s t' y ∨ w10.heap.size ≤ y) (fun w10 k10 y hy _ => ?_) (fun w10 k10 => ?_) (fun w10 l w11 k10 hf hR hk11 => ?_)
    · have := hfo y (.inl hy)
      exact ⟨fun hd => (by cases hd), fun hlt => absurd (show y < w.heap.size from hlt) (by omega), fun hin => (by simp [BlkIn, nth, blkOf, vaddr] at hin; omega), fun _ => (hp.same ((shown_same k9).trans (shown_same k10))).ord.notRec hy⟩
    · refine (c15 b s t' L x w10 (hp.same ((shown_same k9).trans (shown_same k10)))).mono (fun v w' ⟨t2, hv, hp2, hf2⟩ _ => ?_) (fun _ _ h => h)
      obtain ⟨a', c', e'⟩ := hp2.ref.1.slice
      exact ⟨[t2, .bool true], ⟨⟨_, _, _, e'⟩, ⟨_, rfl⟩, trivial⟩, hv, ⟨t2, rfl, hp2, hf2⟩, trivial⟩
    obtain ⟨t2, rfl, hp2, hf2⟩ := hR
    have z10 := (shown_same k10).size
    have z9 := (shown_same k9).size
    have z7 : w1.heap.size ≤ w8.heap.size := by have := hPl b (.inl (.inl rfl)); have := hfo b (.inl (.inl rfl)); omega
    have hfo2 : ∀ y, Foot b s t2 y → w1.heap.size ≤ y := fun y hy => by
      rcases hf2 y hy with h | h
      · exact hfo y h
      · omega
    refine den_norm (by simp only [List.cons_append, List.nil_append]; rfl) (den_splitNot (fun e => by cases e) (fun _ => ?_))
    refine den_ob64 (by simp only [IE.den, nth, vint]; omega) (den_leaf' fun w14 k14 => (if_pos rfl).mpr ⟨⟨j + 1, t2, actL L x, by simp [SV.den, denL, IE.den, BE.den, nth, vint, vbool, vaddr, addO, addr_add], by omega, hp2.same (shown_same k14), hfo2⟩, ?_⟩)
    simp [SV.den, denL, IE.den, BE.den, nth, vint, vbool, vaddr, addO, addr_add]
    omega
  have hlen := hp.ok.len
  refine den_callR (fun w l w' => ∃ v, l = [v] ∧ SeqAt Try.prog w.heap.size w'.heap.size w' v ((eachF 1 0 L).map fun x => (yvals Try.prog [3, 3] x).toArray)) (fun w9 k9 => ?_) (fun w9 l w10 k9 hf hR s910 => ?_)
  · refine (c17 (pt b) L 1 w9 (hp.ord.r.same (shown_same k9)) hp.ok.ne (by omega)).mono fun v w' hv => ?_
    obtain ⟨g, caps, Ft, rfl, h2⟩ := hv.ex
    exact ⟨[.func (.func g) #[] caps], ⟨rfl, trivial⟩, rfl, _, rfl, hv⟩
  obtain ⟨v, rfl, hv⟩ := hR
  have hp10 := (hp.same (shown_same k9)).same s910
  have z89 := (shown_same k9).size
  have z910 := s910.size
  refine den_norm (by simp only [List.cons_append, List.nil_append]; rfl) (den_split_false ?_ ?_)
  · obtain ⟨g, caps, Ft, rfl, h2⟩ := hv.ex
    rfl
  refine den_callR (fun w l w' => ∃ v, l = [v] ∧ Mine intE 3 w' v (ofN 1 L L.length) ∧ ∀ g, v.ownBlock = some g → w.heap.size ≤ g) (fun w11 k11 => ?_) (fun w11 l w12 k11 hf hR s1112 => ?_)
  · refine (c18 _ L 1 w11 (hp10.ref.1.same (shown_same k11)) (by omega)).mono fun v w' hv => ?_
    obtain ⟨av, cv, hv'⟩ := hv.1.slice
    exact ⟨[v], ⟨⟨_, _, _, hv'⟩, trivial⟩, rfl, v, rfl, hv⟩
  obtain ⟨u, rfl, hu, hgu⟩ := hR
  have s1012 := (shown_same k11).trans s1112
  have hp12 := hp10.same s1012
  have hv12 := hv.kept s1012 (fun _ _ _ _ h => h)
  have z1011 := (shown_same k11).size
  have z1112 := s1112.size
  have gu : ∀ g, u.ownBlock = some g → w11.heap.size ≤ g ∧ g < w12.heap.size := fun g hg => ⟨hgu g hg, hu.lt hg⟩
  obtain ⟨au, cu, eu⟩ := hu.slice
  refine den_norm (by simp only [List.cons_append, List.nil_append]; rfl) (den_blk fun b23 k23 _ k230 => den_norm (by simp only [List.cons_append, List.nil_append]; rfl) ?_)
  have z23b : w12.heap.size ≤ b23 := k23
  refine den_callR (fun w l w' => ∃ bp sp, l = [pt bp] ∧ PoolAt w' bp sp L ∧ w.heap.size ≤ bp ∧ ∀ g, sp.ownBlock = some g → w.heap.size ≤ g) (fun w13 k13 => ?_) (fun w13 l w14 k13 hf hR s1314 => ?_)
  · refine (c19 (pt b) L w13 (hp12.ord.r.same (shown_new k13 fun y hy => by simp [BlkIn, nth, blkOf, vaddr] at hy; omega)) hp.ok.ne (by omega)).mono fun v w' ⟨b', s', hv, h3, h4, h5⟩ => ?_
    exact ⟨[pt b'], ⟨⟨_, rfl⟩, trivial⟩, hv, b', s', rfl, h3, h4, h5⟩
  obtain ⟨bp, sp, rfl, hC, hbp, hsp⟩ := hR
  have s1213 : Same w12 w13 := shown_new k13 fun y hy => by simp [BlkIn, nth, blkOf, vaddr] at hy; omega
  have s1214 := s1213.trans s1314
  have l23 := k13.lt (i := 23) (b := b23) (by simp [keys]) rfl
  have z1213 := s1213.size
  have z1314 := s1314.size
  have hp14 := hp12.same s1214
  have hv14 := hv12.kept s1214 (fun _ _ _ _ h => h)
  have hu14 := hu.same s1214
  have f8 := hPl
  have cp : ∀ y, MP bp sp y → w13.heap.size ≤ y ∧ y < w14.heap.size := fun y hy => ⟨by rcases hy with rfl | hy; exact hbp; exact hsp y hy, hC.foot y hy⟩
  have hMt : ∀ ad, vaddr t' = some ad → ¬ MP b s ad.block := fun ad had e => by
    rcases e with e | e
    · exact (hp.sep ad had).1 e
    · exact (hp.sep ad had).2 e
  refine den_norm (by simp only [List.cons_append, List.nil_append]; rfl) ?_
  refine den_callM (fun _ => MP b s) (fun w15 l w16 => ∃ t2, l = [t2, .bool true] ∧ Pair w16 b s t2 (actL L x1) ∧ ∀ y, Foot b s t2 y → Foot b s t' y ∨ w15.heap.size ≤ y) (fun w15 k15 y hy _ => ?_) (fun w15 k15 => ?_) (fun w15 l w16 k15 hf hR k16 => ?_)
  · have := hfo y (.inl hy)
    have := f8 y (.inl hy)
    exact ⟨fun hd => (by cases hd), fun hlt => absurd (show y < w.heap.size from hlt) (by omega), fun hin => (by simp [BlkIn, nth, blkOf, vaddr] at hin; omega), fun _ => (hp14.same (shown_same k15)).ord.notRec hy⟩
  · refine (c15 b s t' L x1 w15 (hp14.same (shown_same k15))).mono (fun v w' ⟨t2, hv, hp2, hf2⟩ _ => ?_) (fun _ _ h => h)
    obtain ⟨a', c', e'⟩ := hp2.ref.1.slice
    exact ⟨[t2, .bool true], ⟨⟨_, _, _, e'⟩, ⟨_, rfl⟩, trivial⟩, hv, ⟨t2, rfl, hp2, hf2⟩, trivial⟩
  obtain ⟨t1, rfl, hp16, hf16⟩ := hR
  have z1415 := (shown_same k15).size
  have z1516 := k16.size
  have hl16 := hp16.lt
  have hC16 : PoolAt w16 bp sp L := (hC.same (shown_same k15)).kept k16 (fun e => by have := cp bp (.inl rfl); have := f8 _ (.inl e); omega) fun g hg e => by have := cp g (.inr hg); have := f8 _ (.inl e); omega
  have hv16 := (hv14.kept (shown_same k15) (fun _ _ _ _ h => h)).kept k16 fun y q1 q2 _ e => by have := f8 _ (.inl e); omega
  have hu16 := (hu14.same (shown_same k15)).kept k16 fun g hg e => by have := gu g hg; have := f8 _ (.inl e); omega
  have ht16 := (hp14.ref.same (shown_same k15)).kept k16 hMt
  refine den_norm (by simp only [List.cons_append, List.nil_append]; rfl) ?_
  refine den_callM (fun _ => MP bp sp) (fun w17 l w18 => ∃ t2, l = [t2, .bool true] ∧ Pair w18 bp sp t2 (actL L x2) ∧ ∀ y, Foot bp sp t2 y → Foot bp sp t' y ∨ w17.heap.size ≤ y) (fun w17 k17 y hy _ => ?_) (fun w17 k17 => ?_) (fun w17 l w18 k17 hf hR k18 => ?_)
  · have := cp y hy
    have := hfo b (.inl (.inl rfl))
    have := f8 b (.inl (.inl rfl))
    exact ⟨fun hd => (by cases hd), fun hlt => absurd (show y < w.heap.size from hlt) (by omega), fun hin => (by simp [BlkIn, nth, blkOf, vaddr] at hin; omega), fun _ => (hC16.same (shown_same k17)).notRec hy⟩
  · refine (c15 bp sp t' L x2 w17 ⟨hC16.same (shown_same k17), ht16.same (shown_same k17), hp.ok, fun ad had => ⟨fun e => ?_, fun e => ?_⟩⟩).mono (fun v w' ⟨t2, hv, hp2, hf2⟩ _ => ?_) (fun _ _ h => h)
    · have := f8 _ (.inr ⟨ad, had, rfl⟩); have := cp bp (.inl rfl); omega
    · have := f8 _ (.inr ⟨ad, had, rfl⟩); have := cp _ (.inr e); omega
    · obtain ⟨a', c', e'⟩ := hp2.ref.1.slice
      exact ⟨[t2, .bool true], ⟨⟨_, _, _, e'⟩, ⟨_, rfl⟩, trivial⟩, hv, ⟨t2, rfl, hp2, hf2⟩, trivial⟩
  obtain ⟨t2, rfl, hq18, hf18⟩ := hR
  have z1617 := (shown_same k17).size
  have z1718 := k18.size
  have hp18 : Pair w18 b s t1 (actL L x1) := (hp16.same (shown_same k17)).kept k18 fun y hy e => by
    have := cp y e
    rcases hf16 y hy with h | h
    · have := f8 y h; omega
    · have := hl16 y hy; omega
  have hv18 := (hv16.kept (shown_same k17) (fun _ _ _ _ h => h)).kept k18 fun y q1 q2 _ e => by have := cp y e; omega
  have hu18 := (hu16.same (shown_same k17)).kept k18 fun g hg e => by have := gu g hg; have := cp g e; omega
  have hl18 := hp18.lt
  have hm18 := hq18.lt
  have hpf : ∀ y, Foot b s t1 y → w1.heap.size ≤ y ∧ y ≠ b23 := fun y hy => by
    rcases hf16 y hy with h | h
    · have := hfo y h; have := f8 y h; exact ⟨by omega, by omega⟩
    · have := hfo b (.inl (.inl rfl)); have := f8 b (.inl (.inl rfl)); exact ⟨by omega, by omega⟩
  have hqf : ∀ y, Foot bp sp t2 y → w1.heap.size ≤ y ∧ y ≠ b23 := fun y hy => by
    have := hfo b (.inl (.inl rfl)); have := f8 b (.inl (.inl rfl))
    rcases hf18 y hy with (h | ⟨ad, had, rfl⟩) | h
    · have := cp y h; exact ⟨by omega, by omega⟩
    · have := hfo _ (.inr ⟨ad, had, rfl⟩); have := f8 _ (.inr ⟨ad, had, rfl⟩); exact ⟨by omega, by omega⟩
    · exact ⟨by omega, by omega⟩
  have hol := ofN_length (st := 1) (L := L) (Nat.le_refl _)
  have hcl : cntTo 1 L L.length ≤ L.length := by simp [cntTo]; exact List.length_filter_le _ _
  refine den_norm (by simp only [List.cons_append, List.nil_append]; rfl) (den_blk fun b29 k29 _ k290 => den_norm (by simp only [List.cons_append, List.nil_append]; rfl) ?_)
  have z29 : w18.heap.size ≤ b29 := k29
  have hz : w1.heap.size ≤ w9.heap.size := by have := hfo b (.inl (.inl rfl)); have := f8 b (.inl (.inl rfl)); omega
  refine den_range (eachF 1 0 L) (fun k l wx => l = [.int .i64 k] ∧ (k = 0 ∨ (k : Int) < many) ∧ Mine intE 3 wx u (ofN 1 L L.length) ∧ Pair wx b s t1 (actL L x1) ∧ Pair wx bp sp t2 (actL L x2)) w9.heap.size w10.heap.size ?_ ?_ ?_ (fun w19 k19 => ?_) ?_ ?_
  · intro x hx
    obtain ⟨i, hi⟩ := List.getElem?_of_mem hx
    obtain ⟨j, y, _, _, _, rfl⟩ := eachF_inv hi
    exact ⟨⟨_, rfl⟩, ⟨_, rfl⟩, trivial⟩
  · intro y hy
    simp [BlkIn, nth, blkOf, vaddr] at hy
    omega
  · intro w19 k19
    exact hv18.kept (shown_new k19 fun y hy => by simp [BlkIn, nth, blkOf, vaddr] at hy; omega) fun b _ _ _ h => h
  · have sm : Same w18 w19 := shown_new k19 fun y hy => by simp [BlkIn, nth, blkOf, vaddr] at hy; omega
    exact ⟨rfl, .inl rfl, hu18.same sm, hp18.same sm, hq18.same sm⟩
  · rintro w19 Ft k19 k x hx l hl w0 w' ⟨rfl, hkm, hm0, hp0, hq0⟩ hq hk' hfa' hFt
    obtain ⟨i, y, hy, hys, hci, rfl⟩ := eachF_inv hx
    have hi := (List.getElem?_eq_some_iff.1 hy).1
    have hm' := hm0.quiet hq
    have hp' := hp0.quiet hq
    have hq' := hq0.quiet hq
    have hof : (ofN 1 L L.length)[k]? = some (i : Int) := by rw [← hci]; exact ofN_get (Nat.le_refl _) hi hy hys
    have hkl := (List.getElem?_eq_some_iff.1 hof).1
    subst eu
    refine den_norm (by simp only [List.cons_append, List.nil_append]; rfl) (den_splitLe (fun e => ?_) (fun e => ?_))
    · have : ((ofN 1 L L.length).length : Int) ≤ k := e
      omega
    refine den_idx2 (E := intE) (L := ofN 1 L L.length) (i : Int) k [.int .i64 i] hm'.arr rfl (by decide) rfl hof ⟨⟨_, rfl⟩, trivial⟩ (whole _) (fun w h => hm'.arr.same (shown_same h)) (fun ad had => ?_) (fun w20 k20 => den_norm (by simp only [List.cons_append, List.nil_append]; rfl) (den_splitNot (fun e => ?_) (fun _ => ?_)))
    · have := gu _ (hu.own had)
      simp [BlkIn, nth, blkOf, vaddr] <;> omega
    · simp [BE.den, IE.den, nth, vint] at e
    have m20 := hm'.same (shown_same k20)
    have p20 := hp'.same (shown_same k20)
    have q20 := hq'.same (shown_same k20)
    refine den_ob64 (by simp only [IE.den, nth, vint]; omega) (den_splitLe (fun hle => ?_) (fun hgt => ?_))
    · have hle' : many ≤ (k : Int) + 1 := hle
      refine den_resume fun w21 k21 w22 hq22 hk22 => ?_
      have p22 := (p20.kept k21.kept fun y hy hin => by have := hpf y hy; have := hl18 y hy; simp [BlkIn, nth, blkOf, vaddr] at hin; omega).quiet hq22
      have q22 := (q20.kept k21.kept fun y hy hin => by have := hqf y hy; have := hm18 y hy; simp [BlkIn, nth, blkOf, vaddr] at hin; omega).quiet hq22
      refine den_splitEq (fun _ => ?_) (fun hne => ?_)
      · refine den_split_true rfl (den_split_true rfl ?_)
        refine den_call_bool (b := true) (fun w23 k23 => c16 b s t1 _ w23 (p22.same (shown_same k23))) rfl fun w23 w24 k23 k24 => den_norm (by simp only [List.cons_append, List.nil_append]; rfl) (den_split_true rfl ?_)
        refine den_call_bool (b := true) (fun w25 k25 => c16 bp sp t2 _ w25 (q22.same (((shown_same k23).trans k24).trans (shown_same k25)))) rfl fun w25 w26 k25 k26 => den_norm (by simp only [List.cons_append, List.nil_append]; rfl) (den_split_true rfl ?_)
        refine den_call_bool (b := true) (fun w27 k27 => c8 w27) rfl fun w27 w28 k27 k28 => den_norm (by simp only [List.cons_append, List.nil_append]; rfl) ?_
        exact fun w13 h13 w14 hq14 hk14 => (if_neg (by decide)).mpr ⟨_, rfl, by simp [SV.den, denL, IE.den, BE.den, nth, vint, vbool, vaddr, addO, addr_add], hk14⟩
      · exfalso
        simp [IE.den, nth, vint, vlen] at hne
        omega
    · have hgt' : (k : Int) + 1 < many := hgt
      exact den_leaf_round hFt fun w21 k21 => ⟨by simp [SV.den, denL, IE.den, BE.den, nth, vint, vbool, vaddr, addO, addr_add], .inr (by simpa using hgt'), m20.kept k21.kept fun g hg hin => by have := gu g hg; simp [BlkIn, nth, blkOf, vaddr] at hin; omega, p20.kept k21.kept fun y hy hin => by have := hpf y hy; have := hl18 y hy; simp [BlkIn, nth, blkOf, vaddr] at hin; omega, q20.kept k21.kept fun y hy hin => by have := hqf y hy; have := hm18 y hy; simp [BlkIn, nth, blkOf, vaddr] at hin; omega⟩
  · rintro w19 k19 l hl w0 w' ⟨rfl, hkm, hm0, hp0, hq0⟩ hq hk' hfa'
    have p22 := hp0.quiet hq
    have q22 := hq0.quiet hq
    rw [eachF_length] at hkm
    subst eu
    refine den_norm (by simp only [List.cons_append, List.nil_append]; rfl) (den_splitEq (fun _ => ?_) (fun hne => ?_))
    · refine den_split_true rfl (den_split_true rfl ?_)
      refine den_call_bool (b := true) (fun w23 k23 => c16 b s t1 _ w23 (p22.same (shown_same k23))) rfl fun w23 w24 k23 k24 => den_norm (by simp only [List.cons_append, List.nil_append]; rfl) (den_split_true rfl ?_)
      refine den_call_bool (b := true) (fun w25 k25 => c16 bp sp t2 _ w25 (q22.same (((shown_same k23).trans k24).trans (shown_same k25)))) rfl fun w25 w26 k25 k26 => den_norm (by simp only [List.cons_append, List.nil_append]; rfl) (den_split_true rfl ?_)
      refine den_call_bool (b := true) (fun w27 k27 => c8 w27) rfl fun w27 w28 k27 k28 => den_norm (by simp only [List.cons_append, List.nil_append]; rfl) ?_
      exact fun w13 h13 w14 hq14 hk14 => (if_neg (by decide)).mpr ⟨_, rfl, by simp [SV.den, denL, IE.den, BE.den, nth, vint, vbool, vaddr, addO, addr_add], hk14⟩
    · exfalso
      simp [IE.den, nth, vint, vlen, eachF_length] at hne
      omega
end Go.Proofs.Ytdinjabnfjoojaa
