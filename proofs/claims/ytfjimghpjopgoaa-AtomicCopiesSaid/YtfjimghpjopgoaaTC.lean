/- The law AtomicCopies' walk: it returns true for every list of calls. No conditions beyond those that each theorem names. -/
import Derived.Test.YtfjimghpjopgoaaS
import Derived.Test.YtfjimghpjopgoaaX
set_option maxRecDepth 100000
set_option maxHeartbeats 2000000
set_option linter.unusedVariables false
set_option linter.unusedSimpArgs false
namespace Go.Proofs.Ytfjimghpjopgoaa
open Go.Sx

theorem hasBlk_notRec {w : World} {b : Nat} {l : List Value} (h : HasBlk w (pt b) l) : ¬ IsRec w b := by
  obtain ⟨x', ty, e, hh⟩ := h
  cases e
  rintro ⟨o, ho, hr⟩
  rw [hh] at ho; cases ho; cases hr
theorem OrdAt.notRec {w : World} {b : Nat} {s : Value} {L : List Cmd} (h : OrdAt w b s L) {x : Nat} (hx : x = b ∨ s.ownBlock = some x) : ¬ IsRec w x := by
  rcases hx with rfl | hx
  · exact hasBlk_notRec h.blk
  · exact h.mine.notRec hx
theorem OrdAt.footlt {w : World} {b : Nat} {s : Value} {L : List Cmd} (h : OrdAt w b s L) {x : Nat} (hx : x = b ∨ s.ownBlock = some x) : x < w.heap.size := by
  rcases hx with rfl | hx
  · exact h.lt
  · exact h.mine.lt hx
def actV (a : ActT) : List Value := [.int .i64 a.wh, .int .i64 a.c.id, .int .i64 a.c.lba, .int .i64 a.c.n, .bool a.c.wr]

theorem c6 (s0 : Value) (A : List ActT) (x1 x2 : ActT) (w : World) (hs : Arr actE w s0 A) : Gives Try.prog 6 [s0, .agg (actV x1 ++ actV x2).toArray] w (.bool true) := by
  refine Runs.gives ?_
  obtain ⟨a0, c0, rfl⟩ := hs.slice
  have h0 := runs mix t6 rfl rfl (ε := .slice a0 A.length c0 :: (actV x1 ++ actV x2)) (w := w) (M := fun _ => False) (R := fun v _ => v = .bool true) ⟨⟨_, _, _, rfl⟩, ⟨_, rfl⟩, ⟨_, rfl⟩, ⟨_, rfl⟩, ⟨_, rfl⟩, ⟨_, rfl⟩, ⟨_, rfl⟩, ⟨_, rfl⟩, ⟨_, rfl⟩, ⟨_, rfl⟩, ⟨_, rfl⟩, trivial⟩ trivial (by simp [keys]) (by simp [keys]) (by simp [keys]) ?_
  · simpa [SV.den, denL, IE.den, BE.den, nth, vint, vbool, vaddr, addO, addr_add, actV] using h0
  refine den_norm (by simp only [actV, List.cons_append, List.nil_append]; rfl) (den_blk fun b11 k11 _ k110 => den_blk fun b12 k12 _ k120 => den_norm (by simp only [List.cons_append, List.nil_append]; rfl) (den_splitLt (fun h => ?_) (fun h => ?_)))
  · exact den_call_bool (b := true) (fun w1 _ => c9 w1) rfl fun _ _ _ _ => den_norm (by simp only [List.cons_append, List.nil_append]; rfl) (den_leafMA _ rfl fun _ _ _ _ => rfl)
  have hA : A.length ≤ 30 := by have h' : (A.length : Int) ≤ 30 := h
                                omega
  refine den_blk fun b13 k13 _ k130 => den_blk fun b14 k14 _ k140 => den_norm (by simp only [List.cons_append, List.nil_append]; rfl) ?_
  have z11 : w.heap.size ≤ b11 := k110
  have z12 : w.heap.size ≤ b12 := k120
  have z13 : w.heap.size ≤ b13 := k130
  have z14 : w.heap.size ≤ b14 := k140
  refine den_loop (fun ls w' => ∃ (j b : Nat) (s t : Value) (L : List Cmd), ls = [.int .i64 j, pt b, t] ∧ j ≤ A.length ∧ Pair w' b s t L ∧ L.length ≤ j ∧ ∀ x, Foot b s t x → w.heap.size ≤ x ∧ x ≠ b11 ∧ x ≠ b12 ∧ x ≠ b14) (fun ls _ => A.length - (vint (nth ls 0)).toNat) (fun w1 h1 => ?_) ?_
  · refine ⟨0, b13, .slice none 0 0, .slice none 0 0, [], by simp [SV.den, denL, IE.den, BE.den, nth, vint, vbool, vaddr, addO, addr_add], by omega, pair_nil h1.facts.2.1, by simp, fun x hx => ?_⟩
    rcases hx with rfl | hx | ⟨ad, had, _⟩
    · exact ⟨z13, fun e => h1.dj 13 11 (by simp [keys]) (by simp [keys]) (by decide) (by simp [nth, blkOf, vaddr, e]), fun e => h1.dj 13 12 (by simp [keys]) (by simp [keys]) (by decide) (by simp [nth, blkOf, vaddr, e]), fun e => h1.dj 13 14 (by simp [keys]) (by simp [keys]) (by decide) (by simp [nth, blkOf, vaddr, e])⟩
    · cases hx
    · cases had
  rintro w1 l w2 h1 hf ⟨j, b, s, t, L, rfl, hj, hP, hLj, hfo⟩ hk hfa
  obtain ⟨at_, ct, ht⟩ := hP.ref.1.slice
  have hPl := hP.lt
  refine den_norm (by simp only [List.cons_append, List.nil_append]; rfl) (den_splitLt (fun h => ?_) (fun h => ?_))
  · have hlt : j < A.length := by simpa [IE.den, nth, vint, vlen] using h
    have hx : A[j]? = some A[j] := by simp [hlt]
    generalize A[j] = x at hx
    intro w3 h3
    refine ⟨fun x => w.heap.size ≤ x, fun x hx => by simp [BlkIn, nth, blkOf, vaddr] at hx; omega, ?_⟩
    have old : ∀ ad, vaddr (.slice a0 A.length c0) = some ad → ¬ w.heap.size ≤ ad.block := fun ad had => by have := hs.lt hx (by decide) ad had; omega
    refine den_idxD (E := actE) (L := A) x j (actE.enc x) rfl (by decide) rfl hx ⟨⟨_, rfl⟩, ⟨_, rfl⟩, ⟨_, rfl⟩, ⟨_, rfl⟩, ⟨_, rfl⟩, trivial⟩ (whole _) (hs.same h3.base) old ?_
    refine den_norm (by simp only [List.cons_append, List.nil_append, actE]; rfl) ?_
    refine den_callM (fun _ y => y = b ∨ s.ownBlock = some y) (fun w4 l w5 => ∃ b' s' t', l = [pt b', t', .bool true] ∧ Pair w5 b' s' t' (actL L x.wh x.c) ∧ ∀ y, Foot b' s' t' y → Foot b s t y ∨ w4.heap.size ≤ y) (fun w4 h4 y hy _ => ?_) (fun w4 h4 => ?_) (fun w4 l w5 h4 hf' hR hk5 => ?_)
    · have hfy' : Foot b s t y := by rcases hy with hy | hy; exact .inl hy; exact .inr (.inl hy)
      have hfy := hfo y hfy'
      refine ⟨fun _ => hfy.1, fun hlt => absurd (show y < w.heap.size from hlt) (by omega), fun hin => ?_, fun _ => ((hP.same (shown_same h3)).same (shown_same h4)).ord.notRec hy⟩
      simp [BlkIn, nth, blkOf, vaddr] at hin
      omega
    · refine (c23 b s t L x.wh x.c w4 ((hP.same (shown_same h3)).same (shown_same h4)) (by omega)).mono (fun v w' ⟨b', s', t', hv, h5, h6⟩ _ => ?_) (fun _ _ h => h)
      obtain ⟨a', c', e'⟩ := h5.ref.1.slice
      exact ⟨[pt b', t', .bool true], ⟨⟨_, rfl⟩, ⟨_, _, _, e'⟩, ⟨_, rfl⟩, trivial⟩, hv, ⟨b', s', t', rfl, h5, h6⟩, trivial⟩
    obtain ⟨b', s', t', rfl, hP5, hfo5⟩ := hR
    have l14 := h4.lt (i := 14) (b := b14) (by simp [keys]) rfl
    have l12 := h4.lt (i := 12) (b := b12) (by simp [keys]) rfl
    have l11 := h4.lt (i := 11) (b := b11) (by simp [keys]) rfl
    have z04 : w.heap.size ≤ w4.heap.size := h4.base.size
    have fo5 : ∀ y, Foot b' s' t' y → w.heap.size ≤ y ∧ y ≠ b11 ∧ y ≠ b12 ∧ y ≠ b14 := fun y hy => by
      rcases hfo5 y hy with h | h
      · exact hfo y h
      · exact ⟨by omega, by omega, by omega, by omega⟩
    have hLl := actL_length L x.wh x.c
    refine den_norm (by simp only [List.cons_append, List.nil_append]; rfl) (den_ob64 (by simp only [IE.den, nth, vint]; omega) (den_leaf' fun w6 h6 => (if_pos rfl).mpr ⟨⟨j + 1, b', s', t', actL L x.wh x.c, by simp [SV.den, denL, IE.den, BE.den, nth, vint, vbool, vaddr, addO, addr_add], by omega, hP5.kept h6.kept fun y hy hin => ?_, by omega, fo5⟩, ?_⟩))
    · have := fo5 y hy
      simp [BlkIn, nth, blkOf, vaddr] at hin
      omega
    · simp [SV.den, denL, IE.den, BE.den, nth, vint, vbool, vaddr, addO, addr_add]
      omega
  intro w3 h3
  have hP3 := hP.same (shown_same h3)
  have l14 := h3.lt (i := 14) (b := b14) (by simp [keys]) rfl
  have l12 := h3.lt (i := 12) (b := b12) (by simp [keys]) rfl
  have l11 := h3.lt (i := 11) (b := b11) (by simp [keys]) rfl
  have hPl3 := hP3.lt
  have hLm : L.length ≤ 30 := by omega
  have z03 : w.heap.size ≤ w3.heap.size := h3.base.size
  refine ⟨fun _ => True, fun _ _ => trivial, den_both ?_ ?_⟩
  · refine den_callR (fun w l w' => ∃ bp sp, l = [pt bp] ∧ OrdAt w' bp sp L ∧ w.heap.size ≤ bp ∧ ∀ g, sp.ownBlock = some g → w.heap.size ≤ g) (fun w4 h4 => ?_) (fun wa l wb ha hf hR hsab => ?_)
    · refine (c24 (pt b) L w4 (hP3.same ((Kept.refl _ w3).trans (shown_same h4))).ord.r (by omega)).mono fun v w' ⟨b', s', hv, h3, h4, h5⟩ => ?_
      exact ⟨[pt b'], ⟨⟨_, rfl⟩, trivial⟩, hv, b', s', rfl, h3, h4, h5⟩
    obtain ⟨bp, sp, rfl, hC, hbp, hsp⟩ := hR
    have sC := ((Kept.refl _ w3).trans (shown_same ha)).trans hsab
    refine den_norm (by simp only [List.cons_append, List.nil_append]; rfl) ?_ 
    refine den_both ?_ ?_
    · refine den_callR (fun w l w' => ∃ v, l = [v] ∧ SeqAt Try.prog w.heap.size w'.heap.size w' v ((eachL L).map fun x => (yvals Try.prog [3, 4] x).toArray)) (fun w4 h4 => ?_) (fun wd l we hd hf hR hsde => ?_)
      · refine (c25 (pt b) L w4 (hP3.same (sC.trans (shown_same h4))).ord.r (by omega)).mono fun v w' hv => ?_
        obtain ⟨g, caps, Ft, rfl, h2⟩ := hv.ex
        exact ⟨[.func (.func g) #[] caps], ⟨rfl, trivial⟩, rfl, _, rfl, hv⟩
      obtain ⟨v, rfl, hv⟩ := hR
      have sE := (sC.trans (shown_same hd)).trans hsde
      refine den_norm (by simp only [List.cons_append, List.nil_append]; rfl) ?_
      refine den_blk fun b20 k20 _ k200 => den_norm (by simp only [List.cons_append, List.nil_append]; rfl) ?_
      have hCe := hC.same ((shown_same hd).trans hsde)
      have h20 : (b20 < wd.heap.size ∨ we.heap.size ≤ b20) ∧ (b20 < wa.heap.size ∨ wb.heap.size ≤ b20) ∧ w3.heap.size ≤ b20 := ⟨.inr k20, .inr (by have := (shown_same hd).size; have := hsde.size; omega), by have := sE.size; omega⟩
      have z3a : w3.heap.size ≤ wa.heap.size := (shown_same ha).size
      have zab := hsab.size
      have zbd : wb.heap.size ≤ wd.heap.size := (shown_same hd).size
      have zde := hsde.size
      have hPe := hP3.same sE
      have h20' := h20
      obtain ⟨d1, d2, d3⟩ := h20
      have f3 : ∀ y, Foot b s t y → y < w3.heap.size := hPl3
      have cp : ∀ y, (y = bp ∨ sp.ownBlock = some y) → wa.heap.size ≤ y ∧ y < wb.heap.size := fun y hy => ⟨by rcases hy with rfl | hy; exact hbp; exact hsp y hy, hC.footlt hy⟩
      have hMt : ∀ ad, vaddr t = some ad → ¬ (ad.block = b ∨ s.ownBlock = some ad.block) := fun ad had e => by
        rcases e with e | e
        · exact (hP.sep ad had).1 e
        · exact (hP.sep ad had).2 e
      have ftb : ∀ y, (y = b ∨ s.ownBlock = some y) → Foot b s t y := fun y hy => by rcases hy with hy | hy; exact .inl hy; exact .inr (.inl hy)
      refine den_callM (fun _ y => y = b ∨ s.ownBlock = some y) (fun w4 l w5 => ∃ b' s' t', l = [pt b', t', .bool true] ∧ Pair w5 b' s' t' (actL L x1.wh x1.c) ∧ ∀ y, Foot b' s' t' y → Foot b s t y ∨ w4.heap.size ≤ y) (fun w4 h4 y hy _ => ?_) (fun w4 h4 => ?_) (fun w4 l w5 h4 hf' hR hk5 => ?_)
      · have q := hfo y (ftb y hy)
        have q2 := f3 y (ftb y hy)
        refine ⟨fun hd => (by cases hd), fun hlt => absurd (show y < w.heap.size from hlt) (by omega), fun hin => ?_, fun _ => (hPe.kept h4.kept fun z hz hin => ?_).ord.notRec hy⟩
        · simp [BlkIn, nth, blkOf, vaddr] at hin
          omega
        · have := f3 z hz
          simp [BlkIn, nth, blkOf, vaddr] at hin
          omega
      · refine (c23 b s t L x1.wh x1.c w4 (hPe.kept h4.kept fun z hz hin => ?_) (by omega)).mono (fun v w' ⟨b', s', t', hv, h5, h6⟩ _ => ?_) (fun _ _ h => h)
        · have := f3 z hz
          simp [BlkIn, nth, blkOf, vaddr] at hin
          omega
        · obtain ⟨a', c', e'⟩ := h5.ref.1.slice
          exact ⟨[pt b', t', .bool true], ⟨⟨_, rfl⟩, ⟨_, _, _, e'⟩, ⟨_, rfl⟩, trivial⟩, hv, ⟨b', s', t', rfl, h5, h6⟩, trivial⟩
      obtain ⟨b', s', t', rfl, hP5, hfo5⟩ := hR
      have ze4 : we.heap.size ≤ w4.heap.size := h4.kept.size
      have z45 : w4.heap.size ≤ w5.heap.size := hk5.size
      have hC4 : OrdAt w4 bp sp L := hCe.kept h4.kept (fun hin => by have := cp bp (.inl rfl); simp [BlkIn, nth, blkOf, vaddr] at hin; omega) fun g hg hin => by have := cp g (.inr hg); simp [BlkIn, nth, blkOf, vaddr] at hin; omega
      have hC5 : OrdAt w5 bp sp L := hC4.kept hk5 (fun e => by have := cp bp (.inl rfl); have := f3 _ (ftb _ e); omega) fun g hg e => by have := cp g (.inr hg); have := f3 _ (ftb _ e); omega
      have hv4 := hv.kept h4.kept fun y q1 q2 _ hin => by simp [BlkIn, nth, blkOf, vaddr] at hin; omega
      have hv5 := hv4.kept hk5 fun y q1 q2 _ e => by have := f3 _ (ftb _ e); omega
      have ht5 : RefL w5 t L := (hPe.ref.kept h4.kept fun ad had hin => by have := f3 _ (.inr (.inr ⟨ad, had, rfl⟩)); simp [BlkIn, nth, blkOf, vaddr] at hin; omega).kept hk5 hMt
      have lx : ∀ y, Foot b' s' t' y → (y < w3.heap.size ∧ y ≠ b11 ∧ y ≠ b12 ∧ y ≠ b14 ∧ w.heap.size ≤ y) ∨ w4.heap.size ≤ y := fun y hy => by
        rcases hfo5 y hy with h | h
        · exact .inl ⟨f3 y h, (hfo y h).2.1, (hfo y h).2.2.1, (hfo y h).2.2.2, (hfo y h).1⟩
        · exact .inr h
      have hl5 := hP5.lt
      refine den_norm (by simp only [List.cons_append, List.nil_append]; rfl) (den_blk fun b24 k24 _ k240 => den_norm (by simp only [List.cons_append, List.nil_append]; rfl) ?_)
      refine den_callM (fun _ y => y = bp ∨ sp.ownBlock = some y) (fun w6 l w7 => ∃ b' s' t', l = [pt b', t', .bool true] ∧ Pair w7 b' s' t' (actL L x2.wh x2.c) ∧ ∀ y, Foot b' s' t' y → Foot bp sp t y ∨ w6.heap.size ≤ y) (fun w6 h6 y hy _ => ?_) (fun w6 h6 => ?_) (fun w6 l w7 h6 hf' hR hk7 => ?_)
      · have q := cp y hy
        refine ⟨fun hd => (by cases hd), fun hlt => absurd (show y < w.heap.size from hlt) (by omega), fun hin => ?_, fun _ => (hC5.kept h6.kept (fun hin => ?_) fun g hg hin => ?_).notRec hy⟩
        · simp [BlkIn, nth, blkOf, vaddr] at hin
          omega
        · have := cp bp (.inl rfl); simp [BlkIn, nth, blkOf, vaddr] at hin; omega
        · have := cp g (.inr hg); simp [BlkIn, nth, blkOf, vaddr] at hin; omega
      · have hC6 : OrdAt w6 bp sp L := hC5.kept h6.kept (fun hin => by have := cp bp (.inl rfl); simp [BlkIn, nth, blkOf, vaddr] at hin; omega) fun g hg hin => by have := cp g (.inr hg); simp [BlkIn, nth, blkOf, vaddr] at hin; omega
        have ht6 : RefL w6 t L := ht5.kept h6.kept fun ad had hin => by have := f3 _ (.inr (.inr ⟨ad, had, rfl⟩)); simp [BlkIn, nth, blkOf, vaddr] at hin; omega
        refine (c23 bp sp t L x2.wh x2.c w6 ⟨hC6, ht6, fun ad had => ⟨fun e => ?_, fun e => ?_⟩⟩ (by omega)).mono (fun v w' ⟨b', s', t', hv, h5, h6⟩ _ => ?_) (fun _ _ h => h)
        · have := f3 _ (.inr (.inr ⟨ad, had, rfl⟩)); have := cp bp (.inl rfl); omega
        · have := f3 _ (.inr (.inr ⟨ad, had, rfl⟩)); have := cp _ (.inr e); omega
        · obtain ⟨a', c', e'⟩ := h5.ref.1.slice
          exact ⟨[pt b', t', .bool true], ⟨⟨_, rfl⟩, ⟨_, _, _, e'⟩, ⟨_, rfl⟩, trivial⟩, hv, ⟨b', s', t', rfl, h5, h6⟩, trivial⟩
      obtain ⟨b2, s2, t2, rfl, hP7, hfo7⟩ := hR
      have z56 : w5.heap.size ≤ w6.heap.size := h6.kept.size
      have z67 : w6.heap.size ≤ w7.heap.size := hk7.size
      have hP6' : Pair w6 b' s' t' (actL L x1.wh x1.c) := hP5.kept h6.kept fun y hy hin => by have := hl5 y hy; simp [BlkIn, nth, blkOf, vaddr] at hin; omega
      have hP7' : Pair w7 b' s' t' (actL L x1.wh x1.c) := hP6'.kept hk7 fun y hy e => by have := cp y e; have := lx y hy; omega
      have hv6 := hv5.kept h6.kept fun y q1 q2 _ hin => by simp [BlkIn, nth, blkOf, vaddr] at hin; omega
      have hv7 := hv6.kept hk7 fun y q1 q2 _ e => by have := cp y e; omega
      have ht7 : RefL w7 t L := (ht5.kept h6.kept fun ad had hin => by have := f3 _ (.inr (.inr ⟨ad, had, rfl⟩)); simp [BlkIn, nth, blkOf, vaddr] at hin; omega).kept hk7 fun ad had e => by have := f3 _ (.inr (.inr ⟨ad, had, rfl⟩)); have := cp _ e; omega
      have hl7 := hP7.lt
      have hl7' := hP7'.lt
      refine den_norm (by simp only [List.cons_append, List.nil_append]; rfl) (den_blk fun b28 k28 _ k280 => den_norm (by simp only [List.cons_append, List.nil_append]; rfl) (den_split_false ?_ (den_splitNot (fun e => by cases e) (fun _ => den_splitNot (fun e => by cases e) (fun _ => ?_)))))
      · obtain ⟨g, caps, Ft, rfl, h2⟩ := hv.ex
        rfl
      have n1 := actL_length L x1.wh x1.c
      have n2 := actL_length L x2.wh x2.c
      refine den_call_bool (b := true) (fun w8 h8 => ?_) rfl (fun w8 w9 h8 h9 => den_norm (by simp only [List.cons_append, List.nil_append]; rfl) (den_splitNot (fun e => by cases e) (fun _ => ?_)))
      · have hp := hP7'.kept h8.kept fun y hy hin => by have := hl7' y hy; simp [BlkIn, nth, blkOf, vaddr] at hin; omega
        exact c26 (pt b') t' _ 99 w8 hp.ord.r hp.ref.1 (by omega)
      have n89 : Same w7 w9 := (shown_new h8 fun y hy => by simp [BlkIn, nth, blkOf, vaddr] at hy; omega).trans h9
      refine den_call_bool (b := true) (fun w10 h10 => ?_) rfl (fun w10 w11 h10 h11 => den_norm (by simp only [List.cons_append, List.nil_append]; rfl) (den_splitNot (fun e => by cases e) (fun _ => den_blk fun b31 k31 _ k310 => den_norm (by simp only [List.cons_append, List.nil_append]; rfl) ?_)))
      · have hp := hP7.same (n89.trans (shown_same h10))
        exact c26 (pt b2) t2 _ 99 w10 hp.ord.r hp.ref.1 (by omega)
      have n11 : Same w7 w11 := (n89.trans (shown_same h10)).trans h11
      have hv11 := hv7.kept n11 fun _ _ _ _ h => h
      have ht11 := ht7.same n11
      have z711 := n11.size
      have tl : ∀ ad, vaddr t = some ad → ad.block < w3.heap.size := fun ad had => f3 _ (.inr (.inr ⟨ad, had, rfl⟩))
      refine den_range (eachL L) (fun k l wx => l = [.int .i64 k] ∧ Arr cmdE wx t L) wd.heap.size we.heap.size ?_ ?_ ?_ (fun w12 h12 => ⟨rfl, ht11.1.kept h12.kept fun ad had _ hin => by have := tl ad had; simp [BlkIn, nth, blkOf, vaddr] at hin; omega⟩) ?_ ?_
      · intro x hx
        obtain ⟨i, hi⟩ := List.getElem?_of_mem hx
        simp only [eachL, List.getElem?_mapIdx, Option.map_eq_some_iff] at hi
        obtain ⟨c, _, rfl⟩ := hi
        exact ⟨⟨_, rfl⟩, ⟨_, rfl⟩, trivial⟩
      · intro y hy
        simp [BlkIn, nth, blkOf, vaddr] at hy
        omega
      · intro w12 h12
        exact hv11.kept h12.kept fun y q1 q2 _ hin => by simp [BlkIn, nth, blkOf, vaddr] at hin; omega
      · rintro w12 Ft h12 k x hx l hl w0 w' ⟨rfl, hm0⟩ hq hk' hfa' hFt
        obtain ⟨c, hc, rfl⟩ : ∃ c, L[k]? = some c ∧ x = [.int .i64 c.id, .bool (rdy L k)] := by
          simp only [eachL, List.getElem?_mapIdx, Option.map_eq_some_iff] at hx
          obtain ⟨c, hc, rfl⟩ := hx
          exact ⟨c, hc, rfl⟩
        have hlt : k < L.length := (List.getElem?_eq_some_iff.1 hc).1
        have hm' := hm0.quiet hq
        subst ht
        refine den_norm (by simp only [List.cons_append, List.nil_append]; rfl) (den_splitLe (fun h => ?_) (fun h => ?_))
        · have h' : (L.length : Int) ≤ k := h
          omega
        refine den_idx2 (E := cmdE) (L := L) c k [.int .i64 c.id] hm' rfl (by decide) rfl hc ⟨⟨_, rfl⟩, trivial⟩ (fun m v hv => by cases m with | zero => exact hv | succ m => simp at hv) (fun w5 h5 => hm'.same (shown_same h5)) (fun _ _ => by simp [BlkIn]) fun w13 h13 => den_norm (by simp only [List.cons_append, List.nil_append]; rfl) (den_splitNot (fun h6 => ?_) (fun _ => ?_))
        · simp [BE.den, IE.den, nth, vint] at h6
        refine den_call_bool (b := rdy L k) (fun w14 h14 => c27 _ L k w14 (hm'.same ((shown_same h13).trans (shown_same h14))) hlt (by omega)) rfl (fun w14 w15 h14 h15 => den_norm (by simp only [List.cons_append, List.nil_append]; rfl) (den_splitNot (fun h9 => ?_) (fun _ => ?_)))
        · simp [BE.den, nth, vbool] at h9
        have m15 := hm'.same (((shown_same h13).trans (shown_same h14)).trans h15)
        refine den_ob64 (by simp only [IE.den, nth, vint]; omega) (den_leaf_round hFt fun w16 h16 => ⟨by simp [SV.den, denL, IE.den, BE.den, nth, vint, vbool, vaddr, addO, addr_add], m15.kept h16.kept fun ad had _ hin => ?_⟩)
        have := tl ad had
        simp [BlkIn, nth, blkOf, vaddr] at hin
        omega
      · rintro w12 h12 l hl w0 w' ⟨rfl, hm0⟩ hq hk' hfa'
        subst ht
        refine den_norm (by simp only [List.cons_append, List.nil_append]; rfl) (den_splitEq (fun _ => ?_) (fun hne => ?_))
        · exact den_call_bool (b := true) (fun w13 _ => c9 w13) rfl fun _ _ _ _ => den_norm (by simp only [List.cons_append, List.nil_append]; rfl) (fun w13 h13 w14 hq hk14 => (if_neg (by decide)).mpr ⟨_, rfl, by simp [SV.den, denL, IE.den, BE.den, nth, vint, vbool, vaddr, addO, addr_add], hk14⟩)
        · exact absurd (show ((eachL L).length : Int) = L.length by rw [eachL_length]) hne
    · refine den_blk fun b20 k20 _ k200 => den_norm (by simp only [List.cons_append, List.nil_append]; rfl) ?_
      refine den_callR (fun w l w' => ∃ v, l = [v] ∧ SeqAt Try.prog w.heap.size w'.heap.size w' v ((eachL L).map fun x => (yvals Try.prog [3, 4] x).toArray)) (fun w4 h4 => ?_) (fun wd l we hd hf hR hsde => ?_)
      · refine (c25 (pt b) L w4 (hP3.same (sC.trans (shown_same h4))).ord.r (by omega)).mono fun v w' hv => ?_
        obtain ⟨g, caps, Ft, rfl, h2⟩ := hv.ex
        exact ⟨[.func (.func g) #[] caps], ⟨rfl, trivial⟩, rfl, _, rfl, hv⟩
      obtain ⟨v, rfl, hv⟩ := hR
      have sE := (sC.trans (shown_same hd)).trans hsde
      refine den_norm (by simp only [List.cons_append, List.nil_append]; rfl) ?_
      have hCe := hC.same ((shown_same hd).trans hsde)
      have l20 := hd.lt (i := 19) (b := b20) (by simp [keys]) rfl
      have h20 : (b20 < wd.heap.size ∨ we.heap.size ≤ b20) ∧ (b20 < wa.heap.size ∨ wb.heap.size ≤ b20) ∧ w3.heap.size ≤ b20 := ⟨.inl l20, .inr k20, by have := sC.size; omega⟩
      have z3a : w3.heap.size ≤ wa.heap.size := (shown_same ha).size
      have zab := hsab.size
      have zbd : wb.heap.size ≤ wd.heap.size := (shown_same hd).size
      have zde := hsde.size
      have hPe := hP3.same sE
      have h20' := h20
      obtain ⟨d1, d2, d3⟩ := h20
      have f3 : ∀ y, Foot b s t y → y < w3.heap.size := hPl3
      have cp : ∀ y, (y = bp ∨ sp.ownBlock = some y) → wa.heap.size ≤ y ∧ y < wb.heap.size := fun y hy => ⟨by rcases hy with rfl | hy; exact hbp; exact hsp y hy, hC.footlt hy⟩
      have hMt : ∀ ad, vaddr t = some ad → ¬ (ad.block = b ∨ s.ownBlock = some ad.block) := fun ad had e => by
        rcases e with e | e
        · exact (hP.sep ad had).1 e
        · exact (hP.sep ad had).2 e
      have ftb : ∀ y, (y = b ∨ s.ownBlock = some y) → Foot b s t y := fun y hy => by rcases hy with hy | hy; exact .inl hy; exact .inr (.inl hy)
      refine den_callM (fun _ y => y = b ∨ s.ownBlock = some y) (fun w4 l w5 => ∃ b' s' t', l = [pt b', t', .bool true] ∧ Pair w5 b' s' t' (actL L x1.wh x1.c) ∧ ∀ y, Foot b' s' t' y → Foot b s t y ∨ w4.heap.size ≤ y) (fun w4 h4 y hy _ => ?_) (fun w4 h4 => ?_) (fun w4 l w5 h4 hf' hR hk5 => ?_)
      · have q := hfo y (ftb y hy)
        have q2 := f3 y (ftb y hy)
        refine ⟨fun hd => (by cases hd), fun hlt => absurd (show y < w.heap.size from hlt) (by omega), fun hin => ?_, fun _ => (hPe.kept h4.kept fun z hz hin => ?_).ord.notRec hy⟩
        · simp [BlkIn, nth, blkOf, vaddr] at hin
          omega
        · have := f3 z hz
          simp [BlkIn, nth, blkOf, vaddr] at hin
          omega
      · refine (c23 b s t L x1.wh x1.c w4 (hPe.kept h4.kept fun z hz hin => ?_) (by omega)).mono (fun v w' ⟨b', s', t', hv, h5, h6⟩ _ => ?_) (fun _ _ h => h)
        · have := f3 z hz
          simp [BlkIn, nth, blkOf, vaddr] at hin
          omega
        · obtain ⟨a', c', e'⟩ := h5.ref.1.slice
          exact ⟨[pt b', t', .bool true], ⟨⟨_, rfl⟩, ⟨_, _, _, e'⟩, ⟨_, rfl⟩, trivial⟩, hv, ⟨b', s', t', rfl, h5, h6⟩, trivial⟩
      obtain ⟨b', s', t', rfl, hP5, hfo5⟩ := hR
      have ze4 : we.heap.size ≤ w4.heap.size := h4.kept.size
      have z45 : w4.heap.size ≤ w5.heap.size := hk5.size
      have hC4 : OrdAt w4 bp sp L := hCe.kept h4.kept (fun hin => by have := cp bp (.inl rfl); simp [BlkIn, nth, blkOf, vaddr] at hin; omega) fun g hg hin => by have := cp g (.inr hg); simp [BlkIn, nth, blkOf, vaddr] at hin; omega
      have hC5 : OrdAt w5 bp sp L := hC4.kept hk5 (fun e => by have := cp bp (.inl rfl); have := f3 _ (ftb _ e); omega) fun g hg e => by have := cp g (.inr hg); have := f3 _ (ftb _ e); omega
      have hv4 := hv.kept h4.kept fun y q1 q2 _ hin => by simp [BlkIn, nth, blkOf, vaddr] at hin; omega
      have hv5 := hv4.kept hk5 fun y q1 q2 _ e => by have := f3 _ (ftb _ e); omega
      have ht5 : RefL w5 t L := (hPe.ref.kept h4.kept fun ad had hin => by have := f3 _ (.inr (.inr ⟨ad, had, rfl⟩)); simp [BlkIn, nth, blkOf, vaddr] at hin; omega).kept hk5 hMt
      have lx : ∀ y, Foot b' s' t' y → (y < w3.heap.size ∧ y ≠ b11 ∧ y ≠ b12 ∧ y ≠ b14 ∧ w.heap.size ≤ y) ∨ w4.heap.size ≤ y := fun y hy => by
        rcases hfo5 y hy with h | h
        · exact .inl ⟨f3 y h, (hfo y h).2.1, (hfo y h).2.2.1, (hfo y h).2.2.2, (hfo y h).1⟩
        · exact .inr h
      have hl5 := hP5.lt
      refine den_norm (by simp only [List.cons_append, List.nil_append]; rfl) (den_blk fun b24 k24 _ k240 => den_norm (by simp only [List.cons_append, List.nil_append]; rfl) ?_)
      refine den_callM (fun _ y => y = bp ∨ sp.ownBlock = some y) (fun w6 l w7 => ∃ b' s' t', l = [pt b', t', .bool true] ∧ Pair w7 b' s' t' (actL L x2.wh x2.c) ∧ ∀ y, Foot b' s' t' y → Foot bp sp t y ∨ w6.heap.size ≤ y) (fun w6 h6 y hy _ => ?_) (fun w6 h6 => ?_) (fun w6 l w7 h6 hf' hR hk7 => ?_)
      · have q := cp y hy
        refine ⟨fun hd => (by cases hd), fun hlt => absurd (show y < w.heap.size from hlt) (by omega), fun hin => ?_, fun _ => (hC5.kept h6.kept (fun hin => ?_) fun g hg hin => ?_).notRec hy⟩
        · simp [BlkIn, nth, blkOf, vaddr] at hin
          omega
        · have := cp bp (.inl rfl); simp [BlkIn, nth, blkOf, vaddr] at hin; omega
        · have := cp g (.inr hg); simp [BlkIn, nth, blkOf, vaddr] at hin; omega
      · have hC6 : OrdAt w6 bp sp L := hC5.kept h6.kept (fun hin => by have := cp bp (.inl rfl); simp [BlkIn, nth, blkOf, vaddr] at hin; omega) fun g hg hin => by have := cp g (.inr hg); simp [BlkIn, nth, blkOf, vaddr] at hin; omega
        have ht6 : RefL w6 t L := ht5.kept h6.kept fun ad had hin => by have := f3 _ (.inr (.inr ⟨ad, had, rfl⟩)); simp [BlkIn, nth, blkOf, vaddr] at hin; omega
        refine (c23 bp sp t L x2.wh x2.c w6 ⟨hC6, ht6, fun ad had => ⟨fun e => ?_, fun e => ?_⟩⟩ (by omega)).mono (fun v w' ⟨b', s', t', hv, h5, h6⟩ _ => ?_) (fun _ _ h => h)
        · have := f3 _ (.inr (.inr ⟨ad, had, rfl⟩)); have := cp bp (.inl rfl); omega
        · have := f3 _ (.inr (.inr ⟨ad, had, rfl⟩)); have := cp _ (.inr e); omega
        · obtain ⟨a', c', e'⟩ := h5.ref.1.slice
          exact ⟨[pt b', t', .bool true], ⟨⟨_, rfl⟩, ⟨_, _, _, e'⟩, ⟨_, rfl⟩, trivial⟩, hv, ⟨b', s', t', rfl, h5, h6⟩, trivial⟩
      obtain ⟨b2, s2, t2, rfl, hP7, hfo7⟩ := hR
      have z56 : w5.heap.size ≤ w6.heap.size := h6.kept.size
      have z67 : w6.heap.size ≤ w7.heap.size := hk7.size
      have hP6' : Pair w6 b' s' t' (actL L x1.wh x1.c) := hP5.kept h6.kept fun y hy hin => by have := hl5 y hy; simp [BlkIn, nth, blkOf, vaddr] at hin; omega
      have hP7' : Pair w7 b' s' t' (actL L x1.wh x1.c) := hP6'.kept hk7 fun y hy e => by have := cp y e; have := lx y hy; omega
      have hv6 := hv5.kept h6.kept fun y q1 q2 _ hin => by simp [BlkIn, nth, blkOf, vaddr] at hin; omega
      have hv7 := hv6.kept hk7 fun y q1 q2 _ e => by have := cp y e; omega
      have ht7 : RefL w7 t L := (ht5.kept h6.kept fun ad had hin => by have := f3 _ (.inr (.inr ⟨ad, had, rfl⟩)); simp [BlkIn, nth, blkOf, vaddr] at hin; omega).kept hk7 fun ad had e => by have := f3 _ (.inr (.inr ⟨ad, had, rfl⟩)); have := cp _ e; omega
      have hl7 := hP7.lt
      have hl7' := hP7'.lt
      refine den_norm (by simp only [List.cons_append, List.nil_append]; rfl) (den_blk fun b28 k28 _ k280 => den_norm (by simp only [List.cons_append, List.nil_append]; rfl) (den_split_false ?_ (den_splitNot (fun e => by cases e) (fun _ => den_splitNot (fun e => by cases e) (fun _ => ?_)))))
      · obtain ⟨g, caps, Ft, rfl, h2⟩ := hv.ex
        rfl
      have n1 := actL_length L x1.wh x1.c
      have n2 := actL_length L x2.wh x2.c
      refine den_call_bool (b := true) (fun w8 h8 => ?_) rfl (fun w8 w9 h8 h9 => den_norm (by simp only [List.cons_append, List.nil_append]; rfl) (den_splitNot (fun e => by cases e) (fun _ => ?_)))
      · have hp := hP7'.kept h8.kept fun y hy hin => by have := hl7' y hy; simp [BlkIn, nth, blkOf, vaddr] at hin; omega
        exact c26 (pt b') t' _ 99 w8 hp.ord.r hp.ref.1 (by omega)
      have n89 : Same w7 w9 := (shown_new h8 fun y hy => by simp [BlkIn, nth, blkOf, vaddr] at hy; omega).trans h9
      refine den_call_bool (b := true) (fun w10 h10 => ?_) rfl (fun w10 w11 h10 h11 => den_norm (by simp only [List.cons_append, List.nil_append]; rfl) (den_splitNot (fun e => by cases e) (fun _ => den_blk fun b31 k31 _ k310 => den_norm (by simp only [List.cons_append, List.nil_append]; rfl) ?_)))
      · have hp := hP7.same (n89.trans (shown_same h10))
        exact c26 (pt b2) t2 _ 99 w10 hp.ord.r hp.ref.1 (by omega)
      have n11 : Same w7 w11 := (n89.trans (shown_same h10)).trans h11
      have hv11 := hv7.kept n11 fun _ _ _ _ h => h
      have ht11 := ht7.same n11
      have z711 := n11.size
      have tl : ∀ ad, vaddr t = some ad → ad.block < w3.heap.size := fun ad had => f3 _ (.inr (.inr ⟨ad, had, rfl⟩))
      refine den_range (eachL L) (fun k l wx => l = [.int .i64 k] ∧ Arr cmdE wx t L) wd.heap.size we.heap.size ?_ ?_ ?_ (fun w12 h12 => ⟨rfl, ht11.1.kept h12.kept fun ad had _ hin => by have := tl ad had; simp [BlkIn, nth, blkOf, vaddr] at hin; omega⟩) ?_ ?_
      · intro x hx
        obtain ⟨i, hi⟩ := List.getElem?_of_mem hx
        simp only [eachL, List.getElem?_mapIdx, Option.map_eq_some_iff] at hi
        obtain ⟨c, _, rfl⟩ := hi
        exact ⟨⟨_, rfl⟩, ⟨_, rfl⟩, trivial⟩
      · intro y hy
        simp [BlkIn, nth, blkOf, vaddr] at hy
        omega
      · intro w12 h12
        exact hv11.kept h12.kept fun y q1 q2 _ hin => by simp [BlkIn, nth, blkOf, vaddr] at hin; omega
      · rintro w12 Ft h12 k x hx l hl w0 w' ⟨rfl, hm0⟩ hq hk' hfa' hFt
        obtain ⟨c, hc, rfl⟩ : ∃ c, L[k]? = some c ∧ x = [.int .i64 c.id, .bool (rdy L k)] := by
          simp only [eachL, List.getElem?_mapIdx, Option.map_eq_some_iff] at hx
          obtain ⟨c, hc, rfl⟩ := hx
          exact ⟨c, hc, rfl⟩
        have hlt : k < L.length := (List.getElem?_eq_some_iff.1 hc).1
        have hm' := hm0.quiet hq
        subst ht
        refine den_norm (by simp only [List.cons_append, List.nil_append]; rfl) (den_splitLe (fun h => ?_) (fun h => ?_))
        · have h' : (L.length : Int) ≤ k := h
          omega
        refine den_idx2 (E := cmdE) (L := L) c k [.int .i64 c.id] hm' rfl (by decide) rfl hc ⟨⟨_, rfl⟩, trivial⟩ (fun m v hv => by cases m with | zero => exact hv | succ m => simp at hv) (fun w5 h5 => hm'.same (shown_same h5)) (fun _ _ => by simp [BlkIn]) fun w13 h13 => den_norm (by simp only [List.cons_append, List.nil_append]; rfl) (den_splitNot (fun h6 => ?_) (fun _ => ?_))
        · simp [BE.den, IE.den, nth, vint] at h6
        refine den_call_bool (b := rdy L k) (fun w14 h14 => c27 _ L k w14 (hm'.same ((shown_same h13).trans (shown_same h14))) hlt (by omega)) rfl (fun w14 w15 h14 h15 => den_norm (by simp only [List.cons_append, List.nil_append]; rfl) (den_splitNot (fun h9 => ?_) (fun _ => ?_)))
        · simp [BE.den, nth, vbool] at h9
        have m15 := hm'.same (((shown_same h13).trans (shown_same h14)).trans h15)
        refine den_ob64 (by simp only [IE.den, nth, vint]; omega) (den_leaf_round hFt fun w16 h16 => ⟨by simp [SV.den, denL, IE.den, BE.den, nth, vint, vbool, vaddr, addO, addr_add], m15.kept h16.kept fun ad had _ hin => ?_⟩)
        have := tl ad had
        simp [BlkIn, nth, blkOf, vaddr] at hin
        omega
      · rintro w12 h12 l hl w0 w' ⟨rfl, hm0⟩ hq hk' hfa'
        subst ht
        refine den_norm (by simp only [List.cons_append, List.nil_append]; rfl) (den_splitEq (fun _ => ?_) (fun hne => ?_))
        · exact den_call_bool (b := true) (fun w13 _ => c9 w13) rfl fun _ _ _ _ => den_norm (by simp only [List.cons_append, List.nil_append]; rfl) (fun w13 h13 w14 hq hk14 => (if_neg (by decide)).mpr ⟨_, rfl, by simp [SV.den, denL, IE.den, BE.den, nth, vint, vbool, vaddr, addO, addr_add], hk14⟩)
        · exact absurd (show ((eachL L).length : Int) = L.length by rw [eachL_length]) hne
  · refine den_blk fun b20 k20 _ k200 => den_norm (by simp only [List.cons_append, List.nil_append]; rfl) ?_
    refine den_callR (fun w l w' => ∃ bp sp, l = [pt bp] ∧ OrdAt w' bp sp L ∧ w.heap.size ≤ bp ∧ ∀ g, sp.ownBlock = some g → w.heap.size ≤ g) (fun w4 h4 => ?_) (fun wa l wb ha hf hR hsab => ?_)
    · refine (c24 (pt b) L w4 (hP3.same ((Kept.refl _ w3).trans (shown_same h4))).ord.r (by omega)).mono fun v w' ⟨b', s', hv, h3, h4, h5⟩ => ?_
      exact ⟨[pt b'], ⟨⟨_, rfl⟩, trivial⟩, hv, b', s', rfl, h3, h4, h5⟩
    obtain ⟨bp, sp, rfl, hC, hbp, hsp⟩ := hR
    have sC := ((Kept.refl _ w3).trans (shown_same ha)).trans hsab
    refine den_norm (by simp only [List.cons_append, List.nil_append]; rfl) ?_
    refine den_callR (fun w l w' => ∃ v, l = [v] ∧ SeqAt Try.prog w.heap.size w'.heap.size w' v ((eachL L).map fun x => (yvals Try.prog [3, 4] x).toArray)) (fun w4 h4 => ?_) (fun wd l we hd hf hR hsde => ?_)
    · refine (c25 (pt b) L w4 (hP3.same (sC.trans (shown_same h4))).ord.r (by omega)).mono fun v w' hv => ?_
      obtain ⟨g, caps, Ft, rfl, h2⟩ := hv.ex
      exact ⟨[.func (.func g) #[] caps], ⟨rfl, trivial⟩, rfl, _, rfl, hv⟩
    obtain ⟨v, rfl, hv⟩ := hR
    have sE := (sC.trans (shown_same hd)).trans hsde
    refine den_norm (by simp only [List.cons_append, List.nil_append]; rfl) ?_
    have hCe := hC.same ((shown_same hd).trans hsde)
    have l20 := ha.lt (i := 18) (b := b20) (by simp [keys]) rfl
    have h20 : (b20 < wd.heap.size ∨ we.heap.size ≤ b20) ∧ (b20 < wa.heap.size ∨ wb.heap.size ≤ b20) ∧ w3.heap.size ≤ b20 := ⟨.inl (by have := hsab.size; have := (shown_same hd).size; omega), .inl l20, k20⟩
    have z3a : w3.heap.size ≤ wa.heap.size := (shown_same ha).size
    have zab := hsab.size
    have zbd : wb.heap.size ≤ wd.heap.size := (shown_same hd).size
    have zde := hsde.size
    have hPe := hP3.same sE
    have h20' := h20
    obtain ⟨d1, d2, d3⟩ := h20
    have f3 : ∀ y, Foot b s t y → y < w3.heap.size := hPl3
    have cp : ∀ y, (y = bp ∨ sp.ownBlock = some y) → wa.heap.size ≤ y ∧ y < wb.heap.size := fun y hy => ⟨by rcases hy with rfl | hy; exact hbp; exact hsp y hy, hC.footlt hy⟩
    have hMt : ∀ ad, vaddr t = some ad → ¬ (ad.block = b ∨ s.ownBlock = some ad.block) := fun ad had e => by
      rcases e with e | e
      · exact (hP.sep ad had).1 e
      · exact (hP.sep ad had).2 e
    have ftb : ∀ y, (y = b ∨ s.ownBlock = some y) → Foot b s t y := fun y hy => by rcases hy with hy | hy; exact .inl hy; exact .inr (.inl hy)
    refine den_callM (fun _ y => y = b ∨ s.ownBlock = some y) (fun w4 l w5 => ∃ b' s' t', l = [pt b', t', .bool true] ∧ Pair w5 b' s' t' (actL L x1.wh x1.c) ∧ ∀ y, Foot b' s' t' y → Foot b s t y ∨ w4.heap.size ≤ y) (fun w4 h4 y hy _ => ?_) (fun w4 h4 => ?_) (fun w4 l w5 h4 hf' hR hk5 => ?_)
    · have q := hfo y (ftb y hy)
      have q2 := f3 y (ftb y hy)
      refine ⟨fun hd => (by cases hd), fun hlt => absurd (show y < w.heap.size from hlt) (by omega), fun hin => ?_, fun _ => (hPe.kept h4.kept fun z hz hin => ?_).ord.notRec hy⟩
      · simp [BlkIn, nth, blkOf, vaddr] at hin
        omega
      · have := f3 z hz
        simp [BlkIn, nth, blkOf, vaddr] at hin
        omega
    · refine (c23 b s t L x1.wh x1.c w4 (hPe.kept h4.kept fun z hz hin => ?_) (by omega)).mono (fun v w' ⟨b', s', t', hv, h5, h6⟩ _ => ?_) (fun _ _ h => h)
      · have := f3 z hz
        simp [BlkIn, nth, blkOf, vaddr] at hin
        omega
      · obtain ⟨a', c', e'⟩ := h5.ref.1.slice
        exact ⟨[pt b', t', .bool true], ⟨⟨_, rfl⟩, ⟨_, _, _, e'⟩, ⟨_, rfl⟩, trivial⟩, hv, ⟨b', s', t', rfl, h5, h6⟩, trivial⟩
    obtain ⟨b', s', t', rfl, hP5, hfo5⟩ := hR
    have ze4 : we.heap.size ≤ w4.heap.size := h4.kept.size
    have z45 : w4.heap.size ≤ w5.heap.size := hk5.size
    have hC4 : OrdAt w4 bp sp L := hCe.kept h4.kept (fun hin => by have := cp bp (.inl rfl); simp [BlkIn, nth, blkOf, vaddr] at hin; omega) fun g hg hin => by have := cp g (.inr hg); simp [BlkIn, nth, blkOf, vaddr] at hin; omega
    have hC5 : OrdAt w5 bp sp L := hC4.kept hk5 (fun e => by have := cp bp (.inl rfl); have := f3 _ (ftb _ e); omega) fun g hg e => by have := cp g (.inr hg); have := f3 _ (ftb _ e); omega
    have hv4 := hv.kept h4.kept fun y q1 q2 _ hin => by simp [BlkIn, nth, blkOf, vaddr] at hin; omega
    have hv5 := hv4.kept hk5 fun y q1 q2 _ e => by have := f3 _ (ftb _ e); omega
    have ht5 : RefL w5 t L := (hPe.ref.kept h4.kept fun ad had hin => by have := f3 _ (.inr (.inr ⟨ad, had, rfl⟩)); simp [BlkIn, nth, blkOf, vaddr] at hin; omega).kept hk5 hMt
    have lx : ∀ y, Foot b' s' t' y → (y < w3.heap.size ∧ y ≠ b11 ∧ y ≠ b12 ∧ y ≠ b14 ∧ w.heap.size ≤ y) ∨ w4.heap.size ≤ y := fun y hy => by
      rcases hfo5 y hy with h | h
      · exact .inl ⟨f3 y h, (hfo y h).2.1, (hfo y h).2.2.1, (hfo y h).2.2.2, (hfo y h).1⟩
      · exact .inr h
    have hl5 := hP5.lt
    refine den_norm (by simp only [List.cons_append, List.nil_append]; rfl) (den_blk fun b24 k24 _ k240 => den_norm (by simp only [List.cons_append, List.nil_append]; rfl) ?_)
    refine den_callM (fun _ y => y = bp ∨ sp.ownBlock = some y) (fun w6 l w7 => ∃ b' s' t', l = [pt b', t', .bool true] ∧ Pair w7 b' s' t' (actL L x2.wh x2.c) ∧ ∀ y, Foot b' s' t' y → Foot bp sp t y ∨ w6.heap.size ≤ y) (fun w6 h6 y hy _ => ?_) (fun w6 h6 => ?_) (fun w6 l w7 h6 hf' hR hk7 => ?_)
    · have q := cp y hy
      refine ⟨fun hd => (by cases hd), fun hlt => absurd (show y < w.heap.size from hlt) (by omega), fun hin => ?_, fun _ => (hC5.kept h6.kept (fun hin => ?_) fun g hg hin => ?_).notRec hy⟩
      · simp [BlkIn, nth, blkOf, vaddr] at hin
        omega
      · have := cp bp (.inl rfl); simp [BlkIn, nth, blkOf, vaddr] at hin; omega
      · have := cp g (.inr hg); simp [BlkIn, nth, blkOf, vaddr] at hin; omega
    · have hC6 : OrdAt w6 bp sp L := hC5.kept h6.kept (fun hin => by have := cp bp (.inl rfl); simp [BlkIn, nth, blkOf, vaddr] at hin; omega) fun g hg hin => by have := cp g (.inr hg); simp [BlkIn, nth, blkOf, vaddr] at hin; omega
      have ht6 : RefL w6 t L := ht5.kept h6.kept fun ad had hin => by have := f3 _ (.inr (.inr ⟨ad, had, rfl⟩)); simp [BlkIn, nth, blkOf, vaddr] at hin; omega
      refine (c23 bp sp t L x2.wh x2.c w6 ⟨hC6, ht6, fun ad had => ⟨fun e => ?_, fun e => ?_⟩⟩ (by omega)).mono (fun v w' ⟨b', s', t', hv, h5, h6⟩ _ => ?_) (fun _ _ h => h)
      · have := f3 _ (.inr (.inr ⟨ad, had, rfl⟩)); have := cp bp (.inl rfl); omega
      · have := f3 _ (.inr (.inr ⟨ad, had, rfl⟩)); have := cp _ (.inr e); omega
      · obtain ⟨a', c', e'⟩ := h5.ref.1.slice
        exact ⟨[pt b', t', .bool true], ⟨⟨_, rfl⟩, ⟨_, _, _, e'⟩, ⟨_, rfl⟩, trivial⟩, hv, ⟨b', s', t', rfl, h5, h6⟩, trivial⟩
    obtain ⟨b2, s2, t2, rfl, hP7, hfo7⟩ := hR
    have z56 : w5.heap.size ≤ w6.heap.size := h6.kept.size
    have z67 : w6.heap.size ≤ w7.heap.size := hk7.size
    have hP6' : Pair w6 b' s' t' (actL L x1.wh x1.c) := hP5.kept h6.kept fun y hy hin => by have := hl5 y hy; simp [BlkIn, nth, blkOf, vaddr] at hin; omega
    have hP7' : Pair w7 b' s' t' (actL L x1.wh x1.c) := hP6'.kept hk7 fun y hy e => by have := cp y e; have := lx y hy; omega
    have hv6 := hv5.kept h6.kept fun y q1 q2 _ hin => by simp [BlkIn, nth, blkOf, vaddr] at hin; omega
    have hv7 := hv6.kept hk7 fun y q1 q2 _ e => by have := cp y e; omega
    have ht7 : RefL w7 t L := (ht5.kept h6.kept fun ad had hin => by have := f3 _ (.inr (.inr ⟨ad, had, rfl⟩)); simp [BlkIn, nth, blkOf, vaddr] at hin; omega).kept hk7 fun ad had e => by have := f3 _ (.inr (.inr ⟨ad, had, rfl⟩)); have := cp _ e; omega
    have hl7 := hP7.lt
    have hl7' := hP7'.lt
    refine den_norm (by simp only [List.cons_append, List.nil_append]; rfl) (den_blk fun b28 k28 _ k280 => den_norm (by simp only [List.cons_append, List.nil_append]; rfl) (den_split_false ?_ (den_splitNot (fun e => by cases e) (fun _ => den_splitNot (fun e => by cases e) (fun _ => ?_)))))
    · obtain ⟨g, caps, Ft, rfl, h2⟩ := hv.ex
      rfl
    have n1 := actL_length L x1.wh x1.c
    have n2 := actL_length L x2.wh x2.c
    refine den_call_bool (b := true) (fun w8 h8 => ?_) rfl (fun w8 w9 h8 h9 => den_norm (by simp only [List.cons_append, List.nil_append]; rfl) (den_splitNot (fun e => by cases e) (fun _ => ?_)))
    · have hp := hP7'.kept h8.kept fun y hy hin => by have := hl7' y hy; simp [BlkIn, nth, blkOf, vaddr] at hin; omega
      exact c26 (pt b') t' _ 99 w8 hp.ord.r hp.ref.1 (by omega)
    have n89 : Same w7 w9 := (shown_new h8 fun y hy => by simp [BlkIn, nth, blkOf, vaddr] at hy; omega).trans h9
    refine den_call_bool (b := true) (fun w10 h10 => ?_) rfl (fun w10 w11 h10 h11 => den_norm (by simp only [List.cons_append, List.nil_append]; rfl) (den_splitNot (fun e => by cases e) (fun _ => den_blk fun b31 k31 _ k310 => den_norm (by simp only [List.cons_append, List.nil_append]; rfl) ?_)))
    · have hp := hP7.same (n89.trans (shown_same h10))
      exact c26 (pt b2) t2 _ 99 w10 hp.ord.r hp.ref.1 (by omega)
    have n11 : Same w7 w11 := (n89.trans (shown_same h10)).trans h11
    have hv11 := hv7.kept n11 fun _ _ _ _ h => h
    have ht11 := ht7.same n11
    have z711 := n11.size
    have tl : ∀ ad, vaddr t = some ad → ad.block < w3.heap.size := fun ad had => f3 _ (.inr (.inr ⟨ad, had, rfl⟩))
    refine den_range (eachL L) (fun k l wx => l = [.int .i64 k] ∧ Arr cmdE wx t L) wd.heap.size we.heap.size ?_ ?_ ?_ (fun w12 h12 => ⟨rfl, ht11.1.kept h12.kept fun ad had _ hin => by have := tl ad had; simp [BlkIn, nth, blkOf, vaddr] at hin; omega⟩) ?_ ?_
    · intro x hx
      obtain ⟨i, hi⟩ := List.getElem?_of_mem hx
      simp only [eachL, List.getElem?_mapIdx, Option.map_eq_some_iff] at hi
      obtain ⟨c, _, rfl⟩ := hi
      exact ⟨⟨_, rfl⟩, ⟨_, rfl⟩, trivial⟩
    · intro y hy
      simp [BlkIn, nth, blkOf, vaddr] at hy
      omega
    · intro w12 h12
      exact hv11.kept h12.kept fun y q1 q2 _ hin => by simp [BlkIn, nth, blkOf, vaddr] at hin; omega
    · rintro w12 Ft h12 k x hx l hl w0 w' ⟨rfl, hm0⟩ hq hk' hfa' hFt
      obtain ⟨c, hc, rfl⟩ : ∃ c, L[k]? = some c ∧ x = [.int .i64 c.id, .bool (rdy L k)] := by
        simp only [eachL, List.getElem?_mapIdx, Option.map_eq_some_iff] at hx
        obtain ⟨c, hc, rfl⟩ := hx
        exact ⟨c, hc, rfl⟩
      have hlt : k < L.length := (List.getElem?_eq_some_iff.1 hc).1
      have hm' := hm0.quiet hq
      subst ht
      refine den_norm (by simp only [List.cons_append, List.nil_append]; rfl) (den_splitLe (fun h => ?_) (fun h => ?_))
      · have h' : (L.length : Int) ≤ k := h
        omega
      refine den_idx2 (E := cmdE) (L := L) c k [.int .i64 c.id] hm' rfl (by decide) rfl hc ⟨⟨_, rfl⟩, trivial⟩ (fun m v hv => by cases m with | zero => exact hv | succ m => simp at hv) (fun w5 h5 => hm'.same (shown_same h5)) (fun _ _ => by simp [BlkIn]) fun w13 h13 => den_norm (by simp only [List.cons_append, List.nil_append]; rfl) (den_splitNot (fun h6 => ?_) (fun _ => ?_))
      · simp [BE.den, IE.den, nth, vint] at h6
      refine den_call_bool (b := rdy L k) (fun w14 h14 => c27 _ L k w14 (hm'.same ((shown_same h13).trans (shown_same h14))) hlt (by omega)) rfl (fun w14 w15 h14 h15 => den_norm (by simp only [List.cons_append, List.nil_append]; rfl) (den_splitNot (fun h9 => ?_) (fun _ => ?_)))
      · simp [BE.den, nth, vbool] at h9
      have m15 := hm'.same (((shown_same h13).trans (shown_same h14)).trans h15)
      refine den_ob64 (by simp only [IE.den, nth, vint]; omega) (den_leaf_round hFt fun w16 h16 => ⟨by simp [SV.den, denL, IE.den, BE.den, nth, vint, vbool, vaddr, addO, addr_add], m15.kept h16.kept fun ad had _ hin => ?_⟩)
      have := tl ad had
      simp [BlkIn, nth, blkOf, vaddr] at hin
      omega
    · rintro w12 h12 l hl w0 w' ⟨rfl, hm0⟩ hq hk' hfa'
      subst ht
      refine den_norm (by simp only [List.cons_append, List.nil_append]; rfl) (den_splitEq (fun _ => ?_) (fun hne => ?_))
      · exact den_call_bool (b := true) (fun w13 _ => c9 w13) rfl fun _ _ _ _ => den_norm (by simp only [List.cons_append, List.nil_append]; rfl) (fun w13 h13 w14 hq hk14 => (if_neg (by decide)).mpr ⟨_, rfl, by simp [SV.den, denL, IE.den, BE.den, nth, vint, vbool, vaddr, addO, addr_add], hk14⟩)
      · exact absurd (show ((eachL L).length : Int) = L.length by rw [eachL_length]) hne
end Go.Proofs.Ytfjimghpjopgoaa
