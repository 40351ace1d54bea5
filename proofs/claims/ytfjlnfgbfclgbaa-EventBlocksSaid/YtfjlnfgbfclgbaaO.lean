/- The steps of events: Abort, Reset, Copy. No conditions beyond those that each theorem names. -/
import Derived.Test.YtfjlnfgbfclgbaaN
set_option maxRecDepth 100000
set_option maxHeartbeats 2000000
set_option linter.unusedVariables false
set_option linter.unusedSimpArgs false
namespace Go.Proofs.Ytfjlnfgbfclgbaa
open Go.Sx

theorem c30 (b m : Nat) (s1 s2 : Value) (e : Ev) (id : Int) (w : World) (h : EvAt w b m s1 s2 e) (hl : e.lim ≠ 0) (hm : e.R.length ≤ 60000) :
    Runs Try.prog 30 [pt b, .int .u16 id] w (fun x => x = b) (fun v w' => v = .int .i64 (abC e id) ∧ ∃ s1', EvAt w' b m s1' s2 (abE e id) ∧ (s1' = s1 ∨ ∀ ad, vaddr s1' = some ad → w.heap.size ≤ ad.block)) := by
  obtain ⟨sa, sc, rfl⟩ := h.r.1.slice
  have hr := runs mix t30 rfl rfl (ε := [pt b, .int .u16 id]) (heap := []) (w := w) (M := fun x => x = b) (R := fun v w' => v = .int .i64 (abC e id) ∧ ∃ s1', EvAt w' b m s1' s2 (abE e id) ∧ (s1' = .slice sa e.R.length sc ∨ ∀ ad, vaddr s1' = some ad → w.heap.size ≤ ad.block)) ⟨⟨_, rfl⟩, ⟨_, rfl⟩, trivial⟩ trivial (by simp [keys]) (by simp [keys]) (by simp [keys]) ?_
  · exact hr
  have lb := h.lt
  refine den_blk fun b2 k2 _ _ => den_norm (by simp only [List.cons_append, List.nil_append]; rfl) ?_
  have z2 : w.heap.size ≤ b2 := k2
  refine den_call_bool (b := decide (e.lim = 0)) (fun w1 h1 => c39 b m _ _ e w1 (h.same (shown_same h1))) rfl (fun w1 w2 h1 h2 => den_norm (by simp only [List.cons_append, List.nil_append]; rfl) (den_split_false (by simp [BE.den, nth, vbool, hl]) ?_))
  have E2 := (h.same (shown_same h1)).same h2
  refine den_notnil (i := 0) h.blk.pts ?_
  refine den_ldp [.slice sa e.R.length sc] _ ⟨⟨_, _, _, rfl⟩, trivial⟩ (cellk _ 2 _ rfl) (fun w3 h3 => (E2.same (shown_same h3)).blk.pts) (fun _ _ => by simp [BlkIn]) fun w3 h3 => den_norm (by simp only [List.cons_append, List.nil_append]; rfl) ?_
  have E3 := E2.same (shown_same h3)
  refine den_callR (fun w4 l w5 => ((∀ (i : Nat) y, e.R[i]? = some y → decide (y = id) = false) ∧ l = [.slice sa e.R.length sc, .int .u16 0, .bool false]) ∨
      ∃ (i : Nat) (x : Int) (xa : Option Addr) (xc : Nat), e.R[i]? = some x ∧ decide (x = id) = true ∧ (∀ (j : Nat) y, j < i → e.R[j]? = some y → decide (y = id) = false) ∧ l = [.slice xa (e.R.eraseIdx i).length xc, .int .u16 x, .bool true] ∧ Mine hE 37 w5 (.slice xa (e.R.eraseIdx i).length xc) (e.R.eraseIdx i) ∧ ∀ g, (Value.slice xa (e.R.eraseIdx i).length xc).ownBlock = some g → w4.heap.size ≤ g) (fun w4 h4 => ?_) ?_
  · have hpt : PtsTo w4 (pt b2) [.int .u16 id] := by
      have hb : HasBlk w4 (pt b2) [.int .u16 id] := h4.facts.1
      exact hb.pts
    have E4 := E3.same (shown_same h4)
    refine (c57 _ _ e.R (fun x => decide (x = id)) 58 [pt b2] w4 (by omega) E4.r.1 rfl go58 (fun x w' hx hk => c58 x id b2 w' (hpt.same hk))).mono fun v w' hv => ?_
    rcases hv with ⟨hno, rfl⟩ | ⟨i, x, r, hx, hpx, hfirst, rfl, hM, hlo⟩
    · exact ⟨[.slice sa e.R.length sc, .int .u16 0, .bool false], ⟨⟨_, _, _, rfl⟩, ⟨_, rfl⟩, ⟨_, rfl⟩, trivial⟩, rfl, .inl ⟨hno, rfl⟩⟩
    · obtain ⟨xa, xc, rfl⟩ := hM.slice
      exact ⟨[.slice xa (e.R.eraseIdx i).length xc, .int .u16 x, .bool true], ⟨⟨_, _, _, rfl⟩, ⟨_, rfl⟩, ⟨_, rfl⟩, trivial⟩, rfl, .inr ⟨i, x, xa, xc, hx, hpx, hfirst, rfl, hM, hlo⟩⟩
  rintro w4 l w5 h4 _ (⟨hno, rfl⟩ | ⟨i, x, xa, xc, hx, hpx, hfirst, rfl, hM, hlo⟩) h45
  · have hnm : id ∉ e.R := not_mem_of hno
    have eC : abC e id = 9 := if_neg hnm
    have eE : abE e id = e := by unfold abE; rw [List.erase_of_not_mem hnm]
    refine den_norm (by simp only [List.cons_append, List.nil_append]; rfl) (den_split_true rfl (den_leafA _ rfl fun w6 h6 => ⟨by rw [eC]; rfl, .slice sa e.R.length sc, ?_, .inl rfl⟩))
    rw [eE]
    exact ((E3.same (shown_same h4)).same h45).same (shown_same h6)
  have hpx' : x = id := of_decide_eq_true hpx
  subst hpx'
  obtain ⟨q1, q2⟩ := erase_first e.R i x hx hfirst
  have eC : abC e x = 0 := if_pos q2
  have eE : abE e x = { e with R := e.R.eraseIdx i } := by unfold abE; rw [q1]
  have E5 := (E3.same (shown_same h4)).same h45
  have z4 : w.heap.size ≤ w4.heap.size := h4.base.size
  refine den_norm (by simp only [List.cons_append, List.nil_append]; rfl) (den_split_false rfl ?_)
  refine den_storeP b 2 (.slice xa (e.R.eraseIdx i).length xc) [.slice xa (e.R.eraseIdx i).length xc] [.int .i64 e.lim, .int .u32 e.cfg, .slice sa e.R.length sc, s2, .map (some m)] (by kernel_rfl) rfl rfl rfl rfl (by intro u hu; simp at hu; subst hu; rfl) (fun wc hc => (E5.same (shown_same hc)).blk) (by simp) (fun wc hc => ⟨fun hd => (by cases hd), fun _ => rfl, fun hin2 => by simp [BlkIn, nth, blkOf, vaddr] at hin2; omega, fun hx => (by cases hx)⟩) (fun wc wd hc hB kcd => ?_)
  have fresh : ∀ ad, vaddr (Value.slice xa (e.R.eraseIdx i).length xc) = some ad → w.heap.size ≤ ad.block := fun ad had => by have := hlo _ (hM.own had); omega
  have hg' := ((hM.same (shown_same hc)).kept kcd fun g hg hb => by have := hlo g hg; omega)
  have Ed := (E5.same (shown_same hc)).reqs kcd hB hg'.given fun ad had => by
    have q := fresh ad had
    have := h.map.lt
    omega
  have l2 : b2 < w4.heap.size := h4.lt (i := 2) (by simp [keys]) rfl
  refine den_leafA _ rfl fun we he => ⟨by rw [eC]; rfl, .slice xa (e.R.eraseIdx i).length xc, ?_, .inr fresh⟩
  rw [eE]
  exact Ed.same (shown_same he)

def resetE (e : Ev) : Ev := ⟨e.lim, 0, [], [], fun _ => none⟩
theorem c55k (b m pv : Nat) (s1 s2 : Value) (e : Ev) (w : World) (h : EvAt w b m s1 s2 e) (hv : HasBlk w (pt pv) [pt b]) :
    Runs Try.prog 55 [pt pv] w (fun x => x = b) (fun v w' => v = .tuple #[] ∧ ∃ m', EvAt w' b m' (.slice none 0 0) (.slice none 0 0) (resetE e) ∧ w.heap.size ≤ m') := by
  obtain ⟨sa, sc, rfl⟩ := h.r.1.slice
  obtain ⟨ta, tc, rfl⟩ := h.l.1.slice
  have lb := h.lt
  have lv := hv.pts.lt (by simp) pv rfl
  have n3 : pv ≠ b := by
    rintro rfl
    obtain ⟨x, t, q, hh⟩ := h.blk
    obtain ⟨x', t', q', hh'⟩ := hv
    cases q
    cases q'
    rw [hh] at hh'
    cases hh'
  refine runs_to (M := fun x => x = pv ∨ x = b) ?_
  have hh := runs mix t55k rfl rfl (ε := [pt pv, pt b, .int .i64 e.lim, .int .u32 e.cfg, .slice sa e.R.length sc, .slice ta e.L.length tc, .map (some m)]) (w := w) (M := fun x => x = pv ∨ x = b) (R := fun v w' => (v = .tuple #[] ∧ ∃ m', EvAt w' b m' (.slice none 0 0) (.slice none 0 0) (resetE e) ∧ w.heap.size ≤ m') ∧ Kept (fun x => x = b) w w') ⟨⟨_, rfl⟩, ⟨_, rfl⟩, ⟨_, rfl⟩, ⟨_, rfl⟩, ⟨_, _, _, rfl⟩, ⟨_, _, _, rfl⟩, ⟨_, rfl⟩, trivial⟩ ⟨hv, h.blk, trivial⟩ (by simp [keys]) ?_ ?_ ?_
  · exact hh
  · intro i j hi hj hij
    simp only [keys, List.mem_cons, List.not_mem_nil, or_false] at hi hj
    rcases hi with rfl | rfl <;> rcases hj with rfl | rfl <;> simp [nth, blkOf, vaddr] <;> first | omega | exact absurd rfl hij
  · intro i hi x hx
    simp only [keys, List.mem_cons, List.not_mem_nil, or_false] at hi
    rcases hi with rfl | rfl <;> (simp [nth, blkOf, vaddr] at hx; omega)
  refine den_startF fun w1 h1 => ?_
  have z1 : w.heap.size ≤ w1.heap.size := h1.kept.size
  refine den_both ?_ ?_ <;>
  · refine den_makeMap (ky := .u8) (vy := .u8) (fun v => rfl) (fun w2 m' w3 k2 hm hM s23 => den_norm (by simp only [List.cons_append, List.nil_append]; rfl) ?_)
    have z2 : w1.heap.size ≤ w2.heap.size := k2.kept.size
    refine den_leafA _ rfl fun w4 h4 => ⟨⟨rfl, m', ⟨h4.facts.2.1, given_nil, given_nil, hM.kept h4.kept fun hx => by simp [BlkIn, nth, blkOf, vaddr] at hx; omega, (fun ad had => by cases had), (fun ad had => by cases had)⟩, by omega⟩, ?_⟩
    have k1 : Kept (fun x => x = b) w w1 := h1.kept.mono fun x _ hx => by simp [BlkIn, nth, blkOf, vaddr] at hx
    exact ((k1.then (shown_same k2) fun _ _ h => h.elim).then s23 fun _ _ h => h.elim).then h4.kept fun x _ hx => by simp [BlkIn, nth, blkOf, vaddr] at hx; exact hx.symm
theorem c27 (b m : Nat) (s1 s2 : Value) (e : Ev) (w : World) (h : EvAt w b m s1 s2 e) (hl : e.lim ≠ 0) :
    Runs Try.prog 27 [pt b] w (fun x => x = b) (fun v w' => v = .int .i64 0 ∧ ∃ m', EvAt w' b m' (.slice none 0 0) (.slice none 0 0) (resetE e) ∧ w.heap.size ≤ m') := by
  have hh := runs mix t27 rfl rfl (ε := [pt b]) (heap := []) (w := w) (M := fun x => x = b) (R := fun v w' => v = .int .i64 0 ∧ ∃ m', EvAt w' b m' (.slice none 0 0) (.slice none 0 0) (resetE e) ∧ w.heap.size ≤ m') ⟨⟨_, rfl⟩, trivial⟩ trivial (by simp [keys]) (by simp [keys]) (by simp [keys]) ?_
  · exact hh
  refine den_blk fun b2 k2 _ _ => den_norm (by simp only [List.cons_append, List.nil_append]; rfl) ?_
  have z2 : w.heap.size ≤ b2 := k2
  have lb := h.lt
  refine den_callM (fun _ x => x = b) (fun _ l w' => l = [.int .i64 0] ∧ ∃ m', EvAt w' b m' (.slice none 0 0) (.slice none 0 0) (resetE e) ∧ w.heap.size ≤ m') (fun w3 h3 x hx hlt => ⟨fun hd => (by cases hd), fun _ => hx, fun hin => by simp [BlkIn, nth, blkOf, vaddr] at hin; omega, fun hx => by cases hx⟩) (fun w3 h3 => ?_) (fun w3 l w4 h3 hfl hR' hk => ?_)
  · have s3 := shown_same h3
    have p2 : HasBlk w3 (pt b2) [pt b] := h3.facts.1
    have z := s3.size
    have sameB : ∀ {w4 : World} {x : Nat} {l : List Value}, HasBlk w3 (pt x) l → Same w3 w4 → HasBlk w4 (pt x) l := fun {w4 x l} hx hs => by
      obtain ⟨b', ty, q, hh⟩ := hx
      cases q
      exact ⟨_, ty, rfl, (hs.block _ (Array.getElem?_eq_some_iff.1 hh).1 (fun h => h)).trans hh⟩
    exact (c33 b m s1 s2 e w3 (h.same s3) hl 55 [pt b2] go55 (fun x => x = b) (fun w' => ∃ m', EvAt w' b m' (.slice none 0 0) (.slice none 0 0) (resetE e) ∧ w.heap.size ≤ m') (fun w1 w2 ⟨m', q1, q2⟩ q => ⟨m', q1.same q, q2⟩) (fun w4 h4 => (c55k b m b2 s1 s2 e w4 ((h.same s3).same h4) (sameB p2 h4)).mono (fun v w' ⟨q1, m', q2, q3⟩ _ => ⟨q1, m', q2, by have := h4.size; omega⟩) fun _ _ h => h)).mono (fun v w' ⟨q1, m', q2, q3⟩ _ => ⟨[.int .i64 0], ⟨⟨_, rfl⟩, trivial⟩, q1, ⟨rfl, m', q2, q3⟩, trivial⟩) fun _ _ h => h
  · obtain ⟨rfl, m', hR', hfr⟩ := hR'
    exact den_leafA _ rfl fun w5 h5 => ⟨rfl, m', hR'.same (shown_same h5), hfr⟩
theorem c28 (b m : Nat) (s1 s2 : Value) (e : Ev) (w : World) (h : EvAt w b m s1 s2 e) (hl : e.lim ≠ 0) (hm : e.R.length ≤ 60000) (hmL : e.L.length ≤ 60000) :
    GivesR Try.prog 28 [pt b] w (fun v w' => ∃ b' m' s1' s2', v = pt b' ∧ EvAt w' b' m' s1' s2' e ∧ w.heap.size ≤ b' ∧ w.heap.size ≤ m' ∧ (∀ ad, vaddr s1' = some ad → w.heap.size ≤ ad.block) ∧ ∀ ad, vaddr s2' = some ad → w.heap.size ≤ ad.block) := by
  obtain ⟨sa, sc, rfl⟩ := h.r.1.slice
  obtain ⟨ta, tc, rfl⟩ := h.l.1.slice
  have lb := h.lt
  refine givesR mix t28 rfl rfl (ε := [pt b]) ⟨⟨_, rfl⟩, trivial⟩ ?_
  refine den_call_bool (b := decide (e.lim = 0)) (fun w1 h1 => c39 b m _ _ e w1 (h.same h1.base)) rfl (fun w1 w2 h1 h2 => den_norm (by simp only [List.cons_append, List.nil_append]; rfl) (den_split_false (by simp [BE.den, nth, vbool, hl]) ?_))
  refine den_notnil (i := 0) h.blk.pts ?_
  refine den_ldp [.int .i64 e.lim, .int .u32 e.cfg, .slice sa e.R.length sc, .slice ta e.L.length tc, .map (some m)] _ ⟨⟨_, rfl⟩, ⟨_, rfl⟩, ⟨_, _, _, rfl⟩, ⟨_, _, _, rfl⟩, ⟨_, rfl⟩, trivial⟩ (whole _) (fun w3 h3 => (h.same h3.base).blk.pts) (fun _ _ => by simp [BlkIn]) fun w3 h3 => den_norm (by simp only [List.cons_append, List.nil_append]; rfl) ?_
  have z3 : w.heap.size ≤ w3.heap.size := h3.base.size
  refine den_blk fun b7 k7 _ _ => den_norm (by simp only [List.cons_append, List.nil_append]; rfl) ?_
  have z7 : w3.heap.size ≤ b7 := k7
  refine den_startF fun w4 h4 => ?_
  have z4 : w3.heap.size ≤ w4.heap.size := h4.kept.size
  have l7 : b7 < w4.heap.size := h4.lt (i := 7) (by simp [keys]) rfl
  have E4 := h.same h4.base
  have nX : ∀ x, x < w.heap.size → ¬ (w4.heap.size ≤ x ∨ x = b7) := fun x hx hn => by omega
  refine den_ldpD [.slice sa e.R.length sc] _ ⟨⟨_, _, _, rfl⟩, trivial⟩ (cellk _ 2 _ rfl) E4.blk.pts (fun x hx hin => by have e1 : b = x := Option.some.inj hx; simp [BlkIn, nth, blkOf, vaddr] at hin; omega) (den_norm (by simp only [List.cons_append, List.nil_append]; rfl) ?_)
  refine den_ldpD [.slice ta e.L.length tc] _ ⟨⟨_, _, _, rfl⟩, trivial⟩ (cellk _ 3 _ rfl) E4.blk.pts (fun x hx hin => by have e1 : b = x := Option.some.inj hx; simp [BlkIn, nth, blkOf, vaddr] at hin; omega) (den_norm (by simp only [List.cons_append, List.nil_append]; rfl) ?_)
  refine den_ldpD [.map (some m)] _ ⟨⟨_, rfl⟩, trivial⟩ (cellk _ 4 _ rfl) E4.blk.pts (fun x hx hin => by have e1 : b = x := Option.some.inj hx; simp [BlkIn, nth, blkOf, vaddr] at hin; omega) (den_norm (by simp only [List.cons_append, List.nil_append]; rfl) ?_)
  refine den_callR (fun w1 l w2 => ∃ v, l = [v] ∧ Mine hE 37 w2 v e.R ∧ ∀ g, v.ownBlock = some g → w1.heap.size ≤ g) (fun w5 h5 => ?_) (fun w5 l w6 h5 hfl hR k56 => ?_)
  · refine (c42 _ e.R w5 (h.same h5.base).r.1 (by omega)).mono fun v w' ⟨q1, q2, _⟩ => ?_
    obtain ⟨va, vc, hv⟩ := q1.slice
    exact ⟨[v], ⟨⟨_, _, _, hv⟩, trivial⟩, rfl, v, rfl, q1, q2⟩
  obtain ⟨v1, rfl, hM1, hlo1⟩ := hR
  have z5 : w4.heap.size ≤ w5.heap.size := h5.kept.size
  have z6 : w5.heap.size ≤ w6.heap.size := k56.size
  have E6 := (h.same h5.base).same k56
  refine den_norm (by simp only [List.cons_append, List.nil_append]; rfl) ?_
  refine den_callR (fun w1 l w2 => ∃ v, l = [v] ∧ Mine ntcE 23 w2 v e.L ∧ ∀ g, v.ownBlock = some g → w1.heap.size ≤ g) (fun w7 h7 => ?_) (fun w7 l w8 h7 hfl hR k78 => ?_)
  · refine (c36 _ e.L w7 (h.same h7.base).l.1 (by omega)).mono fun v w' ⟨q1, q2, _⟩ => ?_
    obtain ⟨va, vc, hv⟩ := q1.slice
    exact ⟨[v], ⟨⟨_, _, _, hv⟩, trivial⟩, rfl, v, rfl, q1, q2⟩
  obtain ⟨v2, rfl, hM2, hlo2⟩ := hR
  have z7' : w6.heap.size ≤ w7.heap.size := h7.kept.size
  have z8 : w7.heap.size ≤ w8.heap.size := k78.size
  have M1 := (hM1.same (shown_same h7)).same k78
  refine den_norm (by simp only [List.cons_append, List.nil_append]; rfl) ?_
  refine den_callR (fun w1 l w2 => ∃ m', l = [.map (some m')] ∧ w1.heap.size ≤ m' ∧ MapAt .u8 .u8 w2 m' e.B) (fun w9 h9 => ?_) (fun w9 l wa h9 hfl hR k9a => ?_)
  · exact (c56 e.B m w9 (h.same h9.base).map).mono fun v w' ⟨m', q1, q2, q3⟩ => ⟨[v], by rw [q1]; exact ⟨⟨_, rfl⟩, trivial⟩, rfl, m', by rw [q1], q2, q3⟩
  obtain ⟨m', rfl, hm', hM3⟩ := hR
  have z9 : w8.heap.size ≤ w9.heap.size := h9.kept.size
  have M1' := (M1.same (shown_same h9)).same k9a
  have M2' := (hM2.same (shown_same h9)).same k9a
  refine den_norm (by simp only [List.cons_append, List.nil_append]; rfl) ?_
  refine (den_leafR _ rfl fun wb hb => ⟨b7, m', v1, v2, by simp [SV.den, denL, IE.den, BE.den, nth, vint, vbool, vaddr, addO, addr_add], ⟨hb.facts.1, (M1'.kept hb.kept fun g hg hx => by have := hlo1 g hg; simp [BlkIn, nth, blkOf, vaddr] at hx; omega).given, (M2'.kept hb.kept fun g hg hx => by have := hlo2 g hg; simp [BlkIn, nth, blkOf, vaddr] at hx; omega).given, hM3.kept hb.kept fun hx => by simp [BlkIn, nth, blkOf, vaddr] at hx; omega, fun ad had => ?_, fun ad had => ?_⟩, by omega, by omega, fun ad had => ?_, fun ad had => ?_⟩)
  · have := hlo1 _ (hM1.own had)
    have := hM1.lt (hM1.own had)
    omega
  · have := hlo2 _ (hM2.own had)
    have := hM2.lt (hM2.own had)
    omega
  · have := hlo1 _ (hM1.own had)
    omega
  · have := hlo2 _ (hM2.own had)
    omega
end Go.Proofs.Ytfjlnfgbfclgbaa
