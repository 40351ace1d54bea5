/- The specification's Raise and Abort. No conditions beyond those that each theorem names. -/
import Derived.Test.YtfjlnfgbfclgbaaK
set_option maxRecDepth 100000
set_option maxHeartbeats 4000000
set_option linter.unusedVariables false
set_option linter.unusedSimpArgs false
namespace Go.Proofs.Ytfjlnfgbfclgbaa
open Go.Sx


theorem c50 (e : Ev) (s1 s2 : Value) (Bl : Nat → Bool) (Pg : Nat → Int) (n : Ntc) (hn : n.Ok) (hc : 0 ≤ e.cfg ∧ e.cfg < 4294967296) (w : World) (h1 : ∃ a n c, s1 = .slice a n c) (h2 : Given ntcE w s2 e.L) (hm : e.L.length ≤ 60000) :
    GivesR Try.prog 50 [refV e.lim e.cfg s1 s2 Bl Pg, n.v] w (fun v w' => ∃ s2', v = .tuple #[refV e.lim e.cfg s1 s2' Bl Pg, .bool (raiseB e n), .int .i64 (raiseC n)] ∧ Given ntcE w' s2' (raiseE e n).L ∧ Fr w s2 s2') := by
  obtain ⟨a, n1, c, rfl⟩ := h1
  obtain ⟨a2, c2, rfl⟩ := h2.1.slice
  have h13 := c13 n
  have h15 := c15 n hn e.cfg hc
  obtain ⟨lim, cfg, R, L, B⟩ := e
  dsimp only at h2 hm hc h15
  have hr := givesR (w := w) (R := fun v w' => ∃ s2', v = .tuple #[refV lim cfg (.slice a n1 c) s2' Bl Pg, .bool (raiseB ⟨lim, cfg, R, L, B⟩ n), .int .i64 (raiseC n)] ∧ Given ntcE w' s2' (raiseE ⟨lim, cfg, R, L, B⟩ n).L ∧ Fr w (.slice a2 L.length c2) s2') mix t50 rfl rfl (ε := [.int .i64 lim, .int .u32 cfg, .slice a n1 c, .slice a2 L.length c2, .bool (Bl 0), .bool (Bl 1), .bool (Bl 2), .bool (Bl 3), .bool (Bl 4), .bool (Bl 5), .bool (Bl 6), .bool (Bl 7), .int .u8 (Pg 0), .int .u8 (Pg 1), .int .u8 (Pg 2), .int .u8 (Pg 3), .int .u8 (Pg 4), .int .u8 (Pg 5), .int .u8 (Pg 6), .int .u8 (Pg 7), .int .u8 n.t, .int .u8 n.i, .int .u8 n.p]) ⟨⟨_, rfl⟩, ⟨_, rfl⟩, ⟨_, _, _, rfl⟩, ⟨_, _, _, rfl⟩, ⟨_, rfl⟩, ⟨_, rfl⟩, ⟨_, rfl⟩, ⟨_, rfl⟩, ⟨_, rfl⟩, ⟨_, rfl⟩, ⟨_, rfl⟩, ⟨_, rfl⟩, ⟨_, rfl⟩, ⟨_, rfl⟩, ⟨_, rfl⟩, ⟨_, rfl⟩, ⟨_, rfl⟩, ⟨_, rfl⟩, ⟨_, rfl⟩, ⟨_, rfl⟩, ⟨_, rfl⟩, ⟨_, rfl⟩, ⟨_, rfl⟩, trivial⟩ ?_
  · exact hr
  refine den_blk fun b1 k1 _ _ => den_norm (by simp only [List.cons_append, List.nil_append]; rfl) (den_blk fun b2 k2 _ _ => den_norm (by simp only [List.cons_append, List.nil_append]; rfl) (den_blk fun b3 k3 _ _ => den_norm (by simp only [List.cons_append, List.nil_append]; rfl) ?_))
  have z1 : w.heap.size ≤ b1 := k1
  have z2 : w.heap.size ≤ b2 := k2
  have z3 : w.heap.size ≤ b3 := k3
  refine den_call_bool (b := n.valid) (fun w1 h1 => h13 w1) rfl (fun w1 w2 hs1 hs2 => den_norm (by simp only [List.cons_append, List.nil_append]; rfl) (den_splitNot (fun hv => ?_) (fun hv => ?_)))
  · have hv' : n.valid = false := hv
    have e1 : raiseB ⟨lim, cfg, R, L, B⟩ n = false := by simp [raiseB, hv']
    have e2 : raiseC n = 2 := by simp [raiseC, hv']
    refine den_leafR _ rfl fun w5 h5 => ⟨.slice a2 L.length c2, by rw [e1, e2]; rfl, ?_⟩
    rw [show raiseE ⟨lim, cfg, R, L, B⟩ n = ⟨lim, cfg, R, L, B⟩ by unfold raiseE; rw [e1]; rfl]
    exact ⟨h2.kept h5.base fun ad had hx => hx, Fr.refl _ _⟩
  have hv' : n.valid = true := hv
  have e2 : raiseC n = 0 := by simp [raiseC, hv']
  refine den_for L.length (fun j w' => ∀ (i : Nat) x, i < j → L[i]? = some x → (decide (x.t = n.t) && decide (x.i = n.i)) = false) ⟨rfl, fun w _ i x hi => by omega⟩ ?_
  intro j w3 hj hno hk hfa
  have hA := h2.same hk
  have zW : w.heap.size ≤ w3.heap.size := hk.size
  refine den_norm (by simp only [List.cons_append, List.nil_append]; rfl) (den_splitLt (fun hlt => ?_) (fun hge => ?_))
  · have hlt' : j < L.length := by simpa [IE.den, nth, vint, vlen] using hlt
    have hx : L[j]? = some (L[j]'hlt') := by simp
    generalize L[j]'hlt' = x at hx
    have next : (decide (x.t = n.t) && decide (x.i = n.i)) = false → ∀ (i : Nat) x, i < j + 1 → L[i]? = some x → (decide (x.t = n.t) && decide (x.i = n.i)) = false := fun hf i x' hi hx' => by
      by_cases hij : i = j
      · subst hij
        rw [hx] at hx'
        cases hx'
        exact hf
      · exact hno i x' (by omega) hx'
    refine den_start1 fun w4 h4 => ?_
    have hA4 := hA.same (shown_same h4)
    have nX : ∀ ad, vaddr (.slice a2 L.length c2) = some ad → ¬ (ad.block = b1 ∨ ad.block = b2 ∨ ad.block = b3) := fun ad had hin => by have := h2.2.2.2 ad had; omega
    refine den_idxD (E := ntcE) (L := L) x j [.int .u8 x.t] rfl (by decide) rfl hx ⟨⟨_, rfl⟩, trivial⟩ (cell0 _ _ rfl) hA4.1 (fun ad had hin => nX ad had (by simp [BlkIn, nth, blkOf, vaddr] at hin; omega)) (den_norm (by simp only [List.cons_append, List.nil_append]; rfl) ?_)
    refine den_splitEq (fun h6 => ?_) (fun h6 => ?_)
    · have h6' : x.t = n.t := h6
      refine den_idxD2 (E := ntcE) (L := L) x j [.int .u8 x.i] rfl (by decide) rfl hx ⟨⟨_, rfl⟩, trivial⟩ (cellk _ 1 _ rfl) hA4.1 (fun ad had hin => nX ad had (by simp [BlkIn, nth, blkOf, vaddr] at hin; omega)) (den_norm (by simp only [List.cons_append, List.nil_append]; rfl) ?_)
      refine den_splitEq (fun h7 => ?_) (fun h7 => ?_)
      · have h7' : x.i = n.i := h7
        have e1 : raiseB ⟨lim, cfg, R, L, B⟩ n = false := by
          have : (L.any fun x => decide (x.t = n.t) && decide (x.i = n.i)) = true := List.any_eq_true.2 ⟨x, List.mem_of_getElem? hx, by simp [h6', h7']⟩
          simp [raiseB, this]
        refine den_leaf_ne (by decide) (den_leafR _ rfl fun w5 h5 => ⟨.slice a2 L.length c2, by rw [e1, e2]; rfl, ?_⟩)
        rw [show raiseE ⟨lim, cfg, R, L, B⟩ n = ⟨lim, cfg, R, L, B⟩ by unfold raiseE; rw [e1]; rfl]
        exact ⟨h2.kept h5.base fun ad had hx => hx, Fr.refl _ _⟩
      · have h7' : x.i ≠ n.i := h7
        exact den_ob64 (by simp only [IE.den, nth, vint]; omega) (den_next rfl hlt' fun w5 _ => next (by simp [h7']))
    · have h6' : x.t ≠ n.t := h6
      exact den_ob64 (by simp only [IE.den, nth, vint]; omega) (den_next rfl hlt' fun w5 _ => next (by simp [h6']))
  have hge' : L.length ≤ j := by simpa [IE.den, nth, vint, vlen] using hge
  have hany : (L.any fun x => decide (x.t = n.t) && decide (x.i = n.i)) = false := by
    rw [List.any_eq_false]
    intro x hx
    obtain ⟨i, hi⟩ := List.getElem?_of_mem hx
    rw [hno i x (by have := (List.getElem?_eq_some_iff.1 hi).1; omega) hi]
    decide
  have f1 : b3 < w3.heap.size ∧ b2 < w3.heap.size ∧ b1 < w3.heap.size := by
    obtain ⟨x1, q1, l1⟩ := hfa.1.lt
    obtain ⟨x2, q2, l2⟩ := hfa.2.1.lt
    obtain ⟨x3, q3, l3⟩ := hfa.2.2.1.lt
    cases q1
    cases q2
    cases q3
    exact ⟨l1, l2, l3⟩
  refine den_call_bool (b := enI n.t n.i cfg) (fun w4 h4 => h15 w4) rfl (fun w4 w4' h4 h4' => den_norm (by simp only [List.cons_append, List.nil_append]; rfl) (den_splitNot (fun he => ?_) (fun he => ?_)))
  · have he' : enI n.t n.i cfg = false := he
    have e1 : raiseB ⟨lim, cfg, R, L, B⟩ n = false := by simp [raiseB, he']
    refine den_leaf_ne (by decide) (den_leafR _ rfl fun w5 h5 => ⟨.slice a2 L.length c2, by rw [e1, e2]; rfl, ?_⟩)
    rw [show raiseE ⟨lim, cfg, R, L, B⟩ n = ⟨lim, cfg, R, L, B⟩ by unfold raiseE; rw [e1]; rfl]
    exact ⟨h2.kept h5.base fun ad had hx => hx, Fr.refl _ _⟩
  have he' : enI n.t n.i cfg = true := he
  have e1 : raiseB ⟨lim, cfg, R, L, B⟩ n = true := by simp [raiseB, hv', hany, he']
  have e3 : (raiseE ⟨lim, cfg, R, L, B⟩ n).L = L ++ [n] := by unfold raiseE; rw [e1]; rfl
  have hA4 := (hA.same (shown_same h4)).same h4'
  have z4 : w3.heap.size ≤ w4.heap.size := h4.kept.size
  have z4' : w4.heap.size ≤ w4'.heap.size := h4'.size
  refine den_startF fun w5 h5 => ?_
  have E5 := hA4.same (shown_same h5)
  have z5 : w4'.heap.size ≤ w5.heap.size := h5.kept.size
  refine den_both (den_both ?_ ?_) ?_
  · refine den_appendL (E := ntcE) (T := 23) rfl u57 i23 z23 s23 rfl (by decide) by23 ntc_one (.slice none 0 0) (.slice a2 L.length c2) [] L rfl rfl h2.2.1 (by simp; omega) (fun g hg _ => by cases hg) (by simp [keys]) (fun wa ha => ⟨Mine.nil, (E5.same (shown_same ha)).1⟩) (fun g hg _ => by cases hg) (fun _ g hg => by cases hg) (fun _ => rfl) (fun wa v wb ha hv kab hfr hap => den_norm (by simp only [List.cons_append, List.nil_append]; rfl) ?_)
    rw [List.nil_append] at hv
    have hlo : ∀ g, v.ownBlock = some g → wa.heap.size ≤ g := fun g hg => by
      rcases hfr with ⟨e1, _⟩ | ⟨b', e1, hb', _⟩
      · rw [e1] at hg; cases hg
      · rw [e1] at hg; cases hg; exact hb'
    have za : w5.heap.size ≤ wa.heap.size := ha.kept.size
    have zb : wa.heap.size ≤ wb.heap.size := kab.size
    refine den_blk fun b30 k30 _ _ => den_norm (by simp only [List.cons_append, List.nil_append]; rfl) ?_
    have z30 : wb.heap.size ≤ b30 := k30
    have l30 : True := trivial
    refine den_push (E := ntcE) (T := 23) rfl u57 i23 z23 s23 rfl (by decide) by23 ntc_one v L n rfl rfl rfl (by omega) (fun g hg _ => .inl (by have := hlo g hg; show w.heap.size ≤ g; omega)) (by simp [keys]) (fun wc hc => hv.same (shown_same hc)) ?_ (fun _ g hg _ => .inl (by have := hlo g hg; omega)) (fun _ => rfl) (fun wc v' wd hc hv' kcd hfr' hap' => den_norm (by simp only [List.cons_append, List.nil_append]; rfl) ?_)
    · intro g hg _ hin2
      have q1 := hlo g hg
      have q2 := hv.lt hg
      simp [BlkIn, nth, blkOf, vaddr] at hin2
      omega
    refine den_leaf_ne (by decide) (den_leafR _ rfl fun we he => ⟨v', by rw [e1, e2]; rfl, ?_⟩)
    rw [e3]
    refine ⟨(hv'.kept he.kept fun g hg hin2 => ?_).given, Fr.new fun ad had => ?_⟩
    rotate_left
    · have zc : wb.heap.size ≤ wc.heap.size := hc.kept.size
      have hg := hv'.own had
      rcases hfr' with ⟨q1, _⟩ | ⟨b', q1, hb', _⟩
      · rw [q1] at hg
        have q1 := hlo _ hg
        omega
      · rw [q1] at hg
        have q4 : b' = ad.block := Option.some.inj hg
        omega
    have lc : b30 < wc.heap.size := hc.lt (i := 30) (by simp [keys]) rfl
    have zc : wb.heap.size ≤ wc.heap.size := hc.kept.size
    rcases hfr' with ⟨q1, _⟩ | ⟨b', q1, hb', _⟩
    · rw [q1] at hg
      have q1 := hlo g hg
      have q2 := hv.lt hg
      simp [BlkIn, nth, blkOf, vaddr] at hin2
      omega
    · rw [q1] at hg
      have q4 : b' = g := Option.some.inj hg
      simp [BlkIn, nth, blkOf, vaddr] at hin2
      omega
  · refine den_blk fun b29 k29 _ _ => den_norm (by simp only [List.cons_append, List.nil_append]; rfl) ?_
    have z29 : w5.heap.size ≤ b29 := k29
    refine den_appendL (E := ntcE) (T := 23) rfl u57 i23 z23 s23 rfl (by decide) by23 ntc_one (.slice none 0 0) (.slice a2 L.length c2) [] L rfl rfl h2.2.1 (by simp; omega) (fun g hg _ => by cases hg) (by simp [keys]) (fun wa ha => ⟨Mine.nil, (E5.same (shown_same ha)).1⟩) (fun g hg _ => by cases hg) (fun _ g hg => by cases hg) (fun _ => rfl) (fun wa v wb ha hv kab hfr hap => den_norm (by simp only [List.cons_append, List.nil_append]; rfl) ?_)
    rw [List.nil_append] at hv
    have hlo : ∀ g, v.ownBlock = some g → wa.heap.size ≤ g := fun g hg => by
      rcases hfr with ⟨e1, _⟩ | ⟨b', e1, hb', _⟩
      · rw [e1] at hg; cases hg
      · rw [e1] at hg; cases hg; exact hb'
    have lb29 : b29 < wa.heap.size := ha.lt (i := 29) (by simp [keys]) rfl
    have za : w5.heap.size ≤ wa.heap.size := ha.kept.size
    have zb : wa.heap.size ≤ wb.heap.size := kab.size
    refine den_push (E := ntcE) (T := 23) rfl u57 i23 z23 s23 rfl (by decide) by23 ntc_one v L n rfl rfl rfl (by omega) (fun g hg _ => .inl (by have := hlo g hg; show w.heap.size ≤ g; omega)) (by simp [keys]) (fun wc hc => hv.same (shown_same hc)) ?_ (fun _ g hg _ => .inl (by have := hlo g hg; omega)) (fun _ => rfl) (fun wc v' wd hc hv' kcd hfr' hap' => den_norm (by simp only [List.cons_append, List.nil_append]; rfl) ?_)
    · intro g hg _ hin2
      have q1 := hlo g hg
      have q2 := hv.lt hg
      simp [BlkIn, nth, blkOf, vaddr] at hin2
      omega
    refine den_leaf_ne (by decide) (den_leafR _ rfl fun we he => ⟨v', by rw [e1, e2]; rfl, ?_⟩)
    rw [e3]
    refine ⟨(hv'.kept he.kept fun g hg hin2 => ?_).given, Fr.new fun ad had => ?_⟩
    rotate_left
    · have zc : wb.heap.size ≤ wc.heap.size := hc.kept.size
      have hg := hv'.own had
      rcases hfr' with ⟨q1, _⟩ | ⟨b', q1, hb', _⟩
      · rw [q1] at hg
        have q1 := hlo _ hg
        omega
      · rw [q1] at hg
        have q4 : b' = ad.block := Option.some.inj hg
        omega
    have zc : wb.heap.size ≤ wc.heap.size := hc.kept.size
    rcases hfr' with ⟨q1, _⟩ | ⟨b', q1, hb', _⟩
    · rw [q1] at hg
      have q1 := hlo g hg
      have q2 := hv.lt hg
      simp [BlkIn, nth, blkOf, vaddr] at hin2
      omega
    · rw [q1] at hg
      have q4 : b' = g := Option.some.inj hg
      simp [BlkIn, nth, blkOf, vaddr] at hin2
      omega
  · refine den_blk fun b29 k29 _ _ => den_norm (by simp only [List.cons_append, List.nil_append]; rfl) ?_
    have z29 : w5.heap.size ≤ b29 := k29
    refine den_appendL (E := ntcE) (T := 23) rfl u57 i23 z23 s23 rfl (by decide) by23 ntc_one (.slice none 0 0) (.slice a2 L.length c2) [] L rfl rfl h2.2.1 (by simp; omega) (fun g hg _ => by cases hg) (by simp [keys]) (fun wa ha => ⟨Mine.nil, (E5.same (shown_same ha)).1⟩) (fun g hg _ => by cases hg) (fun _ g hg => by cases hg) (fun _ => rfl) (fun wa v wb ha hv kab hfr hap => den_norm (by simp only [List.cons_append, List.nil_append]; rfl) ?_)
    rw [List.nil_append] at hv
    have hlo : ∀ g, v.ownBlock = some g → wa.heap.size ≤ g := fun g hg => by
      rcases hfr with ⟨e1, _⟩ | ⟨b', e1, hb', _⟩
      · rw [e1] at hg; cases hg
      · rw [e1] at hg; cases hg; exact hb'
    have lb29 : b29 < wa.heap.size := ha.lt (i := 29) (by simp [keys]) rfl
    have za : w5.heap.size ≤ wa.heap.size := ha.kept.size
    have zb : wa.heap.size ≤ wb.heap.size := kab.size
    refine den_push (E := ntcE) (T := 23) rfl u57 i23 z23 s23 rfl (by decide) by23 ntc_one v L n rfl rfl rfl (by omega) (fun g hg _ => .inl (by have := hlo g hg; show w.heap.size ≤ g; omega)) (by simp [keys]) (fun wc hc => hv.same (shown_same hc)) ?_ (fun _ g hg _ => .inl (by have := hlo g hg; omega)) (fun _ => rfl) (fun wc v' wd hc hv' kcd hfr' hap' => den_norm (by simp only [List.cons_append, List.nil_append]; rfl) ?_)
    · intro g hg _ hin2
      have q1 := hlo g hg
      have q2 := hv.lt hg
      simp [BlkIn, nth, blkOf, vaddr] at hin2
      omega
    refine den_leaf_ne (by decide) (den_leafR _ rfl fun we he => ⟨v', by rw [e1, e2]; rfl, ?_⟩)
    rw [e3]
    refine ⟨(hv'.kept he.kept fun g hg hin2 => ?_).given, Fr.new fun ad had => ?_⟩
    rotate_left
    · have zc : wb.heap.size ≤ wc.heap.size := hc.kept.size
      have hg := hv'.own had
      rcases hfr' with ⟨q1, _⟩ | ⟨b', q1, hb', _⟩
      · rw [q1] at hg
        have q1 := hlo _ hg
        omega
      · rw [q1] at hg
        have q4 : b' = ad.block := Option.some.inj hg
        omega
    have zc : wb.heap.size ≤ wc.heap.size := hc.kept.size
    rcases hfr' with ⟨q1, _⟩ | ⟨b', q1, hb', _⟩
    · rw [q1] at hg
      have q1 := hlo g hg
      have q2 := hv.lt hg
      simp [BlkIn, nth, blkOf, vaddr] at hin2
      omega
    · rw [q1] at hg
      have q4 : b' = g := Option.some.inj hg
      simp [BlkIn, nth, blkOf, vaddr] at hin2
      omega
end Go.Proofs.Ytfjlnfgbfclgbaa
