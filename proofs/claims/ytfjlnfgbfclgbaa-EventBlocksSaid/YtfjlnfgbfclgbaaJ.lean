/- What Raise returns, and where the state of events lies. No conditions beyond those that each theorem names. -/
import Derived.Test.YtfjlnfgbfclgbaaI
import Derived.Test.YtfjlnfgbfclgbaaTE
set_option maxRecDepth 100000
set_option maxHeartbeats 2000000
set_option linter.unusedVariables false
set_option linter.unusedSimpArgs false
namespace Go.Proofs.Ytfjlnfgbfclgbaa
open Go.Sx

theorem _root_.Go.Sx.Given.quiet {α : Type} {E : Enc α} {w w' : World} {s : Value} {L : List α} (h : Given E w s L) (hk : Quiet w w') : Given E w' s L := ⟨h.1.quiet hk, h.2.1, h.2.2.1, fun ad had => Nat.lt_of_lt_of_le (h.2.2.2 ad had) hk.size⟩
theorem Rest.quiet {w w' : World} {b m : Nat} {s1 s2 : Value} {e : Ev} (h : Rest w b m s1 s2 e) (hq : Quiet w w') : Rest w' b m s1 s2 e := ⟨h.r.quiet hq, h.l.quiet hq, h.map.quiet hq, h.ne1, h.ne2⟩

theorem EvAt.quiet {w w' : World} {b m : Nat} {s1 s2 : Value} {e : Ev} (h : EvAt w b m s1 s2 e) (hk : Quiet w w') : EvAt w' b m s1 s2 e :=
  ⟨h.blk.quiet hk, h.r.quiet hk, h.l.quiet hk, h.map.quiet hk, h.ne1, h.ne2⟩
/-- a new list of notices is stored -/
theorem EvAt.ntcs {w w' : World} {b m : Nat} {s1 s2 s2' : Value} {e : Ev} {L' : List Ntc} (h : EvAt w b m s1 s2 e) (hk : Kept (fun x => x = b) w w') (hb : HasBlk w' (pt b) [.int .i64 e.lim, .int .u32 e.cfg, s1, s2', .map (some m)]) (hr : Given ntcE w' s2' L') (hne : ∀ ad, vaddr s2' = some ad → ad.block ≠ b ∧ ad.block ≠ m) :
    EvAt w' b m s1 s2' { e with L := L' } :=
  ⟨hb, h.r.kept hk fun ad had e => (h.ne1 ad had).1 e, hr, h.map.kept hk fun e => h.ne e.symm, h.ne1, hne⟩

def raiseB (e : Ev) (n : Ntc) : Bool := n.valid && !(e.L.any fun x => decide (x.t = n.t) && decide (x.i = n.i)) && enI n.t n.i e.cfg
def raiseC (n : Ntc) : Int := if n.valid then 0 else 2
def raiseE (e : Ev) (n : Ntc) : Ev := if raiseB e n then { e with L := e.L ++ [n] } else e

theorem c21 (b m : Nat) (s1 s2 : Value) (e : Ev) (n : Ntc) (hn : n.Ok) (hc : 0 ≤ e.cfg ∧ e.cfg < 4294967296) (w : World) (h : EvAt w b m s1 s2 e) (hl : e.lim ≠ 0) (hm : e.L.length ≤ 60000000) :
    Runs Try.prog 21 [pt b, n.v] w (fun x => x = b) (fun v w' => v = .tuple #[.bool (raiseB e n), .int .i64 (raiseC n)] ∧ ∃ s2', EvAt w' b m s1 s2' (raiseE e n) ∧ (s2' = s2 ∨ ∀ ad, vaddr s2' = some ad → w.heap.size ≤ ad.block)) := by
  obtain ⟨a, c, rfl⟩ := h.l.1.slice
  have h12 := c12 n hn
  have h14 := c14 n hn e.cfg hc
  obtain ⟨sa, sc, rfl⟩ := h.r.1.slice
  have hr := runs mix t21 rfl rfl (ε := [pt b, .int .i64 e.lim, .int .u32 e.cfg, .slice sa e.R.length sc, .slice a e.L.length c, .map (some m), .int .u8 n.t, .int .u8 n.i, .int .u8 n.p]) (w := w) (M := fun x => x = b) (R := fun v w' => v = .tuple #[.bool (raiseB e n), .int .i64 (raiseC n)] ∧ ∃ s2', EvAt w' b m (.slice sa e.R.length sc) s2' (raiseE e n) ∧ (s2' = .slice a e.L.length c ∨ ∀ ad, vaddr s2' = some ad → w.heap.size ≤ ad.block)) ⟨⟨_, rfl⟩, ⟨_, rfl⟩, ⟨_, rfl⟩, ⟨_, _, _, rfl⟩, ⟨_, _, _, rfl⟩, ⟨_, rfl⟩, ⟨_, rfl⟩, ⟨_, rfl⟩, ⟨_, rfl⟩, trivial⟩ ⟨h.blk, trivial⟩ (by simp [keys]) (by simp [keys]) (by simp [keys, nth, blkOf, vaddr]) ?_
  · simpa [SV.den, denL, IE.den, BE.den, nth, vint, vbool, vaddr, addO, addr_add, Ntc.v] using hr
  have lb := h.lt
  have lm := h.map.lt
  refine den_blk fun b4 k4 _ _ => den_norm (by simp only [List.cons_append, List.nil_append]; rfl) (den_blk fun b5 k5 _ _ => den_norm (by simp only [List.cons_append, List.nil_append]; rfl) (den_blk fun b6 k6 _ _ => den_norm (by simp only [List.cons_append, List.nil_append]; rfl) ?_))
  have z4 : w.heap.size ≤ b4 := k4
  have z5 : w.heap.size ≤ b5 := k5
  have z6 : w.heap.size ≤ b6 := k6
  have R0 := h.rest
  have up : ∀ {wa wb : World} {M : Nat → Prop}, Rest wa b m (.slice sa e.R.length sc) (.slice a e.L.length c) e → Kept M wa wb → (∀ x, M x → x < w.heap.size → x = b) → Rest wb b m (.slice sa e.R.length sc) (.slice a e.L.length c) e := fun {wa wb M} hR hk hM => hR.kept hk (fun hx => h.ne (hM _ hx lm).symm) (fun ad had hx => (h.ne1 ad had).1 (hM _ hx (h.r.2.2.2 ad had))) (fun ad had hx => (h.ne2 ad had).1 (hM _ hx (h.l.2.2.2 ad had)))
  refine den_call_bool (b := decide (e.lim = 0)) (fun w1 h1 => c39 b m _ _ e w1 ((R0.same (shown_same h1)).ev h1.facts.2.2.2.1)) rfl (fun w1 w2 h1 h2 => den_norm (by simp only [List.cons_append, List.nil_append]; rfl) (den_split_false (by simp [BE.den, nth, vbool, hl]) ?_))
  have E2 := (R0.same (shown_same h1)).same h2
  refine den_call_bool (b := n.valid) (fun w3 h3 => h12 w3) rfl (fun w3 w4 h3 h4 => den_norm (by simp only [List.cons_append, List.nil_append]; rfl) (den_splitNot (fun hv => ?_) (fun hv => ?_)))
  · have hv' : n.valid = false := hv
    have e1 : raiseB e n = false := by simp [raiseB, hv']
    have e2 : raiseC n = 2 := by simp [raiseC, hv']
    refine den_leafMA _ rfl fun w5 w6 h5 hq => ⟨by rw [e1, e2]; rfl, .slice a e.L.length c, ?_, .inl rfl⟩
    rw [show raiseE e n = e by unfold raiseE; rw [e1]; rfl]
    exact ((up ((E2.same (shown_same h3)).same h4) h5.kept fun x hx hlt => by simp [BlkIn, nth, blkOf, vaddr] at hx; omega).ev h5.facts.2.2.2.1).quiet hq
  have hv' : n.valid = true := hv
  have e2 : raiseC n = 0 := by simp [raiseC, hv']
  have E4 := (E2.same (shown_same h3)).same h4
  refine den_callR (fun w5 l w6 => ∃ v, l = [v] ∧ SeqAt Try.prog w5.heap.size w6.heap.size w6 v (ysN e.L)) (fun w5 h5 => ?_) ?_
  · refine (c24 b m _ _ e w5 ((E4.same (shown_same h5)).ev h5.facts.2.2.2.1) hl (by omega)).mono fun v w' hs => ⟨[v], ?_, ?_, v, rfl, hs⟩
    · obtain ⟨g, caps, Ft, rfl, _⟩ := hs.ex
      exact ⟨rfl, trivial⟩
    · rfl
  rintro w5 l w6 h5 _ ⟨v, rfl, hsq⟩ h56
  have E6 := (E4.same (shown_same h5)).same h56
  have B6 := ((E4.same (shown_same h5)).ev h5.facts.2.2.2.1).blk
  have z5' : w.heap.size ≤ w5.heap.size := h5.base.size
  have l4 : b4 < w5.heap.size := h5.lt (i := 9) (by simp [keys]) rfl
  have l5 : b5 < w5.heap.size := h5.lt (i := 10) (by simp [keys]) rfl
  have l6 : b6 < w5.heap.size := h5.lt (i := 11) (by simp [keys]) rfl
  refine den_norm (by simp only [List.cons_append, List.nil_append]; rfl) ?_
  refine den_range (e.L.map Ntc.cells) (fun k l wk => l = [] ∧ (∀ (j : Nat) x, j < k → e.L[j]? = some x → (decide (x.t = n.t) && decide (x.i = n.i)) = false) ∧ Rest wk b m (.slice sa e.R.length sc) (.slice a e.L.length c) e) w5.heap.size w6.heap.size ?_ ?_ ?_ ?_ ?_ ?_
  · intro y hy
    obtain ⟨x, _, rfl⟩ := List.mem_map.1 hy
    exact ⟨⟨_, rfl⟩, ⟨_, rfl⟩, ⟨_, rfl⟩, trivial⟩
  · intro y hy
    simp [BlkIn, nth, blkOf, vaddr] at hy
    omega
  · intro w7 h7
    exact hsq.kept (M := fun _ => False) (shown_same h7) fun _ _ _ _ h => h
  · intro w7 h7
    exact ⟨rfl, fun j x hj => by omega, E6.same (shown_same h7)⟩
  · rintro w7 Ft h7 k y hy l hl' w8 w9 ⟨rfl, hno, E8⟩ hq hk hfa hFt
    rw [List.getElem?_map] at hy
    obtain ⟨x, hx, rfl⟩ := Option.map_eq_some_iff.1 hy
    have E9 := E8.quiet hq
    refine den_norm (by simp only [List.cons_append, List.nil_append, Ntc.cells]; rfl) (den_blk fun b13 k13 _ kW => den_norm (by simp only [List.cons_append, List.nil_append]; rfl) ?_)
    have zW : w.heap.size ≤ w9.heap.size := hk.size
    have z13 : w9.heap.size ≤ b13 := k13
    have next : (decide (x.t = n.t) && decide (x.i = n.i)) = false → ∀ (j : Nat) x, j < k + 1 → e.L[j]? = some x → (decide (x.t = n.t) && decide (x.i = n.i)) = false := fun hf j x' hj hx' => by
      by_cases hjk : j = k
      · subst hjk
        rw [hx] at hx'
        cases hx'
        exact hf
      · exact hno j x' (by omega) hx'
    refine den_splitEq (fun h1 => den_splitEq (fun h2 => ?_) (fun h2 => ?_)) (fun h1 => ?_)
    · have h1' : x.t = n.t := h1
      have h2' : x.i = n.i := h2
      have e1 : raiseB e n = false := by
        have : (e.L.any fun x => decide (x.t = n.t) && decide (x.i = n.i)) = true := List.any_eq_true.2 ⟨x, List.mem_of_getElem? hx, by simp [h1', h2']⟩
        simp [raiseB, this]
      refine den_resume fun w13 h13 w14 hq14 hk14 => ?_
      intro wz hz wq hqq hb
      refine (if_neg (by decide)).mpr ⟨_, rfl, ⟨by rw [e1, e2]; rfl, .slice a e.L.length c, ?_, .inl rfl⟩, hb⟩
      rw [show raiseE e n = e by unfold raiseE; rw [e1]; rfl]
      have E13 := up E9 h13.kept fun x hx hlt => by simp [BlkIn, nth, blkOf, vaddr] at hx; omega
      exact (((E13.quiet hq14).same (shown_same hz)).ev hz.facts.2.2.2.2.1).quiet hqq
    · have h2' : x.i ≠ n.i := h2
      exact den_leaf_round hFt fun w13 h13 => ⟨rfl, next (by simp [h2']), E9.same (shown_same h13)⟩
    · have h1' : x.t ≠ n.t := h1
      exact den_leaf_round hFt fun w13 h13 => ⟨rfl, next (by simp [h1']), E9.same (shown_same h13)⟩
  rintro w7 h7 l hl' w8 w9 ⟨rfl, hno, E8⟩ hq hk hfa
  have E9 := E8.quiet hq
  have hany : (e.L.any fun x => decide (x.t = n.t) && decide (x.i = n.i)) = false := by
    rw [List.any_eq_false]
    intro x hx
    obtain ⟨i, hi⟩ := List.getElem?_of_mem hx
    rw [hno i x (by rw [List.length_map]; exact (List.getElem?_eq_some_iff.1 hi).1) hi]
    decide
  have zW : w.heap.size ≤ w9.heap.size := hk.size
  have f9 := hfa.1.lt
  refine den_norm (by simp only [List.cons_append, List.nil_append]; rfl) ?_
  refine den_startF fun w10 h10 => ?_
  have E10 := E9.same (shown_same h10)
  refine den_call_bool (b := enI n.t n.i e.cfg) (fun w11 _ => h14 w11) rfl (fun w11 w12 h11 h12' => den_norm (by simp only [List.cons_append, List.nil_append]; rfl) (den_splitNot (fun he => ?_) (fun he => ?_)))
  · have he' : enI n.t n.i e.cfg = false := he
    have e1 : raiseB e n = false := by simp [raiseB, he']
    refine den_leafMA _ rfl fun w13 w14 h13 hq13 => ⟨by rw [e1, e2]; rfl, .slice a e.L.length c, ?_, .inl rfl⟩
    rw [show raiseE e n = e by unfold raiseE; rw [e1]; rfl]
    exact ((up ((E10.same (shown_same h11)).same h12') h13.kept fun x hx hlt => by simp [BlkIn, nth, blkOf, vaddr] at hx; omega).ev h13.facts.2.2.2.1).quiet hq13
  have he' : enI n.t n.i e.cfg = true := he
  have e1 : raiseB e n = true := by simp [raiseB, hv', hany, he']
  have e3 : raiseE e n = { e with L := e.L ++ [n] } := by unfold raiseE; rw [e1]; rfl
  have E12 := (E10.same (shown_same h11)).same h12'
  have z10 : w9.heap.size ≤ w10.heap.size := h10.kept.size
  have z11 : w10.heap.size ≤ w11.heap.size := h11.kept.size
  have z12 : w11.heap.size ≤ w12.heap.size := h12'.size
  refine den_startF fun w13 h13 => ?_
  have E13 := E12.same (shown_same h13)
  have z13 : w12.heap.size ≤ w13.heap.size := h13.kept.size
  have q4 : b4 < w13.heap.size := h13.lt (i := 9) (by simp [keys]) rfl
  have q5 : b5 < w13.heap.size := h13.lt (i := 10) (by simp [keys]) rfl
  have q6 : b6 < w13.heap.size := h13.lt (i := 11) (by simp [keys]) rfl
  have fin : ∀ {v' : Value} {wz wq : World}, Rest wz b m (.slice sa e.R.length sc) (.slice a e.L.length c) e → HasBlk wz (pt b) [.int .i64 e.lim, .int .u32 e.cfg, .slice sa e.R.length sc, v', .map (some m)] → Given ntcE wz v' (e.L ++ [n]) → (∀ ad, vaddr v' = some ad → w.heap.size ≤ ad.block) → Quiet wz wq →
      ∃ s2', EvAt wq b m (.slice sa e.R.length sc) s2' (raiseE e n) ∧ (s2' = .slice a e.L.length c ∨ ∀ ad, vaddr s2' = some ad → w.heap.size ≤ ad.block) := fun {v' wz wq} hR hB hG hf hq => by
    refine ⟨v', ?_, .inr hf⟩
    rw [e3]
    exact EvAt.quiet ⟨hB, hR.r, hG, hR.map, h.ne1, fun ad had => by have := hf ad had; omega⟩ hq
  refine den_both (den_both ?_ ?_) ?_
  · refine den_callR (fun w1 l w2 => ∃ v, l = [v] ∧ Mine ntcE 23 w2 v e.L ∧ ∀ g, v.ownBlock = some g → w1.heap.size ≤ g) (fun w14 h14 => ?_) (fun w14 l w15 h14 hfl hR k1415 => ?_)
    · refine (c36 _ e.L w14 (E13.same (shown_same h14)).l.1 (by omega)).mono fun v w' ⟨q1, q2, _⟩ => ?_
      obtain ⟨va, vc, hv⟩ := q1.slice
      exact ⟨[v], ⟨⟨_, _, _, hv⟩, trivial⟩, rfl, v, rfl, q1, q2⟩
    obtain ⟨v, rfl, hM, hlo⟩ := hR
    have E15 := (E13.same (shown_same h14)).same k1415
    have z14 : w13.heap.size ≤ w14.heap.size := h14.kept.size
    have z15 : w14.heap.size ≤ w15.heap.size := k1415.size
    refine den_norm (by simp only [List.cons_append, List.nil_append]; rfl) (den_blk fun b17 k17 k17' _ => den_norm (by simp only [List.cons_append, List.nil_append]; rfl) ?_)
    have z17 : w15.heap.size ≤ b17 := k17
    refine den_push (E := ntcE) (T := 23) rfl u57 i23 z23 s23 rfl (by decide) by23 ntc_one v e.L n rfl rfl rfl (by omega) (fun g hg _ => .inl (by have := hlo g hg; show w.heap.size ≤ g; omega)) (by simp [keys]) (fun wa ha => hM.same (shown_same ha)) ?_ (fun _ g hg _ => .inl (by have := hlo g hg; omega)) (fun _ => rfl) (fun wa v' wb ha hv' kab hfr hap => den_norm (by simp only [List.cons_append, List.nil_append]; rfl) ?_)
    · intro g hg _ hin2
      have q1 := hlo g hg
      have q2 := hM.lt hg
      simp [BlkIn, nth, blkOf, vaddr] at hin2
      omega
    have za : w15.heap.size ≤ wa.heap.size := ha.kept.size
    have zb : wa.heap.size ≤ wb.heap.size := kab.size
    have Eb := up (E15.same (shown_same ha)) kab fun x hx hlt => by have := hlo x hx.1; omega
    have fresh : ∀ g, v'.ownBlock = some g → w.heap.size ≤ g ∧ w13.heap.size ≤ g ∧ g ≠ b17 := fun g hg => by
      rcases hfr with ⟨e1, _⟩ | ⟨b', e1, hb', _⟩
      · rw [e1] at hg
        have q1 := hlo g hg
        have q2 := hM.lt hg
        omega
      · rw [e1] at hg
        have e5 : b' = g := Option.some.inj hg
        have l17 : b17 < wa.heap.size := ha.lt (i := 17) (by simp [keys]) rfl
        omega
    refine den_leafMA _ rfl fun wz wq hz hq => ⟨by rw [e1, e2]; rfl, ?_⟩
    refine fin (v' := v') (up Eb hz.kept fun x hx hlt => by simp [BlkIn, nth, blkOf, vaddr] at hx; omega) hz.facts.2.2.2.2.1 ((hv'.kept hz.kept fun g hg hx => ?_).given) (fun ad had => (fresh _ (hv'.own had)).1) hq
    have := fresh g hg
    simp [BlkIn, nth, blkOf, vaddr] at hx
    omega
  · refine den_blk fun b16 k16 k16' _ => den_norm (by simp only [List.cons_append, List.nil_append]; rfl) ?_
    have z16 : w13.heap.size ≤ b16 := k16
    refine den_callR (fun w1 l w2 => ∃ v, l = [v] ∧ Mine ntcE 23 w2 v e.L ∧ ∀ g, v.ownBlock = some g → w1.heap.size ≤ g) (fun w14 h14 => ?_) (fun w14 l w15 h14 hfl hR k1415 => ?_)
    · refine (c36 _ e.L w14 (E13.same (shown_same h14)).l.1 (by omega)).mono fun v w' ⟨q1, q2, _⟩ => ?_
      obtain ⟨va, vc, hv⟩ := q1.slice
      exact ⟨[v], ⟨⟨_, _, _, hv⟩, trivial⟩, rfl, v, rfl, q1, q2⟩
    obtain ⟨v, rfl, hM, hlo⟩ := hR
    have E15 := (E13.same (shown_same h14)).same k1415
    have z14 : w13.heap.size ≤ w14.heap.size := h14.kept.size
    have z15 : w14.heap.size ≤ w15.heap.size := k1415.size
    have l16 : b16 < w14.heap.size := h14.lt (i := 16) (by simp [keys]) rfl
    refine den_norm (by simp only [List.cons_append, List.nil_append]; rfl) ?_
    refine den_push (E := ntcE) (T := 23) rfl u57 i23 z23 s23 rfl (by decide) by23 ntc_one v e.L n rfl rfl rfl (by omega) (fun g hg _ => .inl (by have := hlo g hg; show w.heap.size ≤ g; omega)) (by simp [keys]) (fun wa ha => hM.same (shown_same ha)) ?_ (fun _ g hg _ => .inl (by have := hlo g hg; omega)) (fun _ => rfl) (fun wa v' wb ha hv' kab hfr hap => den_norm (by simp only [List.cons_append, List.nil_append]; rfl) ?_)
    · intro g hg _ hin2
      have q1 := hlo g hg
      have q2 := hM.lt hg
      simp [BlkIn, nth, blkOf, vaddr] at hin2
      omega
    have za : w15.heap.size ≤ wa.heap.size := ha.kept.size
    have zb : wa.heap.size ≤ wb.heap.size := kab.size
    have Eb := up (E15.same (shown_same ha)) kab fun x hx hlt => by have := hlo x hx.1; omega
    have fresh : ∀ g, v'.ownBlock = some g → w.heap.size ≤ g ∧ w13.heap.size ≤ g ∧ g ≠ b16 := fun g hg => by
      rcases hfr with ⟨e1, _⟩ | ⟨b', e1, hb', _⟩
      · rw [e1] at hg
        have q1 := hlo g hg
        have q2 := hM.lt hg
        omega
      · rw [e1] at hg
        have e5 : b' = g := Option.some.inj hg
        omega
    refine den_leafMA _ rfl fun wz wq hz hq => ⟨by rw [e1, e2]; rfl, ?_⟩
    refine fin (v' := v') (up Eb hz.kept fun x hx hlt => by simp [BlkIn, nth, blkOf, vaddr] at hx; omega) hz.facts.2.2.2.2.1 ((hv'.kept hz.kept fun g hg hx => ?_).given) (fun ad had => (fresh _ (hv'.own had)).1) hq
    have := fresh g hg
    simp [BlkIn, nth, blkOf, vaddr] at hx
    omega
  · refine den_blk fun b16 k16 k16' _ => den_norm (by simp only [List.cons_append, List.nil_append]; rfl) ?_
    have z16 : w13.heap.size ≤ b16 := k16
    refine den_callR (fun w1 l w2 => ∃ v, l = [v] ∧ Mine ntcE 23 w2 v e.L ∧ ∀ g, v.ownBlock = some g → w1.heap.size ≤ g) (fun w14 h14 => ?_) (fun w14 l w15 h14 hfl hR k1415 => ?_)
    · refine (c36 _ e.L w14 (E13.same (shown_same h14)).l.1 (by omega)).mono fun v w' ⟨q1, q2, _⟩ => ?_
      obtain ⟨va, vc, hv⟩ := q1.slice
      exact ⟨[v], ⟨⟨_, _, _, hv⟩, trivial⟩, rfl, v, rfl, q1, q2⟩
    obtain ⟨v, rfl, hM, hlo⟩ := hR
    have E15 := (E13.same (shown_same h14)).same k1415
    have z14 : w13.heap.size ≤ w14.heap.size := h14.kept.size
    have z15 : w14.heap.size ≤ w15.heap.size := k1415.size
    have l16 : b16 < w14.heap.size := h14.lt (i := 16) (by simp [keys]) rfl
    refine den_norm (by simp only [List.cons_append, List.nil_append]; rfl) ?_
    refine den_push (E := ntcE) (T := 23) rfl u57 i23 z23 s23 rfl (by decide) by23 ntc_one v e.L n rfl rfl rfl (by omega) (fun g hg _ => .inl (by have := hlo g hg; show w.heap.size ≤ g; omega)) (by simp [keys]) (fun wa ha => hM.same (shown_same ha)) ?_ (fun _ g hg _ => .inl (by have := hlo g hg; omega)) (fun _ => rfl) (fun wa v' wb ha hv' kab hfr hap => den_norm (by simp only [List.cons_append, List.nil_append]; rfl) ?_)
    · intro g hg _ hin2
      have q1 := hlo g hg
      have q2 := hM.lt hg
      simp [BlkIn, nth, blkOf, vaddr] at hin2
      omega
    have za : w15.heap.size ≤ wa.heap.size := ha.kept.size
    have zb : wa.heap.size ≤ wb.heap.size := kab.size
    have Eb := up (E15.same (shown_same ha)) kab fun x hx hlt => by have := hlo x hx.1; omega
    have fresh : ∀ g, v'.ownBlock = some g → w.heap.size ≤ g ∧ w13.heap.size ≤ g ∧ g ≠ b16 := fun g hg => by
      rcases hfr with ⟨e1, _⟩ | ⟨b', e1, hb', _⟩
      · rw [e1] at hg
        have q1 := hlo g hg
        have q2 := hM.lt hg
        omega
      · rw [e1] at hg
        have e5 : b' = g := Option.some.inj hg
        omega
    refine den_leafMA _ rfl fun wz wq hz hq => ⟨by rw [e1, e2]; rfl, ?_⟩
    refine fin (v' := v') (up Eb hz.kept fun x hx hlt => by simp [BlkIn, nth, blkOf, vaddr] at hx; omega) hz.facts.2.2.2.2.1 ((hv'.kept hz.kept fun g hg hx => ?_).given) (fun ad had => (fresh _ (hv'.own had)).1) hq
    have := fresh g hg
    simp [BlkIn, nth, blkOf, vaddr] at hx
    omega
end Go.Proofs.Ytfjlnfgbfclgbaa
