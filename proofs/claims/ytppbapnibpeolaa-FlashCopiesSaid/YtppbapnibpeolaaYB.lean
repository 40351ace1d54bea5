/- The reference's New. No conditions beyond those that each theorem names. -/
import Derived.Test.YtppbapnibpeolaaYA
import Derived.Test.YtppbapnibpeolaaTG
set_option maxRecDepth 100000
set_option maxHeartbeats 4000000
set_option linter.unusedVariables false
set_option linter.unusedSimpArgs false
namespace Go.Proofs.Ytppbapnibpeolaa
open Go.Sx

/-- the new reference, as far as it is made -/
structure NewR (lo : Nat) (w : World) (b : Nat) (g : Geo) (np nb : Nat) (F : List Int) (fv pv ev : Value) (PV : List Sl) (j : Nat) : Prop where
  blk : HasBlk w (pt b) (refC g fv pv ev 0 (-1) 0 false)
  f : Mine intE 3 w fv F
  e : Mine intE 3 w ev (List.replicate nb 0)
  p : Mine ssE 102 w pv PV
  len : PV.length = j
  bl : lo ≤ b
  fl : ∀ y, fv.ownBlock = some y → lo ≤ y ∧ y ≠ b ∧ pv.ownBlock ≠ some y
  el : ∀ y, ev.ownBlock = some y → lo ≤ y ∧ y ≠ b ∧ pv.ownBlock ≠ some y
  pl : ∀ y, pv.ownBlock = some y → lo ≤ y ∧ y ≠ b
  at_ : ∀ (i : Nat) v, PV[i]? = some v → ∃ gR c, v = ⟨some ⟨gR, 0, none⟩, np, c⟩ ∧ Mine rpE 106 w (slc0 gR np c) (List.replicate np ⟨1, ⟨none, 0, 0⟩⟩) ∧ lo ≤ gR ∧ gR ≠ b ∧ pv.ownBlock ≠ some gR
theorem NewR.kept {lo : Nat} {w w' : World} {b : Nat} {g : Geo} {np nb : Nat} {F : List Int} {fv pv ev : Value} {PV : List Sl} {j : Nat} {M : Nat → Prop} (h : NewR lo w b g np nb F fv pv ev PV j) (hk : Kept M w w') (hM : ∀ y, y < w.heap.size → ¬ M y) : NewR lo w' b g np nb F fv pv ev PV j :=
  have hs : Same w w' := hk.mono fun y hy hm => hM y hy hm
  ⟨h.blk.keptA hs fun h => h, h.f.same hs, h.e.same hs, h.p.same hs, h.len, h.bl, h.fl, h.el, h.pl, fun i v hv => let ⟨gR, c, e, q1, q2⟩ := h.at_ i v hv; ⟨gR, c, e, q1.same hs, q2⟩⟩
theorem NewR.same {lo : Nat} {w w' : World} {b : Nat} {g : Geo} {np nb : Nat} {F : List Int} {fv pv ev : Value} {PV : List Sl} {j : Nat} (h : NewR lo w b g np nb F fv pv ev PV j) (hk : Same w w') : NewR lo w' b g np nb F fv pv ev PV j := h.kept hk fun _ _ h => h
theorem c31 (g : Geo) (s : Value) (F : List Int) (w : World) (hF : Given intE w s F) (hm : F.length ≤ 1000) (hsm : smallG g = true) :
    GivesR Try.prog 31 [g.v, s] w (fun r w' => ((okG g && !badF F) = false ∧ ∃ z, (∃ fv pv ev, z = refV ⟨0, 0, 0, 0⟩ fv pv ev 0 0 0 false ∧ (∃ a n c, fv = .slice a n c) ∧ (∃ a n c, pv = .slice a n c) ∧ ∃ a n c, ev = .slice a n c) ∧ r = .tuple #[z, .int .i64 2]) ∨ (okG g = true ∧ badF F = false ∧ ∃ rv, r = .tuple #[rv, .int .i64 0] ∧ ∀ S : Nat → Prop, (∀ y, S y → y < w.heap.size) → RefAt w' S (newDv g (inF F)) rv)) := by
  obtain ⟨a, c, rfl⟩ := hF.1.slice
  refine givesR mix t31 rfl rfl (ε := [.int .i64 g.b, .int .i64 g.p, .int .i64 g.s, .int .i64 g.e, .slice a F.length c]) ⟨⟨_, rfl⟩, ⟨_, rfl⟩, ⟨_, rfl⟩, ⟨_, rfl⟩, ⟨_, _, _, rfl⟩, trivial⟩ (den_blk fun b5 k5 _ kW5 => den_norm (by simp only [List.cons_append, List.nil_append]; rfl) (den_blk fun b6 k6 _ kW6 => den_norm (by simp only [List.cons_append, List.nil_append]; rfl) ?_))
  have z5 : w.heap.size ≤ b5 := kW5
  have z6 : w.heap.size ≤ b6 := kW6
  refine den_call_bool (b := okG g) (fun w1 h1 => c10 g w1) rfl (fun w1 w2 g1 k12 => den_norm (by simp only [List.cons_append, List.nil_append]; rfl) (den_splitNot (fun hb => ?_) (fun hb => ?_)))
  · have hb' : okG g = false := hb
    exact den_leafR _ rfl fun w5 _ => .inl ⟨by rw [hb']; rfl, _, ⟨nilS, nilS, nilS, rfl, ⟨_, _, _, rfl⟩, ⟨_, _, _, rfl⟩, ⟨_, _, _, rfl⟩⟩, rfl⟩
  have hok : okG g = true := hb
  have bnd := of_decide_eq_true hok
  have sm : g.b ≤ 8 ∧ g.p ≤ 8 ∧ g.s ≤ 40 := by simpa [smallG, hok] using hsm
  obtain ⟨nb, hnb⟩ : ∃ n : Nat, g.b = n := ⟨g.b.toNat, by omega⟩
  obtain ⟨np, hnp⟩ : ∃ n : Nat, g.p = n := ⟨g.p.toNat, by omega⟩
  refine den_for F.length (fun j w' => ∀ (i : Nat) y, i < j → F[i]? = some y → 0 ≤ y) ⟨rfl, fun w _ i y hi => by omega⟩ ?_
  intro j w3 hj hI hk3 hfa3
  refine den_norm (by simp only [List.cons_append, List.nil_append]; rfl) (den_splitLt (fun hlt => ?_) (fun hge => ?_))
  · have hlt' : j < F.length := by simpa [IE.den, nth, vint, vlen] using hlt
    obtain ⟨x, hx⟩ : ∃ x, F[j]? = some x := ⟨_, List.getElem?_eq_getElem hlt'⟩
    refine den_idx2 (E := intE) (L := F) x j [.int .i64 x] (hF.1.same hk3) rfl (by decide) rfl hx ⟨⟨_, rfl⟩, trivial⟩ (whole _) (fun w2 h2 => hF.1.same h2.base) (fun ad had => by simp [BlkIn, nth, blkOf, vaddr]) (fun w4 h4 => den_norm (by simp only [List.cons_append, List.nil_append]; rfl) (den_splitLt (fun hx0 => ?_) (fun hx0 => ?_)))
    · have hx0' : x < 0 := hx0
      have hbad : badF F = true := List.any_eq_true.2 ⟨x, List.mem_of_getElem? hx, decide_eq_true hx0'⟩
      refine den_leaf_ne (by decide) (den_leafR _ rfl fun w5 _ => .inl ⟨by rw [hbad]; simp, _, ⟨nilS, nilS, nilS, rfl, ⟨_, _, _, rfl⟩, ⟨_, _, _, rfl⟩, ⟨_, _, _, rfl⟩⟩, rfl⟩)
    · have hx0' : 0 ≤ x := hx0
      refine den_ob64 ⟨by simp only [IE.den, nth, vint]; omega, by simp only [IE.den, nth, vint]; omega⟩ (den_next rfl hlt' fun w5 _ i y hi hy => ?_)
      by_cases hij : i = j
      · subst hij
        rw [hx] at hy
        cases hy
        exact hx0'
      · exact hI i y (by omega) hy
  have hge' : F.length ≤ j := by simpa [IE.den, nth, vint, vlen] using hge
  have hbf : badF F = false := by
    rw [← Bool.not_eq_true]
    intro h
    obtain ⟨x, hx, h⟩ := List.any_eq_true.1 h
    obtain ⟨i, hi⟩ := List.getElem?_of_mem hx
    have := hI i x (Nat.lt_of_lt_of_le (List.getElem?_eq_some_iff.1 hi).1 hge') hi
    have := of_decide_eq_true h
    omega
  clear hI
  obtain ⟨lo, lo5, lo6, hlo⟩ : ∃ lo, b5 < lo ∧ b6 < lo ∧ ∀ n, b5 < n → b6 < n → lo ≤ n := ⟨max b5 b6 + 1, by omega, by omega, fun n _ _ => by omega⟩
  refine den_cut (fun l w' => ∃ b fv ev, l = [pt b] ∧ NewR lo w' b g np nb F fv nilS ev [] 0) ?_ ?_
  · refine den_start1 fun w10 h10 => ?_
    have z10 : w.heap.size ≤ w10.heap.size := h10.base.size
    have l5 : b5 < w10.heap.size := h10.lt (i := 5) (by simp [keys]) rfl
    have l6 : b6 < w10.heap.size := h10.lt (i := 6) (by simp [keys]) rfl
    have zlo : lo ≤ w10.heap.size := hlo _ l5 l6
    refine den_both ?_ ?_
    · skip
      refine den_blk fun bE kE kSE kWE => den_norm (by simp only [List.cons_append, List.nil_append]; rfl) ?_
      have zE : w10.heap.size ≤ bE := kE
      have zSE : w10.heap.size ≤ bE := kSE
      refine den_both ?_ ?_
      · skip
        refine den_appendL (E := intE) (T := 3) rfl u24 i3 zt3 s3 rfl (by decide) by3 int_one (.slice (some ⟨bE, 0, none⟩) 0 0) (.slice a F.length c) [] F rfl rfl (fun n c e => hF.2.1 n c e) (by simp; omega) (fun g hg hc => absurd hc (by simp [vcap])) (by simp [keys]) (fun wa ha => ⟨?_, (hF.same ha.base).1⟩) (fun g hg hc => absurd hc (by simp [vcap])) (fun _ g hg hc => absurd hc (by simp [vcap])) (fun _ => rfl) (fun wa2 svA wb2 hhwa2 hMA kkwa2 hfrA hapA => den_norm (by simp only [List.cons_append, List.nil_append]; rfl) ?_)
        · obtain ⟨b', ty, e, hh'⟩ := ha.facts.1
          have e' : pt bE = pt b' := e
          cases e'
          exact .inr ⟨rfl, bE, _, ty, rfl, hh'⟩
        rw [List.nil_append] at hMA
        have samewa2 : Same w10 wb2 := (shown_same hhwa2).trans (kkwa2.mono fun y _ h => by have := h.2; simp [vcap] at this)
        have zzwa2 : w10.heap.size ≤ wa2.heap.size := (shown_same hhwa2).size
        have lE : bE < wa2.heap.size := hhwa2.lt (i := 9) (by simp [keys]) rfl
        have nA : ∀ y, svA.ownBlock = some y → y = bE ∨ wa2.heap.size ≤ y := fun y hy => by
          rcases hfrA with ⟨e1, _⟩ | ⟨y2, e1, hle, _⟩
          · rw [e1] at hy; exact .inl (Option.some.inj hy).symm
          · rw [e1] at hy; cases hy; exact .inr hle
        have lA : ∀ y, svA.ownBlock = some y → y < wb2.heap.size := fun y hy => hMA.lt hy
        have zabwa2 : w10.heap.size ≤ wb2.heap.size := samewa2.size
        refine den_both ?_ ?_
        · skip
          refine den_make (n := nb) u24 i3 zt3 hnb hnb (by have := by3; have := Nat.mul_le_mul_right nb this; omega) (by omega) (fun v => rfl) (fun wa3 gM wb3 hhwa3 hgM hhM kkwa3 => den_norm (by simp only [List.cons_append, List.nil_append]; rfl) ?_)
          have hMM : Mine intE 3 wb3 (slc0 gM nb nb) (List.replicate nb 0) := mine_made (E := intE) (T := 3) (0 : Int) (.int .i64 0) rfl (by decide) s3 (by omega) hhM
          have samewa3 : Same wb2 wb3 := (shown_same hhwa3).trans kkwa3
          have zzwa3 : wb2.heap.size ≤ wa3.heap.size := (shown_same hhwa3).size
          have zabwa3 : wb2.heap.size ≤ wb3.heap.size := samewa3.size
          have lM : gM < wb3.heap.size := hMM.lt rfl
          have hMA := hMA.same samewa3
          refine den_blk fun bD kD kSD kWD => den_norm (by simp only [List.cons_append, List.nil_append]; rfl) ?_
          have zD : wb3.heap.size ≤ bD := kD
          have zSD : w10.heap.size ≤ bD := kSD
          refine den_leaf_eq fun wz hz => ⟨bD, svA, slc0 gM nb nb, rfl, ?_⟩
          have hB : HasBlk wz (pt bD) (refC g svA nilS (slc0 gM nb nb) 0 (-1) 0 false) := hz.facts.1
          have hDE : bD ≠ bE := fun e => hz.dj 12 9 (by simp [keys]) (by simp [keys]) (by decide) (by subst e; rfl)
          have nA2 : ∀ y, svA.ownBlock = some y → y ≠ bD ∧ w10.heap.size ≤ y := fun y hy => by
            have l := lA y hy
            rcases nA y hy with q | q
            · exact ⟨by omega, by omega⟩
            · exact ⟨by omega, by omega⟩
          have nM : gM ≠ bD := by omega
          have hA := hMA.kept hz.kept fun y hy hin => absurd (show bD = y by simpa [BlkIn, nth, blkOf, vaddr] using hin) (fun e => (nA2 y hy).1 e.symm)
          have hM := hMM.kept hz.kept fun y hy hin => absurd (show bD = y by simpa [BlkIn, nth, blkOf, vaddr] using hin) (fun e => nM (by have q : gM = y := Option.some.inj hy; omega))
          exact ⟨hB, hA, hM, Mine.nil, rfl, by omega, fun y hy => ⟨Nat.le_trans zlo (nA2 y hy).2, (nA2 y hy).1, fun h => by cases h⟩, fun y hy => by have q : gM = y := Option.some.inj hy; exact ⟨by omega, by omega, fun h => by cases h⟩, fun y hy => (by cases hy), fun i v hv => by simp at hv⟩
        · skip
          refine den_blk fun bD kD kSD kWD => den_norm (by simp only [List.cons_append, List.nil_append]; rfl) ?_
          have zD : wb2.heap.size ≤ bD := kD
          have zSD : w10.heap.size ≤ bD := kSD
          refine den_make (n := nb) u24 i3 zt3 hnb hnb (by have := by3; have := Nat.mul_le_mul_right nb this; omega) (by omega) (fun v => rfl) (fun wa6 gM wb6 hhwa6 hgM hhM kkwa6 => den_norm (by simp only [List.cons_append, List.nil_append]; rfl) ?_)
          have hMM : Mine intE 3 wb6 (slc0 gM nb nb) (List.replicate nb 0) := mine_made (E := intE) (T := 3) (0 : Int) (.int .i64 0) rfl (by decide) s3 (by omega) hhM
          have samewa6 : Same wb2 wb6 := (shown_same hhwa6).trans kkwa6
          have zzwa6 : wb2.heap.size ≤ wa6.heap.size := (shown_same hhwa6).size
          have zabwa6 : wb2.heap.size ≤ wb6.heap.size := samewa6.size
          have lM : gM < wb6.heap.size := hMM.lt rfl
          have lD2 : bD < wa6.heap.size := hhwa6.lt (i := 11) (by simp [keys]) rfl
          have hMA := hMA.same samewa6
          refine den_leaf_eq fun wz hz => ⟨bD, svA, slc0 gM nb nb, rfl, ?_⟩
          have hB : HasBlk wz (pt bD) (refC g svA nilS (slc0 gM nb nb) 0 (-1) 0 false) := hz.facts.1
          have hDE : bD ≠ bE := fun e => hz.dj 11 9 (by simp [keys]) (by simp [keys]) (by decide) (by subst e; rfl)
          have nA2 : ∀ y, svA.ownBlock = some y → y ≠ bD ∧ w10.heap.size ≤ y := fun y hy => by
            have l := lA y hy
            rcases nA y hy with q | q
            · exact ⟨by omega, by omega⟩
            · exact ⟨by omega, by omega⟩
          have nM : gM ≠ bD := by omega
          have hA := hMA.kept hz.kept fun y hy hin => absurd (show bD = y by simpa [BlkIn, nth, blkOf, vaddr] using hin) (fun e => (nA2 y hy).1 e.symm)
          have hM := hMM.kept hz.kept fun y hy hin => absurd (show bD = y by simpa [BlkIn, nth, blkOf, vaddr] using hin) (fun e => nM (by have q : gM = y := Option.some.inj hy; omega))
          exact ⟨hB, hA, hM, Mine.nil, rfl, by omega, fun y hy => ⟨Nat.le_trans zlo (nA2 y hy).2, (nA2 y hy).1, fun h => by cases h⟩, fun y hy => by have q : gM = y := Option.some.inj hy; exact ⟨by omega, by omega, fun h => by cases h⟩, fun y hy => (by cases hy), fun i v hv => by simp at hv⟩
      · refine den_both ?_ ?_
        · skip
          refine den_make (n := nb) u24 i3 zt3 hnb hnb (by have := by3; have := Nat.mul_le_mul_right nb this; omega) (by omega) (fun v => rfl) (fun wa7 gM wb7 hhwa7 hgM hhM kkwa7 => den_norm (by simp only [List.cons_append, List.nil_append]; rfl) ?_)
          have hMM : Mine intE 3 wb7 (slc0 gM nb nb) (List.replicate nb 0) := mine_made (E := intE) (T := 3) (0 : Int) (.int .i64 0) rfl (by decide) s3 (by omega) hhM
          have samewa7 : Same w10 wb7 := (shown_same hhwa7).trans kkwa7
          have zzwa7 : w10.heap.size ≤ wa7.heap.size := (shown_same hhwa7).size
          have zabwa7 : w10.heap.size ≤ wb7.heap.size := samewa7.size
          have lM : gM < wb7.heap.size := hMM.lt rfl
          refine den_both ?_ ?_
          · skip
            refine den_appendL (E := intE) (T := 3) rfl u24 i3 zt3 s3 rfl (by decide) by3 int_one (.slice (some ⟨bE, 0, none⟩) 0 0) (.slice a F.length c) [] F rfl rfl (fun n c e => hF.2.1 n c e) (by simp; omega) (fun g hg hc => absurd hc (by simp [vcap])) (by simp [keys]) (fun wa ha => ⟨?_, (hF.same ha.base).1⟩) (fun g hg hc => absurd hc (by simp [vcap])) (fun _ g hg hc => absurd hc (by simp [vcap])) (fun _ => rfl) (fun wa8 svA wb8 hhwa8 hMA kkwa8 hfrA hapA => den_norm (by simp only [List.cons_append, List.nil_append]; rfl) ?_)
            · obtain ⟨b', ty, e, hh'⟩ := ha.facts.1
              have e' : pt bE = pt b' := e
              cases e'
              exact .inr ⟨rfl, bE, _, ty, rfl, hh'⟩
            rw [List.nil_append] at hMA
            have samewa8 : Same wb7 wb8 := (shown_same hhwa8).trans (kkwa8.mono fun y _ h => by have := h.2; simp [vcap] at this)
            have zzwa8 : wb7.heap.size ≤ wa8.heap.size := (shown_same hhwa8).size
            have lE : bE < wa8.heap.size := hhwa8.lt (i := 9) (by simp [keys]) rfl
            have nA : ∀ y, svA.ownBlock = some y → y = bE ∨ wa8.heap.size ≤ y := fun y hy => by
              rcases hfrA with ⟨e1, _⟩ | ⟨y2, e1, hle, _⟩
              · rw [e1] at hy; exact .inl (Option.some.inj hy).symm
              · rw [e1] at hy; cases hy; exact .inr hle
            have lA : ∀ y, svA.ownBlock = some y → y < wb8.heap.size := fun y hy => hMA.lt hy
            have hMM := hMM.same samewa8
            have zabwa8 : wb7.heap.size ≤ wb8.heap.size := samewa8.size
            refine den_blk fun bD kD kSD kWD => den_norm (by simp only [List.cons_append, List.nil_append]; rfl) ?_
            have zD : wb8.heap.size ≤ bD := kD
            have zSD : w10.heap.size ≤ bD := kSD
            refine den_leaf_eq fun wz hz => ⟨bD, svA, slc0 gM nb nb, rfl, ?_⟩
            have hB : HasBlk wz (pt bD) (refC g svA nilS (slc0 gM nb nb) 0 (-1) 0 false) := hz.facts.1
            have hDE : bD ≠ bE := fun e => hz.dj 12 9 (by simp [keys]) (by simp [keys]) (by decide) (by subst e; rfl)
            have nA2 : ∀ y, svA.ownBlock = some y → y ≠ bD ∧ w10.heap.size ≤ y := fun y hy => by
              have l := lA y hy
              rcases nA y hy with q | q
              · exact ⟨by omega, by omega⟩
              · exact ⟨by omega, by omega⟩
            have nM : gM ≠ bD := by omega
            have hA := hMA.kept hz.kept fun y hy hin => absurd (show bD = y by simpa [BlkIn, nth, blkOf, vaddr] using hin) (fun e => (nA2 y hy).1 e.symm)
            have hM := hMM.kept hz.kept fun y hy hin => absurd (show bD = y by simpa [BlkIn, nth, blkOf, vaddr] using hin) (fun e => nM (by have q : gM = y := Option.some.inj hy; omega))
            exact ⟨hB, hA, hM, Mine.nil, rfl, by omega, fun y hy => ⟨Nat.le_trans zlo (nA2 y hy).2, (nA2 y hy).1, fun h => by cases h⟩, fun y hy => by have q : gM = y := Option.some.inj hy; exact ⟨by omega, by omega, fun h => by cases h⟩, fun y hy => (by cases hy), fun i v hv => by simp at hv⟩
          · skip
            refine den_blk fun bD kD kSD kWD => den_norm (by simp only [List.cons_append, List.nil_append]; rfl) ?_
            have zD : wb7.heap.size ≤ bD := kD
            have zSD : w10.heap.size ≤ bD := kSD
            refine den_appendL (E := intE) (T := 3) rfl u24 i3 zt3 s3 rfl (by decide) by3 int_one (.slice (some ⟨bE, 0, none⟩) 0 0) (.slice a F.length c) [] F rfl rfl (fun n c e => hF.2.1 n c e) (by simp; omega) (fun g hg hc => absurd hc (by simp [vcap])) (by simp [keys]) (fun wa ha => ⟨?_, (hF.same ha.base).1⟩) (fun g hg hc => absurd hc (by simp [vcap])) (fun _ g hg hc => absurd hc (by simp [vcap])) (fun _ => rfl) (fun wa11 svA wb11 hhwa11 hMA kkwa11 hfrA hapA => den_norm (by simp only [List.cons_append, List.nil_append]; rfl) ?_)
            · obtain ⟨b', ty, e, hh'⟩ := ha.facts.2.1
              have e' : pt bE = pt b' := e
              cases e'
              exact .inr ⟨rfl, bE, _, ty, rfl, hh'⟩
            rw [List.nil_append] at hMA
            have samewa11 : Same wb7 wb11 := (shown_same hhwa11).trans (kkwa11.mono fun y _ h => by have := h.2; simp [vcap] at this)
            have zzwa11 : wb7.heap.size ≤ wa11.heap.size := (shown_same hhwa11).size
            have lE : bE < wa11.heap.size := hhwa11.lt (i := 9) (by simp [keys]) rfl
            have lD : bD < wa11.heap.size := hhwa11.lt (i := 11) (by simp [keys]) rfl
            have nA : ∀ y, svA.ownBlock = some y → y = bE ∨ wa11.heap.size ≤ y := fun y hy => by
              rcases hfrA with ⟨e1, _⟩ | ⟨y2, e1, hle, _⟩
              · rw [e1] at hy; exact .inl (Option.some.inj hy).symm
              · rw [e1] at hy; cases hy; exact .inr hle
            have lA : ∀ y, svA.ownBlock = some y → y < wb11.heap.size := fun y hy => hMA.lt hy
            have hMM := hMM.same samewa11
            have zabwa11 : wb7.heap.size ≤ wb11.heap.size := samewa11.size
            have nA : ∀ y, svA.ownBlock = some y → (y = bE) ∨ (y ≠ bD ∧ w10.heap.size ≤ y) := fun y hy => (nA y hy).imp_right fun h => ⟨by omega, by omega⟩
            refine den_leaf_eq fun wz hz => ⟨bD, svA, slc0 gM nb nb, rfl, ?_⟩
            have hB : HasBlk wz (pt bD) (refC g svA nilS (slc0 gM nb nb) 0 (-1) 0 false) := hz.facts.1
            have hDE : bD ≠ bE := fun e => hz.dj 11 9 (by simp [keys]) (by simp [keys]) (by decide) (by subst e; rfl)
            have nA2 : ∀ y, svA.ownBlock = some y → y ≠ bD ∧ w10.heap.size ≤ y := fun y hy => by
              have l := lA y hy
              rcases nA y hy with q | q
              · exact ⟨by omega, by omega⟩
              · exact ⟨by omega, by omega⟩
            have nM : gM ≠ bD := by omega
            have hA := hMA.kept hz.kept fun y hy hin => absurd (show bD = y by simpa [BlkIn, nth, blkOf, vaddr] using hin) (fun e => (nA2 y hy).1 e.symm)
            have hM := hMM.kept hz.kept fun y hy hin => absurd (show bD = y by simpa [BlkIn, nth, blkOf, vaddr] using hin) (fun e => nM (by have q : gM = y := Option.some.inj hy; omega))
            exact ⟨hB, hA, hM, Mine.nil, rfl, by omega, fun y hy => ⟨Nat.le_trans zlo (nA2 y hy).2, (nA2 y hy).1, fun h => by cases h⟩, fun y hy => by have q : gM = y := Option.some.inj hy; exact ⟨by omega, by omega, fun h => by cases h⟩, fun y hy => (by cases hy), fun i v hv => by simp at hv⟩
        · skip
          refine den_blk fun bD kD kSD kWD => den_norm (by simp only [List.cons_append, List.nil_append]; rfl) ?_
          have zD : w10.heap.size ≤ bD := kD
          have zSD : w10.heap.size ≤ bD := kSD
          refine den_both ?_ ?_
          · skip
            refine den_appendL (E := intE) (T := 3) rfl u24 i3 zt3 s3 rfl (by decide) by3 int_one (.slice (some ⟨bE, 0, none⟩) 0 0) (.slice a F.length c) [] F rfl rfl (fun n c e => hF.2.1 n c e) (by simp; omega) (fun g hg hc => absurd hc (by simp [vcap])) (by simp [keys]) (fun wa ha => ⟨?_, (hF.same ha.base).1⟩) (fun g hg hc => absurd hc (by simp [vcap])) (fun _ g hg hc => absurd hc (by simp [vcap])) (fun _ => rfl) (fun wa13 svA wb13 hhwa13 hMA kkwa13 hfrA hapA => den_norm (by simp only [List.cons_append, List.nil_append]; rfl) ?_)
            · obtain ⟨b', ty, e, hh'⟩ := ha.facts.2.1
              have e' : pt bE = pt b' := e
              cases e'
              exact .inr ⟨rfl, bE, _, ty, rfl, hh'⟩
            rw [List.nil_append] at hMA
            have samewa13 : Same w10 wb13 := (shown_same hhwa13).trans (kkwa13.mono fun y _ h => by have := h.2; simp [vcap] at this)
            have zzwa13 : w10.heap.size ≤ wa13.heap.size := (shown_same hhwa13).size
            have lE : bE < wa13.heap.size := hhwa13.lt (i := 9) (by simp [keys]) rfl
            have lD : bD < wa13.heap.size := hhwa13.lt (i := 10) (by simp [keys]) rfl
            have nA : ∀ y, svA.ownBlock = some y → y = bE ∨ wa13.heap.size ≤ y := fun y hy => by
              rcases hfrA with ⟨e1, _⟩ | ⟨y2, e1, hle, _⟩
              · rw [e1] at hy; exact .inl (Option.some.inj hy).symm
              · rw [e1] at hy; cases hy; exact .inr hle
            have lA : ∀ y, svA.ownBlock = some y → y < wb13.heap.size := fun y hy => hMA.lt hy
            have zabwa13 : w10.heap.size ≤ wb13.heap.size := samewa13.size
            have nA : ∀ y, svA.ownBlock = some y → (y = bE) ∨ (y ≠ bD ∧ w10.heap.size ≤ y) := fun y hy => (nA y hy).imp_right fun h => ⟨by omega, by omega⟩
            refine den_make (n := nb) u24 i3 zt3 hnb hnb (by have := by3; have := Nat.mul_le_mul_right nb this; omega) (by omega) (fun v => rfl) (fun wa14 gM wb14 hhwa14 hgM hhM kkwa14 => den_norm (by simp only [List.cons_append, List.nil_append]; rfl) ?_)
            have hMM : Mine intE 3 wb14 (slc0 gM nb nb) (List.replicate nb 0) := mine_made (E := intE) (T := 3) (0 : Int) (.int .i64 0) rfl (by decide) s3 (by omega) hhM
            have samewa14 : Same wb13 wb14 := (shown_same hhwa14).trans kkwa14
            have zzwa14 : wb13.heap.size ≤ wa14.heap.size := (shown_same hhwa14).size
            have zabwa14 : wb13.heap.size ≤ wb14.heap.size := samewa14.size
            have lM : gM < wb14.heap.size := hMM.lt rfl
            have lD2 : bD < wa14.heap.size := hhwa14.lt (i := 10) (by simp [keys]) rfl
            have hMA := hMA.same samewa14
            refine den_leaf_eq fun wz hz => ⟨bD, svA, slc0 gM nb nb, rfl, ?_⟩
            have hB : HasBlk wz (pt bD) (refC g svA nilS (slc0 gM nb nb) 0 (-1) 0 false) := hz.facts.1
            have hDE : bD ≠ bE := fun e => hz.dj 10 9 (by simp [keys]) (by simp [keys]) (by decide) (by subst e; rfl)
            have nA2 : ∀ y, svA.ownBlock = some y → y ≠ bD ∧ w10.heap.size ≤ y := fun y hy => by
              have l := lA y hy
              rcases nA y hy with q | q
              · exact ⟨by omega, by omega⟩
              · exact ⟨by omega, by omega⟩
            have nM : gM ≠ bD := by omega
            have hA := hMA.kept hz.kept fun y hy hin => absurd (show bD = y by simpa [BlkIn, nth, blkOf, vaddr] using hin) (fun e => (nA2 y hy).1 e.symm)
            have hM := hMM.kept hz.kept fun y hy hin => absurd (show bD = y by simpa [BlkIn, nth, blkOf, vaddr] using hin) (fun e => nM (by have q : gM = y := Option.some.inj hy; omega))
            exact ⟨hB, hA, hM, Mine.nil, rfl, by omega, fun y hy => ⟨Nat.le_trans zlo (nA2 y hy).2, (nA2 y hy).1, fun h => by cases h⟩, fun y hy => by have q : gM = y := Option.some.inj hy; exact ⟨by omega, by omega, fun h => by cases h⟩, fun y hy => (by cases hy), fun i v hv => by simp at hv⟩
          · skip
            refine den_make (n := nb) u24 i3 zt3 hnb hnb (by have := by3; have := Nat.mul_le_mul_right nb this; omega) (by omega) (fun v => rfl) (fun wa15 gM wb15 hhwa15 hgM hhM kkwa15 => den_norm (by simp only [List.cons_append, List.nil_append]; rfl) ?_)
            have hMM : Mine intE 3 wb15 (slc0 gM nb nb) (List.replicate nb 0) := mine_made (E := intE) (T := 3) (0 : Int) (.int .i64 0) rfl (by decide) s3 (by omega) hhM
            have samewa15 : Same w10 wb15 := (shown_same hhwa15).trans kkwa15
            have zzwa15 : w10.heap.size ≤ wa15.heap.size := (shown_same hhwa15).size
            have zabwa15 : w10.heap.size ≤ wb15.heap.size := samewa15.size
            have lM : gM < wb15.heap.size := hMM.lt rfl
            have lD2 : bD < wa15.heap.size := hhwa15.lt (i := 10) (by simp [keys]) rfl
            refine den_appendL (E := intE) (T := 3) rfl u24 i3 zt3 s3 rfl (by decide) by3 int_one (.slice (some ⟨bE, 0, none⟩) 0 0) (.slice a F.length c) [] F rfl rfl (fun n c e => hF.2.1 n c e) (by simp; omega) (fun g hg hc => absurd hc (by simp [vcap])) (by simp [keys]) (fun wa ha => ⟨?_, (hF.same ha.base).1⟩) (fun g hg hc => absurd hc (by simp [vcap])) (fun _ g hg hc => absurd hc (by simp [vcap])) (fun _ => rfl) (fun wa16 svA wb16 hhwa16 hMA kkwa16 hfrA hapA => den_norm (by simp only [List.cons_append, List.nil_append]; rfl) ?_)
            · obtain ⟨b', ty, e, hh'⟩ := ha.facts.2.1
              have e' : pt bE = pt b' := e
              cases e'
              exact .inr ⟨rfl, bE, _, ty, rfl, hh'⟩
            rw [List.nil_append] at hMA
            have samewa16 : Same wb15 wb16 := (shown_same hhwa16).trans (kkwa16.mono fun y _ h => by have := h.2; simp [vcap] at this)
            have zzwa16 : wb15.heap.size ≤ wa16.heap.size := (shown_same hhwa16).size
            have lE : bE < wa16.heap.size := hhwa16.lt (i := 9) (by simp [keys]) rfl
            have lD : bD < wa16.heap.size := hhwa16.lt (i := 10) (by simp [keys]) rfl
            have nA : ∀ y, svA.ownBlock = some y → y = bE ∨ wa16.heap.size ≤ y := fun y hy => by
              rcases hfrA with ⟨e1, _⟩ | ⟨y2, e1, hle, _⟩
              · rw [e1] at hy; exact .inl (Option.some.inj hy).symm
              · rw [e1] at hy; cases hy; exact .inr hle
            have lA : ∀ y, svA.ownBlock = some y → y < wb16.heap.size := fun y hy => hMA.lt hy
            have hMM := hMM.same samewa16
            have zabwa16 : wb15.heap.size ≤ wb16.heap.size := samewa16.size
            have nA : ∀ y, svA.ownBlock = some y → (y = bE) ∨ (y ≠ bD ∧ w10.heap.size ≤ y) := fun y hy => (nA y hy).imp_right fun h => ⟨by omega, by omega⟩
            refine den_leaf_eq fun wz hz => ⟨bD, svA, slc0 gM nb nb, rfl, ?_⟩
            have hB : HasBlk wz (pt bD) (refC g svA nilS (slc0 gM nb nb) 0 (-1) 0 false) := hz.facts.1
            have hDE : bD ≠ bE := fun e => hz.dj 10 9 (by simp [keys]) (by simp [keys]) (by decide) (by subst e; rfl)
            have nA2 : ∀ y, svA.ownBlock = some y → y ≠ bD ∧ w10.heap.size ≤ y := fun y hy => by
              have l := lA y hy
              rcases nA y hy with q | q
              · exact ⟨by omega, by omega⟩
              · exact ⟨by omega, by omega⟩
            have nM : gM ≠ bD := by omega
            have hA := hMA.kept hz.kept fun y hy hin => absurd (show bD = y by simpa [BlkIn, nth, blkOf, vaddr] using hin) (fun e => (nA2 y hy).1 e.symm)
            have hM := hMM.kept hz.kept fun y hy hin => absurd (show bD = y by simpa [BlkIn, nth, blkOf, vaddr] using hin) (fun e => nM (by have q : gM = y := Option.some.inj hy; omega))
            exact ⟨hB, hA, hM, Mine.nil, rfl, by omega, fun y hy => ⟨Nat.le_trans zlo (nA2 y hy).2, (nA2 y hy).1, fun h => by cases h⟩, fun y hy => by have q : gM = y := Option.some.inj hy; exact ⟨by omega, by omega, fun h => by cases h⟩, fun y hy => (by cases hy), fun i v hv => by simp at hv⟩
    · refine den_both ?_ ?_
      · skip
        refine den_make (n := nb) u24 i3 zt3 hnb hnb (by have := by3; have := Nat.mul_le_mul_right nb this; omega) (by omega) (fun v => rfl) (fun wa17 gM wb17 hhwa17 hgM hhM kkwa17 => den_norm (by simp only [List.cons_append, List.nil_append]; rfl) ?_)
        have hMM : Mine intE 3 wb17 (slc0 gM nb nb) (List.replicate nb 0) := mine_made (E := intE) (T := 3) (0 : Int) (.int .i64 0) rfl (by decide) s3 (by omega) hhM
        have samewa17 : Same w10 wb17 := (shown_same hhwa17).trans kkwa17
        have zzwa17 : w10.heap.size ≤ wa17.heap.size := (shown_same hhwa17).size
        have zabwa17 : w10.heap.size ≤ wb17.heap.size := samewa17.size
        have lM : gM < wb17.heap.size := hMM.lt rfl
        refine den_both ?_ ?_
        · skip
          refine den_blk fun bE kE kSE kWE => den_norm (by simp only [List.cons_append, List.nil_append]; rfl) ?_
          have zE : wb17.heap.size ≤ bE := kE
          have zSE : w10.heap.size ≤ bE := kSE
          refine den_both ?_ ?_
          · skip
            refine den_appendL (E := intE) (T := 3) rfl u24 i3 zt3 s3 rfl (by decide) by3 int_one (.slice (some ⟨bE, 0, none⟩) 0 0) (.slice a F.length c) [] F rfl rfl (fun n c e => hF.2.1 n c e) (by simp; omega) (fun g hg hc => absurd hc (by simp [vcap])) (by simp [keys]) (fun wa ha => ⟨?_, (hF.same ha.base).1⟩) (fun g hg hc => absurd hc (by simp [vcap])) (fun _ g hg hc => absurd hc (by simp [vcap])) (fun _ => rfl) (fun wa19 svA wb19 hhwa19 hMA kkwa19 hfrA hapA => den_norm (by simp only [List.cons_append, List.nil_append]; rfl) ?_)
            · obtain ⟨b', ty, e, hh'⟩ := ha.facts.1
              have e' : pt bE = pt b' := e
              cases e'
              exact .inr ⟨rfl, bE, _, ty, rfl, hh'⟩
            rw [List.nil_append] at hMA
            have samewa19 : Same wb17 wb19 := (shown_same hhwa19).trans (kkwa19.mono fun y _ h => by have := h.2; simp [vcap] at this)
            have zzwa19 : wb17.heap.size ≤ wa19.heap.size := (shown_same hhwa19).size
            have lE : bE < wa19.heap.size := hhwa19.lt (i := 10) (by simp [keys]) rfl
            have nA : ∀ y, svA.ownBlock = some y → y = bE ∨ wa19.heap.size ≤ y := fun y hy => by
              rcases hfrA with ⟨e1, _⟩ | ⟨y2, e1, hle, _⟩
              · rw [e1] at hy; exact .inl (Option.some.inj hy).symm
              · rw [e1] at hy; cases hy; exact .inr hle
            have lA : ∀ y, svA.ownBlock = some y → y < wb19.heap.size := fun y hy => hMA.lt hy
            have hMM := hMM.same samewa19
            have zabwa19 : wb17.heap.size ≤ wb19.heap.size := samewa19.size
            refine den_blk fun bD kD kSD kWD => den_norm (by simp only [List.cons_append, List.nil_append]; rfl) ?_
            have zD : wb19.heap.size ≤ bD := kD
            have zSD : w10.heap.size ≤ bD := kSD
            refine den_leaf_eq fun wz hz => ⟨bD, svA, slc0 gM nb nb, rfl, ?_⟩
            have hB : HasBlk wz (pt bD) (refC g svA nilS (slc0 gM nb nb) 0 (-1) 0 false) := hz.facts.1
            have hDE : bD ≠ bE := fun e => hz.dj 12 10 (by simp [keys]) (by simp [keys]) (by decide) (by subst e; rfl)
            have nA2 : ∀ y, svA.ownBlock = some y → y ≠ bD ∧ w10.heap.size ≤ y := fun y hy => by
              have l := lA y hy
              rcases nA y hy with q | q
              · exact ⟨by omega, by omega⟩
              · exact ⟨by omega, by omega⟩
            have nM : gM ≠ bD := by omega
            have hA := hMA.kept hz.kept fun y hy hin => absurd (show bD = y by simpa [BlkIn, nth, blkOf, vaddr] using hin) (fun e => (nA2 y hy).1 e.symm)
            have hM := hMM.kept hz.kept fun y hy hin => absurd (show bD = y by simpa [BlkIn, nth, blkOf, vaddr] using hin) (fun e => nM (by have q : gM = y := Option.some.inj hy; omega))
            exact ⟨hB, hA, hM, Mine.nil, rfl, by omega, fun y hy => ⟨Nat.le_trans zlo (nA2 y hy).2, (nA2 y hy).1, fun h => by cases h⟩, fun y hy => by have q : gM = y := Option.some.inj hy; exact ⟨by omega, by omega, fun h => by cases h⟩, fun y hy => (by cases hy), fun i v hv => by simp at hv⟩
          · skip
            refine den_blk fun bD kD kSD kWD => den_norm (by simp only [List.cons_append, List.nil_append]; rfl) ?_
            have zD : wb17.heap.size ≤ bD := kD
            have zSD : w10.heap.size ≤ bD := kSD
            refine den_appendL (E := intE) (T := 3) rfl u24 i3 zt3 s3 rfl (by decide) by3 int_one (.slice (some ⟨bE, 0, none⟩) 0 0) (.slice a F.length c) [] F rfl rfl (fun n c e => hF.2.1 n c e) (by simp; omega) (fun g hg hc => absurd hc (by simp [vcap])) (by simp [keys]) (fun wa ha => ⟨?_, (hF.same ha.base).1⟩) (fun g hg hc => absurd hc (by simp [vcap])) (fun _ g hg hc => absurd hc (by simp [vcap])) (fun _ => rfl) (fun wa22 svA wb22 hhwa22 hMA kkwa22 hfrA hapA => den_norm (by simp only [List.cons_append, List.nil_append]; rfl) ?_)
            · obtain ⟨b', ty, e, hh'⟩ := ha.facts.2.1
              have e' : pt bE = pt b' := e
              cases e'
              exact .inr ⟨rfl, bE, _, ty, rfl, hh'⟩
            rw [List.nil_append] at hMA
            have samewa22 : Same wb17 wb22 := (shown_same hhwa22).trans (kkwa22.mono fun y _ h => by have := h.2; simp [vcap] at this)
            have zzwa22 : wb17.heap.size ≤ wa22.heap.size := (shown_same hhwa22).size
            have lE : bE < wa22.heap.size := hhwa22.lt (i := 10) (by simp [keys]) rfl
            have lD : bD < wa22.heap.size := hhwa22.lt (i := 11) (by simp [keys]) rfl
            have nA : ∀ y, svA.ownBlock = some y → y = bE ∨ wa22.heap.size ≤ y := fun y hy => by
              rcases hfrA with ⟨e1, _⟩ | ⟨y2, e1, hle, _⟩
              · rw [e1] at hy; exact .inl (Option.some.inj hy).symm
              · rw [e1] at hy; cases hy; exact .inr hle
            have lA : ∀ y, svA.ownBlock = some y → y < wb22.heap.size := fun y hy => hMA.lt hy
            have hMM := hMM.same samewa22
            have zabwa22 : wb17.heap.size ≤ wb22.heap.size := samewa22.size
            have nA : ∀ y, svA.ownBlock = some y → (y = bE) ∨ (y ≠ bD ∧ w10.heap.size ≤ y) := fun y hy => (nA y hy).imp_right fun h => ⟨by omega, by omega⟩
            refine den_leaf_eq fun wz hz => ⟨bD, svA, slc0 gM nb nb, rfl, ?_⟩
            have hB : HasBlk wz (pt bD) (refC g svA nilS (slc0 gM nb nb) 0 (-1) 0 false) := hz.facts.1
            have hDE : bD ≠ bE := fun e => hz.dj 11 10 (by simp [keys]) (by simp [keys]) (by decide) (by subst e; rfl)
            have nA2 : ∀ y, svA.ownBlock = some y → y ≠ bD ∧ w10.heap.size ≤ y := fun y hy => by
              have l := lA y hy
              rcases nA y hy with q | q
              · exact ⟨by omega, by omega⟩
              · exact ⟨by omega, by omega⟩
            have nM : gM ≠ bD := by omega
            have hA := hMA.kept hz.kept fun y hy hin => absurd (show bD = y by simpa [BlkIn, nth, blkOf, vaddr] using hin) (fun e => (nA2 y hy).1 e.symm)
            have hM := hMM.kept hz.kept fun y hy hin => absurd (show bD = y by simpa [BlkIn, nth, blkOf, vaddr] using hin) (fun e => nM (by have q : gM = y := Option.some.inj hy; omega))
            exact ⟨hB, hA, hM, Mine.nil, rfl, by omega, fun y hy => ⟨Nat.le_trans zlo (nA2 y hy).2, (nA2 y hy).1, fun h => by cases h⟩, fun y hy => by have q : gM = y := Option.some.inj hy; exact ⟨by omega, by omega, fun h => by cases h⟩, fun y hy => (by cases hy), fun i v hv => by simp at hv⟩
        · skip
          refine den_blk fun bD kD kSD kWD => den_norm (by simp only [List.cons_append, List.nil_append]; rfl) ?_
          have zD : wb17.heap.size ≤ bD := kD
          have zSD : w10.heap.size ≤ bD := kSD
          refine den_blk fun bE kE kSE kWE => den_norm (by simp only [List.cons_append, List.nil_append]; rfl) ?_
          have zE : wb17.heap.size ≤ bE := kE
          have zSE : w10.heap.size ≤ bE := kSE
          refine den_appendL (E := intE) (T := 3) rfl u24 i3 zt3 s3 rfl (by decide) by3 int_one (.slice (some ⟨bE, 0, none⟩) 0 0) (.slice a F.length c) [] F rfl rfl (fun n c e => hF.2.1 n c e) (by simp; omega) (fun g hg hc => absurd hc (by simp [vcap])) (by simp [keys]) (fun wa ha => ⟨?_, (hF.same ha.base).1⟩) (fun g hg hc => absurd hc (by simp [vcap])) (fun _ g hg hc => absurd hc (by simp [vcap])) (fun _ => rfl) (fun wa25 svA wb25 hhwa25 hMA kkwa25 hfrA hapA => den_norm (by simp only [List.cons_append, List.nil_append]; rfl) ?_)
          · obtain ⟨b', ty, e, hh'⟩ := ha.facts.1
            have e' : pt bE = pt b' := e
            cases e'
            exact .inr ⟨rfl, bE, _, ty, rfl, hh'⟩
          rw [List.nil_append] at hMA
          have samewa25 : Same wb17 wb25 := (shown_same hhwa25).trans (kkwa25.mono fun y _ h => by have := h.2; simp [vcap] at this)
          have zzwa25 : wb17.heap.size ≤ wa25.heap.size := (shown_same hhwa25).size
          have lE : bE < wa25.heap.size := hhwa25.lt (i := 11) (by simp [keys]) rfl
          have lD : bD < wa25.heap.size := hhwa25.lt (i := 10) (by simp [keys]) rfl
          have nA : ∀ y, svA.ownBlock = some y → y = bE ∨ wa25.heap.size ≤ y := fun y hy => by
            rcases hfrA with ⟨e1, _⟩ | ⟨y2, e1, hle, _⟩
            · rw [e1] at hy; exact .inl (Option.some.inj hy).symm
            · rw [e1] at hy; cases hy; exact .inr hle
          have lA : ∀ y, svA.ownBlock = some y → y < wb25.heap.size := fun y hy => hMA.lt hy
          have hMM := hMM.same samewa25
          have zabwa25 : wb17.heap.size ≤ wb25.heap.size := samewa25.size
          have nA : ∀ y, svA.ownBlock = some y → (y = bE) ∨ (y ≠ bD ∧ w10.heap.size ≤ y) := fun y hy => (nA y hy).imp_right fun h => ⟨by omega, by omega⟩
          refine den_leaf_eq fun wz hz => ⟨bD, svA, slc0 gM nb nb, rfl, ?_⟩
          have hB : HasBlk wz (pt bD) (refC g svA nilS (slc0 gM nb nb) 0 (-1) 0 false) := hz.facts.2.1
          have hDE : bD ≠ bE := fun e => hz.dj 10 11 (by simp [keys]) (by simp [keys]) (by decide) (by subst e; rfl)
          have nA2 : ∀ y, svA.ownBlock = some y → y ≠ bD ∧ w10.heap.size ≤ y := fun y hy => by
            have l := lA y hy
            rcases nA y hy with q | q
            · exact ⟨by omega, by omega⟩
            · exact ⟨by omega, by omega⟩
          have nM : gM ≠ bD := by omega
          have hA := hMA.kept hz.kept fun y hy hin => absurd (show bD = y by simpa [BlkIn, nth, blkOf, vaddr] using hin) (fun e => (nA2 y hy).1 e.symm)
          have hM := hMM.kept hz.kept fun y hy hin => absurd (show bD = y by simpa [BlkIn, nth, blkOf, vaddr] using hin) (fun e => nM (by have q : gM = y := Option.some.inj hy; omega))
          exact ⟨hB, hA, hM, Mine.nil, rfl, by omega, fun y hy => ⟨Nat.le_trans zlo (nA2 y hy).2, (nA2 y hy).1, fun h => by cases h⟩, fun y hy => by have q : gM = y := Option.some.inj hy; exact ⟨by omega, by omega, fun h => by cases h⟩, fun y hy => (by cases hy), fun i v hv => by simp at hv⟩
      · skip
        refine den_blk fun bD kD kSD kWD => den_norm (by simp only [List.cons_append, List.nil_append]; rfl) ?_
        have zD : w10.heap.size ≤ bD := kD
        have zSD : w10.heap.size ≤ bD := kSD
        refine den_both ?_ ?_
        · skip
          refine den_blk fun bE kE kSE kWE => den_norm (by simp only [List.cons_append, List.nil_append]; rfl) ?_
          have zE : w10.heap.size ≤ bE := kE
          have zSE : w10.heap.size ≤ bE := kSE
          refine den_both ?_ ?_
          · skip
            refine den_appendL (E := intE) (T := 3) rfl u24 i3 zt3 s3 rfl (by decide) by3 int_one (.slice (some ⟨bE, 0, none⟩) 0 0) (.slice a F.length c) [] F rfl rfl (fun n c e => hF.2.1 n c e) (by simp; omega) (fun g hg hc => absurd hc (by simp [vcap])) (by simp [keys]) (fun wa ha => ⟨?_, (hF.same ha.base).1⟩) (fun g hg hc => absurd hc (by simp [vcap])) (fun _ g hg hc => absurd hc (by simp [vcap])) (fun _ => rfl) (fun wa28 svA wb28 hhwa28 hMA kkwa28 hfrA hapA => den_norm (by simp only [List.cons_append, List.nil_append]; rfl) ?_)
            · obtain ⟨b', ty, e, hh'⟩ := ha.facts.1
              have e' : pt bE = pt b' := e
              cases e'
              exact .inr ⟨rfl, bE, _, ty, rfl, hh'⟩
            rw [List.nil_append] at hMA
            have samewa28 : Same w10 wb28 := (shown_same hhwa28).trans (kkwa28.mono fun y _ h => by have := h.2; simp [vcap] at this)
            have zzwa28 : w10.heap.size ≤ wa28.heap.size := (shown_same hhwa28).size
            have lE : bE < wa28.heap.size := hhwa28.lt (i := 10) (by simp [keys]) rfl
            have lD : bD < wa28.heap.size := hhwa28.lt (i := 9) (by simp [keys]) rfl
            have nA : ∀ y, svA.ownBlock = some y → y = bE ∨ wa28.heap.size ≤ y := fun y hy => by
              rcases hfrA with ⟨e1, _⟩ | ⟨y2, e1, hle, _⟩
              · rw [e1] at hy; exact .inl (Option.some.inj hy).symm
              · rw [e1] at hy; cases hy; exact .inr hle
            have lA : ∀ y, svA.ownBlock = some y → y < wb28.heap.size := fun y hy => hMA.lt hy
            have zabwa28 : w10.heap.size ≤ wb28.heap.size := samewa28.size
            have nA : ∀ y, svA.ownBlock = some y → (y = bE) ∨ (y ≠ bD ∧ w10.heap.size ≤ y) := fun y hy => (nA y hy).imp_right fun h => ⟨by omega, by omega⟩
            refine den_make (n := nb) u24 i3 zt3 hnb hnb (by have := by3; have := Nat.mul_le_mul_right nb this; omega) (by omega) (fun v => rfl) (fun wa29 gM wb29 hhwa29 hgM hhM kkwa29 => den_norm (by simp only [List.cons_append, List.nil_append]; rfl) ?_)
            have hMM : Mine intE 3 wb29 (slc0 gM nb nb) (List.replicate nb 0) := mine_made (E := intE) (T := 3) (0 : Int) (.int .i64 0) rfl (by decide) s3 (by omega) hhM
            have samewa29 : Same wb28 wb29 := (shown_same hhwa29).trans kkwa29
            have zzwa29 : wb28.heap.size ≤ wa29.heap.size := (shown_same hhwa29).size
            have zabwa29 : wb28.heap.size ≤ wb29.heap.size := samewa29.size
            have lM : gM < wb29.heap.size := hMM.lt rfl
            have lD2 : bD < wa29.heap.size := hhwa29.lt (i := 9) (by simp [keys]) rfl
            have hMA := hMA.same samewa29
            refine den_leaf_eq fun wz hz => ⟨bD, svA, slc0 gM nb nb, rfl, ?_⟩
            have hB : HasBlk wz (pt bD) (refC g svA nilS (slc0 gM nb nb) 0 (-1) 0 false) := hz.facts.2.1
            have hDE : bD ≠ bE := fun e => hz.dj 9 10 (by simp [keys]) (by simp [keys]) (by decide) (by subst e; rfl)
            have nA2 : ∀ y, svA.ownBlock = some y → y ≠ bD ∧ w10.heap.size ≤ y := fun y hy => by
              have l := lA y hy
              rcases nA y hy with q | q
              · exact ⟨by omega, by omega⟩
              · exact ⟨by omega, by omega⟩
            have nM : gM ≠ bD := by omega
            have hA := hMA.kept hz.kept fun y hy hin => absurd (show bD = y by simpa [BlkIn, nth, blkOf, vaddr] using hin) (fun e => (nA2 y hy).1 e.symm)
            have hM := hMM.kept hz.kept fun y hy hin => absurd (show bD = y by simpa [BlkIn, nth, blkOf, vaddr] using hin) (fun e => nM (by have q : gM = y := Option.some.inj hy; omega))
            exact ⟨hB, hA, hM, Mine.nil, rfl, by omega, fun y hy => ⟨Nat.le_trans zlo (nA2 y hy).2, (nA2 y hy).1, fun h => by cases h⟩, fun y hy => by have q : gM = y := Option.some.inj hy; exact ⟨by omega, by omega, fun h => by cases h⟩, fun y hy => (by cases hy), fun i v hv => by simp at hv⟩
          · skip
            refine den_make (n := nb) u24 i3 zt3 hnb hnb (by have := by3; have := Nat.mul_le_mul_right nb this; omega) (by omega) (fun v => rfl) (fun wa30 gM wb30 hhwa30 hgM hhM kkwa30 => den_norm (by simp only [List.cons_append, List.nil_append]; rfl) ?_)
            have hMM : Mine intE 3 wb30 (slc0 gM nb nb) (List.replicate nb 0) := mine_made (E := intE) (T := 3) (0 : Int) (.int .i64 0) rfl (by decide) s3 (by omega) hhM
            have samewa30 : Same w10 wb30 := (shown_same hhwa30).trans kkwa30
            have zzwa30 : w10.heap.size ≤ wa30.heap.size := (shown_same hhwa30).size
            have zabwa30 : w10.heap.size ≤ wb30.heap.size := samewa30.size
            have lM : gM < wb30.heap.size := hMM.lt rfl
            have lD2 : bD < wa30.heap.size := hhwa30.lt (i := 9) (by simp [keys]) rfl
            refine den_appendL (E := intE) (T := 3) rfl u24 i3 zt3 s3 rfl (by decide) by3 int_one (.slice (some ⟨bE, 0, none⟩) 0 0) (.slice a F.length c) [] F rfl rfl (fun n c e => hF.2.1 n c e) (by simp; omega) (fun g hg hc => absurd hc (by simp [vcap])) (by simp [keys]) (fun wa ha => ⟨?_, (hF.same ha.base).1⟩) (fun g hg hc => absurd hc (by simp [vcap])) (fun _ g hg hc => absurd hc (by simp [vcap])) (fun _ => rfl) (fun wa31 svA wb31 hhwa31 hMA kkwa31 hfrA hapA => den_norm (by simp only [List.cons_append, List.nil_append]; rfl) ?_)
            · obtain ⟨b', ty, e, hh'⟩ := ha.facts.1
              have e' : pt bE = pt b' := e
              cases e'
              exact .inr ⟨rfl, bE, _, ty, rfl, hh'⟩
            rw [List.nil_append] at hMA
            have samewa31 : Same wb30 wb31 := (shown_same hhwa31).trans (kkwa31.mono fun y _ h => by have := h.2; simp [vcap] at this)
            have zzwa31 : wb30.heap.size ≤ wa31.heap.size := (shown_same hhwa31).size
            have lE : bE < wa31.heap.size := hhwa31.lt (i := 10) (by simp [keys]) rfl
            have lD : bD < wa31.heap.size := hhwa31.lt (i := 9) (by simp [keys]) rfl
            have nA : ∀ y, svA.ownBlock = some y → y = bE ∨ wa31.heap.size ≤ y := fun y hy => by
              rcases hfrA with ⟨e1, _⟩ | ⟨y2, e1, hle, _⟩
              · rw [e1] at hy; exact .inl (Option.some.inj hy).symm
              · rw [e1] at hy; cases hy; exact .inr hle
            have lA : ∀ y, svA.ownBlock = some y → y < wb31.heap.size := fun y hy => hMA.lt hy
            have hMM := hMM.same samewa31
            have zabwa31 : wb30.heap.size ≤ wb31.heap.size := samewa31.size
            have nA : ∀ y, svA.ownBlock = some y → (y = bE) ∨ (y ≠ bD ∧ w10.heap.size ≤ y) := fun y hy => (nA y hy).imp_right fun h => ⟨by omega, by omega⟩
            refine den_leaf_eq fun wz hz => ⟨bD, svA, slc0 gM nb nb, rfl, ?_⟩
            have hB : HasBlk wz (pt bD) (refC g svA nilS (slc0 gM nb nb) 0 (-1) 0 false) := hz.facts.2.1
            have hDE : bD ≠ bE := fun e => hz.dj 9 10 (by simp [keys]) (by simp [keys]) (by decide) (by subst e; rfl)
            have nA2 : ∀ y, svA.ownBlock = some y → y ≠ bD ∧ w10.heap.size ≤ y := fun y hy => by
              have l := lA y hy
              rcases nA y hy with q | q
              · exact ⟨by omega, by omega⟩
              · exact ⟨by omega, by omega⟩
            have nM : gM ≠ bD := by omega
            have hA := hMA.kept hz.kept fun y hy hin => absurd (show bD = y by simpa [BlkIn, nth, blkOf, vaddr] using hin) (fun e => (nA2 y hy).1 e.symm)
            have hM := hMM.kept hz.kept fun y hy hin => absurd (show bD = y by simpa [BlkIn, nth, blkOf, vaddr] using hin) (fun e => nM (by have q : gM = y := Option.some.inj hy; omega))
            exact ⟨hB, hA, hM, Mine.nil, rfl, by omega, fun y hy => ⟨Nat.le_trans zlo (nA2 y hy).2, (nA2 y hy).1, fun h => by cases h⟩, fun y hy => by have q : gM = y := Option.some.inj hy; exact ⟨by omega, by omega, fun h => by cases h⟩, fun y hy => (by cases hy), fun i v hv => by simp at hv⟩
        · skip
          refine den_make (n := nb) u24 i3 zt3 hnb hnb (by have := by3; have := Nat.mul_le_mul_right nb this; omega) (by omega) (fun v => rfl) (fun wa32 gM wb32 hhwa32 hgM hhM kkwa32 => den_norm (by simp only [List.cons_append, List.nil_append]; rfl) ?_)
          have hMM : Mine intE 3 wb32 (slc0 gM nb nb) (List.replicate nb 0) := mine_made (E := intE) (T := 3) (0 : Int) (.int .i64 0) rfl (by decide) s3 (by omega) hhM
          have samewa32 : Same w10 wb32 := (shown_same hhwa32).trans kkwa32
          have zzwa32 : w10.heap.size ≤ wa32.heap.size := (shown_same hhwa32).size
          have zabwa32 : w10.heap.size ≤ wb32.heap.size := samewa32.size
          have lM : gM < wb32.heap.size := hMM.lt rfl
          have lD2 : bD < wa32.heap.size := hhwa32.lt (i := 9) (by simp [keys]) rfl
          refine den_blk fun bE kE kSE kWE => den_norm (by simp only [List.cons_append, List.nil_append]; rfl) ?_
          have zE : wb32.heap.size ≤ bE := kE
          have zSE : w10.heap.size ≤ bE := kSE
          refine den_appendL (E := intE) (T := 3) rfl u24 i3 zt3 s3 rfl (by decide) by3 int_one (.slice (some ⟨bE, 0, none⟩) 0 0) (.slice a F.length c) [] F rfl rfl (fun n c e => hF.2.1 n c e) (by simp; omega) (fun g hg hc => absurd hc (by simp [vcap])) (by simp [keys]) (fun wa ha => ⟨?_, (hF.same ha.base).1⟩) (fun g hg hc => absurd hc (by simp [vcap])) (fun _ g hg hc => absurd hc (by simp [vcap])) (fun _ => rfl) (fun wa34 svA wb34 hhwa34 hMA kkwa34 hfrA hapA => den_norm (by simp only [List.cons_append, List.nil_append]; rfl) ?_)
          · obtain ⟨b', ty, e, hh'⟩ := ha.facts.1
            have e' : pt bE = pt b' := e
            cases e'
            exact .inr ⟨rfl, bE, _, ty, rfl, hh'⟩
          rw [List.nil_append] at hMA
          have samewa34 : Same wb32 wb34 := (shown_same hhwa34).trans (kkwa34.mono fun y _ h => by have := h.2; simp [vcap] at this)
          have zzwa34 : wb32.heap.size ≤ wa34.heap.size := (shown_same hhwa34).size
          have lE : bE < wa34.heap.size := hhwa34.lt (i := 11) (by simp [keys]) rfl
          have lD : bD < wa34.heap.size := hhwa34.lt (i := 9) (by simp [keys]) rfl
          have nA : ∀ y, svA.ownBlock = some y → y = bE ∨ wa34.heap.size ≤ y := fun y hy => by
            rcases hfrA with ⟨e1, _⟩ | ⟨y2, e1, hle, _⟩
            · rw [e1] at hy; exact .inl (Option.some.inj hy).symm
            · rw [e1] at hy; cases hy; exact .inr hle
          have lA : ∀ y, svA.ownBlock = some y → y < wb34.heap.size := fun y hy => hMA.lt hy
          have hMM := hMM.same samewa34
          have zabwa34 : wb32.heap.size ≤ wb34.heap.size := samewa34.size
          have nA : ∀ y, svA.ownBlock = some y → (y = bE) ∨ (y ≠ bD ∧ w10.heap.size ≤ y) := fun y hy => (nA y hy).imp_right fun h => ⟨by omega, by omega⟩
          refine den_leaf_eq fun wz hz => ⟨bD, svA, slc0 gM nb nb, rfl, ?_⟩
          have hB : HasBlk wz (pt bD) (refC g svA nilS (slc0 gM nb nb) 0 (-1) 0 false) := hz.facts.2.1
          have hDE : bD ≠ bE := fun e => hz.dj 9 11 (by simp [keys]) (by simp [keys]) (by decide) (by subst e; rfl)
          have nA2 : ∀ y, svA.ownBlock = some y → y ≠ bD ∧ w10.heap.size ≤ y := fun y hy => by
            have l := lA y hy
            rcases nA y hy with q | q
            · exact ⟨by omega, by omega⟩
            · exact ⟨by omega, by omega⟩
          have nM : gM ≠ bD := by omega
          have hA := hMA.kept hz.kept fun y hy hin => absurd (show bD = y by simpa [BlkIn, nth, blkOf, vaddr] using hin) (fun e => (nA2 y hy).1 e.symm)
          have hM := hMM.kept hz.kept fun y hy hin => absurd (show bD = y by simpa [BlkIn, nth, blkOf, vaddr] using hin) (fun e => nM (by have q : gM = y := Option.some.inj hy; omega))
          exact ⟨hB, hA, hM, Mine.nil, rfl, by omega, fun y hy => ⟨Nat.le_trans zlo (nA2 y hy).2, (nA2 y hy).1, fun h => by cases h⟩, fun y hy => by have q : gM = y := Option.some.inj hy; exact ⟨by omega, by omega, fun h => by cases h⟩, fun y hy => (by cases hy), fun i v hv => by simp at hv⟩
  rintro l w20 hfl ⟨b, fv, ev, rfl, N0⟩ hk20 hfa20
  have bnp : np ≤ 8 := by omega
  refine den_norm (by simp only [List.cons_append, List.nil_append]; rfl) (den_for nb (fun j w' => ∃ pv PV, NewR lo w' b g np nb F fv pv ev PV j) ⟨rfl, fun wa ha => ⟨_, _, N0.same (shown_same ha)⟩⟩ ?_)
  rintro j2 w21 hj2 ⟨pv, PV, N⟩ hk21 hfa21
  have zlw : w.heap.size ≤ lo := by omega
  obtain ⟨fa, fc, ef⟩ := N.f.slice
  obtain ⟨pa, pc, ep⟩ := N.p.slice
  obtain ⟨ea, ec, ee⟩ := N.e.slice
  refine den_norm (by simp only [List.cons_append, List.nil_append]; rfl) (den_splitLt (fun hlt => ?_) (fun hge => ?_))
  · have hlt2 : j2 < nb := by have : (j2 : Int) < g.b := hlt; omega
    intro w22 h22
    have N22 := N.same (shown_same h22)
    have lb : b < w22.heap.size := N22.blk.pts.lt (by simp [refC]) b rfl
    have z22 : w.heap.size ≤ w22.heap.size := h22.base.size
    have zlb := N.bl
    have l5 : b5 < w22.heap.size := h22.lt (i := 5) (by simp [keys]) rfl
    have l6 : b6 < w22.heap.size := h22.lt (i := 6) (by simp [keys]) rfl
    have zl22 := hlo _ l5 l6
    refine ⟨fun y => w22.heap.size ≤ y ∨ pv.ownBlock = some y ∨ y = b5 ∨ y = b6, fun y hy => ?_, ?_⟩
    · have e : b6 = y ∨ b5 = y := by simpa [BlkIn, nth, blkOf, vaddr] using hy
      omega
    refine den_notnilP (i := 9) rfl ?_
    refine den_ldpD [pv] (refC g fv pv ev 0 (-1) 0 false) ⟨⟨_, _, _, ep⟩, trivial⟩ (cellk _ 5 _ rfl) N22.blk.pts (fun y hy hX => ?_) (den_norm (by simp only [List.cons_append, List.nil_append]; rfl) ?_)
    · have e : b = y := Option.some.inj hy
      subst e
      rcases hX with hX | hX | hX | hX
      · omega
      · exact (N.pl _ hX).2 rfl
      · omega
      · omega
    refine den_callR (fun wa l wb => ∃ v, l = [v] ∧ Mine rpE 106 wb v (List.replicate np ⟨1, ⟨none, 0, 0⟩⟩) ∧ ∀ g, v.ownBlock = some g → wa.heap.size ≤ g) (fun w23 h23 => ?_) (fun w23 l w24 h23 hfl hR k2324 => ?_)
    · have key : ∀ l, l = [.int .i64 np, .int .i64 1] → GivesR Try.prog 59 l w23 _ := fun l e => by rw [e]; exact c59 np 1 w23 (by omega)
      refine (key _ (by simp [SV.den, denL, IE.den, BE.den, nth, vint, vbool, vaddr, addO, addr_add, hnp])).mono fun v w' ⟨q1, q2⟩ => ?_
      obtain ⟨va, vc, hv⟩ := q1.slice
      exact ⟨[v], ⟨⟨_, _, _, hv⟩, trivial⟩, rfl, v, rfl, q1, q2⟩
    obtain ⟨vR, rfl, hMr, hMo⟩ := hR
    obtain ⟨gR, cR, eR⟩ := hMr.addr (j := 0) (x := ⟨1, ⟨none, 0, 0⟩⟩) (by rw [List.getElem?_replicate_of_lt (by omega)])
    rw [List.length_replicate] at eR
    subst eR
    have hgR : w23.heap.size ≤ gR := hMo gR rfl
    have z23 : w22.heap.size ≤ w23.heap.size := h23.kept.size
    have s2224 : Same w22 w24 := (shown_same h23).trans k2324
    have N24 := N22.same s2224
    have lR : gR < w24.heap.size := hMr.lt rfl
    have z2224 : w22.heap.size ≤ w24.heap.size := s2224.size
    refine den_norm (by simp only [List.cons_append, List.nil_append]; rfl) (den_blk fun b13 k13 kS13 kW13 => den_norm (by simp only [List.cons_append, List.nil_append]; rfl) ?_)
    have z13 : w24.heap.size ≤ b13 := k13
    refine den_push (E := ssE) (T := 102) rfl u34 i102 z102 s102 rfl (by decide) by102 ss_one pv PV (⟨some ⟨gR, 0, none⟩, np, cR⟩ : Sl) rfl rfl rfl (by have := N.len; omega) (fun g hg _ => .inl (Nat.le_trans zlw (N.pl g hg).1)) (by simp [keys]) (fun wc hc => N24.p.same (shown_same hc)) ?_ (fun _ g hg _ => .inr (.inl hg)) (fun _ => rfl) (fun w25 pv2 w26 h25 hM2 k2526 hfr2 hap2 => den_norm (by simp only [List.cons_append, List.nil_append]; rfl) ?_)
    · intro y hy hc hin
      have q1 := N24.p.lt hy
      have q2 := (N.pl y hy).1
      have hin' : b13 = y ∨ b6 = y ∨ b5 = y := by simpa [BlkIn, nth, blkOf, vaddr] using hin
      omega
    have N25 := N24.same (shown_same h25)
    have z25 : w24.heap.size ≤ w25.heap.size := h25.kept.size
    have z26 : w25.heap.size ≤ w26.heap.size := k2526.size
    have hB26 : HasBlk w26 (pt b) (refC g fv pv ev 0 (-1) 0 false) := N25.blk.keptA k2526 fun hh => (N.pl b hh.1).2 rfl
    have l13 : b13 < w25.heap.size := h25.lt (i := 13) (by simp [keys]) rfl
    obtain ⟨p2a, p2c, ep2⟩ := hM2.slice
    have oneV : ∀ u ∈ [pv2], u.oneCell' = true := by intro u hu; simp only [List.mem_singleton] at hu; subst hu; rw [ep2]; rfl
    refine den_storeP b 5 pv2 [pv2] (refC g fv pv ev 0 (-1) 0 false) (by kernel_rfl) rfl rfl (by rw [ep2]; rfl) rfl oneV (fun wc hc => hB26.keptA (shown_same hc) fun h => h) (by simp [refC]) (fun wc hc => ⟨fun hd => (by cases hd), fun hl => by have hl2 : b < w.heap.size := hl; omega, fun hin => ?_, fun hx => (by cases hx)⟩) (fun w27 w28 h27 hB28 k2728 => ?_)
    · have hin' : b13 = b ∨ b6 = b ∨ b5 = b := by simpa [BlkIn, nth, blkOf, vaddr] using hin
      omega
    have own2 : ∀ y, pv2.ownBlock = some y → pv.ownBlock = some y ∨ w25.heap.size ≤ y := fun y hy => by
      rcases hfr2 with ⟨e1, _⟩ | ⟨y2, e1, hle, _⟩
      · exact .inl (by rw [← e1]; exact hy)
      · rw [e1] at hy; cases hy; exact .inr hle
    have step : ∀ {α : Type} {E : Enc α} {T : TypeId} {v : Value} {Lx : List α}, Mine E T w24 v Lx → (∀ y, v.ownBlock = some y → y ≠ b ∧ pv.ownBlock ≠ some y) → Mine E T w28 v Lx := fun hm ho =>
      (((hm.same (shown_same h25)).kept k2526 fun y hy hh => (ho y hy).2 hh.1).same (shown_same h27)).kept k2728 fun y hy e => (ho y hy).1 e
    refine den_ob64 ⟨by simp only [IE.den, nth, vint]; omega, by simp only [IE.den, nth, vint]; omega⟩ (den_next rfl hlt2 fun wz hz => ⟨pv2, PV ++ [⟨some ⟨gR, 0, none⟩, np, cR⟩], NewR.same ⟨hB28, step N24.f fun y hy => (N.fl y hy).2, step N24.e fun y hy => (N.el y hy).2, (hM2.same (shown_same h27)).kept k2728 fun y hy e => ?_, by simp [N.len], N.bl, fun y hy => ?_, fun y hy => ?_, fun y hy => ?_, fun i v hv => ?_⟩ (shown_same hz)⟩)
    · rcases own2 y hy with q | q
      · exact (N.pl y q).2 e
      · omega
    · refine ⟨(N.fl y hy).1, (N.fl y hy).2.1, fun e => ?_⟩
      rcases own2 y e with q | q
      · exact (N.fl y hy).2.2 q
      · have := N24.f.lt hy; omega
    · refine ⟨(N.el y hy).1, (N.el y hy).2.1, fun e => ?_⟩
      rcases own2 y e with q | q
      · exact (N.el y hy).2.2 q
      · have := N24.e.lt hy; omega
    · rcases own2 y hy with q | q
      · exact N.pl y q
      · exact ⟨by omega, by omega⟩
    · by_cases hi : i < PV.length
      · rw [List.getElem?_append_left hi] at hv
        obtain ⟨g1, c1, e1, m1, q1, q2, q3⟩ := N24.at_ i v hv
        refine ⟨g1, c1, e1, step m1 fun y hy => by have e : g1 = y := Option.some.inj hy; subst e; exact ⟨q2, q3⟩, q1, q2, fun e => ?_⟩
        rcases own2 g1 e with q | q
        · exact q3 q
        · have := m1.lt (g := g1) rfl; omega
      · rw [List.getElem?_append_right (by omega)] at hv
        have hi0 : i - PV.length = 0 := by
          have := (List.getElem?_eq_some_iff.1 hv).1
          simp at this
          omega
        rw [hi0] at hv
        cases hv
        have nR : ∀ y, pv.ownBlock = some y → y ≠ gR := fun y hy => by have := N22.p.lt hy; omega
        refine ⟨gR, cR, rfl, step hMr fun y hy => by have e : gR = y := Option.some.inj hy; subst e; exact ⟨by omega, fun e2 => nR _ e2 rfl⟩, by omega, by omega, fun e => ?_⟩
        rcases own2 gR e with q | q
        · exact nR _ q rfl
        · omega
  have ej : j2 = nb := by have : g.b ≤ (j2 : Int) := hge; omega
  subst ej
  subst ef ep ee
  refine den_ldp (refC g (.slice fa F.length fc) (.slice pa PV.length pc) (.slice ea (List.replicate j2 (0 : Int)).length ec) 0 (-1) 0 false) _ ⟨⟨_, rfl⟩, ⟨_, rfl⟩, ⟨_, rfl⟩, ⟨_, rfl⟩, ⟨_, _, _, rfl⟩, ⟨_, _, _, rfl⟩, ⟨_, _, _, rfl⟩, ⟨_, rfl⟩, ⟨_, rfl⟩, ⟨_, rfl⟩, ⟨_, rfl⟩, trivial⟩ (fun m v hv => by rw [Nat.zero_add]; exact hv) (fun wa ha => (N.same (shown_same ha)).blk.pts) (fun y hy hin => by simp [BlkIn, nth, blkOf, vaddr] at hin) (fun w30 h30 => ?_)
  refine den_norm (by simp only [List.cons_append, List.nil_append, refC]; rfl) ?_
  refine den_leaf' fun wz hz => (if_neg (by decide)).mpr ((if_neg (by decide)).mpr ⟨_, rfl, .inr ⟨hok, hbf, _, rfl, fun S hS => ?_⟩, hz.base⟩)
  have l6z : b6 < w30.heap.size := by
    have := h30.lt (i := 6) (by simp [keys]) rfl
    exact this
  have NZ : NewR lo wz b g np j2 F (.slice fa F.length fc) (.slice pa PV.length pc) (.slice ea (List.replicate j2 (0 : Int)).length ec) PV j2 := by
    have N30 := N.same (shown_same h30)
    have kz : Kept (fun y => y = b6) w30 wz := hz.kept.mono fun y _ hin => (show b6 = y by simpa [BlkIn, nth, blkOf, vaddr] using hin).symm
    have q : ∀ y, lo ≤ y → ¬ y = b6 := fun y hy => by omega
    exact ⟨N30.blk.keptA kz (q b N.bl), N30.f.kept kz fun y hy => q y (N.fl y hy).1, N30.e.kept kz fun y hy => q y (N.el y hy).1, N30.p.kept kz fun y hy => q y (N.pl y hy).1, N.len, N.bl, N.fl, N.el, N.pl, fun i v hv => let ⟨gR, c, e, q1, q2, q3⟩ := N30.at_ i v hv; ⟨gR, c, e, q1.kept kz fun y hy => by have e : gR = y := Option.some.inj hy; subst e; exact q _ q2, q2, q3⟩⟩
  have outL : ∀ {v : Value}, (∀ ad, vaddr v = some ad → lo ≤ ad.block) → outS S v := fun h ad had hs => by have := h ad had; have := hS _ hs; omega
  have hers : (newDv g (inF F)).ers = List.replicate j2 0 := by
    unfold Dv.ers newDv
    simp only [List.map_replicate, hnb, Int.toNat_natCast]
    rfl
  refine ⟨_, _, _, F, PV, List.replicate j2 (List.replicate np ⟨1, ⟨none, 0, 0⟩⟩), rfl, NZ.f.given, outL fun ad had => (N.fl _ (NZ.f.own had)).1, rfl, hm, NZ.p.given, outL fun ad had => (N.pl _ (NZ.p.own had)).1, by rw [hers]; exact NZ.e.given, outL fun ad had => (N.el _ (NZ.e.own had)).1, by rw [N.len]; simp [newDv, hnb], by simp [newDv, hnb], fun B v R x h1 h2 h3 => ?_⟩
  obtain ⟨gR, c, e, q1, q2, _⟩ := NZ.at_ B v h1
  subst e
  have eR := (List.mem_replicate.1 (List.mem_of_getElem? h2)).2
  have ex : x = fresh g.p 1 0 := (List.mem_replicate.1 (List.mem_of_getElem? h3)).2
  subst eR ex
  refine ⟨q1.given, outL fun ad had => by have e : gR = ad.block := (by cases had; rfl); omega, by simp [fresh, hnp], fun i r p hr hp => ?_⟩
  have e1 := (List.mem_replicate.1 (List.mem_of_getElem? hr)).2
  have e2 : p = ⟨1, []⟩ := (List.mem_replicate.1 (List.mem_of_getElem? hp)).2
  subst e1 e2
  exact ⟨rfl, given_nil, outS.nil⟩
end Go.Proofs.Ytppbapnibpeolaa
