/- The reference's Program. No conditions beyond those that each theorem names. -/
import Derived.Test.YtppbapnibpeolaaX
set_option maxRecDepth 100000
set_option maxHeartbeats 4000000
set_option linter.unusedVariables false
set_option linter.unusedSimpArgs false
namespace Go.Proofs.Ytppbapnibpeolaa
open Go.Sx

section
variable {w w' : World} {S T S' T' M : Nat → Prop} {d d' : Dv} {fv pv ev pv' ev' : Value} {Fl : List Int} {PV : List Sl} {RP : List (List Rv)}
/-- other pages of a block, and other counts -/
theorem RfAt.turn (h : RfAt w S d fv pv ev Fl PV RP) {B : Nat} (x' : Bl) (R' : List Rv) (v' : Sl) (hpv : Given ssE w pv' (PV.set B v')) (po : outS S pv') (hv : Given rpE w v'.v R') (ho : outS S v'.v) (hR : RpsAt w S R' x'.ps) (hd : d'.bs = d.bs.set B x') (hF : d'.F = d.F) (he : Given intE w ev' d'.ers) (eo : outS S ev') : RfAt w S d' fv pv' ev' Fl (PV.set B v') (RP.set B R') := by
  refine ⟨h.f, h.fo, by rw [hF]; exact h.fF, h.fl, hpv, po, he, eo, by simp [hd, h.l1], by simp [hd, h.l2], fun C v R x h1 h2 h3 => ?_⟩
  rw [hd] at h3
  rw [List.getElem?_set] at h1 h2 h3
  split at h1
  · rename_i e
    rw [if_pos e] at h2 h3
    split at h1
    · split at h2
      · split at h3
        · cases h1; cases h2; cases h3
          exact ⟨hv, ho, hR⟩
        · cases h3
      · cases h2
    · cases h1
  · rename_i e
    rw [if_neg e] at h2 h3
    exact h.el C v R x h1 h2 h3
theorem op_ers {d : Dv} {B : Nat} {x : Bl} (x' : Bl) (hx : d.bs[B]? = some x) (he : x'.er = x.er) : (d.op B x').ers = d.ers := by
  unfold Dv.ers Dv.op
  simp only [Int.toNat_natCast]
  apply List.ext_getElem?
  intro i
  rw [List.getElem?_map, List.getElem?_map, List.getElem?_set]
  split
  · rename_i e
    subst e
    rw [hx]
    have := (List.getElem?_eq_some_iff.1 hx).1
    rw [if_pos this]
    simp [he]
  · rfl
theorem RpsAt.set {R : List Rv} {ps : List Pg} (h : RpsAt w S R ps) {i : Nat} {r : Rv} {p : Pg} (h1 : r.st = p.st) (h2 : Given byteE w r.s.v p.D) (h3 : outS S r.s.v) : RpsAt w S (R.set i r) (ps.set i p) := by
  refine ⟨by simp [h.len], fun k u q hu hq => ?_⟩
  rw [List.getElem?_set] at hu hq
  split at hu
  · rename_i e
    rw [if_pos e] at hq
    split at hu
    · split at hq
      · cases hu; cases hq; exact ⟨h1, h2, h3⟩
      · cases hq
    · cases hu
  · rename_i e
    rw [if_neg e] at hq
    exact h.at_ k u q hu hq
theorem tear_step2 (D : List Int) (n i : Nat) (hni : n ≤ i) (hi : i < D.length) : (D.take n ++ List.replicate (i - n) 255 ++ D.drop i).set i 255 = D.take n ++ List.replicate (i + 1 - n) 255 ++ D.drop (i + 1) := by
  have := tear_step D n (i - n) (by omega)
  rw [show n + (i - n) = i by omega, show n + (i - n + 1) = i + 1 by omega, show i - n + 1 = i + 1 - n by omega] at this
  exact this
theorem c40 (B A : Int) (s1 s2 : Value) (D1 D2 : List Int) (w : World) (h : RfAt w S d fv pv ev Fl PV RP) (hw : Wf d) (h1 : Src w s1 D1) (h2 : Src w s2 D2) (hl1 : D1.length ≤ 10000) (hl2 : D2.length ≤ 10000) (hn : d.n ≤ 1000000000) (hS : ∀ y, S y → y < w.heap.size) :
    GivesR Try.prog 40 [refV d.g fv pv ev d.n d.cut d.cb d.off, .int .i64 B, .int .i64 A, s1, s2] w (fun r w' => ∃ rv', r = .tuple #[rv', .int .i64 (d.prgE B A D1 D2)] ∧ RefAt w' S (d.prgD B A D1 D2) rv') := by
  have err : ∀ (e : Int) (w' : World), e ≠ 0 → d.prgC B A D1 D2 = e → Same w w' → ∃ rv', Value.tuple #[refV d.g fv pv ev d.n d.cut d.cb d.off, .int .i64 e] = .tuple #[rv', .int .i64 (d.prgE B A D1 D2)] ∧ RefAt w' S (d.prgD B A D1 D2) rv' := fun e w' he hc hs => by
    have n0 : ¬ d.prgC B A D1 D2 = 0 := by rw [hc]; exact he
    have e1 : d.prgE B A D1 D2 = e := by unfold Dv.prgE; rw [if_neg n0, hc]
    have e2 : d.prgD B A D1 D2 = d := by unfold Dv.prgD; rw [if_neg n0]
    rw [e1, e2]
    exact ⟨_, rfl, fv, pv, ev, Fl, PV, RP, rfl, h.same hs⟩
  obtain ⟨fa, fc, x1⟩ := h.f.1.slice
  obtain ⟨pa, pc, x2⟩ := h.p.1.slice
  obtain ⟨ea, ec, x3⟩ := h.e.1.slice
  obtain ⟨a1, c1, x4⟩ := h1.1.slice
  obtain ⟨a2, c2, x5⟩ := h2.1.slice
  subst x1 x2 x3 x4 x5
  refine givesR mix t40 rfl rfl (ε := [.int .i64 d.g.b, .int .i64 d.g.p, .int .i64 d.g.s, .int .i64 d.g.e, .slice fa Fl.length fc, .slice pa PV.length pc, .slice ea d.ers.length ec, .int .i64 d.n, .int .i64 d.cut, .int .i64 d.cb, .bool d.off, .int .i64 B, .int .i64 A, .slice a1 D1.length c1, .slice a2 D2.length c2]) ⟨⟨_, rfl⟩, ⟨_, rfl⟩, ⟨_, rfl⟩, ⟨_, rfl⟩, ⟨_, _, _, rfl⟩, ⟨_, _, _, rfl⟩, ⟨_, _, _, rfl⟩, ⟨_, rfl⟩, ⟨_, rfl⟩, ⟨_, rfl⟩, ⟨_, rfl⟩, ⟨_, rfl⟩, ⟨_, rfl⟩, ⟨_, _, _, rfl⟩, ⟨_, _, _, rfl⟩, trivial⟩ (den_blk fun b15 k15 _ kW15 => den_norm (by simp only [List.cons_append, List.nil_append]; rfl) (den_blk fun b16 k16 _ kW16 => den_norm (by simp only [List.cons_append, List.nil_append]; rfl) ?_))
  have z15 : w.heap.size ≤ b15 := kW15
  refine den_call_bool (b := d.hasB B) (fun wa ha => c45 B wa (h.same ha.base)) rfl (fun w1 w2 g1 k12 => den_norm (by simp only [List.cons_append, List.nil_append]; rfl) (den_splitNot (fun hb => ?_) (fun hb => ?_)))
  · have hb' : d.hasB B = false := hb
    exact den_leafR _ rfl fun wz hz => err 2 wz (by decide) (by unfold Dv.prgC; rw [if_pos (by simp [Dv.hasP, hb'])]) hz.base
  have hb' : d.hasB B = true := hb
  refine den_splitLt (fun h3 => ?_) (fun h3 => den_splitLe (fun h4 => ?_) (fun h4 => ?_))
  · have h3' : A < 0 := h3
    exact den_leafR _ rfl fun wz hz => err 2 wz (by decide) (by unfold Dv.prgC; rw [if_pos (by simp [Dv.hasP]; omega)]) hz.base
  · have h4' : d.g.p ≤ A := h4
    exact den_leafR _ rfl fun wz hz => err 2 wz (by decide) (by unfold Dv.prgC; rw [if_pos (by simp [Dv.hasP]; omega)]) hz.base
  have h3' : 0 ≤ A := h3
  have h4' : A < d.g.p := h4
  have hP : d.hasP B A = true := by simp [Dv.hasP, hb', h3', h4']
  have q1 : ¬ d.hasP B A = false := by rw [hP]; decide
  refine den_splitNot (fun hb => ?_) (fun hb => ?_)
  · have hb' : (D1.length : Int) ≠ d.g.s := of_decide_eq_false hb
    exact den_leafR _ rfl fun wz hz => err 2 wz (by decide) (by unfold Dv.prgC; rw [if_neg q1, if_pos hb']) hz.base
  have q2 : ¬ (D1.length : Int) ≠ d.g.s := by have : (D1.length : Int) = d.g.s := of_decide_eq_true hb; omega
  refine den_splitNot (fun hb => ?_) (fun hb => ?_)
  · have hb' : (D2.length : Int) ≠ 64 := of_decide_eq_false hb
    exact den_leafR _ rfl fun wz hz => err 2 wz (by decide) (by unfold Dv.prgC; rw [if_neg q1, if_neg q2, if_pos hb']) hz.base
  have q3 : ¬ (D2.length : Int) ≠ 64 := by have : (D2.length : Int) = 64 := of_decide_eq_true hb; omega
  refine den_split (fun hb => ?_) (fun hb => ?_)
  · have hb' : d.off = true := hb
    exact den_leafR _ rfl fun wz hz => err 50 wz (by decide) (by unfold Dv.prgC; rw [if_neg q1, if_neg q2, if_neg q3, if_pos hb']) hz.base
  have hoff : d.off = false := hb
  have q4 : ¬ d.off = true := by rw [hoff]; decide
  refine den_call_int (x := d.next B) (fun wa ha => c46 B wa (h.same ha.base) hw) rfl (fun w3 w4 g3 k34 => den_norm (by simp only [List.cons_append, List.nil_append]; rfl) (den_splitNot (fun hb => ?_) (fun hb => ?_)))
  · have hb2 : A ≠ d.next B := of_decide_eq_false hb
    have hb3 : A ≠ (d.blk B).nx := by unfold Dv.next at hb2; rw [if_pos hb'] at hb2; exact hb2
    exact den_leafR _ rfl fun wz hz => err 51 wz (by decide) (by unfold Dv.prgC; rw [if_neg q1, if_neg q2, if_neg q3, if_neg q4, if_pos hb3]) hz.base
  have q5 : ¬ A ≠ (d.blk B).nx := by
    have hb2 : A = d.next B := of_decide_eq_true hb
    unfold Dv.next at hb2
    rw [if_pos hb'] at hb2
    omega
  have eC : d.prgC B A D1 D2 = 0 := by unfold Dv.prgC; rw [if_neg q1, if_neg q2, if_neg q3, if_neg q4, if_neg q5]
  have eE : d.prgE B A D1 D2 = d.err 54 := by unfold Dv.prgE; rw [if_pos eC]
  have eD : d.prgD B A D1 D2 = d.op B (put (d.blk B) A (d.prgP (D1 ++ D2))) := by unfold Dv.prgD; rw [if_pos eC]
  rw [eE, eD]
  clear err
  have s0 := hw.s0
  have s1' := hw.s1
  have hlen : (D1 ++ D2).length = D1.length + D2.length := List.length_append
  refine den_blk fun b19 k19 _ kW19 => den_norm (by simp only [List.cons_append, List.nil_append]; rfl) ?_
  have z19 : w.heap.size ≤ b19 := kW19
  refine den_appendL (E := byteE) (T := 5) rfl u26 i5 z5 s5 rfl (by decide) by5 byte_one (.slice (some ⟨b19, 0, none⟩) 0 0) (.slice a1 D1.length c1) [] D1 rfl rfl (fun n c e => h1.2 n c e) (by simp; omega) (fun g hg hc => absurd hc (by simp [vcap])) (by simp [keys]) (fun wa ha => ⟨?_, (h1.1.same ha.base)⟩) (fun g hg hc => absurd hc (by simp [vcap])) (fun _ g hg hc => absurd hc (by simp [vcap])) (fun _ => rfl) (fun w5 sx w6 g5 hM1 k56 hfr1 hap1 => den_norm (by simp only [List.cons_append, List.nil_append]; rfl) ?_)
  · obtain ⟨b', ty, e, hh⟩ := ha.facts.1
    have e' : pt b19 = pt b' := e
    cases e'
    exact .inr ⟨rfl, b19, _, ty, rfl, hh⟩
  have z5' : w.heap.size ≤ w5.heap.size := g5.base.size
  have l15 : b15 < w5.heap.size := g5.lt (i := 15) (by simp [keys]) rfl
  have l16 : b16 < w5.heap.size := g5.lt (i := 16) (by simp [keys]) rfl
  have l19 : b19 < w5.heap.size := g5.lt (i := 19) (by simp [keys]) rfl
  have frx : ∀ g, sx.ownBlock = some g → 0 < vcap sx → w5.heap.size ≤ g := fun g hg hc => by
    rcases hfr1 with ⟨_, e2⟩ | ⟨y2, e1, hle, _⟩
    · rw [e2] at hc; simp [vcap] at hc
    · rw [e1] at hg; cases hg; exact hle
  rw [List.nil_append] at hM1
  have s06 : Same w w6 := (g5.base.mono fun _ _ h => h.elim).trans k56 |>.mono fun y hy hh => by
    have e : b19 = y := Option.some.inj hh.1
    omega
  refine den_appendL (E := byteE) (T := 5) rfl u26 i5 z5 s5 rfl (by decide) by5 byte_one sx (.slice a2 D2.length c2) D1 D2 rfl rfl (fun n c e => h2.2 n c e) (by omega) (fun g hg hc => .inl (by have := frx g hg hc; show w.heap.size ≤ g; omega)) (by simp [keys]) (fun wa ha => ⟨hM1.same (shown_same ha), (h2.1.same ha.base)⟩) ?_ (fun hd => by cases hd) (fun _ => rfl) (fun w7 sy w8 g7 hM2 k78 hfr2 hap2 => den_norm (by simp only [List.cons_append, List.nil_append]; rfl) ?_)
  · intro g hg hc hin
    have := frx g hg hc
    simp [BlkIn, nth, blkOf, vaddr] at hin
    omega
  have z67 : w6.heap.size ≤ w7.heap.size := g7.kept.size
  have z56 : w5.heap.size ≤ w6.heap.size := k56.size
  obtain ⟨x0, hx0⟩ : ∃ x, (D1 ++ D2)[0]? = some x := ⟨_, List.getElem?_eq_getElem (by omega)⟩
  have fr : ∃ g c, sy = slc0 g (D1 ++ D2).length c ∧ w5.heap.size ≤ g := by
    obtain ⟨g, c, e⟩ := hM2.addr hx0
    refine ⟨g, c, e, ?_⟩
    rcases hfr2 with ⟨e1, e2⟩ | ⟨y2, e1, hle, _⟩
    · have := hM2.cap
      rw [e2] at this
      exact frx g (by rw [← e1, e]; rfl) (by omega)
    · rw [e] at e1
      have e3 : g = y2 := Option.some.inj e1
      omega
  obtain ⟨gA, cA, rfl, hgA⟩ := fr
  have lgA : gA < w8.heap.size := hM2.lt rfl
  generalize hDD : D1 ++ D2 = D at *
  have hD64 : (D.length : Int) = d.g.s + 64 := by rw [hlen]; push_cast; omega
  have c0 := hw.c0
  have cc1 := hw.c1
  refine den_blk fun b22 k22 _ kW22 => den_norm (by simp only [List.cons_append, List.nil_append]; rfl) ?_
  have z22 : w8.heap.size ≤ b22 := k22
  obtain ⟨Bj, vB, R, eBj, hBj, hvB, hRB, hxB, hGB, hoB, hRs, hnR⟩ := h.at_ hb'
  obtain ⟨i, ei, hi, hq⟩ := hw.pgAt hP
  subst eBj
  subst ei
  have hRl : i < R.length := by rw [hRs.len]; exact hi
  have bok := hw.blk hb'
  have hR8 : R.length ≤ 8 := by have := hRs.len; have := bok.len; have := hw.p1; omega
  have hPV8 : PV.length ≤ 8 := by have := h.l1; have := hw.len; have := hw.b1; omega
  -- what is the same behind the operation
  have fin : ∀ (wz : World) (gR cR : Nat) (pvz : Value) (sl : Sl), Same w wz → Given ssE wz pvz (PV.set Bj ⟨some ⟨gR, 0, none⟩, R.length, cR⟩) → (∀ g, pvz.ownBlock = some g → w.heap.size ≤ g) → (∀ ad, vaddr pvz = some ad → pvz.ownBlock = some ad.block) → Given rpE wz (slc0 gR R.length cR) (R.set i ⟨(d.prgP D).st, sl⟩) → w.heap.size ≤ gR → Given byteE wz sl.v (d.prgP D).D → outS S sl.v → RefAt wz S (d.op Bj (put (d.blk Bj) i (d.prgP D))) (refV d.g (.slice fa Fl.length fc) pvz (.slice ea d.ers.length ec) (d.n + 1) d.cut d.cb (d.off || d.cutNow)) := fun wz gR cR pvz sl hs hp hpo hpa hr hgR hsl hso => by
    have Hz := h.same hs
    refine ⟨_, pvz, _, Fl, _, _, rfl, Hz.turn (B := Bj) (put (d.blk Bj) i (d.prgP D)) (R.set i ⟨(d.prgP D).st, sl⟩) ⟨some ⟨gR, 0, none⟩, R.length, cR⟩ hp (fun ad had hs' => by have := hpo _ (hpa ad had); have := hS _ hs'; omega) hr (fun ad had hs' => by have := hS _ hs'; have e : gR = ad.block := (by cases had; rfl); omega) ?_ (by simp [Dv.op]) rfl ?_ Hz.eo⟩
    · exact (hRs.kept (M := fun _ => False) hs fun _ h => h.elim).set (by rfl) hsl hso
    · rw [op_ers (put (d.blk Bj) i (d.prgP D)) hxB rfl]
      exact Hz.e
  refine den_splitEq (fun hcut => ?_) (fun hcut => ?_)
  · have hcut' : d.n = d.cut := hcut
    have eErr : d.err 54 = 50 := by unfold Dv.err; rw [if_pos hcut']
    have eOff : (d.off || d.cutNow) = true := by simp [Dv.cutNow, hcut']
    rw [eErr]
    obtain ⟨n, hcn⟩ : ∃ n : Nat, d.cb = n := ⟨d.cb.toNat, by omega⟩
    have hnD : n ≤ D.length := by omega
    refine den_loop (fun ls w' => ∃ j : Nat, n ≤ j ∧ j ≤ D.length ∧ ls = [.int .i64 (j : Int)] ∧ Mine byteE 5 w' (slc0 gA D.length cA) (D.take n ++ List.replicate (j - n) 255 ++ D.drop j)) (fun ls _ => D.length - (vint (nth ls 0)).toNat) (fun wa ha => ⟨n, Nat.le_refl _, hnD, by simp only [denL, SV.den, IE.den, nth, vint]; rw [hcn], ?_⟩) ?_
    · rw [Nat.sub_self, List.replicate_zero, List.append_nil, List.take_append_drop]
      exact hM2.kept ha.kept fun g hg hin => by have e : gA = g := Option.some.inj hg; simp [BlkIn, nth, blkOf, vaddr] at hin; omega
    rintro w9 l w10 g9 hfl ⟨j, hnj, hjD, rfl, hMj⟩ hk10 hfa10
    have l22 : b22 < w10.heap.size := by
      obtain ⟨b', ty, e, hh⟩ := hfa10.1
      have e' : pt b22 = pt b' := e
      cases e'
      exact (Array.getElem?_eq_some_iff.1 hh).1
    have lgA10 : gA < w10.heap.size := hMj.lt rfl
    refine den_norm (by simp only [List.cons_append, List.nil_append]; rfl) (den_splitLt (fun hlt => ?_) (fun hge => ?_))
    · have hlt' : j < D.length := by have : (j : Int) < (D.length : Int) := hlt; omega
      have hll : (D.take n ++ List.replicate (j - n) 255 ++ D.drop j).length = D.length := by simp; omega
      obtain ⟨x, hx⟩ : ∃ x, (D.take n ++ List.replicate (j - n) 255 ++ D.drop j)[j]? = some x := ⟨_, List.getElem?_eq_getElem (by rw [hll]; exact hlt')⟩
      refine den_obs (E := byteE) (L := D.take n ++ List.replicate (j - n) 255 ++ D.drop j) (w0 := w10) j hMj.arr (by decide) rfl (by rw [hll]; exact hlt') ?_
      refine den_storeM (E := byteE) (T := 5) (slc0 gA D.length cA) (D.take n ++ List.replicate (j - n) 255 ++ D.drop j) j x 255 (.int .u8 255) [.int .u8 255] (by kernel_rfl) rfl rfl rfl hx rfl rfl rfl (by intro u hu; simp at hu; subst hu; rfl) (by simp [byteE]) (by decide) rfl (fun wa ha => hMj.same (shown_same ha)) (fun wa ha g hg => ?_) ⟨w10, hMj⟩ (fun w11 w12 g11 hM12 k1112 => ?_)
      · have e : gA = g := Option.some.inj hg
        subst e
        exact ⟨fun hd => (by cases hd), fun hlt2 => by have : gA < w.heap.size := hlt2; omega, fun hin => by simp [BlkIn, nth, blkOf, vaddr] at hin; omega, fun hx => (by cases hx)⟩
      refine den_ob64 ⟨by simp only [IE.den, nth, vint]; omega, by simp only [IE.den, nth, vint]; omega⟩ (den_leaf_eq fun wa ha => ⟨⟨j + 1, by omega, by omega, ?_, ?_⟩, ?_⟩)
      · show [Value.int .i64 ((j : Int) + 1)] = _
        rw [show ((j : Int) + 1) = ((j + 1 : Nat) : Int) by simp]
      · rw [tear_step2 D n j hnj hlt'] at hM12
        exact hM12.same (shown_same ha)
      · show D.length - ((j : Int) + 1).toNat < D.length - (j : Int).toNat
        omega
    have ej : j = D.length := by have : (D.length : Int) ≤ (j : Int) := hge; omega
    subst ej
    have etear : D.take n ++ List.replicate (D.length - n) 255 ++ D.drop D.length = tear D d.cb := by
      rw [List.drop_length, List.append_nil, hcn]
      simp [tear]
    rw [etear] at hMj
    have z10 : w8.heap.size ≤ b22 := z22
    have zA10 : True := trivial
    have z8w10 : w.heap.size ≤ w10.heap.size := hk10.size
    refine den_splitLt (fun hlt => ?_) (fun hge => ?_)
    · have hlt' : d.cb < (D.length : Int) := hlt
      have ePg : d.prgP D = ⟨3, tear D d.cb⟩ := by unfold Dv.prgP; rw [if_pos hcut', if_neg (by omega)]
      refine den_blk fun b24 k24 _ kW24 => den_norm (by simp only [List.cons_append, List.nil_append]; rfl) ?_
      have z24 : w10.heap.size ≤ b24 := k24
      have zW24 : w.heap.size ≤ b24 := kW24
      refine den_idx2 (E := ssE) (L := PV) vB Bj [vB.v] h.p.1 rfl (by decide) rfl hvB ⟨⟨_, _, _, rfl⟩, trivial⟩ (cellk _ 0 _ rfl) (fun wa ha => (h.same ha.base).p.1) (fun ad had hin => by simp [BlkIn, nth, blkOf, vaddr] at hin) fun w30 h30 => den_norm (by simp only [List.cons_append, List.nil_append]; rfl) ?_
      have mA30 := hMj.kept h30.kept fun g hg hin => by have e : gA = g := Option.some.inj hg; first | (simp [BlkIn, nth, blkOf, vaddr] at hin; done) | (simp [BlkIn, nth, blkOf, vaddr] at hin; omega)
      have z30 : w10.heap.size ≤ w30.heap.size := h30.kept.size
      have zw30 : w.heap.size ≤ w30.heap.size := h30.base.size
      have l24 : b24 < w30.heap.size := h30.lt (i := 24) (by simp [keys]) rfl
      refine den_appendL (E := rpE) (T := 106) rfl u102 i106 z106 s106 rfl (by decide) by106 rp_one (.slice (some ⟨b24, 0, none⟩) 0 0) vB.v [] R rfl rfl (fun n c e => hGB.2.1 n c e) (by simp; omega) (fun g hg hc => absurd hc (by simp [vcap])) (by simp [keys]) (fun wa ha => ⟨?_, (hGB.same ha.base).1⟩) (fun g hg hc => absurd hc (by simp [vcap])) (fun _ g hg hc => absurd hc (by simp [vcap])) (fun _ => rfl) (fun w31 sr w32 g31 hMr k3132 hfrr hapr => den_norm (by simp only [List.cons_append, List.nil_append]; rfl) ?_)
      · obtain ⟨b', ty, e, hh⟩ := ha.facts.1
        have e' : pt b24 = pt b' := e
        cases e'
        exact .inr ⟨rfl, b24, _, ty, rfl, hh⟩
      rw [List.nil_append] at hMr
      have z31 : w30.heap.size ≤ w31.heap.size := g31.kept.size
      obtain ⟨gR, cR, eR, hgR⟩ : ∃ g c, sr = slc0 g R.length c ∧ w31.heap.size ≤ g := by
        obtain ⟨g, c, e⟩ := hMr.addr (List.getElem?_eq_getElem hRl)
        rcases hfrr with ⟨e1, e2⟩ | ⟨y2, e1, hle, _⟩
        · have := hMr.cap
          rw [e2] at this
          simp only [vcap] at this
          omega
        · rw [e] at e1
          have e3 : g = y2 := Option.some.inj e1
          exact ⟨g, c, e, by omega⟩
      subst eR
      have z32 : w31.heap.size ≤ w32.heap.size := k3132.size
      have mA32 := (mA30.same (shown_same g31)).kept k3132 fun g hg hh => by have e : gA = g := Option.some.inj hg; have e2 : b24 = g := Option.some.inj hh.1; have := hMj.lt (g := gA) rfl; omega
      refine den_obs (E := rpE) (L := R) (w0 := w32) i hMr.arr (by decide) rfl hRl ?_
      refine den_storeM (E := rpE) (T := 106) (slc0 gR R.length cR) R i R[i] ⟨3, ⟨some ⟨gA, 0, none⟩, D.length, cA⟩⟩ (.agg #[.int .i64 3, slc0 gA D.length cA]) [.int .i64 3, slc0 gA D.length cA] (by kernel_rfl) rfl rfl rfl (List.getElem?_eq_getElem hRl) rfl rfl rfl (by intro u hu; simp only [List.mem_cons, List.not_mem_nil, or_false] at hu; rcases hu with rfl | rfl <;> rfl) (by simp [rpE]) (by decide) rfl (fun wc hc => hMr.same (shown_same hc)) (fun wc hc g hg => ?_) ⟨w32, hMr⟩ (fun w33 w34 g33 hMr2 k3334 => ?_)
      · have e : gR = g := Option.some.inj hg
        subst e
        exact ⟨fun hd => (by cases hd), fun hlt2 => by have : gR < w.heap.size := hlt2; omega, fun hin => by simp [BlkIn, nth, blkOf, vaddr] at hin; omega, fun hx => (by cases hx)⟩
      have mA34 := (mA32.same (shown_same g33)).kept k3334 fun g hg hh => by have e : gA = g := Option.some.inj hg; have e2 : gR = g := Option.some.inj hh; have := mA30.lt (g := gA) rfl; omega
      refine den_callR (fun wa l wb => ∃ pvz, l = [.int .i64 d.g.b, .int .i64 d.g.p, .int .i64 d.g.s, .int .i64 d.g.e, .slice fa Fl.length fc, pvz, .slice ea d.ers.length ec, .int .i64 d.n, .int .i64 d.cut, .int .i64 d.cb, .bool true] ∧ Mine ssE 102 wb pvz (PV.set Bj ⟨some ⟨gR, 0, none⟩, R.length, cR⟩) ∧ ∀ g, pvz.ownBlock = some g → wa.heap.size ≤ g) (fun w35 h35 => ?_) (fun w35 l w36 h35 hfl hR k3536 => ?_)
      · refine (c62 Bj ⟨some ⟨gR, 0, none⟩, R.length, cR⟩ true w35 (h.same h35.base) hBj (by omega)).mono fun v w' ⟨pvz, q1, q2, q3⟩ => ?_
        obtain ⟨va, vc, hv⟩ := q2.slice
        exact ⟨[.int .i64 d.g.b, .int .i64 d.g.p, .int .i64 d.g.s, .int .i64 d.g.e, .slice fa Fl.length fc, pvz, .slice ea d.ers.length ec, .int .i64 d.n, .int .i64 d.cut, .int .i64 d.cb, .bool true], ⟨⟨_, rfl⟩, ⟨_, rfl⟩, ⟨_, rfl⟩, ⟨_, rfl⟩, ⟨_, _, _, rfl⟩, ⟨_, _, _, hv⟩, ⟨_, _, _, rfl⟩, ⟨_, rfl⟩, ⟨_, rfl⟩, ⟨_, rfl⟩, ⟨_, rfl⟩, trivial⟩, q1, pvz, rfl, q2, q3⟩
      obtain ⟨pvz, rfl, hPz, hPo⟩ := hR
      have zw35 : w.heap.size ≤ w35.heap.size := h35.base.size
      have hn0 := hw.n0
      refine den_norm (by simp only [List.cons_append, List.nil_append]; rfl) (den_ob64 ⟨by simp only [IE.den, nth, vint]; omega, by simp only [IE.den, nth, vint]; omega⟩ (den_leaf' fun wz hz => (if_neg (by decide)).mpr ⟨_, rfl, ⟨_, rfl, ?_⟩, hz.base⟩))
      have PP : d.prgP D = ⟨3, tear D d.cb⟩ := ePg
      have hoff2 : (d.off || d.cutNow) = true := eOff
      have HMr : Mine rpE 106 wz (slc0 gR R.length cR) (R.set i ⟨3, ⟨some ⟨gA, 0, none⟩, D.length, cA⟩⟩) := ((hMr2.same (shown_same h35)).same k3536).kept hz.kept fun g hg hin => by have e : gR = g := Option.some.inj hg; simp [BlkIn, nth, blkOf, vaddr] at hin; omega
      have q35 : w32.heap.size ≤ w35.heap.size := by
        have := (shown_same h35).size
        have := k3334.size
        have := g33.kept.size
        omega
      have HPz := hPz.kept hz.kept fun g hg hin => by have := hPo g hg; simp [BlkIn, nth, blkOf, vaddr] at hin; omega
      have HA := ((mA34.same (shown_same h35)).same k3536).kept hz.kept fun g hg hin => by have e : gA = g := Option.some.inj hg; simp [BlkIn, nth, blkOf, vaddr] at hin; omega
      have F := fin wz gR cR pvz ⟨some ⟨gA, 0, none⟩, D.length, cA⟩ hz.base HPz.given (fun g hg => by have := hPo g hg; omega) (fun ad had => hPz.own had) (by rw [PP]; exact HMr.given) (by omega) (by rw [PP]; exact HA.given) (fun ad had hs' => by have := hS _ hs'; have e : gA = ad.block := (by cases had; rfl); omega)
      rw [hoff2] at F
      exact F
    · have hge' : (D.length : Int) ≤ d.cb := hge
      have ePg : d.prgP D = ⟨2, tear D d.cb⟩ := by unfold Dv.prgP; rw [if_pos hcut', if_pos (by omega)]
      refine den_blk fun b24 k24 _ kW24 => den_norm (by simp only [List.cons_append, List.nil_append]; rfl) ?_
      have z24 : w10.heap.size ≤ b24 := k24
      have zW24 : w.heap.size ≤ b24 := kW24
      refine den_idx2 (E := ssE) (L := PV) vB Bj [vB.v] h.p.1 rfl (by decide) rfl hvB ⟨⟨_, _, _, rfl⟩, trivial⟩ (cellk _ 0 _ rfl) (fun wa ha => (h.same ha.base).p.1) (fun ad had hin => by simp [BlkIn, nth, blkOf, vaddr] at hin) fun w30 h30 => den_norm (by simp only [List.cons_append, List.nil_append]; rfl) ?_
      have mA30 := hMj.kept h30.kept fun g hg hin => by have e : gA = g := Option.some.inj hg; first | (simp [BlkIn, nth, blkOf, vaddr] at hin; done) | (simp [BlkIn, nth, blkOf, vaddr] at hin; omega)
      have z30 : w10.heap.size ≤ w30.heap.size := h30.kept.size
      have zw30 : w.heap.size ≤ w30.heap.size := h30.base.size
      have l24 : b24 < w30.heap.size := h30.lt (i := 24) (by simp [keys]) rfl
      refine den_appendL (E := rpE) (T := 106) rfl u102 i106 z106 s106 rfl (by decide) by106 rp_one (.slice (some ⟨b24, 0, none⟩) 0 0) vB.v [] R rfl rfl (fun n c e => hGB.2.1 n c e) (by simp; omega) (fun g hg hc => absurd hc (by simp [vcap])) (by simp [keys]) (fun wa ha => ⟨?_, (hGB.same ha.base).1⟩) (fun g hg hc => absurd hc (by simp [vcap])) (fun _ g hg hc => absurd hc (by simp [vcap])) (fun _ => rfl) (fun w31 sr w32 g31 hMr k3132 hfrr hapr => den_norm (by simp only [List.cons_append, List.nil_append]; rfl) ?_)
      · obtain ⟨b', ty, e, hh⟩ := ha.facts.1
        have e' : pt b24 = pt b' := e
        cases e'
        exact .inr ⟨rfl, b24, _, ty, rfl, hh⟩
      rw [List.nil_append] at hMr
      have z31 : w30.heap.size ≤ w31.heap.size := g31.kept.size
      obtain ⟨gR, cR, eR, hgR⟩ : ∃ g c, sr = slc0 g R.length c ∧ w31.heap.size ≤ g := by
        obtain ⟨g, c, e⟩ := hMr.addr (List.getElem?_eq_getElem hRl)
        rcases hfrr with ⟨e1, e2⟩ | ⟨y2, e1, hle, _⟩
        · have := hMr.cap
          rw [e2] at this
          simp only [vcap] at this
          omega
        · rw [e] at e1
          have e3 : g = y2 := Option.some.inj e1
          exact ⟨g, c, e, by omega⟩
      subst eR
      have z32 : w31.heap.size ≤ w32.heap.size := k3132.size
      have mA32 := (mA30.same (shown_same g31)).kept k3132 fun g hg hh => by have e : gA = g := Option.some.inj hg; have e2 : b24 = g := Option.some.inj hh.1; have := hMj.lt (g := gA) rfl; omega
      refine den_obs (E := rpE) (L := R) (w0 := w32) i hMr.arr (by decide) rfl hRl ?_
      refine den_storeM (E := rpE) (T := 106) (slc0 gR R.length cR) R i R[i] ⟨2, ⟨some ⟨gA, 0, none⟩, D.length, cA⟩⟩ (.agg #[.int .i64 2, slc0 gA D.length cA]) [.int .i64 2, slc0 gA D.length cA] (by kernel_rfl) rfl rfl rfl (List.getElem?_eq_getElem hRl) rfl rfl rfl (by intro u hu; simp only [List.mem_cons, List.not_mem_nil, or_false] at hu; rcases hu with rfl | rfl <;> rfl) (by simp [rpE]) (by decide) rfl (fun wc hc => hMr.same (shown_same hc)) (fun wc hc g hg => ?_) ⟨w32, hMr⟩ (fun w33 w34 g33 hMr2 k3334 => ?_)
      · have e : gR = g := Option.some.inj hg
        subst e
        exact ⟨fun hd => (by cases hd), fun hlt2 => by have : gR < w.heap.size := hlt2; omega, fun hin => by simp [BlkIn, nth, blkOf, vaddr] at hin; omega, fun hx => (by cases hx)⟩
      have mA34 := (mA32.same (shown_same g33)).kept k3334 fun g hg hh => by have e : gA = g := Option.some.inj hg; have e2 : gR = g := Option.some.inj hh; have := mA30.lt (g := gA) rfl; omega
      refine den_callR (fun wa l wb => ∃ pvz, l = [.int .i64 d.g.b, .int .i64 d.g.p, .int .i64 d.g.s, .int .i64 d.g.e, .slice fa Fl.length fc, pvz, .slice ea d.ers.length ec, .int .i64 d.n, .int .i64 d.cut, .int .i64 d.cb, .bool true] ∧ Mine ssE 102 wb pvz (PV.set Bj ⟨some ⟨gR, 0, none⟩, R.length, cR⟩) ∧ ∀ g, pvz.ownBlock = some g → wa.heap.size ≤ g) (fun w35 h35 => ?_) (fun w35 l w36 h35 hfl hR k3536 => ?_)
      · refine (c62 Bj ⟨some ⟨gR, 0, none⟩, R.length, cR⟩ true w35 (h.same h35.base) hBj (by omega)).mono fun v w' ⟨pvz, q1, q2, q3⟩ => ?_
        obtain ⟨va, vc, hv⟩ := q2.slice
        exact ⟨[.int .i64 d.g.b, .int .i64 d.g.p, .int .i64 d.g.s, .int .i64 d.g.e, .slice fa Fl.length fc, pvz, .slice ea d.ers.length ec, .int .i64 d.n, .int .i64 d.cut, .int .i64 d.cb, .bool true], ⟨⟨_, rfl⟩, ⟨_, rfl⟩, ⟨_, rfl⟩, ⟨_, rfl⟩, ⟨_, _, _, rfl⟩, ⟨_, _, _, hv⟩, ⟨_, _, _, rfl⟩, ⟨_, rfl⟩, ⟨_, rfl⟩, ⟨_, rfl⟩, ⟨_, rfl⟩, trivial⟩, q1, pvz, rfl, q2, q3⟩
      obtain ⟨pvz, rfl, hPz, hPo⟩ := hR
      have zw35 : w.heap.size ≤ w35.heap.size := h35.base.size
      have hn0 := hw.n0
      refine den_norm (by simp only [List.cons_append, List.nil_append]; rfl) (den_ob64 ⟨by simp only [IE.den, nth, vint]; omega, by simp only [IE.den, nth, vint]; omega⟩ (den_leaf' fun wz hz => (if_neg (by decide)).mpr ⟨_, rfl, ⟨_, rfl, ?_⟩, hz.base⟩))
      have PP : d.prgP D = ⟨2, tear D d.cb⟩ := ePg
      have hoff2 : (d.off || d.cutNow) = true := eOff
      have HMr : Mine rpE 106 wz (slc0 gR R.length cR) (R.set i ⟨2, ⟨some ⟨gA, 0, none⟩, D.length, cA⟩⟩) := ((hMr2.same (shown_same h35)).same k3536).kept hz.kept fun g hg hin => by have e : gR = g := Option.some.inj hg; simp [BlkIn, nth, blkOf, vaddr] at hin; omega
      have q35 : w32.heap.size ≤ w35.heap.size := by
        have := (shown_same h35).size
        have := k3334.size
        have := g33.kept.size
        omega
      have HPz := hPz.kept hz.kept fun g hg hin => by have := hPo g hg; simp [BlkIn, nth, blkOf, vaddr] at hin; omega
      have HA := ((mA34.same (shown_same h35)).same k3536).kept hz.kept fun g hg hin => by have e : gA = g := Option.some.inj hg; simp [BlkIn, nth, blkOf, vaddr] at hin; omega
      have F := fin wz gR cR pvz ⟨some ⟨gA, 0, none⟩, D.length, cA⟩ hz.base HPz.given (fun g hg => by have := hPo g hg; omega) (fun ad had => hPz.own had) (by rw [PP]; exact HMr.given) (by omega) (by rw [PP]; exact HA.given) (fun ad had hs' => by have := hS _ hs'; have e : gA = ad.block := (by cases had; rfl); omega)
      rw [hoff2] at F
      exact F
  have hcut' : ¬ d.n = d.cut := hcut
  have eOff : (d.off || d.cutNow) = d.off := by simp [Dv.cutNow, hcut']
  refine den_call_bool (b := d.F d.n) (fun wa ha => c61 wa (h.same ha.base)) rfl (fun w9 w10 g9 k910 => den_norm (by simp only [List.cons_append, List.nil_append]; rfl) (den_split (fun hf => ?_) (fun hf => ?_)))
  · have hf' : d.F d.n = true := hf
    have eErr : d.err 54 = 54 := by unfold Dv.err; rw [if_neg hcut', if_pos hf']
    have ePg : d.prgP D = ⟨4, []⟩ := by unfold Dv.prgP; rw [if_neg hcut', if_pos hf']
    rw [eErr]
    have l22 : b22 < w10.heap.size := Nat.lt_of_lt_of_le (g9.lt (i := 22) (by simp [keys]) rfl) k910.size
    have z8w10 : w.heap.size ≤ w10.heap.size := Nat.le_trans g9.base.size k910.size
    refine den_blk fun b24 k24 _ kW24 => den_norm (by simp only [List.cons_append, List.nil_append]; rfl) ?_
    have z24 : w10.heap.size ≤ b24 := k24
    have zW24 : w.heap.size ≤ b24 := kW24
    refine den_idx2 (E := ssE) (L := PV) vB Bj [vB.v] h.p.1 rfl (by decide) rfl hvB ⟨⟨_, _, _, rfl⟩, trivial⟩ (cellk _ 0 _ rfl) (fun wa ha => (h.same ha.base).p.1) (fun ad had hin => by simp [BlkIn, nth, blkOf, vaddr] at hin) fun w30 h30 => den_norm (by simp only [List.cons_append, List.nil_append]; rfl) ?_
    have z30 : w10.heap.size ≤ w30.heap.size := h30.kept.size
    have zw30 : w.heap.size ≤ w30.heap.size := h30.base.size
    have l24 : b24 < w30.heap.size := h30.lt (i := 24) (by simp [keys]) rfl
    refine den_appendL (E := rpE) (T := 106) rfl u102 i106 z106 s106 rfl (by decide) by106 rp_one (.slice (some ⟨b24, 0, none⟩) 0 0) vB.v [] R rfl rfl (fun n c e => hGB.2.1 n c e) (by simp; omega) (fun g hg hc => absurd hc (by simp [vcap])) (by simp [keys]) (fun wa ha => ⟨?_, (hGB.same ha.base).1⟩) (fun g hg hc => absurd hc (by simp [vcap])) (fun _ g hg hc => absurd hc (by simp [vcap])) (fun _ => rfl) (fun w31 sr w32 g31 hMr k3132 hfrr hapr => den_norm (by simp only [List.cons_append, List.nil_append]; rfl) ?_)
    · obtain ⟨b', ty, e, hh⟩ := ha.facts.1
      have e' : pt b24 = pt b' := e
      cases e'
      exact .inr ⟨rfl, b24, _, ty, rfl, hh⟩
    rw [List.nil_append] at hMr
    have z31 : w30.heap.size ≤ w31.heap.size := g31.kept.size
    obtain ⟨gR, cR, eR, hgR⟩ : ∃ g c, sr = slc0 g R.length c ∧ w31.heap.size ≤ g := by
      obtain ⟨g, c, e⟩ := hMr.addr (List.getElem?_eq_getElem hRl)
      rcases hfrr with ⟨e1, e2⟩ | ⟨y2, e1, hle, _⟩
      · have := hMr.cap
        rw [e2] at this
        simp only [vcap] at this
        omega
      · rw [e] at e1
        have e3 : g = y2 := Option.some.inj e1
        exact ⟨g, c, e, by omega⟩
    subst eR
    have z32 : w31.heap.size ≤ w32.heap.size := k3132.size
    refine den_obs (E := rpE) (L := R) (w0 := w32) i hMr.arr (by decide) rfl hRl ?_
    refine den_storeM (E := rpE) (T := 106) (slc0 gR R.length cR) R i R[i] ⟨4, ⟨none, 0, 0⟩⟩ (.agg #[.int .i64 4, nilS]) [.int .i64 4, nilS] (by kernel_rfl) rfl rfl rfl (List.getElem?_eq_getElem hRl) rfl rfl rfl (by intro u hu; simp only [List.mem_cons, List.not_mem_nil, or_false] at hu; rcases hu with rfl | rfl <;> rfl) (by simp [rpE]) (by decide) rfl (fun wc hc => hMr.same (shown_same hc)) (fun wc hc g hg => ?_) ⟨w32, hMr⟩ (fun w33 w34 g33 hMr2 k3334 => ?_)
    · have e : gR = g := Option.some.inj hg
      subst e
      exact ⟨fun hd => (by cases hd), fun hlt2 => by have : gR < w.heap.size := hlt2; omega, fun hin => by simp [BlkIn, nth, blkOf, vaddr] at hin; omega, fun hx => (by cases hx)⟩
    refine den_callR (fun wa l wb => ∃ pvz, l = [.int .i64 d.g.b, .int .i64 d.g.p, .int .i64 d.g.s, .int .i64 d.g.e, .slice fa Fl.length fc, pvz, .slice ea d.ers.length ec, .int .i64 d.n, .int .i64 d.cut, .int .i64 d.cb, .bool d.off] ∧ Mine ssE 102 wb pvz (PV.set Bj ⟨some ⟨gR, 0, none⟩, R.length, cR⟩) ∧ ∀ g, pvz.ownBlock = some g → wa.heap.size ≤ g) (fun w35 h35 => ?_) (fun w35 l w36 h35 hfl hR k3536 => ?_)
    · refine (c62 Bj ⟨some ⟨gR, 0, none⟩, R.length, cR⟩ d.off w35 (h.same h35.base) hBj (by omega)).mono fun v w' ⟨pvz, q1, q2, q3⟩ => ?_
      obtain ⟨va, vc, hv⟩ := q2.slice
      exact ⟨[.int .i64 d.g.b, .int .i64 d.g.p, .int .i64 d.g.s, .int .i64 d.g.e, .slice fa Fl.length fc, pvz, .slice ea d.ers.length ec, .int .i64 d.n, .int .i64 d.cut, .int .i64 d.cb, .bool d.off], ⟨⟨_, rfl⟩, ⟨_, rfl⟩, ⟨_, rfl⟩, ⟨_, rfl⟩, ⟨_, _, _, rfl⟩, ⟨_, _, _, hv⟩, ⟨_, _, _, rfl⟩, ⟨_, rfl⟩, ⟨_, rfl⟩, ⟨_, rfl⟩, ⟨_, rfl⟩, trivial⟩, q1, pvz, rfl, q2, q3⟩
    obtain ⟨pvz, rfl, hPz, hPo⟩ := hR
    have zw35 : w.heap.size ≤ w35.heap.size := h35.base.size
    have hn0 := hw.n0
    refine den_norm (by simp only [List.cons_append, List.nil_append]; rfl) (den_ob64 ⟨by simp only [IE.den, nth, vint]; omega, by simp only [IE.den, nth, vint]; omega⟩ (den_leafR _ rfl fun wz hz => ⟨_, rfl, ?_⟩))
    have PP : d.prgP D = ⟨4, []⟩ := ePg
    have hoff2 : (d.off || d.cutNow) = d.off := eOff
    have HMr : Mine rpE 106 wz (slc0 gR R.length cR) (R.set i ⟨4, ⟨none, 0, 0⟩⟩) := ((hMr2.same (shown_same h35)).same k3536).kept hz.kept fun g hg hin => by have e : gR = g := Option.some.inj hg; simp [BlkIn, nth, blkOf, vaddr] at hin; omega
    have q35 : w32.heap.size ≤ w35.heap.size := by
      have := (shown_same h35).size
      have := k3334.size
      have := g33.kept.size
      omega
    have HPz := hPz.kept hz.kept fun g hg hin => by have := hPo g hg; simp [BlkIn, nth, blkOf, vaddr] at hin; omega
    have F := fin wz gR cR pvz ⟨none, 0, 0⟩ hz.base HPz.given (fun g hg => by have := hPo g hg; omega) (fun ad had => hPz.own had) (by rw [PP]; exact HMr.given) (by omega) (by rw [PP]; exact given_nil) outS.nil
    rw [hoff2] at F
    exact F
  · have hf' : ¬ d.F d.n = true := by have : d.F d.n = false := hf; rw [this]; decide
    have eErr : d.err 54 = 0 := by unfold Dv.err; rw [if_neg hcut', if_neg hf']
    have ePg : d.prgP D = ⟨2, D⟩ := by unfold Dv.prgP; rw [if_neg hcut', if_neg hf']
    rw [eErr]
    have l22 : b22 < w10.heap.size := Nat.lt_of_lt_of_le (g9.lt (i := 22) (by simp [keys]) rfl) k910.size
    have z8w10 : w.heap.size ≤ w10.heap.size := Nat.le_trans g9.base.size k910.size
    have hMj := (hM2.kept g9.kept fun g hg hin => by have e : gA = g := Option.some.inj hg; simp [BlkIn, nth, blkOf, vaddr] at hin; omega).same k910
    refine den_blk fun b24 k24 _ kW24 => den_norm (by simp only [List.cons_append, List.nil_append]; rfl) ?_
    have z24 : w10.heap.size ≤ b24 := k24
    have zW24 : w.heap.size ≤ b24 := kW24
    refine den_idx2 (E := ssE) (L := PV) vB Bj [vB.v] h.p.1 rfl (by decide) rfl hvB ⟨⟨_, _, _, rfl⟩, trivial⟩ (cellk _ 0 _ rfl) (fun wa ha => (h.same ha.base).p.1) (fun ad had hin => by simp [BlkIn, nth, blkOf, vaddr] at hin) fun w30 h30 => den_norm (by simp only [List.cons_append, List.nil_append]; rfl) ?_
    have mA30 := hMj.kept h30.kept fun g hg hin => by have e : gA = g := Option.some.inj hg; first | (simp [BlkIn, nth, blkOf, vaddr] at hin; done) | (simp [BlkIn, nth, blkOf, vaddr] at hin; omega)
    have z30 : w10.heap.size ≤ w30.heap.size := h30.kept.size
    have zw30 : w.heap.size ≤ w30.heap.size := h30.base.size
    have l24 : b24 < w30.heap.size := h30.lt (i := 24) (by simp [keys]) rfl
    refine den_appendL (E := rpE) (T := 106) rfl u102 i106 z106 s106 rfl (by decide) by106 rp_one (.slice (some ⟨b24, 0, none⟩) 0 0) vB.v [] R rfl rfl (fun n c e => hGB.2.1 n c e) (by simp; omega) (fun g hg hc => absurd hc (by simp [vcap])) (by simp [keys]) (fun wa ha => ⟨?_, (hGB.same ha.base).1⟩) (fun g hg hc => absurd hc (by simp [vcap])) (fun _ g hg hc => absurd hc (by simp [vcap])) (fun _ => rfl) (fun w31 sr w32 g31 hMr k3132 hfrr hapr => den_norm (by simp only [List.cons_append, List.nil_append]; rfl) ?_)
    · obtain ⟨b', ty, e, hh⟩ := ha.facts.1
      have e' : pt b24 = pt b' := e
      cases e'
      exact .inr ⟨rfl, b24, _, ty, rfl, hh⟩
    rw [List.nil_append] at hMr
    have z31 : w30.heap.size ≤ w31.heap.size := g31.kept.size
    obtain ⟨gR, cR, eR, hgR⟩ : ∃ g c, sr = slc0 g R.length c ∧ w31.heap.size ≤ g := by
      obtain ⟨g, c, e⟩ := hMr.addr (List.getElem?_eq_getElem hRl)
      rcases hfrr with ⟨e1, e2⟩ | ⟨y2, e1, hle, _⟩
      · have := hMr.cap
        rw [e2] at this
        simp only [vcap] at this
        omega
      · rw [e] at e1
        have e3 : g = y2 := Option.some.inj e1
        exact ⟨g, c, e, by omega⟩
    subst eR
    have z32 : w31.heap.size ≤ w32.heap.size := k3132.size
    have mA32 := (mA30.same (shown_same g31)).kept k3132 fun g hg hh => by have e : gA = g := Option.some.inj hg; have e2 : b24 = g := Option.some.inj hh.1; have := hMj.lt (g := gA) rfl; omega
    refine den_obs (E := rpE) (L := R) (w0 := w32) i hMr.arr (by decide) rfl hRl ?_
    refine den_storeM (E := rpE) (T := 106) (slc0 gR R.length cR) R i R[i] ⟨2, ⟨some ⟨gA, 0, none⟩, D.length, cA⟩⟩ (.agg #[.int .i64 2, slc0 gA D.length cA]) [.int .i64 2, slc0 gA D.length cA] (by kernel_rfl) rfl rfl rfl (List.getElem?_eq_getElem hRl) rfl rfl rfl (by intro u hu; simp only [List.mem_cons, List.not_mem_nil, or_false] at hu; rcases hu with rfl | rfl <;> rfl) (by simp [rpE]) (by decide) rfl (fun wc hc => hMr.same (shown_same hc)) (fun wc hc g hg => ?_) ⟨w32, hMr⟩ (fun w33 w34 g33 hMr2 k3334 => ?_)
    · have e : gR = g := Option.some.inj hg
      subst e
      exact ⟨fun hd => (by cases hd), fun hlt2 => by have : gR < w.heap.size := hlt2; omega, fun hin => by simp [BlkIn, nth, blkOf, vaddr] at hin; omega, fun hx => (by cases hx)⟩
    have mA34 := (mA32.same (shown_same g33)).kept k3334 fun g hg hh => by have e : gA = g := Option.some.inj hg; have e2 : gR = g := Option.some.inj hh; have := mA30.lt (g := gA) rfl; omega
    refine den_callR (fun wa l wb => ∃ pvz, l = [.int .i64 d.g.b, .int .i64 d.g.p, .int .i64 d.g.s, .int .i64 d.g.e, .slice fa Fl.length fc, pvz, .slice ea d.ers.length ec, .int .i64 d.n, .int .i64 d.cut, .int .i64 d.cb, .bool d.off] ∧ Mine ssE 102 wb pvz (PV.set Bj ⟨some ⟨gR, 0, none⟩, R.length, cR⟩) ∧ ∀ g, pvz.ownBlock = some g → wa.heap.size ≤ g) (fun w35 h35 => ?_) (fun w35 l w36 h35 hfl hR k3536 => ?_)
    · refine (c62 Bj ⟨some ⟨gR, 0, none⟩, R.length, cR⟩ d.off w35 (h.same h35.base) hBj (by omega)).mono fun v w' ⟨pvz, q1, q2, q3⟩ => ?_
      obtain ⟨va, vc, hv⟩ := q2.slice
      exact ⟨[.int .i64 d.g.b, .int .i64 d.g.p, .int .i64 d.g.s, .int .i64 d.g.e, .slice fa Fl.length fc, pvz, .slice ea d.ers.length ec, .int .i64 d.n, .int .i64 d.cut, .int .i64 d.cb, .bool d.off], ⟨⟨_, rfl⟩, ⟨_, rfl⟩, ⟨_, rfl⟩, ⟨_, rfl⟩, ⟨_, _, _, rfl⟩, ⟨_, _, _, hv⟩, ⟨_, _, _, rfl⟩, ⟨_, rfl⟩, ⟨_, rfl⟩, ⟨_, rfl⟩, ⟨_, rfl⟩, trivial⟩, q1, pvz, rfl, q2, q3⟩
    obtain ⟨pvz, rfl, hPz, hPo⟩ := hR
    have zw35 : w.heap.size ≤ w35.heap.size := h35.base.size
    have hn0 := hw.n0
    refine den_norm (by simp only [List.cons_append, List.nil_append]; rfl) (den_ob64 ⟨by simp only [IE.den, nth, vint]; omega, by simp only [IE.den, nth, vint]; omega⟩ (den_leafR _ rfl fun wz hz => ⟨_, rfl, ?_⟩))
    have PP : d.prgP D = ⟨2, D⟩ := ePg
    have hoff2 : (d.off || d.cutNow) = d.off := eOff
    have HMr : Mine rpE 106 wz (slc0 gR R.length cR) (R.set i ⟨2, ⟨some ⟨gA, 0, none⟩, D.length, cA⟩⟩) := ((hMr2.same (shown_same h35)).same k3536).kept hz.kept fun g hg hin => by have e : gR = g := Option.some.inj hg; simp [BlkIn, nth, blkOf, vaddr] at hin; omega
    have q35 : w32.heap.size ≤ w35.heap.size := by
      have := (shown_same h35).size
      have := k3334.size
      have := g33.kept.size
      omega
    have HPz := hPz.kept hz.kept fun g hg hin => by have := hPo g hg; simp [BlkIn, nth, blkOf, vaddr] at hin; omega
    have HA := ((mA34.same (shown_same h35)).same k3536).kept hz.kept fun g hg hin => by have e : gA = g := Option.some.inj hg; simp [BlkIn, nth, blkOf, vaddr] at hin; omega
    have F := fin wz gR cR pvz ⟨some ⟨gA, 0, none⟩, D.length, cA⟩ hz.base HPz.given (fun g hg => by have := hPo g hg; omega) (fun ad had => hPz.own had) (by rw [PP]; exact HMr.given) (by omega) (by rw [PP]; exact HA.given) (fun ad had hs' => by have := hS _ hs'; have e : gA = ad.block := (by cases had; rfl); omega)
    rw [hoff2] at F
    exact F
end
end Go.Proofs.Ytppbapnibpeolaa
