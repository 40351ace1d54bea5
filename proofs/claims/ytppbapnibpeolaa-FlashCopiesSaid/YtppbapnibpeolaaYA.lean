/- The reference's Erase. No conditions beyond those that each theorem names. -/
import Derived.Test.YtppbapnibpeolaaY
set_option maxRecDepth 100000
set_option maxHeartbeats 4000000
set_option linter.unusedVariables false
set_option linter.unusedSimpArgs false
namespace Go.Proofs.Ytppbapnibpeolaa
open Go.Sx

theorem den_three {G : Ctx} {Λ : Nat → List Value → World → Prop} {ε : List Value} {wx ws : World} {X : Nat → Prop} {k : VC} (h : k.den G Λ ε wx ws X) : (VC.both k (VC.both k k)).den G Λ ε wx ws X := ⟨h, h, h⟩
section
variable {w w' : World} {S T S' T' M : Nat → Prop} {d d' : Dv} {fv pv ev pv' ev' : Value} {Fl : List Int} {PV : List Sl} {RP : List (List Rv)}
theorem op_ers2 {d : Dv} {B : Nat} (x' : Bl) : (d.op B x').ers = d.ers.set B x'.er := by
  unfold Dv.ers Dv.op
  simp [List.map_set]
theorem c41 (B : Int) (w : World) (h : RfAt w S d fv pv ev Fl PV RP) (hw : Wf d) (hn : d.n ≤ 1000000000) (hS : ∀ y, S y → y < w.heap.size) :
    GivesR Try.prog 41 [refV d.g fv pv ev d.n d.cut d.cb d.off, .int .i64 B] w (fun r w' => ∃ rv', r = .tuple #[rv', .int .i64 (d.ersE B)] ∧ RefAt w' S (d.ersD B) rv') := by
  have err : ∀ (e : Int) (w' : World), e ≠ 0 → d.ersC B = e → Same w w' → ∃ rv', Value.tuple #[refV d.g fv pv ev d.n d.cut d.cb d.off, .int .i64 e] = .tuple #[rv', .int .i64 (d.ersE B)] ∧ RefAt w' S (d.ersD B) rv' := fun e w' he hc hs => by
    have n0 : ¬ d.ersC B = 0 := by rw [hc]; exact he
    have e1 : d.ersE B = e := by unfold Dv.ersE; rw [if_neg n0, hc]
    have e2 : d.ersD B = d := by unfold Dv.ersD; rw [if_neg n0]
    rw [e1, e2]
    exact ⟨_, rfl, fv, pv, ev, Fl, PV, RP, rfl, h.same hs⟩
  obtain ⟨fa, fc, x1⟩ := h.f.1.slice
  obtain ⟨pa, pc, x2⟩ := h.p.1.slice
  obtain ⟨ea, ec, x3⟩ := h.e.1.slice
  subst x1 x2 x3
  refine givesR mix t41 rfl rfl (ε := [.int .i64 d.g.b, .int .i64 d.g.p, .int .i64 d.g.s, .int .i64 d.g.e, .slice fa Fl.length fc, .slice pa PV.length pc, .slice ea d.ers.length ec, .int .i64 d.n, .int .i64 d.cut, .int .i64 d.cb, .bool d.off, .int .i64 B]) ⟨⟨_, rfl⟩, ⟨_, rfl⟩, ⟨_, rfl⟩, ⟨_, rfl⟩, ⟨_, _, _, rfl⟩, ⟨_, _, _, rfl⟩, ⟨_, _, _, rfl⟩, ⟨_, rfl⟩, ⟨_, rfl⟩, ⟨_, rfl⟩, ⟨_, rfl⟩, ⟨_, rfl⟩, trivial⟩ (den_blk fun b12 k12 _ kW12 => den_norm (by simp only [List.cons_append, List.nil_append]; rfl) (den_blk fun b13 k13 _ kW13 => den_norm (by simp only [List.cons_append, List.nil_append]; rfl) ?_))
  have z12 : w.heap.size ≤ b12 := kW12
  have z13 : w.heap.size ≤ b13 := kW13
  refine den_call_bool (b := d.hasB B) (fun wa ha => c45 B wa (h.same ha.base)) rfl (fun w1 w2 g1 k12' => den_norm (by simp only [List.cons_append, List.nil_append]; rfl) (den_splitNot (fun hb => ?_) (fun hb => ?_)))
  · have hb' : d.hasB B = false := hb
    exact den_leafR _ rfl fun wz hz => err 2 wz (by decide) (by unfold Dv.ersC; rw [if_pos hb']) hz.base
  have hb' : d.hasB B = true := hb
  have q1 : ¬ d.hasB B = false := by rw [hb']; decide
  refine den_split (fun hb => ?_) (fun hb => ?_)
  · have hb' : d.off = true := hb
    exact den_leafR _ rfl fun wz hz => err 50 wz (by decide) (by unfold Dv.ersC; rw [if_neg q1, if_pos hb']) hz.base
  have hoff : d.off = false := hb
  have q4 : ¬ d.off = true := by rw [hoff]; decide
  obtain ⟨Bj, vB, R, eBj, hBj, hvB, hRB, hxB, hGB, hoB, hRs, hnR⟩ := h.at_ hb'
  subst eBj
  have bok := hw.blk hb'
  have hers : d.ers[Bj]? = some (d.blk Bj).er := by unfold Dv.ers; rw [List.getElem?_map, hxB]; rfl
  have hersl : d.ers.length = d.bs.length := by simp [Dv.ers]
  have hBe : Bj < d.ers.length := (List.getElem?_eq_some_iff.1 hers).1
  have er0 := bok.er0
  have e1' := hw.e1
  refine den_start1 fun w3 g3 => ?_
  have z3 : w.heap.size ≤ w3.heap.size := g3.base.size
  refine den_idxD (E := intE) (L := d.ers) (d.blk Bj).er Bj [.int .i64 (d.blk Bj).er] rfl (by decide) rfl hers ⟨⟨_, rfl⟩, trivial⟩ (whole _) (h.e.same g3.base).1 (fun ad had hin => ?_) (den_norm (by simp only [List.cons_append, List.nil_append]; rfl) (den_splitLe (fun hb => ?_) (fun hb => ?_)))
  · have := h.e.2.2.2 ad had
    simp [BlkIn, nth, blkOf, vaddr] at hin
    omega
  · have hb2 : d.g.e ≤ (d.blk Bj).er := hb
    exact den_leafR _ rfl fun wz hz => err 56 wz (by decide) (by unfold Dv.ersC; rw [if_neg q1, if_neg q4, if_pos hb2]) hz.base
  have q5 : ¬ d.g.e ≤ (d.blk Bj).er := by have : (d.blk Bj).er < d.g.e := hb; omega
  have eC : d.ersC Bj = 0 := by unfold Dv.ersC; rw [if_neg q1, if_neg q4, if_neg q5]
  have eE : d.ersE Bj = d.err 55 := by unfold Dv.ersE; rw [if_pos eC]
  have eD : d.ersD Bj = d.op Bj (fresh d.g.p d.ersS ((d.blk Bj).er + 1)) := by unfold Dv.ersD; rw [if_pos eC]
  rw [eE, eD]
  clear err
  obtain ⟨np, hnp⟩ : ∃ np : Nat, d.g.p = np := ⟨d.g.p.toNat, by have := hw.p0; omega⟩
  have p0 := hw.p0
  have p1 := hw.p1
  have hn0 := hw.n0
  have hPV8 : PV.length ≤ 8 := by have := h.l1; have := hw.len; have := hw.b1; omega
  have hersl8 : d.ers.length ≤ 8 := by have := h.l1; omega
  have fin : ∀ (wz : World) (gR cR : Nat) (pvz evz : Value), Same w wz → Given ssE wz pvz (PV.set Bj ⟨some ⟨gR, 0, none⟩, np, cR⟩) → (∀ ad, vaddr pvz = some ad → w.heap.size ≤ ad.block) → Given rpE wz (slc0 gR np cR) (List.replicate np ⟨d.ersS, ⟨none, 0, 0⟩⟩) → w.heap.size ≤ gR → Given intE wz evz (d.ers.set Bj ((d.blk Bj).er + 1)) → (∀ ad, vaddr evz = some ad → w.heap.size ≤ ad.block) → RefAt wz S (d.op Bj (fresh d.g.p d.ersS ((d.blk Bj).er + 1))) (refV d.g (.slice fa Fl.length fc) pvz evz (d.n + 1) d.cut d.cb (d.off || d.cutNow)) := fun wz gR cR pvz evz hs hp hpo hr hgR he heo => by
    have Hz := h.same hs
    refine ⟨_, pvz, evz, Fl, _, _, rfl, Hz.turn (B := Bj) (fresh d.g.p d.ersS ((d.blk Bj).er + 1)) (List.replicate np ⟨d.ersS, ⟨none, 0, 0⟩⟩) ⟨some ⟨gR, 0, none⟩, np, cR⟩ hp (fun ad had hs' => by have := hpo ad had; have := hS _ hs'; omega) hr (fun ad had hs' => by have := hS _ hs'; have e : gR = ad.block := (by cases had; rfl); omega) ?_ (by simp [Dv.op]) rfl ?_ (fun ad had hs' => by have := heo ad had; have := hS _ hs'; omega)⟩
    · refine ⟨by simp [fresh, hnp], fun i r p hr' hp' => ?_⟩
      have e1 := (List.mem_replicate.1 (List.mem_of_getElem? hr')).2
      have e2 : p = ⟨d.ersS, []⟩ := (List.mem_replicate.1 (List.mem_of_getElem? hp')).2
      subst e1 e2
      exact ⟨rfl, given_nil, outS.nil⟩
    · rw [op_ers2]
      exact he
  refine den_splitEq (fun hcut => ?_) (fun hcut => ?_)
  · have hcut' : d.n = d.cut := hcut
    have eErr : d.err 55 = 50 := by unfold Dv.err; rw [if_pos hcut']
    have eOff : (d.off || d.cutNow) = true := by simp [Dv.cutNow, hcut']
    have eS : d.ersS = 5 := by unfold Dv.ersS; rw [if_pos hcut']
    rw [eErr]
    intro w10 g10
    refine ⟨_, fun y hy => hy, den_three ?_⟩
    have z10 : w.heap.size ≤ w10.heap.size := g10.base.size
    refine den_callR (fun wa l wb => ∃ v, l = [v] ∧ Mine rpE 106 wb v (List.replicate np ⟨5, ⟨none, 0, 0⟩⟩) ∧ ∀ g, v.ownBlock = some g → wa.heap.size ≤ g) (fun w11 h11 => ?_) (fun w11 l w12 h11 hfl hR k1112 => ?_)
    · have key : ∀ l, l = [.int .i64 np, .int .i64 5] → GivesR Try.prog 59 l w11 _ := fun l e => by rw [e]; exact c59 np 5 w11 (by omega)
      refine (key _ (by simp [SV.den, denL, IE.den, BE.den, nth, vint, vbool, vaddr, addO, addr_add, hnp])).mono fun v w' ⟨q1, q2⟩ => ?_
      obtain ⟨va, vc, hv⟩ := q1.slice
      exact ⟨[v], ⟨⟨_, _, _, hv⟩, trivial⟩, rfl, v, rfl, q1, q2⟩
    obtain ⟨vR, rfl, hMr, hMo⟩ := hR
    have z11 : w.heap.size ≤ w11.heap.size := h11.base.size
    obtain ⟨gR, cR, eR⟩ := hMr.addr (j := 0) (x := ⟨5, ⟨none, 0, 0⟩⟩) (by rw [List.getElem?_replicate_of_lt (by omega)])
    rw [List.length_replicate] at eR
    subst eR
    have hgR : w11.heap.size ≤ gR := hMo gR rfl
    have s12 : Same w w12 := h11.base.mono (fun _ _ h => h) |>.trans k1112
    refine den_norm (by simp only [List.cons_append, List.nil_append]; rfl) (den_callR (fun wa l wb => ∃ pvz, l = [.int .i64 d.g.b, .int .i64 d.g.p, .int .i64 d.g.s, .int .i64 d.g.e, .slice fa Fl.length fc, pvz, .slice ea d.ers.length ec, .int .i64 d.n, .int .i64 d.cut, .int .i64 d.cb, .bool true] ∧ Mine ssE 102 wb pvz (PV.set Bj ⟨some ⟨gR, 0, none⟩, np, cR⟩) ∧ ∀ g, pvz.ownBlock = some g → wa.heap.size ≤ g) (fun w35 h35 => ?_) (fun w35 l w36 h35 hfl hR k3536 => ?_))
    · refine (c62 Bj ⟨some ⟨gR, 0, none⟩, np, cR⟩ true w35 (h.same h35.base) hBj (by omega)).mono fun v w' ⟨pvz, q1, q2, q3⟩ => ?_
      obtain ⟨va, vc, hv⟩ := q2.slice
      exact ⟨[.int .i64 d.g.b, .int .i64 d.g.p, .int .i64 d.g.s, .int .i64 d.g.e, .slice fa Fl.length fc, pvz, .slice ea d.ers.length ec, .int .i64 d.n, .int .i64 d.cut, .int .i64 d.cb, .bool true], ⟨⟨_, rfl⟩, ⟨_, rfl⟩, ⟨_, rfl⟩, ⟨_, rfl⟩, ⟨_, _, _, rfl⟩, ⟨_, _, _, hv⟩, ⟨_, _, _, rfl⟩, ⟨_, rfl⟩, ⟨_, rfl⟩, ⟨_, rfl⟩, ⟨_, rfl⟩, trivial⟩, q1, pvz, rfl, q2, q3⟩
    obtain ⟨pvz, rfl, hPz, hPo⟩ := hR
    have zw35 : w.heap.size ≤ w35.heap.size := h35.base.size
    have z1235 : w12.heap.size ≤ w35.heap.size := (shown_same h35).size
    have lR12 : gR < w12.heap.size := hMr.lt rfl
    have hMr36 := (hMr.same (shown_same h35)).same k3536
    refine den_norm (by simp only [List.cons_append, List.nil_append]; rfl) (den_blk fun bE kE _ kWE => den_norm (by simp only [List.cons_append, List.nil_append]; rfl) ?_)
    have zE : w36.heap.size ≤ bE := kE
    have z3536 : w35.heap.size ≤ w36.heap.size := k3536.size
    refine den_appendL (E := intE) (T := 3) rfl u24 i3 zt3 s3 rfl (by decide) by3 int_one (.slice (some ⟨bE, 0, none⟩) 0 0) (.slice ea d.ers.length ec) [] d.ers rfl rfl (fun n c e => h.e.2.1 n c e) (by simp; omega) (fun g hg hc => absurd hc (by simp [vcap])) (by simp [keys]) (fun wa ha => ⟨?_, (h.e.same ha.base).1⟩) (fun g hg hc => absurd hc (by simp [vcap])) (fun _ g hg hc => absurd hc (by simp [vcap])) (fun _ => rfl) (fun w37 sr w38 g37 hMe k3738 hfrr hapr => den_norm (by simp only [List.cons_append, List.nil_append]; rfl) ?_)
    · obtain ⟨b', ty, e, hh⟩ := ha.facts.1
      have e' : pt bE = pt b' := e
      cases e'
      exact .inr ⟨rfl, bE, _, ty, rfl, hh⟩
    rw [List.nil_append] at hMe
    have z3637 : w36.heap.size ≤ w37.heap.size := g37.kept.size
    have l12 : b12 < w37.heap.size := g37.lt (i := 12) (by simp [keys]) rfl
    have l13 : b13 < w37.heap.size := g37.lt (i := 13) (by simp [keys]) rfl
    have lE : bE < w37.heap.size := g37.lt (i := 28) (by simp [keys]) rfl
    have zw37 : w.heap.size ≤ w37.heap.size := g37.base.size
    have hlR10 : w10.heap.size ≤ w11.heap.size := h11.kept.size
    have l12a : b12 < w10.heap.size := g10.lt (i := 12) (by simp [keys]) rfl
    have l13a : b13 < w10.heap.size := g10.lt (i := 13) (by simp [keys]) rfl
    have hMr38 := (hMr36.kept g37.kept fun g hg hin => by have e : gR = g := Option.some.inj hg; simp [BlkIn, nth, blkOf, vaddr] at hin; omega).kept k3738 fun g hg hh => by have e : gR = g := Option.some.inj hg; have e2 : bE = g := Option.some.inj hh.1; omega
    have hPz38 := (hPz.kept g37.kept fun g hg hin => by have := hPo g hg; simp [BlkIn, nth, blkOf, vaddr] at hin; omega).kept k3738 fun g hg hh => by have := hPz.lt hg; have e2 : bE = g := Option.some.inj hh.1; omega
    obtain ⟨gE, cE, eE2, hgE⟩ : ∃ g c, sr = slc0 g d.ers.length c ∧ w37.heap.size ≤ g := by
      obtain ⟨g, c, e⟩ := hMe.addr hers
      rcases hfrr with ⟨e1, e2⟩ | ⟨y2, e1, hle, _⟩
      · have := hMe.cap
        rw [e2] at this
        simp only [vcap] at this
        omega
      · rw [e] at e1
        have e3 : g = y2 := Option.some.inj e1
        exact ⟨g, c, e, by omega⟩
    subst eE2
    refine den_idx2 (E := intE) (L := d.ers) (d.blk Bj).er Bj [.int .i64 (d.blk Bj).er] hMe.arr rfl (by decide) rfl hers ⟨⟨_, rfl⟩, trivial⟩ (whole _) (fun wa ha => (hMe.kept ha.kept fun g hg hin => by have e : gE = g := Option.some.inj hg; first | (simp [BlkIn, nth, blkOf, vaddr] at hin; done) | (simp [BlkIn, nth, blkOf, vaddr] at hin; omega)).arr) (fun ad had hin => by simp [BlkIn, nth, blkOf, vaddr] at hin) fun w39 h39 => den_norm (by simp only [List.cons_append, List.nil_append]; rfl) ?_
    have hMe39 := hMe.kept h39.kept fun g hg hin => by have e : gE = g := Option.some.inj hg; first | (simp [BlkIn, nth, blkOf, vaddr] at hin; done) | (simp [BlkIn, nth, blkOf, vaddr] at hin; omega)
    have hMr39 := hMr38.kept h39.kept fun g hg hin => by have e : gR = g := Option.some.inj hg; first | (simp [BlkIn, nth, blkOf, vaddr] at hin; done) | (simp [BlkIn, nth, blkOf, vaddr] at hin; omega)
    have hPz39 := hPz38.kept h39.kept fun g hg hin => by have := hPo g hg; first | (simp [BlkIn, nth, blkOf, vaddr] at hin; done) | (simp [BlkIn, nth, blkOf, vaddr] at hin; omega)
    refine den_ob64 ⟨by simp only [IE.den, nth, vint]; omega, by simp only [IE.den, nth, vint]; omega⟩ (den_ob (by simp [BE.den, IE.den, nth, vint]) (den_ob (by simp [BE.den, IE.den, nth, vint, vlen]; omega) ?_))
    refine den_storeM (E := intE) (T := 3) (slc0 gE d.ers.length cE) d.ers Bj (d.blk Bj).er ((d.blk Bj).er + 1) (.int .i64 ((d.blk Bj).er + 1)) [.int .i64 ((d.blk Bj).er + 1)] (by kernel_rfl) rfl rfl rfl hers rfl rfl rfl (by intro u hu; simp at hu; subst hu; rfl) (by simp [intE]) (by decide) rfl (fun wa ha => hMe39.same (shown_same ha)) (fun wa ha g hg => ?_) ⟨w39, hMe39⟩ (fun w40 w41 g40 hMe41 k4041 => ?_)
    · have e : gE = g := Option.some.inj hg
      subst e
      exact ⟨fun hd => (by cases hd), fun hlt2 => by have : gE < w.heap.size := hlt2; omega, fun hin => by simp [BlkIn, nth, blkOf, vaddr] at hin; omega, fun hx => (by cases hx)⟩
    have lR38 : gR < w37.heap.size := by omega
    have hMr41 := (hMr39.same (shown_same g40)).kept k4041 fun g hg hh => by have e : gR = g := Option.some.inj hg; have e2 : gE = g := Option.some.inj hh; omega
    have hPz41 := (hPz39.same (shown_same g40)).kept k4041 fun g hg hh => by have := hPz.lt hg; have e2 : gE = g := Option.some.inj hh; omega
    refine den_ob64 ⟨by simp only [IE.den, nth, vint]; omega, by simp only [IE.den, nth, vint]; omega⟩ (den_leafR _ rfl fun wz hz => ⟨_, rfl, ?_⟩)
    have HR := hMr41.kept hz.kept fun g hg hin => by have e : gR = g := Option.some.inj hg; simp [BlkIn, nth, blkOf, vaddr] at hin; omega
    have HP := hPz41.kept hz.kept fun g hg hin => by have := hPo g hg; simp [BlkIn, nth, blkOf, vaddr] at hin; omega
    have HE := hMe41.kept hz.kept fun g hg hin => by have e : gE = g := Option.some.inj hg; simp [BlkIn, nth, blkOf, vaddr] at hin; omega
    have F := fin wz gR cR pvz (slc0 gE d.ers.length cE) hz.base HP.given (fun ad had => by have := hPo _ (hPz.own had); omega) (by rw [eS]; exact HR.given) (by omega) HE.given (fun ad had => by have e : gE = ad.block := (by cases had; rfl); omega)
    rw [eOff] at F
    exact F
  have hcut' : ¬ d.n = d.cut := hcut
  have eOff : (d.off || d.cutNow) = d.off := by simp [Dv.cutNow, hcut']
  refine den_call_bool (b := d.F d.n) (fun wa ha => c61 wa (h.same ha.base)) rfl (fun w8 w9 g8 k89 => den_norm (by simp only [List.cons_append, List.nil_append]; rfl) (den_split (fun hf => ?_) (fun hf => ?_)))
  · have hf' : d.F d.n = true := hf
    have eErr : d.err 55 = 55 := by unfold Dv.err; rw [if_neg hcut', if_pos hf']
    have eS : d.ersS = 5 := by unfold Dv.ersS; rw [if_neg hcut', if_pos hf']
    rw [eErr]
    intro w10 g10
    refine ⟨_, fun y hy => hy, den_three ?_⟩
    have z10 : w.heap.size ≤ w10.heap.size := g10.base.size
    refine den_callR (fun wa l wb => ∃ v, l = [v] ∧ Mine rpE 106 wb v (List.replicate np ⟨5, ⟨none, 0, 0⟩⟩) ∧ ∀ g, v.ownBlock = some g → wa.heap.size ≤ g) (fun w11 h11 => ?_) (fun w11 l w12 h11 hfl hR k1112 => ?_)
    · have key : ∀ l, l = [.int .i64 np, .int .i64 5] → GivesR Try.prog 59 l w11 _ := fun l e => by rw [e]; exact c59 np 5 w11 (by omega)
      refine (key _ (by simp [SV.den, denL, IE.den, BE.den, nth, vint, vbool, vaddr, addO, addr_add, hnp])).mono fun v w' ⟨q1, q2⟩ => ?_
      obtain ⟨va, vc, hv⟩ := q1.slice
      exact ⟨[v], ⟨⟨_, _, _, hv⟩, trivial⟩, rfl, v, rfl, q1, q2⟩
    obtain ⟨vR, rfl, hMr, hMo⟩ := hR
    have z11 : w.heap.size ≤ w11.heap.size := h11.base.size
    obtain ⟨gR, cR, eR⟩ := hMr.addr (j := 0) (x := ⟨5, ⟨none, 0, 0⟩⟩) (by rw [List.getElem?_replicate_of_lt (by omega)])
    rw [List.length_replicate] at eR
    subst eR
    have hgR : w11.heap.size ≤ gR := hMo gR rfl
    have s12 : Same w w12 := h11.base.mono (fun _ _ h => h) |>.trans k1112
    refine den_norm (by simp only [List.cons_append, List.nil_append]; rfl) (den_callR (fun wa l wb => ∃ pvz, l = [.int .i64 d.g.b, .int .i64 d.g.p, .int .i64 d.g.s, .int .i64 d.g.e, .slice fa Fl.length fc, pvz, .slice ea d.ers.length ec, .int .i64 d.n, .int .i64 d.cut, .int .i64 d.cb, .bool d.off] ∧ Mine ssE 102 wb pvz (PV.set Bj ⟨some ⟨gR, 0, none⟩, np, cR⟩) ∧ ∀ g, pvz.ownBlock = some g → wa.heap.size ≤ g) (fun w35 h35 => ?_) (fun w35 l w36 h35 hfl hR k3536 => ?_))
    · refine (c62 Bj ⟨some ⟨gR, 0, none⟩, np, cR⟩ d.off w35 (h.same h35.base) hBj (by omega)).mono fun v w' ⟨pvz, q1, q2, q3⟩ => ?_
      obtain ⟨va, vc, hv⟩ := q2.slice
      exact ⟨[.int .i64 d.g.b, .int .i64 d.g.p, .int .i64 d.g.s, .int .i64 d.g.e, .slice fa Fl.length fc, pvz, .slice ea d.ers.length ec, .int .i64 d.n, .int .i64 d.cut, .int .i64 d.cb, .bool d.off], ⟨⟨_, rfl⟩, ⟨_, rfl⟩, ⟨_, rfl⟩, ⟨_, rfl⟩, ⟨_, _, _, rfl⟩, ⟨_, _, _, hv⟩, ⟨_, _, _, rfl⟩, ⟨_, rfl⟩, ⟨_, rfl⟩, ⟨_, rfl⟩, ⟨_, rfl⟩, trivial⟩, q1, pvz, rfl, q2, q3⟩
    obtain ⟨pvz, rfl, hPz, hPo⟩ := hR
    have zw35 : w.heap.size ≤ w35.heap.size := h35.base.size
    have z1235 : w12.heap.size ≤ w35.heap.size := (shown_same h35).size
    have lR12 : gR < w12.heap.size := hMr.lt rfl
    have hMr36 := (hMr.same (shown_same h35)).same k3536
    refine den_norm (by simp only [List.cons_append, List.nil_append]; rfl) (den_blk fun bE kE _ kWE => den_norm (by simp only [List.cons_append, List.nil_append]; rfl) ?_)
    have zE : w36.heap.size ≤ bE := kE
    have z3536 : w35.heap.size ≤ w36.heap.size := k3536.size
    refine den_appendL (E := intE) (T := 3) rfl u24 i3 zt3 s3 rfl (by decide) by3 int_one (.slice (some ⟨bE, 0, none⟩) 0 0) (.slice ea d.ers.length ec) [] d.ers rfl rfl (fun n c e => h.e.2.1 n c e) (by simp; omega) (fun g hg hc => absurd hc (by simp [vcap])) (by simp [keys]) (fun wa ha => ⟨?_, (h.e.same ha.base).1⟩) (fun g hg hc => absurd hc (by simp [vcap])) (fun _ g hg hc => absurd hc (by simp [vcap])) (fun _ => rfl) (fun w37 sr w38 g37 hMe k3738 hfrr hapr => den_norm (by simp only [List.cons_append, List.nil_append]; rfl) ?_)
    · obtain ⟨b', ty, e, hh⟩ := ha.facts.1
      have e' : pt bE = pt b' := e
      cases e'
      exact .inr ⟨rfl, bE, _, ty, rfl, hh⟩
    rw [List.nil_append] at hMe
    have z3637 : w36.heap.size ≤ w37.heap.size := g37.kept.size
    have l12 : b12 < w37.heap.size := g37.lt (i := 12) (by simp [keys]) rfl
    have l13 : b13 < w37.heap.size := g37.lt (i := 13) (by simp [keys]) rfl
    have lE : bE < w37.heap.size := g37.lt (i := 29) (by simp [keys]) rfl
    have zw37 : w.heap.size ≤ w37.heap.size := g37.base.size
    have hlR10 : w10.heap.size ≤ w11.heap.size := h11.kept.size
    have l12a : b12 < w10.heap.size := g10.lt (i := 12) (by simp [keys]) rfl
    have l13a : b13 < w10.heap.size := g10.lt (i := 13) (by simp [keys]) rfl
    have hMr38 := (hMr36.kept g37.kept fun g hg hin => by have e : gR = g := Option.some.inj hg; simp [BlkIn, nth, blkOf, vaddr] at hin; omega).kept k3738 fun g hg hh => by have e : gR = g := Option.some.inj hg; have e2 : bE = g := Option.some.inj hh.1; omega
    have hPz38 := (hPz.kept g37.kept fun g hg hin => by have := hPo g hg; simp [BlkIn, nth, blkOf, vaddr] at hin; omega).kept k3738 fun g hg hh => by have := hPz.lt hg; have e2 : bE = g := Option.some.inj hh.1; omega
    obtain ⟨gE, cE, eE2, hgE⟩ : ∃ g c, sr = slc0 g d.ers.length c ∧ w37.heap.size ≤ g := by
      obtain ⟨g, c, e⟩ := hMe.addr hers
      rcases hfrr with ⟨e1, e2⟩ | ⟨y2, e1, hle, _⟩
      · have := hMe.cap
        rw [e2] at this
        simp only [vcap] at this
        omega
      · rw [e] at e1
        have e3 : g = y2 := Option.some.inj e1
        exact ⟨g, c, e, by omega⟩
    subst eE2
    refine den_idx2 (E := intE) (L := d.ers) (d.blk Bj).er Bj [.int .i64 (d.blk Bj).er] hMe.arr rfl (by decide) rfl hers ⟨⟨_, rfl⟩, trivial⟩ (whole _) (fun wa ha => (hMe.kept ha.kept fun g hg hin => by have e : gE = g := Option.some.inj hg; first | (simp [BlkIn, nth, blkOf, vaddr] at hin; done) | (simp [BlkIn, nth, blkOf, vaddr] at hin; omega)).arr) (fun ad had hin => by simp [BlkIn, nth, blkOf, vaddr] at hin) fun w39 h39 => den_norm (by simp only [List.cons_append, List.nil_append]; rfl) ?_
    have hMe39 := hMe.kept h39.kept fun g hg hin => by have e : gE = g := Option.some.inj hg; first | (simp [BlkIn, nth, blkOf, vaddr] at hin; done) | (simp [BlkIn, nth, blkOf, vaddr] at hin; omega)
    have hMr39 := hMr38.kept h39.kept fun g hg hin => by have e : gR = g := Option.some.inj hg; first | (simp [BlkIn, nth, blkOf, vaddr] at hin; done) | (simp [BlkIn, nth, blkOf, vaddr] at hin; omega)
    have hPz39 := hPz38.kept h39.kept fun g hg hin => by have := hPo g hg; first | (simp [BlkIn, nth, blkOf, vaddr] at hin; done) | (simp [BlkIn, nth, blkOf, vaddr] at hin; omega)
    refine den_ob64 ⟨by simp only [IE.den, nth, vint]; omega, by simp only [IE.den, nth, vint]; omega⟩ (den_ob (by simp [BE.den, IE.den, nth, vint]) (den_ob (by simp [BE.den, IE.den, nth, vint, vlen]; omega) ?_))
    refine den_storeM (E := intE) (T := 3) (slc0 gE d.ers.length cE) d.ers Bj (d.blk Bj).er ((d.blk Bj).er + 1) (.int .i64 ((d.blk Bj).er + 1)) [.int .i64 ((d.blk Bj).er + 1)] (by kernel_rfl) rfl rfl rfl hers rfl rfl rfl (by intro u hu; simp at hu; subst hu; rfl) (by simp [intE]) (by decide) rfl (fun wa ha => hMe39.same (shown_same ha)) (fun wa ha g hg => ?_) ⟨w39, hMe39⟩ (fun w40 w41 g40 hMe41 k4041 => ?_)
    · have e : gE = g := Option.some.inj hg
      subst e
      exact ⟨fun hd => (by cases hd), fun hlt2 => by have : gE < w.heap.size := hlt2; omega, fun hin => by simp [BlkIn, nth, blkOf, vaddr] at hin; omega, fun hx => (by cases hx)⟩
    have lR38 : gR < w37.heap.size := by omega
    have hMr41 := (hMr39.same (shown_same g40)).kept k4041 fun g hg hh => by have e : gR = g := Option.some.inj hg; have e2 : gE = g := Option.some.inj hh; omega
    have hPz41 := (hPz39.same (shown_same g40)).kept k4041 fun g hg hh => by have := hPz.lt hg; have e2 : gE = g := Option.some.inj hh; omega
    refine den_ob64 ⟨by simp only [IE.den, nth, vint]; omega, by simp only [IE.den, nth, vint]; omega⟩ (den_leafR _ rfl fun wz hz => ⟨_, rfl, ?_⟩)
    have HR := hMr41.kept hz.kept fun g hg hin => by have e : gR = g := Option.some.inj hg; simp [BlkIn, nth, blkOf, vaddr] at hin; omega
    have HP := hPz41.kept hz.kept fun g hg hin => by have := hPo g hg; simp [BlkIn, nth, blkOf, vaddr] at hin; omega
    have HE := hMe41.kept hz.kept fun g hg hin => by have e : gE = g := Option.some.inj hg; simp [BlkIn, nth, blkOf, vaddr] at hin; omega
    have F := fin wz gR cR pvz (slc0 gE d.ers.length cE) hz.base HP.given (fun ad had => by have := hPo _ (hPz.own had); omega) (by rw [eS]; exact HR.given) (by omega) HE.given (fun ad had => by have e : gE = ad.block := (by cases had; rfl); omega)
    rw [eOff] at F
    exact F
  · have hf' : ¬ d.F d.n = true := by have : d.F d.n = false := hf; rw [this]; decide
    have eErr : d.err 55 = 0 := by unfold Dv.err; rw [if_neg hcut', if_neg hf']
    have eS : d.ersS = 1 := by unfold Dv.ersS; rw [if_neg hcut', if_neg hf']
    rw [eErr]
    intro w10 g10
    refine ⟨_, fun y hy => hy, den_three ?_⟩
    have z10 : w.heap.size ≤ w10.heap.size := g10.base.size
    refine den_callR (fun wa l wb => ∃ v, l = [v] ∧ Mine rpE 106 wb v (List.replicate np ⟨1, ⟨none, 0, 0⟩⟩) ∧ ∀ g, v.ownBlock = some g → wa.heap.size ≤ g) (fun w11 h11 => ?_) (fun w11 l w12 h11 hfl hR k1112 => ?_)
    · have key : ∀ l, l = [.int .i64 np, .int .i64 1] → GivesR Try.prog 59 l w11 _ := fun l e => by rw [e]; exact c59 np 1 w11 (by omega)
      refine (key _ (by simp [SV.den, denL, IE.den, BE.den, nth, vint, vbool, vaddr, addO, addr_add, hnp])).mono fun v w' ⟨q1, q2⟩ => ?_
      obtain ⟨va, vc, hv⟩ := q1.slice
      exact ⟨[v], ⟨⟨_, _, _, hv⟩, trivial⟩, rfl, v, rfl, q1, q2⟩
    obtain ⟨vR, rfl, hMr, hMo⟩ := hR
    have z11 : w.heap.size ≤ w11.heap.size := h11.base.size
    obtain ⟨gR, cR, eR⟩ := hMr.addr (j := 0) (x := ⟨1, ⟨none, 0, 0⟩⟩) (by rw [List.getElem?_replicate_of_lt (by omega)])
    rw [List.length_replicate] at eR
    subst eR
    have hgR : w11.heap.size ≤ gR := hMo gR rfl
    have s12 : Same w w12 := h11.base.mono (fun _ _ h => h) |>.trans k1112
    refine den_norm (by simp only [List.cons_append, List.nil_append]; rfl) (den_callR (fun wa l wb => ∃ pvz, l = [.int .i64 d.g.b, .int .i64 d.g.p, .int .i64 d.g.s, .int .i64 d.g.e, .slice fa Fl.length fc, pvz, .slice ea d.ers.length ec, .int .i64 d.n, .int .i64 d.cut, .int .i64 d.cb, .bool d.off] ∧ Mine ssE 102 wb pvz (PV.set Bj ⟨some ⟨gR, 0, none⟩, np, cR⟩) ∧ ∀ g, pvz.ownBlock = some g → wa.heap.size ≤ g) (fun w35 h35 => ?_) (fun w35 l w36 h35 hfl hR k3536 => ?_))
    · refine (c62 Bj ⟨some ⟨gR, 0, none⟩, np, cR⟩ d.off w35 (h.same h35.base) hBj (by omega)).mono fun v w' ⟨pvz, q1, q2, q3⟩ => ?_
      obtain ⟨va, vc, hv⟩ := q2.slice
      exact ⟨[.int .i64 d.g.b, .int .i64 d.g.p, .int .i64 d.g.s, .int .i64 d.g.e, .slice fa Fl.length fc, pvz, .slice ea d.ers.length ec, .int .i64 d.n, .int .i64 d.cut, .int .i64 d.cb, .bool d.off], ⟨⟨_, rfl⟩, ⟨_, rfl⟩, ⟨_, rfl⟩, ⟨_, rfl⟩, ⟨_, _, _, rfl⟩, ⟨_, _, _, hv⟩, ⟨_, _, _, rfl⟩, ⟨_, rfl⟩, ⟨_, rfl⟩, ⟨_, rfl⟩, ⟨_, rfl⟩, trivial⟩, q1, pvz, rfl, q2, q3⟩
    obtain ⟨pvz, rfl, hPz, hPo⟩ := hR
    have zw35 : w.heap.size ≤ w35.heap.size := h35.base.size
    have z1235 : w12.heap.size ≤ w35.heap.size := (shown_same h35).size
    have lR12 : gR < w12.heap.size := hMr.lt rfl
    have hMr36 := (hMr.same (shown_same h35)).same k3536
    refine den_norm (by simp only [List.cons_append, List.nil_append]; rfl) (den_blk fun bE kE _ kWE => den_norm (by simp only [List.cons_append, List.nil_append]; rfl) ?_)
    have zE : w36.heap.size ≤ bE := kE
    have z3536 : w35.heap.size ≤ w36.heap.size := k3536.size
    refine den_appendL (E := intE) (T := 3) rfl u24 i3 zt3 s3 rfl (by decide) by3 int_one (.slice (some ⟨bE, 0, none⟩) 0 0) (.slice ea d.ers.length ec) [] d.ers rfl rfl (fun n c e => h.e.2.1 n c e) (by simp; omega) (fun g hg hc => absurd hc (by simp [vcap])) (by simp [keys]) (fun wa ha => ⟨?_, (h.e.same ha.base).1⟩) (fun g hg hc => absurd hc (by simp [vcap])) (fun _ g hg hc => absurd hc (by simp [vcap])) (fun _ => rfl) (fun w37 sr w38 g37 hMe k3738 hfrr hapr => den_norm (by simp only [List.cons_append, List.nil_append]; rfl) ?_)
    · obtain ⟨b', ty, e, hh⟩ := ha.facts.1
      have e' : pt bE = pt b' := e
      cases e'
      exact .inr ⟨rfl, bE, _, ty, rfl, hh⟩
    rw [List.nil_append] at hMe
    have z3637 : w36.heap.size ≤ w37.heap.size := g37.kept.size
    have l12 : b12 < w37.heap.size := g37.lt (i := 12) (by simp [keys]) rfl
    have l13 : b13 < w37.heap.size := g37.lt (i := 13) (by simp [keys]) rfl
    have lE : bE < w37.heap.size := g37.lt (i := 29) (by simp [keys]) rfl
    have zw37 : w.heap.size ≤ w37.heap.size := g37.base.size
    have hlR10 : w10.heap.size ≤ w11.heap.size := h11.kept.size
    have l12a : b12 < w10.heap.size := g10.lt (i := 12) (by simp [keys]) rfl
    have l13a : b13 < w10.heap.size := g10.lt (i := 13) (by simp [keys]) rfl
    have hMr38 := (hMr36.kept g37.kept fun g hg hin => by have e : gR = g := Option.some.inj hg; simp [BlkIn, nth, blkOf, vaddr] at hin; omega).kept k3738 fun g hg hh => by have e : gR = g := Option.some.inj hg; have e2 : bE = g := Option.some.inj hh.1; omega
    have hPz38 := (hPz.kept g37.kept fun g hg hin => by have := hPo g hg; simp [BlkIn, nth, blkOf, vaddr] at hin; omega).kept k3738 fun g hg hh => by have := hPz.lt hg; have e2 : bE = g := Option.some.inj hh.1; omega
    obtain ⟨gE, cE, eE2, hgE⟩ : ∃ g c, sr = slc0 g d.ers.length c ∧ w37.heap.size ≤ g := by
      obtain ⟨g, c, e⟩ := hMe.addr hers
      rcases hfrr with ⟨e1, e2⟩ | ⟨y2, e1, hle, _⟩
      · have := hMe.cap
        rw [e2] at this
        simp only [vcap] at this
        omega
      · rw [e] at e1
        have e3 : g = y2 := Option.some.inj e1
        exact ⟨g, c, e, by omega⟩
    subst eE2
    refine den_idx2 (E := intE) (L := d.ers) (d.blk Bj).er Bj [.int .i64 (d.blk Bj).er] hMe.arr rfl (by decide) rfl hers ⟨⟨_, rfl⟩, trivial⟩ (whole _) (fun wa ha => (hMe.kept ha.kept fun g hg hin => by have e : gE = g := Option.some.inj hg; first | (simp [BlkIn, nth, blkOf, vaddr] at hin; done) | (simp [BlkIn, nth, blkOf, vaddr] at hin; omega)).arr) (fun ad had hin => by simp [BlkIn, nth, blkOf, vaddr] at hin) fun w39 h39 => den_norm (by simp only [List.cons_append, List.nil_append]; rfl) ?_
    have hMe39 := hMe.kept h39.kept fun g hg hin => by have e : gE = g := Option.some.inj hg; first | (simp [BlkIn, nth, blkOf, vaddr] at hin; done) | (simp [BlkIn, nth, blkOf, vaddr] at hin; omega)
    have hMr39 := hMr38.kept h39.kept fun g hg hin => by have e : gR = g := Option.some.inj hg; first | (simp [BlkIn, nth, blkOf, vaddr] at hin; done) | (simp [BlkIn, nth, blkOf, vaddr] at hin; omega)
    have hPz39 := hPz38.kept h39.kept fun g hg hin => by have := hPo g hg; first | (simp [BlkIn, nth, blkOf, vaddr] at hin; done) | (simp [BlkIn, nth, blkOf, vaddr] at hin; omega)
    refine den_ob64 ⟨by simp only [IE.den, nth, vint]; omega, by simp only [IE.den, nth, vint]; omega⟩ (den_ob (by simp [BE.den, IE.den, nth, vint]) (den_ob (by simp [BE.den, IE.den, nth, vint, vlen]; omega) ?_))
    refine den_storeM (E := intE) (T := 3) (slc0 gE d.ers.length cE) d.ers Bj (d.blk Bj).er ((d.blk Bj).er + 1) (.int .i64 ((d.blk Bj).er + 1)) [.int .i64 ((d.blk Bj).er + 1)] (by kernel_rfl) rfl rfl rfl hers rfl rfl rfl (by intro u hu; simp at hu; subst hu; rfl) (by simp [intE]) (by decide) rfl (fun wa ha => hMe39.same (shown_same ha)) (fun wa ha g hg => ?_) ⟨w39, hMe39⟩ (fun w40 w41 g40 hMe41 k4041 => ?_)
    · have e : gE = g := Option.some.inj hg
      subst e
      exact ⟨fun hd => (by cases hd), fun hlt2 => by have : gE < w.heap.size := hlt2; omega, fun hin => by simp [BlkIn, nth, blkOf, vaddr] at hin; omega, fun hx => (by cases hx)⟩
    have lR38 : gR < w37.heap.size := by omega
    have hMr41 := (hMr39.same (shown_same g40)).kept k4041 fun g hg hh => by have e : gR = g := Option.some.inj hg; have e2 : gE = g := Option.some.inj hh; omega
    have hPz41 := (hPz39.same (shown_same g40)).kept k4041 fun g hg hh => by have := hPz.lt hg; have e2 : gE = g := Option.some.inj hh; omega
    refine den_ob64 ⟨by simp only [IE.den, nth, vint]; omega, by simp only [IE.den, nth, vint]; omega⟩ (den_leafR _ rfl fun wz hz => ⟨_, rfl, ?_⟩)
    have HR := hMr41.kept hz.kept fun g hg hin => by have e : gR = g := Option.some.inj hg; simp [BlkIn, nth, blkOf, vaddr] at hin; omega
    have HP := hPz41.kept hz.kept fun g hg hin => by have := hPo g hg; simp [BlkIn, nth, blkOf, vaddr] at hin; omega
    have HE := hMe41.kept hz.kept fun g hg hin => by have e : gE = g := Option.some.inj hg; simp [BlkIn, nth, blkOf, vaddr] at hin; omega
    have F := fin wz gR cR pvz (slc0 gE d.ers.length cE) hz.base HP.given (fun ad had => by have := hPo _ (hPz.own had); omega) (by rw [eS]; exact HR.given) (by omega) HE.given (fun ad had => by have e : gE = ad.block := (by cases had; rfl); omega)
    rw [eOff] at F
    exact F
end
end Go.Proofs.Ytppbapnibpeolaa
