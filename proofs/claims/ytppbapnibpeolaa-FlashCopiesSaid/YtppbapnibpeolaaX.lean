/- The reference device in memory, and its functions that only read. No conditions beyond those that each theorem names. -/
import Derived.Test.YtppbapnibpeolaaV
import Derived.Test.YtppbapnibpeolaaTB
set_option maxRecDepth 100000
set_option maxHeartbeats 2000000
set_option linter.unusedVariables false
set_option linter.unusedSimpArgs false
namespace Go.Proofs.Ytppbapnibpeolaa
open Go.Sx

structure Sl where
  a : Option Addr
  n : Nat
  c : Nat
def Sl.v (s : Sl) : Value := .slice s.a s.n s.c
def ssE : Enc Sl := ⟨fun s => [s.v], 1, fun _ => rfl⟩
theorem ss_one (x : Sl) : ∀ u ∈ ssE.enc x, u.oneCell' = true := by intro u hu; simp only [ssE, List.mem_singleton] at hu; subst hu; rfl
structure Rv where
  st : Int
  s : Sl
def rpE : Enc Rv := ⟨fun r => [.int .i64 r.st, r.s.v], 2, fun _ => rfl⟩
theorem rp_one (x : Rv) : ∀ u ∈ rpE.enc x, u.oneCell' = true := by
  intro u hu
  simp only [rpE, List.mem_cons, List.not_mem_nil, or_false] at hu
  rcases hu with rfl | rfl <;> rfl
theorem u34 : Try.prog.underlying 34 = some (.slice 102) := by kernel_rfl
theorem i102 : Try.prog.info? 102 = some Try.t102 := by kernel_rfl
theorem z102 : Try.t102.zero = some nilS := by kernel_rfl
theorem s102 : Try.t102.size = ssE.sz := by kernel_rfl
theorem by102 : Try.t102.bytes ≤ 1000 := by decide +kernel
theorem u102 : Try.prog.underlying 102 = some (.slice 106) := by kernel_rfl
theorem i106 : Try.prog.info? 106 = some Try.t106 := by kernel_rfl
theorem z106 : Try.t106.zero = some (.agg #[.int .i64 0, nilS]) := by kernel_rfl
theorem s106 : Try.t106.size = rpE.sz := by kernel_rfl
theorem by106 : Try.t106.bytes ≤ 1000 := by decide +kernel
def outS (S : Nat → Prop) (v : Value) : Prop := ∀ ad, vaddr v = some ad → ¬ S ad.block
theorem outS.nil {S : Nat → Prop} : outS S nilS := fun ad had => by cases had
/-- pages of the reference -/
structure RpsAt (w : World) (S : Nat → Prop) (R : List Rv) (ps : List Pg) : Prop where
  len : R.length = ps.length
  at_ : ∀ (i : Nat) r p, R[i]? = some r → ps[i]? = some p → r.st = p.st ∧ Given byteE w r.s.v p.D ∧ outS S r.s.v
structure RfAt (w : World) (S : Nat → Prop) (d : Dv) (fv pv ev : Value) (Fl : List Int) (PV : List Sl) (RP : List (List Rv)) : Prop where
  f : Given intE w fv Fl
  fo : outS S fv
  fF : inF Fl = d.F
  fl : Fl.length ≤ 1000
  p : Given ssE w pv PV
  po : outS S pv
  e : Given intE w ev d.ers
  eo : outS S ev
  l1 : PV.length = d.bs.length
  l2 : RP.length = d.bs.length
  el : ∀ (B : Nat) v R x, PV[B]? = some v → RP[B]? = some R → d.bs[B]? = some x → Given rpE w v.v R ∧ outS S v.v ∧ RpsAt w S R x.ps
def refV (g : Geo) (fv pv ev : Value) (n cut cb : Int) (off : Bool) : Value := .agg #[.int .i64 g.b, .int .i64 g.p, .int .i64 g.s, .int .i64 g.e, fv, pv, ev, .int .i64 n, .int .i64 cut, .int .i64 cb, .bool off]
def refC (g : Geo) (fv pv ev : Value) (n cut cb : Int) (off : Bool) : List Value := [.int .i64 g.b, .int .i64 g.p, .int .i64 g.s, .int .i64 g.e, fv, pv, ev, .int .i64 n, .int .i64 cut, .int .i64 cb, .bool off]
def RefAt (w : World) (S : Nat → Prop) (d : Dv) (rv : Value) : Prop := ∃ fv pv ev Fl PV RP, rv = refV d.g fv pv ev d.n d.cut d.cb d.off ∧ RfAt w S d fv pv ev Fl PV RP
section
variable {w w' : World} {S T S' T' M : Nat → Prop} {d : Dv} {fv pv ev : Value} {Fl : List Int} {PV : List Sl} {RP : List (List Rv)}
theorem RpsAt.kept {R : List Rv} {ps : List Pg} (h : RpsAt w S R ps) (hk : Kept M w w') (hM : ∀ y, M y → S y) : RpsAt w' S R ps :=
  ⟨h.len, fun i r p h1 h2 => let ⟨q1, q2, q3⟩ := h.at_ i r p h1 h2; ⟨q1, q2.kept hk fun ad had hm => q3 ad had (hM _ hm), q3⟩⟩
theorem RfAt.kept (h : RfAt w S d fv pv ev Fl PV RP) (hk : Kept M w w') (hM : ∀ y, M y → S y) : RfAt w' S d fv pv ev Fl PV RP :=
  ⟨h.f.kept hk fun ad had hm => h.fo ad had (hM _ hm), h.fo, h.fF, h.fl, h.p.kept hk fun ad had hm => h.po ad had (hM _ hm), h.po, h.e.kept hk fun ad had hm => h.eo ad had (hM _ hm), h.eo, h.l1, h.l2,
   fun B v R x h1 h2 h3 => let ⟨q1, q2, q3⟩ := h.el B v R x h1 h2 h3; ⟨q1.kept hk fun ad had hm => q2 ad had (hM _ hm), q2, q3.kept hk hM⟩⟩
theorem RfAt.same (h : RfAt w S d fv pv ev Fl PV RP) (hk : Same w w') : RfAt w' S d fv pv ev Fl PV RP := h.kept hk fun _ h => h.elim
theorem RfAt.next (h : RfAt w S d fv pv ev Fl PV RP) (hs : ∀ y, S' y → S y ∨ w.heap.size ≤ y) : RfAt w S' d fv pv ev Fl PV RP := by
  have o : ∀ {α : Type} {E : Enc α} {v : Value} {L : List α}, Given E w v L → outS S v → outS S' v := fun hg ho ad had hs' => (hs _ hs').elim (ho ad had) fun hle => by have := hg.2.2.2 ad had; omega
  exact ⟨h.f, o h.f h.fo, h.fF, h.fl, h.p, o h.p h.po, h.e, o h.e h.eo, h.l1, h.l2, fun B v R x h1 h2 h3 => let ⟨q1, q2, q3⟩ := h.el B v R x h1 h2 h3; ⟨q1, o q1 q2, q3.len, fun i r p a1 a2 => let ⟨b1, b2, b3⟩ := q3.at_ i r p a1 a2; ⟨b1, b2, o b2 b3⟩⟩⟩
/-- the pages of a block of the reference -/
theorem RfAt.at_ (h : RfAt w S d fv pv ev Fl PV RP) {B : Int} (hB : d.hasB B = true) : ∃ (j : Nat) (v : Sl) (R : List Rv), B = j ∧ j < PV.length ∧ PV[j]? = some v ∧ RP[j]? = some R ∧ d.bs[j]? = some (d.blk B) ∧ Given rpE w v.v R ∧ outS S v.v ∧ RpsAt w S R (d.blk B).ps ∧ v.n = R.length := by
  obtain ⟨j, e, hj, hx⟩ := Dv.blkAt hB
  have h1 : j < PV.length := by rw [h.l1]; exact hj
  have h2 : j < RP.length := by rw [h.l2]; exact hj
  obtain ⟨q1, q2, q3⟩ := h.el j _ _ _ (List.getElem?_eq_getElem h1) (List.getElem?_eq_getElem h2) hx
  refine ⟨j, _, _, e, h1, List.getElem?_eq_getElem h1, List.getElem?_eq_getElem h2, hx, q1, q2, q3, ?_⟩
  obtain ⟨a, c, e2⟩ := q1.1.slice
  simp only [Sl.v, Value.slice.injEq] at e2
  exact e2.2.1
theorem c45 (B : Int) (w : World) (h : RfAt w S d fv pv ev Fl PV RP) : Gives Try.prog 45 [refV d.g fv pv ev d.n d.cut d.cb d.off, .int .i64 B] w (.bool (d.hasB B)) := by
  obtain ⟨fa, fc, rfl⟩ := h.f.1.slice
  obtain ⟨pa, pc, rfl⟩ := h.p.1.slice
  obtain ⟨ea, ec, rfl⟩ := h.e.1.slice
  refine gives mix t45 rfl rfl (ε := [.int .i64 d.g.b, .int .i64 d.g.p, .int .i64 d.g.s, .int .i64 d.g.e, .slice fa Fl.length fc, .slice pa PV.length pc, .slice ea d.ers.length ec, .int .i64 d.n, .int .i64 d.cut, .int .i64 d.cb, .bool d.off, .int .i64 B]) ⟨⟨_, rfl⟩, ⟨_, rfl⟩, ⟨_, rfl⟩, ⟨_, rfl⟩, ⟨_, _, _, rfl⟩, ⟨_, _, _, rfl⟩, ⟨_, _, _, rfl⟩, ⟨_, rfl⟩, ⟨_, rfl⟩, ⟨_, rfl⟩, ⟨_, rfl⟩, ⟨_, rfl⟩, trivial⟩ (den_blk fun b k _ _ => den_norm (by simp only [List.cons_append, List.nil_append]; rfl) (den_splitLe (fun h1 => ?_) (fun h1 => ?_)))
  · have h1' : 0 ≤ B := h1
    have e : d.hasB B = decide (B < (PV.length : Int)) := by simp [Dv.hasB, h1', h.l1]
    rw [e]
    exact den_leaf rfl
  · have h1' : B < 0 := h1
    have e : d.hasB B = false := by simp [Dv.hasB]; omega
    rw [e]
    exact den_leaf rfl
theorem c47 (B A : Int) (w : World) (h : RfAt w S d fv pv ev Fl PV RP) (hw : Wf d) : Gives Try.prog 47 [refV d.g fv pv ev d.n d.cut d.cb d.off, .int .i64 B, .int .i64 A] w (.int .i64 (d.state B A)) := by
  obtain ⟨fa, fc, e1⟩ := h.f.1.slice
  obtain ⟨pa, pc, e2⟩ := h.p.1.slice
  obtain ⟨ea, ec, e3⟩ := h.e.1.slice
  subst e1 e2 e3
  refine gives mix t47 rfl rfl (ε := [.int .i64 d.g.b, .int .i64 d.g.p, .int .i64 d.g.s, .int .i64 d.g.e, .slice fa Fl.length fc, .slice pa PV.length pc, .slice ea d.ers.length ec, .int .i64 d.n, .int .i64 d.cut, .int .i64 d.cb, .bool d.off, .int .i64 B, .int .i64 A]) ⟨⟨_, rfl⟩, ⟨_, rfl⟩, ⟨_, rfl⟩, ⟨_, rfl⟩, ⟨_, _, _, rfl⟩, ⟨_, _, _, rfl⟩, ⟨_, _, _, rfl⟩, ⟨_, rfl⟩, ⟨_, rfl⟩, ⟨_, rfl⟩, ⟨_, rfl⟩, ⟨_, rfl⟩, ⟨_, rfl⟩, trivial⟩ (den_blk fun b k _ _ => den_norm (by simp only [List.cons_append, List.nil_append]; rfl) ?_)
  refine den_call_bool (b := d.hasB B) (fun w1 h1 => c45 B w1 (h.same h1.base)) rfl (fun w1 w2 h1 h2 => den_norm (by simp only [List.cons_append, List.nil_append]; rfl) (den_splitNot (fun hb => ?_) (fun hb => ?_)))
  · have hb' : d.hasB B = false := hb
    have e : d.state B A = 0 := by simp [Dv.state, Dv.hasP, hb']
    rw [e]
    exact den_leaf rfl
  have hb' : d.hasB B = true := hb
  refine den_splitLt (fun h3 => ?_) (fun h3 => den_splitLe (fun h4 => ?_) (fun h4 => ?_))
  · have h3' : A < 0 := h3
    have e : d.state B A = 0 := by simp [Dv.state, Dv.hasP]; omega
    rw [e]
    exact den_leaf rfl
  · have h4' : d.g.p ≤ A := h4
    have e : d.state B A = 0 := by simp [Dv.state, Dv.hasP]; omega
    rw [e]
    exact den_leaf rfl
  have h3' : 0 ≤ A := h3
  have h4' : A < d.g.p := h4
  have hP : d.hasP B A = true := by simp [Dv.hasP, hb', h3', h4']
  have H2 := (h.same (shown_same h1)).same h2
  obtain ⟨j, v, R, ej, hj, hv, hR, hx, hG, _, hRs, hn⟩ := H2.at_ hb'
  obtain ⟨i, ei, hi, hq⟩ := hw.pgAt hP
  have hi' : i < R.length := by rw [hRs.len]; exact hi
  obtain ⟨q1, _, _⟩ := hRs.at_ i _ _ (List.getElem?_eq_getElem hi') hq
  refine den_idx2 (E := ssE) (L := PV) v j [v.v] H2.p.1 rfl (by decide) ej hv ⟨⟨_, _, _, rfl⟩, trivial⟩ (cellk _ 0 _ rfl) (fun wa ha => (H2.same (shown_same ha)).p.1) (fun ad had hin => by simp [BlkIn, nth, blkOf, vaddr] at hin) fun w3 h3 => den_norm (by simp only [List.cons_append, List.nil_append]; rfl) ?_
  refine den_idx2 (E := rpE) (L := R) R[i] i [.int .i64 R[i].st] (hG.same (shown_same h3)).1 rfl (by decide) ei (List.getElem?_eq_getElem hi') ⟨⟨_, rfl⟩, trivial⟩ (cellk _ 0 _ rfl) (fun wa ha => ((hG.same (shown_same h3)).same (shown_same ha)).1) (fun ad had hin => by simp [BlkIn, nth, blkOf, vaddr] at hin) fun w4 h4 => den_norm (by simp only [List.cons_append, List.nil_append]; rfl) (den_leaf ?_)
  have e : d.state B A = R[i].st := by simp [Dv.state, hP, q1]
  rw [e]
  rfl
theorem c46 (B : Int) (w : World) (h : RfAt w S d fv pv ev Fl PV RP) (hw : Wf d) : Gives Try.prog 46 [refV d.g fv pv ev d.n d.cut d.cb d.off, .int .i64 B] w (.int .i64 (d.next B)) := by
  obtain ⟨fa, fc, e1⟩ := h.f.1.slice
  obtain ⟨pa, pc, e2⟩ := h.p.1.slice
  obtain ⟨ea, ec, e3⟩ := h.e.1.slice
  subst e1 e2 e3
  refine gives mix t46 rfl rfl (ε := [.int .i64 d.g.b, .int .i64 d.g.p, .int .i64 d.g.s, .int .i64 d.g.e, .slice fa Fl.length fc, .slice pa PV.length pc, .slice ea d.ers.length ec, .int .i64 d.n, .int .i64 d.cut, .int .i64 d.cb, .bool d.off, .int .i64 B]) ⟨⟨_, rfl⟩, ⟨_, rfl⟩, ⟨_, rfl⟩, ⟨_, rfl⟩, ⟨_, _, _, rfl⟩, ⟨_, _, _, rfl⟩, ⟨_, _, _, rfl⟩, ⟨_, rfl⟩, ⟨_, rfl⟩, ⟨_, rfl⟩, ⟨_, rfl⟩, ⟨_, rfl⟩, trivial⟩ (den_blk fun b k _ _ => den_norm (by simp only [List.cons_append, List.nil_append]; rfl) ?_)
  refine den_call_bool (b := d.hasB B) (fun w1 h1 => c45 B w1 (h.same h1.base)) rfl (fun w1 w2 h1 h2 => den_norm (by simp only [List.cons_append, List.nil_append]; rfl) (den_splitNot (fun hb => ?_) (fun hb => ?_)))
  · have hb' : d.hasB B = false := hb
    have e : d.next B = 0 := by simp [Dv.next, hb']
    rw [e]
    exact den_leaf rfl
  have hb' : d.hasB B = true := hb
  have bok := hw.blk hb'
  have e : d.next B = (d.blk B).nx := by simp [Dv.next, hb']
  rw [e]
  obtain ⟨np, hnp⟩ : ∃ np : Nat, d.g.p = np := ⟨d.g.p.toNat, by have := hw.p0; omega⟩
  have H2 := (h.same (shown_same h1)).same h2
  obtain ⟨j, v, R, ej, hj, hv, hR, hx, hG, _, hRs, hn⟩ := H2.at_ hb'
  have hRl : R.length = np := by have := hRs.len; have := bok.len; omega
  have p1 := hw.p1
  refine den_for np (fun i w' => Same w2 w' ∧ (i : Int) ≤ (d.blk B).nx) ⟨rfl, fun wa ha => ⟨shown_same ha, bok.nx0⟩⟩ ?_
  rintro i w3 hi ⟨s3, hle⟩ hk3 hfa3
  have H3 := H2.same s3
  refine den_norm (by simp only [List.cons_append, List.nil_append]; rfl) (den_splitLt (fun hlt => ?_) (fun hge => ?_))
  · have hlt' : i < np := by have : (i : Int) < d.g.p := hlt; omega
    refine den_idx2 (E := ssE) (L := PV) v j [v.v] H3.p.1 rfl (by decide) ej hv ⟨⟨_, _, _, rfl⟩, trivial⟩ (cellk _ 0 _ rfl) (fun wa ha => (H3.same (shown_same ha)).p.1) (fun ad had hin => by simp [BlkIn, nth, blkOf, vaddr] at hin) fun w4 h4 => den_norm (by simp only [List.cons_append, List.nil_append]; rfl) ?_
    have hi' : i < R.length := by omega
    have hip : i < (d.blk B).ps.length := by rw [← hRs.len]; exact hi'
    obtain ⟨q1, _, _⟩ := hRs.at_ i _ _ (List.getElem?_eq_getElem hi') (List.getElem?_eq_getElem hip)
    have ok := bok.pg i _ (List.getElem?_eq_getElem hip)
    have G4 := (hG.same s3).same (shown_same h4)
    refine den_idx2 (E := rpE) (L := R) R[i] i [.int .i64 R[i].st] G4.1 rfl (by decide) rfl (List.getElem?_eq_getElem hi') ⟨⟨_, rfl⟩, trivial⟩ (cellk _ 0 _ rfl) (fun wa ha => (G4.same (shown_same ha)).1) (fun ad had hin => by simp [BlkIn, nth, blkOf, vaddr] at hin) fun w5 h5 => den_norm (by simp only [List.cons_append, List.nil_append]; rfl) (den_splitEq (fun he => ?_) (fun hne => ?_))
    · have he' : R[i].st = 1 := he
      have := ok.er.1 (by rw [← q1]; exact he')
      refine den_leaf_ne (by decide) (den_leaf ?_)
      have e3 : (d.blk B).nx = (i : Int) := by omega
      rw [e3]
      rfl
    · have hne' : R[i].st ≠ 1 := hne
      have hn1 : ¬ (d.blk B).nx ≤ i := fun h => hne' (by rw [q1]; exact ok.er.2 h)
      exact den_ob64 ⟨by simp only [IE.den, nth, vint]; omega, by simp only [IE.den, nth, vint]; omega⟩ (den_next rfl hlt' fun wa ha => ⟨((s3.trans (shown_same h4)).trans (shown_same h5)).trans (shown_same ha), by push_cast; omega⟩)
  · have hge' : np ≤ i := by have : d.g.p ≤ (i : Int) := hge; omega
    have n1 := bok.nx1
    refine den_leaf_ne (by decide) (den_leaf ?_)
    have e3 : (d.blk B).nx = d.g.p := by omega
    rw [e3]
    rfl
theorem c61 (w : World) (h : RfAt w S d fv pv ev Fl PV RP) : Gives Try.prog 61 [refV d.g fv pv ev d.n d.cut d.cb d.off] w (.bool (d.F d.n)) := by
  obtain ⟨fa, fc, e1⟩ := h.f.1.slice
  obtain ⟨pa, pc, e2⟩ := h.p.1.slice
  obtain ⟨ea, ec, e3⟩ := h.e.1.slice
  subst e1 e2 e3
  have hF : d.F d.n = inF Fl d.n := by rw [h.fF]
  have hl := h.fl
  rw [hF]
  refine gives mix t61 rfl rfl (ε := [.int .i64 d.g.b, .int .i64 d.g.p, .int .i64 d.g.s, .int .i64 d.g.e, .slice fa Fl.length fc, .slice pa PV.length pc, .slice ea d.ers.length ec, .int .i64 d.n, .int .i64 d.cut, .int .i64 d.cb, .bool d.off]) ⟨⟨_, rfl⟩, ⟨_, rfl⟩, ⟨_, rfl⟩, ⟨_, rfl⟩, ⟨_, _, _, rfl⟩, ⟨_, _, _, rfl⟩, ⟨_, _, _, rfl⟩, ⟨_, rfl⟩, ⟨_, rfl⟩, ⟨_, rfl⟩, ⟨_, rfl⟩, trivial⟩ (den_blk fun b k _ _ => den_norm (by simp only [List.cons_append, List.nil_append]; rfl) ?_)
  refine den_for Fl.length (fun j w' => ∀ (i : Nat) y, i < j → Fl[i]? = some y → y ≠ d.n) ⟨rfl, fun w _ i y hi => by omega⟩ ?_
  intro j w1 hj hI hk hfa
  refine den_norm (by simp only [List.cons_append, List.nil_append]; rfl) (den_splitLt (fun hlt => ?_) (fun hge => ?_))
  · have hlt' : j < Fl.length := by simpa [IE.den, nth, vint, vlen] using hlt
    obtain ⟨x, hx⟩ : ∃ x, Fl[j]? = some x := ⟨_, List.getElem?_eq_getElem hlt'⟩
    refine den_start1 fun w2 h2 => ?_
    have f2 := h.f.same h2.base
    refine den_idxD (E := intE) (L := Fl) x j [.int .i64 x] rfl (by decide) rfl hx ⟨⟨_, rfl⟩, trivial⟩ (whole _) f2.1 (fun ad had hin => ?_) (den_norm (by simp only [List.cons_append, List.nil_append]; rfl) (den_splitEq (fun he => ?_) (fun hne => ?_)))
    · have := h.f.2.2.2 ad had
      have zz : w.heap.size ≤ b := k
      simp [BlkIn, nth, blkOf, vaddr] at hin
      omega
    · have he' : x = d.n := he
      refine den_leaf_ne (by decide) (den_leaf ?_)
      have : inF Fl d.n = true := List.any_eq_true.2 ⟨x, List.mem_of_getElem? hx, decide_eq_true he'⟩
      rw [this]
      rfl
    · have hne' : x ≠ d.n := hne
      refine den_ob64 ⟨by simp only [IE.den, nth, vint]; omega, by simp only [IE.den, nth, vint]; omega⟩ (den_next rfl hlt' fun w5 _ i y hi hy => ?_)
      by_cases hij : i = j
      · subst hij
        rw [hx] at hy
        cases hy
        exact hne'
      · exact hI i y (by omega) hy
  · have hge' : Fl.length ≤ j := by simpa [IE.den, nth, vint, vlen] using hge
    refine den_leaf_ne (by decide) (den_leaf ?_)
    have : inF Fl d.n = false := by
      rw [← Bool.not_eq_true]
      intro h'
      obtain ⟨x, hx, h'⟩ := List.any_eq_true.1 h'
      obtain ⟨i, hi⟩ := List.getElem?_of_mem hx
      exact hI i x (Nat.lt_of_lt_of_le (List.getElem?_eq_some_iff.1 hi).1 hge') hi (of_decide_eq_true h')
    rw [this]
    rfl
theorem c44 (w : World) (h : RfAt w S d fv pv ev Fl PV RP) : Gives Try.prog 44 [refV d.g fv pv ev d.n d.cut d.cb d.off] w (refV d.g fv pv ev d.n (-1) d.cb false) := by
  obtain ⟨fa, fc, rfl⟩ := h.f.1.slice
  obtain ⟨pa, pc, rfl⟩ := h.p.1.slice
  obtain ⟨ea, ec, rfl⟩ := h.e.1.slice
  refine gives mix t44 rfl rfl (ε := [.int .i64 d.g.b, .int .i64 d.g.p, .int .i64 d.g.s, .int .i64 d.g.e, .slice fa Fl.length fc, .slice pa PV.length pc, .slice ea d.ers.length ec, .int .i64 d.n, .int .i64 d.cut, .int .i64 d.cb, .bool d.off]) ⟨⟨_, rfl⟩, ⟨_, rfl⟩, ⟨_, rfl⟩, ⟨_, rfl⟩, ⟨_, _, _, rfl⟩, ⟨_, _, _, rfl⟩, ⟨_, _, _, rfl⟩, ⟨_, rfl⟩, ⟨_, rfl⟩, ⟨_, rfl⟩, ⟨_, rfl⟩, trivial⟩ (den_blk fun b k _ _ => den_norm (by simp only [List.cons_append, List.nil_append]; rfl) (den_blk fun b2 k2 _ _ => den_norm (by simp only [List.cons_append, List.nil_append]; rfl) (den_leaf rfl)))
theorem c43 (o c : Int) (w : World) (h : RfAt w S d fv pv ev Fl PV RP) (hw : Wf d) : Gives Try.prog 43 [refV d.g fv pv ev d.n d.cut d.cb d.off, .int .i64 o, .int .i64 c] w (.tuple #[refV d.g fv pv ev d.n (d.cutD o c).cut (d.cutD o c).cb d.off, .int .i64 (d.cutE o c)]) := by
  have s0 := hw.s0
  have s1 := hw.s1
  obtain ⟨fa, fc, rfl⟩ := h.f.1.slice
  obtain ⟨pa, pc, rfl⟩ := h.p.1.slice
  obtain ⟨ea, ec, rfl⟩ := h.e.1.slice
  have no : ∀ e, e ≠ 0 → d.cutE o c = e → d.cutD o c = d := fun e he h => by unfold Dv.cutD; rw [if_neg (by rw [h]; exact he)]
  refine gives mix t43 rfl rfl (ε := [.int .i64 d.g.b, .int .i64 d.g.p, .int .i64 d.g.s, .int .i64 d.g.e, .slice fa Fl.length fc, .slice pa PV.length pc, .slice ea d.ers.length ec, .int .i64 d.n, .int .i64 d.cut, .int .i64 d.cb, .bool d.off, .int .i64 o, .int .i64 c]) ⟨⟨_, rfl⟩, ⟨_, rfl⟩, ⟨_, rfl⟩, ⟨_, rfl⟩, ⟨_, _, _, rfl⟩, ⟨_, _, _, rfl⟩, ⟨_, _, _, rfl⟩, ⟨_, rfl⟩, ⟨_, rfl⟩, ⟨_, rfl⟩, ⟨_, rfl⟩, ⟨_, rfl⟩, ⟨_, rfl⟩, trivial⟩ (den_blk fun b k _ _ => den_norm (by simp only [List.cons_append, List.nil_append]; rfl) (den_blk fun b2 k2 _ _ => den_norm (by simp only [List.cons_append, List.nil_append]; rfl) ?_))
  refine den_splitLt (fun h6 => ?_) (fun h6 => den_splitLt (fun h7 => ?_) (fun h7 => ?_))
  · have h6' : o < d.n := h6
    have e : d.cutE o c = 2 := by unfold Dv.cutE; rw [if_pos h6']
    rw [no 2 (by decide) e, e]
    exact den_leaf rfl
  · have h6' : ¬ o < d.n := by have : d.n ≤ o := h6; omega
    have h7' : c < 0 := h7
    have e : d.cutE o c = 2 := by unfold Dv.cutE; rw [if_neg h6', if_pos h7']
    rw [no 2 (by decide) e, e]
    exact den_leaf rfl
  have h6' : ¬ o < d.n := by have : d.n ≤ o := h6; omega
  have h7' : ¬ c < 0 := by have : 0 ≤ c := h7; omega
  refine den_ob64 ⟨by simp only [IE.den, nth, vint]; omega, by simp only [IE.den, nth, vint]; omega⟩ (den_splitLt (fun h9 => ?_) (fun h9 => den_split (fun h11 => ?_) (fun h11 => ?_)))
  · have h9' : d.g.s + 64 < c := h9
    have e : d.cutE o c = 2 := by unfold Dv.cutE; rw [if_neg h6', if_neg h7', if_pos h9']
    rw [no 2 (by decide) e, e]
    exact den_leaf rfl
  · have h9' : ¬ d.g.s + 64 < c := by have : c ≤ d.g.s + 64 := h9; omega
    have h11' : d.off = true := h11
    have e : d.cutE o c = 50 := by unfold Dv.cutE; rw [if_neg h6', if_neg h7', if_neg h9', if_pos h11']
    rw [no 50 (by decide) e, e]
    exact den_leaf rfl
  have h9' : ¬ d.g.s + 64 < c := by have : c ≤ d.g.s + 64 := h9; omega
  have h11' : d.off = false := h11
  have e : d.cutE o c = 0 := by unfold Dv.cutE; rw [if_neg h6', if_neg h7', if_neg h9', if_neg (by rw [h11']; decide)]
  have e' : d.cutD o c = { d with cut := o, cb := c } := by unfold Dv.cutD; rw [if_pos e]
  rw [e, e']
  exact den_leaf rfl
theorem c59 (n : Nat) (st : Int) (w : World) (hn : n ≤ 1000) : GivesR Try.prog 59 [.int .i64 n, .int .i64 st] w (fun r w' => Mine rpE 106 w' r (List.replicate n ⟨st, ⟨none, 0, 0⟩⟩) ∧ ∀ g, r.ownBlock = some g → w.heap.size ≤ g) := by
  refine givesR mix t59 rfl rfl (ε := [.int .i64 n, .int .i64 st]) ⟨⟨_, rfl⟩, ⟨_, rfl⟩, trivial⟩ ?_
  refine den_make (n := n) u102 i106 z106 rfl rfl (by have := by106; have := Nat.mul_le_mul_right n this; omega) (by omega) (fun v => rfl) (fun w1 b w2 h1 hb hh s12 => den_norm (by simp only [List.cons_append, List.nil_append]; rfl) ?_)
  have z1 : w.heap.size ≤ w1.heap.size := h1.base.size
  refine den_for n (fun j w3 => Mine rpE 106 w3 (.slice (some ⟨b, 0, none⟩) n n) (List.replicate j ⟨st, ⟨none, 0, 0⟩⟩ ++ List.replicate (n - j) ⟨0, ⟨none, 0, 0⟩⟩)) ⟨rfl, fun w3 h3 => by simpa using (mine_made (E := rpE) (T := 106) (⟨0, ⟨none, 0, 0⟩⟩ : Rv) _ rfl (by decide) s106 (by omega) hh).same (shown_same h3)⟩ ?_
  intro j w3 hj hI hk3 _
  refine den_norm (by simp only [List.cons_append, List.nil_append]; rfl) (den_splitLt (fun hlt => ?_) (fun hge => ?_))
  · have hlt' : j < n := by simpa [IE.den, nth, vint] using hlt
    have hx : (List.replicate j (⟨st, ⟨none, 0, 0⟩⟩ : Rv) ++ List.replicate (n - j) ⟨0, ⟨none, 0, 0⟩⟩)[j]? = some ⟨0, ⟨none, 0, 0⟩⟩ := by rw [List.getElem?_append_right (by simp), List.length_replicate, Nat.sub_self, List.getElem?_replicate_of_lt (by omega)]
    refine den_obs (E := rpE) (L := List.replicate j (⟨st, ⟨none, 0, 0⟩⟩ : Rv) ++ List.replicate (n - j) (⟨0, ⟨none, 0, 0⟩⟩ : Rv)) (w0 := w3) j hI.arr (by decide) rfl (by simp; omega) ?_
    refine den_storeM (E := rpE) (T := 106) (.slice (some ⟨b, 0, none⟩) n n) (List.replicate j (⟨st, ⟨none, 0, 0⟩⟩ : Rv) ++ List.replicate (n - j) (⟨0, ⟨none, 0, 0⟩⟩ : Rv)) j ⟨0, ⟨none, 0, 0⟩⟩ ⟨st, ⟨none, 0, 0⟩⟩ (.int .i64 st) [.int .i64 st] (by kernel_rfl) rfl rfl rfl hx rfl rfl rfl (by intro u hu; simp at hu; subst hu; rfl) (by simp [rpE]) (by decide) rfl (fun w4 h4 => hI.same (shown_same h4)) (fun w4 h4 g hg => ?_) ⟨w3, hI⟩ (fun w4 w5 h4 hm5 hk5 => ?_)
    · cases hg
      exact ⟨fun hd => (by cases hd), fun hlt2 => by have : b < w.heap.size := hlt2; omega, fun hin => by simp [BlkIn, nth, blkOf, vaddr] at hin, fun hx => (by cases hx)⟩
    refine den_ob64 ⟨by simp only [IE.den, nth, vint]; omega, by simp only [IE.den, nth, vint]; omega⟩ (den_next rfl hlt' fun w6 h6 => ?_)
    have e2 : (List.replicate j (⟨st, ⟨none, 0, 0⟩⟩ : Rv) ++ List.replicate (n - j) (⟨0, ⟨none, 0, 0⟩⟩ : Rv)).set j ⟨st, ⟨none, 0, 0⟩⟩ = List.replicate (j + 1) ⟨st, ⟨none, 0, 0⟩⟩ ++ List.replicate (n - (j + 1)) ⟨0, ⟨none, 0, 0⟩⟩ := by
      rw [List.set_append_right _ _ (by simp), List.length_replicate, Nat.sub_self, show n - j = (n - (j + 1)) + 1 by omega, List.replicate_succ, List.set_cons_zero, List.replicate_succ']
      simp
    rw [← e2]
    exact hm5.same (shown_same h6)
  · have hge' : n ≤ j := by have : (n : Int) ≤ (j : Int) := hge; omega
    have e : j = n := by omega
    subst e
    refine den_leaf' fun w4 h4 => (if_neg (by decide)).mpr ⟨_, rfl, ⟨by have := hI.same (shown_same h4); simp only [Nat.sub_self, List.replicate_zero, List.append_nil] at this; exact this, fun g hg => by have e : b = g := Option.some.inj hg; omega⟩, h4.base⟩
/-- the device with other pages of a block -/
theorem c62 (B : Nat) (v : Sl) (off : Bool) (w : World) (h : RfAt w S d fv pv ev Fl PV RP) (hB : B < PV.length) (hl : PV.length ≤ 1000) :
    GivesR Try.prog 62 [refV d.g fv pv ev d.n d.cut d.cb off, .int .i64 B, v.v] w (fun r w' => ∃ pv', r = refV d.g fv pv' ev d.n d.cut d.cb off ∧ Mine ssE 102 w' pv' (PV.set B v) ∧ ∀ g, pv'.ownBlock = some g → w.heap.size ≤ g) := by
  obtain ⟨fa, fc, e1⟩ := h.f.1.slice
  obtain ⟨pa, pc, e2⟩ := h.p.1.slice
  obtain ⟨ea, ec, e3⟩ := h.e.1.slice
  subst e1 e2 e3
  refine givesR mix t62 rfl rfl (ε := [.int .i64 d.g.b, .int .i64 d.g.p, .int .i64 d.g.s, .int .i64 d.g.e, .slice fa Fl.length fc, .slice pa PV.length pc, .slice ea d.ers.length ec, .int .i64 d.n, .int .i64 d.cut, .int .i64 d.cb, .bool off, .int .i64 B, v.v]) ⟨⟨_, rfl⟩, ⟨_, rfl⟩, ⟨_, rfl⟩, ⟨_, rfl⟩, ⟨_, _, _, rfl⟩, ⟨_, _, _, rfl⟩, ⟨_, _, _, rfl⟩, ⟨_, rfl⟩, ⟨_, rfl⟩, ⟨_, rfl⟩, ⟨_, rfl⟩, ⟨_, rfl⟩, ⟨_, _, _, rfl⟩, trivial⟩ (den_blk fun b13 k13 _ _ => den_norm (by simp only [List.cons_append, List.nil_append]; rfl) (den_blk fun b14 k14 _ _ => den_norm (by simp only [List.cons_append, List.nil_append]; rfl) (den_blk fun b15 k15 _ kW15 => den_norm (by simp only [List.cons_append, List.nil_append]; rfl) ?_)))
  refine den_appendL (E := ssE) (T := 102) rfl u34 i102 z102 s102 rfl (by decide) by102 ss_one (.slice (some ⟨b15, 0, none⟩) 0 0) (.slice pa PV.length pc) [] PV rfl rfl (fun n c e => h.p.2.1 n c e) (by simp; omega) (fun g hg hc => absurd hc (by simp [vcap])) (by simp [keys]) (fun wa ha => ⟨?_, (h.p.same ha.base).1⟩) (fun g hg hc => absurd hc (by simp [vcap])) (fun _ g hg hc => absurd hc (by simp [vcap])) (fun _ => rfl) (fun wa s1 wb ha hM kab hfr hap => den_norm (by simp only [List.cons_append, List.nil_append]; rfl) ?_)
  · obtain ⟨b', ty, e, hh⟩ := ha.facts.1
    have e' : pt b15 = pt b' := e
    cases e'
    exact .inr ⟨rfl, b15, _, ty, rfl, hh⟩
  rw [List.nil_append] at hM
  have z15 : w.heap.size ≤ b15 := kW15
  have za : w.heap.size ≤ wa.heap.size := ha.base.size
  have l13 : b13 < wa.heap.size := ha.lt (i := 13) (by simp [keys]) rfl
  have l14 : b14 < wa.heap.size := ha.lt (i := 14) (by simp [keys]) rfl
  have l15 : b15 < wa.heap.size := ha.lt (i := 15) (by simp [keys]) rfl
  obtain ⟨x0, hx0⟩ : ∃ x, PV[B]? = some x := ⟨_, List.getElem?_eq_getElem hB⟩
  have fr : ∃ g c, s1 = slc0 g PV.length c ∧ wa.heap.size ≤ g := by
    obtain ⟨g, c, e⟩ := hM.addr hx0
    rcases hfr with ⟨e1, e2⟩ | ⟨y2, e1, hle, _⟩
    · rw [e] at e2
      have := hM.cap
      rw [e] at this
      simp only [vcap] at e2 this
      omega
    · rw [e] at e1
      have e3 : g = y2 := Option.some.inj e1
      exact ⟨g, c, e, by omega⟩
  obtain ⟨gp, cp, rfl, hgp⟩ := fr
  refine den_obs (E := ssE) (L := PV) (w0 := wb) B hM.arr (by decide) rfl hB ?_
  refine den_storeM (E := ssE) (T := 102) (slc0 gp PV.length cp) PV B x0 v v.v [v.v] (by kernel_rfl) rfl rfl rfl hx0 rfl rfl rfl (by intro u hu; simp only [List.mem_singleton] at hu; subst hu; rfl) (by simp [ssE]) (by decide) rfl (fun wc hc => hM.kept hc.kept fun g hg hin => by have e : gp = g := Option.some.inj hg; simp [BlkIn, nth, blkOf, vaddr] at hin; omega) (fun wc hc g hg => ?_) ⟨wb, hM⟩ (fun wc wd hc hMd kcd => ?_)
  · have e : gp = g := Option.some.inj hg
    subst e
    exact ⟨fun hd => (by cases hd), fun hlt2 => by have : gp < w.heap.size := hlt2; omega, fun hin => by simp [BlkIn, nth, blkOf, vaddr] at hin; omega, fun hx => (by cases hx)⟩
  refine den_leafR _ rfl fun we he => ⟨slc0 gp PV.length cp, rfl, hMd.kept he.kept fun g hg hin => ?_, fun g hg => by have e : gp = g := Option.some.inj hg; omega⟩
  have e : gp = g := Option.some.inj hg
  simp [BlkIn, nth, blkOf, vaddr] at hin
  omega
theorem c42 (B A : Int) (w : World) (h : RfAt w S d fv pv ev Fl PV RP) (hw : Wf d) :
    GivesR Try.prog 42 [refV d.g fv pv ev d.n d.cut d.cb d.off, .int .i64 B, .int .i64 A] w (fun r w' => ∃ sa sb, r = .tuple #[sa, sb, .int .i64 (d.rdE B A)] ∧ Src w' sa (d.rdA B A) ∧ Src w' sb (d.rdB B A) ∧ outS S sa ∧ outS S sb) := by
  have err : ∀ (e : Int) (w' : World), e ≠ 0 → d.rdE B A = e → ∃ sa sb, Value.tuple #[nilS, nilS, .int .i64 e] = .tuple #[sa, sb, .int .i64 (d.rdE B A)] ∧ Src w' sa (d.rdA B A) ∧ Src w' sb (d.rdB B A) ∧ outS S sa ∧ outS S sb := fun e w' he h => by
    have n0 : ¬ d.rdE B A = 0 := by rw [h]; exact he
    refine ⟨nilS, nilS, by rw [h], ?_, ?_, outS.nil, outS.nil⟩
    · unfold Dv.rdA; rw [if_neg n0]; exact given_nil.src
    · unfold Dv.rdB; rw [if_neg n0]; exact given_nil.src
  obtain ⟨fa, fc, e1⟩ := h.f.1.slice
  obtain ⟨pa, pc, e2⟩ := h.p.1.slice
  obtain ⟨ea, ec, e3⟩ := h.e.1.slice
  subst e1 e2 e3
  have hs0 : d.hasP B A = false → d.state B A = 0 := fun h => by simp [Dv.state, h]
  refine givesR mix t42 rfl rfl (ε := [.int .i64 d.g.b, .int .i64 d.g.p, .int .i64 d.g.s, .int .i64 d.g.e, .slice fa Fl.length fc, .slice pa PV.length pc, .slice ea d.ers.length ec, .int .i64 d.n, .int .i64 d.cut, .int .i64 d.cb, .bool d.off, .int .i64 B, .int .i64 A]) ⟨⟨_, rfl⟩, ⟨_, rfl⟩, ⟨_, rfl⟩, ⟨_, rfl⟩, ⟨_, _, _, rfl⟩, ⟨_, _, _, rfl⟩, ⟨_, _, _, rfl⟩, ⟨_, rfl⟩, ⟨_, rfl⟩, ⟨_, rfl⟩, ⟨_, rfl⟩, ⟨_, rfl⟩, ⟨_, rfl⟩, trivial⟩ (den_blk fun b k _ _ => den_norm (by simp only [List.cons_append, List.nil_append]; rfl) ?_)
  have zb : w.heap.size ≤ b := k
  refine den_call_int (x := d.state B A) (fun w1 h1 => c47 B A w1 (h.same h1.base) hw) rfl (fun w1 w2 h1 h2 => den_norm (by simp only [List.cons_append, List.nil_append]; rfl) (den_splitEq (fun hs => ?_) (fun hs => ?_)))
  · have hs' : d.state B A = 0 := hs
    have hP : d.hasP B A = false := by
      cases hP : d.hasP B A with
      | false => rfl
      | true =>
        obtain ⟨i, ei, hi, hq⟩ := hw.pgAt hP
        have ok := (hw.blk (Dv.hasB_of hP)).pg i _ hq
        have := ok.lo
        unfold Dv.state at hs'
        rw [if_pos hP] at hs'
        omega
    exact den_leafR _ rfl fun w3 _ => err 2 w3 (by decide) (by unfold Dv.rdE; rw [if_pos hP])
  have hs' : d.state B A ≠ 0 := hs
  have hP : d.hasP B A = true := by
    cases hP : d.hasP B A with
    | true => rfl
    | false => exact absurd (hs0 hP) hs'
  have hbn : ¬ d.hasP B A = false := by rw [hP]; decide
  have hst : d.state B A = ((d.blk B).pg A).st := by unfold Dv.state; rw [if_pos hP]
  refine den_split (fun ho => ?_) (fun ho => ?_)
  · have ho' : d.off = true := ho
    exact den_leafR _ rfl fun w5 _ => err 50 w5 (by decide) (by unfold Dv.rdE; rw [if_neg hbn, if_pos ho'])
  have ho' : ¬ d.off = true := by have : d.off = false := ho; rw [this]; decide
  refine den_splitEq (fun hs => ?_) (fun hs1 => den_splitEq (fun hs => ?_) (fun hs4 => den_splitEq (fun hs => ?_) (fun hs5 => ?_)))
  · have q : ((d.blk B).pg A).st = 1 := by rw [← hst]; exact hs
    exact den_leafR _ rfl fun w5 _ => err 52 w5 (by decide) (by unfold Dv.rdE; rw [if_neg hbn, if_neg ho', if_pos q])
  · have n1 : ¬ ((d.blk B).pg A).st = 1 := by rw [← hst]; exact hs1
    have q : ((d.blk B).pg A).st = 4 := by rw [← hst]; exact hs
    exact den_leafR _ rfl fun w5 _ => err 53 w5 (by decide) (by unfold Dv.rdE; rw [if_neg hbn, if_neg ho', if_neg n1, if_pos q])
  · have n1 : ¬ ((d.blk B).pg A).st = 1 := by rw [← hst]; exact hs1
    have n4 : ¬ ((d.blk B).pg A).st = 4 := by rw [← hst]; exact hs4
    have q : ((d.blk B).pg A).st = 5 := by rw [← hst]; exact hs
    exact den_leafR _ rfl fun w5 _ => err 53 w5 (by decide) (by unfold Dv.rdE; rw [if_neg hbn, if_neg ho', if_neg n1, if_neg n4, if_pos q])
  have n1 : ¬ ((d.blk B).pg A).st = 1 := by rw [← hst]; exact hs1
  have n4 : ¬ ((d.blk B).pg A).st = 4 := by rw [← hst]; exact hs4
  have n5 : ¬ ((d.blk B).pg A).st = 5 := by rw [← hst]; exact hs5
  have e0 : d.rdE B A = 0 := by unfold Dv.rdE; rw [if_neg hbn, if_neg ho', if_neg n1, if_neg n4, if_neg n5]
  have H2 := (h.same (shown_same h1)).same h2
  have s02 := (shown_same h1).trans h2
  obtain ⟨j, v, R, ej, hj, hv, hR, hx, hG, _, hRs, hn⟩ := H2.at_ (Dv.hasB_of hP)
  obtain ⟨i, ei, hi, hq⟩ := hw.pgAt hP
  have ok := (hw.blk (Dv.hasB_of hP)).pg i _ hq
  have lo := ok.lo
  have hi5 := ok.hi
  have hD : (((d.blk B).pg A).D.length : Int) = d.g.s + 64 := ok.data (by omega)
  have hi' : i < R.length := by rw [hRs.len]; exact hi
  obtain ⟨q1, q2, q3⟩ := hRs.at_ i _ _ (List.getElem?_eq_getElem hi') hq
  have s0 := hw.s0
  obtain ⟨n, hn'⟩ : ∃ n : Nat, d.g.s = n := ⟨d.g.s.toNat, by omega⟩
  refine den_idx2 (E := ssE) (L := PV) v j [v.v] H2.p.1 rfl (by decide) ej hv ⟨⟨_, _, _, rfl⟩, trivial⟩ (cellk _ 0 _ rfl) (fun wa ha => (H2.same (shown_same ha)).p.1) (fun ad had hin => by simp [BlkIn, nth, blkOf, vaddr] at hin) fun w3 h3 => den_norm (by simp only [List.cons_append, List.nil_append]; rfl) ?_
  have s3 := shown_same h3
  refine den_idx2 (E := rpE) (L := R) R[i] i [R[i].s.v] (hG.same s3).1 rfl (by decide) ei (List.getElem?_eq_getElem hi') ⟨⟨_, _, _, rfl⟩, trivial⟩ (cellk _ 1 _ rfl) (fun wa ha => ((hG.same s3).same (shown_same ha)).1) (fun ad had hin => by simp [BlkIn, nth, blkOf, vaddr] at hin) fun w4 h4 => den_norm (by simp only [List.cons_append, List.nil_append]; rfl) (den_start1 fun w5 h5 => ?_)
  have s45 := (s3.trans (shown_same h4)).trans (shown_same h5)
  have g5 := q2.same s45
  generalize eD : ((d.blk B).pg A).D = D at hD g5
  obtain ⟨qa, qc, eq⟩ := g5.1.slice
  rw [eq] at g5 q3 ⊢
  have hcap : D.length ≤ qc := g5.2.2.1
  have hsn : d.g.s.toNat = n := by omega
  refine den_slice qa D.length qc none (some (n : Int)) none 0 n qc 1 u26 st5 (fun ρ h => h.1) (fun _ _ => rfl) (fun ρ h => congrArg some (h.2.1.trans (by simp only [SV.den, IE.den, nth, vint]; rw [hn']))) (fun _ _ => rfl) (.inl ⟨rfl, rfl⟩) (.inr ⟨rfl, by omega⟩) (.inl ⟨rfl, rfl⟩) (fun _ => rfl) (den_norm (by simp only [List.cons_append, List.nil_append]; rfl) ?_)
  refine den_slice qa D.length qc (some (n : Int)) none none n D.length qc 1 u26 st5 (fun ρ h => h.1) (fun ρ h => congrArg some (h.2.1.trans (by simp only [SV.den, IE.den, nth, vint]; rw [hn']))) (fun _ _ => rfl) (fun _ _ => rfl) (.inl ⟨rfl, rfl⟩) (.inl ⟨rfl, rfl, rfl⟩) (.inr ⟨rfl, by omega⟩) (fun _ => rfl) (den_norm (by simp only [List.cons_append, List.nil_append]; rfl) ?_)
  have qs : qa ≠ none := fun e => by
    rw [e] at g5
    have := (g5.2.1 _ _ rfl).1
    omega
  obtain ⟨ad0, had0⟩ := Option.ne_none_iff_exists'.1 qs
  subst had0
  have A1 : Arr byteE w5 (sliced (some ad0) 0 n qc 1) (D.take n) := by
    have := g5.1.sub (l := 0) (k := n) (m := qc) (Nat.zero_le _) (by omega) (by omega)
    simpa [byteE] using this
  have A2 : Arr byteE w5 (sliced (some ad0) n D.length qc 1) (D.drop n) := by
    have := g5.1.sub (l := n) (k := D.length) (m := qc) (by omega) (Nat.le_refl _) hcap
    simpa [byteE] using this
  have ob : ∀ {l k m : Nat} {ad : Addr}, vaddr (sliced (some ad0) l k m 1) = some ad → ad.block = ad0.block := fun {l k m ad} h => by
    simp only [sliced, Option.map_some, vaddr] at h
    split at h
    · cases h; rfl
    · cases h; rw [add_block]
  have nn : ∀ {l k m n c : Nat}, sliced (some ad0) l k m 1 = .slice none n c → n = 0 ∧ c = 0 := fun {l k m n c} h => by
    simp only [sliced, Option.map_some] at h
    split at h <;> cases h
  refine den_leafR _ rfl fun w6 h6 => ⟨_, _, by rw [e0]; rfl, ⟨?_, fun n c e => nn e⟩, ⟨?_, fun n c e => nn e⟩, fun ad had => ?_, fun ad had => ?_⟩
  · unfold Dv.rdA
    rw [if_pos e0, eD, hsn]
    exact A1.same (shown_same h6)
  · unfold Dv.rdB
    rw [if_pos e0, eD, hsn]
    exact A2.same (shown_same h6)
  · rw [ob had]; exact q3 ad0 rfl
  · rw [ob had]; exact q3 ad0 rfl
end
end Go.Proofs.Ytppbapnibpeolaa
