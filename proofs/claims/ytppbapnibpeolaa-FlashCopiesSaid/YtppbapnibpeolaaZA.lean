/- A call on a device and on its reference, and their comparison. No conditions beyond those that each theorem names. -/
import Derived.Test.YtppbapnibpeolaaYB
import Derived.Test.YtppbapnibpeolaaTH
set_option maxRecDepth 100000
set_option maxHeartbeats 4000000
set_option linter.unusedVariables false
set_option linter.unusedSimpArgs false
namespace Go.Proofs.Ytppbapnibpeolaa
open Go.Sx

theorem fpM {P : Program} {w0 wx : World} {M S X : Nat → Prop} {ε : List Value} {un t : List Nat} {fs : Facts} {drawn : Bool} (hX : ∀ y, S y → X y) (hM : ∀ y, S y → y < w0.heap.size → M y) (hun : ∀ y, BlkIn ε un y → ¬ S y) : ∀ w, Shown (GM P w0 M false) ε t fs wx w → ∀ y, S y → y < w.heap.size → FpOk (GM P w0 M false) drawn X ε un w y :=
  fun w _ y hy _ => ⟨fun _ => hX y hy, fun hl => hM y hy hl, fun hin => hun y hin hy, fun h => (by cases h)⟩
theorem fpM0 {P : Program} {w0 wx : World} {M S X : Nat → Prop} {ε : List Value} {un t : List Nat} {fs : Facts} (hM : ∀ y, S y → y < w0.heap.size → M y) (hun : ∀ y, BlkIn ε un y → ¬ S y) : ∀ w, Shown (GM P w0 M false) ε t fs wx w → ∀ y, S y → y < w.heap.size → FpOk (GM P w0 M false) false X ε un w y :=
  fun w _ y hy _ => ⟨fun h => (by cases h), fun hl => hM y hy hl, fun hin => hun y hin hy, fun h => (by cases h)⟩
def Dv.act (d : Dv) (a : Ac) : Dv := if 0 ≤ a.wh ∧ a.wh ≤ 3 then d.prgD a.bl a.pg a.D a.Sp else if a.wh = 4 then d.ersD a.bl else if a.wh = 5 then d else if a.wh = 6 then d.cutD a.bl a.pg else d.rst
theorem Wf.act {d : Dv} (hw : Wf d) (a : Ac) : Wf (d.act a) := by
  unfold Dv.act
  split
  · exact hw.prgD _ _ _ _
  · split
    · exact hw.ersD _
    · split
      · exact hw
      · split
        · exact hw.cutD _ _
        · exact hw.rst
theorem act_n (d : Dv) (a : Ac) : (d.act a).n ≤ d.n + 1 ∧ (d.act a).g = d.g := by
  unfold Dv.act
  split
  · exact ⟨(d.prgD_n _ _ _ _).2.1, (d.prgD_n _ _ _ _).2.2⟩
  · split
    · exact ⟨(d.ersD_n _).2.1, (d.ersD_n _).2.2⟩
    · split
      · exact ⟨by omega, rfl⟩
      · split
        · have := d.cutD_n a.bl a.pg; exact ⟨by omega, this.2⟩
        · exact ⟨by show d.n ≤ d.n + 1; omega, rfl⟩
section
variable {w w' : World} {S T S' T' M : Nat → Prop} {b mf : Nat} {sB : Value} {Lb : List Bv} {d : Dv} {fv pv ev : Value} {Fl : List Int} {PV : List Sl} {RP : List (List Rv)}
theorem RfAt.shrink (h : RfAt w S d fv pv ev Fl PV RP) (hs : ∀ y, S' y → S y) : RfAt w S' d fv pv ev Fl PV RP :=
  ⟨h.f, fun ad had q => h.fo ad had (hs _ q), h.fF, h.fl, h.p, fun ad had q => h.po ad had (hs _ q), h.e, fun ad had q => h.eo ad had (hs _ q), h.l1, h.l2, fun B v R x a1 a2 a3 => let ⟨q1, q2, q3⟩ := h.el B v R x a1 a2 a3; ⟨q1, fun ad had q => q2 ad had (hs _ q), q3.len, fun i r p c1 c2 => let ⟨e1, e2, e3⟩ := q3.at_ i r p c1 c2; ⟨e1, e2, fun ad had q => e3 ad had (hs _ q)⟩⟩⟩
theorem ref_cells (h : RfAt w S d fv pv ev Fl PV RP) : (∃ a c, fv = .slice a Fl.length c) ∧ (∃ a c, pv = .slice a PV.length c) ∧ ∃ a c, ev = .slice a d.ers.length c := ⟨h.f.1.slice, h.p.1.slice, h.e.1.slice⟩
theorem ref_fits (h : RfAt w S d fv pv ev Fl PV RP) (n cut cb : Int) (off : Bool) : Fits [.int .i64, .int .i64, .int .i64, .int .i64, .slice, .slice, .slice, .int .i64, .int .i64, .int .i64, .bool] (refC d.g fv pv ev n cut cb off) := by
  obtain ⟨⟨a1, c1, e1⟩, ⟨a2, c2, e2⟩, ⟨a3, c3, e3⟩⟩ := ref_cells h
  exact ⟨⟨_, rfl⟩, ⟨_, rfl⟩, ⟨_, rfl⟩, ⟨_, rfl⟩, ⟨_, _, _, e1⟩, ⟨_, _, _, e2⟩, ⟨_, _, _, e3⟩, ⟨_, rfl⟩, ⟨_, rfl⟩, ⟨_, rfl⟩, ⟨_, rfl⟩, trivial⟩
theorem ref_fits2 (h : RfAt w S d fv pv ev Fl PV RP) (n cut cb : Int) (off : Bool) (e : Int) : Fits [.int .i64, .int .i64, .int .i64, .int .i64, .slice, .slice, .slice, .int .i64, .int .i64, .int .i64, .bool, .int .i64] (refC d.g fv pv ev n cut cb off ++ [.int .i64 e]) := by
  obtain ⟨⟨a1, c1, e1⟩, ⟨a2, c2, e2⟩, ⟨a3, c3, e3⟩⟩ := ref_cells h
  exact ⟨⟨_, rfl⟩, ⟨_, rfl⟩, ⟨_, rfl⟩, ⟨_, rfl⟩, ⟨_, _, _, e1⟩, ⟨_, _, _, e2⟩, ⟨_, _, _, e3⟩, ⟨_, rfl⟩, ⟨_, rfl⟩, ⟨_, rfl⟩, ⟨_, rfl⟩, ⟨_, rfl⟩, trivial⟩
theorem RfAt.of_bs {d' : Dv} (h : RfAt w S d fv pv ev Fl PV RP) (hb : d'.bs = d.bs) (hF : d'.F = d.F) : RfAt w S d' fv pv ev Fl PV RP :=
  ⟨h.f, h.fo, by rw [hF]; exact h.fF, h.fl, h.p, h.po, by rw [show d'.ers = d.ers by simp [Dv.ers, hb]]; exact h.e, h.eo, by rw [hb]; exact h.l1, by rw [hb]; exact h.l2, fun B v R x a1 a2 a3 => h.el B v R x a1 a2 (by rw [← hb]; exact a3)⟩
theorem cutD_same (d : Dv) (o c : Int) : (d.cutD o c).g = d.g ∧ (d.cutD o c).n = d.n ∧ (d.cutD o c).off = d.off := by unfold Dv.cutD; split <;> exact ⟨rfl, rfl, rfl⟩
theorem RfAt.of_cut {o c : Int} (h : RfAt w S d fv pv ev Fl PV RP) : RfAt w S (d.cutD o c) fv pv ev Fl PV RP := h.of_bs (cutD_bs d o c) (by unfold Dv.cutD; split <;> rfl)
/-- what act leaves -/
def actR (w : World) (S T : Nat → Prop) (b mf : Nat) (sB : Value) (d : Dv) (r : Value) (w' : World) : Prop :=
  ∃ rv' S' T' Lb', r = .tuple #[rv', .bool true] ∧ Nxt w S T S' T' ∧ DevM w' S' T' b mf sB Lb' d ∧ RefAt w' T' d rv'
theorem c15 {lo : Nat} (v : Av) (a : Ac) (w : World) (h : DevM w S T b mf sB Lb d) (hw : Wf d) (hr : RfAt w T d fv pv ev Fl PV RP) (hv : AvAt lo w v a) (hoa : okA a = true) (hn : d.n ≤ 100000000) :
    Runs Try.prog 15 [pt b, refV d.g fv pv ev d.n d.cut d.cb d.off, .agg v.cells.toArray] w S (actR w S T b mf sB (d.act a)) := by
  obtain ⟨fa, fc, x1⟩ := hr.f.1.slice
  obtain ⟨pa, pc, x2⟩ := hr.p.1.slice
  obtain ⟨ea, ec, x3⟩ := hr.e.1.slice
  subst x1 x2 x3
  obtain ⟨da, dc, ed⟩ := hv.d.src.1.slice
  obtain ⟨sa, sc, es⟩ := hv.s.src.1.slice
  obtain ⟨hoD, hoS⟩ : a.D.length ≤ 100 ∧ a.Sp.length ≤ 100 := by simpa [okA] using hoa
  have lS : ∀ {y}, S y → y < w.heap.size := fun {y} hy => h.lt _ (h.ST _ hy)
  have lT : ∀ {y}, T y → y < w.heap.size := fun {y} hy => h.lt _ hy
  have gd : ∀ {wa : World}, Same w wa → Src wa (.slice da a.D.length dc) a.D := fun hs => by have := (hv.d.same hs).src; rw [ed] at this; exact this
  have gs : ∀ {wa : World}, Same w wa → Src wa (.slice sa a.Sp.length sc) a.Sp := fun hs => by have := (hv.s.same hs).src; rw [es] at this; exact this
  have hh := runs mix t15 rfl rfl (ε := [pt b, .int .i64 d.g.b, .int .i64 d.g.p, .int .i64 d.g.s, .int .i64 d.g.e, .slice fa Fl.length fc, .slice pa PV.length pc, .slice ea d.ers.length ec, .int .i64 d.n, .int .i64 d.cut, .int .i64 d.cb, .bool d.off, .int .i64 v.wh, .int .i64 v.bl, .int .i64 v.pg, .slice da a.D.length dc, .slice sa a.Sp.length sc]) (heap := []) (w := w) (M := S) (R := actR w S T b mf sB (d.act a)) ⟨⟨_, rfl⟩, ⟨_, rfl⟩, ⟨_, rfl⟩, ⟨_, rfl⟩, ⟨_, rfl⟩, ⟨_, _, _, rfl⟩, ⟨_, _, _, rfl⟩, ⟨_, _, _, rfl⟩, ⟨_, rfl⟩, ⟨_, rfl⟩, ⟨_, rfl⟩, ⟨_, rfl⟩, ⟨_, rfl⟩, ⟨_, rfl⟩, ⟨_, rfl⟩, ⟨_, _, _, rfl⟩, ⟨_, _, _, rfl⟩, trivial⟩ trivial (by simp [keys]) (by simp [keys]) (by simp [keys]) ?_
  · have : Value.agg v.cells.toArray = .agg #[.int .i64 v.wh, .int .i64 v.bl, .int .i64 v.pg, .slice da a.D.length dc, .slice sa a.Sp.length sc] := by simp [Av.cells, ed, es]
    rw [this]
    exact hh
  refine den_blk fun b17 k17 _ kW17 => den_norm (by simp only [List.cons_append, List.nil_append]; rfl) (den_blk fun b18 k18 _ kW18 => den_norm (by simp only [List.cons_append, List.nil_append]; rfl) (den_blk fun b19 k19 _ kW19 => den_norm (by simp only [List.cons_append, List.nil_append]; rfl) ?_))
  have z17 : w.heap.size ≤ b17 := kW17
  have z18 : w.heap.size ≤ b18 := kW18
  have z19 : w.heap.size ≤ b19 := kW19
  rw [hv.wh]
  refine den_cut (fun l w' => l = [.bool (decide (0 ≤ a.wh ∧ a.wh ≤ 3))] ∧ Same w w') ?_ ?_
  · refine den_splitEq (fun e => den_leaf_eq fun wa ha => ⟨?_, shown_same ha⟩) (fun n0 => den_splitEq (fun e => den_leaf_eq fun wa ha => ⟨?_, shown_same ha⟩) (fun n1 => den_splitEq (fun e => den_leaf_eq fun wa ha => ⟨?_, shown_same ha⟩) (fun n2 => den_leaf_eq fun wa ha => ⟨?_, shown_same ha⟩)))
    · have e' : a.wh = 0 := e
      show [Value.bool (decide (a.wh = 0))] = _
      rw [decide_eq_true e', decide_eq_true (by omega)]
    · have e' : a.wh = 1 := e
      show [Value.bool (decide (a.wh = 1))] = _
      rw [decide_eq_true e', decide_eq_true (by omega)]
    · have e' : a.wh = 2 := e
      show [Value.bool (decide (a.wh = 2))] = _
      rw [decide_eq_true e', decide_eq_true (by omega)]
    · have m0 : a.wh ≠ 0 := n0
      have m1 : a.wh ≠ 1 := n1
      have m2 : a.wh ≠ 2 := n2
      show [Value.bool (decide (a.wh = 3))] = _
      rw [decide_eq_decide.2 (show a.wh = 3 ↔ (0 ≤ a.wh ∧ a.wh ≤ 3) by omega)]
  rintro l w1 hfl ⟨rfl, s01⟩ hk1 hfa1
  have l17 : b17 < w1.heap.size := by obtain ⟨b', ty, e, hh⟩ := hfa1.2.2.1; have e' : pt b17 = pt b' := e; cases e'; exact (Array.getElem?_eq_some_iff.1 hh).1
  have l18 : b18 < w1.heap.size := by obtain ⟨b', ty, e, hh⟩ := hfa1.2.1; have e' : pt b18 = pt b' := e; cases e'; exact (Array.getElem?_eq_some_iff.1 hh).1
  have l19 : b19 < w1.heap.size := by obtain ⟨b', ty, e, hh⟩ := hfa1.1; have e' : pt b19 = pt b' := e; cases e'; exact (Array.getElem?_eq_some_iff.1 hh).1
  have z01 : w.heap.size ≤ w1.heap.size := s01.size
  -- the reference with all that is there so far left alone
  have hrP : ∀ {wa : World}, Same w wa → RfAt wa (fun y => T y ∨ (w.heap.size ≤ y ∧ y < wa.heap.size)) d (.slice fa Fl.length fc) (.slice pa PV.length pc) (.slice ea d.ers.length ec) Fl PV RP := fun {wa} hs => (hr.next (S' := fun y => T y ∨ (w.heap.size ≤ y ∧ y < wa.heap.size)) fun y hy => hy.imp_right (·.1)).same hs
  have hDP : ∀ {wa : World}, Same w wa → DevM wa S (fun y => T y ∨ (w.heap.size ≤ y ∧ y < wa.heap.size)) b mf sB Lb d := fun {wa} hs => h.later hs (fun _ _ h => h) (fun y hy => .inl hy) (fun y hy hy2 => hy2.resolve_right (by omega)) (fun y hy => by
    rcases hy with hy | hy
    · exact Nat.lt_of_lt_of_le (lT hy) hs.size
    · exact hy.2)
  refine den_norm (by simp only [List.cons_append, List.nil_append]; rfl) (den_split (fun hwh => ?_) (fun hwh => ?_))
  · skip
    have hwh' : 0 ≤ a.wh ∧ a.wh ≤ 3 := of_decide_eq_true hwh
    have e1 := hv.bl
    have e2 := hv.pg
    have eAct : d.act a = d.prgD v.bl v.pg a.D a.Sp := by unfold Dv.act; rw [if_pos hwh', e1, e2]
    rw [eAct]
    refine den_callR (fun wa l wb => ∃ fv pv ev Fl PV RP, l = refC (d.prgD v.bl v.pg a.D a.Sp).g fv pv ev (d.prgD v.bl v.pg a.D a.Sp).n (d.prgD v.bl v.pg a.D a.Sp).cut (d.prgD v.bl v.pg a.D a.Sp).cb (d.prgD v.bl v.pg a.D a.Sp).off ++ [.int .i64 (d.prgE v.bl v.pg a.D a.Sp)] ∧ RfAt wb (fun y => T y ∨ (w.heap.size ≤ y ∧ y < wa.heap.size)) (d.prgD v.bl v.pg a.D a.Sp) fv pv ev Fl PV RP) (fun w2 h2 => ?_) (fun w2 l w3 h2 hfl2 hR k23 => ?_)
    · have s02 := s01.trans (shown_same h2)
      refine (c40 v.bl v.pg _ _ a.D a.Sp w2 (hrP s02) hw (gd s02) (gs s02) (by omega) (by omega) (by omega) (fun y hy => hy.elim (fun hy => by have := lT hy; have := s02.size; omega) (·.2))).mono fun r w' ⟨rv, q1, fv, pv, ev, Fl, PV, RP, q2, q3⟩ => ?_
      exact ⟨_, ref_fits2 q3 _ _ _ _ _, by rw [q1, q2]; rfl, fv, pv, ev, Fl, PV, RP, rfl, q3⟩
    obtain ⟨fv2, pv2, ev2, Fl2, PV2, RP2, rfl, hR2⟩ := hR
    refine den_norm (by simp only [List.cons_append, List.nil_append, refC]; rfl) (den_blk fun b33 k33 _ kW33 => den_norm (by simp only [List.cons_append, List.nil_append]; rfl) ?_)
    have z33 : w3.heap.size ≤ b33 := k33
    have zW33 : w.heap.size ≤ b33 := kW33
    have z12 : w1.heap.size ≤ w2.heap.size := (shown_same h2).size
    have z23 : w2.heap.size ≤ w3.heap.size := k23.size
    have s03 : Same w w3 := (s01.trans (shown_same h2)).trans k23
    intro w4 h4
    have s34 : Same w3 w4 := shown_new h4 fun y hy => (by have e : b33 = y := (by simpa [BlkIn, nth, blkOf, vaddr] using hy); omega)
    have s04 := s03.trans s34
    have z34 : w3.heap.size ≤ w4.heap.size := s34.size
    have l33 : b33 < w4.heap.size := h4.lt (i := 33) (by simp [keys]) rfl
    refine ⟨fun y => S y ∨ y = b33 ∨ y = b19 ∨ y = b18 ∨ y = b17, fun y hy => ?_, ?_⟩
    · have e : b33 = y ∨ b19 = y ∨ b18 = y ∨ b17 = y := by simpa [BlkIn, nth, blkOf, vaddr] using hy
      omega
    have D4 := hDP s04
    have hun : ∀ y, (b33 = y ∨ b19 = y ∨ b18 = y ∨ b17 = y) → ¬ S y := fun y e hs => by have := lS hs; omega
    refine den_m19 rfl v.bl v.pg _ _ a.D a.Sp (d.prgE v.bl v.pg a.D a.Sp) (d.prgD v.bl v.pg a.D a.Sp) rfl (fun _ => rfl) (fun wa ha => D4.same (shown_same ha)) hw (fun wa ha => (gd s04).same (shown_same ha)) (fun wa ha => (gs s04).same (shown_same ha)) (by omega) (by omega) (by omega) rfl rfl (fpM (fun y hy => .inl hy) (fun y hy _ => hy) ?_) (fun w5 w6 Lb6 h5 k56 D6 => den_norm (by simp only [List.cons_append, List.nil_append]; rfl) ?_)
    · intro y hin
      exact hun y (by simpa [BlkIn, nth, blkOf, vaddr] using hin)
    refine den_m18 rfl _ rfl (fun _ => rfl) (fun w7 w8 h7 k78 => den_norm (by simp only [List.cons_append, List.nil_append]; rfl) ?_)
    have s68 := (shown_same h7).trans k78
    have D8 := D6.same s68
    have R5 : RfAt w5 (fun y => T y ∨ (w.heap.size ≤ y ∧ y < w2.heap.size)) _ fv2 pv2 ev2 Fl2 PV2 RP2 := (hR2.same s34).same (shown_same h5)
    have R8 := (R5.kept k56 fun y hy => .inl (h.ST _ hy)).same s68
    refine den_leafA _ rfl fun wz hz => ⟨_, S, T, Lb6, by simp [denL, SV.den, BE.den, IE.den, nth, vint, vbool, vlen, List.cons_append, List.nil_append, ltB_eq, leB_eq, eqB_eq, refV, refC], .refl h.ST, ?_, fv2, pv2, ev2, Fl2, PV2, RP2, rfl, ?_⟩
    · have kz : Kept (fun y => y = b19) w8 wz := hz.kept.mono fun y _ hin => (show b19 = y by simpa [BlkIn, nth, blkOf, vaddr] using hin).symm
      exact (D8.kept kz (fun y _ e => .inr ⟨by omega, by omega⟩) (fun y _ e hs => by have := lS hs; omega)).shrink (fun y hy => .inl hy) h.ST
    · have kz : Kept (fun y => y = b19) w8 wz := hz.kept.mono fun y _ hin => (show b19 = y by simpa [BlkIn, nth, blkOf, vaddr] using hin).symm
      exact (R8.kept kz fun y e => .inr ⟨by omega, by omega⟩).shrink fun y hy => .inl hy
  have hwh' : ¬ (0 ≤ a.wh ∧ a.wh ≤ 3) := of_decide_eq_false hwh
  have e1 := hv.bl
  have e2 := hv.pg
  refine den_splitEq (fun q4 => ?_) (fun q4 => ?_)
  · skip
    have q4' : a.wh = 4 := q4
    have eAct : d.act a = d.ersD v.bl := by unfold Dv.act; rw [if_neg hwh', if_pos q4', e1]
    rw [eAct]
    refine den_callR (fun wa l wb => ∃ fv pv ev Fl PV RP, l = refC (d.ersD v.bl).g fv pv ev (d.ersD v.bl).n (d.ersD v.bl).cut (d.ersD v.bl).cb (d.ersD v.bl).off ++ [.int .i64 (d.ersE v.bl)] ∧ RfAt wb (fun y => T y ∨ (w.heap.size ≤ y ∧ y < wa.heap.size)) (d.ersD v.bl) fv pv ev Fl PV RP) (fun w2 h2 => ?_) (fun w2 l w3 h2 hfl2 hR k23 => ?_)
    · have s02 := s01.trans (shown_same h2)
      refine (c41 v.bl w2 (hrP s02) hw (by omega) (fun y hy => hy.elim (fun hy => by have := lT hy; have := s02.size; omega) (·.2))).mono fun r w' ⟨rv, q1, fv, pv, ev, Fl, PV, RP, q2, q3⟩ => ?_
      exact ⟨_, ref_fits2 q3 _ _ _ _ _, by rw [q1, q2]; rfl, fv, pv, ev, Fl, PV, RP, rfl, q3⟩
    obtain ⟨fv2, pv2, ev2, Fl2, PV2, RP2, rfl, hR2⟩ := hR
    refine den_norm (by simp only [List.cons_append, List.nil_append, refC]; rfl) (den_blk fun b33 k33 _ kW33 => den_norm (by simp only [List.cons_append, List.nil_append]; rfl) ?_)
    have z33 : w3.heap.size ≤ b33 := k33
    have zW33 : w.heap.size ≤ b33 := kW33
    have z12 : w1.heap.size ≤ w2.heap.size := (shown_same h2).size
    have z23 : w2.heap.size ≤ w3.heap.size := k23.size
    have s03 : Same w w3 := (s01.trans (shown_same h2)).trans k23
    intro w4 h4
    have s34 : Same w3 w4 := shown_new h4 fun y hy => (by have e : b33 = y := (by simpa [BlkIn, nth, blkOf, vaddr] using hy); omega)
    have s04 := s03.trans s34
    have z34 : w3.heap.size ≤ w4.heap.size := s34.size
    have l33 : b33 < w4.heap.size := h4.lt (i := 33) (by simp [keys]) rfl
    refine ⟨fun y => S y ∨ y = b33 ∨ y = b19 ∨ y = b18 ∨ y = b17, fun y hy => ?_, ?_⟩
    · have e : b33 = y ∨ b19 = y ∨ b18 = y ∨ b17 = y := by simpa [BlkIn, nth, blkOf, vaddr] using hy
      omega
    have D4 := hDP s04
    have hun : ∀ y, (b33 = y ∨ b19 = y ∨ b18 = y ∨ b17 = y) → ¬ S y := fun y e hs => by have := lS hs; omega
    refine den_m20 rfl v.bl (d.ersE v.bl) (d.ersD v.bl) rfl (fun _ => rfl) (fun wa ha => D4.same (shown_same ha)) hw (by omega) rfl rfl (fpM (fun y hy => .inl hy) (fun y hy _ => hy) ?_) (fun w5 w6 S2 T2 Lb6 h5 k56 hnx D6 => den_norm (by simp only [List.cons_append, List.nil_append]; rfl) ?_)
    · intro y hin
      exact hun y (by simpa [BlkIn, nth, blkOf, vaddr] using hin)
    refine den_m18 rfl _ rfl (fun _ => rfl) (fun w7 w8 h7 k78 => den_norm (by simp only [List.cons_append, List.nil_append]; rfl) ?_)
    have s68 := (shown_same h7).trans k78
    have D8 := D6.same s68
    have R5 : RfAt w5 (fun y => (T y ∨ (w.heap.size ≤ y ∧ y < w2.heap.size)) ∨ S2 y) _ fv2 pv2 ev2 Fl2 PV2 RP2 := ((hR2.same s34).same (shown_same h5)).next fun y hy => hy.elim .inl fun hy => (hnx.dn y hy).imp_left fun q => .inl (h.ST _ q)
    have R8 := (R5.kept k56 fun y hy => .inl (.inl (h.ST _ hy))).same s68
    have z45 : w4.heap.size ≤ w5.heap.size := (shown_same h5).size
    have nxt : Nxt w S T S2 (fun y => T y ∨ S2 y) := ⟨hnx.up, fun y hy => (hnx.dn y hy).imp_right fun h => by have := s04.size; omega, fun y => Iff.rfl⟩
    refine den_leafA _ rfl fun wz hz => ⟨_, S2, (fun y => T y ∨ S2 y), Lb6, by simp [denL, SV.den, BE.den, IE.den, nth, vint, vbool, vlen, List.cons_append, List.nil_append, ltB_eq, leB_eq, eqB_eq, refV, refC], nxt, ?_, fv2, pv2, ev2, Fl2, PV2, RP2, rfl, ?_⟩
    · have kz : Kept (fun y => y = b19) w8 wz := hz.kept.mono fun y _ hin => (show b19 = y by simpa [BlkIn, nth, blkOf, vaddr] using hin).symm
      exact (D8.kept kz (fun y _ e => (hnx.T y).2 (.inl (.inr ⟨by omega, by omega⟩))) (fun y _ e hs => by rcases hnx.dn y hs with q | q; have := lS q; omega; omega)).shrink (fun y hy => (hnx.T y).2 (hy.imp_left .inl)) (fun y hy => .inr hy)
    · have kz : Kept (fun y => y = b19) w8 wz := hz.kept.mono fun y _ hin => (show b19 = y by simpa [BlkIn, nth, blkOf, vaddr] using hin).symm
      exact (R8.kept kz fun y e => .inl (.inr ⟨by omega, by omega⟩)).shrink fun y hy => hy.imp_left .inl
  have q4' : ¬ a.wh = 4 := q4
  refine den_splitEq (fun q5 => ?_) (fun q5 => ?_)
  · have q5' : a.wh = 5 := q5
    have eAct : d.act a = d := by unfold Dv.act; rw [if_neg hwh', if_neg q4', if_pos q5']
    rw [eAct]
    refine den_m13 rfl v.bl v.pg (d.rdE v.bl v.pg) (d.rdA v.bl v.pg) (d.rdB v.bl v.pg) rfl (fun _ _ _ => ⟨rfl, rfl, rfl⟩) (fun wa ha => (h.same s01).same (shown_same ha)) hw rfl rfl rfl (fun w2 va vb w3 h2 k23 m1 m2 _ _ => den_norm (by simp only [List.cons_append, List.nil_append]; rfl) ?_)
    have s03 := (s01.trans (shown_same h2)).trans k23
    refine den_callR (fun wa l wb => ∃ sa sb, l = [sa, sb, .int .i64 (d.rdE v.bl v.pg)] ∧ Src wb sa (d.rdA v.bl v.pg) ∧ Src wb sb (d.rdB v.bl v.pg)) (fun w4 h4 => ?_) (fun w4 l w5 h4 hfl hR k45 => ?_)
    · refine (c42 v.bl v.pg w4 ((hr.same s03).same (shown_same h4)) hw).mono fun r w' ⟨x, y, q1, q2, q3, _, _⟩ => ?_
      obtain ⟨_, _, ex⟩ := q2.1.slice
      obtain ⟨_, _, ey⟩ := q3.1.slice
      exact ⟨[x, y, .int .i64 (d.rdE v.bl v.pg)], ⟨⟨_, _, _, ex⟩, ⟨_, _, _, ey⟩, ⟨_, rfl⟩, trivial⟩, by rw [q1]; rfl, x, y, rfl, q2, q3⟩
    obtain ⟨x, y, rfl, sx, sy⟩ := hR
    have s35 := (shown_same h4).trans k45
    refine den_norm (by simp only [List.cons_append, List.nil_append]; rfl) (den_start1 fun w6 h6 => ?_)
    have s56 := shown_same h6
    refine den_m30 rfl _ _ _ _ true (strEq_refl _) rfl (fun _ => rfl) (fun wa ha => (((m1.same s35).same s56).same (shown_same ha)).given.src) (fun wa ha => (sx.same s56).same (shown_same ha)) (fun w7 w8 h7 k78 => den_norm (by simp only [List.cons_append, List.nil_append]; rfl) (den_split_true rfl ?_))
    have s68 := (shown_same h7).trans k78
    refine den_m30 rfl _ _ _ _ true (strEq_refl _) rfl (fun _ => rfl) (fun wa ha => ((((m2.same s35).same s56).same s68).same (shown_same ha)).given.src) (fun wa ha => ((sy.same s56).same s68).same (shown_same ha)) (fun w9 w10 h9 k910 => den_norm (by simp only [List.cons_append, List.nil_append]; rfl) (den_split_true rfl ?_))
    have s810 := (shown_same h9).trans k910
    refine den_m18 rfl _ rfl (fun _ => rfl) (fun w11 w12 h11 k1112 => den_norm (by simp only [List.cons_append, List.nil_append]; rfl) ?_)
    have s0z := (((s03.trans s35).trans s56).trans s68).trans s810 |>.trans (shown_same h11) |>.trans k1112
    have z0z : w.heap.size ≤ w12.heap.size := s0z.size
    have z1z : w1.heap.size ≤ w12.heap.size := by
      have := (shown_same h2).size
      have := k23.size
      have := s35.size
      have := s56.size
      have := s68.size
      have := s810.size
      have := (shown_same h11).size
      have := k1112.size
      omega
    refine den_leafA _ rfl fun wz hz => ⟨refV _ (.slice fa Fl.length fc) (.slice pa PV.length pc) (.slice ea d.ers.length ec) _ _ _ _, S, T, Lb, by simp [denL, SV.den, BE.den, IE.den, nth, vint, vbool, vlen, List.cons_append, List.nil_append, ltB_eq, leB_eq, eqB_eq, refV, refC, Dv.rst], .refl h.ST, ?_, _, _, _, Fl, PV, RP, rfl, ?_⟩
    · have kz : Kept (fun y => y = b19) w12 wz := hz.kept.mono fun y _ hin => (show b19 = y by simpa [BlkIn, nth, blkOf, vaddr] using hin).symm
      exact ((hDP s0z).kept kz (fun y _ e => .inr ⟨by omega, by omega⟩) (fun y _ e hs => by have := lS hs; omega)).shrink (fun y hy => .inl hy) h.ST
    · have kz : Kept (fun y => y = b19) w12 wz := hz.kept.mono fun y _ hin => (show b19 = y by simpa [BlkIn, nth, blkOf, vaddr] using hin).symm
      exact ((hrP s0z).kept kz fun y e => .inr ⟨by omega, by omega⟩).shrink fun y hy => .inl hy
  have q5' : ¬ a.wh = 5 := q5
  refine den_splitEq (fun q6 => ?_) (fun q6 => ?_)
  · skip
    have q6' : a.wh = 6 := q6
    have eAct : d.act a = d.cutD v.bl v.pg := by unfold Dv.act; rw [if_neg hwh', if_neg q4', if_neg q5', if_pos q6', e1, e2]
    rw [eAct]
    refine den_callR (fun wa l wb => ∃ fv pv ev Fl PV RP, l = refC (d.cutD v.bl v.pg).g fv pv ev (d.cutD v.bl v.pg).n (d.cutD v.bl v.pg).cut (d.cutD v.bl v.pg).cb (d.cutD v.bl v.pg).off ++ [.int .i64 (d.cutE v.bl v.pg)] ∧ RfAt wb (fun y => T y ∨ (w.heap.size ≤ y ∧ y < wa.heap.size)) (d.cutD v.bl v.pg) fv pv ev Fl PV RP) (fun w2 h2 => ?_) (fun w2 l w3 h2 hfl2 hR k23 => ?_)
    · have s02 := s01.trans (shown_same h2)
      have hR2 := hrP s02
      have hg := c43 v.bl v.pg w2 hR2 hw
      refine ⟨Calls.mono hg.run fun e w' ⟨q1, q2⟩ => ?_⟩
      have hR3 := (hR2.same q2).of_cut (o := v.bl) (c := v.pg)
      refine ⟨_, q1, ⟨_, ref_fits2 hR3 _ _ _ _ (d.cutE v.bl v.pg), ?_, _, _, _, _, _, _, rfl, hR3⟩, q2⟩
      rw [(cutD_same d v.bl v.pg).1, (cutD_same d v.bl v.pg).2.1, (cutD_same d v.bl v.pg).2.2]
      rfl
    obtain ⟨fv2, pv2, ev2, Fl2, PV2, RP2, rfl, hR2⟩ := hR
    refine den_norm (by simp only [List.cons_append, List.nil_append, refC]; rfl) (den_blk fun b33 k33 _ kW33 => den_norm (by simp only [List.cons_append, List.nil_append]; rfl) ?_)
    have z33 : w3.heap.size ≤ b33 := k33
    have zW33 : w.heap.size ≤ b33 := kW33
    have z12 : w1.heap.size ≤ w2.heap.size := (shown_same h2).size
    have z23 : w2.heap.size ≤ w3.heap.size := k23.size
    have s03 : Same w w3 := (s01.trans (shown_same h2)).trans k23
    intro w4 h4
    have s34 : Same w3 w4 := shown_new h4 fun y hy => (by have e : b33 = y := (by simpa [BlkIn, nth, blkOf, vaddr] using hy); omega)
    have s04 := s03.trans s34
    have z34 : w3.heap.size ≤ w4.heap.size := s34.size
    have l33 : b33 < w4.heap.size := h4.lt (i := 33) (by simp [keys]) rfl
    refine ⟨fun y => S y ∨ y = b33 ∨ y = b19 ∨ y = b18 ∨ y = b17, fun y hy => ?_, ?_⟩
    · have e : b33 = y ∨ b19 = y ∨ b18 = y ∨ b17 = y := by simpa [BlkIn, nth, blkOf, vaddr] using hy
      omega
    have D4 := hDP s04
    have hun : ∀ y, (b33 = y ∨ b19 = y ∨ b18 = y ∨ b17 = y) → ¬ S y := fun y e hs => by have := lS hs; omega
    refine den_m21 rfl v.bl v.pg (d.cutE v.bl v.pg) (d.cutD v.bl v.pg) rfl (fun _ => rfl) (fun wa ha => D4.same (shown_same ha)) hw rfl rfl (fpM (fun y hy => .inl hy) (fun y hy _ => hy) ?_) (fun w5 w6 h5 k56 D6 => den_norm (by simp only [List.cons_append, List.nil_append]; rfl) ?_)
    · intro y hin
      exact hun y (by simpa [BlkIn, nth, blkOf, vaddr] using hin)
    refine den_m18 rfl _ rfl (fun _ => rfl) (fun w7 w8 h7 k78 => den_norm (by simp only [List.cons_append, List.nil_append]; rfl) ?_)
    have s68 := (shown_same h7).trans k78
    have D8 := D6.same s68
    have R5 : RfAt w5 (fun y => T y ∨ (w.heap.size ≤ y ∧ y < w2.heap.size)) _ fv2 pv2 ev2 Fl2 PV2 RP2 := (hR2.same s34).same (shown_same h5)
    have R8 := (R5.kept k56 fun y hy => .inl (h.ST _ hy)).same s68
    refine den_leafA _ rfl fun wz hz => ⟨_, S, T, Lb, by simp [denL, SV.den, BE.den, IE.den, nth, vint, vbool, vlen, List.cons_append, List.nil_append, ltB_eq, leB_eq, eqB_eq, refV, refC], .refl h.ST, ?_, fv2, pv2, ev2, Fl2, PV2, RP2, rfl, ?_⟩
    · have kz : Kept (fun y => y = b19) w8 wz := hz.kept.mono fun y _ hin => (show b19 = y by simpa [BlkIn, nth, blkOf, vaddr] using hin).symm
      exact (D8.kept kz (fun y _ e => .inr ⟨by omega, by omega⟩) (fun y _ e hs => by have := lS hs; omega)).shrink (fun y hy => .inl hy) h.ST
    · have kz : Kept (fun y => y = b19) w8 wz := hz.kept.mono fun y _ hin => (show b19 = y by simpa [BlkIn, nth, blkOf, vaddr] using hin).symm
      exact (R8.kept kz fun y e => .inr ⟨by omega, by omega⟩).shrink fun y hy => .inl hy
  have q6' : ¬ a.wh = 6 := q6
  have eAct : d.act a = d.rst := by unfold Dv.act; rw [if_neg hwh', if_neg q4', if_neg q5', if_neg q6']
  rw [eAct]
  refine den_call (refC d.g (.slice fa Fl.length fc) (.slice pa PV.length pc) (.slice ea d.ers.length ec) d.n (-1) d.cb false) (ref_fits (hrP s01) _ _ _ _) rfl (fun w2 h2 => c44 w2 ((hr.same s01).same (shown_same h2))) (fun w2 w3 h2 k23 => ?_)
  refine den_norm (by simp only [List.cons_append, List.nil_append, refC]; rfl) ?_
  have s03 := (s01.trans (shown_same h2)).trans k23
  have z13 : w1.heap.size ≤ w3.heap.size := by have := (shown_same h2).size; have := k23.size; omega
  refine den_m22 rfl 0 d.rst rfl (fun _ => rfl) (fun wa ha => (hDP s03).same (shown_same ha)) hw rfl rfl (fpM0 (fun y hy _ => hy) ?_) (fun w5 w6 h5 k56 D6 => den_norm (by simp only [List.cons_append, List.nil_append]; rfl) ?_)
  · intro y hin hs
    have e : b19 = y ∨ b18 = y ∨ b17 = y := by simpa [BlkIn, nth, blkOf, vaddr] using hin
    have := lS hs
    omega
  refine den_m18 rfl 0 rfl (fun _ => rfl) (fun w7 w8 h7 k78 => den_norm (by simp only [List.cons_append, List.nil_append]; rfl) ?_)
  have s68 := (shown_same h7).trans k78
  have R8 := (((hrP s03).same (shown_same h5)).kept k56 fun y hy => .inl (h.ST _ hy)).same s68
  refine den_leafA _ rfl fun wz hz => ⟨refV _ (.slice fa Fl.length fc) (.slice pa PV.length pc) (.slice ea d.ers.length ec) _ _ _ _, S, T, Lb, by simp [denL, SV.den, BE.den, IE.den, nth, vint, vbool, vlen, List.cons_append, List.nil_append, ltB_eq, leB_eq, eqB_eq, refV, refC, Dv.rst], .refl h.ST, ?_, _, _, _, Fl, PV, RP, rfl, ?_⟩
  · have kz : Kept (fun y => y = b19) w8 wz := hz.kept.mono fun y _ hin => (show b19 = y by simpa [BlkIn, nth, blkOf, vaddr] using hin).symm
    exact ((D6.same s68).kept kz (fun y _ e => .inr ⟨by omega, by omega⟩) (fun y _ e hs => by have := lS hs; omega)).shrink (fun y hy => .inl hy) h.ST
  · have kz : Kept (fun y => y = b19) w8 wz := hz.kept.mono fun y _ hin => (show b19 = y by simpa [BlkIn, nth, blkOf, vaddr] using hin).symm
    exact ((R8.kept kz fun y e => .inr ⟨by omega, by omega⟩).shrink fun y hy => .inl hy).of_bs rfl rfl
end
end Go.Proofs.Ytppbapnibpeolaa
