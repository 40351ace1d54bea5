/- The methods of a flash device that only read, and those that turn its header. No conditions beyond those that each theorem names. -/
import Derived.Test.YtppbapnibpeolaaM
set_option maxRecDepth 100000
set_option maxHeartbeats 2000000
set_option linter.unusedVariables false
set_option linter.unusedSimpArgs false
namespace Go.Proofs.Ytppbapnibpeolaa
open Go.Sx

section
variable {w w' : World} {S T S' T' M : Nat → Prop} {b mf : Nat} {sB : Value} {Lb : List Bv} {d : Dv}
theorem DevM.form (h : DevM w S T b mf sB Lb d) (hw : Wf d) : ∃ g c, sB = .slice (some ⟨g, 0, none⟩) Lb.length c := by
  have h1 := hw.b0
  have h2 := hw.len
  have h3 := h.len
  exact h.own.addr (List.getElem?_eq_getElem (show 0 < Lb.length by omega))
/-- a block in memory -/
theorem DevM.at_ (h : DevM w S T b mf sB Lb d) {B : Int} (hB : d.hasB B = true) : ∃ (j : Nat) (v : Bv), B = j ∧ j < Lb.length ∧ Lb[j]? = some v ∧ d.bs[j]? = some (d.blk B) := by
  obtain ⟨j, e, hj, hx⟩ := Dv.blkAt hB
  have hj' : j < Lb.length := by rw [h.len]; exact hj
  exact ⟨j, _, e, hj', List.getElem?_eq_getElem hj', hx⟩
/-- a page in memory -/
theorem DevM.page (h : DevM w S T b mf sB Lb d) (hw : Wf d) {B A : Int} (hP : d.hasP B A = true) : ∃ (j i : Nat) (v : Bv) (L : List Pv) (q : Pv) (g c : Nat), B = j ∧ A = i ∧ j < Lb.length ∧ Lb[j]? = some v ∧ d.bs[j]? = some (d.blk B) ∧ i < L.length ∧ L[i]? = some q ∧ v.s = .slice (some ⟨g, 0, none⟩) L.length c ∧ Mine pgE 78 w v.s L ∧ PgsAt w T L (d.blk B).ps ∧ PgAt w T q ((d.blk B).pg A) ∧ v.nx = (d.blk B).nx ∧ v.er = (d.blk B).er := by
  obtain ⟨j, v, e, hj, hv, hx⟩ := h.at_ (Dv.hasB_of hP)
  obtain ⟨i, e2, hi, hq⟩ := hw.pgAt hP
  obtain ⟨q1, q2, L, hL, hp⟩ := h.pg j v _ hv hx
  have hi' : i < L.length := by rw [hp.len]; exact hi
  obtain ⟨g, c, e3⟩ := hL.addr (List.getElem?_eq_getElem hi')
  exact ⟨j, i, v, L, L[i], g, c, e, e2, hj, hv, hx, hi', List.getElem?_eq_getElem hi', e3, hL, hp, hp.at_ i _ _ (List.getElem?_eq_getElem hi') hq, q1, q2⟩
/-- only the header turns -/
theorem DevM.hdr (h : DevM w S T b mf sB Lb d) {d' : Dv} (hk : Kept (fun y => y = b) w w') (hb : HasBlk w' (pt b) (devC d' mf sB)) (hF : d'.F = d.F) (hbs : d'.bs = d.bs) : DevM w' S T b mf sB Lb d' := by
  refine ⟨hb, by rw [hF]; exact h.map.kept hk fun e => h.ne e.symm, h.own.kept hk fun g hg => (h.SB g hg).2.1, by rw [hbs]; exact h.len, fun i v x hv hx => ?_, h.Sb, h.Sm, h.ne, h.SB, h.Sp, h.dis, h.ST, fun y hy => Nat.lt_of_lt_of_le (h.lt y hy) hk.size⟩
  rw [hbs] at hx
  obtain ⟨e1, e2, L, hL, hp⟩ := h.pg i v x hv hx
  exact ⟨e1, e2, L, hL.kept hk fun g hg => (h.Sp i v hv g hg).2.1, hp.kept hk fun y _ e => by subst e; exact h.ST _ h.Sb⟩
theorem DevM.b_lt (h : DevM w S T b mf sB Lb d) : b < w.heap.size := h.lt _ (h.ST _ h.Sb)

theorem c33 (w : World) (h : DevM w S T b mf sB Lb d) (hw : Wf d) : Gives Try.prog 33 [pt b] w (.bool false) := by
  obtain ⟨g, c, rfl⟩ := h.form hw
  refine gives mix t33 rfl rfl (ε := [pt b]) ⟨⟨_, rfl⟩, trivial⟩ (den_split_false rfl ?_)
  exact den_ldp [.slice (some ⟨g, 0, none⟩) Lb.length c] _ ⟨⟨_, _, _, rfl⟩, trivial⟩ (cellk _ 5 _ rfl) (fun w1 h1 => (h.same h1.base).blk.pts) (fun _ _ => by simp [BlkIn]) fun w1 h1 => den_norm (by simp only [List.cons_append, List.nil_append]; rfl) (den_leaf rfl)
theorem c53 (w : World) (B : Int) (h : DevM w S T b mf sB Lb d) (hw : Wf d) : Gives Try.prog 53 [pt b, .int .i64 B] w (.bool (d.hasB B)) := by
  obtain ⟨g, c, rfl⟩ := h.form hw
  refine gives mix t53 rfl rfl (ε := [pt b, .int .i64 B]) ⟨⟨_, rfl⟩, ⟨_, rfl⟩, trivial⟩ (den_splitLe (fun h1 => ?_) (fun h1 => ?_))
  · have h1' : 0 ≤ B := h1
    refine den_notnil (i := 0) h.blk.pts ?_
    refine den_ldp [.slice (some ⟨g, 0, none⟩) Lb.length c] _ ⟨⟨_, _, _, rfl⟩, trivial⟩ (cellk _ 5 _ rfl) (fun w1 h1 => (h.same h1.base).blk.pts) (fun _ _ => by simp [BlkIn]) fun w1 h1 => den_norm (by simp only [List.cons_append, List.nil_append]; rfl) (den_leaf ?_)
    have e : d.hasB B = decide (B < (Lb.length : Int)) := by simp [Dv.hasB, h1', h.len]
    rw [e]
    rfl
  · have h1' : B < 0 := h1
    have e : d.hasB B = false := by simp [Dv.hasB]; omega
    rw [e]
    exact den_leaf rfl
theorem c34 (w : World) (B A : Int) (h : DevM w S T b mf sB Lb d) (hw : Wf d) : Gives Try.prog 34 [pt b, .int .i64 B, .int .i64 A] w (.bool (d.hasP B A)) := by
  refine gives mix t34 rfl rfl (ε := [pt b, .int .i64 B, .int .i64 A]) ⟨⟨_, rfl⟩, ⟨_, rfl⟩, ⟨_, rfl⟩, trivial⟩ ?_
  refine den_call_bool (b := d.hasB B) (fun w1 h1 => c53 w1 B (h.same h1.base) hw) rfl (fun w1 w2 h1 h2 => den_norm (by simp only [List.cons_append, List.nil_append]; rfl) (den_split (fun hb => ?_) (fun hb => ?_)))
  · have hb' : d.hasB B = true := hb
    refine den_splitLe (fun h1 => ?_) (fun h1 => ?_)
    · have h1' : 0 ≤ A := h1
      refine den_notnil (i := 0) h.blk.pts ?_
      refine den_ldp [.int .i64 d.g.p] _ ⟨⟨_, rfl⟩, trivial⟩ (cellk _ 1 _ rfl) (fun w3 h3 => (((h.same (shown_same ‹_›)).same h2).same (shown_same h3)).blk.pts) (fun _ _ => by simp [BlkIn]) fun w3 h3 => den_norm (by simp only [List.cons_append, List.nil_append]; rfl) (den_leaf ?_)
      have e : d.hasP B A = decide (A < d.g.p) := by simp [Dv.hasP, hb', h1']
      rw [e]
      rfl
    · have h1' : A < 0 := h1
      have e : d.hasP B A = false := by simp [Dv.hasP]; omega
      rw [e]
      exact den_leaf rfl
  · have hb' : d.hasB B = false := hb
    have e : d.hasP B A = false := by simp [Dv.hasP, hb']
    rw [e]
    exact den_leaf rfl
theorem c23 (w : World) (h : DevM w S T b mf sB Lb d) (hw : Wf d) : Gives Try.prog 23 [pt b] w (.bool (!d.off)) := by
  refine gives mix t23 rfl rfl (ε := [pt b]) ⟨⟨_, rfl⟩, trivial⟩ ?_
  refine den_call_bool (b := false) (fun w1 h1 => c33 w1 (h.same h1.base) hw) rfl (fun w1 w2 h1 h2 => den_norm (by simp only [List.cons_append, List.nil_append]; rfl) (den_split_true rfl ?_))
  refine den_notnil (i := 0) h.blk.pts ?_
  exact den_ldp [.bool d.off] _ ⟨⟨_, rfl⟩, trivial⟩ (cellk _ 9 _ rfl) (fun w3 h3 => (((h.same (shown_same h1)).same h2).same (shown_same h3)).blk.pts) (fun _ _ => by simp [BlkIn]) fun w3 h3 => den_norm (by simp only [List.cons_append, List.nil_append]; rfl) (den_leaf rfl)
theorem c24 (w : World) (h : DevM w S T b mf sB Lb d) (hw : Wf d) : Gives Try.prog 24 [pt b] w d.g.v := by
  refine gives mix t24 rfl rfl (ε := [pt b]) ⟨⟨_, rfl⟩, trivial⟩ (den_blk fun b2 k2 _ _ => den_norm (by simp only [List.cons_append, List.nil_append]; rfl) ?_)
  refine den_call_bool (b := false) (fun w1 h1 => c33 w1 (h.same h1.base) hw) rfl (fun w1 w2 h1 h2 => den_norm (by simp only [List.cons_append, List.nil_append]; rfl) (den_split_false rfl ?_))
  refine den_notnil (i := 0) h.blk.pts ?_
  refine den_ldp d.g.cells _ ⟨⟨_, rfl⟩, ⟨_, rfl⟩, ⟨_, rfl⟩, ⟨_, rfl⟩, trivial⟩ ?_ (fun w3 h3 => (((h.same (shown_same h1)).same h2).same (shown_same h3)).blk.pts) (fun _ _ => by simp [BlkIn]) fun w3 h3 => den_norm (by simp only [List.cons_append, List.nil_append]; rfl) (den_leaf rfl)
  intro m v hm
  match m, hm with
  | 0, hm => cases hm; rfl
  | 1, hm => cases hm; rfl
  | 2, hm => cases hm; rfl
  | 3, hm => cases hm; rfl
theorem c25 (w : World) (h : DevM w S T b mf sB Lb d) (hw : Wf d) : Gives Try.prog 25 [pt b] w (.int .i64 d.n) := by
  refine gives mix t25 rfl rfl (ε := [pt b]) ⟨⟨_, rfl⟩, trivial⟩ ?_
  refine den_call_bool (b := false) (fun w1 h1 => c33 w1 (h.same h1.base) hw) rfl (fun w1 w2 h1 h2 => den_norm (by simp only [List.cons_append, List.nil_append]; rfl) (den_split_false rfl ?_))
  refine den_notnil (i := 0) h.blk.pts ?_
  exact den_ldp [.int .i64 d.n] _ ⟨⟨_, rfl⟩, trivial⟩ (cellk _ 6 _ rfl) (fun w3 h3 => (((h.same (shown_same h1)).same h2).same (shown_same h3)).blk.pts) (fun _ _ => by simp [BlkIn]) fun w3 h3 => den_norm (by simp only [List.cons_append, List.nil_append]; rfl) (den_leaf rfl)
theorem c26 (w : World) (B : Int) (h : DevM w S T b mf sB Lb d) (hw : Wf d) : Gives Try.prog 26 [pt b, .int .i64 B] w (.int .i64 (d.next B)) := by
  obtain ⟨g, c, e0⟩ := h.form hw
  subst e0
  refine gives mix t26 rfl rfl (ε := [pt b, .int .i64 B]) ⟨⟨_, rfl⟩, ⟨_, rfl⟩, trivial⟩ ?_
  refine den_call_bool (b := false) (fun w1 h1 => c33 w1 (h.same h1.base) hw) rfl (fun w1 w2 h1 h2 => den_norm (by simp only [List.cons_append, List.nil_append]; rfl) (den_split_false rfl ?_))
  refine den_call_bool (b := d.hasB B) (fun w3 h3 => c53 w3 B (((h.same (shown_same h1)).same h2).same (shown_same h3)) hw) rfl (fun w3 w4 h3 h4 => den_norm (by simp only [List.cons_append, List.nil_append]; rfl) (den_splitNot (fun hb => ?_) (fun hb => ?_)))
  · have hb' : d.hasB B = false := hb
    have e : d.next B = 0 := by simp [Dv.next, hb']
    rw [e]
    exact den_leaf rfl
  have hb' : d.hasB B = true := hb
  have H4 := (((h.same (shown_same h1)).same h2).same (shown_same h3)).same h4
  obtain ⟨j, v, e1, hj, hv, hx⟩ := h.at_ hb'
  refine den_notnil (i := 0) h.blk.pts ?_
  refine den_ldp [.slice (some ⟨g, 0, none⟩) Lb.length c] _ ⟨⟨_, _, _, rfl⟩, trivial⟩ (cellk _ 5 _ rfl) (fun w5 h5 => (H4.same (shown_same h5)).blk.pts) (fun _ _ => by simp [BlkIn]) fun w5 h5 => den_norm (by simp only [List.cons_append, List.nil_append]; rfl) ?_
  have H5 := H4.same (shown_same h5)
  refine den_idx2 (E := blE) (L := Lb) v j [.int .i64 v.nx] H5.own.arr rfl (by decide) e1 hv ⟨⟨_, rfl⟩, trivial⟩ (cellk _ 1 _ rfl) (fun w6 h6 => (H5.same (shown_same h6)).own.arr) (fun _ _ => by simp [BlkIn]) fun w6 h6 => den_norm (by simp only [List.cons_append, List.nil_append]; rfl) (den_leaf ?_)
  have e : d.next B = v.nx := by simp [Dv.next, hb', (h.pg j v _ hv hx).1]
  rw [e]
  rfl
theorem c28 (w : World) (B A : Int) (h : DevM w S T b mf sB Lb d) (hw : Wf d) : Gives Try.prog 28 [pt b, .int .i64 B, .int .i64 A] w (.int .i64 (d.state B A)) := by
  obtain ⟨g, c, e0⟩ := h.form hw
  subst e0
  refine gives mix t28 rfl rfl (ε := [pt b, .int .i64 B, .int .i64 A]) ⟨⟨_, rfl⟩, ⟨_, rfl⟩, ⟨_, rfl⟩, trivial⟩ ?_
  refine den_call_bool (b := false) (fun w1 h1 => c33 w1 (h.same h1.base) hw) rfl (fun w1 w2 h1 h2 => den_norm (by simp only [List.cons_append, List.nil_append]; rfl) (den_split_false rfl ?_))
  refine den_call_bool (b := d.hasP B A) (fun w3 h3 => c34 w3 B A (((h.same (shown_same h1)).same h2).same (shown_same h3)) hw) rfl (fun w3 w4 h3 h4 => den_norm (by simp only [List.cons_append, List.nil_append]; rfl) (den_splitNot (fun hb => ?_) (fun hb => ?_)))
  · have hb' : d.hasP B A = false := hb
    have e : d.state B A = 0 := by simp [Dv.state, hb']
    rw [e]
    exact den_leaf rfl
  have hb' : d.hasP B A = true := hb
  have H4 := (((h.same (shown_same h1)).same h2).same (shown_same h3)).same h4
  refine den_notnil (i := 0) h.blk.pts ?_
  refine den_ldp [.slice (some ⟨g, 0, none⟩) Lb.length c] _ ⟨⟨_, _, _, rfl⟩, trivial⟩ (cellk _ 5 _ rfl) (fun w5 h5 => (H4.same (shown_same h5)).blk.pts) (fun _ _ => by simp [BlkIn]) fun w5 h5 => den_norm (by simp only [List.cons_append, List.nil_append]; rfl) ?_
  have H5 := H4.same (shown_same h5)
  obtain ⟨j, i, v, L, q, g2, c2, e1, e2, hj, hv, hx, hi, hq, ev, hL, hps, hpg, -, -⟩ := H5.page hw hb'
  refine den_idx2 (E := blE) (L := Lb) v j [.slice (some ⟨g2, 0, none⟩) L.length c2] H5.own.arr rfl (by decide) e1 hv ⟨⟨_, _, _, rfl⟩, trivial⟩ (cellk _ 0 _ (by simp only [blE]; rw [ev]; rfl)) (fun w6 h6 => (H5.same (shown_same h6)).own.arr) (fun _ _ => by simp [BlkIn]) fun w6 h6 => den_norm (by simp only [List.cons_append, List.nil_append]; rfl) ?_
  rw [ev] at hL
  refine den_idx2 (E := pgE) (L := L) q i [.int .i64 q.st] (hL.same (shown_same h6)).arr rfl (by decide) e2 hq ⟨⟨_, rfl⟩, trivial⟩ (cellk _ 1 _ rfl) (fun w7 h7 => ((hL.same (shown_same h6)).same (shown_same h7)).arr) (fun _ _ => by simp [BlkIn]) fun w7 h7 => den_norm (by simp only [List.cons_append, List.nil_append]; rfl) (den_leaf ?_)
  have e : d.state B A = q.st := by simp [Dv.state, hb', hpg.st]
  rw [e]
  rfl
theorem c22 (w : World) (h : DevM w S T b mf sB Lb d) (hw : Wf d) : Runs Try.prog 22 [pt b] w (fun y => y = b) (fun v w' => v = .int .i64 0 ∧ DevM w' S T b mf sB Lb d.rst) := by
  refine runs mix t22 rfl rfl (ε := [pt b]) ⟨⟨_, rfl⟩, trivial⟩ trivial (by simp [keys]) (by simp [keys]) (by simp [keys]) ?_
  refine den_call_bool (b := false) (fun w1 h1 => c33 w1 (h.same (shown_same h1)) hw) rfl (fun w1 w2 h1 h2 => den_norm (by simp only [List.cons_append, List.nil_append]; rfl) (den_split_false rfl ?_))
  have H2 := (h.same (shown_same h1)).same h2
  refine den_notnil (i := 0) h.blk.pts ?_
  refine den_storeP b 7 (.int .i64 (-1)) [.int .i64 (-1)] (devC d mf sB) (by kernel_rfl) rfl rfl rfl rfl (by intro u hu; simp at hu; subst hu; rfl) (fun wc hc => (H2.same (shown_same hc)).blk) (by simp [devC]) (fun wc hc => ⟨fun hd => (by cases hd), fun _ => rfl, fun hin2 => by simp [BlkIn, nth, blkOf, vaddr] at hin2, fun hx => (by cases hx)⟩) (fun wc wd hc hB kcd => ?_)
  have H4 : DevM wd S T b mf sB Lb { d with cut := -1 } := (H2.same (shown_same hc)).hdr kcd hB rfl rfl
  refine den_storeP b 9 (.bool false) [.bool false] (devC { d with cut := -1 } mf sB) (by kernel_rfl) rfl rfl rfl rfl (by intro u hu; simp at hu; subst hu; rfl) (fun we he => (H4.same (shown_same he)).blk) (by simp [devC]) (fun we he => ⟨fun hd => (by cases hd), fun _ => rfl, fun hin2 => by simp [BlkIn, nth, blkOf, vaddr] at hin2, fun hx => (by cases hx)⟩) (fun we wf he hB kef => ?_)
  have H6 : DevM wf S T b mf sB Lb d.rst := (H4.same (shown_same he)).hdr kef hB rfl rfl
  exact den_leafA _ rfl fun wg hg => ⟨rfl, H6.same (shown_same hg)⟩
theorem c21 (w : World) (o c : Int) (h : DevM w S T b mf sB Lb d) (hw : Wf d) : Runs Try.prog 21 [pt b, .int .i64 o, .int .i64 c] w (fun y => y = b) (fun v w' => v = .int .i64 (d.cutE o c) ∧ DevM w' S T b mf sB Lb (d.cutD o c)) := by
  have s0 := hw.s0
  have s1 := hw.s1
  have no : ∀ e, e ≠ 0 → d.cutE o c = e → d.cutD o c = d := fun e he h => by unfold Dv.cutD; rw [if_neg (by rw [h]; exact he)]
  refine runs mix t21 rfl rfl (ε := [pt b, .int .i64 o, .int .i64 c]) ⟨⟨_, rfl⟩, ⟨_, rfl⟩, ⟨_, rfl⟩, trivial⟩ trivial (by simp [keys]) (by simp [keys]) (by simp [keys]) ?_
  refine den_call_bool (b := false) (fun w1 h1 => c33 w1 (h.same (shown_same h1)) hw) rfl (fun w1 w2 h1 h2 => den_norm (by simp only [List.cons_append, List.nil_append]; rfl) (den_split_false rfl ?_))
  have H2 := (h.same (shown_same h1)).same h2
  refine den_notnil (i := 0) h.blk.pts ?_
  refine den_ldp [.int .i64 d.n] _ ⟨⟨_, rfl⟩, trivial⟩ (cellk _ 6 _ rfl) (fun w5 h5 => (H2.same (shown_same h5)).blk.pts) (fun _ _ => by simp [BlkIn]) fun w5 h5 => den_norm (by simp only [List.cons_append, List.nil_append]; rfl) ?_
  have H5 := H2.same (shown_same h5)
  refine den_splitLt (fun h6 => ?_) (fun h6 => den_splitLt (fun h7 => ?_) (fun h7 => ?_))
  · have h6' : o < d.n := h6
    have e : d.cutE o c = 2 := by unfold Dv.cutE; rw [if_pos h6']
    rw [no 2 (by decide) e, e]
    exact den_leafA _ rfl fun wg hg => ⟨rfl, H5.same (shown_same hg)⟩
  · have h6' : ¬ o < d.n := by have : d.n ≤ o := h6; omega
    have h7' : c < 0 := h7
    have e : d.cutE o c = 2 := by unfold Dv.cutE; rw [if_neg h6', if_pos h7']
    rw [no 2 (by decide) e, e]
    exact den_leafA _ rfl fun wg hg => ⟨rfl, H5.same (shown_same hg)⟩
  have h6' : ¬ o < d.n := by have : d.n ≤ o := h6; omega
  have h7' : ¬ c < 0 := by have : 0 ≤ c := h7; omega
  refine den_ldp [.int .i64 d.g.s] _ ⟨⟨_, rfl⟩, trivial⟩ (cellk _ 2 _ rfl) (fun w5 h5 => (H5.same (shown_same h5)).blk.pts) (fun _ _ => by simp [BlkIn]) fun w8 h8 => den_norm (by simp only [List.cons_append, List.nil_append]; rfl) ?_
  have H8 := H5.same (shown_same h8)
  refine den_ob64 ⟨by simp only [IE.den, nth, vint]; omega, by simp only [IE.den, nth, vint]; omega⟩ (den_splitLt (fun h9 => ?_) (fun h9 => ?_))
  · have h9' : d.g.s + 64 < c := h9
    have e : d.cutE o c = 2 := by unfold Dv.cutE; rw [if_neg h6', if_neg h7', if_pos h9']
    rw [no 2 (by decide) e, e]
    exact den_leafA _ rfl fun wg hg => ⟨rfl, H8.same (shown_same hg)⟩
  have h9' : ¬ d.g.s + 64 < c := by have : c ≤ d.g.s + 64 := h9; omega
  refine den_ldp [.bool d.off] _ ⟨⟨_, rfl⟩, trivial⟩ (cellk _ 9 _ rfl) (fun w5 h5 => (H8.same (shown_same h5)).blk.pts) (fun _ _ => by simp [BlkIn]) fun w10 h10 => den_norm (by simp only [List.cons_append, List.nil_append]; rfl) ?_
  have H10 := H8.same (shown_same h10)
  refine den_split (fun h11 => ?_) (fun h11 => ?_)
  · have h11' : d.off = true := h11
    have e : d.cutE o c = 50 := by unfold Dv.cutE; rw [if_neg h6', if_neg h7', if_neg h9', if_pos h11']
    rw [no 50 (by decide) e, e]
    exact den_leafA _ rfl fun wg hg => ⟨rfl, H10.same (shown_same hg)⟩
  have h11' : d.off = false := h11
  have e : d.cutE o c = 0 := by unfold Dv.cutE; rw [if_neg h6', if_neg h7', if_neg h9', if_neg (by rw [h11']; decide)]
  have e' : d.cutD o c = { d with cut := o, cb := c } := by unfold Dv.cutD; rw [if_pos e]
  rw [e, e']
  refine den_storeP b 7 (.int .i64 o) [.int .i64 o] (devC d mf sB) (by kernel_rfl) rfl rfl rfl rfl (by intro u hu; simp at hu; subst hu; rfl) (fun wc hc => (H10.same (shown_same hc)).blk) (by simp [devC]) (fun wc hc => ⟨fun hd => (by cases hd), fun _ => rfl, fun hin2 => by simp [BlkIn, nth, blkOf, vaddr] at hin2, fun hx => (by cases hx)⟩) (fun wc wd hc hB kcd => ?_)
  have H4 : DevM wd S T b mf sB Lb { d with cut := o } := (H10.same (shown_same hc)).hdr kcd hB rfl rfl
  refine den_storeP b 8 (.int .i64 c) [.int .i64 c] (devC { d with cut := o } mf sB) (by kernel_rfl) rfl rfl rfl rfl (by intro u hu; simp at hu; subst hu; rfl) (fun we he => (H4.same (shown_same he)).blk) (by simp [devC]) (fun we he => ⟨fun hd => (by cases hd), fun _ => rfl, fun hin2 => by simp [BlkIn, nth, blkOf, vaddr] at hin2, fun hx => (by cases hx)⟩) (fun we wf he hB kef => ?_)
  have H6 : DevM wf S T b mf sB Lb { d with cut := o, cb := c } := (H4.same (shown_same he)).hdr kef hB rfl rfl
  exact den_leafA _ rfl fun wg hg => ⟨rfl, H6.same (shown_same hg)⟩
end
end Go.Proofs.Ytppbapnibpeolaa
