/- A flash device: Program and Erase as they answer. No conditions beyond those that each theorem names. -/
import Derived.Test.YtppbapnibpeolaaI
set_option maxRecDepth 100000
set_option maxHeartbeats 2000000
set_option linter.unusedVariables false
set_option linter.unusedSimpArgs false
namespace Go.Proofs.Ytppbapnibpeolaa
open Go.Sx

section
variable {w w' : World} {S T S' T' TA Mx : Nat → Prop} {b mf : Nat} {sB : Value} {Lb : List Bv} {d : Dv}
theorem two_arr {w : World} {b : Nat} {sa sb : Value} (h : HasBlk w (pt b) [sa, sb]) : Arr slE w (slc0 b 2 2) [sa, sb] := by
  have hr := h.reads 0 2 2 1 (by simp)
  simp [vaddr, addO, addr_add] at hr
  exact hr
theorem c19 (B A : Int) (sa sb : Value) (D1 D2 : List Int) (w : World) (h : DevM w S T b mf sB Lb d) (hw : Wf d) (h1 : Src w sa D1) (h2 : Src w sb D2) (hn1 : d.n ≤ 1000000000) (hl1 : D1.length ≤ 10000) (hl2 : D2.length ≤ 10000) :
    Runs Try.prog 19 [pt b, .int .i64 B, .int .i64 A, sa, sb] w S (fun r w' => r = .int .i64 (d.prgE B A D1 D2) ∧ ∃ Lb', DevM w' S T b mf sB Lb' (d.prgD B A D1 D2)) := by
  obtain ⟨g, c, e0⟩ := h.form hw
  subst e0
  obtain ⟨a1, c1, rfl⟩ := h1.1.slice
  obtain ⟨a2, c2, rfl⟩ := h2.1.slice
  have no : ∀ e, e ≠ 0 → d.prgC B A D1 D2 = e → d.prgE B A D1 D2 = e ∧ d.prgD B A D1 D2 = d := fun e he h => ⟨by unfold Dv.prgE; rw [if_neg (by rw [h]; exact he), h], by unfold Dv.prgD; rw [if_neg (by rw [h]; exact he)]⟩
  refine runs mix t19 rfl rfl (ε := [pt b, .int .i64 B, .int .i64 A, .slice a1 D1.length c1, .slice a2 D2.length c2]) ⟨⟨_, rfl⟩, ⟨_, rfl⟩, ⟨_, rfl⟩, ⟨_, _, _, rfl⟩, ⟨_, _, _, rfl⟩, trivial⟩ trivial (by simp [keys]) (by simp [keys]) (by simp [keys]) ?_
  refine den_call_bool (b := false) (fun w1 h1 => c33 w1 (h.same (shown_same h1)) hw) rfl (fun w1 w2 g1 g2 => den_norm (by simp only [List.cons_append, List.nil_append]; rfl) (den_split_false rfl ?_))
  refine den_call_bool (b := d.hasP B A) (fun w3 h3 => c34 w3 B A (((h.same (shown_same g1)).same g2).same (shown_same h3)) hw) rfl (fun w3 w4 g3 g4 => den_norm (by simp only [List.cons_append, List.nil_append]; rfl) (den_splitNot (fun hb => ?_) (fun hb => ?_)))
  · have hb' : d.hasP B A = false := hb
    obtain ⟨e1, e2⟩ := no 2 (by decide) (by unfold Dv.prgC; rw [if_pos hb'])
    rw [e1, e2]
    exact den_leafA _ rfl fun wz hz => ⟨rfl, Lb, ((((h.same (shown_same g1)).same g2).same (shown_same g3)).same g4).same (shown_same hz)⟩
  have hP : d.hasP B A = true := hb
  have q1 : ¬ d.hasP B A = false := by rw [hP]; decide
  have k4 : Same w w4 := (((shown_same g1).trans g2).trans (shown_same g3)).trans g4
  have H4 := h.same k4
  refine den_notnil (i := 0) h.blk.pts ?_
  refine den_ldp [.int .i64 d.g.s] _ ⟨⟨_, rfl⟩, trivial⟩ (cellk _ 2 _ rfl) (fun w5 h5 => (H4.same (shown_same h5)).blk.pts) (fun _ _ => by simp [BlkIn]) fun w5 g5 => den_norm (by simp only [List.cons_append, List.nil_append]; rfl) (den_splitNot (fun hb => ?_) (fun hb => ?_))
  · have hb' : (D1.length : Int) ≠ d.g.s := of_decide_eq_false hb
    obtain ⟨e1, e2⟩ := no 2 (by decide) (by unfold Dv.prgC; rw [if_neg q1, if_pos hb'])
    rw [e1, e2]
    exact den_leafA _ rfl fun wz hz => ⟨rfl, Lb, (H4.same (shown_same g5)).same (shown_same hz)⟩
  have q2 : ¬ (D1.length : Int) ≠ d.g.s := by have : (D1.length : Int) = d.g.s := of_decide_eq_true hb; omega
  refine den_splitNot (fun hb => ?_) (fun hb => ?_)
  · have hb' : (D2.length : Int) ≠ 64 := of_decide_eq_false hb
    obtain ⟨e1, e2⟩ := no 2 (by decide) (by unfold Dv.prgC; rw [if_neg q1, if_neg q2, if_pos hb'])
    rw [e1, e2]
    exact den_leafA _ rfl fun wz hz => ⟨rfl, Lb, (H4.same (shown_same g5)).same (shown_same hz)⟩
  have q3 : ¬ (D2.length : Int) ≠ 64 := by have : (D2.length : Int) = 64 := of_decide_eq_true hb; omega
  have k5 := k4.trans (shown_same g5)
  have H5 := h.same k5
  refine den_ldp [.bool d.off] _ ⟨⟨_, rfl⟩, trivial⟩ (cellk _ 9 _ rfl) (fun w5 h5 => (H5.same (shown_same h5)).blk.pts) (fun _ _ => by simp [BlkIn]) fun w6 g6 => den_norm (by simp only [List.cons_append, List.nil_append]; rfl) (den_split (fun hb => ?_) (fun hb => ?_))
  · have hb' : d.off = true := hb
    obtain ⟨e1, e2⟩ := no 50 (by decide) (by unfold Dv.prgC; rw [if_neg q1, if_neg q2, if_neg q3, if_pos hb'])
    rw [e1, e2]
    exact den_leafA _ rfl fun wz hz => ⟨rfl, Lb, (H5.same (shown_same g6)).same (shown_same hz)⟩
  have q4 : ¬ d.off = true := by have : d.off = false := hb; rw [this]; decide
  have k6 := k5.trans (shown_same g6)
  have H6 := h.same k6
  refine den_ldp [slc0 g Lb.length c] _ ⟨⟨_, _, _, rfl⟩, trivial⟩ (cellk _ 5 _ rfl) (fun w5 h5 => (H6.same (shown_same h5)).blk.pts) (fun _ _ => by simp [BlkIn]) fun w7 g7 => den_norm (by simp only [List.cons_append, List.nil_append]; rfl) ?_
  have H7 := H6.same (shown_same g7)
  obtain ⟨j, v, ej, hj, hv, hx⟩ := h.at_ (Dv.hasB_of hP)
  have hnx : v.nx = (d.blk B).nx := (h.pg j v _ hv hx).1
  refine den_idx2 (E := blE) (L := Lb) v j [.int .i64 v.nx] H7.own.arr rfl (by decide) ej hv ⟨⟨_, rfl⟩, trivial⟩ (cellk _ 1 _ rfl) (fun w6 h6 => (H7.same (shown_same h6)).own.arr) (fun _ _ => by simp [BlkIn]) fun w8 g8 => den_norm (by simp only [List.cons_append, List.nil_append]; rfl) ?_
  rw [hnx]
  refine den_splitNot (fun hb => ?_) (fun hb => ?_)
  · have hb' : A ≠ (d.blk B).nx := of_decide_eq_false hb
    obtain ⟨e1, e2⟩ := no 51 (by decide) (by unfold Dv.prgC; rw [if_neg q1, if_neg q2, if_neg q3, if_neg q4, if_pos hb'])
    rw [e1, e2]
    exact den_leafA _ rfl fun wz hz => ⟨rfl, Lb, (H7.same (shown_same g8)).same (shown_same hz)⟩
  have q5 : ¬ A ≠ (d.blk B).nx := by have : A = (d.blk B).nx := of_decide_eq_true hb; omega
  have eC : d.prgC B A D1 D2 = 0 := by unfold Dv.prgC; rw [if_neg q1, if_neg q2, if_neg q3, if_neg q4, if_neg q5]
  have eE : d.prgE B A D1 D2 = d.err 54 := by unfold Dv.prgE; rw [if_pos eC]
  have eD : d.prgD B A D1 D2 = d.op B (put (d.blk B) A (d.prgP (D1 ++ D2))) := by unfold Dv.prgD; rw [if_pos eC]
  rw [eE, eD]
  have k8 := (k6.trans (shown_same g7)).trans (shown_same g8)
  have z8 : w.heap.size ≤ w8.heap.size := k8.size
  refine den_blk fun b11 k11 _ _ => den_norm (by simp only [List.cons_append, List.nil_append]; rfl) ?_
  have z11 : w.heap.size ≤ b11 := Nat.le_trans z8 k11
  refine den_callR (fun w1 l w2 => ∃ v, l = [v] ∧ Mine byteE 5 w2 v (D1 ++ D2) ∧ ∀ g, v.ownBlock = some g → w1.heap.size ≤ g) (fun w9 g9 => ?_) (fun w9 l w10 g9 hfl hR k910 => ?_)
  · have k9 : Same w w9 := k8.trans (shown_same g9)
    have hF : HasBlk w9 (pt b11) [.slice a1 D1.length c1, .slice a2 D2.length c2] := g9.facts.1
    have hA := two_arr hF
    have hr := c52 (slc0 b11 2 2) (.slice a1 D1.length c1) (.slice a2 D2.length c2) D1 D2 w9 hA (h1.same k9) (h2.same k9) (by omega) hl1 hl2
    have key : ∀ l, l = [slc0 b11 2 2] → GivesR Try.prog 52 l w9 (fun v w' => ∃ l, Fits [.slice] l ∧ v = (SV.var 12).den ([pt b, .int .i64 B, .int .i64 A, .slice a1 D1.length c1, .slice a2 D2.length c2, .bool false, .bool (d.hasP B A), .int .i64 d.g.s, .bool d.off, slc0 g Lb.length c, .int .i64 (d.blk B).nx, pt b11] ++ l) ∧ ∃ v, l = [v] ∧ Mine byteE 5 w' v (D1 ++ D2) ∧ ∀ g, v.ownBlock = some g → w9.heap.size ≤ g) := fun l e => by
      rw [e]
      refine hr.mono fun v w' ⟨q1, q2⟩ => ?_
      obtain ⟨va, vc, hv⟩ := q1.slice
      exact ⟨[v], ⟨⟨_, _, _, hv⟩, trivial⟩, rfl, v, rfl, q1, q2⟩
    exact key _ (by simp [SV.den, denL, IE.den, BE.den, nth, vint, vbool, vaddr, addO, addr_add])
  obtain ⟨u, rfl, hM, hlo⟩ := hR
  have k9 : Same w w9 := k8.trans (shown_same g9)
  have z9 : w.heap.size ≤ w9.heap.size := k9.size
  have hlen : (D1 ++ D2).length = D1.length + D2.length := List.length_append
  have s0 := hw.s0
  obtain ⟨x0, hx0⟩ : ∃ x, (D1 ++ D2)[0]? = some x := ⟨_, List.getElem?_eq_getElem (by omega)⟩
  obtain ⟨gA, cA, e⟩ := hM.addr hx0
  subst e
  have hgA : w9.heap.size ≤ gA := hlo gA rfl
  have lT : ∀ y, T y → y < w.heap.size := fun y hy => h.lt y hy
  have k10 : Same w w10 := k9.trans k910
  have H10 : DevM w10 S (fun y => T y ∨ y = gA) b mf (slc0 g Lb.length c) Lb d := h.later k10 (fun _ _ h => h) (fun y hy => .inl hy) (fun y hy hy2 => hy2.resolve_right (by omega)) (fun y hy => by
    rcases hy with hy | rfl
    · exact Nat.lt_of_lt_of_le (lT y hy) k10.size
    · exact hM.lt rfl)
  refine den_norm (by simp only [List.cons_append, List.nil_append]; rfl) ?_
  refine den_callM (fun _ y => S y ∨ y = gA) (fun w11 l w12 => l = [.int .i64 (d.err 54)] ∧ ∃ Lb', DevM w12 S T b mf (slc0 g Lb.length c) Lb' (d.op B (put (d.blk B) A (d.prgP (D1 ++ D2))))) (fun w11 g11 y hy hlt => ⟨fun hd => (by cases hd), fun hlt2 => ?_, fun hin => ?_, fun hx => (by cases hx)⟩) (fun w11 g11 => ?_) (fun w11 l w12 g11 hfl hR k1112 => ?_)
  · have : y < w.heap.size := hlt2
    exact hy.resolve_right (by omega)
  · have l11 := g9.lt (i := 11) (by simp [keys]) rfl
    simp [BlkIn, nth, blkOf, vaddr] at hin
    rcases hy with hy | hy
    · have := lT y (h.ST y hy)
      omega
    · have l11' : b11 < w9.heap.size := l11
      omega
  · have ks : Same w10 w11 := shown_same g11
    exact (c51 B A gA cA (D1 ++ D2) w11 (H10.same ks) hw hP (hM.same ks) h.ST (fun y hy => .inl hy) (.inr rfl) (fun hy => by have := lT gA hy; omega) (by rw [hlen]; push_cast; omega) hn1).mono (fun r w' hr _ => ⟨[.int .i64 (d.err 54)], ⟨⟨_, rfl⟩, trivial⟩, hr.1, ⟨rfl, hr.2⟩, trivial⟩) (fun _ _ h => h)
  obtain ⟨rfl, Lb', hD⟩ := hR
  exact den_norm (by simp only [List.cons_append, List.nil_append]; rfl) (den_leafA _ rfl fun wz hz => ⟨rfl, Lb', hD.same (shown_same hz)⟩)
/-- the device in memory after an operation: what is its own has grown by new blocks -/
structure Nxt (w : World) (S T S' T' : Nat → Prop) : Prop where
  up : ∀ y, S y → S' y
  dn : ∀ y, S' y → S y ∨ w.heap.size ≤ y
  T : ∀ y, T' y ↔ T y ∨ S' y
theorem Nxt.refl {w : World} (h : ∀ y, S y → T y) : Nxt w S T S T := ⟨fun _ h => h, fun _ h => .inl h, fun y => ⟨.inl, fun h' => h'.elim id (h y)⟩⟩
theorem c20 (B : Int) (w : World) (h : DevM w S T b mf sB Lb d) (hw : Wf d) (hn1 : d.n ≤ 1000000000) :
    Runs Try.prog 20 [pt b, .int .i64 B] w S (fun r w' => r = .int .i64 (d.ersE B) ∧ ∃ S' T' Lb', Nxt w S T S' T' ∧ DevM w' S' T' b mf sB Lb' (d.ersD B)) := by
  obtain ⟨g, c, e0⟩ := h.form hw
  subst e0
  have no : ∀ e, e ≠ 0 → d.ersC B = e → d.ersE B = e ∧ d.ersD B = d := fun e he h => ⟨by unfold Dv.ersE; rw [if_neg (by rw [h]; exact he), h], by unfold Dv.ersD; rw [if_neg (by rw [h]; exact he)]⟩
  refine runs mix t20 rfl rfl (ε := [pt b, .int .i64 B]) ⟨⟨_, rfl⟩, ⟨_, rfl⟩, trivial⟩ trivial (by simp [keys]) (by simp [keys]) (by simp [keys]) ?_
  refine den_call_bool (b := false) (fun w1 h1 => c33 w1 (h.same (shown_same h1)) hw) rfl (fun w1 w2 g1 g2 => den_norm (by simp only [List.cons_append, List.nil_append]; rfl) (den_split_false rfl ?_))
  refine den_call_bool (b := d.hasB B) (fun w3 h3 => c53 w3 B (((h.same (shown_same g1)).same g2).same (shown_same h3)) hw) rfl (fun w3 w4 g3 g4 => den_norm (by simp only [List.cons_append, List.nil_append]; rfl) (den_splitNot (fun hb => ?_) (fun hb => ?_)))
  · have hb' : d.hasB B = false := hb
    obtain ⟨e1, e2⟩ := no 2 (by decide) (by unfold Dv.ersC; rw [if_pos hb'])
    rw [e1, e2]
    exact den_leafA _ rfl fun wz hz => ⟨rfl, S, T, Lb, .refl h.ST, ((((h.same (shown_same g1)).same g2).same (shown_same g3)).same g4).same (shown_same hz)⟩
  have hB : d.hasB B = true := hb
  have q1 : ¬ d.hasB B = false := by rw [hB]; decide
  have k4 : Same w w4 := (((shown_same g1).trans g2).trans (shown_same g3)).trans g4
  have H4 := h.same k4
  refine den_notnil (i := 0) h.blk.pts ?_
  refine den_ldp [.bool d.off] _ ⟨⟨_, rfl⟩, trivial⟩ (cellk _ 9 _ rfl) (fun w5 h5 => (H4.same (shown_same h5)).blk.pts) (fun _ _ => by simp [BlkIn]) fun w6 g6 => den_norm (by simp only [List.cons_append, List.nil_append]; rfl) (den_split (fun hb => ?_) (fun hb => ?_))
  · have hb' : d.off = true := hb
    obtain ⟨e1, e2⟩ := no 50 (by decide) (by unfold Dv.ersC; rw [if_neg q1, if_pos hb'])
    rw [e1, e2]
    exact den_leafA _ rfl fun wz hz => ⟨rfl, S, T, Lb, .refl h.ST, (H4.same (shown_same g6)).same (shown_same hz)⟩
  have q4 : ¬ d.off = true := by have : d.off = false := hb; rw [this]; decide
  have k6 := k4.trans (shown_same g6)
  have H6 := h.same k6
  obtain ⟨j, v, ej, hj, hv, hx⟩ := h.at_ hB
  subst ej
  obtain ⟨hnx, her, Lp, hLp, hPs⟩ := h.pg j v _ hv hx
  have bok := hw.blk hB
  refine den_start1 fun w7 g7 => ?_
  have k7 := k6.trans (shown_same g7)
  have H7 := h.same k7
  refine den_ldpD [slc0 g Lb.length c] _ ⟨⟨_, _, _, rfl⟩, trivial⟩ (cellk _ 5 _ rfl) H7.blk.pts (fun y hy hx => by simp [BlkIn] at hx) (den_norm (by simp only [List.cons_append, List.nil_append]; rfl) ?_)
  refine den_idxD (E := blE) (L := Lb) v j [.int .i64 v.er] rfl (by decide) rfl hv ⟨⟨_, rfl⟩, trivial⟩ (cellk _ 2 _ rfl) H7.own.arr (fun _ _ hx => by simp [BlkIn] at hx) (den_norm (by simp only [List.cons_append, List.nil_append]; rfl) ?_)
  refine den_ldpD [.int .i64 d.g.e] _ ⟨⟨_, rfl⟩, trivial⟩ (cellk _ 3 _ rfl) H7.blk.pts (fun y hy hx => by simp [BlkIn] at hx) (den_norm (by simp only [List.cons_append, List.nil_append]; rfl) (den_splitLe (fun hb => ?_) (fun hb => ?_)))
  · have hb' : d.g.e ≤ (d.blk j).er := by rw [← her]; exact hb
    obtain ⟨e1, e2⟩ := no 56 (by decide) (by unfold Dv.ersC; rw [if_neg q1, if_neg q4, if_pos hb'])
    rw [e1, e2]
    exact den_leafA _ rfl fun wz hz => ⟨rfl, S, T, Lb, .refl h.ST, H7.same (shown_same hz)⟩
  have q5 : ¬ d.g.e ≤ (d.blk j).er := by have : v.er < d.g.e := hb; rw [her] at this; omega
  have eC : d.ersC j = 0 := by unfold Dv.ersC; rw [if_neg q1, if_neg q4, if_neg q5]
  have eE : d.ersE j = d.err 55 := by unfold Dv.ersE; rw [if_pos eC]
  have eD : d.ersD j = d.op j (fresh d.g.p d.ersS ((d.blk j).er + 1)) := by unfold Dv.ersD; rw [if_pos eC]
  rw [eE, eD]
  refine den_ldp [slc0 g Lb.length c] _ ⟨⟨_, _, _, rfl⟩, trivial⟩ (cellk _ 5 _ rfl) (fun w5 h5 => (H7.same (shown_same h5)).blk.pts) (fun _ _ => by simp [BlkIn]) fun w8 g8 => den_norm (by simp only [List.cons_append, List.nil_append]; rfl) ?_
  have k8 := k7.trans (shown_same g8)
  have H8 := h.same k8
  refine den_obs (E := blE) (L := Lb) (w0 := w8) j H8.own.arr (by decide) rfl hj ?_
  obtain ⟨np, hnp⟩ : ∃ np : Nat, d.g.p = np := ⟨d.g.p.toNat, by have := hw.p0; omega⟩
  have p1 := hw.p1
  have e1 := hw.e1
  have er0 := bok.er0
  have Sg := h.SB g rfl
  refine den_callM (fun _ y => y = b ∨ y = g) (fun w9 l w10 => l = [.int .i64 (d.err 55)] ∧ HasBlk w10 (pt b) (devC d.hd mf (slc0 g Lb.length c)) ∧ ∃ gp, w9.heap.size ≤ gp ∧ Mine blE 81 w10 (slc0 g Lb.length c) (Lb.set j ⟨slc0 gp np np, if d.ersS = 1 then 0 else np, v.er + 1⟩) ∧ Mine pgE 78 w10 (slc0 gp np np) (List.replicate np ⟨.slice none 0 0, d.ersS⟩)) (fun w11 g11 y hy hlt => ⟨fun hd => (by cases hd), fun _ => ?_, fun hin => by simp [BlkIn, nth, blkOf, vaddr] at hin, fun hx => (by cases hx)⟩) (fun w9 g9 => ?_) (fun w9 l w10 g9 hfl hR k910 => ?_)
  · rcases hy with rfl | rfl
    · exact h.Sb
    · exact Sg.1
  · have H9 := H8.same (shown_same g9)
    have hr := c54 g j c np v Lb w9 H9.blk H9.map H9.own hv (by obtain ⟨a, c, e⟩ := hLp.slice; exact ⟨_, _, _, e⟩) hnp (by omega) (fun e => Sg.2.1 e.symm) h.ne hw.n0 hn1 (by omega) (by omega)
    have e : ∀ l, l = [pt b, ptA g (j * 3)] → Runs Try.prog 54 l w9 (fun y => y = b ∨ y = g) _ := fun l e => by rw [e]; exact hr
    exact (e _ (by simp [SV.den, denL, IE.den, BE.den, nth, vint, vbool, vaddr, addO, addr_add])).mono (fun r w' hr _ => ⟨[.int .i64 (d.err 55)], ⟨⟨_, rfl⟩, trivial⟩, hr.1, ⟨rfl, hr.2⟩, trivial⟩) (fun _ _ h => h)
  obtain ⟨rfl, r1, gp, r2, r3, r4⟩ := hR
  have k9 := k8.trans (shown_same g9)
  have z9 : w.heap.size ≤ w9.heap.size := k9.size
  have lgp := r4.lt (g := gp) rfl
  refine den_norm (by simp only [List.cons_append, List.nil_append]; rfl) (den_leafA _ rfl fun wz hz => ⟨rfl, fun y => S y ∨ y = gp, fun y => T y ∨ y = gp, Lb.set j ⟨slc0 gp np np, if d.ersS = 1 then 0 else np, v.er + 1⟩, ⟨fun y hy => .inl hy, fun y hy => hy.imp_right (by omega), fun y => ⟨fun hy => hy.elim .inl fun e => .inr (.inr e), fun hy => hy.elim .inl fun e => e.elim (fun e => .inl (h.ST y e)) .inr⟩⟩, ?_⟩)
  have kz : Same w10 wz := shown_same hz
  have KZ : Kept (fun y => y = b ∨ y = g) w wz := ((k9.mono fun _ _ h => h.elim).trans k910).trans (kz.mono fun _ _ h => h.elim)
  have lTw : ∀ y, T y → y < w.heap.size := fun y hy => h.lt y hy
  refine DevM.turn (T' := fun y => T y ∨ y = gp) (x' := fresh d.g.p d.ersS ((d.blk j).er + 1)) h hv hx KZ (fun y _ hy => ?_) (fun e => ?_) (fun k u hk hu y hy e => ?_) (r1.keptA kz fun h => h) rfl (by simp [Dv.op]) (r3.same kz) ?_ (by show v.er + 1 = (d.blk j).er + 1; rw [her]) (r4.same kz) ?_ (fun y hy => ?_) (fun y hy => .inl hy) (fun y hy => ?_) (fun y hy => hy.imp_left (h.ST y)) (fun y hy hy2 => hy2.resolve_right (by omega)) (fun y hy => ?_)
  · rcases hy with rfl | rfl
    · exact h.ST _ h.Sb
    · exact h.ST _ Sg.1
  · rcases e with e | e
    · exact h.ne e.symm
    · exact Sg.2.2 e.symm
  · have q := h.Sp k u hu y hy
    rcases e with e | e
    · exact q.2.1 e
    · exact q.2.2.2 (by rw [e]; rfl)
  · show (if d.ersS = 1 then (0 : Int) else np) = _
    simp only [fresh, hnp]
  · have : (fresh d.g.p d.ersS ((d.blk j).er + 1)).ps = List.replicate np ⟨d.ersS, []⟩ := by simp [fresh, hnp]
    rw [this]
    exact PgsAt.fresh np d.ersS
  · have e : gp = y := Option.some.inj hy
    exact .inr (by omega)
  · have e : gp = y := Option.some.inj hy
    exact .inr e.symm
  · rcases hy with hy | rfl
    · exact Nat.lt_of_lt_of_le (lTw y hy) KZ.size
    · exact Nat.lt_of_lt_of_le lgp kz.size
end
end Go.Proofs.Ytppbapnibpeolaa
