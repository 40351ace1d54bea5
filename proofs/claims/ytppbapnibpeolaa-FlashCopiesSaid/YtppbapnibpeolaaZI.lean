/- The law FlashCopies. No conditions beyond those that each theorem names. -/
import Derived.Test.YtppbapnibpeolaaZH
set_option maxRecDepth 100000
set_option maxHeartbeats 4000000
set_option linter.unusedVariables false
set_option linter.unusedSimpArgs false
namespace Go.Proofs.Ytppbapnibpeolaa
open Go.Sx

theorem two_acts {w : World} {b : Nat} {x1 x2 : Av} (h : HasBlk w (pt b) (x1.cells ++ x2.cells)) : Arr avE w (slc0 b 2 2) [x1, x2] := by
  have hr := h.reads 0 2 2 5 (by simp [Av.cells])
  simp [vaddr, addO, addr_add] at hr
  exact hr
theorem Gv.mine {T : TypeId} {w : World} {s : Value} {D : List Int} (h : Mine byteE T w s D) : Gv w.heap.size w s D := ⟨h.given.src, fun _ ad had => h.given.2.2.2 ad had⟩
/-- the calls with slices of their own, so far -/
structure OwnI (lo : Nat) (w : World) (out : Value) (A : List Ac) (Lo : List AvS) : Prop where
  own : Mine asE 28 w out Lo
  fr : ∀ g, out.ownBlock = some g → lo ≤ g
  le : Lo.length ≤ A.length
  el : ∀ (i : Nat) u a, Lo[i]? = some u → A[i]? = some a → u.1.wh = a.wh ∧ u.1.bl = a.bl ∧ u.1.pg = a.pg ∧ Mine byteE 5 w u.1.sd a.D ∧ Mine byteE 5 w u.1.ss a.Sp ∧ (∀ g, u.1.sd.ownBlock = some g → lo ≤ g ∧ out.ownBlock ≠ some g) ∧ ∀ g, u.1.ss.ownBlock = some g → lo ≤ g ∧ out.ownBlock ≠ some g
  dis : ∀ (i j : Nat) u v, i ≠ j → Lo[i]? = some u → Lo[j]? = some v → ∀ g, u.1.sd.ownBlock = some g → v.1.sd.ownBlock ≠ some g
theorem OwnI.same {lo : Nat} {w w' : World} {out : Value} {A : List Ac} {Lo : List AvS} (h : OwnI lo w out A Lo) (hk : Same w w') : OwnI lo w' out A Lo :=
  ⟨h.own.same hk, h.fr, h.le, fun i u a h1 h2 => let ⟨q1, q2, q3, q4, q5, q6, q7⟩ := h.el i u a h1 h2; ⟨q1, q2, q3, q4.same hk, q5.same hk, q6, q7⟩, h.dis⟩
theorem OwnI.at_ {lo : Nat} {w : World} {out : Value} {A : List Ac} {Lo : List AvS} (h : OwnI lo w out A Lo) {i : Nat} {u : AvS} (hu : Lo[i]? = some u) : ∃ a, A[i]? = some a ∧ Mine byteE 5 w u.1.sd a.D ∧ (∀ g, u.1.sd.ownBlock = some g → lo ≤ g ∧ out.ownBlock ≠ some g) := by
  have hi := (List.getElem?_eq_some_iff.1 hu).1
  have ha := List.getElem?_eq_getElem (show i < A.length by have := h.le; omega)
  obtain ⟨q1, q2, q3, q4, q5, q6, q7⟩ := h.el i u _ hu ha
  exact ⟨_, ha, q4, q6⟩
theorem OwnI.acts {lo : Nat} {w : World} {out : Value} {A : List Ac} {Lo : List AvS} (h : OwnI lo w out A Lo) (hl : Lo.length = A.length) : AvsAt w.heap.size w (Lo.map (·.1)) A := by
  refine ⟨by simpa using hl, fun i v a h1 h2 => ?_⟩
  rw [List.getElem?_map] at h1
  obtain ⟨u, h3, rfl⟩ := Option.map_eq_some_iff.1 h1
  obtain ⟨q1, q2, q3, q4, q5, q6, q7⟩ := h.el i u a h3 h2
  exact ⟨q1, q2, q3, Gv.mine q4, Gv.mine q5⟩
/-- one call more -/
theorem OwnI.push {lo : Nat} {w wa wb : World} {out out' : Value} {A : List Ac} {Lo : List AvS} {xo : AvS} {a : Ac} (h : OwnI lo w out A Lo) (hs : Same w wa) (ha : A[Lo.length]? = some a) (hO : Mine asE 28 wb out' (Lo ++ [xo])) (hk : Kept (fun y => out.ownBlock = some y ∧ 0 < vcap out) wa wb)
    (hfr : ∀ g, out'.ownBlock = some g → out.ownBlock = some g ∨ wa.heap.size ≤ g) (e1 : xo.1.wh = a.wh) (e2 : xo.1.bl = a.bl) (e3 : xo.1.pg = a.pg) (hd : Mine byteE 5 wa xo.1.sd a.D) (hp : Mine byteE 5 wa xo.1.ss a.Sp) (fd : ∀ g, xo.1.sd.ownBlock = some g → w.heap.size ≤ g) (fp : ∀ g, xo.1.ss.ownBlock = some g → w.heap.size ≤ g) (hlo : lo ≤ w.heap.size) : OwnI lo wb out' A (Lo ++ [xo]) := by
  have za := hs.size
  have oB : ∀ g, out.ownBlock = some g → g < w.heap.size := fun g hg => h.own.lt hg
  have keep : ∀ {t : Value} {D : List Int}, Mine byteE 5 wa t D → (∀ g, t.ownBlock = some g → out.ownBlock ≠ some g) → Mine byteE 5 wb t D := fun hM hne => hM.kept hk fun g hg hin => hne g hg hin.1
  have case : ∀ {i : Nat} {u : AvS}, (Lo ++ [xo])[i]? = some u → (i < Lo.length ∧ Lo[i]? = some u) ∨ (i = Lo.length ∧ u = xo) := fun {i u} hu => by
    by_cases hi : i < Lo.length
    · rw [List.getElem?_append_left hi] at hu
      exact .inl ⟨hi, hu⟩
    · rw [List.getElem?_append_right (by omega)] at hu
      have e0 : i - Lo.length = 0 := by
        have := (List.getElem?_eq_some_iff.1 hu).1
        simp at this
        omega
      rw [e0] at hu
      exact .inr ⟨by omega, by simpa using hu.symm⟩
  have lA : Lo.length < A.length := (List.getElem?_eq_some_iff.1 ha).1
  refine ⟨hO, fun g hg => (hfr g hg).elim (h.fr g) fun q => by omega, by simp; omega, fun i u a' h1 h2 => ?_, fun i j u v hne h1 h2 g hg => ?_⟩
  · rcases case h1 with ⟨hi, hu⟩ | ⟨e, hu⟩
    · obtain ⟨q1, q2, q3, q4, q5, q6, q7⟩ := h.el i u a' hu h2
      refine ⟨q1, q2, q3, keep (q4.same hs) fun g hg => (q6 g hg).2, keep (q5.same hs) fun g hg => (q7 g hg).2, fun g hg => ⟨(q6 g hg).1, fun e => ?_⟩, fun g hg => ⟨(q7 g hg).1, fun e => ?_⟩⟩
      · exact (hfr g e).elim (q6 g hg).2 fun q => by have := q4.lt hg; omega
      · exact (hfr g e).elim (q7 g hg).2 fun q => by have := q5.lt hg; omega
    · subst e hu
      rw [ha] at h2
      cases h2
      refine ⟨e1, e2, e3, keep hd fun g hg e => ?_, keep hp fun g hg e => ?_, fun g hg => ⟨by have := fd g hg; omega, fun e => ?_⟩, fun g hg => ⟨by have := fp g hg; omega, fun e => ?_⟩⟩
      · have := fd g hg; have := oB g e; omega
      · have := fp g hg; have := oB g e; omega
      · have q1 := fd g hg
        have q2 := hd.lt hg
        exact (hfr g e).elim (fun q => by have := oB g q; omega) fun q => by omega
      · have q1 := fp g hg
        have q2 := hp.lt hg
        exact (hfr g e).elim (fun q => by have := oB g q; omega) fun q => by omega
  · have lv : ∀ {i : Nat} {u : AvS}, Lo[i]? = some u → ∀ g, u.1.sd.ownBlock = some g → g < w.heap.size := fun {i u} hu g hg => by
      obtain ⟨a, _, q, _⟩ := h.at_ hu
      exact q.lt hg
    rcases case h1 with ⟨hi, hu1⟩ | ⟨q1, hu1⟩ <;> rcases case h2 with ⟨hi', hu2⟩ | ⟨q2, hu2⟩
    · exact h.dis i j u v hne hu1 hu2 g hg
    · intro e
      rw [hu2] at e
      have := lv hu1 g hg
      have := fd g e
      omega
    · intro e
      rw [hu1] at hg
      have := lv hu2 g e
      have := fd g hg
      omega
    · exact absurd (q1.trans q2.symm) hne
section
variable {w w' : World} {S T S' T' M : Nat → Prop} {b mf : Nat} {sB : Value} {Lb : List Bv} {d : Dv} {fv pv ev : Value} {Fl : List Int} {PV : List Sl} {RP : List (List Rv)}
/-- all that is new is not the device's -/
theorem Both.more (h : Both w S T b mf sB Lb d fv pv ev Fl PV RP) (hk : Same w w') : Both w' S (fun y => T y ∨ (w.heap.size ≤ y ∧ y < w'.heap.size)) b mf sB Lb d fv pv ev Fl PV RP :=
  ⟨h.dev.later hk (fun _ _ h => h) (fun y hy => .inl hy) (fun y hy hy2 => hy2.resolve_right (by omega)) (fun y hy => by
    rcases hy with hy | hy
    · exact Nat.lt_of_lt_of_le (h.dev.lt _ hy) hk.size
    · exact hy.2), h.wf, (h.ref.next (S' := fun y => T y ∨ (w.heap.size ≤ y ∧ y < w'.heap.size)) fun y hy => hy.imp_right (·.1)).same hk⟩
end
theorem ref_fits4 {w : World} {S : Nat → Prop} {d : Dv} {fv pv ev : Value} {Fl : List Int} {PV : List Sl} {RP : List (List Rv)} (h : RfAt w S d fv pv ev Fl PV RP) (b : Nat) (n cut cb : Int) (off e : Bool) : Fits [.ptr, .int .i64, .int .i64, .int .i64, .int .i64, .slice, .slice, .slice, .int .i64, .int .i64, .int .i64, .bool, .bool] (pt b :: (refC d.g fv pv ev n cut cb off ++ [.bool e])) := ⟨⟨_, rfl⟩, ref_fits3 h n cut cb off e⟩
theorem rdB_len {d : Dv} (hw : Wf d) (B A : Int) : (d.rdB B A).length ≤ 1000 := by
  unfold Dv.rdB
  split
  · rename_i h
    have s0 := hw.s0
    have s1 := hw.s1
    unfold Dv.rdE at h
    split at h
    · cases h
    · rename_i hP
      have hP' : d.hasP B A = true := by simpa using hP
      obtain ⟨i, e, hi, hq⟩ := hw.pgAt hP'
      have ok := (hw.blk (Dv.hasB_of hP')).pg i _ hq
      split at h
      · cases h
      · split at h
        · cases h
        · rename_i n1
          split at h
          · cases h
          · rename_i n4
            split at h
            · cases h
            · rename_i n5
              have := ok.lo
              have := ok.hi
              have := ok.data (by omega)
              rw [List.length_drop]
              omega
  · simp
theorem rdA_len {d : Dv} (hw : Wf d) (B A : Int) : (d.rdA B A).length ≤ 1000 := by
  unfold Dv.rdA
  split
  · have := hw.s1
    rw [List.length_take]
    omega
  · simp
theorem c3 (g : Geo) (v1 : Value) (F : List Int) (v2 : Value) (L : List Av) (A : List Ac) (x1 x2 : Av) (e1 e2 : Ac) (w : World) (hF : Given intE w v1 F) (hL : Given avE w v2 L) (hA : AvsAt w.heap.size w L A) (hx1 : AvAt w.heap.size w x1 e1) (hx2 : AvAt w.heap.size w x2 e2) (hFl : F.length < 9223372036854775808) (hAl : A.length < 9223372036854775808) :
    Gives Try.prog 3 [g.v, v1, v2, .agg (x1.cells ++ x2.cells).toArray] w (.bool true) := by
  obtain ⟨fa, fc, rfl⟩ := hF.1.slice
  obtain ⟨la, lc, rfl⟩ := hL.1.slice
  have hLA := hA.len
  obtain ⟨d1a, d1c, ed1⟩ := hx1.d.src.1.slice
  obtain ⟨s1a, s1c, es1⟩ := hx1.s.src.1.slice
  obtain ⟨d2a, d2c, ed2⟩ := hx2.d.src.1.slice
  obtain ⟨s2a, s2c, es2⟩ := hx2.s.src.1.slice
  refine gives mix t3 rfl rfl (ε := [.int .i64 g.b, .int .i64 g.p, .int .i64 g.s, .int .i64 g.e, .slice fa F.length fc, .slice la L.length lc, .int .i64 x1.wh, .int .i64 x1.bl, .int .i64 x1.pg, x1.sd, x1.ss, .int .i64 x2.wh, .int .i64 x2.bl, .int .i64 x2.pg, x2.sd, x2.ss]) ⟨⟨_, rfl⟩, ⟨_, rfl⟩, ⟨_, rfl⟩, ⟨_, rfl⟩, ⟨_, _, _, rfl⟩, ⟨_, _, _, rfl⟩, ⟨_, rfl⟩, ⟨_, rfl⟩, ⟨_, rfl⟩, ⟨_, _, _, ed1⟩, ⟨_, _, _, es1⟩, ⟨_, rfl⟩, ⟨_, rfl⟩, ⟨_, rfl⟩, ⟨_, _, _, ed2⟩, ⟨_, _, _, es2⟩, trivial⟩ (den_blk fun b16 k16 _ _ => den_norm (by simp only [List.cons_append, List.nil_append]; rfl) (den_blk fun b17 k17 _ _ => den_norm (by simp only [List.cons_append, List.nil_append]; rfl) ?_))
  have z16 : w.heap.size ≤ b16 := k16
  have z17 : w.heap.size ≤ b17 := k17
  refine den_call_bool (b := smallG g) (fun wx h => c8 g wx) rfl (fun _ _ _ _ => den_norm (by simp only [List.cons_append, List.nil_append]; rfl) (den_splitNot (fun hb => ?_) (fun hb => ?_)))
  · exact den_call_bool (b := true) (fun wa _ => c11 wa) rfl (fun _ _ _ _ => den_norm (by simp only [List.cons_append, List.nil_append]; rfl) (den_leaf rfl))
  have hsm : smallG g = true := hb
  refine den_splitLt (fun h20 => ?_) (fun h20 => ?_)
  · exact den_call_bool (b := true) (fun wa _ => c11 wa) rfl (fun _ _ _ _ => den_norm (by simp only [List.cons_append, List.nil_append]; rfl) (den_leaf rfl))
  have h20' : (F.length : Int) ≤ 20 := h20
  refine den_call_bool (b := fewB A 25) (fun w3 h3 => c9 _ L A 25 w3 (hL.1.same h3.base) (hA.same h3.base) hAl) rfl (fun _ _ _ _ => den_norm (by simp only [List.cons_append, List.nil_append]; rfl) (den_splitNot (fun hb => ?_) (fun hb => ?_)))
  · exact den_call_bool (b := true) (fun wa _ => c11 wa) rfl (fun _ _ _ _ => den_norm (by simp only [List.cons_append, List.nil_append]; rfl) (den_leaf rfl))
  have hfew : fewB A 25 = true := hb
  have hA25 : A.length ≤ 25 ∧ ∀ x ∈ A, okA x = true := by
    simp only [fewB, Bool.and_eq_true, decide_eq_true_eq, List.all_eq_true] at hfew
    exact ⟨by omega, hfew.2⟩
  refine den_call_bool (b := fewB [e1, e2] 2) (fun w3 h3 => ?_) rfl (fun _ _ _ _ => den_norm (by simp only [List.cons_append, List.nil_append]; rfl) (den_splitNot (fun hb => ?_) (fun hb => ?_)))
  · have hbk : HasBlk w3 (pt b17) (x1.cells ++ x2.cells) := h3.facts.1
    have := c9 (slc0 b17 2 2) [x1, x2] [e1, e2] 2 w3 (two_acts hbk) (lo := w.heap.size) ⟨rfl, fun i v a q1 q2 => ?_⟩ (by simp)
    · exact this
    · match i, q1, q2 with
      | 0, q1, q2 => cases q1; cases q2; exact hx1.same h3.base
      | 1, q1, q2 => cases q1; cases q2; exact hx2.same h3.base
  · exact den_call_bool (b := true) (fun wa _ => c11 wa) rfl (fun _ _ _ _ => den_norm (by simp only [List.cons_append, List.nil_append]; rfl) (den_leaf rfl))
  have hfew2 : fewB [e1, e2] 2 = true := hb
  have hok12 : okA e1 = true ∧ okA e2 = true := by
    simp only [fewB, Bool.and_eq_true, decide_eq_true_eq, List.all_eq_true] at hfew2
    exact ⟨hfew2.2 _ (by simp), hfew2.2 _ (by simp)⟩
  refine den_call_bool (b := okG g) (fun w3 h3 => c10 g w3) rfl (fun w3 w4 h3 h34 => den_norm (by simp only [List.cons_append, List.nil_append]; rfl) (den_splitNot (fun hb => ?_) (fun hb => ?_)))
  · exact den_call_bool (b := true) (fun wa _ => c11 wa) rfl (fun _ _ _ _ => den_norm (by simp only [List.cons_append, List.nil_append]; rfl) (den_leaf rfl))
  have hg : okG g = true := hb
  refine den_for F.length (fun j w' => ∀ (i : Nat) x, i < j → F[i]? = some x → 0 ≤ x) ⟨rfl, fun w _ i y hi => by omega⟩ ?_
  intro jf wf hjf hIf hkf hfaf
  refine den_norm (by simp only [List.cons_append, List.nil_append]; rfl) (den_splitLt (fun hlt => ?_) (fun hge => ?_))
  · have hlt' : jf < F.length := by have : (jf : Int) < (F.length : Int) := hlt; omega
    obtain ⟨x, hx⟩ : ∃ x, F[jf]? = some x := ⟨_, List.getElem?_eq_getElem hlt'⟩
    refine den_idx2 (E := intE) (L := F) x jf [.int .i64 x] (hF.1.same hkf) rfl (by decide) rfl hx ⟨⟨_, rfl⟩, trivial⟩ (whole _) (fun wa ha => (hF.1.same hkf).same (shown_same ha)) (fun ad had hin => by simp [BlkIn, nth, blkOf, vaddr] at hin) fun wa ha => den_norm (by simp only [List.cons_append, List.nil_append]; rfl) (den_splitLt (fun hneg => ?_) (fun hpos => ?_))
    · exact den_call_bool (b := true) (fun wa _ => c11 wa) rfl (fun _ _ _ _ => den_norm (by simp only [List.cons_append, List.nil_append]; rfl) (den_leaf_ne (by decide) (den_leaf rfl)))
    · have hpos' : 0 ≤ x := hpos
      refine den_ob64 (by simp only [IE.den, nth, vint]; omega) (den_next rfl hlt' fun wb _ i y hi hy => ?_)
      by_cases hij : i = jf
      · subst hij
        rw [hx] at hy
        cases hy
        exact hpos'
      · exact hIf i y (by omega) hy
  have hbF : badF F = false := by
    unfold badF
    rw [List.any_eq_false]
    intro x hx
    obtain ⟨i, hi⟩ := List.getElem?_of_mem hx
    have hge' : (F.length : Int) ≤ jf := hge
    have := hIf i x (by have := (List.getElem?_eq_some_iff.1 hi).1; omega) hi
    simp
    omega
  -- copies of the calls
  have l16 : b16 < wf.heap.size := by obtain ⟨b', ty, e, hh⟩ := hfaf.2.1; have e' : pt b16 = pt b' := e; cases e'; exact (Array.getElem?_eq_some_iff.1 hh).1
  have l17 : b17 < wf.heap.size := by obtain ⟨b', ty, e, hh⟩ := hfaf.1; have e' : pt b17 = pt b' := e; cases e'; exact (Array.getElem?_eq_some_iff.1 hh).1
  have zwf : w.heap.size ≤ wf.heap.size := hkf.size
  refine den_loop (fun ls w' => ∃ (j : Nat) (out : Value) (Lo : List AvS), ls = [out, .int .i64 (j : Int)] ∧ j ≤ L.length ∧ Lo.length = j ∧ OwnI wf.heap.size w' out A Lo ∧ wf.heap.size ≤ w'.heap.size) (fun ls _ => L.length - (vint (nth ls 1)).toNat) (fun wa ha => ⟨0, .slice none 0 0, [], rfl, by omega, rfl, ⟨Mine.nil, fun g hg => (by cases hg), by simp, fun i u a h => by simp at h, fun i j u v _ h => by simp at h⟩, (shown_same ha).size⟩) ?_
  rintro wg l wh hwg hfl ⟨j, out, Lo, rfl, hj, hlo, hO, zh⟩ hkh hfah
  obtain ⟨oa, oc, eo⟩ := hO.own.slice
  rw [hlo] at eo
  subst eo
  refine den_norm (by simp only [List.cons_append, List.nil_append]; rfl) (den_splitLt (fun hlt => ?_) (fun hge2 => ?_))
  · have hlt' : j < L.length := by have : (j : Int) < (L.length : Int) := hlt; omega
    obtain ⟨v, hv⟩ : ∃ v, L[j]? = some v := ⟨_, List.getElem?_eq_getElem hlt'⟩
    obtain ⟨a, ha⟩ : ∃ a, A[j]? = some a := ⟨_, List.getElem?_eq_getElem (by omega)⟩
    have hva := hA.at_ j v a hv ha
    have hoa := hA25.2 a (List.mem_of_getElem? ha)
    obtain ⟨hoD, hoS⟩ : a.D.length ≤ 100 ∧ a.Sp.length ≤ 100 := by simpa [okA] using hoa
    obtain ⟨da, dc, ed⟩ := hva.d.src.1.slice
    obtain ⟨sa, sc, es⟩ := hva.s.src.1.slice
    refine den_idx2 (E := avE) (L := L) v j [.int .i64 v.wh, .int .i64 v.bl, .int .i64 v.pg, v.sd, v.ss] (hL.1.same hkh) rfl (by decide) rfl hv ⟨⟨_, rfl⟩, ⟨_, rfl⟩, ⟨_, rfl⟩, ⟨_, _, _, ed⟩, ⟨_, _, _, es⟩, trivial⟩ (whole _) (fun wa h => (hL.1.same hkh).same (shown_same h)) (fun ad had hin => by simp [BlkIn, nth, blkOf, vaddr] at hin) (fun wi hwi => den_norm (by simp only [List.cons_append, List.nil_append]; rfl) (den_blk fun b30 k30 _ kW30 => den_norm (by simp only [List.cons_append, List.nil_append]; rfl) ?_))
    have s_hi : Same wh wi := shown_same hwi
    have z30 : wi.heap.size ≤ b30 := k30
    refine den_cut (fun ls w' => ∃ wB, Same wi wB ∧ b30 < wB.heap.size ∧ CpI wB b30 v.wh v.bl v.pg a.D a.Sp ls w') ?_ ?_
    · refine den_start1 fun wB hwB => ?_
      have s_iB : Same wi wB := shown_new hwB fun y hy => by simp [BlkIn, nth, blkOf, vaddr] at hy; omega
      have lB : b30 < wB.heap.size := hwB.lt (i := 30) (by simp [keys]) rfl
      exact rTop (a := fun i => nth [.int .i64 g.b, .int .i64 g.p, .int .i64 g.s, .int .i64 g.e, .slice fa F.length fc, .slice la L.length lc, .int .i64 x1.wh, .int .i64 x1.bl, .int .i64 x1.pg, x1.sd, x1.ss, .int .i64 x2.wh, .int .i64 x2.bl, .int .i64 x2.pg, x2.sd, x2.ss, pt b16, pt b17, .bool (smallG g), .bool (fewB A 25), .bool (fewB [e1, e2] 2), .bool (okG g), .int .i64 jf, .slice oa j oc, .int .i64 j] i) (I := fun ls w' => ∃ wB, Same wi wB ∧ b30 < wB.heap.size ∧ CpI wB b30 v.wh v.bl v.pg a.D a.Sp ls w') (fun ls w' h => ⟨wB, s_iB, lB, h⟩) rfl ((hva.d.same hwB.base).src) ((hva.s.same hwB.base).src) (by omega) (by omega) lB (Kept.refl _ wB)
    rintro l wj hfj ⟨wB, s_iB, lB, vA, vB, rfl, mA, mB, fA, fB, kBj⟩ hkj hfaj
    obtain ⟨vAa, vAc, eA⟩ := mA.slice
    obtain ⟨vBa, vBc, eB⟩ := mB.slice
    let xo : AvS := ⟨⟨v.wh, v.bl, v.pg, vA, vB⟩, ⟨_, _, _, eA⟩, _, _, _, eB⟩
    have s_ij : Same wi wj := ((s_iB.mono fun _ _ h => h.elim).trans kBj).mono fun y hy e => by omega
    have Oi := hO.same s_hi
    have Oj := Oi.same s_ij
    have zhi : wh.heap.size ≤ wi.heap.size := s_hi.size
    have ziB : wi.heap.size ≤ wB.heap.size := s_iB.size
    have zij : wi.heap.size ≤ wj.heap.size := s_ij.size
    refine den_norm (by simp only [List.cons_append, List.nil_append]; rfl) (den_blk fun b36 k36 _ _ => den_norm (by simp only [List.cons_append, List.nil_append]; rfl) ?_)
    have z36 : wj.heap.size ≤ b36 := k36
    refine den_push (E := asE) (T := 28) rfl u25 i28 z28 s28 rfl (by decide) by28 as_one (.slice oa j oc) Lo xo rfl rfl rfl (by omega) (fun g hg _ => .inl (by have := hO.fr g hg; show w.heap.size ≤ g; omega)) (by simp [keys]) (fun wa ha => Oj.own.same (shown_same ha)) ?_ (fun hd => by cases hd) (fun _ => rfl) (fun wk out' wl hwk hM' kkl hfr hap => den_norm (by simp only [List.cons_append, List.nil_append]; rfl) ?_)
    · intro g hg _ hin2
      have q1 := hO.own.lt hg
      have q2 := hO.fr g hg
      simp [BlkIn, nth, blkOf, vaddr] at hin2
      omega
    have s_ik : Same wi wk := s_ij.trans (shown_same hwk)
    have zik : wi.heap.size ≤ wk.heap.size := s_ik.size
    have On : OwnI wf.heap.size wl out' A (Lo ++ [xo]) := Oi.push s_ik (by rw [hlo]; exact ha) hM' kkl (fun g hg => ?_) hva.wh hva.bl hva.pg (mA.same (shown_same hwk)) (mB.same (shown_same hwk)) (fun g hg => by have := fA g hg; omega) (fun g hg => by have := fB g hg; omega) (by omega)
    · refine den_ob64 ⟨by simp only [IE.den, nth, vint]; omega, by simp only [IE.den, nth, vint]; omega⟩ (den_leaf_eq fun wm hm => ⟨⟨j + 1, out', Lo ++ [xo], ?_, by omega, by simp; omega, On.same (shown_same hm), ?_⟩, ?_⟩)
      · show [out', Value.int .i64 ((j : Int) + 1)] = _
        rw [show ((j : Int) + 1) = ((j + 1 : Nat) : Int) by simp]
      · have := kkl.size
        have := (shown_same hm).size
        omega
      · show L.length - ((j : Int) + 1).toNat < L.length - (j : Int).toNat
        omega
    · rcases hfr with ⟨e, _⟩ | ⟨b', e, hb', _⟩
      · rw [e] at hg; exact .inl hg
      · rw [e] at hg; cases hg; exact .inr hb'
  have ej : j = L.length := by have : (L.length : Int) ≤ (j : Int) := hge2; omega
  have hlA : Lo.length = A.length := by omega
  refine den_callR (fun w5 l w6 => ∃ S T b mf sB Lb d fv pv ev Fl PV RP, l = pt b :: (refC d.g fv pv ev d.n d.cut d.cb d.off ++ [.bool true]) ∧ Both w6 S T b mf sB Lb d fv pv ev Fl PV RP ∧ d.n ≤ A.length ∧ d.g = g ∧ (∀ y, S y → w5.heap.size ≤ y) ∧ ∀ y, y < w5.heap.size → T y) (fun w5 h5 => ?_) (fun w5 l w6 h5 hfl5 hR k56 => ?_)
  · have O5 := hO.same (shown_same h5)
    refine (c12 g _ F _ (Lo.map (·.1)) A w5 (hF.same h5.base) (O5.own.unsub (E := avE) rfl fun _ => rfl).given (O5.acts hlA) (by omega) (by omega) hA25.2 hsm hg hbF).mono fun r w' ⟨S, T, b, mf, sB, Lb, d, fv, pv, ev, Fl, PV, RP, q1, q2, q3, q4, q5, q6⟩ => ?_
    exact ⟨_, ref_fits4 q2.ref b _ _ _ _ true, by rw [q1]; rfl, S, T, b, mf, sB, Lb, d, fv, pv, ev, Fl, PV, RP, rfl, q2, q3, q4, q5, q6⟩
  obtain ⟨S, T, b, mf, sB, Lb, d, fv, pv, ev, Fl, PV, RP, rfl, HB, hn, hgd, hS, hT⟩ := hR
  have O6 := (hO.same (shown_same h5)).same k56
  have hw := HB.wf
  have l38a : b16 < w5.heap.size := h5.lt (i := 16) (by simp [keys]) rfl
  have l38b : b17 < w5.heap.size := h5.lt (i := 17) (by simp [keys]) rfl
  have z56 : w5.heap.size ≤ w6.heap.size := k56.size
  have z05 : w.heap.size ≤ w5.heap.size := h5.base.size
  have zh5 : wh.heap.size ≤ w5.heap.size := (shown_same h5).size
  refine den_norm (by simp only [List.cons_append, List.nil_append, refC]; rfl) (den_blk fun b38 k38 _ _ => den_norm (by simp only [List.cons_append, List.nil_append]; rfl) (den_split_false rfl ?_))
  have z38 : w6.heap.size ≤ b38 := k38
  have lS : ∀ y, S y → y < w6.heap.size := fun y hy => HB.dev.lt _ (HB.dev.ST _ hy)
  -- the bytes of the own calls
  have lsd : ∀ {i : Nat} {u : AvS}, Lo[i]? = some u → ∀ y, u.1.sd.ownBlock = some y → wf.heap.size ≤ y ∧ y < w5.heap.size ∧ (Value.slice oa j oc).ownBlock ≠ some y := fun {i u} hu y hy => by
    obtain ⟨a, _, q1, q2⟩ := (hO.same (shown_same h5)).at_ hu
    exact ⟨(q2 y hy).1, q1.lt hy, (q2 y hy).2⟩
  refine den_for Lo.length (fun i w' => Both w' S (fun y => T y ∨ y = b38) b mf sB Lb d fv pv ev Fl PV RP ∧ Mine asE 28 w' (.slice oa j oc) Lo ∧ ∀ (i : Nat) u a, Lo[i]? = some u → A[i]? = some a → ∃ D, D.length = a.D.length ∧ Mine byteE 5 w' u.1.sd D) ⟨rfl, fun wa ha => ?_⟩ ?_
  · have s6a : Same w6 wa := shown_new ha fun y hy => by simp [BlkIn, nth, blkOf, vaddr] at hy; omega
    exact ⟨HB.one s6a z38 (ha.lt (i := 38) (by simp [keys]) rfl), O6.own.same s6a, fun i u a h1 h2 => ⟨a.D, rfl, (O6.el i u a h1 h2).2.2.2.1.same s6a⟩⟩
  rintro i w7 hi ⟨HB7, OW7, DW7⟩ hk7 hfa7
  have zw7 : w.heap.size ≤ w7.heap.size := hk7.size
  have l38 : b38 < w7.heap.size := by obtain ⟨b', ty, e, hh⟩ := hfa7.1; have e' : pt b38 = pt b' := e; cases e'; exact (Array.getElem?_eq_some_iff.1 hh).1
  refine den_norm (by simp only [List.cons_append, List.nil_append]; rfl) (den_splitLt (fun hlt => ?_) (fun hge3 => ?_))
  · have hlt' : i < Lo.length := by have : (i : Int) < (j : Int) := hlt; omega
    obtain ⟨u, hu⟩ : ∃ u, Lo[i]? = some u := ⟨_, List.getElem?_eq_getElem hlt'⟩
    obtain ⟨a, ha⟩ : ∃ a, A[i]? = some a := ⟨_, List.getElem?_eq_getElem (by omega)⟩
    obtain ⟨xa, xc, eu⟩ := (O6.el i u a hu ha).2.2.2.1.slice
    have hoa := hA25.2 a (List.mem_of_getElem? ha)
    obtain ⟨hoD, hoS⟩ : a.D.length ≤ 100 ∧ a.Sp.length ≤ 100 := by simpa [okA] using hoa
    have hfit : Fits [.slice] [.slice xa a.D.length xc] := ⟨⟨_, _, _, rfl⟩, trivial⟩
    have hcell : ∀ (m : Nat) v, ([.slice xa a.D.length xc] : List Value)[m]? = some v → (asE.enc u)[3 + m]? = some v := cellk _ 3 _ (by simp only [asE, Av.cells, eu]; rfl)
    refine den_for a.D.length (fun k w' => Both w' S (fun y => T y ∨ y = b38) b mf sB Lb d fv pv ev Fl PV RP ∧ Mine asE 28 w' (.slice oa j oc) Lo ∧ ∀ (i : Nat) u a, Lo[i]? = some u → A[i]? = some a → ∃ D, D.length = a.D.length ∧ Mine byteE 5 w' u.1.sd D) ⟨rfl, fun wa ha => ⟨HB7.same (shown_same ha), OW7.same (shown_same ha), fun i u a h1 h2 => let ⟨D, q1, q2⟩ := DW7 i u a h1 h2; ⟨D, q1, q2.same (shown_same ha)⟩⟩⟩ ?_
    rintro k w8 hk8' ⟨HB8, OW8, DW8⟩ hk8 hfa8
    refine den_norm (by simp only [List.cons_append, List.nil_append]; rfl) ?_
    refine (den_idx2 (E := asE) (L := Lo) u i [.slice xa a.D.length xc] OW8.arr rfl (by decide) rfl hu hfit hcell (fun wa h => OW8.arr.same (shown_same h)) (fun ad had hin => by simp [BlkIn, nth, blkOf, vaddr] at hin) fun w9 h9 => den_norm (by simp only [List.cons_append, List.nil_append]; rfl) (den_splitLt (fun hlt2 => ?_) (fun hge4 => ?_)))
    · obtain ⟨D, eD, mD⟩ := DW8 i u a hu ha
      have hltk : k < a.D.length := by have : (k : Int) < (a.D.length : Int) := hlt2; omega
      obtain ⟨y, hy⟩ : ∃ y, D[k]? = some y := ⟨_, List.getElem?_eq_getElem (by omega)⟩
      rw [eu] at mD
      have s89 : Same w8 w9 := shown_same h9
      refine den_ob (by simp [BE.den, IE.den, nth, vint]) (den_ob (by simp [BE.den, IE.den, nth, vint, vlen]; omega) ?_)
      refine den_ldi (E := asE) (L := Lo) u i [.slice xa a.D.length xc] rfl (by decide) rfl hu hfit hcell (fun wa h => (OW8.arr.same s89).same (shown_same h)) (fun ad had hin => by simp [BlkIn, nth, blkOf, vaddr] at hin) fun w10 h10 => den_norm (by simp only [List.cons_append, List.nil_append]; rfl) ?_
      have s810 := s89.trans (shown_same h10)
      refine den_idx2 (E := byteE) (L := D) y k [.int .u8 y] (mD.arr.same s810) rfl (by decide) rfl hy ⟨⟨_, rfl⟩, trivial⟩ (whole _) (fun wa h => (mD.arr.same s810).same (shown_same h)) (fun ad had hin => by simp [BlkIn, nth, blkOf, vaddr] at hin) fun w11 h11 => den_norm (by simp only [List.cons_append, List.nil_append]; rfl) ?_
      have s811 := s810.trans (shown_same h11)
      refine den_ob (by simp [BE.den, IE.den, nth, vint]) (den_ob (by simp [BE.den, IE.den, nth, vint, vlen]; omega) ?_)
      refine den_storeM (E := byteE) (T := 5) (.slice xa a.D.length xc) D k y (IntKind.wrap .u8 (y + 1)) (.int .u8 (IntKind.wrap .u8 (y + 1))) [.int .u8 (IntKind.wrap .u8 (y + 1))] (by kernel_rfl) rfl rfl rfl hy rfl rfl rfl (by intro u hu; simp at hu; subst hu; rfl) (by simp [byteE]) (by decide) rfl (fun w12 h12 => (mD.same s811).same (shown_same h12)) (fun w12 h12 g2 hg2 => ?_) ⟨w8, mD⟩ (fun w12 w13 h12 hm13 hk13 => ?_)
      · obtain ⟨q1, q2, q3⟩ := lsd hu g2 (by rw [eu]; exact hg2)
        exact ⟨fun hd => (by cases hd), fun hl => absurd (show g2 < w.heap.size from hl) (by omega), fun hin => by simp [BlkIn, nth, blkOf, vaddr] at hin; omega, fun hx => (by cases hx)⟩
      have s812 := s811.trans (shown_same h12)
      have K : Kept (fun y => u.1.sd.ownBlock = some y) w8 w13 := ((s812.mono fun _ _ h => h.elim).trans hk13).mono fun y _ h => by rw [eu]; exact h
      have hst : Both w13 S (fun y => T y ∨ y = b38) b mf sB Lb d fv pv ev Fl PV RP ∧ Mine asE 28 w13 (.slice oa j oc) Lo ∧ ∀ (i : Nat) u a, Lo[i]? = some u → A[i]? = some a → ∃ D, D.length = a.D.length ∧ Mine byteE 5 w13 u.1.sd D := by
        refine ⟨HB8.kept K (fun y _ hy => .inl (hT y (lsd hu y hy).2.1)) (fun y _ hy hs => by have := hS y hs; have := (lsd hu y hy).2.1; omega), OW8.kept K fun g hg hin => (lsd hu g hin).2.2 hg, fun i' u' a' h1 h2 => ?_⟩
        by_cases e : i' = i
        · subst e
          rw [hu] at h1
          cases h1
          rw [ha] at h2
          cases h2
          exact ⟨D.set k (IntKind.wrap .u8 (y + 1)), by rw [List.length_set]; exact eD, by rw [eu]; exact hm13⟩
        · obtain ⟨D', q1, q2⟩ := DW8 i' u' a' h1 h2
          exact ⟨D', q1, q2.kept K fun g hg hin => O6.dis i' i u' u e h1 hu g hg hin⟩
      refine den_ob64 ⟨by simp only [IE.den, nth, vint]; omega, by simp only [IE.den, nth, vint]; omega⟩ (den_next rfl hltk fun wa ha => ⟨hst.1.same (shown_same ha), hst.2.1.same (shown_same ha), fun i u a h1 h2 => let ⟨D, q1, q2⟩ := hst.2.2 i u a h1 h2; ⟨D, q1, q2.same (shown_same ha)⟩⟩)
    · have s89 : Same w8 w9 := shown_same h9
      refine den_ob64 ⟨by simp only [IE.den, nth, vint]; omega, by simp only [IE.den, nth, vint]; omega⟩ (den_leaf_ne (by decide) (den_next rfl hlt' fun wa ha => ⟨(HB8.same s89).same (shown_same ha), (OW8.same s89).same (shown_same ha), fun i u a h1 h2 => let ⟨D, q1, q2⟩ := DW8 i u a h1 h2; ⟨D, q1, (q2.same s89).same (shown_same ha)⟩⟩))
  obtain ⟨nb, hnb⟩ : ∃ n : Nat, g.b = n := ⟨g.b.toNat, by have := hw.b0; rw [hgd] at this; omega⟩
  have hb8 : nb ≤ 8 := by have := hw.b1; rw [hgd] at this; omega
  refine den_for nb (fun k w' => ∃ T, Both w' S T b mf sB Lb d fv pv ev Fl PV RP ∧ (∀ y, y < w5.heap.size → T y)) ⟨rfl, fun wa ha => ⟨_, HB7.same (shown_same ha), fun y hy => .inl (hT y hy)⟩⟩ ?_
  rintro k w8 hk8' ⟨T5, HB8, hT5⟩ hk8 hfa8
  have l38' : b38 < w8.heap.size := by obtain ⟨b', ty, e, hh⟩ := hfa8.1; have e' : pt b38 = pt b' := e; cases e'; exact (Array.getElem?_eq_some_iff.1 hh).1
  refine den_norm (by simp only [List.cons_append, List.nil_append]; rfl) (den_splitLt (fun hlt5 => ?_) (fun hge5 => ?_))
  · have hlt5' : k < nb := by have : (k : Int) < g.b := hlt5; omega
    refine den_m13 rfl (k : Int) 0 (d.rdE k 0) (d.rdA k 0) (d.rdB k 0) rfl (fun _ _ _ => ⟨rfl, rfl, rfl⟩) (fun wa ha => HB8.dev.same (shown_same ha)) hw rfl rfl rfl (fun w9 va vb w10 h9 k910 m1 m2 f1 f2 => den_norm (by simp only [List.cons_append, List.nil_append]; rfl) ?_)
    obtain ⟨xa, ca, eva⟩ := m1.slice
    obtain ⟨xb, cb, evb⟩ := m2.slice
    subst eva evb
    have z89 : w8.heap.size ≤ w9.heap.size := (shown_same h9).size
    have z910 : w9.heap.size ≤ w10.heap.size := k910.size
    have zw9 : w.heap.size ≤ w9.heap.size := h9.base.size
    have z68 : w6.heap.size ≤ w8.heap.size := by have := HB8.dev.lt; omega
    have n1 := rdA_len hw k 0
    have n2 := rdB_len hw k 0
    have HM := (HB8.same (shown_same h9)).more k910
    have lS9 : ∀ y, S y → y < w9.heap.size := fun y hy => (HB8.same (shown_same h9)).dev.lt _ ((HB8.same (shown_same h9)).dev.ST _ hy)
    refine den_for (d.rdA k 0).length (fun m w' => Both w' S (fun y => T5 y ∨ (w9.heap.size ≤ y ∧ y < w10.heap.size)) b mf sB Lb d fv pv ev Fl PV RP ∧ (∃ D, D.length = (d.rdA k 0).length ∧ Mine byteE 5 w' (.slice xa (d.rdA k 0).length ca) D) ∧ Mine byteE 5 w' (.slice xb (d.rdB k 0).length cb) (d.rdB k 0)) ⟨rfl, fun wa ha => ⟨HM.same (shown_same ha), ⟨_, rfl, m1.same (shown_same ha)⟩, m2.same (shown_same ha)⟩⟩ ?_
    rintro m w11 hm11 ⟨HB11, ⟨D, eD, mD⟩, mB11⟩ hk11 hfa11
    refine den_norm (by simp only [List.cons_append, List.nil_append]; rfl) (den_splitLt (fun hlt6 => ?_) (fun hge6 => ?_))
    · have hltm : m < (d.rdA k 0).length := by have : (m : Int) < ((d.rdA k 0).length : Int) := hlt6; omega
      obtain ⟨y, hy⟩ : ∃ y, D[m]? = some y := ⟨_, List.getElem?_eq_getElem (by omega)⟩
      refine den_idx2 (E := byteE) (L := D) y m [.int .u8 y] mD.arr rfl (by decide) rfl hy ⟨⟨_, rfl⟩, trivial⟩ (whole _) (fun wa h => mD.arr.same (shown_same h)) (fun ad had hin => by simp [BlkIn, nth, blkOf, vaddr] at hin) fun w12 h12 => den_norm (by simp only [List.cons_append, List.nil_append]; rfl) ?_
      have s12 := shown_same h12
      refine den_ob (by simp [BE.den, IE.den, nth, vint]) (den_ob (by simp [BE.den, IE.den, nth, vint, vlen]; omega) ?_)
      refine den_storeM (E := byteE) (T := 5) (.slice xa (d.rdA k 0).length ca) D m y (IntKind.wrap .u8 (y + 1)) (.int .u8 (IntKind.wrap .u8 (y + 1))) [.int .u8 (IntKind.wrap .u8 (y + 1))] (by kernel_rfl) rfl rfl rfl hy rfl rfl rfl (by intro u hu; simp at hu; subst hu; rfl) (by simp [byteE]) (by decide) rfl (fun wx hx => (mD.same s12).same (shown_same hx)) (fun wx hx g2 hg2 => ?_) ⟨w11, mD⟩ (fun wx w13 hx hm13 hk13 => ?_)
      · have q1 := f1 g2 hg2
        exact ⟨fun hd => (by cases hd), fun hl => absurd (show g2 < w.heap.size from hl) (by omega), fun hin => by simp [BlkIn, nth, blkOf, vaddr] at hin; omega, fun hx => (by cases hx)⟩
      have K : Kept (fun y => (Value.slice xa (d.rdA k 0).length ca).ownBlock = some y) w11 w13 := ((s12.trans (shown_same hx)).mono fun _ _ h => h.elim).trans hk13
      have HB13 := HB11.kept K (fun y _ hy => .inr ⟨f1 y hy, m1.lt hy⟩) (fun y _ hy hs => by have := lS9 y hs; have := f1 y hy; omega)
      have mB13 := mB11.kept K fun g hg hin => (f2 g hg).2 hin
      refine den_ob64 ⟨by simp only [IE.den, nth, vint]; omega, by simp only [IE.den, nth, vint]; omega⟩ (den_next rfl hltm fun wa ha => ⟨HB13.same (shown_same ha), ⟨D.set m (IntKind.wrap .u8 (y + 1)), by rw [List.length_set]; exact eD, hm13.same (shown_same ha)⟩, mB13.same (shown_same ha)⟩)
    refine den_for (d.rdB k 0).length (fun m w' => Both w' S (fun y => T5 y ∨ (w9.heap.size ≤ y ∧ y < w10.heap.size)) b mf sB Lb d fv pv ev Fl PV RP ∧ (∃ D, D.length = (d.rdB k 0).length ∧ Mine byteE 5 w' (.slice xb (d.rdB k 0).length cb) D)) ⟨rfl, fun wa ha => ⟨HB11.same (shown_same ha), ⟨_, rfl, mB11.same (shown_same ha)⟩⟩⟩ ?_
    rintro m' w14 hm14 ⟨HB14, ⟨D', eD', mD'⟩⟩ hk14 hfa14
    refine den_norm (by simp only [List.cons_append, List.nil_append]; rfl) (den_splitLt (fun hlt7 => ?_) (fun hge7 => ?_))
    · have hltm : m' < (d.rdB k 0).length := by have : (m' : Int) < ((d.rdB k 0).length : Int) := hlt7; omega
      obtain ⟨y, hy⟩ : ∃ y, D'[m']? = some y := ⟨_, List.getElem?_eq_getElem (by omega)⟩
      refine den_idx2 (E := byteE) (L := D') y m' [.int .u8 y] mD'.arr rfl (by decide) rfl hy ⟨⟨_, rfl⟩, trivial⟩ (whole _) (fun wa h => mD'.arr.same (shown_same h)) (fun ad had hin => by simp [BlkIn, nth, blkOf, vaddr] at hin) fun w12 h12 => den_norm (by simp only [List.cons_append, List.nil_append]; rfl) ?_
      have s12 := shown_same h12
      refine den_ob (by simp [BE.den, IE.den, nth, vint]) (den_ob (by simp [BE.den, IE.den, nth, vint, vlen]; omega) ?_)
      refine den_storeM (E := byteE) (T := 5) (.slice xb (d.rdB k 0).length cb) D' m' y (IntKind.wrap .u8 (y + 1)) (.int .u8 (IntKind.wrap .u8 (y + 1))) [.int .u8 (IntKind.wrap .u8 (y + 1))] (by kernel_rfl) rfl rfl rfl hy rfl rfl rfl (by intro u hu; simp at hu; subst hu; rfl) (by simp [byteE]) (by decide) rfl (fun wx hx => (mD'.same s12).same (shown_same hx)) (fun wx hx g2 hg2 => ?_) ⟨w14, mD'⟩ (fun wx w13 hx hm13 hk13 => ?_)
      · have q1 := (f2 g2 hg2).1
        exact ⟨fun hd => (by cases hd), fun hl => absurd (show g2 < w.heap.size from hl) (by omega), fun hin => by simp [BlkIn, nth, blkOf, vaddr] at hin; omega, fun hx => (by cases hx)⟩
      have K : Kept (fun y => (Value.slice xb (d.rdB k 0).length cb).ownBlock = some y) w14 w13 := ((s12.trans (shown_same hx)).mono fun _ _ h => h.elim).trans hk13
      have HB13 := HB14.kept K (fun y _ hy => .inr ⟨(f2 y hy).1, m2.lt hy⟩) (fun y _ hy hs => by have := lS9 y hs; have := (f2 y hy).1; omega)
      refine den_ob64 ⟨by simp only [IE.den, nth, vint]; omega, by simp only [IE.den, nth, vint]; omega⟩ (den_next rfl hltm fun wa ha => ⟨HB13.same (shown_same ha), ⟨D'.set m' (IntKind.wrap .u8 (y + 1)), by rw [List.length_set]; exact eD', hm13.same (shown_same ha)⟩⟩)
    refine den_ob64 ⟨by simp only [IE.den, nth, vint]; omega, by simp only [IE.den, nth, vint]; omega⟩ (den_leaf_ne (by decide) (den_leaf_ne (by decide) (den_next rfl hlt5' fun wa ha => ⟨_, HB14.same (shown_same ha), fun y hy => .inl (hT5 y hy)⟩)))
  refine den_callR (fun w9 l w10 => ∃ b2 mf2 sB2 Lb2, l = [pt b2] ∧ DevM w10 (fun y => w9.heap.size ≤ y ∧ y < w10.heap.size) (fun y => T5 y ∨ (w9.heap.size ≤ y ∧ y < w10.heap.size)) b2 mf2 sB2 Lb2 d) (fun w9 h9 => ?_) (fun w9 l w10 h9 hfl9 hR k910 => ?_)
  · exact (c14 w9 (HB8.dev.same (shown_same h9)) hw).mono fun v w' ⟨b2, mf2, sB2, Lb2, e, q⟩ => ⟨[pt b2], ⟨⟨_, rfl⟩, trivial⟩, e, b2, mf2, sB2, Lb2, rfl, q⟩
  obtain ⟨b2, mf2, sB2, Lb2, rfl, D2⟩ := hR
  have HM := (HB8.same (shown_same h9)).more k910
  have CB : Both w10 (fun y => w9.heap.size ≤ y ∧ y < w10.heap.size) (fun y => T5 y ∨ (w9.heap.size ≤ y ∧ y < w10.heap.size)) b2 mf2 sB2 Lb2 d fv pv ev Fl PV RP := ⟨D2, hw, HM.ref⟩
  have z89 : w8.heap.size ≤ w9.heap.size := (shown_same h9).size
  have z910 : w9.heap.size ≤ w10.heap.size := k910.size
  have z68 : w6.heap.size ≤ w8.heap.size := by omega
  have zw8 : w.heap.size ≤ w8.heap.size := hk8.size
  refine den_norm (by simp only [List.cons_append, List.nil_append]; rfl) ?_
  refine den_m15 rfl x1 e1 rfl (fun _ _ _ _ _ _ _ _ => rfl) (fun wa ha => HM.same (shown_same ha)) (fun wa ha => hx1.same ha.base) hok12.1 (by omega) (fpM0 (fun y hy hl => by have := hS y hy; omega) (fun y hin hs => ?_)) (fun w11 w12 S1 T1 Lb1 fv1 pv1 ev1 Fl1 PV1 RP1 h11 k1112 hn1 HD1 => ?_)
  · have q1 := hS y hs
    have q2 := lS y hs
    have e : b38 = y ∨ b17 = y ∨ b16 = y := by simpa [BlkIn, nth, blkOf, vaddr] using hin
    omega
  have s1011 : Same w10 w11 := shown_same h11
  have z1011 : w10.heap.size ≤ w11.heap.size := s1011.size
  have z1112 : w11.heap.size ≤ w12.heap.size := k1112.size
  have C12 := (CB.same s1011).kept k1112 (fun y _ hs => HM.dev.ST y hs) (fun y _ hs h2 => by have := lS y hs; omega)
  refine den_norm (by simp only [List.cons_append, List.nil_append, refC]; rfl) (den_blk fun b54 k54 _ _ => den_norm (by simp only [List.cons_append, List.nil_append]; rfl) ?_)
  have z54 : w12.heap.size ≤ b54 := k54
  refine den_m15 rfl x2 e2 rfl (fun _ _ _ _ _ _ _ _ => rfl) (fun wa ha => C12.same (shown_new ha fun y hy => by simp [BlkIn, nth, blkOf, vaddr] at hy; omega)) (fun wa ha => hx2.same ha.base) hok12.2 (by omega) (fpM0 (fun y hy hl => by have := hy.1; omega) (fun y hin hs => ?_)) (fun w13 w14 S3 T3 Lb3 fv3 pv3 ev3 Fl3 PV3 RP3 h13 k1314 hn2 HD2 => ?_)
  · have q1 := hs.1
    have q2 := hs.2
    have e : b54 = y ∨ b38 = y ∨ b17 = y ∨ b16 = y := by simpa [BlkIn, nth, blkOf, vaddr] using hin
    omega
  have s1213 : Same w12 w13 := shown_new h13 fun y hy => by simp [BlkIn, nth, blkOf, vaddr] at hy; omega
  have E14 := (HD1.same s1213).kept k1314 (fun y _ hs => (hn1.T y).2 (.inl (.inr hs))) (fun y _ hs h2 => (hn1.dn y h2).elim (fun q => by have := lS y q; have := hs.1; omega) fun q => by have := hs.2; omega)
  refine den_norm (by simp only [List.cons_append, List.nil_append, refC]; rfl) (den_blk fun b67 k67 _ _ => den_norm (by simp only [List.cons_append, List.nil_append]; rfl) (den_split_true rfl (den_split_true rfl ?_)))
  have z67 : w14.heap.size ≤ b67 := k67
  refine den_m16 rfl rfl (fun _ => rfl) (fun wa ha => E14.same (shown_new ha fun y hy => by simp [BlkIn, nth, blkOf, vaddr] at hy; omega)) (fun w15 w16 h15 k1516 => den_norm (by simp only [List.cons_append, List.nil_append]; rfl) (den_split_true rfl ?_))
  have s1416 : Same w14 w16 := (shown_new h15 fun y hy => by simp [BlkIn, nth, blkOf, vaddr] at hy; omega).trans k1516
  refine den_m16 rfl rfl (fun _ => rfl) (fun wa ha => (HD2.same s1416).same (shown_same ha)) (fun w17 w18 h17 k1718 => den_norm (by simp only [List.cons_append, List.nil_append]; rfl) (den_split_true rfl ?_))
  exact den_call_bool (b := true) (fun wa _ => c11 wa) rfl (fun _ _ _ _ => den_norm (by simp only [List.cons_append, List.nil_append]; rfl) (den_leaf_ne (by decide) (den_leaf_ne (by decide) (den_leaf_ne (by decide) (den_leaf_ne (by decide) (den_leaf rfl))))))
end Go.Proofs.Ytppbapnibpeolaa
