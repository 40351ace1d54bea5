/- A call on a device and on its reference, as a rule; the law FlashPlays. No conditions beyond those that each theorem names. -/
import Derived.Test.YtppbapnibpeolaaZC
set_option maxRecDepth 100000
set_option maxHeartbeats 4000000
set_option linter.unusedVariables false
set_option linter.unusedSimpArgs false
namespace Go.Proofs.Ytppbapnibpeolaa
open Go.Sx

section
variable {w w' : World} {S T S' T' M : Nat → Prop} {b mf : Nat} {sB : Value} {Lb : List Bv} {d : Dv} {fv pv ev : Value} {Fl : List Int} {PV : List Sl} {RP : List (List Rv)}
theorem ref_fits3 (h : RfAt w S d fv pv ev Fl PV RP) (n cut cb : Int) (off e : Bool) : Fits [.int .i64, .int .i64, .int .i64, .int .i64, .slice, .slice, .slice, .int .i64, .int .i64, .int .i64, .bool, .bool] (refC d.g fv pv ev n cut cb off ++ [.bool e]) := by
  obtain ⟨⟨a1, c1, e1⟩, ⟨a2, c2, e2⟩, ⟨a3, c3, e3⟩⟩ := ref_cells h
  exact ⟨⟨_, rfl⟩, ⟨_, rfl⟩, ⟨_, rfl⟩, ⟨_, rfl⟩, ⟨_, _, _, e1⟩, ⟨_, _, _, e2⟩, ⟨_, _, _, e3⟩, ⟨_, rfl⟩, ⟨_, rfl⟩, ⟨_, rfl⟩, ⟨_, rfl⟩, ⟨_, rfl⟩, trivial⟩
/-- a block more that is not the device's -/
theorem DevM.one (h : DevM w S T b mf sB Lb d) (hk : Same w w') {z : Nat} (h1 : w.heap.size ≤ z) (h2 : z < w'.heap.size) : DevM w' S (fun y => T y ∨ y = z) b mf sB Lb d :=
  h.later hk (fun _ _ h => h) (fun y hy => .inl hy) (fun y hy hy2 => hy2.resolve_right (by omega)) (fun y hy => by
    rcases hy with hy | rfl
    · exact Nat.lt_of_lt_of_le (h.lt _ hy) hk.size
    · exact h2)
theorem RfAt.one (h : RfAt w T d fv pv ev Fl PV RP) (hk : Same w w') {z : Nat} (h1 : w.heap.size ≤ z) : RfAt w' (fun y => T y ∨ y = z) d fv pv ev Fl PV RP :=
  (h.next (S' := fun y => T y ∨ y = z) fun y hy => hy.imp_right fun e => by omega).same hk
/-- a device and its reference -/
structure Both (w : World) (S T : Nat → Prop) (b mf : Nat) (sB : Value) (Lb : List Bv) (d : Dv) (fv pv ev : Value) (Fl : List Int) (PV : List Sl) (RP : List (List Rv)) : Prop where
  dev : DevM w S T b mf sB Lb d
  wf : Wf d
  ref : RfAt w T d fv pv ev Fl PV RP
theorem Both.same (h : Both w S T b mf sB Lb d fv pv ev Fl PV RP) (hk : Same w w') : Both w' S T b mf sB Lb d fv pv ev Fl PV RP := ⟨h.dev.same hk, h.wf, h.ref.same hk⟩
theorem Both.one (h : Both w S T b mf sB Lb d fv pv ev Fl PV RP) (hk : Same w w') {z : Nat} (h1 : w.heap.size ≤ z) (h2 : z < w'.heap.size) : Both w' S (fun y => T y ∨ y = z) b mf sB Lb d fv pv ev Fl PV RP := ⟨h.dev.one hk h1 h2, h.wf, h.ref.one hk h1⟩
/-- other blocks turn -/
theorem Both.kept (h : Both w S T b mf sB Lb d fv pv ev Fl PV RP) (hk : Kept M w w') (h1 : ∀ y, y < w.heap.size → M y → T y) (h2 : ∀ y, y < w.heap.size → M y → ¬ S y) : Both w' S T b mf sB Lb d fv pv ev Fl PV RP :=
  ⟨h.dev.kept hk h1 h2, h.wf, h.ref.kept (M := fun y => M y ∧ y < w.heap.size) (hk.mono fun y hy hm => ⟨hm, hy⟩) fun y hy => h1 y hy.2 hy.1⟩
end
section
variable {G : Ctx} {Λ : Nat → List Value → World → Prop} {ε : List Value} {wx ws : World} {X : Nat → Prop} {k k' : VC}
variable {S T : Nat → Prop} {b mf : Nat} {sB : Value} {Lb : List Bv} {d : Dv} {fv pv ev : Value} {Fl : List Int} {PV : List Sl} {RP : List (List Rv)}
variable {args : List SV} {j : Nat} {drawn : Bool} {t t' un : List Nat} {fs : Facts}
theorem den_m15 {lo : Nat} {rs : SV} (hP : G.P = Try.prog) (v : Av) (a : Ac) (ha : denL ε args = [pt b, refV d.g fv pv ev d.n d.cut d.cb d.off, .agg v.cells.toArray])
    (hj : ∀ g fv pv ev n cut cb off, rs.den (ε ++ (refC g fv pv ev n cut cb off ++ [.bool true])) = .tuple #[refV g fv pv ev n cut cb off, .bool true])
    (H : ∀ w, Shown G ε t fs wx w → Both w S T b mf sB Lb d fv pv ev Fl PV RP) (hv : ∀ w, Shown G ε t fs wx w → AvAt lo w v a) (hoa : okA a = true) (hn : d.n ≤ 100000000)
    (hF : ∀ w, Shown G ε t fs wx w → ∀ y, S y → y < w.heap.size → FpOk G drawn X ε un w y)
    (hk : ∀ w w' S' T' Lb' fv' pv' ev' Fl' PV' RP', Shown G ε t fs wx w → Kept S w w' → Nxt w S T S' T' → Both w' S' T' b mf sB Lb' (d.act a) fv' pv' ev' Fl' PV' RP' → k.den G Λ (ε ++ (refC (d.act a).g fv' pv' ev' (d.act a).n (d.act a).cut (d.act a).cb (d.act a).off ++ [.bool true])) w' (if drawn then ws else w') (if drawn then X else BlkIn ε t')) :
    (VC.call 15 args [.int .i64, .int .i64, .int .i64, .int .i64, .slice, .slice, .slice, .int .i64, .int .i64, .int .i64, .bool, .bool] rs [] drawn t t' un fs k).den G Λ ε wx ws X := by
  refine den_callM (fun _ => S) (fun w l w' => ∃ fv' pv' ev' Fl' PV' RP' S' T' Lb', l = refC (d.act a).g fv' pv' ev' (d.act a).n (d.act a).cut (d.act a).cb (d.act a).off ++ [.bool true] ∧ Nxt w S T S' T' ∧ Both w' S' T' b mf sB Lb' (d.act a) fv' pv' ev' Fl' PV' RP') hF (fun w hs => ?_) (fun w l w' hs hfl hR hk' => ?_)
  · rw [ha, hP]
    have h := H w hs
    refine (c15 v a w h.dev h.wf h.ref (hv w hs) hoa hn).mono (fun r w' ⟨rv', S', T', Lb', q1, q2, q3, fv', pv', ev', Fl', PV', RP', q4, q5⟩ _ => ⟨_, ref_fits3 q5 _ _ _ _ true, ?_, ⟨fv', pv', ev', Fl', PV', RP', S', T', Lb', rfl, q2, q3, h.wf.act a, q5⟩, trivial⟩) (fun _ _ h => h)
    rw [q1, q4, hj]
  · obtain ⟨fv', pv', ev', Fl', PV', RP', S', T', Lb', rfl, h1, h2⟩ := hR
    exact hk w w' S' T' Lb' fv' pv' ev' Fl' PV' RP' hs hk' h1 h2
theorem den_m16 (hP : G.P = Try.prog) (ha : denL ε args = [pt b, refV d.g fv pv ev d.n d.cut d.cb d.off]) (hj : ∀ v, nth (ε ++ [v]) j = v)
    (H : ∀ w, Shown G ε t fs wx w → Both w S T b mf sB Lb d fv pv ev Fl PV RP)
    (hk : ∀ w w', Shown G ε t fs wx w → Same w w' → k.den G Λ (ε ++ [.bool true]) w' (if drawn then ws else w') (if drawn then X else BlkIn ε t')) :
    (VC.call 16 args [.bool] (.bool (.var j)) [] drawn t t' un fs k).den G Λ ε wx ws X :=
  den_call_bool (b := true) (fun w hs => by rw [ha, hP]; exact c16 w (H w hs).dev (H w hs).wf ((H w hs).ref.shrink (H w hs).dev.ST)) (hj _) hk
end
theorem bad_fits (a1 : Option Addr) (n1 c1 : Nat) (a2 : Option Addr) (n2 c2 : Nat) (a3 : Option Addr) (n3 c3 : Nat) : Fits [.int .i64, .int .i64, .int .i64, .int .i64, .slice, .slice, .slice, .int .i64, .int .i64, .int .i64, .bool, .int .i64] (refC ⟨0, 0, 0, 0⟩ (.slice a1 n1 c1) (.slice a2 n2 c2) (.slice a3 n3 c3) 0 0 0 false ++ [Value.int .i64 2]) :=
  ⟨⟨_, rfl⟩, ⟨_, rfl⟩, ⟨_, rfl⟩, ⟨_, rfl⟩, ⟨_, _, _, rfl⟩, ⟨_, _, _, rfl⟩, ⟨_, _, _, rfl⟩, ⟨_, rfl⟩, ⟨_, rfl⟩, ⟨_, rfl⟩, ⟨_, rfl⟩, ⟨_, rfl⟩, trivial⟩
/-- both sides' New -/
theorem okd_new {g : Geo} {F : Int → Bool} (hok : okG g = true) (hsm : smallG g = true) : Wf (newDv g F) := by
  have bnd := of_decide_eq_true hok
  have sm : g.b ≤ 8 ∧ g.p ≤ 8 ∧ g.s ≤ 40 := by simpa [smallG, hok] using hsm
  exact Wf.new g _ bnd.1 sm.1 bnd.2.2.1 sm.2.1 bnd.2.2.2.2.1 sm.2.2 bnd.2.2.2.2.2.2.1 bnd.2.2.2.2.2.2.2
section
variable {G : Ctx} {Λ : Nat → List Value → World → Prop} {ε : List Value} {wx ws : World} {X : Nat → Prop} {k k' : VC}
variable {args args' : List SV} {j : Nat} {drawn : Bool} {t t' un : List Nat} {fs fs' : Facts}
/-- New of the device, then of the reference -/
theorem den_new2 {rs rs' : SV} {t2' un2 : List Nat} (hP : G.P = Try.prog) (g : Geo) (s : Value) (F : List Int) (hF : ∀ w, Shown G ε t fs wx w → Given intE w s F) (hm : F.length ≤ 1000) (hsm : smallG g = true)
    (ha : denL ε args = [g.v, s]) (ha' : ∀ p n, denL (ε ++ [p, n]) args' = [g.v, s])
    (hj : ∀ p n, rs.den (ε ++ [.pointer p, .int .i64 n]) = .tuple #[.pointer p, .int .i64 n])
    (hj' : ∀ p n' g fv pv ev n cut cb off e, rs'.den ((ε ++ [.pointer p, .int .i64 n']) ++ (refC g fv pv ev n cut cb off ++ [.int .i64 e])) = .tuple #[refV g fv pv ev n cut cb off, .int .i64 e])
    (hbad : (okG g && !badF F) = false → ∀ w w' fa fn fc pa pn pc ea en ec, Same w w' → k.den G Λ ((ε ++ [.pointer none, .int .i64 2]) ++ (refC ⟨0, 0, 0, 0⟩ (.slice fa fn fc) (.slice pa pn pc) (.slice ea en ec) 0 0 0 false ++ [.int .i64 2])) w' w' (BlkIn (ε ++ [.pointer none, .int .i64 2]) t2'))
    (hk : okG g = true → badF F = false → ∀ w b mf sB Lb fv pv ev Fl PV RP w2 w', Shown G ε t fs wx w → Same w w2 → Same w2 w' → Both w' (fun y => w.heap.size ≤ y ∧ y < w2.heap.size) (fun y => w.heap.size ≤ y ∧ y < w2.heap.size) b mf sB Lb (newDv g (inF F)) fv pv ev Fl PV RP →
      k.den G Λ ((ε ++ [pt b, .int .i64 0]) ++ (refC g fv pv ev 0 (-1) 0 false ++ [.int .i64 0])) w' w' (BlkIn (ε ++ [pt b, .int .i64 0]) t2')) :
    (VC.call 29 args [.ptr, .int .i64] rs [] false t t' un fs (.call 31 args' [.int .i64, .int .i64, .int .i64, .int .i64, .slice, .slice, .slice, .int .i64, .int .i64, .int .i64, .bool, .int .i64] rs' [] false [] t2' un2 fs' k)).den G Λ ε wx ws X := by
  refine den_callR (fun w5 l w6 => (l = [.pointer none, .int .i64 2] ∧ (okG g && !badF F) = false ∧ Given intE w6 s F) ∨ (okG g = true ∧ badF F = false ∧ Given intE w6 s F ∧ ∃ b mf sB Lb, l = [pt b, .int .i64 0] ∧ DevM w6 (fun y => w5.heap.size ≤ y ∧ y < w6.heap.size) (fun y => w5.heap.size ≤ y ∧ y < w6.heap.size) b mf sB Lb (newDv g (inF F)))) (fun w5 h5 => ?_) (fun w5 l w6 h5 hfl hR k56 => ?_)
  · rw [ha, hP]
    refine ⟨Calls.mono (c29 g s F w5 (hF w5 h5) hm hsm).run fun e w' ⟨v, e1, h, hs⟩ => ⟨v, e1, ?_, hs⟩⟩
    rcases h with ⟨h0, e⟩ | ⟨q1, q2, b, mf, sB, Lb, e, hD⟩
    · exact ⟨[.pointer none, .int .i64 2], ⟨⟨_, rfl⟩, ⟨_, rfl⟩, trivial⟩, by rw [e, hj], .inl ⟨rfl, h0, (hF w5 h5).same hs⟩⟩
    · exact ⟨[pt b, .int .i64 0], ⟨⟨_, rfl⟩, ⟨_, rfl⟩, trivial⟩, by rw [e, hj], .inr ⟨q1, q2, (hF w5 h5).same hs, b, mf, sB, Lb, rfl, hD⟩⟩
  show VC.den _ _ _ _ w6 w6 _
  rcases hR with ⟨rfl, h0, hg⟩ | ⟨q1, q2, hg, b, mf, sB, Lb, rfl, hD⟩
  · refine den_callR (fun w7 l w8 => ∃ fa fn fc pa pn pc ea en ec, l = refC ⟨0, 0, 0, 0⟩ (.slice fa fn fc) (.slice pa pn pc) (.slice ea en ec) 0 0 0 false ++ [.int .i64 2]) (fun w7 h7 => ?_) (fun w7 l w8 h7 hfl7 hR k78 => ?_)
    · rw [ha', hP]
      refine (c31 g s F w7 (hg.same (shown_same h7)) hm hsm).mono fun r w' h => ?_
      rcases h with ⟨_, z, ⟨fv, pv, ev, ez, ⟨a1, n1, c1, e1⟩, ⟨a2, n2, c2, e2⟩, a3, n3, c3, e3⟩, er⟩ | ⟨q1, q2, _⟩
      · subst e1 e2 e3
        exact ⟨_, bad_fits a1 n1 c1 a2 n2 c2 a3 n3 c3, by rw [er, ez, hj'], a1, n1, c1, a2, n2, c2, a3, n3, c3, rfl⟩
      · rw [q1, q2] at h0
        cases h0
    · obtain ⟨fa, fn, fc, pa, pn, pc, ea, en, ec, rfl⟩ := hR
      exact hbad h0 _ _ fa fn fc pa pn pc ea en ec k78
  · have z5 : w5.heap.size ≤ w6.heap.size := k56.size
    refine den_callR (fun w7 l w8 => ∃ fv pv ev Fl PV RP, l = refC g fv pv ev 0 (-1) 0 false ++ [.int .i64 0] ∧ RfAt w8 (fun y => w5.heap.size ≤ y ∧ y < w6.heap.size) (newDv g (inF F)) fv pv ev Fl PV RP) (fun w7 h7 => ?_) (fun w7 l w8 h7 hfl7 hR k78 => ?_)
    · rw [ha', hP]
      refine (c31 g s F w7 (hg.same (shown_same h7)) hm hsm).mono fun r w' h => ?_
      rcases h with ⟨h0, _⟩ | ⟨_, _, rv, er, hR⟩
      · rw [q1, q2] at h0
        cases h0
      · obtain ⟨fv, pv, ev, Fl, PV, RP, ez, hf⟩ := hR (fun y => w5.heap.size ≤ y ∧ y < w6.heap.size) fun y hy => Nat.lt_of_lt_of_le hy.2 (shown_same h7).size
        exact ⟨_, ref_fits2 hf 0 (-1) 0 false 0, by rw [er, ez]; exact (hj' _ _ _ _ _ _ _ _ _ _ _).symm, fv, pv, ev, Fl, PV, RP, rfl, hf⟩
    · obtain ⟨fv, pv, ev, Fl, PV, RP, rfl, hf⟩ := hR
      have s68 : Same w6 w8 := (shown_same h7).trans k78
      exact hk q1 q2 w5 b mf sB Lb fv pv ev Fl PV RP w6 w8 h5 k56 s68 ⟨hD.same s68, okd_new q1 hsm, hf⟩
end
theorem c7 (g : Geo) (v1 : Value) (F : List Int) (v2 : Value) (L : List Av) (A : List Ac) (w : World) (hF : Given intE w v1 F) (hL : Given avE w v2 L) (hA : AvsAt w.heap.size w L A) (hFl : F.length < 9223372036854775808) (hAl : A.length < 9223372036854775808) : Gives Try.prog 7 [g.v, v1, v2] w (.bool true) := by
  obtain ⟨fa, fc, rfl⟩ := hF.1.slice
  obtain ⟨la, lc, rfl⟩ := hL.1.slice
  have hLA := hA.len
  refine gives mix t7 rfl rfl (ε := [.int .i64 g.b, .int .i64 g.p, .int .i64 g.s, .int .i64 g.e, .slice fa F.length fc, .slice la L.length lc]) ⟨⟨_, rfl⟩, ⟨_, rfl⟩, ⟨_, rfl⟩, ⟨_, rfl⟩, ⟨_, _, _, rfl⟩, ⟨_, _, _, rfl⟩, trivial⟩ (den_blk fun b6 k6 _ _ => den_norm (by simp only [List.cons_append, List.nil_append]; rfl) ?_)
  have z6 : w.heap.size ≤ b6 := k6
  refine den_call_bool (b := smallG g) (fun w1 h1 => c8 g w1) rfl (fun w1 w2 h1 h12 => den_norm (by simp only [List.cons_append, List.nil_append]; rfl) (den_splitNot (fun hb => ?_) (fun hb => ?_)))
  · exact den_call_bool (b := true) (fun wa _ => c11 wa) rfl (fun _ _ _ _ => den_norm (by simp only [List.cons_append, List.nil_append]; rfl) (den_leaf rfl))
  have hsm : smallG g = true := hb
  refine den_splitLt (fun h20 => ?_) (fun h20 => ?_)
  · exact den_call_bool (b := true) (fun wa _ => c11 wa) rfl (fun _ _ _ _ => den_norm (by simp only [List.cons_append, List.nil_append]; rfl) (den_leaf rfl))
  have h20' : (F.length : Int) ≤ 20 := h20
  refine den_call_bool (b := fewB A 40) (fun w3 h3 => c9 _ L A 40 w3 (hL.1.same h3.base) (hA.same h3.base) hAl) rfl (fun w3 w4 h3 h34 => den_norm (by simp only [List.cons_append, List.nil_append]; rfl) (den_splitNot (fun hb => ?_) (fun hb => ?_)))
  · exact den_call_bool (b := true) (fun wa _ => c11 wa) rfl (fun _ _ _ _ => den_norm (by simp only [List.cons_append, List.nil_append]; rfl) (den_leaf rfl))
  have hfew : fewB A 40 = true := hb
  have hA40 : A.length ≤ 40 ∧ ∀ x ∈ A, okA x = true := by
    simp only [fewB, Bool.and_eq_true, decide_eq_true_eq, List.all_eq_true] at hfew
    exact ⟨by omega, hfew.2⟩
  refine den_new2 rfl g (.slice fa F.length fc) F (fun w5 h5 => hF.same h5.base) (by omega) hsm rfl (fun _ _ => rfl) (fun _ _ => rfl) (fun _ _ _ _ _ _ _ _ _ _ _ => rfl) (fun hno w7 w8 fa2 fn2 fc2 pa2 pn2 pc2 ea2 en2 ec2 k78 => ?_) (fun hok hbF w5 b mf sB Lb fv pv ev Fl PV RP w6 w8 h5 k56 k68 HB => ?_)
  · refine den_norm (by simp only [List.cons_append, List.nil_append, refC]; rfl) (den_blk fun b23 k23 _ _ => den_norm (by simp only [List.cons_append, List.nil_append]; rfl) ?_)
    refine den_m18 rfl 2 rfl (fun _ => rfl) (fun w9 w10 h9 k910 => den_norm (by simp only [List.cons_append, List.nil_append]; rfl) (den_split_false rfl (den_split_false rfl ?_)))
    refine den_loop (fun ls w' => ls = [.int .i64 0, .int .i64 0, .int .i64 0, .int .i64 0, .int .i64 0, .slice fa2 fn2 fc2, .slice pa2 pn2 pc2, .slice ea2 en2 ec2, .int .i64 0, .int .i64 0, .int .i64 0, .bool false]) (fun ls _ => 0) (fun wa ha => rfl) ?_
    rintro w11 l w12 h11 hfl rfl hk hfa
    refine den_norm (by simp only [List.cons_append, List.nil_append]; rfl) (den_splitLt (fun _ => den_split_false rfl ?_) (fun _ => ?_))
    · exact den_call_bool (b := true) (fun wa _ => c11 wa) rfl (fun _ _ _ _ => den_norm (by simp only [List.cons_append, List.nil_append]; rfl) (den_leaf_ne (by decide) (den_leaf rfl)))
    · exact den_call_bool (b := true) (fun wa _ => c11 wa) rfl (fun _ _ _ _ => den_norm (by simp only [List.cons_append, List.nil_append]; rfl) (den_leaf_ne (by decide) (den_leaf rfl)))
  refine den_norm (by simp only [List.cons_append, List.nil_append, refC]; rfl) (den_blk fun b23 k23 _ kW23 => den_norm (by simp only [List.cons_append, List.nil_append]; rfl) ?_)
  have l6 : b6 < w5.heap.size := h5.lt (i := 6) (by simp [keys]) rfl
  have z5 : w.heap.size ≤ w5.heap.size := h5.base.size
  have z56 : w5.heap.size ≤ w6.heap.size := k56.size
  have z68 : w6.heap.size ≤ w8.heap.size := k68.size
  have z23 : w8.heap.size ≤ b23 := k23
  refine den_m18 rfl 0 rfl (fun _ => rfl) (fun w9 w10 h9 k910 => den_norm (by simp only [List.cons_append, List.nil_append]; rfl) (den_split_false rfl (den_split_false rfl ?_)))
  have s810 : Same w8 w10 := (shown_new h9 fun y hy => by simp [BlkIn, nth, blkOf, vaddr] at hy; omega).trans k910
  refine den_loop (fun ls w' => ∃ (j : Nat) (S T : Nat → Prop) (Lb : List Bv) (d : Dv) (fv pv ev : Value) (Fl : List Int) (PV : List Sl) (RP : List (List Rv)), ls = .int .i64 (j : Int) :: refC d.g fv pv ev d.n d.cut d.cb d.off ∧ j ≤ L.length ∧ Both w' S T b mf sB Lb d fv pv ev Fl PV RP ∧ d.n ≤ j ∧ (∀ y, S y → w.heap.size ≤ y) ∧ T b23 ∧ ¬ S b6 ∧ ¬ S b23) (fun ls _ => L.length - (vint (nth ls 0)).toNat) (fun wa ha => ⟨0, _, _, Lb, newDv g (inF F), fv, pv, ev, Fl, PV, RP, rfl, by omega, HB.one (s810.trans (shown_same ha)) z23 (ha.lt (i := 23) (by simp [keys]) rfl), by simp [newDv], fun y hy => Nat.le_trans z5 hy.1, .inr rfl, fun hs => by omega, fun hs => by omega⟩) ?_
  rintro w11 l w12 h11 hfl ⟨j, S, T, Lb, d, fv, pv, ev, Fl, PV, RP, rfl, hj, HD, hn, hfr, T23, n6, n23⟩ hk12 hfa12
  obtain ⟨⟨a1, c1, e1⟩, ⟨a2, c2, e2⟩, ⟨a3, c3, e3⟩⟩ := ref_cells HD.ref
  refine den_norm (by simp only [List.cons_append, List.nil_append, refC]; rfl) (den_splitLt (fun hlt => ?_) (fun hge => ?_))
  rotate_left
  · exact den_call_bool (b := true) (fun wa _ => c11 wa) rfl (fun _ _ _ _ => den_norm (by simp only [List.cons_append, List.nil_append]; rfl) (den_leaf_ne (by decide) (den_leaf rfl)))
  have hlt' : j < L.length := by have : (j : Int) < (L.length : Int) := hlt; omega
  refine den_split_true rfl ?_
  obtain ⟨v, hv⟩ : ∃ v, L[j]? = some v := ⟨_, List.getElem?_eq_getElem hlt'⟩
  obtain ⟨a, ha⟩ : ∃ a, A[j]? = some a := ⟨_, List.getElem?_eq_getElem (by omega)⟩
  have hva := hA.at_ j v a hv ha
  have hoa := hA40.2 a (List.mem_of_getElem? ha)
  obtain ⟨da, dc, ed⟩ := hva.d.src.1.slice
  obtain ⟨sa, sc, es⟩ := hva.s.src.1.slice
  refine den_startX (fun _ => S) fun w13 h13 => ?_
  have s1213 : Same w12 w13 := shown_same h13
  have z13 : w.heap.size ≤ w13.heap.size := h13.base.size
  have l23 : b23 < w13.heap.size := h13.lt (i := 23) (by simp [keys]) rfl
  have l6' : b6 < w13.heap.size := h13.lt (i := 6) (by simp [keys]) rfl
  have z23' : w.heap.size ≤ b23 := kW23
  refine den_idxD (E := avE) (L := L) v j [.int .i64 v.wh, .int .i64 v.bl, .int .i64 v.pg, .slice da a.D.length dc, .slice sa a.Sp.length sc] rfl (by decide) rfl hv ⟨⟨_, rfl⟩, ⟨_, rfl⟩, ⟨_, rfl⟩, ⟨_, _, _, rfl⟩, ⟨_, _, _, rfl⟩, trivial⟩ (fun m u hu => by simp only [avE, Av.cells, ed, es]; simpa using hu) (hL.1.same h13.base) (fun ad had hin => ?_) (den_norm (by simp only [List.cons_append, List.nil_append]; rfl) ?_)
  · have q := hL.2.2.2 ad had
    rcases hin with hin | hin
    · have := hfr _ hin; omega
    · simp [BlkIn, nth, blkOf, vaddr] at hin; omega
  have HD13 := HD.same s1213
  have eva : Value.agg v.cells.toArray = .agg #[.int .i64 v.wh, .int .i64 v.bl, .int .i64 v.pg, .slice da a.D.length dc, .slice sa a.Sp.length sc] := by simp [Av.cells, ed, es]
  obtain ⟨an1, an2⟩ := act_n d a
  have hstep : ∀ {wa wb : World} {S' T' : Nat → Prop} {T0 : Nat → Prop} {Lb' fv' pv' ev' Fl' PV' RP' z}, Same w13 wa → T0 b23 → Nxt wa S T0 S' T' → T' z → ¬ S' z → Both wb S' T' b mf sB Lb' (d.act a) fv' pv' ev' Fl' PV' RP' → ∀ {wc : World}, Kept (fun y => y = b23 ∨ y = z) wb wc → Both wc S' T' b mf sB Lb' (d.act a) fv' pv' ev' Fl' PV' RP' ∧ (∀ y, S' y → w.heap.size ≤ y) ∧ T' b23 ∧ ¬ S' b6 ∧ ¬ S' b23 := fun {wa wb S' T' T0 Lb' fv' pv' ev' Fl' PV' RP' z} hs ht hx hz hz' hB {wc} hk => by
    have q0 := hs.size
    have t23 : T' b23 := (hx.T _).2 (.inl ht)
    have m6 : ¬ S' b6 := fun h => (hx.dn _ h).elim n6 fun q => by omega
    have m23 : ¬ S' b23 := fun h => (hx.dn _ h).elim n23 fun q => by omega
    exact ⟨hB.kept hk (fun y _ e => by rcases e with rfl | rfl <;> assumption) (fun y _ e => by rcases e with rfl | rfl <;> assumption), fun y hy => (hx.dn _ hy).elim (hfr y) fun q => by omega, t23, m6, m23⟩
  refine den_both ?_ ?_
  · refine den_m15 rfl v a (by rw [eva]; rfl) (fun _ _ _ _ _ _ _ _ => rfl) (fun wa ha => HD13.same (shown_same ha)) (fun wa ha => hva.same ha.base) hoa (by omega) (fpM (fun y hy => .inl hy) (fun y hy hl => by have := hfr y hy; omega) (fun y hin hs => ?_)) (fun w14 w15 S' T' Lb' fv' pv' ev' Fl' PV' RP' h14 k1415 hnx HD15 => ?_)
    · have e : b23 = y ∨ b6 = y := by simpa [BlkIn, nth, blkOf, vaddr] using hin
      rcases e with e | e
      · subst e; exact n23 hs
      · subst e; exact n6 hs
    refine den_norm (by simp only [List.cons_append, List.nil_append, refC]; rfl) (den_blk fun b54 k54 _ _ => den_norm (by simp only [List.cons_append, List.nil_append]; rfl) (den_split_false rfl ?_))
    have z54 : w15.heap.size ≤ b54 := k54
    have s1314 : Same w13 w14 := shown_same h14
    have m : ∀ {wc : World}, Kept (fun y => b54 = y ∨ b23 = y) w15 wc → _ := fun {wc} hk => hstep (z := b23) s1314 T23 hnx ((hnx.T _).2 (.inl T23)) (fun h => (hnx.dn _ h).elim n23 fun q => by have := s1314.size; omega) HD15 (hk.mono fun y hy e => by omega)
    refine den_m16 rfl rfl (fun _ => rfl) (fun wa ha => (m (ha.kept.mono fun y _ hy => by simpa [BlkIn, nth, blkOf, vaddr, or_comm] using hy)).1) (fun w16 w17 h16 k1617 => den_norm (by simp only [List.cons_append, List.nil_append]; rfl) (den_split_false rfl ?_))
    obtain ⟨q1, q2, q3, q4, q5⟩ := m (h16.kept.mono fun y _ hy => by simpa [BlkIn, nth, blkOf, vaddr, or_comm] using hy)
    refine den_ob64 ⟨by simp only [IE.den, nth, vint]; omega, by simp only [IE.den, nth, vint]; omega⟩ (den_leaf_eq fun wa ha => ⟨⟨j + 1, S', T', Lb', d.act a, fv', pv', ev', Fl', PV', RP', rfl, hlt', (q1.same k1617).same (shown_same ha), by push_cast; omega, q2, q3, q4, q5⟩, ?_⟩)
    show L.length - ((j : Int) + 1).toNat < L.length - (j : Int).toNat
    omega
  · refine den_blk fun b42 k42 kS42 _ => den_norm (by simp only [List.cons_append, List.nil_append]; rfl) ?_
    have z42 : w13.heap.size ≤ b42 := k42
    refine den_m15 (T := fun y => T y ∨ y = b42) rfl v a (by rw [eva]; rfl) (fun _ _ _ _ _ _ _ _ => rfl) (fun wa ha => HD13.one (shown_same ha) z42 (ha.lt (i := 42) (by simp [keys]) rfl)) (fun wa ha => hva.same ha.base) hoa (by omega) (fpM (fun y hy => .inl hy) (fun y hy hl => by have := hfr y hy; omega) (fun y hin hs => ?_)) (fun w14 w15 S' T' Lb' fv' pv' ev' Fl' PV' RP' h14 k1415 hnx HD15 => ?_)
    · have e : b42 = y ∨ b23 = y ∨ b6 = y := by simpa [BlkIn, nth, blkOf, vaddr] using hin
      rcases e with e | e | e
      · subst e; have := HD13.dev.lt _ (HD13.dev.ST _ hs); omega
      · subst e; exact n23 hs
      · subst e; exact n6 hs
    refine den_norm (by simp only [List.cons_append, List.nil_append, refC]; rfl) (den_split_false rfl ?_)
    have s1314 : Same w13 w14 := shown_same h14
    have l42 : b42 < w14.heap.size := h14.lt (i := 42) (by simp [keys]) rfl
    have n42 : ¬ S b42 := fun hs => by have := HD13.dev.lt _ (HD13.dev.ST _ hs); omega
    have m : ∀ {wc : World}, Kept (fun y => b42 = y ∨ b23 = y) w15 wc → _ := fun {wc} hk => hstep (z := b42) s1314 (.inl T23) hnx ((hnx.T _).2 (.inl (.inr rfl))) (fun h => (hnx.dn _ h).elim n42 fun q => by omega) HD15 (hk.mono fun y hy e => by omega)
    refine den_m16 rfl rfl (fun _ => rfl) (fun wa ha => (m (ha.kept.mono fun y _ hy => by simpa [BlkIn, nth, blkOf, vaddr, or_comm] using hy)).1) (fun w16 w17 h16 k1617 => den_norm (by simp only [List.cons_append, List.nil_append]; rfl) (den_split_false rfl ?_))
    obtain ⟨q1, q2, q3, q4, q5⟩ := m (h16.kept.mono fun y _ hy => by simpa [BlkIn, nth, blkOf, vaddr, or_comm] using hy)
    refine den_ob64 ⟨by simp only [IE.den, nth, vint]; omega, by simp only [IE.den, nth, vint]; omega⟩ (den_leaf_eq fun wa ha => ⟨⟨j + 1, S', T', Lb', d.act a, fv', pv', ev', Fl', PV', RP', rfl, hlt', (q1.same k1617).same (shown_same ha), by push_cast; omega, q2, q3, q4, q5⟩, ?_⟩)
    show L.length - ((j : Int) + 1).toNat < L.length - (j : Int).toNat
    omega
end Go.Proofs.Ytppbapnibpeolaa
