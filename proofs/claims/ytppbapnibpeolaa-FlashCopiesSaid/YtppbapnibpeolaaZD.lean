/- A call on a device and on its reference, as a rule; the law FlashPlays. No conditions beyond those that each theorem names. -/
import Derived.Test.YtppbapnibpeolaaZC
set_option maxRecDepth 100000
set_option maxHeartbeats 4000000
set_option linter.unusedVariables false
set_option linter.unusedSimpArgs false
namespace Go.Proofs.Ytppbapnibpeolaa
open Go.Sx

section
variable {w w' : World} {S T S' T' M : Nat → Prop} {b mf : Nat} {sB : Value} {Lb : List Bv} {d : Dv} {fv pv ev : Value} {Fl : List Int} {PV : List Sl} {RP : List (List Rv)}
theorem ref_fits3 (h : RfAt w S d fv pv ev Fl PV RP) (n cut cb : Int) (off e : Bool) : Fits [.int .i64, .int .i64, .int .i64, .int .i64, .slice, .slice, .slice, .int .i64, .int .i64, .int .i64, .bool, .bool] (refC d.g fv pv ev n cut cb off ++ [.bool e]) := by
  obtain ⟨⟨a1, c1, e1⟩, ⟨a2, c2, e2⟩, ⟨a3, c3, e3⟩⟩ := ref_cells h
  exact ⟨⟨_, rfl⟩, ⟨_, rfl⟩, ⟨_, rfl⟩, ⟨_, rfl⟩, ⟨_, _, _, e1⟩, ⟨_, _, _, e2⟩, ⟨_, _, _, e3⟩, ⟨_, rfl⟩, ⟨_, rfl⟩, ⟨_, rfl⟩, ⟨_, rfl⟩, ⟨_, rfl⟩, trivial⟩
/-- a block more that is not the device's -/
theorem DevM.one (h : DevM w S T b mf sB Lb d) (hk : Same w w') {z : Nat} (h1 : w.heap.size ≤ z) (h2 : z < w'.heap.size) : DevM w' S (fun y => T y ∨ y = z) b mf sB Lb d :=
  h.later hk (fun _ _ h => h) (fun y hy => .inl hy) (fun y hy hy2 => hy2.resolve_right (by omega)) (fun y hy => by
    rcases hy with hy | rfl
    · exact Nat.lt_of_lt_of_le (h.lt _ hy) hk.size
    · exact h2)
theorem RfAt.one (h : RfAt w T d fv pv ev Fl PV RP) (hk : Same w w') {z : Nat} (h1 : w.heap.size ≤ z) : RfAt w' (fun y => T y ∨ y = z) d fv pv ev Fl PV RP :=
  (h.next (S' := fun y => T y ∨ y = z) fun y hy => hy.imp_right fun e => by omega).same hk
/-- a device and its reference -/
structure Both (w : World) (S T : Nat → Prop) (b mf : Nat) (sB : Value) (Lb : List Bv) (d : Dv) (fv pv ev : Value) (Fl : List Int) (PV : List Sl) (RP : List (List Rv)) : Prop where
  dev : DevM w S T b mf sB Lb d
  wf : Wf d
  ref : RfAt w T d fv pv ev Fl PV RP
theorem Both.same (h : Both w S T b mf sB Lb d fv pv ev Fl PV RP) (hk : Same w w') : Both w' S T b mf sB Lb d fv pv ev Fl PV RP := ⟨h.dev.same hk, h.wf, h.ref.same hk⟩
theorem Both.one (h : Both w S T b mf sB Lb d fv pv ev Fl PV RP) (hk : Same w w') {z : Nat} (h1 : w.heap.size ≤ z) (h2 : z < w'.heap.size) : Both w' S (fun y => T y ∨ y = z) b mf sB Lb d fv pv ev Fl PV RP := ⟨h.dev.one hk h1 h2, h.wf, h.ref.one hk h1⟩
/-- other blocks turn -/
theorem Both.kept (h : Both w S T b mf sB Lb d fv pv ev Fl PV RP) (hk : Kept M w w') (h1 : ∀ y, y < w.heap.size → M y → T y) (h2 : ∀ y, y < w.heap.size → M y → ¬ S y) : Both w' S T b mf sB Lb d fv pv ev Fl PV RP :=
  ⟨h.dev.kept hk h1 h2, h.wf, h.ref.kept (M := fun y => M y ∧ y < w.heap.size) (hk.mono fun y hy hm => ⟨hm, hy⟩) fun y hy => h1 y hy.2 hy.1⟩
end
section
variable {G : Ctx} {Λ : Nat → List Value → World → Prop} {ε : List Value} {wx ws : World} {X : Nat → Prop} {k k' : VC}
variable {S T : Nat → Prop} {b mf : Nat} {sB : Value} {Lb : List Bv} {d : Dv} {fv pv ev : Value} {Fl : List Int} {PV : List Sl} {RP : List (List Rv)}
variable {args : List SV} {j : Nat} {drawn : Bool} {t t' un : List Nat} {fs : Facts}
theorem den_m15 {lo : Nat} {rs : SV} (hP : G.P = Try.prog) (v : Av) (a : Ac) (ha : denL ε args = [pt b, refV d.g fv pv ev d.n d.cut d.cb d.off, .agg v.cells.toArray])
    (hj : ∀ g fv pv ev n cut cb off, rs.den (ε ++ (refC g fv pv ev n cut cb off ++ [.bool true])) = .tuple #[refV g fv pv ev n cut cb off, .bool true])
    (H : ∀ w, Shown G ε t fs wx w → Both w S T b mf sB Lb d fv pv ev Fl PV RP) (hv : ∀ w, Shown G ε t fs wx w → AvAt lo w v a) (hoa : okA a = true) (hn : d.n ≤ 100000000)
    (hF : ∀ w, Shown G ε t fs wx w → ∀ y, S y → y < w.heap.size → FpOk G drawn X ε un w y)
    (hk : ∀ w w' S' T' Lb' fv' pv' ev' Fl' PV' RP', Shown G ε t fs wx w → Kept S w w' → Nxt w S T S' T' → Both w' S' T' b mf sB Lb' (d.act a) fv' pv' ev' Fl' PV' RP' → k.den G Λ (ε ++ (refC (d.act a).g fv' pv' ev' (d.act a).n (d.act a).cut (d.act a).cb (d.act a).off ++ [.bool true])) w' (if drawn then ws else w') (if drawn then X else BlkIn ε t')) :
    (VC.call 15 args [.int .i64, .int .i64, .int .i64, .int .i64, .slice, .slice, .slice, .int .i64, .int .i64, .int .i64, .bool, .bool] rs [] drawn t t' un fs k).den G Λ ε wx ws X := by
  refine den_callM (fun _ => S) (fun w l w' => ∃ fv' pv' ev' Fl' PV' RP' S' T' Lb', l = refC (d.act a).g fv' pv' ev' (d.act a).n (d.act a).cut (d.act a).cb (d.act a).off ++ [.bool true] ∧ Nxt w S T S' T' ∧ Both w' S' T' b mf sB Lb' (d.act a) fv' pv' ev' Fl' PV' RP') hF (fun w hs => ?_) (fun w l w' hs hfl hR hk' => ?_)
  · rw [ha, hP]
    have h := H w hs
    refine (c15 v a w h.dev h.wf h.ref (hv w hs) hoa hn).mono (fun r w' ⟨rv', S', T', Lb', q1, q2, q3, fv', pv', ev', Fl', PV', RP', q4, q5⟩ _ => ⟨_, ref_fits3 q5 _ _ _ _ true, ?_, ⟨fv', pv', ev', Fl', PV', RP', S', T', Lb', rfl, q2, q3, h.wf.act a, q5⟩, trivial⟩) (fun _ _ h => h)
    rw [q1, q4, hj]
  · obtain ⟨fv', pv', ev', Fl', PV', RP', S', T', Lb', rfl, h1, h2⟩ := hR
    exact hk w w' S' T' Lb' fv' pv' ev' Fl' PV' RP' hs hk' h1 h2
theorem den_m16 (hP : G.P = Try.prog) (ha : denL ε args = [pt b, refV d.g fv pv ev d.n d.cut d.cb d.off]) (hj : ∀ v, nth (ε ++ [v]) j = v)
    (H : ∀ w, Shown G ε t fs wx w → Both w S T b mf sB Lb d fv pv ev Fl PV RP)
    (hk : ∀ w w', Shown G ε t fs wx w → Same w w' → k.den G Λ (ε ++ [.bool true]) w' (if drawn then ws else w') (if drawn then X else BlkIn ε t')) :
    (VC.call 16 args [.bool] (.bool (.var j)) [] drawn t t' un fs k).den G Λ ε wx ws X :=
  den_call_bool (b := true) (fun w hs => by rw [ha, hP]; exact c16 w (H w hs).dev (H w hs).wf ((H w hs).ref.shrink (H w hs).dev.ST)) (hj _) hk
end
theorem bad_fits (a1 : Option Addr) (n1 c1 : Nat) (a2 : Option Addr) (n2 c2 : Nat) (a3 : Option Addr) (n3 c3 : Nat) : Fits [.int .i64, .int .i64, .int .i64, .int .i64, .slice, .slice, .slice, .int .i64, .int .i64, .int .i64, .bool, .int .i64] (refC ⟨0, 0, 0, 0⟩ (.slice a1 n1 c1) (.slice a2 n2 c2) (.slice a3 n3 c3) 0 0 0 false ++ [Value.int .i64 2]) :=
  ⟨⟨_, rfl⟩, ⟨_, rfl⟩, ⟨_, rfl⟩, ⟨_, rfl⟩, ⟨_, _, _, rfl⟩, ⟨_, _, _, rfl⟩, ⟨_, _, _, rfl⟩, ⟨_, rfl⟩, ⟨_, rfl⟩, ⟨_, rfl⟩, ⟨_, rfl⟩, ⟨_, rfl⟩, trivial⟩
/-- both sides' New -/
theorem okd_new {g : Geo} {F : Int → Bool} (hok : okG g = true) (hsm : smallG g = true) : Wf (newDv g F) := by
  have bnd := of_decide_eq_true hok
  have sm : g.b ≤ 8 ∧ g.p ≤ 8 ∧ g.s ≤ 40 := by simpa [smallG, hok] using hsm
  exact Wf.new g _ bnd.1 sm.1 bnd.2.2.1 sm.2.1 bnd.2.2.2.2.1 sm.2.2 bnd.2.2.2.2.2.2.1 bnd.2.2.2.2.2.2.2
section
variable {G : Ctx} {Λ : Nat → List Value → World → Prop} {ε : List Value} {wx ws : World} {X : Nat → Prop} {k k' : VC}
variable {args args' : List SV} {j : Nat} {drawn : Bool} {t t' un : List Nat} {fs fs' : Facts}
/-- New of the device, then of the reference -/
theorem den_new2 {rs rs' : SV} {t2' un2 : List Nat} (hP : G.P = Try.prog) (g : Geo) (s : Value) (F : List Int) (hF : ∀ w, Shown G ε t fs wx w → Given intE w s F) (hm : F.length ≤ 1000) (hsm : smallG g = true)
    (ha : denL ε args = [g.v, s]) (ha' : ∀ p n, denL (ε ++ [p, n]) args' = [g.v, s])
    (hj : ∀ p n, rs.den (ε ++ [.pointer p, .int .i64 n]) = .tuple #[.pointer p, .int .i64 n])
    (hj' : ∀ p n' g fv pv ev n cut cb off e, rs'.den ((ε ++ [.pointer p, .int .i64 n']) ++ (refC g fv pv ev n cut cb off ++ [.int .i64 e])) = .tuple #[refV g fv pv ev n cut cb off, .int .i64 e])
    (hbad : (okG g && !badF F) = false → ∀ w w' fa fn fc pa pn pc ea en ec, Same w w' → k.den G Λ ((ε ++ [.pointer none, .int .i64 2]) ++ (refC ⟨0, 0, 0, 0⟩ (.slice fa fn fc) (.slice pa pn pc) (.slice ea en ec) 0 0 0 false ++ [.int .i64 2])) w' w' (BlkIn (ε ++ [.pointer none, .int .i64 2]) t2'))
    (hk : okG g = true → badF F = false → ∀ w b mf sB Lb fv pv ev Fl PV RP w2 w', Shown G ε t fs wx w → Same w w2 → Same w2 w' → Both w' (fun y => w.heap.size ≤ y ∧ y < w2.heap.size) (fun y => y < w2.heap.size) b mf sB Lb (newDv g (inF F)) fv pv ev Fl PV RP →
      k.den G Λ ((ε ++ [pt b, .int .i64 0]) ++ (refC g fv pv ev 0 (-1) 0 false ++ [.int .i64 0])) w' w' (BlkIn (ε ++ [pt b, .int .i64 0]) t2')) :
    (VC.call 29 args [.ptr, .int .i64] rs [] false t t' un fs (.call 31 args' [.int .i64, .int .i64, .int .i64, .int .i64, .slice, .slice, .slice, .int .i64, .int .i64, .int .i64, .bool, .int .i64] rs' [] false [] t2' un2 fs' k)).den G Λ ε wx ws X := by
  refine den_callR (fun w5 l w6 => (l = [.pointer none, .int .i64 2] ∧ (okG g && !badF F) = false ∧ Given intE w6 s F) ∨ (okG g = true ∧ badF F = false ∧ Given intE w6 s F ∧ ∃ b mf sB Lb, l = [pt b, .int .i64 0] ∧ DevM w6 (fun y => w5.heap.size ≤ y ∧ y < w6.heap.size) (fun y => y < w6.heap.size) b mf sB Lb (newDv g (inF F)))) (fun w5 h5 => ?_) (fun w5 l w6 h5 hfl hR k56 => ?_)
  · rw [ha, hP]
    refine ⟨Calls.mono (c29T g s F w5 (hF w5 h5) hm hsm).run fun e w' ⟨v, e1, h, hs⟩ => ⟨v, e1, ?_, hs⟩⟩
    rcases h with ⟨h0, e⟩ | ⟨q1, q2, b, mf, sB, Lb, e, hD⟩
    · exact ⟨[.pointer none, .int .i64 2], ⟨⟨_, rfl⟩, ⟨_, rfl⟩, trivial⟩, by rw [e, hj], .inl ⟨rfl, h0, (hF w5 h5).same hs⟩⟩
    · exact ⟨[pt b, .int .i64 0], ⟨⟨_, rfl⟩, ⟨_, rfl⟩, trivial⟩, by rw [e, hj], .inr ⟨q1, q2, (hF w5 h5).same hs, b, mf, sB, Lb, rfl, hD⟩⟩
  show VC.den _ _ _ _ w6 w6 _
  rcases hR with ⟨rfl, h0, hg⟩ | ⟨q1, q2, hg, b, mf, sB, Lb, rfl, hD⟩
  · refine den_callR (fun w7 l w8 => ∃ fa fn fc pa pn pc ea en ec, l = refC ⟨0, 0, 0, 0⟩ (.slice fa fn fc) (.slice pa pn pc) (.slice ea en ec) 0 0 0 false ++ [.int .i64 2]) (fun w7 h7 => ?_) (fun w7 l w8 h7 hfl7 hR k78 => ?_)
    · rw [ha', hP]
      refine (c31 g s F w7 (hg.same (shown_same h7)) hm hsm).mono fun r w' h => ?_
      rcases h with ⟨_, z, ⟨fv, pv, ev, ez, ⟨a1, n1, c1, e1⟩, ⟨a2, n2, c2, e2⟩, a3, n3, c3, e3⟩, er⟩ | ⟨q1, q2, _⟩
      · subst e1 e2 e3
        exact ⟨_, bad_fits a1 n1 c1 a2 n2 c2 a3 n3 c3, by rw [er, ez, hj'], a1, n1, c1, a2, n2, c2, a3, n3, c3, rfl⟩
      · rw [q1, q2] at h0
        cases h0
    · obtain ⟨fa, fn, fc, pa, pn, pc, ea, en, ec, rfl⟩ := hR
      exact hbad h0 _ _ fa fn fc pa pn pc ea en ec k78
  · have z5 : w5.heap.size ≤ w6.heap.size := k56.size
    refine den_callR (fun w7 l w8 => ∃ fv pv ev Fl PV RP, l = refC g fv pv ev 0 (-1) 0 false ++ [.int .i64 0] ∧ RfAt w8 (fun y => y < w6.heap.size) (newDv g (inF F)) fv pv ev Fl PV RP) (fun w7 h7 => ?_) (fun w7 l w8 h7 hfl7 hR k78 => ?_)
    · rw [ha', hP]
      refine (c31 g s F w7 (hg.same (shown_same h7)) hm hsm).mono fun r w' h => ?_
      rcases h with ⟨h0, _⟩ | ⟨_, _, rv, er, hR⟩
      · rw [q1, q2] at h0
        cases h0
      · obtain ⟨fv, pv, ev, Fl, PV, RP, ez, hf⟩ := hR (fun y => y < w6.heap.size) fun y hy => Nat.lt_of_lt_of_le hy (shown_same h7).size
        exact ⟨_, ref_fits2 hf 0 (-1) 0 false 0, by rw [er, ez]; exact (hj' _ _ _ _ _ _ _ _ _ _ _).symm, fv, pv, ev, Fl, PV, RP, rfl, hf⟩
    · obtain ⟨fv, pv, ev, Fl, PV, RP, rfl, hf⟩ := hR
      have s68 : Same w6 w8 := (shown_same h7).trans k78
      exact hk q1 q2 w5 b mf sB Lb fv pv ev Fl PV RP w6 w8 h5 k56 s68 ⟨hD.same s68, okd_new q1 hsm, hf⟩
end
end Go.Proofs.Ytppbapnibpeolaa
