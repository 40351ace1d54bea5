/- The calls before a copy or an iteration. No conditions beyond those that each theorem names. -/
import Derived.Test.YtppbapnibpeolaaZD
import Derived.Test.YtppbapnibpeolaaTI
set_option maxRecDepth 100000
set_option maxHeartbeats 4000000
set_option linter.unusedVariables false
set_option linter.unusedSimpArgs false
namespace Go.Proofs.Ytppbapnibpeolaa
open Go.Sx

theorem c12 (g : Geo) (v1 : Value) (F : List Int) (v2 : Value) (L : List Av) (A : List Ac) (w : World) (hF : Given intE w v1 F) (hL : Given avE w v2 L) (hA : AvsAt w.heap.size w L A) (hFl : F.length ≤ 1000) (hAl : A.length ≤ 1000) (hok : ∀ x ∈ A, okA x = true) (hsm : smallG g = true) (hg : okG g = true) (hbF : badF F = false) :
    GivesR Try.prog 12 [g.v, v1, v2] w (fun r w' => ∃ S T b mf sB Lb d fv pv ev Fl PV RP, r = .tuple #[pt b, refV d.g fv pv ev d.n d.cut d.cb d.off, .bool true] ∧ Both w' S T b mf sB Lb d fv pv ev Fl PV RP ∧ d.n ≤ A.length ∧ d.g = g ∧ (∀ y, S y → w.heap.size ≤ y) ∧ ∀ y, y < w.heap.size → T y) := by
  obtain ⟨fa, fc, rfl⟩ := hF.1.slice
  obtain ⟨la, lc, rfl⟩ := hL.1.slice
  have hLA := hA.len
  refine givesR mix t12 rfl rfl (ε := [.int .i64 g.b, .int .i64 g.p, .int .i64 g.s, .int .i64 g.e, .slice fa F.length fc, .slice la L.length lc]) ⟨⟨_, rfl⟩, ⟨_, rfl⟩, ⟨_, rfl⟩, ⟨_, rfl⟩, ⟨_, _, _, rfl⟩, ⟨_, _, _, rfl⟩, trivial⟩ (den_blk fun b6 k6 _ _ => den_norm (by simp only [List.cons_append, List.nil_append]; rfl) (den_blk fun b7 k7 _ _ => den_norm (by simp only [List.cons_append, List.nil_append]; rfl) ?_))
  have z6 : w.heap.size ≤ b6 := k6
  have z7 : w.heap.size ≤ b7 := k7
  refine den_new2 rfl g (.slice fa F.length fc) F (fun w5 h5 => hF.same h5.base) (by omega) hsm rfl (fun _ _ => rfl) (fun _ _ => rfl) (fun _ _ _ _ _ _ _ _ _ _ _ => rfl) (fun hno => absurd hno (by rw [hg, hbF]; decide)) (fun _ _ w5 b mf sB Lb fv pv ev Fl PV RP w6 w8 h5 k56 k68 HB => ?_)
  refine den_norm (by simp only [List.cons_append, List.nil_append, refC]; rfl) (den_blk fun b22 k22 _ kW22 => den_norm (by simp only [List.cons_append, List.nil_append]; rfl) ?_)
  have l6 : b6 < w5.heap.size := h5.lt (i := 6) (by simp [keys]) rfl
  have l7 : b7 < w5.heap.size := h5.lt (i := 7) (by simp [keys]) rfl
  have z5 : w.heap.size ≤ w5.heap.size := h5.base.size
  have z56 : w5.heap.size ≤ w6.heap.size := k56.size
  have z68 : w6.heap.size ≤ w8.heap.size := k68.size
  have z22 : w8.heap.size ≤ b22 := k22
  refine den_m18 rfl 0 rfl (fun _ => rfl) (fun w9 w10 h9 k910 => den_norm (by simp only [List.cons_append, List.nil_append]; rfl) (den_split_false rfl (den_split_false rfl ?_)))
  have s810 : Same w8 w10 := (shown_new h9 fun y hy => by simp [BlkIn, nth, blkOf, vaddr] at hy; omega).trans k910
  refine den_loop (fun ls w' => ∃ (j : Nat) (S T : Nat → Prop) (Lb : List Bv) (d : Dv) (fv pv ev : Value) (Fl : List Int) (PV : List Sl) (RP : List (List Rv)), ls = .int .i64 (j : Int) :: refC d.g fv pv ev d.n d.cut d.cb d.off ∧ j ≤ L.length ∧ Both w' S T b mf sB Lb d fv pv ev Fl PV RP ∧ d.n ≤ j ∧ d.g = g ∧ (∀ y, S y → w5.heap.size ≤ y) ∧ (∀ y, y < w6.heap.size ∨ y = b22 → T y) ∧ ¬ S b22) (fun ls _ => L.length - (vint (nth ls 0)).toNat) (fun wa ha => ⟨0, _, _, Lb, newDv g (inF F), fv, pv, ev, Fl, PV, RP, rfl, by omega, HB.one (s810.trans (shown_same ha)) z22 (ha.lt (i := 22) (by simp [keys]) rfl), by simp [newDv], rfl, fun y hy => hy.1, fun y hy => hy, fun hs => by omega⟩) ?_
  rintro w11 l w12 h11 hfl ⟨j, S, T, Lb, d, fv, pv, ev, Fl, PV, RP, rfl, hj, HD, hn, hgd, hfr, hT, n22⟩ hk12 hfa12
  have n6 : ¬ S b6 := fun hs => by have := hfr _ hs; omega
  have n7 : ¬ S b7 := fun hs => by have := hfr _ hs; omega
  obtain ⟨⟨a1, c1, e1⟩, ⟨a2, c2, e2⟩, ⟨a3, c3, e3⟩⟩ := ref_cells HD.ref
  refine den_norm (by simp only [List.cons_append, List.nil_append, refC]; rfl) (den_splitLt (fun hlt => ?_) (fun hge => ?_))
  rotate_left
  · have hge' : (L.length : Int) ≤ j := hge
    refine den_start1 fun w13 h13 => den_leaf_ne (by decide) (den_leafR _ rfl fun w14 h14 => ⟨S, T, b, mf, sB, Lb, d, fv, pv, ev, Fl, PV, RP, rfl, (HD.same (shown_same h13)).kept (h14.kept.mono fun y _ hin => (show b7 = y by simpa [BlkIn, nth, blkOf, vaddr] using hin)) (fun y _ e => hT _ (.inl (by omega))) (fun y _ e => by subst e; exact n7), by omega, hgd, fun y hy => Nat.le_trans z5 (hfr y hy), fun y hy => hT y (.inl (by omega))⟩)
  have hlt' : j < L.length := by have : (j : Int) < (L.length : Int) := hlt; omega
  obtain ⟨v, hv⟩ : ∃ v, L[j]? = some v := ⟨_, List.getElem?_eq_getElem hlt'⟩
  obtain ⟨a, ha⟩ : ∃ a, A[j]? = some a := ⟨_, List.getElem?_eq_getElem (by omega)⟩
  have hva := hA.at_ j v a hv ha
  have hoa := hok a (List.mem_of_getElem? ha)
  obtain ⟨da, dc, ed⟩ := hva.d.src.1.slice
  obtain ⟨sa, sc, es⟩ := hva.s.src.1.slice
  refine den_startX (fun _ => S) fun w13 h13 => ?_
  have s1213 : Same w12 w13 := shown_same h13
  have z13 : w.heap.size ≤ w13.heap.size := h13.base.size
  have l22 : b22 < w13.heap.size := h13.lt (i := 22) (by simp [keys]) rfl
  have z22' : w.heap.size ≤ b22 := kW22
  refine den_idxD (E := avE) (L := L) v j [.int .i64 v.wh, .int .i64 v.bl, .int .i64 v.pg, .slice da a.D.length dc, .slice sa a.Sp.length sc] rfl (by decide) rfl hv ⟨⟨_, rfl⟩, ⟨_, rfl⟩, ⟨_, rfl⟩, ⟨_, _, _, rfl⟩, ⟨_, _, _, rfl⟩, trivial⟩ (fun m u hu => by simp only [avE, Av.cells, ed, es]; simpa using hu) (hL.1.same h13.base) (fun ad had hin => ?_) (den_norm (by simp only [List.cons_append, List.nil_append]; rfl) ?_)
  · have q := hL.2.2.2 ad had
    rcases hin with hin | hin
    · have := hfr _ hin; omega
    · simp [BlkIn, nth, blkOf, vaddr] at hin; omega
  have HD13 := HD.same s1213
  have l0 : ∀ y, S y → y < w13.heap.size := fun y hy => HD13.dev.lt _ (HD13.dev.ST _ hy)
  have z613 : w6.heap.size ≤ w13.heap.size := by omega
  have eva : Value.agg v.cells.toArray = .agg #[.int .i64 v.wh, .int .i64 v.bl, .int .i64 v.pg, .slice da a.D.length dc, .slice sa a.Sp.length sc] := by simp [Av.cells, ed, es]
  obtain ⟨an1, an2⟩ := act_n d a
  have hstep : ∀ {wa wb : World} {S' T' : Nat → Prop} {T0 : Nat → Prop} {Lb' fv' pv' ev' Fl' PV' RP' z}, Same w13 wa → (∀ y, T y → T0 y) → Nxt wa S T0 S' T' → T' z → ¬ S' z → Both wb S' T' b mf sB Lb' (d.act a) fv' pv' ev' Fl' PV' RP' → ∀ {wc : World}, Kept (fun y => y = b22 ∨ y = z) wb wc → Both wc S' T' b mf sB Lb' (d.act a) fv' pv' ev' Fl' PV' RP' ∧ (∀ y, S' y → w5.heap.size ≤ y) ∧ (∀ y, y < w6.heap.size ∨ y = b22 → T' y) ∧ ¬ S' b22 := fun {wa wb S' T' T0 Lb' fv' pv' ev' Fl' PV' RP' z} hs ht hx hz hz' hB {wc} hk => by
    have q0 := hs.size
    have tT : ∀ y, y < w6.heap.size ∨ y = b22 → T' y := fun y hy => (hx.T _).2 (.inl (ht _ (hT y hy)))
    have m22 : ¬ S' b22 := fun h => (hx.dn _ h).elim n22 fun q => by omega
    exact ⟨hB.kept hk (fun y _ e => by rcases e with rfl | rfl; exact tT _ (.inr rfl); assumption) (fun y _ e => by rcases e with rfl | rfl <;> assumption), fun y hy => (hx.dn _ hy).elim (hfr y) fun q => by omega, tT, m22⟩
  have hun : ∀ y, (b22 = y ∨ b7 = y ∨ b6 = y) → ¬ S y := fun y e => by
    rcases e with e | e | e
    · subst e; exact n22
    · subst e; exact n7
    · subst e; exact n6
  refine den_both ?_ ?_
  · refine den_m15 rfl v a (by rw [eva]; rfl) (fun _ _ _ _ _ _ _ _ => rfl) (fun wa ha => HD13.same (shown_same ha)) (fun wa ha => hva.same ha.base) hoa (by omega) (fpM (fun y hy => .inl hy) (fun y hy hl => by have := hfr y hy; omega) (fun y hin => hun y (by simpa [BlkIn, nth, blkOf, vaddr] using hin))) (fun w14 w15 S' T' Lb' fv' pv' ev' Fl' PV' RP' h14 k1415 hnx HD15 => ?_)
    refine den_norm (by simp only [List.cons_append, List.nil_append, refC]; rfl) (den_blk fun b53 k53 _ _ => den_norm (by simp only [List.cons_append, List.nil_append]; rfl) (den_split_false rfl ?_))
    have z53 : w15.heap.size ≤ b53 := k53
    have s1314 : Same w13 w14 := shown_same h14
    have m : ∀ {wc : World}, Kept (fun y => b53 = y ∨ b22 = y) w15 wc → _ := fun {wc} hk => hstep (z := b22) s1314 (fun _ h => h) hnx ((hnx.T _).2 (.inl (hT _ (.inr rfl)))) (fun h => (hnx.dn _ h).elim n22 fun q => by have := s1314.size; omega) HD15 (hk.mono fun y hy e => by omega)
    refine den_ob64 ⟨by simp only [IE.den, nth, vint]; omega, by simp only [IE.den, nth, vint]; omega⟩ (den_leaf_eq fun wa ha => ?_)
    obtain ⟨q1, q2, q3, q4⟩ := m (ha.kept.mono fun y _ hy => by simpa [BlkIn, nth, blkOf, vaddr, or_comm] using hy)
    refine ⟨⟨j + 1, S', T', Lb', d.act a, fv', pv', ev', Fl', PV', RP', rfl, hlt', q1, by push_cast; omega, an2.trans hgd, q2, q3, q4⟩, ?_⟩
    show L.length - ((j : Int) + 1).toNat < L.length - (j : Int).toNat
    omega
  · refine den_blk fun b41 k41 kS41 _ => den_norm (by simp only [List.cons_append, List.nil_append]; rfl) ?_
    have z41 : w13.heap.size ≤ b41 := k41
    refine den_m15 (T := fun y => T y ∨ y = b41) rfl v a (by rw [eva]; rfl) (fun _ _ _ _ _ _ _ _ => rfl) (fun wa ha => HD13.one (shown_same ha) z41 (ha.lt (i := 41) (by simp [keys]) rfl)) (fun wa ha => hva.same ha.base) hoa (by omega) (fpM (fun y hy => .inl hy) (fun y hy hl => by have := hfr y hy; omega) (fun y hin hs => ?_)) (fun w14 w15 S' T' Lb' fv' pv' ev' Fl' PV' RP' h14 k1415 hnx HD15 => ?_)
    · have e : b41 = y ∨ b22 = y ∨ b7 = y ∨ b6 = y := by simpa [BlkIn, nth, blkOf, vaddr] using hin
      rcases e with e | e
      · subst e; have := l0 _ hs; omega
      · exact hun y e hs
    refine den_norm (by simp only [List.cons_append, List.nil_append, refC]; rfl) (den_split_false rfl ?_)
    have s1314 : Same w13 w14 := shown_same h14
    have l41 : b41 < w14.heap.size := h14.lt (i := 41) (by simp [keys]) rfl
    have n41 : ¬ S b41 := fun hs => by have := l0 _ hs; omega
    have m : ∀ {wc : World}, Kept (fun y => b41 = y ∨ b22 = y) w15 wc → _ := fun {wc} hk => hstep (z := b41) s1314 (fun _ h => .inl h) hnx ((hnx.T _).2 (.inl (.inr rfl))) (fun h => (hnx.dn _ h).elim n41 fun q => by omega) HD15 (hk.mono fun y hy e => by omega)
    refine den_ob64 ⟨by simp only [IE.den, nth, vint]; omega, by simp only [IE.den, nth, vint]; omega⟩ (den_leaf_eq fun wa ha => ?_)
    obtain ⟨q1, q2, q3, q4⟩ := m (ha.kept.mono fun y _ hy => by simpa [BlkIn, nth, blkOf, vaddr, or_comm] using hy)
    refine ⟨⟨j + 1, S', T', Lb', d.act a, fv', pv', ev', Fl', PV', RP', rfl, hlt', q1, by push_cast; omega, an2.trans hgd, q2, q3, q4⟩, ?_⟩
    show L.length - ((j : Int) + 1).toNat < L.length - (j : Int).toNat
    omega
end Go.Proofs.Ytppbapnibpeolaa
