/- The law FlashWear. No conditions beyond those that each theorem names. -/
import Derived.Test.YtppbapnibpeolaaZE
import Derived.Test.YtppbapnibpeolaaTJ
set_option maxRecDepth 100000
set_option maxHeartbeats 4000000
set_option linter.unusedVariables false
set_option linter.unusedSimpArgs false
namespace Go.Proofs.Ytppbapnibpeolaa
open Go.Sx

/-- the device's own blocks and no others -/
def devB (b mf : Nat) (sB : Value) (Lb : List Bv) (y : Nat) : Prop := y = b ∨ y = mf ∨ sB.ownBlock = some y ∨ ∃ (i : Nat) (v : Bv), Lb[i]? = some v ∧ v.s.ownBlock = some y
section
variable {w w' : World} {S T M : Nat → Prop} {b mf : Nat} {sB : Value} {Lb : List Bv} {d : Dv}
theorem DevM.devS (h : DevM w S T b mf sB Lb d) : ∀ y, devB b mf sB Lb y → S y := fun y hy => by
  rcases hy with rfl | rfl | hy | ⟨i, v, hv, hy⟩
  · exact h.Sb
  · exact h.Sm
  · exact (h.SB y hy).1
  · exact (h.Sp i v hv y hy).1
theorem DevM.min (h : DevM w S T b mf sB Lb d) : DevM w (devB b mf sB Lb) T b mf sB Lb d :=
  ⟨h.blk, h.map, h.own, h.len, h.pg, .inl rfl, .inr (.inl rfl), h.ne, fun g hg => ⟨.inr (.inr (.inl hg)), (h.SB g hg).2⟩, fun i v hv g hg => ⟨.inr (.inr (.inr ⟨i, v, hv, hg⟩)), (h.Sp i v hv g hg).2⟩, h.dis, fun y hy => h.ST y (h.devS y hy), h.lt⟩
theorem DevM.minRec (h : DevM w S T b mf sB Lb d) : ∀ y, devB b mf sB Lb y → ¬ IsRec w y := fun y hy => h.isRec y (h.devS y hy) hy
end
/-- an iterator and the reference's counts -/
structure WSt (w : World) (lo hi : Nat) (fv ev : Value) (E : List Int) : Prop where
  seq : SeqAt Try.prog lo hi w fv (ysW E)
  er : Given intE w ev E
  lt : ∀ ad, vaddr ev = some ad → ad.block < hi
theorem WSt.kept {w w' : World} {lo hi : Nat} {fv ev : Value} {E : List Int} {M : Nat → Prop} (h : WSt w lo hi fv ev E) (hk : Kept M w w') (hM : ∀ y, M y → hi ≤ y) : WSt w' lo hi fv ev E :=
  ⟨h.seq.kept hk fun y _ h2 _ hm => by have := hM y hm; omega, h.er.kept hk fun ad had hm => by have := hM _ hm; have := h.lt ad had; omega, h.lt⟩
theorem WSt.same {w w' : World} {lo hi : Nat} {fv ev : Value} {E : List Int} (h : WSt w lo hi fv ev E) (hk : Same w w') : WSt w' lo hi fv ev E := h.kept hk fun _ h => h.elim
theorem WSt.quiet {w w' : World} {lo hi : Nat} {fv ev : Value} {E : List Int} (h : WSt w lo hi fv ev E) (hk : Quiet w w') : WSt w' lo hi fv ev E :=
  ⟨h.seq.kept hk fun y _ _ hn hm => hn hm, h.er.quiet hk, h.lt⟩
theorem Gv.up {lo lo' : Nat} {w : World} {s : Value} {D : List Int} (h : Gv lo w s D) (hle : lo ≤ lo') : Gv lo' w s D := ⟨h.src, fun hD ad had => Nat.lt_of_lt_of_le (h.lt hD ad had) hle⟩
theorem AvsAt.up {lo lo' : Nat} {w : World} {L : List Av} {A : List Ac} (h : AvsAt lo w L A) (hle : lo ≤ lo') : AvsAt lo' w L A := ⟨h.len, fun i v a h1 h2 => let q := h.at_ i v a h1 h2; ⟨q.wh, q.bl, q.pg, q.d.up hle, q.s.up hle⟩⟩
theorem ref_fits4 {w : World} {S : Nat → Prop} {d : Dv} {fv pv ev : Value} {Fl : List Int} {PV : List Sl} {RP : List (List Rv)} (h : RfAt w S d fv pv ev Fl PV RP) (b : Nat) (n cut cb : Int) (off e : Bool) : Fits [.ptr, .int .i64, .int .i64, .int .i64, .int .i64, .slice, .slice, .slice, .int .i64, .int .i64, .int .i64, .bool, .bool] (pt b :: (refC d.g fv pv ev n cut cb off ++ [.bool e])) := ⟨⟨_, rfl⟩, ref_fits3 h n cut cb off e⟩
/-- what is left of two turns -/
def left2 (ls : List Value) (w : World) : Nat := match blkOf (nth ls 0) with
  | some b => (2 - vint ((w.cell? ⟨b, 0, none⟩).getD (.bool false))).toNat
  | none => 0
theorem left2_eq {b : Nat} {turn : Nat} {w : World} (h : HasBlk w (pt b) [.int .i64 turn]) : left2 [pt b] w = 2 - turn := by
  obtain ⟨b', e, hc⟩ := h.pts.at_
  cases e
  have := hc 0 (.int .i64 turn) rfl
  simp only [left2, nth, blkOf, vaddr, Option.map_some, this, Option.getD_some, vint]
  omega
theorem c6 (g : Geo) (v1 : Value) (L : List Av) (A : List Ac) (many : Int) (w : World) (hL : Given avE w v1 L) (hA : AvsAt w.heap.size w L A) (hAl : A.length < 9223372036854775808) : Gives Try.prog 6 [g.v, v1, .int .i64 many] w (.bool true) := by
  obtain ⟨la, lc, rfl⟩ := hL.1.slice
  have hLA := hA.len
  refine Runs.gives ?_
  refine runs mix t6 rfl rfl (ε := [.int .i64 g.b, .int .i64 g.p, .int .i64 g.s, .int .i64 g.e, .slice la L.length lc, .int .i64 many]) (heap := []) (w := w) (M := fun _ => False) (R := fun v _ => v = .bool true) ⟨⟨_, rfl⟩, ⟨_, rfl⟩, ⟨_, rfl⟩, ⟨_, rfl⟩, ⟨_, _, _, rfl⟩, ⟨_, rfl⟩, trivial⟩ trivial (by simp [keys]) (by simp [keys]) (by simp [keys]) ?_
  refine den_blk fun b6 k6 _ _ => den_norm (by simp only [List.cons_append, List.nil_append]; rfl) (den_blk fun b7 k7 _ _ => den_norm (by simp only [List.cons_append, List.nil_append]; rfl) (den_blk fun b8 k8 _ _ => den_norm (by simp only [List.cons_append, List.nil_append]; rfl) ?_))
  have z6 : w.heap.size ≤ b6 := k6
  have z7 : w.heap.size ≤ b7 := k7
  have z8 : w.heap.size ≤ b8 := k8
  refine den_call_bool (b := smallG g) (fun w1 h1 => c8 g w1) rfl (fun w1 w2 h1 h12 => den_norm (by simp only [List.cons_append, List.nil_append]; rfl) (den_splitNot (fun hb => ?_) (fun hb => ?_)))
  · exact den_call_bool (b := true) (fun wa _ => c11 wa) rfl (fun _ _ _ _ => den_norm (by simp only [List.cons_append, List.nil_append]; rfl) (den_leafMA _ rfl fun _ _ _ _ => rfl))
  have hsm : smallG g = true := hb
  refine den_call_bool (b := fewB A 25) (fun w3 h3 => c9 _ L A 25 w3 (hL.1.same h3.base) (hA.same h3.base) hAl) rfl (fun w3 w4 h3 h34 => den_norm (by simp only [List.cons_append, List.nil_append]; rfl) (den_splitNot (fun hb => ?_) (fun hb => ?_)))
  · exact den_call_bool (b := true) (fun wa _ => c11 wa) rfl (fun _ _ _ _ => den_norm (by simp only [List.cons_append, List.nil_append]; rfl) (den_leafMA _ rfl fun _ _ _ _ => rfl))
  have hfew : fewB A 25 = true := hb
  have hA25 : A.length ≤ 25 ∧ ∀ x ∈ A, okA x = true := by
    simp only [fewB, Bool.and_eq_true, decide_eq_true_eq, List.all_eq_true] at hfew
    exact ⟨by omega, hfew.2⟩
  refine den_call_bool (b := okG g) (fun w3 h3 => c10 g w3) rfl (fun w3 w4 h3 h34 => den_norm (by simp only [List.cons_append, List.nil_append]; rfl) (den_splitNot (fun hb => ?_) (fun hb => ?_)))
  · exact den_call_bool (b := true) (fun wa _ => c11 wa) rfl (fun _ _ _ _ => den_norm (by simp only [List.cons_append, List.nil_append]; rfl) (den_leafMA _ rfl fun _ _ _ _ => rfl))
  have hg : okG g = true := hb
  refine den_callR (fun w5 l w6 => ∃ S T b mf sB Lb d fv pv ev Fl PV RP, l = pt b :: (refC d.g fv pv ev d.n d.cut d.cb d.off ++ [.bool true]) ∧ Both w6 S T b mf sB Lb d fv pv ev Fl PV RP ∧ d.n ≤ A.length ∧ d.g = g ∧ ∀ y, S y → w5.heap.size ≤ y) (fun w5 h5 => ?_) (fun w5 l w6 h5 hfl hR k56 => ?_)
  · refine (c12 g _ [] _ L A w5 given_nil (hL.same h5.base) ((hA.same h5.base).up h5.base.size) (by simp) (by omega) hA25.2 hsm hg (by simp [badF])).mono fun r w' ⟨S, T, b, mf, sB, Lb, d, fv, pv, ev, Fl, PV, RP, q1, q2, q3, q4, q5, q6⟩ => ?_
    exact ⟨_, ref_fits4 q2.ref b _ _ _ _ true, by rw [q1]; rfl, S, T, b, mf, sB, Lb, d, fv, pv, ev, Fl, PV, RP, rfl, q2, q3, q4, q5⟩
  obtain ⟨S, T, b, mf, sB, Lb, d, fv, pv, ev, Fl, PV, RP, rfl, HB, hn, hgd, hS⟩ := hR
  have hw := HB.wf
  obtain ⟨⟨a1, c1, x1⟩, ⟨a2, c2, x2⟩, ⟨a3, c3, x3⟩⟩ := ref_cells HB.ref
  subst x1 x2 x3
  have hlE : (d.ers.length : Int) = g.b := by rw [← hgd, ← hw.len]; simp [Dv.ers]
  have hb8 : g.b ≤ 8 := by rw [← hgd]; exact hw.b1
  have hb0 : 2 ≤ g.b := by rw [← hgd]; exact hw.b0
  refine den_norm (by simp only [List.cons_append, List.nil_append, refC]; rfl) (den_blk fun b25 k25 _ _ => den_norm (by simp only [List.cons_append, List.nil_append]; rfl) (den_split_false rfl ?_))
  have l6 : b6 < w5.heap.size := h5.lt (i := 6) (by simp [keys]) rfl
  have l7 : b7 < w5.heap.size := h5.lt (i := 7) (by simp [keys]) rfl
  have l8 : b8 < w5.heap.size := h5.lt (i := 8) (by simp [keys]) rfl
  have z56 : w5.heap.size ≤ w6.heap.size := k56.size
  have z25 : w6.heap.size ≤ b25 := k25
  have D6 := HB.dev.min
  have dS : ∀ y, devB b mf sB Lb y → w5.heap.size ≤ y ∧ y < w6.heap.size := fun y hy => ⟨hS y (HB.dev.devS y hy), D6.lt y (D6.ST y hy)⟩
  refine den_callR (fun w5 l w6 => ∃ v, l = [v] ∧ SeqAt Try.prog w5.heap.size w6.heap.size w6 v (ysW d.ers)) (fun wx hx => ?_) ?_
  · have s0 : Same w6 wx := shown_new hx fun y hy => by simp [BlkIn, nth, blkOf, vaddr] at hy; omega
    refine (c17 wx (D6.same s0) hw).mono fun v w' hs => ⟨[v], ?_, ?_, v, rfl, hs⟩
    · obtain ⟨g, caps, Ft, rfl, _⟩ := hs.ex
      exact ⟨rfl, trivial⟩
    · rfl
  rintro wn l wo hn2 _ ⟨fnv, rfl, hsq⟩ hno
  have s0n : Same w6 wn := shown_new hn2 fun y hy => by simp [BlkIn, nth, blkOf, vaddr] at hy; omega
  have s0o := s0n.trans hno
  have l25 : b25 < wn.heap.size := hn2.lt (i := 25) (by simp [keys]) rfl
  have z0n : w6.heap.size ≤ wn.heap.size := s0n.size
  have zno : wn.heap.size ≤ wo.heap.size := hno.size
  have hfn : ∃ f c, fnv = .func f #[] c := by obtain ⟨g, caps, Ft, rfl, _⟩ := hsq.ex; exact ⟨_, _, rfl⟩
  obtain ⟨ff, fcc, rfl⟩ := hfn
  refine den_norm (by simp only [List.cons_append, List.nil_append]; rfl) (den_split_false rfl ?_)
  have hF : ∀ {wx ws : World} {X : Nat → Prop} {ε : List Value} {un t : List Nat} {fs : Facts}, (∀ y, BlkIn ε un y → y < w5.heap.size ∨ w6.heap.size ≤ y) → ∀ w1 d1, DevM w1 (devB b mf sB Lb) T b mf sB Lb d1 → ∀ y, devB b mf sB Lb y → FpOk (GM Try.prog w (fun _ => False) true) false X ε un w1 y := fun {wx ws X ε un t fs} hun w1 d1 hd y hy => by
    have q := dS y hy
    have q2 : w.heap.size ≤ w5.heap.size := h5.base.size
    exact ⟨fun h => (by cases h), fun hl => absurd (show y < w.heap.size from hl) (by omega), fun hin => by rcases hun y hin with h | h <;> omega, fun _ => hd.minRec y hy⟩
  refine den_m22 rfl 0 d.rst rfl (fun _ => rfl) (fun wa ha => (D6.same s0o).same (shown_same ha)) hw rfl rfl (fun w1 h1 y hy _ => hF (wx := w1) (ws := w1) (t := []) (fs := []) (fun y hin => ?_) w1 _ ((D6.same s0o).same (shown_same h1)) y hy) (fun wp wq hp hpq Dq => den_norm (by simp only [List.cons_append, List.nil_append]; rfl) ?_)
  · have e : b25 = y ∨ b8 = y ∨ b7 = y ∨ b6 = y := by simpa [BlkIn, nth, blkOf, vaddr] using hin
    omega
  refine den_m20 rfl 0 (d.rst.ersE 0) (d.rst.ersD 0) rfl (fun _ => rfl) (fun wa ha => Dq.same (shown_same ha)) hw.rst (by have : d.rst.n = d.n := rfl; omega) rfl rfl (fun w1 h1 y hy _ => hF (wx := w1) (ws := w1) (t := []) (fs := []) (fun y hin => ?_) w1 _ (Dq.same (shown_same h1)) y hy) (fun wr wt S3 T3 Lb3 hr hrt hnx D3 => den_norm (by simp only [List.cons_append, List.nil_append]; rfl) ?_)
  · have e : b25 = y ∨ b8 = y ∨ b7 = y ∨ b6 = y := by simpa [BlkIn, nth, blkOf, vaddr] using hin
    omega
  have W3 : WSt wt wn.heap.size wo.heap.size (.func ff #[] fcc) (.slice a3 d.ers.length c3) d.ers := by
    have k1 : Kept (devB b mf sB Lb) wo wt := ((((shown_same hp).mono fun _ _ h => h.elim).trans hpq).trans ((shown_same hr).mono fun _ _ h => h.elim)).trans hrt
    refine ⟨hsq.kept k1 fun y h1 _ _ hm => ?_, (HB.ref.e.same s0o).kept k1 fun ad had hm => HB.ref.eo ad had (D6.ST _ hm), fun ad had => ?_⟩
    · have := dS y hm
      omega
    · have := HB.ref.e.2.2.2 ad had
      omega
  have zot : wo.heap.size ≤ wt.heap.size := by
    have := (shown_same hp).size
    have := hpq.size
    have := (shown_same hr).size
    have := hrt.size
    omega
  refine den_blk fun b29 k29 _ _ => den_norm (by simp only [List.cons_append, List.nil_append]; rfl) ?_
  have n29 : wt.heap.size ≤ b29 := k29
  refine den_loop (fun ls w' => ∃ (tb turn : Nat), ls = [pt tb] ∧ wo.heap.size ≤ tb ∧ turn ≤ 2 ∧ HasBlk w' (pt tb) [.int .i64 turn] ∧ WSt w' wn.heap.size wo.heap.size (.func ff #[] fcc) (.slice a3 d.ers.length c3) d.ers) left2 (fun w4 h4 => ⟨b29, 0, by simp [SV.den, denL, IE.den, BE.den, nth, vint, vbool, vaddr, addO, addr_add], by omega, by omega, h4.facts.1, W3.kept h4.kept fun y hin => by simp [BlkIn, nth, blkOf, vaddr] at hin; omega⟩) ?_
  rintro wl l wm h4 hfl ⟨tb, turn, rfl, htb, ht, hB5, hC5⟩ hk5 hfa5
  rw [left2_eq hB5]
  have hBk : ∀ {wa wb : World} {M : Nat → Prop}, HasBlk wa (pt tb) [.int .i64 turn] → Kept M wa wb → ¬ M tb → HasBlk wb (pt tb) [.int .i64 turn] := fun {wa wb M} hB hK hM => hB.keptA hK hM
  refine den_norm (by simp only [List.cons_append, List.nil_append]; rfl) ?_
  refine den_ldp [.int .i64 turn] [.int .i64 turn] ⟨⟨_, rfl⟩, trivial⟩ (whole _) (fun wa ha => (hBk hB5 (shown_same ha) fun h => h).pts) (fun _ _ => by simp [BlkIn]) fun wa ha => den_norm (by simp only [List.cons_append, List.nil_append]; rfl) ?_
  have hBa := hBk hB5 (shown_same ha) fun h => h
  have hCa := hC5.same (shown_same ha)
  refine den_splitLt (fun htl => ?_) (fun htl => ?_)
  rotate_left
  · exact den_call_bool (b := true) (fun wa _ => c11 wa) rfl (fun _ _ _ _ => den_norm (by simp only [List.cons_append, List.nil_append]; rfl) (den_leafM_ne (by decide) (den_leafMA _ rfl fun _ _ _ _ => rfl)))
  have ht2 : turn < 2 := by
    have : (turn : Int) < 2 := htl
    omega
  refine den_cut (fun ls w' => ls = [] ∧ HasBlk w' (pt tb) [.int .i64 turn] ∧ WSt w' wn.heap.size wo.heap.size (.func ff #[] fcc) (.slice a3 d.ers.length c3) d.ers) ?_ ?_
  rotate_left
  · rintro l w7 hf7 ⟨rfl, hB7, hC7⟩ hk7 hfa7
    refine den_norm (by simp only [List.cons_append, List.nil_append]; rfl) ?_
    refine den_ldp [.int .i64 turn] [.int .i64 turn] ⟨⟨_, rfl⟩, trivial⟩ (whole _) (fun w8 h8 => (hBk hB7 (shown_same h8) fun h => h).pts) (fun _ _ => by simp [BlkIn]) fun w8 h8 => den_norm (by simp only [List.cons_append, List.nil_append]; rfl) ?_
    have hB8 := hBk hB7 (shown_same h8) fun h => h
    have lt8 : tb < w8.heap.size := hB8.pts.lt (by simp) tb rfl
    refine den_blk fun b33 k33 _ _ => den_norm (by simp only [List.cons_append, List.nil_append]; rfl) ?_
    have n33' : w8.heap.size ≤ b33 := k33
    refine den_ob64 (by simp only [IE.den, nth, vint]; omega) (den_leaf' fun w9 h9 => (if_pos rfl).mpr ?_)
    have hn : HasBlk w9 (pt b33) [.int .i64 ((turn + 1 : Nat) : Int)] := by
      have := h9.facts.1
      simpa [SV.den, denL, IE.den, BE.den, nth, vint, vbool, vaddr, addO, addr_add] using this
    refine ⟨⟨b33, turn + 1, by simp [SV.den, denL, IE.den, BE.den, nth, vint, vbool, vaddr, addO, addr_add], by omega, by omega, hn, (hC7.same (shown_same h8)).kept h9.kept fun y hin => by simp [BlkIn, nth, blkOf, vaddr] at hin; omega⟩, ?_⟩
    have : left2 [pt b33] w9 = 2 - (turn + 1) := left2_eq hn
    simp only [denL, SV.den, nth, vaddr, addO_zero]
    rw [this]
    omega
  refine den_blk fun b32 k32 _ _ => den_norm (by simp only [List.cons_append, List.nil_append]; rfl) ?_
  have n32 : wa.heap.size ≤ b32 := k32
  have lta : tb < wa.heap.size := hBa.pts.lt (by simp) tb rfl
  refine den_cut (fun ls w' => ∃ k : Int, ls = [.int .i64 k] ∧ (turn = 0 → k = min g.b (max 1 many)) ∧ (turn = 1 → k = g.b) ∧ HasBlk w' (pt tb) [.int .i64 turn] ∧ WSt w' wn.heap.size wo.heap.size (.func ff #[] fcc) (.slice a3 d.ers.length c3) d.ers) ?_ ?_
  · refine den_range (prs d.ers) (fun k l wk => l = [.int .i64 (k : Int)] ∧ (turn = 0 → k = 0 ∨ (k : Int) < many) ∧ HasBlk wk (pt tb) [.int .i64 turn] ∧ WSt wk wn.heap.size wo.heap.size (.func ff #[] fcc) (.slice a3 d.ers.length c3) d.ers) wn.heap.size wo.heap.size ?_ ?_ ?_ ?_ ?_ ?_
    · intro y hy
      obtain ⟨i, hi⟩ := List.getElem?_of_mem hy
      obtain ⟨_, _, rfl⟩ := prs_inv hi
      exact ⟨⟨_, rfl⟩, ⟨_, rfl⟩, trivial⟩
    · intro y hy
      simp [BlkIn, nth, blkOf, vaddr] at hy
      omega
    · intro w7 h7
      exact (hCa.kept h7.kept fun y hin => by simp [BlkIn, nth, blkOf, vaddr] at hin; omega).seq
    · intro w7 h7
      exact ⟨by simp [SV.den, denL, IE.den, BE.den, nth, vint, vbool, vaddr, addO, addr_add], fun _ => .inl rfl, hBk hBa h7.kept (by intro hin; simp [BlkIn, nth, blkOf, vaddr] at hin; omega), hCa.kept h7.kept fun y hin => by simp [BlkIn, nth, blkOf, vaddr] at hin; omega⟩
    · rintro w7 Ft h7 k y hy l hl w8 w9 ⟨rfl, hkm, hB8, hC8⟩ hq hk hfa hFt
      obtain ⟨x, hx2, rfl⟩ := prs_inv hy
      have hkl := (List.getElem?_eq_some_iff.1 hx2).1
      have hB9 := hB8.quiet hq
      have hC9 := hC8.quiet hq
      refine den_norm (by simp only [List.cons_append, List.nil_append]; rfl) (den_split_false (by simp [BE.den, IE.den, nth, vint]) (den_splitLe (fun h10 => ?_) (fun h10 => ?_)))
      · have h10' : g.b ≤ (k : Int) := h10
        omega
      refine den_idx2 (E := intE) (L := d.ers) x k [.int .i64 x] hC9.er.1 rfl (by decide) rfl hx2 ⟨⟨_, rfl⟩, trivial⟩ (whole _) (fun wa ha => (hC9.er.same (shown_same ha)).1) (fun ad had hin => by simp [BlkIn, nth, blkOf, vaddr] at hin) fun w11 h11 => den_norm (by simp only [List.cons_append, List.nil_append]; rfl) ?_
      have s11 := shown_same h11
      refine den_split_false (by simp [BE.den, IE.den, nth, vint]) ?_
      refine den_ob64 (by simp only [IE.den, nth, vint]; omega) ?_
      refine den_ldp [.int .i64 turn] [.int .i64 turn] ⟨⟨_, rfl⟩, trivial⟩ (whole _) (fun w12 h12 => (hBk (hBk hB9 s11 fun h => h) h12.kept (by intro hin; simp [BlkIn, nth, blkOf, vaddr] at hin; omega)).pts) (fun _ _ => by simp [BlkIn]) fun w12 h12 => den_norm (by simp only [List.cons_append, List.nil_append]; rfl) ?_
      have hB12 := hBk (hBk hB9 s11 fun h => h) h12.kept (by intro hin; simp [BlkIn, nth, blkOf, vaddr] at hin; omega)
      have hC12 := (hC9.same s11).kept h12.kept fun y hin => by simp [BlkIn, nth, blkOf, vaddr] at hin; omega
      refine den_split (fun h15 => ?_) (fun h15 => ?_)
      · have ht0 : turn = 0 := by
          simp only [BE.den, IE.den, nth, vint] at h15
          have := of_decide_eq_true h15
          omega
        refine den_splitLe (fun h16 => ?_) (fun h16 => ?_)
        · have h16' : many ≤ (k : Int) + 1 := h16
          refine den_resume fun w13 h13 w14 hq14 hk14 => ?_
          intro wz hz
          refine (if_neg (by decide)).mpr ((if_pos rfl).mpr ⟨(k : Int) + 1, by simp [SV.den, denL, IE.den, BE.den, nth, vint, vbool, vaddr, addO, addr_add], fun _ => ?_, fun h => by omega, hBk ((hBk hB12 (shown_same h13) fun h => h).quiet hq14) hz.kept (by intro hin; first | (simp [BlkIn, nth, blkOf, vaddr] at hin; done) | (simp [BlkIn, nth, blkOf, vaddr] at hin; omega)), ((hC12.same (shown_same h13)).quiet hq14).kept hz.kept fun y hin => by first | (simp [BlkIn, nth, blkOf, vaddr] at hin; done) | (simp [BlkIn, nth, blkOf, vaddr] at hin; omega)⟩)
          have := hkm ht0
          omega
        · have h16' : (k : Int) + 1 < many := h16
          exact den_leaf_round hFt fun w13 h13 => ⟨by simp [SV.den, denL, IE.den, BE.den, nth, vint, vbool, vaddr, addO, addr_add], fun _ => .inr (by omega), hBk hB12 h13.kept (by intro hin; first | (simp [BlkIn, nth, blkOf, vaddr] at hin; done) | (simp [BlkIn, nth, blkOf, vaddr] at hin; omega)), hC12.kept h13.kept fun y hin => by first | (simp [BlkIn, nth, blkOf, vaddr] at hin; done) | (simp [BlkIn, nth, blkOf, vaddr] at hin; omega)⟩
      · have ht0 : turn ≠ 0 := by
          simp only [BE.den, IE.den, nth, vint] at h15
          have := of_decide_eq_false h15
          omega
        exact den_leaf_round hFt fun w13 h13 => ⟨by simp [SV.den, denL, IE.den, BE.den, nth, vint, vbool, vaddr, addO, addr_add], fun h => absurd h ht0, hBk hB12 h13.kept (by intro hin; first | (simp [BlkIn, nth, blkOf, vaddr] at hin; done) | (simp [BlkIn, nth, blkOf, vaddr] at hin; omega)), hC12.kept h13.kept fun y hin => by first | (simp [BlkIn, nth, blkOf, vaddr] at hin; done) | (simp [BlkIn, nth, blkOf, vaddr] at hin; omega)⟩
    · rintro w7 h7 l hl w8 w9 ⟨rfl, hkm, hB8, hC8⟩ hq hk hfa
      rw [prs_length] at *
      refine den_norm (by simp only [List.cons_append, List.nil_append]; rfl) (den_leaf_eq fun w10 h10 => ⟨(d.ers.length : Int), by simp [SV.den, denL, IE.den, BE.den, nth, vint, vbool, vaddr, addO, addr_add], fun h => ?_, fun _ => hlE, hBk (hB8.quiet hq) h10.kept (by intro hin; first | (simp [BlkIn, nth, blkOf, vaddr] at hin; done) | (simp [BlkIn, nth, blkOf, vaddr] at hin; omega)), (hC8.quiet hq).kept h10.kept fun y hin => by first | (simp [BlkIn, nth, blkOf, vaddr] at hin; done) | (simp [BlkIn, nth, blkOf, vaddr] at hin; omega)⟩)
      have := hkm h
      omega
  rintro l w7 hf7 ⟨k, rfl, hk0, hk1, hB7, hC7⟩ hk7 hfa7
  refine den_norm (by simp only [List.cons_append, List.nil_append]; rfl) ?_
  refine den_ldp [.int .i64 turn] [.int .i64 turn] ⟨⟨_, rfl⟩, trivial⟩ (whole _) (fun w8 h8 => (hBk hB7 (shown_same h8) fun h => h).pts) (fun _ _ => by simp [BlkIn]) fun w8 h8 => den_norm (by simp only [List.cons_append, List.nil_append]; rfl) ?_
  have hB8 := hBk hB7 (shown_same h8) fun h => h
  have hC8 := hC7.same (shown_same h8)
  refine den_split (fun h9 => ?_) (fun h9 => ?_)
  · have ht0 : turn = 0 := by
      simp only [BE.den, IE.den, nth, vint] at h9
      have := of_decide_eq_true h9
      omega
    refine den_splitNot (fun h10 => ?_) (fun h10 => ?_)
    · exfalso
      simp only [BE.den, IE.den, nth, vint] at h10
      have q1 := of_decide_eq_false h10
      have q2 := hk0 ht0
      first
        | omega
        | (exact q1 (by rw [q2]; split <;> split <;> omega))
        | (simp at q1; omega)
    refine den_ldp [.int .i64 turn] [.int .i64 turn] ⟨⟨_, rfl⟩, trivial⟩ (whole _) (fun w9 h9 => (hBk hB8 (shown_same h9) fun h => h).pts) (fun _ _ => by simp [BlkIn]) fun w9 h9 => den_norm (by simp only [List.cons_append, List.nil_append]; rfl) ?_
    have hB9 := hBk hB8 (shown_same h9) fun h => h
    have hC9 := hC8.same (shown_same h9)
    refine den_split (fun h11 => ?_) (fun h11 => ?_)
    · exfalso
      simp only [BE.den, IE.den, nth, vint] at h11
      have := of_decide_eq_true h11
      omega
    · exact den_leaf_eq fun w10 h10 => ⟨rfl, hBk hB9 (shown_same h10) fun h => h, hC9.same (shown_same h10)⟩
  · have ht0 : turn ≠ 0 := by
      simp only [BE.den, IE.den, nth, vint] at h9
      have := of_decide_eq_false h9
      omega
    have ht1 : turn = 1 := by omega
    refine den_ldp [.int .i64 turn] [.int .i64 turn] ⟨⟨_, rfl⟩, trivial⟩ (whole _) (fun w9 h9 => (hBk hB8 (shown_same h9) fun h => h).pts) (fun _ _ => by simp [BlkIn]) fun w9 h9 => den_norm (by simp only [List.cons_append, List.nil_append]; rfl) ?_
    have hB9 := hBk hB8 (shown_same h9) fun h => h
    have hC9 := hC8.same (shown_same h9)
    refine den_split (fun h11 => ?_) (fun h11 => ?_)
    · refine den_splitNot (fun h10 => ?_) (fun h10 => ?_)
      · exfalso
        simp only [BE.den, IE.den, nth, vint] at h10
        exact of_decide_eq_false h10 (hk1 ht1)
      · exact den_leaf_eq fun w10 h10 => ⟨rfl, hBk hB9 (shown_same h10) fun h => h, hC9.same (shown_same h10)⟩
    · exact den_leaf_eq fun w10 h10 => ⟨rfl, hBk hB9 (shown_same h10) fun h => h, hC9.same (shown_same h10)⟩
end Go.Proofs.Ytppbapnibpeolaa
