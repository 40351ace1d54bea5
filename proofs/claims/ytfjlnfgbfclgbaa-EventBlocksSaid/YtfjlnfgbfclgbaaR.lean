/- do: a call on both sides gives results that agree. No conditions beyond those that each theorem names. -/
import Derived.Test.YtfjlnfgbfclgbaaQ
set_option maxRecDepth 100000
set_option maxHeartbeats 4000000
set_option linter.unusedVariables false
set_option linter.unusedSimpArgs false
namespace Go.Proofs.Ytfjlnfgbfclgbaa
open Go.Sx

structure Sim (w : World) (S : Nat → Prop) (b m : Nat) (e : Ev) (r1 r2 : Value) (Bl : Nat → Bool) (Pg : Nat → Int) : Prop where
  ev : EvS w S b m e
  g1 : Given hE w r1 e.R
  g2 : Given ntcE w r2 e.L
  n1 : In (fun x => x ≠ b ∧ x ≠ m) r1
  n2 : In (fun x => x ≠ b ∧ x ≠ m) r2
  bok : BOk e.B Bl Pg
  wf : Wf e
/-- behind a call of do -/
def SimR (w : World) (S : Nat → Prop) (b m : Nat) (e' : Ev) (r1 r2 : Value) (v : Value) (w' : World) : Prop := ∃ S' m' r1' r2' Bl' Pg', v = .tuple #[refV e'.lim e'.cfg r1' r2' Bl' Pg', .bool true] ∧ Sim w' S' b m' e' r1' r2' Bl' Pg' ∧ (∀ x, S' x → S x ∨ w.heap.size ≤ x) ∧ (m' = m ∨ w.heap.size ≤ m') ∧ Fr w r1 r1' ∧ Fr w r2 r2'
theorem Fr.le {w w1 : World} {s s' : Value} (h : Fr w1 s s') (hs : w.heap.size ≤ w1.heap.size) : Fr w s s' := fun ad had => (h ad had).imp_right fun h => Nat.le_trans hs h
theorem Fr.in {w : World} {s s' : Value} {Q Q' : Nat → Prop} (h : Fr w s s') (hI : In Q s) (h1 : ∀ x, Q x → Q' x) (h2 : ∀ x, w.heap.size ≤ x → Q' x) : In Q' s' := fun ad had => by
  rcases h ad had with ⟨ad0, q1, q2⟩ | q
  · rw [← q2]; exact h1 _ (hI ad0 q1)
  · exact h2 _ q
theorem dl_out : ∀ (L : List Ntc) (R : List Int) (B : Int → Option Int), (dl L R B).out.length ≤ R.length
  | [], R, B => Nat.zero_le _
  | x :: L, [], B => by rw [dl_nil]; exact Nat.le_refl _
  | x :: L, r :: R, B => by
    by_cases hb : (B x.t).isSome = true
    · rw [dl_cons_b _ _ _ _ _ hb]; exact dl_out L (r :: R) B
    · rw [dl_cons_f _ _ _ _ _ (by simpa using hb)]
      have := dl_out L R (upd B x.t x.p)
      show ((r, resI x) :: (dl L R (upd B x.t x.p)).out).length ≤ (r :: R).length
      simp only [List.length_cons]
      omega
theorem dlE_R (e : Ev) : (dlE e).R = (dl e.L e.R e.B).R := rfl
theorem bok_reset : BOk (fun _ => none) (fun _ => false) (fun _ => 0) := ⟨fun _ _ => rfl, fun _ _ => rfl⟩
theorem isI_req {e : Ev} {id : Int} : isI (reqC e id / 256) (reqC e id % 256) false false (reqC e id) = true := by
  unfold isI
  have : 256 * (reqC e id / 256) + reqC e id % 256 = reqC e id := by omega
  simp [this]
theorem reqC_rng (e : Ev) (id : Int) : (0 ≤ reqC e id / 256 ∧ reqC e id / 256 ≤ 255) ∧ (0 ≤ reqC e id % 256 ∧ reqC e id % 256 ≤ 255) := by
  rcases reqC_cases e id with h | h | h <;> rw [h] <;> decide

theorem c26 (w : World) (S : Nat → Prop) (b m : Nat) (e : Ev) (r1 r2 : Value) (Bl : Nat → Bool) (Pg : Nat → Int) (a : Cl) (ha : a.Ok) (h : Sim w S b m e r1 r2 Bl Pg) (hL : e.L.length ≤ 40000) :
    Runs Try.prog 26 [pt b, refV e.lim e.cfg r1 r2 Bl Pg, a.v] w (fun x => x = b ∨ x = m) (fun v w' => SimR w S b m (stepE e a) r1 r2 v w') := by
  obtain ⟨ra, rc, rfl⟩ := h.g1.1.slice
  obtain ⟨pa, pc, rfl⟩ := h.g2.1.slice
  have hh := runs mix t26 rfl rfl (ε := [pt b, .int .i64 e.lim, .int .u32 e.cfg, .slice ra e.R.length rc, .slice pa e.L.length pc, .bool (Bl 0), .bool (Bl 1), .bool (Bl 2), .bool (Bl 3), .bool (Bl 4), .bool (Bl 5), .bool (Bl 6), .bool (Bl 7), .int .u8 (Pg 0), .int .u8 (Pg 1), .int .u8 (Pg 2), .int .u8 (Pg 3), .int .u8 (Pg 4), .int .u8 (Pg 5), .int .u8 (Pg 6), .int .u8 (Pg 7), .int .i64 a.k, .int .u16 a.id, .int .u8 a.n.t, .int .u8 a.n.i, .int .u8 a.n.p, .int .u32 a.c]) (heap := []) (w := w) (M := fun x => x = b ∨ x = m) (R := fun v w' => SimR w S b m (stepE e a) (.slice ra e.R.length rc) (.slice pa e.L.length pc) v w') ⟨⟨_, rfl⟩, ⟨_, rfl⟩, ⟨_, rfl⟩, ⟨_, _, _, rfl⟩, ⟨_, _, _, rfl⟩, ⟨_, rfl⟩, ⟨_, rfl⟩, ⟨_, rfl⟩, ⟨_, rfl⟩, ⟨_, rfl⟩, ⟨_, rfl⟩, ⟨_, rfl⟩, ⟨_, rfl⟩, ⟨_, rfl⟩, ⟨_, rfl⟩, ⟨_, rfl⟩, ⟨_, rfl⟩, ⟨_, rfl⟩, ⟨_, rfl⟩, ⟨_, rfl⟩, ⟨_, rfl⟩, ⟨_, rfl⟩, ⟨_, rfl⟩, ⟨_, rfl⟩, ⟨_, rfl⟩, ⟨_, rfl⟩, ⟨_, rfl⟩, trivial⟩ trivial (by simp [keys]) (by simp [keys]) (by simp [keys]) ?_
  · exact hh
  have lS := h.ev.slt
  have lb := lS b h.ev.sb
  have lm := lS m h.ev.sm
  have hw := h.wf
  have hR16 := hw.len
  have lr1 : ∀ ad, vaddr (.slice ra e.R.length rc) = some ad → ad.block < w.heap.size := h.g1.2.2.2
  have lr2 : ∀ ad, vaddr (.slice pa e.L.length pc) = some ad → ad.block < w.heap.size := h.g2.2.2.2
  refine den_blk fun b27 k27 _ _ => den_norm (by simp only [List.cons_append, List.nil_append]; rfl) (den_blk fun b28 k28 _ _ => den_norm (by simp only [List.cons_append, List.nil_append]; rfl) (den_blk fun b29 k29 _ _ => den_norm (by simp only [List.cons_append, List.nil_append]; rfl) ?_))
  have z27 : w.heap.size ≤ b27 := k27
  have z28 : w.heap.size ≤ b28 := k28
  have z29 : w.heap.size ≤ b29 := k29
  refine den_splitEq (fun hk => ?_) (fun hk0 => ?_)
  · have eS : stepE e a = reqE e a.id := if_pos hk
    have hw' := hw.req a.id
    have eL := reqE_L e a.id
    have eB : (reqE e a.id).B = e.B ∧ (reqE e a.id).lim = e.lim ∧ (reqE e a.id).cfg = e.cfg := by unfold reqE; split <;> exact ⟨rfl, rfl, rfl⟩
    rw [eS]
    refine den_callR (fun w1 l w2 => ∃ a' c', l = [.int .i64 e.lim, .int .u32 e.cfg, (.slice a' (reqE e a.id).R.length c'), (.slice pa e.L.length pc), .bool (Bl 0), .bool (Bl 1), .bool (Bl 2), .bool (Bl 3), .bool (Bl 4), .bool (Bl 5), .bool (Bl 6), .bool (Bl 7), .int .u8 (Pg 0), .int .u8 (Pg 1), .int .u8 (Pg 2), .int .u8 (Pg 3), .int .u8 (Pg 4), .int .u8 (Pg 5), .int .u8 (Pg 6), .int .u8 (Pg 7), .int .i64 (reqC e a.id)] ∧ Given hE w2 (.slice a' (reqE e a.id).R.length c') (reqE e a.id).R ∧ Fr w1 (.slice ra e.R.length rc) (.slice a' (reqE e a.id).R.length c')) (fun w1 h1 => ?_) ?_
    · refine (c49 e (.slice ra e.R.length rc) (.slice pa e.L.length pc) Bl Pg a.id w1 (h.g1.same (shown_same h1)) ⟨_, _, _, rfl⟩ hw.R (by omega)).mono fun v w' ⟨s1', q1, q2, q3⟩ => ?_
      obtain ⟨a', c', rfl⟩ := q2.1.slice
      exact ⟨[.int .i64 e.lim, .int .u32 e.cfg, (.slice a' (reqE e a.id).R.length c'), (.slice pa e.L.length pc), .bool (Bl 0), .bool (Bl 1), .bool (Bl 2), .bool (Bl 3), .bool (Bl 4), .bool (Bl 5), .bool (Bl 6), .bool (Bl 7), .int .u8 (Pg 0), .int .u8 (Pg 1), .int .u8 (Pg 2), .int .u8 (Pg 3), .int .u8 (Pg 4), .int .u8 (Pg 5), .int .u8 (Pg 6), .int .u8 (Pg 7), .int .i64 (reqC e a.id)], ⟨⟨_, rfl⟩, ⟨_, rfl⟩, ⟨_, _, _, rfl⟩, ⟨_, _, _, rfl⟩, ⟨_, rfl⟩, ⟨_, rfl⟩, ⟨_, rfl⟩, ⟨_, rfl⟩, ⟨_, rfl⟩, ⟨_, rfl⟩, ⟨_, rfl⟩, ⟨_, rfl⟩, ⟨_, rfl⟩, ⟨_, rfl⟩, ⟨_, rfl⟩, ⟨_, rfl⟩, ⟨_, rfl⟩, ⟨_, rfl⟩, ⟨_, rfl⟩, ⟨_, rfl⟩, ⟨_, rfl⟩, trivial⟩, q1, a', c', rfl, q2, q3⟩
    rintro w1 l w2 h1 _ ⟨a', c', rfl, q2, q3⟩ k12
    refine den_norm (by simp only [List.cons_append, List.nil_append, refC]; rfl) (den_blk fun b51 k51 _ _ => den_norm (by simp only [List.cons_append, List.nil_append]; rfl) ?_)
    have l29 : b29 < w1.heap.size := h1.lt (i := 29) (by simp [keys]) rfl
    have l28 : b28 < w1.heap.size := h1.lt (i := 28) (by simp [keys]) rfl
    have l27 : b27 < w1.heap.size := h1.lt (i := 27) (by simp [keys]) rfl
    have z1 : w.heap.size ≤ w1.heap.size := h1.base.size
    have z12 : w1.heap.size ≤ w2.heap.size := k12.size
    have z51 : w2.heap.size ≤ b51 := k51
    intro w3 h3
    refine ⟨fun x => x = b ∨ x = m ∨ x = b27 ∨ x = b28 ∨ x = b29 ∨ x = b51, fun x hx => by simp [BlkIn, nth, blkOf, vaddr] at hx; omega, ?_⟩
    have s12 := (shown_same h1).trans k12
    have z3 : w2.heap.size ≤ w3.heap.size := h3.kept.size
    have l51 : b51 < w3.heap.size := h3.lt (i := 51) (by simp [keys]) rfl
    have EV3 := (h.ev.same s12).kept h3.kept fun x hx hin => by have := lS x hx; simp [BlkIn, nth, blkOf, vaddr] at hin; omega
    have qlt := q2.2.2.2
    have GN3 := q2.kept h3.kept fun ad had hin => by have := qlt ad had; simp [BlkIn, nth, blkOf, vaddr] at hin; omega
    have GO3 := (h.g2.same s12).kept h3.kept fun ad had hin => by have := lr2 ad had; simp [BlkIn, nth, blkOf, vaddr] at hin; omega
    have NN : In (fun x => x ≠ b ∧ x ≠ m) (.slice a' (reqE e a.id).R.length c') := q3.in h.n1 (fun x hx => hx) fun x hx => by omega
    refine den_callM (fun _ x => x = b) (fun w4 l w5 => l = [.int .u8 (reqC e a.id / 256), .int .u8 (reqC e a.id % 256), .bool false, .bool false] ∧ EvS w5 (Nx S w4 w5) b m (reqE e a.id)) (fun w4 h4 x hx hlt => ⟨fun _ => .inl hx, fun _ => .inl hx, fun hin => by simp [BlkIn, nth, blkOf, vaddr] at hin; omega, fun hx => by cases hx⟩) (fun w4 h4 => ?_) (fun w4 l w5 h4 hfl hR' hk5 => ?_)
    · exact (m20 (EV3.same (shown_same h4)) hw a.id).mono (fun v w' ⟨p1, p2⟩ _ => ⟨[.int .u8 (reqC e a.id / 256), .int .u8 (reqC e a.id % 256), .bool false, .bool false], ⟨⟨_, rfl⟩, ⟨_, rfl⟩, ⟨_, rfl⟩, ⟨_, rfl⟩, trivial⟩, p1, ⟨rfl, p2⟩, trivial⟩) fun _ _ h => h
    obtain ⟨rfl, EV5⟩ := hR'
    have z4 : w3.heap.size ≤ w4.heap.size := h4.kept.size
    have GN5 := (GN3.same (shown_same h4)).kept hk5 fun ad had hx => (NN ad had).1 hx
    have GO5 := (GO3.same (shown_same h4)).kept hk5 fun ad had hx => (h.n2 ad had).1 hx
    refine den_norm (by simp only [List.cons_append, List.nil_append]; rfl) ?_
    obtain ⟨rg1, rg2⟩ := reqC_rng e a.id
    refine den_call_bool (b := true) (fun wa _ => (c19 (reqC e a.id / 256) (reqC e a.id % 256) false false (reqC e a.id) rg1 rg2 wa).to (by rw [isI_req])) rfl (fun w6 w7 h6 h67 => den_norm (by simp only [List.cons_append, List.nil_append]; rfl) (den_split_true rfl ?_))
    have SM := (shown_same h6).trans h67
    have EV := EV5.same SM
    have G1 := GN5.same SM
    have G2 := (show Given ntcE w7 (.slice pa e.L.length pc) (reqE e a.id).L by rw [eL]; exact GO5.same SM)
    have N1 := NN
    have nb29 : ∀ x, Nx S w4 w5 x → x ≠ b29 := fun x hx => by rcases hx.1 with hx | hx; have := lS x hx; omega; omega
    have nnew : ∀ ad, vaddr (.slice a' (reqE e a.id).R.length c') = some ad → ad.block ≠ b29 := fun ad had => by
      rcases q3 ad had with ⟨ad0, p1, p2⟩ | p
      · have := lr1 ad0 p1; omega
      · omega
    have nold : ∀ ad, vaddr (.slice pa e.L.length pc) = some ad → ad.block ≠ b29 := fun ad had => by have := lr2 ad had; omega
    have n29a : ∀ ad, vaddr (.slice a' (reqE e a.id).R.length c') = some ad → ad.block ≠ b29 := nnew
    have n29b : ∀ ad, vaddr (.slice pa e.L.length pc) = some ad → ad.block ≠ b29 := nold
    have SUB : ∀ x, Nx S w4 w5 x → S x ∨ w.heap.size ≤ x := fun x hx => hx.1.imp_right fun h => by omega
    have BK : BOk (reqE e a.id).B Bl Pg := by rw [eB.1]; exact h.bok
    have lenL : (reqE e a.id).L.length ≤ 50000 := by rw [reqE_L]; omega
    refine den_call_bool (b := true) (fun wa ha2 => by
        have := m29 (EV.same (shown_same ha2)) hw' lenL (.slice a' (reqE e a.id).R.length c') (.slice pa e.L.length pc) Bl Pg (G1.same (shown_same ha2)) (G2.same (shown_same ha2))
        rw [eB.2.1, eB.2.2] at this
        exact this) rfl (fun wa wb ha2 hab => den_norm (by simp only [List.cons_append, List.nil_append]; rfl) (den_leafA _ rfl fun wz hz => ?_))
    have sab := (shown_same ha2).trans hab
    have kz := hz.kept
    exact ⟨(Nx S w4 w5), m, (.slice a' (reqE e a.id).R.length c'), (.slice pa e.L.length pc), Bl, Pg, by rw [eB.2.1, eB.2.2]; rfl, ⟨(EV.same sab).kept hz.kept fun x hx hin => by have := nb29 x hx; simp [BlkIn, nth, blkOf, vaddr] at hin; omega, (G1.same sab).kept hz.kept fun ad had hin => by have := n29a ad had; simp [BlkIn, nth, blkOf, vaddr] at hin; omega, (G2.same sab).kept hz.kept fun ad had hin => by have := n29b ad had; simp [BlkIn, nth, blkOf, vaddr] at hin; omega, N1, h.n2, BK, hw'⟩, SUB, .inl rfl, (q3.le z1), (Fr.refl _ _)⟩
  have hn0 : a.k ≠ 0 := hk0
  refine den_splitEq (fun hk => ?_) (fun hk1 => ?_)
  · have eS : stepE e a = raiseE e a.n := by unfold stepE; rw [if_neg hn0]; exact if_pos hk
    have hw' := hw.raise ha.n
    have eB : (raiseE e a.n).R = e.R ∧ (raiseE e a.n).lim = e.lim ∧ (raiseE e a.n).cfg = e.cfg ∧ (raiseE e a.n).B = e.B := by unfold raiseE; split <;> exact ⟨rfl, rfl, rfl, rfl⟩
    rw [eS]
    refine den_callM (fun _ x => x = b) (fun w1 l w2 => l = [.bool (raiseB e a.n), .int .i64 (raiseC a.n)] ∧ EvS w2 (Nx S w1 w2) b m (raiseE e a.n)) (fun w1 h1 x hx hlt => ⟨fun hd => (by cases hd), fun _ => .inl hx, fun hin => by simp [BlkIn, nth, blkOf, vaddr] at hin; omega, fun hx => by cases hx⟩) (fun w1 h1 => ?_) (fun w1 l w2 h1 hfl hR' k12 => ?_)
    · exact (m21 (h.ev.same (shown_same h1)) hw (by omega) a.n ha.n).mono (fun v w' ⟨p1, p2⟩ _ => ⟨[.bool (raiseB e a.n), .int .i64 (raiseC a.n)], ⟨⟨_, rfl⟩, ⟨_, rfl⟩, trivial⟩, p1, ⟨rfl, p2⟩, trivial⟩) fun _ _ h => h
    obtain ⟨rfl, EV2⟩ := hR'
    have l29 : b29 < w1.heap.size := h1.lt (i := 29) (by simp [keys]) rfl
    have l28 : b28 < w1.heap.size := h1.lt (i := 28) (by simp [keys]) rfl
    have l27 : b27 < w1.heap.size := h1.lt (i := 27) (by simp [keys]) rfl
    have z1 : w.heap.size ≤ w1.heap.size := h1.base.size
    have z12 := k12.size
    have GA2 := (h.g1.same (shown_same h1)).kept k12 fun ad had hx => (h.n1 ad had).1 hx
    have GB2 := (h.g2.same (shown_same h1)).kept k12 fun ad had hx => (h.n2 ad had).1 hx
    refine den_norm (by simp only [List.cons_append, List.nil_append]; rfl) ?_
    refine den_callR (fun w3 l w4 => ∃ a' c', l = [.int .i64 e.lim, .int .u32 e.cfg, (.slice ra e.R.length rc), (.slice a' (raiseE e a.n).L.length c'), .bool (Bl 0), .bool (Bl 1), .bool (Bl 2), .bool (Bl 3), .bool (Bl 4), .bool (Bl 5), .bool (Bl 6), .bool (Bl 7), .int .u8 (Pg 0), .int .u8 (Pg 1), .int .u8 (Pg 2), .int .u8 (Pg 3), .int .u8 (Pg 4), .int .u8 (Pg 5), .int .u8 (Pg 6), .int .u8 (Pg 7), .bool (raiseB e a.n), .int .i64 (raiseC a.n)] ∧ Given ntcE w4 (.slice a' (raiseE e a.n).L.length c') (raiseE e a.n).L ∧ Fr w3 (.slice pa e.L.length pc) (.slice a' (raiseE e a.n).L.length c')) (fun w3 h3 => ?_) ?_
    · refine (c50 e (.slice ra e.R.length rc) (.slice pa e.L.length pc) Bl Pg a.n ha.n hw.cfg w3 ⟨_, _, _, rfl⟩ (GB2.same (shown_same h3)) (by omega)).mono fun v w' ⟨s1', q1, q2, q3⟩ => ?_
      obtain ⟨a', c', rfl⟩ := q2.1.slice
      exact ⟨[.int .i64 e.lim, .int .u32 e.cfg, (.slice ra e.R.length rc), (.slice a' (raiseE e a.n).L.length c'), .bool (Bl 0), .bool (Bl 1), .bool (Bl 2), .bool (Bl 3), .bool (Bl 4), .bool (Bl 5), .bool (Bl 6), .bool (Bl 7), .int .u8 (Pg 0), .int .u8 (Pg 1), .int .u8 (Pg 2), .int .u8 (Pg 3), .int .u8 (Pg 4), .int .u8 (Pg 5), .int .u8 (Pg 6), .int .u8 (Pg 7), .bool (raiseB e a.n), .int .i64 (raiseC a.n)], ⟨⟨_, rfl⟩, ⟨_, rfl⟩, ⟨_, _, _, rfl⟩, ⟨_, _, _, rfl⟩, ⟨_, rfl⟩, ⟨_, rfl⟩, ⟨_, rfl⟩, ⟨_, rfl⟩, ⟨_, rfl⟩, ⟨_, rfl⟩, ⟨_, rfl⟩, ⟨_, rfl⟩, ⟨_, rfl⟩, ⟨_, rfl⟩, ⟨_, rfl⟩, ⟨_, rfl⟩, ⟨_, rfl⟩, ⟨_, rfl⟩, ⟨_, rfl⟩, ⟨_, rfl⟩, ⟨_, rfl⟩, ⟨_, rfl⟩, trivial⟩, q1, a', c', rfl, q2, q3⟩
    rintro w3 l w4 h3 _ ⟨a', c', rfl, q2, q3⟩ k34
    have z3 : w2.heap.size ≤ w3.heap.size := h3.kept.size
    have z34 : w3.heap.size ≤ w4.heap.size := k34.size
    refine den_norm (by simp only [List.cons_append, List.nil_append, refC]; rfl) (den_blk fun b51 k51 _ _ => den_norm (by simp only [List.cons_append, List.nil_append]; rfl) ?_)
    have z51 : w4.heap.size ≤ b51 := k51
    refine den_start1 fun w5 h5 => ?_
    have s24 := (shown_same h3).trans k34
    have EV := (EV2.same s24).kept h5.kept fun x hx hin => by have := hx.2; simp [BlkIn, nth, blkOf, vaddr] at hin; omega
    have qlt := q2.2.2.2
    have G2 := q2.kept h5.kept fun ad had hin => by have := qlt ad had; simp [BlkIn, nth, blkOf, vaddr] at hin; omega
    have G1 : Given hE w5 (.slice ra e.R.length rc) (raiseE e a.n).R := by
      rw [eB.1]
      exact (GA2.same s24).kept h5.kept fun ad had hin => by have := lr1 ad had; simp [BlkIn, nth, blkOf, vaddr] at hin; omega
    have N1 := h.n1
    have NN : In (fun x => x ≠ b ∧ x ≠ m) (.slice a' (raiseE e a.n).L.length c') := q3.in h.n2 (fun x hx => hx) fun x hx => by omega
    have nb29 : ∀ x, Nx S w1 w2 x → x ≠ b29 := fun x hx => by rcases hx.1 with hx | hx; have := lS x hx; omega; omega
    have n29b : ∀ ad, vaddr (.slice a' (raiseE e a.n).L.length c') = some ad → ad.block ≠ b29 := fun ad had => by
      rcases q3 ad had with ⟨ad0, p1, p2⟩ | p
      · have := lr2 ad0 p1; omega
      · omega
    have n29a : ∀ ad, vaddr (.slice ra e.R.length rc) = some ad → ad.block ≠ b29 := fun ad had => by have := lr1 ad had; omega
    have SUB : ∀ x, Nx S w1 w2 x → S x ∨ w.heap.size ≤ x := fun x hx => hx.1.imp_right fun h => by omega
    have BK : BOk (raiseE e a.n).B Bl Pg := by rw [eB.2.2.2]; exact h.bok
    refine den_split_true (by simp [BE.den, nth, vbool]) (den_split_true (by simp [BE.den, IE.den, nth, vint]) ?_)
    have lenL : (raiseE e a.n).L.length ≤ 50000 := by have := raiseE_L e a.n; omega
    refine den_call_bool (b := true) (fun wa ha2 => by
        have := m29 (EV.same (shown_same ha2)) hw' lenL (.slice ra e.R.length rc) (.slice a' (raiseE e a.n).L.length c') Bl Pg (G1.same (shown_same ha2)) (G2.same (shown_same ha2))
        rw [eB.2.1, eB.2.2.1] at this
        exact this) rfl (fun wa wb ha2 hab => den_norm (by simp only [List.cons_append, List.nil_append]; rfl) (den_leafA _ rfl fun wz hz => ?_))
    have sab := (shown_same ha2).trans hab
    have kz := hz.kept
    exact ⟨(Nx S w1 w2), m, (.slice ra e.R.length rc), (.slice a' (raiseE e a.n).L.length c'), Bl, Pg, by rw [eB.2.1, eB.2.2.1]; rfl, ⟨(EV.same sab).kept hz.kept fun x hx hin => by have := nb29 x hx; simp [BlkIn, nth, blkOf, vaddr] at hin; omega, (G1.same sab).kept hz.kept fun ad had hin => by have := n29a ad had; simp [BlkIn, nth, blkOf, vaddr] at hin; omega, (G2.same sab).kept hz.kept fun ad had hin => by have := n29b ad had; simp [BlkIn, nth, blkOf, vaddr] at hin; omega, N1, NN, BK, hw'⟩, SUB, .inl rfl, (Fr.refl _ _), (q3.le (by omega))⟩
  have hn1 : a.k ≠ 1 := hk1
  refine den_splitEq (fun hk => ?_) (fun hk2 => ?_)
  · have eS : stepE e a = dlE e := by unfold stepE; rw [if_neg hn0, if_neg hn1]; exact if_pos hk
    have hw' := hw.dl
    obtain ⟨dw1, dw2, dw3, dw4⟩ := dl_wf e.L e.R e.B hw.L hw.B
    rw [eS]
    refine den_callM (fun _ x => x = b ∨ x = m) (fun w1 l w2 => ∃ oa oc, l = [.slice oa (dl e.L e.R e.B).out.length oc] ∧ Mine resE 49 w2 (.slice oa (dl e.L e.R e.B).out.length oc) (dl e.L e.R e.B).out ∧ (∀ g, (Value.slice oa (dl e.L e.R e.B).out.length oc).ownBlock = some g → w1.heap.size ≤ g ∧ g ≠ b ∧ g ≠ m) ∧ EvS w2 (Nx S w1 w2) b m (dlE e)) (fun w1 h1 x hx hlt => ⟨fun hd => (by cases hd), fun _ => hx, fun hin => by simp [BlkIn, nth, blkOf, vaddr] at hin; omega, fun hx => by cases hx⟩) (fun w1 h1 => ?_) (fun w1 l w2 h1 hfl hR' k12 => ?_)
    · refine (m22 (h.ev.same (shown_same h1)) hw (by omega)).mono (fun v w' ⟨⟨p1, p2⟩, p3⟩ _ => ?_) fun _ _ h => h
      obtain ⟨oa, oc, rfl⟩ := p1.slice
      exact ⟨[.slice oa (dl e.L e.R e.B).out.length oc], ⟨⟨_, _, _, rfl⟩, trivial⟩, rfl, ⟨oa, oc, rfl, p1, p2, p3⟩, trivial⟩
    obtain ⟨oa, oc, rfl, hO, hOb, EV2⟩ := hR'
    have l29 : b29 < w1.heap.size := h1.lt (i := 29) (by simp [keys]) rfl
    have l28 : b28 < w1.heap.size := h1.lt (i := 28) (by simp [keys]) rfl
    have l27 : b27 < w1.heap.size := h1.lt (i := 27) (by simp [keys]) rfl
    have z1 : w.heap.size ≤ w1.heap.size := h1.base.size
    have z12 := k12.size
    have GA2 := (h.g1.same (shown_same h1)).kept k12 fun ad had hx => by have := h.n1 ad had; omega
    have GB2 := (h.g2.same (shown_same h1)).kept k12 fun ad had hx => by have := h.n2 ad had; omega
    refine den_norm (by simp only [List.cons_append, List.nil_append]; rfl) ?_
    refine den_callR (fun w3 l w4 => ∃ a1 c1 a2 c2 ao co, ∃ (Bl2 : Nat → Bool) (Pg2 : Nat → Int), l = [.int .i64 e.lim, .int .u32 e.cfg, (.slice a1 (dlE e).R.length c1), (.slice a2 (dlE e).L.length c2), .bool (Bl2 0), .bool (Bl2 1), .bool (Bl2 2), .bool (Bl2 3), .bool (Bl2 4), .bool (Bl2 5), .bool (Bl2 6), .bool (Bl2 7), .int .u8 (Pg2 0), .int .u8 (Pg2 1), .int .u8 (Pg2 2), .int .u8 (Pg2 3), .int .u8 (Pg2 4), .int .u8 (Pg2 5), .int .u8 (Pg2 6), .int .u8 (Pg2 7), .slice ao (dl e.L e.R e.B).out.length co] ∧ Given hE w4 (.slice a1 (dlE e).R.length c1) (dlE e).R ∧ Given ntcE w4 (.slice a2 (dlE e).L.length c2) (dlE e).L ∧ BOk (dlE e).B Bl2 Pg2 ∧ Given resE w4 (.slice ao (dl e.L e.R e.B).out.length co) (dl e.L e.R e.B).out ∧ Fr w3 (.slice ra e.R.length rc) (.slice a1 (dlE e).R.length c1) ∧ Fr w3 (.slice pa e.L.length pc) (.slice a2 (dlE e).L.length c2)) (fun w3 h3 => ?_) ?_
    · refine (c51 e.lim e.cfg e.R e.L e.B (.slice ra e.R.length rc) (.slice pa e.L.length pc) Bl Pg w3 (GA2.same (shown_same h3)) (GB2.same (shown_same h3)) h.bok (fun n hn => ⟨(hw.L n hn).1, valid8 (hw.L n hn).2⟩) (by omega)).mono fun v w' ⟨s1', s2', so, Bl2, Pg2, q1, q2, q3, q4, q5, q6, q7⟩ => ?_
      obtain ⟨a1, c1, rfl⟩ := q2.1.slice
      obtain ⟨a2, c2, rfl⟩ := q3.1.slice
      obtain ⟨ao, co, rfl⟩ := q5.1.slice
      exact ⟨[.int .i64 e.lim, .int .u32 e.cfg, (.slice a1 (dlE e).R.length c1), (.slice a2 (dlE e).L.length c2), .bool (Bl2 0), .bool (Bl2 1), .bool (Bl2 2), .bool (Bl2 3), .bool (Bl2 4), .bool (Bl2 5), .bool (Bl2 6), .bool (Bl2 7), .int .u8 (Pg2 0), .int .u8 (Pg2 1), .int .u8 (Pg2 2), .int .u8 (Pg2 3), .int .u8 (Pg2 4), .int .u8 (Pg2 5), .int .u8 (Pg2 6), .int .u8 (Pg2 7), .slice ao (dl e.L e.R e.B).out.length co], ⟨⟨_, rfl⟩, ⟨_, rfl⟩, ⟨_, _, _, rfl⟩, ⟨_, _, _, rfl⟩, ⟨_, rfl⟩, ⟨_, rfl⟩, ⟨_, rfl⟩, ⟨_, rfl⟩, ⟨_, rfl⟩, ⟨_, rfl⟩, ⟨_, rfl⟩, ⟨_, rfl⟩, ⟨_, rfl⟩, ⟨_, rfl⟩, ⟨_, rfl⟩, ⟨_, rfl⟩, ⟨_, rfl⟩, ⟨_, rfl⟩, ⟨_, rfl⟩, ⟨_, rfl⟩, ⟨_, _, _, rfl⟩, trivial⟩, q1, a1, c1, a2, c2, ao, co, Bl2, Pg2, rfl, q2, q3, q4, q5, q6, q7⟩
    rintro w3 l w4 h3 _ ⟨a1, c1, a2, c2, ao, co, Bl2, Pg2, rfl, q2, q3, BK, q5, q6, q7⟩ k34
    have z3 : w2.heap.size ≤ w3.heap.size := h3.kept.size
    have z34 : w3.heap.size ≤ w4.heap.size := k34.size
    refine den_norm (by simp only [List.cons_append, List.nil_append, refC]; rfl) (den_blk fun b51 k51 _ _ => den_norm (by simp only [List.cons_append, List.nil_append]; rfl) ?_)
    have z51 : w4.heap.size ≤ b51 := k51
    refine den_start1 fun w5 h5 => ?_
    have s24 := (shown_same h3).trans k34
    have hO4 := hO.same s24
    have EV5 := (EV2.same s24).kept h5.kept fun x hx hin => by have := hx.2; simp [BlkIn, nth, blkOf, vaddr] at hin; omega
    have q2l := q2.2.2.2
    have q3l := q3.2.2.2
    have q5l := q5.2.2.2
    have G15 := q2.kept h5.kept fun ad had hin => by have := q2l ad had; simp [BlkIn, nth, blkOf, vaddr] at hin; omega
    have G25 := q3.kept h5.kept fun ad had hin => by have := q3l ad had; simp [BlkIn, nth, blkOf, vaddr] at hin; omega
    have O5 := hO4.kept h5.kept fun g hg hin => by have := hO4.lt hg; simp [BlkIn, nth, blkOf, vaddr] at hin; omega
    have P5 := q5.kept h5.kept fun ad had hin => by have := q5l ad had; simp [BlkIn, nth, blkOf, vaddr] at hin; omega
    have lenO : (dl e.L e.R e.B).out.length ≤ 100000 := by have := dl_out e.L e.R e.B; omega
    refine den_call_bool (b := true) (fun w6 h6 => (c32 _ _ (dl e.L e.R e.B).out (dl e.L e.R e.B).out w6 (O5.same (shown_same h6)).arr (P5.same (shown_same h6)).1 (by omega)).to (by simp)) rfl (fun w6 w7 h6 h67 => den_norm (by simp only [List.cons_append, List.nil_append]; rfl) (den_split_true rfl ?_))
    have s67 := (shown_same h6).trans h67
    have EV := EV5.same s67
    have G1 := G15.same s67
    have G2 := G25.same s67
    have N1 : In (fun x => x ≠ b ∧ x ≠ m) (.slice a1 (dlE e).R.length c1) := q6.in h.n1 (fun x hx => hx) fun x hx => by omega
    have NN : In (fun x => x ≠ b ∧ x ≠ m) (.slice a2 (dlE e).L.length c2) := q7.in h.n2 (fun x hx => hx) fun x hx => by omega
    have nb29 : ∀ x, Nx S w1 w2 x → x ≠ b29 := fun x hx => by rcases hx.1 with hx | hx; have := lS x hx; omega; omega
    have n29a : ∀ ad, vaddr (.slice a1 (dlE e).R.length c1) = some ad → ad.block ≠ b29 := fun ad had => by
      rcases q6 ad had with ⟨ad0, p1, p2⟩ | p
      · have := lr1 ad0 p1; omega
      · omega
    have n29b : ∀ ad, vaddr (.slice a2 (dlE e).L.length c2) = some ad → ad.block ≠ b29 := fun ad had => by
      rcases q7 ad had with ⟨ad0, p1, p2⟩ | p
      · have := lr2 ad0 p1; omega
      · omega
    have SUB : ∀ x, Nx S w1 w2 x → S x ∨ w.heap.size ≤ x := fun x hx => hx.1.imp_right fun h => by omega
    have lenL : (dlE e).L.length ≤ 50000 := by show (dl e.L e.R e.B).left.length ≤ 50000; omega
    refine den_call_bool (b := true) (fun wa ha2 => m29 (EV.same (shown_same ha2)) hw' lenL (.slice a1 (dlE e).R.length c1) (.slice a2 (dlE e).L.length c2) Bl2 Pg2 (G1.same (shown_same ha2)) (G2.same (shown_same ha2))) rfl (fun wa wb ha2 hab => den_norm (by simp only [List.cons_append, List.nil_append]; rfl) (den_leafA _ rfl fun wz hz => ?_))
    have sab := (shown_same ha2).trans hab
    have kz := hz.kept
    exact ⟨(Nx S w1 w2), m, (.slice a1 (dlE e).R.length c1), (.slice a2 (dlE e).L.length c2), Bl2, Pg2, rfl, ⟨(EV.same sab).kept hz.kept fun x hx hin => by have := nb29 x hx; simp [BlkIn, nth, blkOf, vaddr] at hin; omega, (G1.same sab).kept hz.kept fun ad had hin => by have := n29a ad had; simp [BlkIn, nth, blkOf, vaddr] at hin; omega, (G2.same sab).kept hz.kept fun ad had hin => by have := n29b ad had; simp [BlkIn, nth, blkOf, vaddr] at hin; omega, N1, NN, BK, hw'⟩, SUB, .inl rfl, (q6.le (by omega)), (q7.le (by omega))⟩
  have hn2 : a.k ≠ 2 := hk2
  refine den_splitEq (fun hk => ?_) (fun hk3 => ?_)
  · have eS : stepE e a = readE e a.n.p := by unfold stepE; rw [if_neg hn0, if_neg hn1, if_neg hn2]; exact if_pos hk
    have hw' := hw.read a.n.p
    rw [eS]
    intro w1 h1
    have l29 : b29 < w1.heap.size := h1.lt (i := 29) (by simp [keys]) rfl
    have l28 : b28 < w1.heap.size := h1.lt (i := 28) (by simp [keys]) rfl
    have l27 : b27 < w1.heap.size := h1.lt (i := 27) (by simp [keys]) rfl
    have z1 : w.heap.size ≤ w1.heap.size := h1.base.size
    refine ⟨fun x => x = m ∨ x = b27 ∨ x = b28 ∨ x = b29, fun x hx => by simp [BlkIn, nth, blkOf, vaddr] at hx; omega, ?_⟩
    have EV1 := h.ev.same (shown_same h1)
    have GA1 := h.g1.same (shown_same h1)
    have GB1 := h.g2.same (shown_same h1)
    refine den_callR (fun w3 l w4 => ∃ (Bl2 : Nat → Bool), l = [.int .i64 e.lim, .int .u32 e.cfg, (.slice ra e.R.length rc), (.slice pa e.L.length pc), .bool (Bl2 0), .bool (Bl2 1), .bool (Bl2 2), .bool (Bl2 3), .bool (Bl2 4), .bool (Bl2 5), .bool (Bl2 6), .bool (Bl2 7), .int .u8 (Pg 0), .int .u8 (Pg 1), .int .u8 (Pg 2), .int .u8 (Pg 3), .int .u8 (Pg 4), .int .u8 (Pg 5), .int .u8 (Pg 6), .int .u8 (Pg 7)] ∧ ∀ t, t < 8 → Bl2 t = (Bl t && !decide (Pg t = a.n.p))) (fun w3 h3 => ?_) ?_
    · refine (c52 e.lim e.cfg (.slice ra e.R.length rc) (.slice pa e.L.length pc) Bl Pg a.n.p w3 ⟨_, _, _, rfl⟩ ⟨_, _, _, rfl⟩).mono fun v w' ⟨Bl2, q1, q2⟩ => ?_
      exact ⟨[.int .i64 e.lim, .int .u32 e.cfg, (.slice ra e.R.length rc), (.slice pa e.L.length pc), .bool (Bl2 0), .bool (Bl2 1), .bool (Bl2 2), .bool (Bl2 3), .bool (Bl2 4), .bool (Bl2 5), .bool (Bl2 6), .bool (Bl2 7), .int .u8 (Pg 0), .int .u8 (Pg 1), .int .u8 (Pg 2), .int .u8 (Pg 3), .int .u8 (Pg 4), .int .u8 (Pg 5), .int .u8 (Pg 6), .int .u8 (Pg 7)], ⟨⟨_, rfl⟩, ⟨_, rfl⟩, ⟨_, _, _, rfl⟩, ⟨_, _, _, rfl⟩, ⟨_, rfl⟩, ⟨_, rfl⟩, ⟨_, rfl⟩, ⟨_, rfl⟩, ⟨_, rfl⟩, ⟨_, rfl⟩, ⟨_, rfl⟩, ⟨_, rfl⟩, ⟨_, rfl⟩, ⟨_, rfl⟩, ⟨_, rfl⟩, ⟨_, rfl⟩, ⟨_, rfl⟩, ⟨_, rfl⟩, ⟨_, rfl⟩, ⟨_, rfl⟩, trivial⟩, q1, Bl2, rfl, q2⟩
    rintro w3 l w4 h3 _ ⟨Bl2, rfl, hBl⟩ k34
    have s14 := (shown_same h3).trans k34
    refine den_norm (by simp only [List.cons_append, List.nil_append, refC]; rfl) ?_
    refine den_callM (fun _ x => x = m) (fun w5 l w6 => l = [.int .i64 0] ∧ EvS w6 (Nx S w5 w6) b m (readE e a.n.p)) (fun w5 h5 x hx hlt => ⟨fun _ => .inl hx, fun _ => .inr hx, fun hin => by simp [BlkIn, nth, blkOf, vaddr] at hin; omega, fun hx => by cases hx⟩) (fun w5 h5 => ?_) (fun w5 l w6 h5 hfl hR' hk6 => ?_)
    · exact (m23 ((EV1.same s14).same (shown_same h5)) hw a.n.p).mono (fun v w' ⟨p1, p2⟩ _ => ⟨[.int .i64 0], ⟨⟨_, rfl⟩, trivial⟩, p1, ⟨rfl, p2⟩, trivial⟩) fun _ _ h => h
    obtain ⟨rfl, EV6⟩ := hR'
    have s15 := s14.trans (shown_same h5)
    have z15 := s15.size
    have G1 := (GA1.same s15).kept hk6 fun ad had hx => (h.n1 ad had).2 hx
    have G2 := (GB1.same s15).kept hk6 fun ad had hx => (h.n2 ad had).2 hx
    have nb29 : ∀ x, Nx S w5 w6 x → x ≠ b29 := fun x hx => by rcases hx.1 with hx | hx; have := lS x hx; omega; omega
    have n29a : ∀ ad, vaddr (.slice ra e.R.length rc) = some ad → ad.block ≠ b29 := fun ad had => by have := lr1 ad had; omega
    have n29b : ∀ ad, vaddr (.slice pa e.L.length pc) = some ad → ad.block ≠ b29 := fun ad had => by have := lr2 ad had; omega
    have SUB : ∀ x, Nx S w5 w6 x → S x ∨ w.heap.size ≤ x := fun x hx => hx.1.imp_right fun h => by omega
    refine den_norm (by simp only [List.cons_append, List.nil_append]; rfl) (den_leafA _ rfl fun wz hz => ?_)
    exact ⟨(Nx S w5 w6), m, (.slice ra e.R.length rc), (.slice pa e.L.length pc), Bl2, Pg, by simp [SV.den, denL, IE.den, BE.den, nth, vint, vbool, vaddr, addO, addr_add, refC, readE], ⟨EV6.kept hz.kept fun x hx hin => by have := nb29 x hx; simp [BlkIn, nth, blkOf, vaddr] at hin; omega, G1.kept hz.kept fun ad had hin => by have := n29a ad had; simp [BlkIn, nth, blkOf, vaddr] at hin; omega, G2.kept hz.kept fun ad had hin => by have := n29b ad had; simp [BlkIn, nth, blkOf, vaddr] at hin; omega, h.n1, h.n2, h.bok.read hBl, hw'⟩, SUB, .inl rfl, Fr.refl _ _, Fr.refl _ _⟩

  have hn3 : a.k ≠ 3 := hk3
  refine den_splitEq (fun hk => ?_) (fun hk4 => ?_)
  · have eS : stepE e a = cfgE e a.c := by unfold stepE; rw [if_neg hn0, if_neg hn1, if_neg hn2, if_neg hn3]; exact if_pos hk
    have hw' := hw.config ha.c
    rw [eS]
    refine den_callR (fun w1 l w2 => ∃ a' c', l = [.int .i64 e.lim, .int .u32 a.c, (.slice ra e.R.length rc), (.slice a' (cfgE e a.c).L.length c'), .bool (Bl 0), .bool (Bl 1), .bool (Bl 2), .bool (Bl 3), .bool (Bl 4), .bool (Bl 5), .bool (Bl 6), .bool (Bl 7), .int .u8 (Pg 0), .int .u8 (Pg 1), .int .u8 (Pg 2), .int .u8 (Pg 3), .int .u8 (Pg 4), .int .u8 (Pg 5), .int .u8 (Pg 6), .int .u8 (Pg 7)] ∧ Given ntcE w2 (.slice a' (cfgE e a.c).L.length c') (cfgE e a.c).L ∧ Fr w1 (.slice pa e.L.length pc) (.slice a' (cfgE e a.c).L.length c')) (fun w1 h1 => ?_) ?_
    · refine (c53 e.lim e.cfg (.slice ra e.R.length rc) (.slice pa e.L.length pc) e.L Bl Pg a.c ha.c w1 ⟨_, _, _, rfl⟩ (h.g2.same (shown_same h1)) (fun n hn => (hw.L n hn).1) (by omega)).mono fun v w' ⟨s1', q1, q2, q3⟩ => ?_
      obtain ⟨a', c', rfl⟩ := q2.1.slice
      exact ⟨[.int .i64 e.lim, .int .u32 a.c, (.slice ra e.R.length rc), (.slice a' (cfgE e a.c).L.length c'), .bool (Bl 0), .bool (Bl 1), .bool (Bl 2), .bool (Bl 3), .bool (Bl 4), .bool (Bl 5), .bool (Bl 6), .bool (Bl 7), .int .u8 (Pg 0), .int .u8 (Pg 1), .int .u8 (Pg 2), .int .u8 (Pg 3), .int .u8 (Pg 4), .int .u8 (Pg 5), .int .u8 (Pg 6), .int .u8 (Pg 7)], ⟨⟨_, rfl⟩, ⟨_, rfl⟩, ⟨_, _, _, rfl⟩, ⟨_, _, _, rfl⟩, ⟨_, rfl⟩, ⟨_, rfl⟩, ⟨_, rfl⟩, ⟨_, rfl⟩, ⟨_, rfl⟩, ⟨_, rfl⟩, ⟨_, rfl⟩, ⟨_, rfl⟩, ⟨_, rfl⟩, ⟨_, rfl⟩, ⟨_, rfl⟩, ⟨_, rfl⟩, ⟨_, rfl⟩, ⟨_, rfl⟩, ⟨_, rfl⟩, ⟨_, rfl⟩, trivial⟩, q1, a', c', rfl, q2, q3⟩
    rintro w1 l w2 h1 _ ⟨a', c', rfl, q2, q3⟩ k12
    refine den_norm (by simp only [List.cons_append, List.nil_append, refC]; rfl) (den_blk fun b51 k51 _ _ => den_norm (by simp only [List.cons_append, List.nil_append]; rfl) ?_)
    have l29 : b29 < w1.heap.size := h1.lt (i := 29) (by simp [keys]) rfl
    have l28 : b28 < w1.heap.size := h1.lt (i := 28) (by simp [keys]) rfl
    have l27 : b27 < w1.heap.size := h1.lt (i := 27) (by simp [keys]) rfl
    have z1 : w.heap.size ≤ w1.heap.size := h1.base.size
    have z12 : w1.heap.size ≤ w2.heap.size := k12.size
    have z51 : w2.heap.size ≤ b51 := k51
    intro w3 h3
    refine ⟨fun x => x = b ∨ x = m ∨ x = b27 ∨ x = b28 ∨ x = b29 ∨ x = b51, fun x hx => by simp [BlkIn, nth, blkOf, vaddr] at hx; omega, ?_⟩
    have s12 := (shown_same h1).trans k12
    have z3 : w2.heap.size ≤ w3.heap.size := h3.kept.size
    have l51 : b51 < w3.heap.size := h3.lt (i := 50) (by simp [keys]) rfl
    have EV3 := (h.ev.same s12).kept h3.kept fun x hx hin => by have := lS x hx; simp [BlkIn, nth, blkOf, vaddr] at hin; omega
    have qlt := q2.2.2.2
    have GN3 := q2.kept h3.kept fun ad had hin => by have := qlt ad had; simp [BlkIn, nth, blkOf, vaddr] at hin; omega
    have GO3 := (h.g1.same s12).kept h3.kept fun ad had hin => by have := lr1 ad had; simp [BlkIn, nth, blkOf, vaddr] at hin; omega
    have NN : In (fun x => x ≠ b ∧ x ≠ m) (.slice a' (cfgE e a.c).L.length c') := q3.in h.n2 (fun x hx => hx) fun x hx => by omega
    refine den_callM (fun _ x => x = b) (fun w4 l w5 => l = [.int .i64 0] ∧ EvS w5 (Nx S w4 w5) b m (cfgE e a.c)) (fun w4 h4 x hx hlt => ⟨fun _ => .inl hx, fun _ => .inl hx, fun hin => by simp [BlkIn, nth, blkOf, vaddr] at hin; omega, fun hx => by cases hx⟩) (fun w4 h4 => ?_) (fun w4 l w5 h4 hfl hR' hk5 => ?_)
    · exact (m18 (EV3.same (shown_same h4)) hw (by omega) a.c ha.c).mono (fun v w' ⟨p1, p2⟩ _ => ⟨[.int .i64 0], ⟨⟨_, rfl⟩, trivial⟩, p1, ⟨rfl, p2⟩, trivial⟩) fun _ _ h => h
    obtain ⟨rfl, EV5⟩ := hR'
    have z4 : w3.heap.size ≤ w4.heap.size := h4.kept.size
    have GN5 := (GN3.same (shown_same h4)).kept hk5 fun ad had hx => (NN ad had).1 hx
    have GO5 := (GO3.same (shown_same h4)).kept hk5 fun ad had hx => (h.n1 ad had).1 hx
    refine den_norm (by simp only [List.cons_append, List.nil_append]; rfl) ?_
    refine den_split_true rfl ?_
    have SM : Same w5 w5 := Kept.refl _ _
    have EV := EV5
    have G1 := GO5.same SM
    have G2 := GN5.same SM
    have N1 := h.n1
    have nb29 : ∀ x, Nx S w4 w5 x → x ≠ b29 := fun x hx => by rcases hx.1 with hx | hx; have := lS x hx; omega; omega
    have nnew : ∀ ad, vaddr (.slice a' (cfgE e a.c).L.length c') = some ad → ad.block ≠ b29 := fun ad had => by
      rcases q3 ad had with ⟨ad0, p1, p2⟩ | p
      · have := lr2 ad0 p1; omega
      · omega
    have nold : ∀ ad, vaddr (.slice ra e.R.length rc) = some ad → ad.block ≠ b29 := fun ad had => by have := lr1 ad had; omega
    have n29a : ∀ ad, vaddr (.slice ra e.R.length rc) = some ad → ad.block ≠ b29 := nold
    have n29b : ∀ ad, vaddr (.slice a' (cfgE e a.c).L.length c') = some ad → ad.block ≠ b29 := nnew
    have SUB : ∀ x, Nx S w4 w5 x → S x ∨ w.heap.size ≤ x := fun x hx => hx.1.imp_right fun h => by omega
    have BK : BOk (cfgE e a.c).B Bl Pg := h.bok
    have lenL : (cfgE e a.c).L.length ≤ 50000 := by have := step_L hw a; rw [eS] at this; omega
    refine den_call_bool (b := true) (fun wa ha2 => m29 (EV.same (shown_same ha2)) hw' lenL (.slice ra e.R.length rc) (.slice a' (cfgE e a.c).L.length c') Bl Pg (G1.same (shown_same ha2)) (G2.same (shown_same ha2))) rfl (fun wa wb ha2 hab => den_norm (by simp only [List.cons_append, List.nil_append]; rfl) (den_leafA _ rfl fun wz hz => ?_))
    have sab := (shown_same ha2).trans hab
    have kz := hz.kept
    exact ⟨(Nx S w4 w5), m, (.slice ra e.R.length rc), (.slice a' (cfgE e a.c).L.length c'), Bl, Pg, rfl, ⟨(EV.same sab).kept hz.kept fun x hx hin => by have := nb29 x hx; simp [BlkIn, nth, blkOf, vaddr] at hin; omega, (G1.same sab).kept hz.kept fun ad had hin => by have := n29a ad had; simp [BlkIn, nth, blkOf, vaddr] at hin; omega, (G2.same sab).kept hz.kept fun ad had hin => by have := n29b ad had; simp [BlkIn, nth, blkOf, vaddr] at hin; omega, N1, NN, BK, hw'⟩, SUB, .inl rfl, (Fr.refl _ _), (q3.le z1)⟩
  have hn4 : a.k ≠ 4 := hk4
  refine den_splitEq (fun hk => ?_) (fun hk5 => ?_)
  · have eS : stepE e a = abE e a.id := by unfold stepE; rw [if_neg hn0, if_neg hn1, if_neg hn2, if_neg hn3, if_neg hn4]; exact if_pos hk
    have hw' := hw.abort a.id
    rw [eS]
    refine den_callR (fun w1 l w2 => ∃ a' c', l = [.int .i64 e.lim, .int .u32 e.cfg, (.slice a' (abE e a.id).R.length c'), (.slice pa e.L.length pc), .bool (Bl 0), .bool (Bl 1), .bool (Bl 2), .bool (Bl 3), .bool (Bl 4), .bool (Bl 5), .bool (Bl 6), .bool (Bl 7), .int .u8 (Pg 0), .int .u8 (Pg 1), .int .u8 (Pg 2), .int .u8 (Pg 3), .int .u8 (Pg 4), .int .u8 (Pg 5), .int .u8 (Pg 6), .int .u8 (Pg 7), .int .i64 (abC e a.id)] ∧ Given hE w2 (.slice a' (abE e a.id).R.length c') (abE e a.id).R ∧ Fr w1 (.slice ra e.R.length rc) (.slice a' (abE e a.id).R.length c')) (fun w1 h1 => ?_) ?_
    · refine (c54 e (.slice ra e.R.length rc) (.slice pa e.L.length pc) Bl Pg a.id w1 (h.g1.same (shown_same h1)) ⟨_, _, _, rfl⟩ (by omega)).mono fun v w' ⟨s1', q1, q2, q3⟩ => ?_
      obtain ⟨a', c', rfl⟩ := q2.1.slice
      exact ⟨[.int .i64 e.lim, .int .u32 e.cfg, (.slice a' (abE e a.id).R.length c'), (.slice pa e.L.length pc), .bool (Bl 0), .bool (Bl 1), .bool (Bl 2), .bool (Bl 3), .bool (Bl 4), .bool (Bl 5), .bool (Bl 6), .bool (Bl 7), .int .u8 (Pg 0), .int .u8 (Pg 1), .int .u8 (Pg 2), .int .u8 (Pg 3), .int .u8 (Pg 4), .int .u8 (Pg 5), .int .u8 (Pg 6), .int .u8 (Pg 7), .int .i64 (abC e a.id)], ⟨⟨_, rfl⟩, ⟨_, rfl⟩, ⟨_, _, _, rfl⟩, ⟨_, _, _, rfl⟩, ⟨_, rfl⟩, ⟨_, rfl⟩, ⟨_, rfl⟩, ⟨_, rfl⟩, ⟨_, rfl⟩, ⟨_, rfl⟩, ⟨_, rfl⟩, ⟨_, rfl⟩, ⟨_, rfl⟩, ⟨_, rfl⟩, ⟨_, rfl⟩, ⟨_, rfl⟩, ⟨_, rfl⟩, ⟨_, rfl⟩, ⟨_, rfl⟩, ⟨_, rfl⟩, ⟨_, rfl⟩, trivial⟩, q1, a', c', rfl, q2, q3⟩
    rintro w1 l w2 h1 _ ⟨a', c', rfl, q2, q3⟩ k12
    refine den_norm (by simp only [List.cons_append, List.nil_append, refC]; rfl) (den_blk fun b51 k51 _ _ => den_norm (by simp only [List.cons_append, List.nil_append]; rfl) ?_)
    have l29 : b29 < w1.heap.size := h1.lt (i := 29) (by simp [keys]) rfl
    have l28 : b28 < w1.heap.size := h1.lt (i := 28) (by simp [keys]) rfl
    have l27 : b27 < w1.heap.size := h1.lt (i := 27) (by simp [keys]) rfl
    have z1 : w.heap.size ≤ w1.heap.size := h1.base.size
    have z12 : w1.heap.size ≤ w2.heap.size := k12.size
    have z51 : w2.heap.size ≤ b51 := k51
    intro w3 h3
    refine ⟨fun x => x = b ∨ x = m ∨ x = b27 ∨ x = b28 ∨ x = b29 ∨ x = b51, fun x hx => by simp [BlkIn, nth, blkOf, vaddr] at hx; omega, ?_⟩
    have s12 := (shown_same h1).trans k12
    have z3 : w2.heap.size ≤ w3.heap.size := h3.kept.size
    have l51 : b51 < w3.heap.size := h3.lt (i := 51) (by simp [keys]) rfl
    have EV3 := (h.ev.same s12).kept h3.kept fun x hx hin => by have := lS x hx; simp [BlkIn, nth, blkOf, vaddr] at hin; omega
    have qlt := q2.2.2.2
    have GN3 := q2.kept h3.kept fun ad had hin => by have := qlt ad had; simp [BlkIn, nth, blkOf, vaddr] at hin; omega
    have GO3 := (h.g2.same s12).kept h3.kept fun ad had hin => by have := lr2 ad had; simp [BlkIn, nth, blkOf, vaddr] at hin; omega
    have NN : In (fun x => x ≠ b ∧ x ≠ m) (.slice a' (abE e a.id).R.length c') := q3.in h.n1 (fun x hx => hx) fun x hx => by omega
    refine den_callM (fun _ x => x = b) (fun w4 l w5 => l = [.int .i64 (abC e a.id)] ∧ EvS w5 (Nx S w4 w5) b m (abE e a.id)) (fun w4 h4 x hx hlt => ⟨fun _ => .inl hx, fun _ => .inl hx, fun hin => by simp [BlkIn, nth, blkOf, vaddr] at hin; omega, fun hx => by cases hx⟩) (fun w4 h4 => ?_) (fun w4 l w5 h4 hfl hR' hk5 => ?_)
    · exact (m30 (EV3.same (shown_same h4)) hw a.id).mono (fun v w' ⟨p1, p2⟩ _ => ⟨[.int .i64 (abC e a.id)], ⟨⟨_, rfl⟩, trivial⟩, p1, ⟨rfl, p2⟩, trivial⟩) fun _ _ h => h
    obtain ⟨rfl, EV5⟩ := hR'
    have z4 : w3.heap.size ≤ w4.heap.size := h4.kept.size
    have GN5 := (GN3.same (shown_same h4)).kept hk5 fun ad had hx => (NN ad had).1 hx
    have GO5 := (GO3.same (shown_same h4)).kept hk5 fun ad had hx => (h.n2 ad had).1 hx
    refine den_norm (by simp only [List.cons_append, List.nil_append]; rfl) ?_
    refine den_split_true (by simp [BE.den, IE.den, nth, vint]) ?_
    have SM : Same w5 w5 := Kept.refl _ _
    have EV := EV5
    have G1 := GN5.same SM
    have G2 := GO5.same SM
    have N1 := NN
    have nb29 : ∀ x, Nx S w4 w5 x → x ≠ b29 := fun x hx => by rcases hx.1 with hx | hx; have := lS x hx; omega; omega
    have nnew : ∀ ad, vaddr (.slice a' (abE e a.id).R.length c') = some ad → ad.block ≠ b29 := fun ad had => by
      rcases q3 ad had with ⟨ad0, p1, p2⟩ | p
      · have := lr1 ad0 p1; omega
      · omega
    have nold : ∀ ad, vaddr (.slice pa e.L.length pc) = some ad → ad.block ≠ b29 := fun ad had => by have := lr2 ad had; omega
    have n29a : ∀ ad, vaddr (.slice a' (abE e a.id).R.length c') = some ad → ad.block ≠ b29 := nnew
    have n29b : ∀ ad, vaddr (.slice pa e.L.length pc) = some ad → ad.block ≠ b29 := nold
    have SUB : ∀ x, Nx S w4 w5 x → S x ∨ w.heap.size ≤ x := fun x hx => hx.1.imp_right fun h => by omega
    have BK : BOk (abE e a.id).B Bl Pg := h.bok
    have lenL : (abE e a.id).L.length ≤ 50000 := by show e.L.length ≤ 50000; omega
    refine den_call_bool (b := true) (fun wa ha2 => m29 (EV.same (shown_same ha2)) hw' lenL (.slice a' (abE e a.id).R.length c') (.slice pa e.L.length pc) Bl Pg (G1.same (shown_same ha2)) (G2.same (shown_same ha2))) rfl (fun wa wb ha2 hab => den_norm (by simp only [List.cons_append, List.nil_append]; rfl) (den_leafA _ rfl fun wz hz => ?_))
    have sab := (shown_same ha2).trans hab
    have kz := hz.kept
    exact ⟨(Nx S w4 w5), m, (.slice a' (abE e a.id).R.length c'), (.slice pa e.L.length pc), Bl, Pg, rfl, ⟨(EV.same sab).kept hz.kept fun x hx hin => by have := nb29 x hx; simp [BlkIn, nth, blkOf, vaddr] at hin; omega, (G1.same sab).kept hz.kept fun ad had hin => by have := n29a ad had; simp [BlkIn, nth, blkOf, vaddr] at hin; omega, (G2.same sab).kept hz.kept fun ad had hin => by have := n29b ad had; simp [BlkIn, nth, blkOf, vaddr] at hin; omega, N1, h.n2, BK, hw'⟩, SUB, .inl rfl, (q3.le z1), (Fr.refl _ _)⟩
  have hn5 : a.k ≠ 5 := hk5
  refine den_splitEq (fun hk => ?_) (fun hk6 => ?_)
  · have eS : stepE e a = resetE e := by unfold stepE; rw [if_neg hn0, if_neg hn1, if_neg hn2, if_neg hn3, if_neg hn4, if_neg hn5]; exact if_pos hk
    have hw' := hw.reset
    rw [eS]
    refine den_blk fun b51 k51 _ _ => den_norm (by simp only [List.cons_append, List.nil_append]; rfl) ?_
    have z51 : w.heap.size ≤ b51 := k51
    intro w1 h1
    have l29 : b29 < w1.heap.size := h1.lt (i := 29) (by simp [keys]) rfl
    have l28 : b28 < w1.heap.size := h1.lt (i := 28) (by simp [keys]) rfl
    have l27 : b27 < w1.heap.size := h1.lt (i := 27) (by simp [keys]) rfl
    have z1 : w.heap.size ≤ w1.heap.size := h1.base.size
    have l51 : b51 < w1.heap.size := h1.lt (i := 30) (by simp [keys]) rfl
    refine ⟨fun x => x = b ∨ x = b27 ∨ x = b28 ∨ x = b29 ∨ x = b51, fun x hx => by simp [BlkIn, nth, blkOf, vaddr] at hx; omega, ?_⟩
    have EV1 := h.ev.kept h1.kept fun x hx hin => by have := lS x hx; simp [BlkIn, nth, blkOf, vaddr] at hin; omega
    refine den_callM (fun _ x => x = b) (fun w5 l w6 => l = [.int .i64 0] ∧ ∃ m', (m' = m ∨ w5.heap.size ≤ m') ∧ EvS w6 (Nx S w5 w6) b m' (resetE e)) (fun w5 h5 x hx hlt => ⟨fun _ => .inl hx, fun _ => .inl hx, fun hin => by simp [BlkIn, nth, blkOf, vaddr] at hin; omega, fun hx => by cases hx⟩) (fun w5 h5 => ?_) (fun w5 l w6 h5 hfl hR' hk6 => ?_)
    · exact (m27 (EV1.same (shown_same h5)) hw).mono (fun v w' ⟨p1, p2⟩ _ => ⟨[.int .i64 0], ⟨⟨_, rfl⟩, trivial⟩, p1, ⟨rfl, p2⟩, trivial⟩) fun _ _ h => h
    obtain ⟨rfl, m', MQ0, EV⟩ := hR'
    have z5 : w1.heap.size ≤ w5.heap.size := h5.kept.size
    have MQ : m' = m ∨ w.heap.size ≤ m' := MQ0.imp_right fun h => by omega
    have G1 : Given hE w6 (.slice none 0 0) (resetE e).R := given_nil
    have G2 : Given ntcE w6 (.slice none 0 0) (resetE e).L := given_nil
    have N1 : In (fun x => x ≠ b ∧ x ≠ m') (.slice none 0 0) := fun ad had => by cases had
    have nb29 : ∀ x, Nx S w5 w6 x → x ≠ b29 := fun x hx => by rcases hx.1 with hx | hx; have := lS x hx; omega; omega
    have n29a : ∀ ad, vaddr (.slice none 0 0) = some ad → ad.block ≠ b29 := fun ad had => by cases had
    have n29b := n29a
    have SUB : ∀ x, Nx S w5 w6 x → S x ∨ w.heap.size ≤ x := fun x hx => hx.1.imp_right fun h => by omega
    have BK : BOk (resetE e).B (fun _ => false) (fun _ => 0) := bok_reset
    refine den_norm (by simp only [List.cons_append, List.nil_append]; rfl) (den_split_true rfl ?_)
    have lenL : (resetE e).L.length ≤ 50000 := by exact Nat.zero_le _
    refine den_call_bool (b := true) (fun wa ha2 => m29 (EV.same (shown_same ha2)) hw' lenL (.slice none 0 0) (.slice none 0 0) (fun _ => false) (fun _ => 0) (G1.same (shown_same ha2)) (G2.same (shown_same ha2))) rfl (fun wa wb ha2 hab => den_norm (by simp only [List.cons_append, List.nil_append]; rfl) (den_leafA _ rfl fun wz hz => ?_))
    have sab := (shown_same ha2).trans hab
    have kz := hz.kept
    exact ⟨(Nx S w5 w6), m', (.slice none 0 0), (.slice none 0 0), (fun _ => false), (fun _ => 0), rfl, ⟨(EV.same sab).kept hz.kept fun x hx hin => by have := nb29 x hx; simp [BlkIn, nth, blkOf, vaddr] at hin; omega, (G1.same sab).kept hz.kept fun ad had hin => by have := n29a ad had; simp [BlkIn, nth, blkOf, vaddr] at hin; omega, (G2.same sab).kept hz.kept fun ad had hin => by have := n29b ad had; simp [BlkIn, nth, blkOf, vaddr] at hin; omega, N1, N1, BK, hw'⟩, SUB, MQ, (fun ad had => by cases had), (fun ad had => by cases had)⟩
  have hn6 : a.k ≠ 6 := hk6
  have eS : stepE e a = e := by unfold stepE; rw [if_neg hn0, if_neg hn1, if_neg hn2, if_neg hn3, if_neg hn4, if_neg hn5, if_neg hn6]
  rw [eS]
  refine den_leafA _ rfl fun wz hz => ⟨S, m, (.slice ra e.R.length rc), (.slice pa e.L.length pc), Bl, Pg, rfl, ⟨h.ev.kept hz.kept fun x hx hin => by have := lS x hx; simp [BlkIn, nth, blkOf, vaddr] at hin; omega, h.g1.kept hz.kept fun ad had hin => by have := lr1 ad had; simp [BlkIn, nth, blkOf, vaddr] at hin; omega, h.g2.kept hz.kept fun ad had hin => by have := lr2 ad had; simp [BlkIn, nth, blkOf, vaddr] at hin; omega, h.n1, h.n2, h.bok, hw⟩, fun x hx => .inl hx, .inl rfl, Fr.refl _ _, Fr.refl _ _⟩
end Go.Proofs.Ytfjlnfgbfclgbaa
