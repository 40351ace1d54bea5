/- The law EventCopies. No conditions beyond those that each theorem names. -/
import Derived.Test.YtfjlnfgbfclgbaaW
import Derived.Test.YtfjlnfgbfclgbaaTK
set_option maxRecDepth 100000
set_option maxHeartbeats 4000000
set_option linter.unusedVariables false
set_option linter.unusedSimpArgs false
namespace Go.Proofs.Ytfjlnfgbfclgbaa
open Go.Sx

/-- two objects side by side, none of whose blocks is the other's -/
structure Two (w : World) (lo : Nat) (P : Nat → Prop) (b b' m1 m2 : Nat) (S1 S2 : Nat → Prop) (e1 e2 : Ev) (r1 r2 q1 q2 : Value) (Bl1 : Nat → Bool) (Pg1 : Nat → Int) (Bl2 : Nat → Bool) (Pg2 : Nat → Int) : Prop where
  a : Sim w S1 b m1 e1 r1 r2 Bl1 Pg1
  c : Sim w S2 b' m2 e2 q1 q2 Bl2 Pg2
  dj : ∀ x, S1 x → ¬ S2 x
  x1 : In (fun x => x ≠ b' ∧ x ≠ m2) r1
  x2 : In (fun x => x ≠ b' ∧ x ≠ m2) r2
  y1 : In (fun x => x ≠ b ∧ x ≠ m1) q1
  y2 : In (fun x => x ≠ b ∧ x ≠ m1) q2
  l1 : ∀ x, S1 x → lo ≤ x ∧ ¬ P x
  l2 : ∀ x, S2 x → lo ≤ x ∧ ¬ P x
  p1 : In (fun x => ¬ P x) r1
  p2 : In (fun x => ¬ P x) r2
  p3 : In (fun x => ¬ P x) q1
  p4 : In (fun x => ¬ P x) q2
section
variable {w : World} {lo : Nat} {P : Nat → Prop} {b b' m1 m2 : Nat} {S1 S2 : Nat → Prop} {e1 e2 : Ev} {r1 r2 q1 q2 : Value} {Bl1 : Nat → Bool} {Pg1 : Nat → Int} {Bl2 : Nat → Bool} {Pg2 : Nat → Int}
theorem Two.symm (h : Two w lo P b b' m1 m2 S1 S2 e1 e2 r1 r2 q1 q2 Bl1 Pg1 Bl2 Pg2) : Two w lo P b' b m2 m1 S2 S1 e2 e1 q1 q2 r1 r2 Bl2 Pg2 Bl1 Pg1 :=
  ⟨h.c, h.a, fun x h2 h1 => h.dj x h1 h2, h.y1, h.y2, h.x1, h.x2, h.l2, h.l1, h.p3, h.p4, h.p1, h.p2⟩
theorem Two.kept {w' : World} {M : Nat → Prop} (h : Two w lo P b b' m1 m2 S1 S2 e1 e2 r1 r2 q1 q2 Bl1 Pg1 Bl2 Pg2) (hk : Kept M w w') (hM : ∀ x, M x → x < w.heap.size → P x) : Two w' lo P b b' m1 m2 S1 S2 e1 e2 r1 r2 q1 q2 Bl1 Pg1 Bl2 Pg2 :=
  ⟨h.a.kept hk (fun x hx hm => (h.l1 x hx).2 (hM x hm (h.a.ev.slt x hx))) (fun ad had hm => h.p1 ad had (hM _ hm (h.a.g1.2.2.2 ad had))) (fun ad had hm => h.p2 ad had (hM _ hm (h.a.g2.2.2.2 ad had))),
   h.c.kept hk (fun x hx hm => (h.l2 x hx).2 (hM x hm (h.c.ev.slt x hx))) (fun ad had hm => h.p3 ad had (hM _ hm (h.c.g1.2.2.2 ad had))) (fun ad had hm => h.p4 ad had (hM _ hm (h.c.g2.2.2.2 ad had))),
   h.dj, h.x1, h.x2, h.y1, h.y2, h.l1, h.l2, h.p1, h.p2, h.p3, h.p4⟩
theorem Two.same {w' : World} (h : Two w lo P b b' m1 m2 S1 S2 e1 e2 r1 r2 q1 q2 Bl1 Pg1 Bl2 Pg2) (hk : Same w w') : Two w' lo P b b' m1 m2 S1 S2 e1 e2 r1 r2 q1 q2 Bl1 Pg1 Bl2 Pg2 := h.kept hk fun _ h => h.elim
/-- a call of the first of them -/
theorem Two.step {w' : World} {S' : Nat → Prop} {m' : Nat} {e' : Ev} {r1' r2' : Value} {Bl' : Nat → Bool} {Pg' : Nat → Int} (h : Two w lo P b b' m1 m2 S1 S2 e1 e2 r1 r2 q1 q2 Bl1 Pg1 Bl2 Pg2) (hk : Kept (fun x => x = b ∨ x = m1) w w') (hR : Sim w' S' b m' e' r1' r2' Bl' Pg') (hsub : ∀ x, S' x → S1 x ∨ w.heap.size ≤ x)
    (hm : m' = m1 ∨ w.heap.size ≤ m') (f1 : Fr w r1 r1') (f2 : Fr w r2 r2') (hP : ∀ x, P x → x < w.heap.size) (hlo : lo ≤ w.heap.size) : Two w' lo P b b' m' m2 S' S2 e' e2 r1' r2' q1 q2 Bl' Pg' Bl2 Pg2 := by
  have lb' := h.c.ev.slt b' h.c.ev.sb
  have lm2 := h.c.ev.slt m2 h.c.ev.sm
  refine ⟨hR, h.c.kept hk (fun x hx hm => ?_) (fun ad had hm => ?_) (fun ad had hm => ?_), fun x hx h2 => ?_, f1.in h.x1 (fun x hx => hx) fun x hx => by omega, f2.in h.x2 (fun x hx => hx) fun x hx => by omega, fun ad had => ?_, fun ad had => ?_, fun x hx => ?_, h.l2, f1.in h.p1 (fun x hx => hx) fun x hx hp => by have := hP x hp; omega, f2.in h.p2 (fun x hx => hx) fun x hx hp => by have := hP x hp; omega, h.p3, h.p4⟩
  · rcases hm with rfl | rfl
    · exact h.dj _ h.a.ev.sb hx
    · exact h.dj _ h.a.ev.sm hx
  · have := h.y1 ad had
    omega
  · have := h.y2 ad had
    omega
  · rcases hsub x hx with h1 | h1
    · exact h.dj x h1 h2
    · have := h.c.ev.slt x h2
      omega
  · have q := h.y1 ad had
    have := h.c.g1.2.2.2 ad had
    refine ⟨q.1, ?_⟩
    rcases hm with rfl | hm
    · exact q.2
    · omega
  · have q := h.y2 ad had
    have := h.c.g2.2.2.2 ad had
    refine ⟨q.1, ?_⟩
    rcases hm with rfl | hm
    · exact q.2
    · omega
  · rcases hsub x hx with h1 | h1
    · exact h.l1 x h1
    · exact ⟨by omega, fun hp => by have := hP x hp; omega⟩
end
/-- what one call of do does, its values written out -/
theorem m26 {w : World} {S : Nat → Prop} {b m : Nat} {e : Ev} {r1 r2 : Value} {Bl : Nat → Bool} {Pg : Nat → Int} (x : Cl) (hx : x.Ok) (h : Sim w S b m e r1 r2 Bl Pg) (hL : e.L.length ≤ 40000) :
    Runs Try.prog 26 [pt b, refV e.lim e.cfg r1 r2 Bl Pg, x.v] w (fun y => y = b ∨ y = m) (fun v w' => ∃ S' m' a1 c1 a2 c2 Bl' Pg', v = .tuple #[refV (stepE e x).lim (stepE e x).cfg (.slice a1 (stepE e x).R.length c1) (.slice a2 (stepE e x).L.length c2) Bl' Pg', .bool true] ∧ Sim w' S' b m' (stepE e x) (.slice a1 (stepE e x).R.length c1) (.slice a2 (stepE e x).L.length c2) Bl' Pg' ∧
      (∀ y, S' y → S y ∨ w.heap.size ≤ y) ∧ (m' = m ∨ w.heap.size ≤ m') ∧ Fr w r1 (.slice a1 (stepE e x).R.length c1) ∧ Fr w r2 (.slice a2 (stepE e x).L.length c2)) := by
  refine (c26 w S b m e r1 r2 Bl Pg x hx h hL).mono (fun v w' ⟨S', m', r1', r2', Bl', Pg', q1, q2, q3, q4, q5, q6⟩ _ => ?_) fun _ _ h => h
  obtain ⟨a1, c1, rfl⟩ := q2.g1.1.slice
  obtain ⟨a2, c2, rfl⟩ := q2.g2.1.slice
  exact ⟨S', m', a1, c1, a2, c2, Bl', Pg', q1, q2, q3, q4, q5, q6⟩

theorem c8 (lim : Int) (A C O : List Cl) (sA sC sO : Value) (w : World) (hA : Given clE w sA A) (hC : Given clE w sC C) (hO : Given clE w sO O) (okA : ∀ a ∈ A, a.Ok) (okC : ∀ a ∈ C, a.Ok) (okO : ∀ a ∈ O, a.Ok) : Gives Try.prog 8 [.int .i64 lim, sA, sC, sO] w (.bool true) := by
  obtain ⟨aA, cA, rfl⟩ := hA.1.slice
  obtain ⟨aC, cC, rfl⟩ := hC.1.slice
  obtain ⟨aO, cO, rfl⟩ := hO.1.slice
  have blkA := hA.2.2.2
  have blkC := hC.2.2.2
  have blkO := hO.2.2.2
  refine gives mix t8 rfl rfl (ε := [.int .i64 lim, .slice aA A.length cA, .slice aC C.length cC, .slice aO O.length cO]) ⟨⟨_, rfl⟩, ⟨_, _, _, rfl⟩, ⟨_, _, _, rfl⟩, ⟨_, _, _, rfl⟩, trivial⟩ ?_
  refine den_callR (fun w1 l w2 => ((lim < 1 ∨ 16 < lim) ∧ l = [.pointer none, .int .i64 2]) ∨ ((1 ≤ lim ∧ lim ≤ 16) ∧ ∃ b m, l = [pt b, .int .i64 0] ∧ EvAt w2 b m (.slice none 0 0) (.slice none 0 0) ⟨lim, 0, [], [], fun _ => none⟩ ∧ w1.heap.size ≤ b ∧ w1.heap.size ≤ m)) (fun w1 h1 => ?_) ?_
  · refine (c17 lim w1).mono fun v w' hv => ?_
    rcases hv with ⟨hl, rfl⟩ | ⟨hl, b, m, rfl, E, q1, q2⟩
    · exact ⟨[.pointer none, .int .i64 2], ⟨⟨_, rfl⟩, ⟨_, rfl⟩, trivial⟩, rfl, .inl ⟨hl, rfl⟩⟩
    · exact ⟨[pt b, .int .i64 0], ⟨⟨_, rfl⟩, ⟨_, rfl⟩, trivial⟩, rfl, .inr ⟨hl, b, m, rfl, E, q1, q2⟩⟩
  rintro w1 l w2 h1 _ (⟨hl, rfl⟩ | ⟨hl, b, m, rfl, E0, hb1, hm1⟩) k12
  · exact den_norm (by simp only [List.cons_append, List.nil_append]; rfl) (den_split_true rfl (den_call_bool (b := true) (fun wa _ => c16 wa) rfl (fun _ _ _ _ => den_norm (by simp only [List.cons_append, List.nil_append]; rfl) (den_leaf rfl))))
  refine den_norm (by simp only [List.cons_append, List.nil_append]; rfl) (den_split_false rfl (den_splitLt (fun h => ?_) (fun hA60 => den_splitLt (fun h => ?_) (fun hC60 => den_splitLt (fun h => ?_) (fun hO60 => ?_)))))
  · exact den_call_bool (b := true) (fun wa _ => c16 wa) rfl (fun _ _ _ _ => den_norm (by simp only [List.cons_append, List.nil_append]; rfl) (den_leaf rfl))
  · exact den_call_bool (b := true) (fun wa _ => c16 wa) rfl (fun _ _ _ _ => den_norm (by simp only [List.cons_append, List.nil_append]; rfl) (den_leaf rfl))
  · exact den_call_bool (b := true) (fun wa _ => c16 wa) rfl (fun _ _ _ _ => den_norm (by simp only [List.cons_append, List.nil_append]; rfl) (den_leaf rfl))
  have lenA : A.length ≤ 60 := by
    have : (A.length : Int) ≤ 60 := hA60
    omega
  have lenC : C.length ≤ 60 := by
    have : (C.length : Int) ≤ 60 := hC60
    omega
  have lenO : O.length ≤ 60 := by
    have : (O.length : Int) ≤ 60 := hO60
    omega
  refine den_blk fun b6 k6 k6' _ => den_norm (by simp only [List.cons_append, List.nil_append]; rfl) ?_
  have z6 : w2.heap.size ≤ b6 := k6'
  have z1 : w.heap.size ≤ w1.heap.size := h1.base.size
  have z12 : w1.heap.size ≤ w2.heap.size := k12.size
  have lb := E0.lt
  have lm := E0.map.lt
  refine den_cut (fun ls w' => ∃ (S : Nat → Prop) (m : Nat) (e : Ev) (r1 r2 : Value) (Bl : Nat → Bool) (Pg : Nat → Int), ls = .bool true :: refC e.lim e.cfg r1 r2 Bl Pg ∧ Sim w' S b m e r1 r2 Bl Pg ∧ (∀ x, S x → w.heap.size ≤ x ∧ ¬ (x = b6)) ∧ In (fun x => ¬ (x = b6)) r1 ∧ In (fun x => ¬ (x = b6)) r2 ∧ e.L.length ≤ 60) ?_ ?_
  · refine den_loop (fun ls w' => ∃ (j : Nat) (S : Nat → Prop) (m : Nat) (e : Ev) (r1 r2 : Value) (Bl : Nat → Bool) (Pg : Nat → Int), j ≤ A.length ∧ ls = .bool true :: .int .i64 (j : Int) :: refC e.lim e.cfg r1 r2 Bl Pg ∧ Sim w' S b m e r1 r2 Bl Pg ∧ (∀ x, S x → w.heap.size ≤ x ∧ ¬ (x = b6)) ∧ In (fun x => ¬ (x = b6)) r1 ∧ In (fun x => ¬ (x = b6)) r2 ∧ e.L.length ≤ j) (fun ls _ => A.length - (vint (nth ls 1)).toNat) (fun w3 h3 => ?_) ?_
    · refine ⟨0, fun x => x = b ∨ x = m, m, ⟨lim, 0, [], [], fun _ => none⟩, .slice none 0 0, .slice none 0 0, fun _ => false, fun _ => 0, Nat.zero_le _, rfl, ⟨⟨⟨_, _, E0.same (shown_new h3 fun x hx => by simp [BlkIn, nth, blkOf, vaddr] at hx; omega), (fun ad had => by cases had), (fun ad had => by cases had)⟩, .inl rfl, .inr rfl, fun x hx => ?_⟩, given_nil, given_nil, (fun ad had => by cases had), (fun ad had => by cases had), bok_reset, wf_new hl⟩, fun x hx => ?_, (fun ad had => by cases had), (fun ad had => by cases had), Nat.zero_le _⟩
      · have : w2.heap.size ≤ w3.heap.size := h3.kept.size
        rcases hx with rfl | rfl <;> omega
      · rcases hx with rfl | rfl <;> omega
    rintro w3 l w4 h3 hfl ⟨j, S, m, e, r1, r2, Bl, Pg, hj, rfl, hS, hSl, n1, n2, hLj⟩ hk4 hfa4
    obtain ⟨ra, rc, rfl⟩ := hS.g1.1.slice
    obtain ⟨pa, pc, rfl⟩ := hS.g2.1.slice
    have hb := hSl b hS.ev.sb
    have hmm := hSl m hS.ev.sm
    have hA4 := hA.same hk4
    have lb6 : b6 < w4.heap.size := by
      obtain ⟨x1, q1, l1⟩ := hfa4.1.lt
      cases q1
      exact l1
    refine den_norm (by simp only [List.cons_append, List.nil_append, refC]; rfl) (den_splitLt (fun hlt => den_split_true rfl ?_) (fun hge => ?_))
    rotate_left
    · exact den_leaf' fun w8 h8 => (if_neg (by decide)).mpr ((if_pos rfl).mpr ⟨S, m, e, _, _, Bl, Pg, rfl, hS.same (shown_same h8), hSl, n1, n2, by omega⟩)
    have hlt' : j < A.length := by simpa [IE.den, nth, vint, vlen] using hlt
    have hx : A[j]? = some (A[j]'hlt') := by simp
    generalize A[j]'hlt' = x at hx
    have hxo := okA x (List.mem_of_getElem? hx)
    intro w5 h5
    refine ⟨fun y => y = b ∨ y = m ∨ y = b6, fun y hy => by simp [BlkIn, nth, blkOf, vaddr] at hy; omega, ?_⟩
    have s5 := shown_same h5
    refine den_idxD (E := clE) (L := A) x j x.cells rfl (by decide) rfl hx ⟨⟨_, rfl⟩, ⟨_, rfl⟩, ⟨_, rfl⟩, ⟨_, rfl⟩, ⟨_, rfl⟩, ⟨_, rfl⟩, trivial⟩ (whole _) (hA4.same s5).1 (fun ad had hin => by have := blkA ad had; omega) (den_norm (by simp only [List.cons_append, List.nil_append, Cl.cells]; rfl) ?_)
    refine den_callM (fun _ y => y = b ∨ y = m) (fun w6 l w7 => ∃ (S' : Nat → Prop) (m' : Nat) (a1 : Option Addr) (c1 : Nat) (a2 : Option Addr) (c2 : Nat) (Bl' : Nat → Bool) (Pg' : Nat → Int), l = [.int .i64 (stepE e x).lim, .int .u32 (stepE e x).cfg, (.slice a1 (stepE e x).R.length c1), (.slice a2 (stepE e x).L.length c2), .bool (Bl' 0), .bool (Bl' 1), .bool (Bl' 2), .bool (Bl' 3), .bool (Bl' 4), .bool (Bl' 5), .bool (Bl' 6), .bool (Bl' 7), .int .u8 (Pg' 0), .int .u8 (Pg' 1), .int .u8 (Pg' 2), .int .u8 (Pg' 3), .int .u8 (Pg' 4), .int .u8 (Pg' 5), .int .u8 (Pg' 6), .int .u8 (Pg' 7), .bool true] ∧ Sim w7 S' b m' (stepE e x) (.slice a1 (stepE e x).R.length c1) (.slice a2 (stepE e x).L.length c2) Bl' Pg' ∧ (∀ y, S' y → S y ∨ w6.heap.size ≤ y) ∧ Fr w6 (.slice ra e.R.length rc) (.slice a1 (stepE e x).R.length c1) ∧ Fr w6 (.slice pa e.L.length pc) (.slice a2 (stepE e x).L.length c2)) (fun w6 h6 y hy hlt => ⟨fun _ => by omega, fun hl => absurd (show y < w.heap.size from hl) (by omega), fun hin => by simp [BlkIn, nth, blkOf, vaddr] at hin; omega, fun hx => by cases hx⟩) (fun w6 h6 => ?_) ?_
    · refine (m26 x hxo ((hS.same s5).same (shown_same h6)) (by omega)).mono (fun v w' ⟨S', m', a1, c1, a2, c2, Bl', Pg', q1, q2, q3, q4, q5, q6⟩ _ => ?_) fun _ _ h => h
      exact ⟨[.int .i64 (stepE e x).lim, .int .u32 (stepE e x).cfg, (.slice a1 (stepE e x).R.length c1), (.slice a2 (stepE e x).L.length c2), .bool (Bl' 0), .bool (Bl' 1), .bool (Bl' 2), .bool (Bl' 3), .bool (Bl' 4), .bool (Bl' 5), .bool (Bl' 6), .bool (Bl' 7), .int .u8 (Pg' 0), .int .u8 (Pg' 1), .int .u8 (Pg' 2), .int .u8 (Pg' 3), .int .u8 (Pg' 4), .int .u8 (Pg' 5), .int .u8 (Pg' 6), .int .u8 (Pg' 7), .bool true], ⟨⟨_, rfl⟩, ⟨_, rfl⟩, ⟨_, _, _, rfl⟩, ⟨_, _, _, rfl⟩, ⟨_, rfl⟩, ⟨_, rfl⟩, ⟨_, rfl⟩, ⟨_, rfl⟩, ⟨_, rfl⟩, ⟨_, rfl⟩, ⟨_, rfl⟩, ⟨_, rfl⟩, ⟨_, rfl⟩, ⟨_, rfl⟩, ⟨_, rfl⟩, ⟨_, rfl⟩, ⟨_, rfl⟩, ⟨_, rfl⟩, ⟨_, rfl⟩, ⟨_, rfl⟩, ⟨_, rfl⟩, trivial⟩, q1, ⟨S', m', a1, c1, a2, c2, Bl', Pg', rfl, q2, q3, q5, q6⟩, trivial⟩
    rintro w6 l w7 h6 _ ⟨S', m', a1, c1, a2, c2, Bl', Pg', rfl, hS7, hsub, f1, f2⟩ k67
    have l46 : b6 < w6.heap.size := h6.lt (i := 6) (by simp [keys]) rfl
    have z46 : w4.heap.size ≤ w6.heap.size := Nat.le_trans h5.kept.size h6.kept.size
    have zw6 : w.heap.size ≤ w6.heap.size := Nat.le_trans hk4.size z46
    have nS : ∀ y, S' y → w.heap.size ≤ y ∧ ¬ (y = b6) := fun y hy => by
      rcases hsub y hy with h | h
      · exact hSl y h
      · omega
    have nr1 : In (fun y => ¬ (y = b6)) (.slice a1 (stepE e x).R.length c1) := f1.in n1 (fun y hy => hy) fun y hy => by omega
    have nr2 : In (fun y => ¬ (y = b6)) (.slice a2 (stepE e x).L.length c2) := f2.in n2 (fun y hy => hy) fun y hy => by omega
    have hLs := step_L hS.wf x
    refine den_norm (by simp only [List.cons_append, List.nil_append]; rfl) (den_ob64 (by simp only [IE.den, nth, vint]; omega) (den_leaf' fun w8 h8 => (if_pos rfl).mpr ⟨⟨j + 1, S', m', stepE e x, _, _, Bl', Pg', by omega, rfl, hS7.kept h8.kept (fun y hy hin => by have := nS y hy; simp [BlkIn, nth, blkOf, vaddr] at hin; omega) (fun ad had hin => by have := nr1 ad had; simp [BlkIn, nth, blkOf, vaddr] at hin; omega) (fun ad had hin => by have := nr2 ad had; simp [BlkIn, nth, blkOf, vaddr] at hin; omega), nS, nr1, nr2, by omega⟩, ?_⟩))
    simp only [denL, SV.den, IE.den, nth, vint]; omega
  rintro l w4 hf4 ⟨S, m, e, r1, r2, Bl, Pg, rfl, hS, hSl, n1, n2, hLe⟩ hk4 hfa4
  obtain ⟨ra, rc, rfl⟩ := hS.g1.1.slice
  obtain ⟨pa, pc, rfl⟩ := hS.g2.1.slice
  have hb := hSl b hS.ev.sb
  have hmm := hSl m hS.ev.sm
  have zw4 : w.heap.size ≤ w4.heap.size := hk4.size
  have lb6 : b6 < w4.heap.size := by
    obtain ⟨x1, q1, l1⟩ := hfa4.1.lt
    cases q1
    exact l1
  refine den_norm (by simp only [List.cons_append, List.nil_append, refC]; rfl) (den_start1 fun w5 h5 => ?_)
  have hS5 := hS.same (shown_same h5)
  have z45 : w4.heap.size ≤ w5.heap.size := h5.kept.size
  refine den_both ?_ ?_
  · refine den_callR (fun w6 l w7 => ∃ b' m', l = [pt b'] ∧ EvS w7 (fun x => w6.heap.size ≤ x ∧ x < w7.heap.size) b' m' e) (fun w6 h6 => ?_) ?_
    · obtain ⟨s1, s2, E, _, _⟩ := (hS5.same (shown_same h6)).ev.ex
      refine (c28 b m s1 s2 e w6 E hS.wf.ne (by have := hS.wf.len; omega) (by omega)).mono fun v w' ⟨b', m', s1', s2', q1, q2, q3, q4, q5, q6⟩ => ?_
      exact ⟨[pt b'], ⟨⟨_, rfl⟩, trivial⟩, q1, b', m', rfl, ⟨⟨s1', s2', q2, fun ad had => ⟨q5 ad had, q2.r.2.2.2 ad had⟩, fun ad had => ⟨q6 ad had, q2.l.2.2.2 ad had⟩⟩, ⟨q3, q2.lt⟩, ⟨q4, q2.map.lt⟩, fun x hx => hx.2⟩⟩
    rintro w6 l w7 h6 _ ⟨b', m', rfl, EN⟩ k67
    have z56 : w5.heap.size ≤ w6.heap.size := h6.kept.size
    have z67 : w6.heap.size ≤ w7.heap.size := k67.size
    have hS7 := (hS5.same (shown_same h6)).same k67
    refine den_norm (by simp only [List.cons_append, List.nil_append]; rfl) (den_blk fun bn kn kn' _ => den_norm (by simp only [List.cons_append, List.nil_append]; rfl) ?_)
    have zn : w7.heap.size ≤ bn := kn
    have l66 : b6 < w6.heap.size := h6.lt (i := 6) (by simp [keys]) rfl
    have lr1 := hS5.g1.2.2.2
    have lr2 := hS5.g2.2.2.2
    have lS := hS5.ev.slt
    have T7 : Two w7 w.heap.size (fun x => x = b6 ∨ x = bn) b b' m m' S (fun x => w6.heap.size ≤ x ∧ x < w7.heap.size) e e (.slice ra e.R.length rc) (.slice pa e.L.length pc) (.slice ra e.R.length rc) (.slice pa e.L.length pc) Bl Pg Bl Pg :=
      have e1 := EN.sb
      have e2 := EN.sm
      have x1 : In (fun x => x ≠ b' ∧ x ≠ m') (.slice ra e.R.length rc) := fun ad had => by have := lr1 ad had; omega
      have x2 : In (fun x => x ≠ b' ∧ x ≠ m') (.slice pa e.L.length pc) := fun ad had => by have := lr2 ad had; omega
      have p1 : In (fun x => ¬ (x = b6 ∨ x = bn)) (.slice ra e.R.length rc) := fun ad had => by have := lr1 ad had; have := n1 ad had; omega
      have p2 : In (fun x => ¬ (x = b6 ∨ x = bn)) (.slice pa e.L.length pc) := fun ad had => by have := lr2 ad had; have := n2 ad had; omega
      ⟨hS7, ⟨EN, hS7.g1, hS7.g2, x1, x2, hS7.bok, hS7.wf⟩, fun x h1 h2 => by have := lS x h1; omega, x1, x2, hS7.n1, hS7.n2, fun x hx => by have := hSl x hx; have := lS x hx; omega, fun x hx => by omega, p1, p2, p1, p2⟩
    refine den_split_false rfl (den_split_false rfl ?_)
    refine den_call_bool (b := true) (fun w8 h8 => ?_) rfl (fun w8 w9 h8 h89 => den_norm (by simp only [List.cons_append, List.nil_append]; rfl) (den_split_false rfl ?_))
    · have := (T7.kept h8.kept fun x hx _ => by simp [BlkIn, nth, blkOf, vaddr] at hx; omega).c
      exact m29 this.ev this.wf (by omega) _ _ Bl Pg this.g1 this.g2
    have T9 := (T7.kept h8.kept fun x hx _ => by simp [BlkIn, nth, blkOf, vaddr] at hx; omega).same h89
    have lbn : bn < w8.heap.size := h8.lt (i := 29) (by simp [keys]) rfl
    have z78 : w7.heap.size ≤ w8.heap.size := h8.kept.size
    refine den_loop (fun ls w' => ∃ (i : Nat) (m1 m2 : Nat) (S1 S2 : Nat → Prop) (e1 e2 : Ev) (r1 r2 q1 q2 : Value) (Bl1 : Nat → Bool) (Pg1 : Nat → Int) (Bl2 : Nat → Bool) (Pg2 : Nat → Int), i ≤ max C.length O.length ∧ ls = .bool true :: .int .i64 (i : Int) :: (refC e1.lim e1.cfg r1 r2 Bl1 Pg1 ++ refC e2.lim e2.cfg q1 q2 Bl2 Pg2) ∧ Two w' w.heap.size (fun x => x = b6 ∨ x = bn) b b' m1 m2 S1 S2 e1 e2 r1 r2 q1 q2 Bl1 Pg1 Bl2 Pg2 ∧ e1.L.length ≤ 60 + i ∧ e2.L.length ≤ 60 + i)
      (fun ls _ => max C.length O.length - (vint (nth ls 1)).toNat) (fun wa ha => ⟨0, m, m', S, _, e, e, _, _, _, _, Bl, Pg, Bl, Pg, Nat.zero_le _, rfl, T9.same (shown_same ha), by omega, by omega⟩) ?_
    rintro wa l wb ha hfl ⟨i, m1, m2, S1, S2, e1, e2, r1, r2, q1, q2, Bl1, Pg1, Bl2, Pg2, hi, rfl, hT, hL1, hL2⟩ hkb hfab
    have zwb : w.heap.size ≤ wb.heap.size := hkb.size
    obtain ⟨ra1, rc1, rfl⟩ := hT.a.g1.1.slice
    obtain ⟨ra2, rc2, rfl⟩ := hT.a.g2.1.slice
    obtain ⟨qa1, qc1, rfl⟩ := hT.c.g1.1.slice
    obtain ⟨qa2, qc2, rfl⟩ := hT.c.g2.1.slice
    have hCb := hC.same hkb
    have hOb := hO.same hkb
    have fb : b6 < wb.heap.size ∧ bn < wb.heap.size := by
      obtain ⟨x1, g1, l1⟩ := hfab.1.lt
      obtain ⟨x2, g2, l2⟩ := hfab.2.1.lt
      cases g1
      cases g2
      exact ⟨by assumption, by assumption⟩
    refine den_norm (by simp only [List.cons_append, List.nil_append, refC]; rfl) (den_splitLt (fun hlt => ?_) (fun hge => ?_))
    rotate_left
    · -- the end
      have A1 := hT.a
      have A2 := hT.c
      refine den_call_bool (b := true) (fun wc hc => ?_) rfl (fun wc wd hc hcd => den_norm (by simp only [List.cons_append, List.nil_append]; rfl) (den_split_true rfl ?_))
      · have := A1.same (shown_same hc)
        exact m29 this.ev this.wf (by omega) _ _ Bl1 Pg1 this.g1 this.g2
      refine den_call_bool (b := true) (fun we he => ?_) rfl (fun we wf he hef => den_norm (by simp only [List.cons_append, List.nil_append]; rfl) (den_split_true rfl ?_))
      · have := ((A2.same (shown_same hc)).same hcd).same (shown_same he)
        exact m29 this.ev this.wf (by omega) _ _ Bl2 Pg2 this.g1 this.g2
      exact den_call_bool (b := true) (fun wa _ => c16 wa) rfl (fun _ _ _ _ => den_norm (by simp only [List.cons_append, List.nil_append]; rfl) (den_leaf' fun wz hz => (if_neg (by decide)).mpr ⟨rfl, hz.base⟩))
    have hlt' : i < max C.length O.length := by
      have h' := hlt
      simp only [IE.den, nth, vint, vlen] at h'
      omega
    refine den_cut (fun ls w' => ∃ (m1' : Nat) (S1' : Nat → Prop) (e1' : Ev) (ra1' : Option Addr) (rc1' : Nat) (ra2' : Option Addr) (rc2' : Nat) (Bl1' : Nat → Bool) (Pg1' : Nat → Int), ls = .bool true :: refC e1'.lim e1'.cfg (.slice ra1' e1'.R.length rc1') (.slice ra2' e1'.L.length rc2') Bl1' Pg1' ∧ Two w' w.heap.size (fun x => x = b6 ∨ x = bn) b b' m1' m2 S1' S2 e1' e2 (.slice ra1' e1'.R.length rc1') (.slice ra2' e1'.L.length rc2') (.slice qa1 e2.R.length qc1) (.slice qa2 e2.L.length qc2) Bl1' Pg1' Bl2 Pg2 ∧ e1'.L.length ≤ 61 + i) ?_ ?_
    · refine den_splitLt (fun hlC => ?_) (fun hgC => ?_)
      rotate_left
      · exact den_leaf_eq fun wc hc => ⟨m1, S1, e1, _, _, _, _, Bl1, Pg1, rfl, hT.same (shown_same hc), by omega⟩
      have hl2 : i < C.length := by simpa [IE.den, nth, vint, vlen] using hlC
      have hx : C[i]? = some (C[i]'hl2) := by simp
      generalize C[i]'hl2 = x at hx
      have hxo := okC x (List.mem_of_getElem? hx)
      have U := hT
      have ub := U.l1 _ U.a.ev.sb
      have um := U.l1 _ U.a.ev.sm
      intro wd hd
      refine ⟨fun y => y = b ∨ y = m1 ∨ y = b6 ∨ y = bn, fun y hy => by simp [BlkIn, nth, blkOf, vaddr] at hy; omega, ?_⟩
      have sd := shown_same hd
      refine den_idxD (E := clE) (L := C) x i x.cells rfl (by decide) rfl hx ⟨⟨_, rfl⟩, ⟨_, rfl⟩, ⟨_, rfl⟩, ⟨_, rfl⟩, ⟨_, rfl⟩, ⟨_, rfl⟩, trivial⟩ (whole _) (hCb.same sd).1 (fun ad had hin => by have := blkC ad had; omega) (den_norm (by simp only [List.cons_append, List.nil_append, Cl.cells]; rfl) ?_)
      refine den_callM (fun _ y => y = b ∨ y = m1) (fun we l wf => ∃ (S' : Nat → Prop) (m' : Nat) (a1 : Option Addr) (c1 : Nat) (a2 : Option Addr) (c2 : Nat) (Bl' : Nat → Bool) (Pg' : Nat → Int), l = [.int .i64 (stepE e1 x).lim, .int .u32 (stepE e1 x).cfg, (.slice a1 (stepE e1 x).R.length c1), (.slice a2 (stepE e1 x).L.length c2), .bool (Bl' 0), .bool (Bl' 1), .bool (Bl' 2), .bool (Bl' 3), .bool (Bl' 4), .bool (Bl' 5), .bool (Bl' 6), .bool (Bl' 7), .int .u8 (Pg' 0), .int .u8 (Pg' 1), .int .u8 (Pg' 2), .int .u8 (Pg' 3), .int .u8 (Pg' 4), .int .u8 (Pg' 5), .int .u8 (Pg' 6), .int .u8 (Pg' 7), .bool true] ∧ Sim wf S' b m' (stepE e1 x) (.slice a1 (stepE e1 x).R.length c1) (.slice a2 (stepE e1 x).L.length c2) Bl' Pg' ∧ (∀ y, S' y → S1 y ∨ we.heap.size ≤ y) ∧ (m' = m1 ∨ we.heap.size ≤ m') ∧ Fr we (.slice ra1 e1.R.length rc1) (.slice a1 (stepE e1 x).R.length c1) ∧ Fr we (.slice ra2 e1.L.length rc2) (.slice a2 (stepE e1 x).L.length c2)) (fun we he y hy hlt => ⟨fun _ => by omega, fun hl => absurd (show y < w.heap.size from hl) (by omega), fun hin => by simp [BlkIn, nth, blkOf, vaddr] at hin; omega, fun hx => by cases hx⟩) (fun we he => ?_) ?_
      · refine (m26 x hxo ((U.a.same sd).same (shown_same he)) (by omega)).mono (fun v w' ⟨S', m', a1, c1, a2, c2, Bl', Pg', g1, g2, g3, g4, g5, g6⟩ _ => ?_) fun _ _ h => h
        exact ⟨[.int .i64 (stepE e1 x).lim, .int .u32 (stepE e1 x).cfg, (.slice a1 (stepE e1 x).R.length c1), (.slice a2 (stepE e1 x).L.length c2), .bool (Bl' 0), .bool (Bl' 1), .bool (Bl' 2), .bool (Bl' 3), .bool (Bl' 4), .bool (Bl' 5), .bool (Bl' 6), .bool (Bl' 7), .int .u8 (Pg' 0), .int .u8 (Pg' 1), .int .u8 (Pg' 2), .int .u8 (Pg' 3), .int .u8 (Pg' 4), .int .u8 (Pg' 5), .int .u8 (Pg' 6), .int .u8 (Pg' 7), .bool true], ⟨⟨_, rfl⟩, ⟨_, rfl⟩, ⟨_, _, _, rfl⟩, ⟨_, _, _, rfl⟩, ⟨_, rfl⟩, ⟨_, rfl⟩, ⟨_, rfl⟩, ⟨_, rfl⟩, ⟨_, rfl⟩, ⟨_, rfl⟩, ⟨_, rfl⟩, ⟨_, rfl⟩, ⟨_, rfl⟩, ⟨_, rfl⟩, ⟨_, rfl⟩, ⟨_, rfl⟩, ⟨_, rfl⟩, ⟨_, rfl⟩, ⟨_, rfl⟩, ⟨_, rfl⟩, ⟨_, rfl⟩, trivial⟩, g1, ⟨S', m', a1, c1, a2, c2, Bl', Pg', rfl, g2, g3, g4, g5, g6⟩, trivial⟩
      rintro we l wf he _ ⟨S', m', a1, c1, a2, c2, Bl', Pg', rfl, hSf, hsub, hme, f1, f2⟩ kef
      have zde : wd.heap.size ≤ we.heap.size := he.kept.size
      have zd : wb.heap.size ≤ wd.heap.size := hd.kept.size
      have hLs := step_L U.a.wf x
      have V := ((U.same sd).same (shown_same he)).step kef hSf hsub hme f1 f2 (fun y hy => by rcases hy with rfl | rfl <;> omega) (by omega)
      refine den_norm (by simp only [List.cons_append, List.nil_append]; rfl) (den_leaf_eq fun wg hg => ⟨m', S', stepE e1 x, a1, c1, a2, c2, Bl', Pg', rfl, V.kept hg.kept fun y hy _ => by simp [BlkIn, nth, blkOf, vaddr] at hy; omega, by omega⟩)
    rintro l wc hfc ⟨m1', S1', e1', ra1', rc1', ra2', rc2', Bl1', Pg1', rfl, hTc, hL1'⟩ hkc hfac
    have hOc := hO.same hkc
    have zwc : w.heap.size ≤ wc.heap.size := hkc.size
    have fc : b6 < wc.heap.size ∧ bn < wc.heap.size := by
      obtain ⟨x1, g1, l1⟩ := hfac.1.lt
      obtain ⟨x2, g2, l2⟩ := hfac.2.1.lt
      cases g1
      cases g2
      exact ⟨by assumption, by assumption⟩
    refine den_norm (by simp only [List.cons_append, List.nil_append, refC]; rfl) ?_
    refine den_cut (fun ls w' => ∃ (m2' : Nat) (S2' : Nat → Prop) (e2' : Ev) (qa1' : Option Addr) (qc1' : Nat) (qa2' : Option Addr) (qc2' : Nat) (Bl2' : Nat → Bool) (Pg2' : Nat → Int), ls = .bool true :: refC e2'.lim e2'.cfg (.slice qa1' e2'.R.length qc1') (.slice qa2' e2'.L.length qc2') Bl2' Pg2' ∧ Two w' w.heap.size (fun x => x = b6 ∨ x = bn) b b' m1' m2' S1' S2' e1' e2' (.slice ra1' e1'.R.length rc1') (.slice ra2' e1'.L.length rc2') (.slice qa1' e2'.R.length qc1') (.slice qa2' e2'.L.length qc2') Bl1' Pg1' Bl2' Pg2' ∧ e2'.L.length ≤ 61 + i) ?_ ?_
    · refine den_splitLt (fun hlO => den_split_true rfl ?_) (fun hgO => ?_)
      rotate_left
      · exact den_leaf_eq fun wd hd => ⟨m2, S2, e2, _, _, _, _, Bl2, Pg2, rfl, hTc.same (shown_same hd), by omega⟩
      have hl2 : i < O.length := by simpa [IE.den, nth, vint, vlen] using hlO
      have hx : O[i]? = some (O[i]'hl2) := by simp
      generalize O[i]'hl2 = x at hx
      have hxo := okO x (List.mem_of_getElem? hx)
      have U := hTc.symm
      have ub := U.l1 _ U.a.ev.sb
      have um := U.l1 _ U.a.ev.sm
      intro wd hd
      refine ⟨fun y => y = b' ∨ y = m2 ∨ y = b6 ∨ y = bn, fun y hy => by simp [BlkIn, nth, blkOf, vaddr] at hy; omega, ?_⟩
      have sd := shown_same hd
      refine den_idxD (E := clE) (L := O) x i x.cells rfl (by decide) rfl hx ⟨⟨_, rfl⟩, ⟨_, rfl⟩, ⟨_, rfl⟩, ⟨_, rfl⟩, ⟨_, rfl⟩, ⟨_, rfl⟩, trivial⟩ (whole _) (hOc.same sd).1 (fun ad had hin => by have := blkO ad had; omega) (den_norm (by simp only [List.cons_append, List.nil_append, Cl.cells]; rfl) ?_)
      refine den_callM (fun _ y => y = b' ∨ y = m2) (fun we l wf => ∃ (S' : Nat → Prop) (m' : Nat) (a1 : Option Addr) (c1 : Nat) (a2 : Option Addr) (c2 : Nat) (Bl' : Nat → Bool) (Pg' : Nat → Int), l = [.int .i64 (stepE e2 x).lim, .int .u32 (stepE e2 x).cfg, (.slice a1 (stepE e2 x).R.length c1), (.slice a2 (stepE e2 x).L.length c2), .bool (Bl' 0), .bool (Bl' 1), .bool (Bl' 2), .bool (Bl' 3), .bool (Bl' 4), .bool (Bl' 5), .bool (Bl' 6), .bool (Bl' 7), .int .u8 (Pg' 0), .int .u8 (Pg' 1), .int .u8 (Pg' 2), .int .u8 (Pg' 3), .int .u8 (Pg' 4), .int .u8 (Pg' 5), .int .u8 (Pg' 6), .int .u8 (Pg' 7), .bool true] ∧ Sim wf S' b' m' (stepE e2 x) (.slice a1 (stepE e2 x).R.length c1) (.slice a2 (stepE e2 x).L.length c2) Bl' Pg' ∧ (∀ y, S' y → S2 y ∨ we.heap.size ≤ y) ∧ (m' = m2 ∨ we.heap.size ≤ m') ∧ Fr we (.slice qa1 e2.R.length qc1) (.slice a1 (stepE e2 x).R.length c1) ∧ Fr we (.slice qa2 e2.L.length qc2) (.slice a2 (stepE e2 x).L.length c2)) (fun we he y hy hlt => ⟨fun _ => by omega, fun hl => absurd (show y < w.heap.size from hl) (by omega), fun hin => by simp [BlkIn, nth, blkOf, vaddr] at hin; omega, fun hx => by cases hx⟩) (fun we he => ?_) ?_
      · refine (m26 x hxo ((U.a.same sd).same (shown_same he)) (by omega)).mono (fun v w' ⟨S', m', a1, c1, a2, c2, Bl', Pg', g1, g2, g3, g4, g5, g6⟩ _ => ?_) fun _ _ h => h
        exact ⟨[.int .i64 (stepE e2 x).lim, .int .u32 (stepE e2 x).cfg, (.slice a1 (stepE e2 x).R.length c1), (.slice a2 (stepE e2 x).L.length c2), .bool (Bl' 0), .bool (Bl' 1), .bool (Bl' 2), .bool (Bl' 3), .bool (Bl' 4), .bool (Bl' 5), .bool (Bl' 6), .bool (Bl' 7), .int .u8 (Pg' 0), .int .u8 (Pg' 1), .int .u8 (Pg' 2), .int .u8 (Pg' 3), .int .u8 (Pg' 4), .int .u8 (Pg' 5), .int .u8 (Pg' 6), .int .u8 (Pg' 7), .bool true], ⟨⟨_, rfl⟩, ⟨_, rfl⟩, ⟨_, _, _, rfl⟩, ⟨_, _, _, rfl⟩, ⟨_, rfl⟩, ⟨_, rfl⟩, ⟨_, rfl⟩, ⟨_, rfl⟩, ⟨_, rfl⟩, ⟨_, rfl⟩, ⟨_, rfl⟩, ⟨_, rfl⟩, ⟨_, rfl⟩, ⟨_, rfl⟩, ⟨_, rfl⟩, ⟨_, rfl⟩, ⟨_, rfl⟩, ⟨_, rfl⟩, ⟨_, rfl⟩, ⟨_, rfl⟩, ⟨_, rfl⟩, trivial⟩, g1, ⟨S', m', a1, c1, a2, c2, Bl', Pg', rfl, g2, g3, g4, g5, g6⟩, trivial⟩
      rintro we l wf he _ ⟨S', m', a1, c1, a2, c2, Bl', Pg', rfl, hSf, hsub, hme, f1, f2⟩ kef
      have zde : wd.heap.size ≤ we.heap.size := he.kept.size
      have zd : wc.heap.size ≤ wd.heap.size := hd.kept.size
      have hLs := step_L U.a.wf x
      have V := ((U.same sd).same (shown_same he)).step kef hSf hsub hme f1 f2 (fun y hy => by rcases hy with rfl | rfl <;> omega) (by omega)
      refine den_norm (by simp only [List.cons_append, List.nil_append]; rfl) (den_leaf_eq fun wg hg => ⟨m', S', stepE e2 x, a1, c1, a2, c2, Bl', Pg', rfl, (V.kept hg.kept fun y hy _ => by simp [BlkIn, nth, blkOf, vaddr] at hy; omega).symm, by omega⟩)
    rintro l wd hfd ⟨m2', S2', e2', qa1', qc1', qa2', qc2', Bl2', Pg2', rfl, hTd, hL2'⟩ hkd hfad
    refine den_norm (by simp only [List.cons_append, List.nil_append, refC]; rfl) (den_split_false rfl (den_ob64 (by simp only [IE.den, nth, vint]; omega) (den_leaf' fun we he => (if_pos rfl).mpr ⟨⟨i + 1, m1', m2', S1', S2', e1', e2', _, _, _, _, Bl1', Pg1', Bl2', Pg2', by omega, rfl, hTd.same (shown_same he), by omega, by omega⟩, ?_⟩)))
    simp only [denL, SV.den, IE.den, nth, vint]; omega

  · refine den_blk fun bn kn kn' _ => den_norm (by simp only [List.cons_append, List.nil_append]; rfl) ?_
    have zn : w5.heap.size ≤ bn := kn
    refine den_callR (fun w6 l w7 => ∃ b' m', l = [pt b'] ∧ EvS w7 (fun x => w6.heap.size ≤ x ∧ x < w7.heap.size) b' m' e) (fun w6 h6 => ?_) ?_
    · obtain ⟨s1, s2, E, _, _⟩ := (hS5.same (shown_same h6)).ev.ex
      refine (c28 b m s1 s2 e w6 E hS.wf.ne (by have := hS.wf.len; omega) (by omega)).mono fun v w' ⟨b', m', s1', s2', q1, q2, q3, q4, q5, q6⟩ => ?_
      exact ⟨[pt b'], ⟨⟨_, rfl⟩, trivial⟩, q1, b', m', rfl, ⟨⟨s1', s2', q2, fun ad had => ⟨q5 ad had, q2.r.2.2.2 ad had⟩, fun ad had => ⟨q6 ad had, q2.l.2.2.2 ad had⟩⟩, ⟨q3, q2.lt⟩, ⟨q4, q2.map.lt⟩, fun x hx => hx.2⟩⟩
    rintro w6 l w7 h6 _ ⟨b', m', rfl, EN⟩ k67
    have z56 : w5.heap.size ≤ w6.heap.size := h6.kept.size
    have z67 : w6.heap.size ≤ w7.heap.size := k67.size
    have hS7 := (hS5.same (shown_same h6)).same k67
    have lbn6 : bn < w6.heap.size := h6.lt (i := 28) (by simp [keys]) rfl
    have l66 : b6 < w6.heap.size := h6.lt (i := 6) (by simp [keys]) rfl
    have lr1 := hS5.g1.2.2.2
    have lr2 := hS5.g2.2.2.2
    have lS := hS5.ev.slt
    have T7 : Two w7 w.heap.size (fun x => x = b6 ∨ x = bn) b b' m m' S (fun x => w6.heap.size ≤ x ∧ x < w7.heap.size) e e (.slice ra e.R.length rc) (.slice pa e.L.length pc) (.slice ra e.R.length rc) (.slice pa e.L.length pc) Bl Pg Bl Pg :=
      have e1 := EN.sb
      have e2 := EN.sm
      have x1 : In (fun x => x ≠ b' ∧ x ≠ m') (.slice ra e.R.length rc) := fun ad had => by have := lr1 ad had; omega
      have x2 : In (fun x => x ≠ b' ∧ x ≠ m') (.slice pa e.L.length pc) := fun ad had => by have := lr2 ad had; omega
      have p1 : In (fun x => ¬ (x = b6 ∨ x = bn)) (.slice ra e.R.length rc) := fun ad had => by have := lr1 ad had; have := n1 ad had; omega
      have p2 : In (fun x => ¬ (x = b6 ∨ x = bn)) (.slice pa e.L.length pc) := fun ad had => by have := lr2 ad had; have := n2 ad had; omega
      ⟨hS7, ⟨EN, hS7.g1, hS7.g2, x1, x2, hS7.bok, hS7.wf⟩, fun x h1 h2 => by have := lS x h1; omega, x1, x2, hS7.n1, hS7.n2, fun x hx => by have := hSl x hx; have := lS x hx; omega, fun x hx => by omega, p1, p2, p1, p2⟩
    refine den_norm (by simp only [List.cons_append, List.nil_append]; rfl) (den_split_false rfl (den_split_false rfl ?_))
    refine den_call_bool (b := true) (fun w8 h8 => ?_) rfl (fun w8 w9 h8 h89 => den_norm (by simp only [List.cons_append, List.nil_append]; rfl) (den_split_false rfl ?_))
    · have := (T7.kept h8.kept fun x hx _ => by simp [BlkIn, nth, blkOf, vaddr] at hx; omega).c
      exact m29 this.ev this.wf (by omega) _ _ Bl Pg this.g1 this.g2
    have T9 := (T7.kept h8.kept fun x hx _ => by simp [BlkIn, nth, blkOf, vaddr] at hx; omega).same h89
    have lbn : bn < w8.heap.size := h8.lt (i := 28) (by simp [keys]) rfl
    have z78 : w7.heap.size ≤ w8.heap.size := h8.kept.size
    refine den_loop (fun ls w' => ∃ (i : Nat) (m1 m2 : Nat) (S1 S2 : Nat → Prop) (e1 e2 : Ev) (r1 r2 q1 q2 : Value) (Bl1 : Nat → Bool) (Pg1 : Nat → Int) (Bl2 : Nat → Bool) (Pg2 : Nat → Int), i ≤ max C.length O.length ∧ ls = .bool true :: .int .i64 (i : Int) :: (refC e1.lim e1.cfg r1 r2 Bl1 Pg1 ++ refC e2.lim e2.cfg q1 q2 Bl2 Pg2) ∧ Two w' w.heap.size (fun x => x = b6 ∨ x = bn) b b' m1 m2 S1 S2 e1 e2 r1 r2 q1 q2 Bl1 Pg1 Bl2 Pg2 ∧ e1.L.length ≤ 60 + i ∧ e2.L.length ≤ 60 + i)
      (fun ls _ => max C.length O.length - (vint (nth ls 1)).toNat) (fun wa ha => ⟨0, m, m', S, _, e, e, _, _, _, _, Bl, Pg, Bl, Pg, Nat.zero_le _, rfl, T9.same (shown_same ha), by omega, by omega⟩) ?_
    rintro wa l wb ha hfl ⟨i, m1, m2, S1, S2, e1, e2, r1, r2, q1, q2, Bl1, Pg1, Bl2, Pg2, hi, rfl, hT, hL1, hL2⟩ hkb hfab
    have zwb : w.heap.size ≤ wb.heap.size := hkb.size
    obtain ⟨ra1, rc1, rfl⟩ := hT.a.g1.1.slice
    obtain ⟨ra2, rc2, rfl⟩ := hT.a.g2.1.slice
    obtain ⟨qa1, qc1, rfl⟩ := hT.c.g1.1.slice
    obtain ⟨qa2, qc2, rfl⟩ := hT.c.g2.1.slice
    have hCb := hC.same hkb
    have hOb := hO.same hkb
    have fb : b6 < wb.heap.size ∧ bn < wb.heap.size := by
      obtain ⟨x1, g1, l1⟩ := hfab.1.lt
      obtain ⟨x2, g2, l2⟩ := hfab.2.1.lt
      cases g1
      cases g2
      exact ⟨by assumption, by assumption⟩
    refine den_norm (by simp only [List.cons_append, List.nil_append, refC]; rfl) (den_splitLt (fun hlt => ?_) (fun hge => ?_))
    rotate_left
    · -- the end
      have A1 := hT.a
      have A2 := hT.c
      refine den_call_bool (b := true) (fun wc hc => ?_) rfl (fun wc wd hc hcd => den_norm (by simp only [List.cons_append, List.nil_append]; rfl) (den_split_true rfl ?_))
      · have := A1.same (shown_same hc)
        exact m29 this.ev this.wf (by omega) _ _ Bl1 Pg1 this.g1 this.g2
      refine den_call_bool (b := true) (fun we he => ?_) rfl (fun we wf he hef => den_norm (by simp only [List.cons_append, List.nil_append]; rfl) (den_split_true rfl ?_))
      · have := ((A2.same (shown_same hc)).same hcd).same (shown_same he)
        exact m29 this.ev this.wf (by omega) _ _ Bl2 Pg2 this.g1 this.g2
      exact den_call_bool (b := true) (fun wa _ => c16 wa) rfl (fun _ _ _ _ => den_norm (by simp only [List.cons_append, List.nil_append]; rfl) (den_leaf' fun wz hz => (if_neg (by decide)).mpr ⟨rfl, hz.base⟩))
    have hlt' : i < max C.length O.length := by
      have h' := hlt
      simp only [IE.den, nth, vint, vlen] at h'
      omega
    refine den_cut (fun ls w' => ∃ (m1' : Nat) (S1' : Nat → Prop) (e1' : Ev) (ra1' : Option Addr) (rc1' : Nat) (ra2' : Option Addr) (rc2' : Nat) (Bl1' : Nat → Bool) (Pg1' : Nat → Int), ls = .bool true :: refC e1'.lim e1'.cfg (.slice ra1' e1'.R.length rc1') (.slice ra2' e1'.L.length rc2') Bl1' Pg1' ∧ Two w' w.heap.size (fun x => x = b6 ∨ x = bn) b b' m1' m2 S1' S2 e1' e2 (.slice ra1' e1'.R.length rc1') (.slice ra2' e1'.L.length rc2') (.slice qa1 e2.R.length qc1) (.slice qa2 e2.L.length qc2) Bl1' Pg1' Bl2 Pg2 ∧ e1'.L.length ≤ 61 + i) ?_ ?_
    · refine den_splitLt (fun hlC => ?_) (fun hgC => ?_)
      rotate_left
      · exact den_leaf_eq fun wc hc => ⟨m1, S1, e1, _, _, _, _, Bl1, Pg1, rfl, hT.same (shown_same hc), by omega⟩
      have hl2 : i < C.length := by simpa [IE.den, nth, vint, vlen] using hlC
      have hx : C[i]? = some (C[i]'hl2) := by simp
      generalize C[i]'hl2 = x at hx
      have hxo := okC x (List.mem_of_getElem? hx)
      have U := hT
      have ub := U.l1 _ U.a.ev.sb
      have um := U.l1 _ U.a.ev.sm
      intro wd hd
      refine ⟨fun y => y = b ∨ y = m1 ∨ y = b6 ∨ y = bn, fun y hy => by simp [BlkIn, nth, blkOf, vaddr] at hy; omega, ?_⟩
      have sd := shown_same hd
      refine den_idxD (E := clE) (L := C) x i x.cells rfl (by decide) rfl hx ⟨⟨_, rfl⟩, ⟨_, rfl⟩, ⟨_, rfl⟩, ⟨_, rfl⟩, ⟨_, rfl⟩, ⟨_, rfl⟩, trivial⟩ (whole _) (hCb.same sd).1 (fun ad had hin => by have := blkC ad had; omega) (den_norm (by simp only [List.cons_append, List.nil_append, Cl.cells]; rfl) ?_)
      refine den_callM (fun _ y => y = b ∨ y = m1) (fun we l wf => ∃ (S' : Nat → Prop) (m' : Nat) (a1 : Option Addr) (c1 : Nat) (a2 : Option Addr) (c2 : Nat) (Bl' : Nat → Bool) (Pg' : Nat → Int), l = [.int .i64 (stepE e1 x).lim, .int .u32 (stepE e1 x).cfg, (.slice a1 (stepE e1 x).R.length c1), (.slice a2 (stepE e1 x).L.length c2), .bool (Bl' 0), .bool (Bl' 1), .bool (Bl' 2), .bool (Bl' 3), .bool (Bl' 4), .bool (Bl' 5), .bool (Bl' 6), .bool (Bl' 7), .int .u8 (Pg' 0), .int .u8 (Pg' 1), .int .u8 (Pg' 2), .int .u8 (Pg' 3), .int .u8 (Pg' 4), .int .u8 (Pg' 5), .int .u8 (Pg' 6), .int .u8 (Pg' 7), .bool true] ∧ Sim wf S' b m' (stepE e1 x) (.slice a1 (stepE e1 x).R.length c1) (.slice a2 (stepE e1 x).L.length c2) Bl' Pg' ∧ (∀ y, S' y → S1 y ∨ we.heap.size ≤ y) ∧ (m' = m1 ∨ we.heap.size ≤ m') ∧ Fr we (.slice ra1 e1.R.length rc1) (.slice a1 (stepE e1 x).R.length c1) ∧ Fr we (.slice ra2 e1.L.length rc2) (.slice a2 (stepE e1 x).L.length c2)) (fun we he y hy hlt => ⟨fun _ => by omega, fun hl => absurd (show y < w.heap.size from hl) (by omega), fun hin => by simp [BlkIn, nth, blkOf, vaddr] at hin; omega, fun hx => by cases hx⟩) (fun we he => ?_) ?_
      · refine (m26 x hxo ((U.a.same sd).same (shown_same he)) (by omega)).mono (fun v w' ⟨S', m', a1, c1, a2, c2, Bl', Pg', g1, g2, g3, g4, g5, g6⟩ _ => ?_) fun _ _ h => h
        exact ⟨[.int .i64 (stepE e1 x).lim, .int .u32 (stepE e1 x).cfg, (.slice a1 (stepE e1 x).R.length c1), (.slice a2 (stepE e1 x).L.length c2), .bool (Bl' 0), .bool (Bl' 1), .bool (Bl' 2), .bool (Bl' 3), .bool (Bl' 4), .bool (Bl' 5), .bool (Bl' 6), .bool (Bl' 7), .int .u8 (Pg' 0), .int .u8 (Pg' 1), .int .u8 (Pg' 2), .int .u8 (Pg' 3), .int .u8 (Pg' 4), .int .u8 (Pg' 5), .int .u8 (Pg' 6), .int .u8 (Pg' 7), .bool true], ⟨⟨_, rfl⟩, ⟨_, rfl⟩, ⟨_, _, _, rfl⟩, ⟨_, _, _, rfl⟩, ⟨_, rfl⟩, ⟨_, rfl⟩, ⟨_, rfl⟩, ⟨_, rfl⟩, ⟨_, rfl⟩, ⟨_, rfl⟩, ⟨_, rfl⟩, ⟨_, rfl⟩, ⟨_, rfl⟩, ⟨_, rfl⟩, ⟨_, rfl⟩, ⟨_, rfl⟩, ⟨_, rfl⟩, ⟨_, rfl⟩, ⟨_, rfl⟩, ⟨_, rfl⟩, ⟨_, rfl⟩, trivial⟩, g1, ⟨S', m', a1, c1, a2, c2, Bl', Pg', rfl, g2, g3, g4, g5, g6⟩, trivial⟩
      rintro we l wf he _ ⟨S', m', a1, c1, a2, c2, Bl', Pg', rfl, hSf, hsub, hme, f1, f2⟩ kef
      have zde : wd.heap.size ≤ we.heap.size := he.kept.size
      have zd : wb.heap.size ≤ wd.heap.size := hd.kept.size
      have hLs := step_L U.a.wf x
      have V := ((U.same sd).same (shown_same he)).step kef hSf hsub hme f1 f2 (fun y hy => by rcases hy with rfl | rfl <;> omega) (by omega)
      refine den_norm (by simp only [List.cons_append, List.nil_append]; rfl) (den_leaf_eq fun wg hg => ⟨m', S', stepE e1 x, a1, c1, a2, c2, Bl', Pg', rfl, V.kept hg.kept fun y hy _ => by simp [BlkIn, nth, blkOf, vaddr] at hy; omega, by omega⟩)
    rintro l wc hfc ⟨m1', S1', e1', ra1', rc1', ra2', rc2', Bl1', Pg1', rfl, hTc, hL1'⟩ hkc hfac
    have hOc := hO.same hkc
    have zwc : w.heap.size ≤ wc.heap.size := hkc.size
    have fc : b6 < wc.heap.size ∧ bn < wc.heap.size := by
      obtain ⟨x1, g1, l1⟩ := hfac.1.lt
      obtain ⟨x2, g2, l2⟩ := hfac.2.1.lt
      cases g1
      cases g2
      exact ⟨by assumption, by assumption⟩
    refine den_norm (by simp only [List.cons_append, List.nil_append, refC]; rfl) ?_
    refine den_cut (fun ls w' => ∃ (m2' : Nat) (S2' : Nat → Prop) (e2' : Ev) (qa1' : Option Addr) (qc1' : Nat) (qa2' : Option Addr) (qc2' : Nat) (Bl2' : Nat → Bool) (Pg2' : Nat → Int), ls = .bool true :: refC e2'.lim e2'.cfg (.slice qa1' e2'.R.length qc1') (.slice qa2' e2'.L.length qc2') Bl2' Pg2' ∧ Two w' w.heap.size (fun x => x = b6 ∨ x = bn) b b' m1' m2' S1' S2' e1' e2' (.slice ra1' e1'.R.length rc1') (.slice ra2' e1'.L.length rc2') (.slice qa1' e2'.R.length qc1') (.slice qa2' e2'.L.length qc2') Bl1' Pg1' Bl2' Pg2' ∧ e2'.L.length ≤ 61 + i) ?_ ?_
    · refine den_splitLt (fun hlO => den_split_true rfl ?_) (fun hgO => ?_)
      rotate_left
      · exact den_leaf_eq fun wd hd => ⟨m2, S2, e2, _, _, _, _, Bl2, Pg2, rfl, hTc.same (shown_same hd), by omega⟩
      have hl2 : i < O.length := by simpa [IE.den, nth, vint, vlen] using hlO
      have hx : O[i]? = some (O[i]'hl2) := by simp
      generalize O[i]'hl2 = x at hx
      have hxo := okO x (List.mem_of_getElem? hx)
      have U := hTc.symm
      have ub := U.l1 _ U.a.ev.sb
      have um := U.l1 _ U.a.ev.sm
      intro wd hd
      refine ⟨fun y => y = b' ∨ y = m2 ∨ y = b6 ∨ y = bn, fun y hy => by simp [BlkIn, nth, blkOf, vaddr] at hy; omega, ?_⟩
      have sd := shown_same hd
      refine den_idxD (E := clE) (L := O) x i x.cells rfl (by decide) rfl hx ⟨⟨_, rfl⟩, ⟨_, rfl⟩, ⟨_, rfl⟩, ⟨_, rfl⟩, ⟨_, rfl⟩, ⟨_, rfl⟩, trivial⟩ (whole _) (hOc.same sd).1 (fun ad had hin => by have := blkO ad had; omega) (den_norm (by simp only [List.cons_append, List.nil_append, Cl.cells]; rfl) ?_)
      refine den_callM (fun _ y => y = b' ∨ y = m2) (fun we l wf => ∃ (S' : Nat → Prop) (m' : Nat) (a1 : Option Addr) (c1 : Nat) (a2 : Option Addr) (c2 : Nat) (Bl' : Nat → Bool) (Pg' : Nat → Int), l = [.int .i64 (stepE e2 x).lim, .int .u32 (stepE e2 x).cfg, (.slice a1 (stepE e2 x).R.length c1), (.slice a2 (stepE e2 x).L.length c2), .bool (Bl' 0), .bool (Bl' 1), .bool (Bl' 2), .bool (Bl' 3), .bool (Bl' 4), .bool (Bl' 5), .bool (Bl' 6), .bool (Bl' 7), .int .u8 (Pg' 0), .int .u8 (Pg' 1), .int .u8 (Pg' 2), .int .u8 (Pg' 3), .int .u8 (Pg' 4), .int .u8 (Pg' 5), .int .u8 (Pg' 6), .int .u8 (Pg' 7), .bool true] ∧ Sim wf S' b' m' (stepE e2 x) (.slice a1 (stepE e2 x).R.length c1) (.slice a2 (stepE e2 x).L.length c2) Bl' Pg' ∧ (∀ y, S' y → S2 y ∨ we.heap.size ≤ y) ∧ (m' = m2 ∨ we.heap.size ≤ m') ∧ Fr we (.slice qa1 e2.R.length qc1) (.slice a1 (stepE e2 x).R.length c1) ∧ Fr we (.slice qa2 e2.L.length qc2) (.slice a2 (stepE e2 x).L.length c2)) (fun we he y hy hlt => ⟨fun _ => by omega, fun hl => absurd (show y < w.heap.size from hl) (by omega), fun hin => by simp [BlkIn, nth, blkOf, vaddr] at hin; omega, fun hx => by cases hx⟩) (fun we he => ?_) ?_
      · refine (m26 x hxo ((U.a.same sd).same (shown_same he)) (by omega)).mono (fun v w' ⟨S', m', a1, c1, a2, c2, Bl', Pg', g1, g2, g3, g4, g5, g6⟩ _ => ?_) fun _ _ h => h
        exact ⟨[.int .i64 (stepE e2 x).lim, .int .u32 (stepE e2 x).cfg, (.slice a1 (stepE e2 x).R.length c1), (.slice a2 (stepE e2 x).L.length c2), .bool (Bl' 0), .bool (Bl' 1), .bool (Bl' 2), .bool (Bl' 3), .bool (Bl' 4), .bool (Bl' 5), .bool (Bl' 6), .bool (Bl' 7), .int .u8 (Pg' 0), .int .u8 (Pg' 1), .int .u8 (Pg' 2), .int .u8 (Pg' 3), .int .u8 (Pg' 4), .int .u8 (Pg' 5), .int .u8 (Pg' 6), .int .u8 (Pg' 7), .bool true], ⟨⟨_, rfl⟩, ⟨_, rfl⟩, ⟨_, _, _, rfl⟩, ⟨_, _, _, rfl⟩, ⟨_, rfl⟩, ⟨_, rfl⟩, ⟨_, rfl⟩, ⟨_, rfl⟩, ⟨_, rfl⟩, ⟨_, rfl⟩, ⟨_, rfl⟩, ⟨_, rfl⟩, ⟨_, rfl⟩, ⟨_, rfl⟩, ⟨_, rfl⟩, ⟨_, rfl⟩, ⟨_, rfl⟩, ⟨_, rfl⟩, ⟨_, rfl⟩, ⟨_, rfl⟩, ⟨_, rfl⟩, trivial⟩, g1, ⟨S', m', a1, c1, a2, c2, Bl', Pg', rfl, g2, g3, g4, g5, g6⟩, trivial⟩
      rintro we l wf he _ ⟨S', m', a1, c1, a2, c2, Bl', Pg', rfl, hSf, hsub, hme, f1, f2⟩ kef
      have zde : wd.heap.size ≤ we.heap.size := he.kept.size
      have zd : wc.heap.size ≤ wd.heap.size := hd.kept.size
      have hLs := step_L U.a.wf x
      have V := ((U.same sd).same (shown_same he)).step kef hSf hsub hme f1 f2 (fun y hy => by rcases hy with rfl | rfl <;> omega) (by omega)
      refine den_norm (by simp only [List.cons_append, List.nil_append]; rfl) (den_leaf_eq fun wg hg => ⟨m', S', stepE e2 x, a1, c1, a2, c2, Bl', Pg', rfl, (V.kept hg.kept fun y hy _ => by simp [BlkIn, nth, blkOf, vaddr] at hy; omega).symm, by omega⟩)
    rintro l wd hfd ⟨m2', S2', e2', qa1', qc1', qa2', qc2', Bl2', Pg2', rfl, hTd, hL2'⟩ hkd hfad
    refine den_norm (by simp only [List.cons_append, List.nil_append, refC]; rfl) (den_split_false rfl (den_ob64 (by simp only [IE.den, nth, vint]; omega) (den_leaf' fun we he => (if_pos rfl).mpr ⟨⟨i + 1, m1', m2', S1', S2', e1', e2', _, _, _, _, Bl1', Pg1', Bl2', Pg2', by omega, rfl, hTd.same (shown_same he), by omega, by omega⟩, ?_⟩)))
    simp only [denL, SV.den, IE.den, nth, vint]; omega

end Go.Proofs.Ytfjlnfgbfclgbaa
