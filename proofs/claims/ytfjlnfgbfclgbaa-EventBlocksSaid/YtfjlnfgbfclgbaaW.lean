/- The laws EventRuns and EventRests. No conditions beyond those that each theorem names. -/
import Derived.Test.YtfjlnfgbfclgbaaU
import Derived.Test.YtfjlnfgbfclgbaaTJ
set_option maxRecDepth 100000
set_option maxHeartbeats 4000000
set_option linter.unusedVariables false
set_option linter.unusedSimpArgs false
namespace Go.Proofs.Ytfjlnfgbfclgbaa
open Go.Sx

theorem Sim.kept {w w' : World} {S M : Nat → Prop} {b m : Nat} {e : Ev} {r1 r2 : Value} {Bl : Nat → Bool} {Pg : Nat → Int} (h : Sim w S b m e r1 r2 Bl Pg) (hk : Kept M w w') (hM : ∀ x, S x → ¬ M x) (h1 : In (fun x => ¬ M x) r1) (h2 : In (fun x => ¬ M x) r2) : Sim w' S b m e r1 r2 Bl Pg :=
  ⟨h.ev.kept hk hM, h.g1.kept hk h1, h.g2.kept hk h2, h.n1, h.n2, h.bok, h.wf⟩
theorem Sim.same {w w' : World} {S : Nat → Prop} {b m : Nat} {e : Ev} {r1 r2 : Value} {Bl : Nat → Bool} {Pg : Nat → Int} (h : Sim w S b m e r1 r2 Bl Pg) (hk : Same w w') : Sim w' S b m e r1 r2 Bl Pg := h.kept hk (fun _ _ h => h) (fun _ _ h => h) (fun _ _ h => h)
theorem EvS.nr {w : World} {S : Nat → Prop} {b m : Nat} {e : Ev} (h : EvS w S b m e) {y : Nat} (hy : y = b ∨ y = m) : ¬ IsRec w y := by
  obtain ⟨s1, s2, E, _, _⟩ := h.ex
  rcases hy with rfl | rfl
  · obtain ⟨x', ty, e', hh⟩ := E.blk
    cases e'
    rintro ⟨o, ho, hrr⟩
    rw [hh] at ho; cases ho; cases hrr
  · exact E.map.notRec
theorem dl_blocked : ∀ (L : List Ntc) (R : List Int) (B : Int → Option Int), (∀ t, (B t).isSome = true → ((dl L R B).B t).isSome = true) ∧ ((dl L R B).R ≠ [] → ∀ n ∈ (dl L R B).left, ((dl L R B).B n.t).isSome = true)
  | [], R, B => ⟨fun t h => by unfold dl; exact h, fun _ n hn => by simp [dl] at hn⟩
  | x :: L, [], B => by
    rw [dl_nil]
    exact ⟨fun t h => h, fun h => absurd rfl h⟩
  | x :: L, r :: R, B => by
    by_cases hb : (B x.t).isSome = true
    · obtain ⟨q1, q2⟩ := dl_blocked L (r :: R) B
      rw [dl_cons_b _ _ _ _ _ hb]
      refine ⟨q1, fun hne n hn => ?_⟩
      rcases List.mem_cons.1 hn with rfl | hn
      · exact q1 _ hb
      · exact q2 hne n hn
    · obtain ⟨q1, q2⟩ := dl_blocked L R (upd B x.t x.p)
      rw [dl_cons_f _ _ _ _ _ (by simpa using hb)]
      exact ⟨fun t h => q1 t (upd_some h), q2⟩
theorem dl_again (L : List Ntc) (R : List Int) (B : Int → Option Int) : (dl (dl L R B).left (dl L R B).R (dl L R B).B).out = [] ∧ (dl (dl L R B).left (dl L R B).R (dl L R B).B).R = (dl L R B).R := by
  by_cases hr : (dl L R B).R = []
  · rw [hr, dl_nil]
    exact ⟨rfl, rfl⟩
  · rw [dl_none _ _ _ fun i n hi => (dl_blocked L R B).2 hr n (List.mem_of_getElem? hi)]
    exact ⟨rfl, rfl⟩
theorem wf_new {lim : Int} (h : 1 ≤ lim ∧ lim ≤ 16) : Wf ⟨lim, 0, [], [], fun _ => none⟩ := ⟨h, ⟨Int.le_refl 0, by show (0 : Int) < 4294967296; omega⟩, by show ((0 : Nat) : Int) ≤ lim; omega, (fun n hn => by cases hn), (fun k v h => by cases h)⟩
theorem m25 {w : World} {S : Nat → Prop} {b m : Nat} {e : Ev} (h : EvS w S b m e) (hw : Wf e) : GivesR Try.prog 25 [pt b] w (fun v w' => ∃ a c, v = .slice a e.R.length c ∧ Mine hE 37 w' v e.R) := by
  obtain ⟨s1, s2, h1, h2, h3⟩ := h.ex
  refine (c25 b m s1 s2 e w h1 hw.ne (by have := hw.len; omega)).mono fun v w' ⟨q1, q2⟩ => ?_
  obtain ⟨a, c, rfl⟩ := q1.slice
  exact ⟨a, c, rfl, q1⟩

theorem c5 (lim : Int) (A : List Cl) (s : Value) (w : World) (hA : Given clE w s A) (hAl : A.length < 9223372036854775808) (hok : ∀ a ∈ A, a.Ok) : Gives Try.prog 5 [.int .i64 lim, s] w (.bool true) := by
  obtain ⟨a, c, rfl⟩ := hA.1.slice
  refine gives mix t5 rfl rfl (ε := [.int .i64 lim, .slice a A.length c]) ⟨⟨_, rfl⟩, ⟨_, _, _, rfl⟩, trivial⟩ ?_
  refine den_callR (fun w1 l w2 => ((lim < 1 ∨ 16 < lim) ∧ l = [.pointer none, .int .i64 2]) ∨ ((1 ≤ lim ∧ lim ≤ 16) ∧ ∃ b m, l = [pt b, .int .i64 0] ∧ EvAt w2 b m (.slice none 0 0) (.slice none 0 0) ⟨lim, 0, [], [], fun _ => none⟩ ∧ w1.heap.size ≤ b ∧ w1.heap.size ≤ m)) (fun w1 h1 => ?_) ?_
  · refine (c17 lim w1).mono fun v w' hv => ?_
    rcases hv with ⟨hl, rfl⟩ | ⟨hl, b, m, rfl, E, q1, q2⟩
    · exact ⟨[.pointer none, .int .i64 2], ⟨⟨_, rfl⟩, ⟨_, rfl⟩, trivial⟩, rfl, .inl ⟨hl, rfl⟩⟩
    · exact ⟨[pt b, .int .i64 0], ⟨⟨_, rfl⟩, ⟨_, rfl⟩, trivial⟩, rfl, .inr ⟨hl, b, m, rfl, E, q1, q2⟩⟩
  rintro w1 l w2 h1 _ (⟨hl, rfl⟩ | ⟨hl, b, m, rfl, E0, hb1, hm1⟩) k12
  · have fin : ∀ {ε : List Value} {wx ws : World} {X : Nat → Prop}, (VC.call 16 [] [Base.bool] (SV.bool (BE.var 4)) [] false [] [] [] [] (VC.leaf 0 [SV.bool (BE.var 4)] [] [])).den (G0 Try.prog w) (Λ0 w (.bool true)) [.int .i64 lim, .slice a A.length c, .pointer none, .int .i64 2] wx ws X := fun {ε wx ws X} =>
      den_call_bool (b := true) (fun wa _ => c16 wa) rfl (fun _ _ _ _ => den_leaf rfl)
    refine den_norm (by simp only [List.cons_append, List.nil_append]; rfl) (den_splitLt (fun h => ?_) (fun h => den_splitLt (fun h' => ?_) (fun h' => ?_)))
    · exact den_split_true rfl (den_split_true rfl (fin (ε := [])))
    · exact den_split_true rfl (den_split_true rfl (fin (ε := [])))
    · have q1 : 1 ≤ lim := h
      have q2 : lim ≤ 16 := h'
      omega
  refine den_norm (by simp only [List.cons_append, List.nil_append]; rfl) (den_splitLt (fun h => ?_) (fun _ => den_splitLt (fun h => ?_) (fun _ => den_split_false rfl (den_splitLt (fun h80 => ?_) (fun h80 => ?_)))))
  · have q1 : lim < 1 := h
    omega
  · have q1 : 16 < lim := h
    omega
  · exact den_split_true rfl (den_call_bool (b := true) (fun wa _ => c16 wa) rfl (fun _ _ _ _ => den_norm (by simp only [List.cons_append, List.nil_append]; rfl) (den_leaf rfl)))
  have hA80 : A.length ≤ 80 := by
    have : (A.length : Int) ≤ 80 := h80
    omega
  refine den_blk fun b4 k4 k4' _ => den_norm (by simp only [List.cons_append, List.nil_append]; rfl) ?_
  have z4 : w2.heap.size ≤ b4 := k4'
  have z1 : w.heap.size ≤ w1.heap.size := h1.base.size
  have z12 : w1.heap.size ≤ w2.heap.size := k12.size
  have lb := E0.lt
  have lm := E0.map.lt
  refine den_loop (fun ls w' => ∃ (j : Nat) (S : Nat → Prop) (m : Nat) (e : Ev) (r1 r2 : Value) (Bl : Nat → Bool) (Pg : Nat → Int), j ≤ A.length ∧ ls = .int .i64 (j : Int) :: refC e.lim e.cfg r1 r2 Bl Pg ∧ Sim w' S b m e r1 r2 Bl Pg ∧ (∀ x, S x → w.heap.size ≤ x ∧ ¬ (x = b4)) ∧ In (fun x => ¬ (x = b4)) r1 ∧ In (fun x => ¬ (x = b4)) r2 ∧ e.L.length ≤ j) (fun ls _ => A.length - (vint (nth ls 0)).toNat) (fun w3 h3 => ?_) ?_
  · refine ⟨0, fun x => x = b ∨ x = m, m, ⟨lim, 0, [], [], fun _ => none⟩, .slice none 0 0, .slice none 0 0, fun _ => false, fun _ => 0, Nat.zero_le _, rfl, ⟨⟨⟨_, _, E0.same (shown_new h3 fun x hx => by simp [BlkIn, nth, blkOf, vaddr] at hx; omega), (fun ad had => by cases had), (fun ad had => by cases had)⟩, .inl rfl, .inr rfl, fun x hx => ?_⟩, given_nil, given_nil, (fun ad had => by cases had), (fun ad had => by cases had), bok_reset, wf_new hl⟩, fun x hx => ?_, (fun ad had => by cases had), (fun ad had => by cases had), Nat.zero_le _⟩
    · have : w2.heap.size ≤ w3.heap.size := h3.kept.size
      rcases hx with rfl | rfl <;> omega
    · rcases hx with rfl | rfl <;> omega
  rintro w3 l w4 h3 hfl ⟨j, S, m, e, r1, r2, Bl, Pg, hj, rfl, hS, hSl, n1, n2, hLj⟩ hk4 hfa4
  obtain ⟨ra, rc, rfl⟩ := hS.g1.1.slice
  obtain ⟨pa, pc, rfl⟩ := hS.g2.1.slice
  have hb := hSl b hS.ev.sb
  have hmm := hSl m hS.ev.sm
  have hA4 := hA.same hk4
  have hAblk := hA.2.2.2
  have lb4 : b4 < w4.heap.size := by
    obtain ⟨x1, q1, l1⟩ := hfa4.1.lt
    cases q1
    exact l1
  refine den_norm (by simp only [List.cons_append, List.nil_append, refC]; rfl) (den_splitLt (fun hlt => ?_) (fun hge => ?_))
  · have hlt' : j < A.length := by simpa [IE.den, nth, vint, vlen] using hlt
    have hx : A[j]? = some (A[j]'hlt') := by simp
    generalize A[j]'hlt' = x at hx
    have hxo := hok x (List.mem_of_getElem? hx)
    intro w5 h5
    refine ⟨fun y => y = b ∨ y = m ∨ y = b4, fun y hy => by simp [BlkIn, nth, blkOf, vaddr] at hy; omega, ?_⟩
    have s5 := shown_same h5
    refine den_idxD (E := clE) (L := A) x j x.cells rfl (by decide) rfl hx ⟨⟨_, rfl⟩, ⟨_, rfl⟩, ⟨_, rfl⟩, ⟨_, rfl⟩, ⟨_, rfl⟩, ⟨_, rfl⟩, trivial⟩ (whole _) (hA4.same s5).1 (fun ad had hin => by have := hAblk ad had; omega) (den_norm (by simp only [List.cons_append, List.nil_append, Cl.cells]; rfl) ?_)
    refine den_callM (fun _ y => y = b ∨ y = m) (fun w6 l w7 => ∃ S' m' r1' r2' Bl' Pg', ∃ (a1 : Option Addr) (c1 : Nat) (a2 : Option Addr) (c2 : Nat), r1' = .slice a1 (stepE e x).R.length c1 ∧ r2' = .slice a2 (stepE e x).L.length c2 ∧ l = [.int .i64 (stepE e x).lim, .int .u32 (stepE e x).cfg, r1', r2', .bool (Bl' 0), .bool (Bl' 1), .bool (Bl' 2), .bool (Bl' 3), .bool (Bl' 4), .bool (Bl' 5), .bool (Bl' 6), .bool (Bl' 7), .int .u8 (Pg' 0), .int .u8 (Pg' 1), .int .u8 (Pg' 2), .int .u8 (Pg' 3), .int .u8 (Pg' 4), .int .u8 (Pg' 5), .int .u8 (Pg' 6), .int .u8 (Pg' 7), .bool true] ∧ Sim w7 S' b m' (stepE e x) r1' r2' Bl' Pg' ∧ (∀ y, S' y → S y ∨ w6.heap.size ≤ y) ∧ Fr w6 (.slice ra e.R.length rc) r1' ∧ Fr w6 (.slice pa e.L.length pc) r2') (fun w6 h6 y hy hlt => ⟨fun _ => by omega, fun hl => absurd (show y < w.heap.size from hl) (by omega), fun hin => by simp [BlkIn, nth, blkOf, vaddr] at hin; omega, fun hx => by cases hx⟩) (fun w6 h6 => ?_) ?_
    · refine (c26 w6 S b m e (.slice ra e.R.length rc) (.slice pa e.L.length pc) Bl Pg x hxo ((hS.same s5).same (shown_same h6)) (by omega)).mono (fun v w' ⟨S', m', r1', r2', Bl', Pg', q1, q2, q3, q4, q5, q6⟩ _ => ?_) fun _ _ h => h
      obtain ⟨a1, c1, rfl⟩ := q2.g1.1.slice
      obtain ⟨a2, c2, rfl⟩ := q2.g2.1.slice
      exact ⟨[.int .i64 (stepE e x).lim, .int .u32 (stepE e x).cfg, (.slice a1 (stepE e x).R.length c1), (.slice a2 (stepE e x).L.length c2), .bool (Bl' 0), .bool (Bl' 1), .bool (Bl' 2), .bool (Bl' 3), .bool (Bl' 4), .bool (Bl' 5), .bool (Bl' 6), .bool (Bl' 7), .int .u8 (Pg' 0), .int .u8 (Pg' 1), .int .u8 (Pg' 2), .int .u8 (Pg' 3), .int .u8 (Pg' 4), .int .u8 (Pg' 5), .int .u8 (Pg' 6), .int .u8 (Pg' 7), .bool true], ⟨⟨_, rfl⟩, ⟨_, rfl⟩, ⟨_, _, _, rfl⟩, ⟨_, _, _, rfl⟩, ⟨_, rfl⟩, ⟨_, rfl⟩, ⟨_, rfl⟩, ⟨_, rfl⟩, ⟨_, rfl⟩, ⟨_, rfl⟩, ⟨_, rfl⟩, ⟨_, rfl⟩, ⟨_, rfl⟩, ⟨_, rfl⟩, ⟨_, rfl⟩, ⟨_, rfl⟩, ⟨_, rfl⟩, ⟨_, rfl⟩, ⟨_, rfl⟩, ⟨_, rfl⟩, ⟨_, rfl⟩, trivial⟩, q1, ⟨S', m', _, _, Bl', Pg', a1, c1, a2, c2, rfl, rfl, rfl, q2, q3, q5, q6⟩, trivial⟩
    rintro w6 l w7 h6 _ ⟨S', m', r1', r2', Bl', Pg', a1, c1, a2, c2, rfl, rfl, rfl, hS7, hsub, f1, f2⟩ k67
    have l46 : b4 < w6.heap.size := h6.lt (i := 4) (by simp [keys]) rfl
    have z46 : w4.heap.size ≤ w6.heap.size := Nat.le_trans h5.kept.size h6.kept.size
    have zw6 : w.heap.size ≤ w6.heap.size := Nat.le_trans hk4.size z46
    have nS : ∀ y, S' y → w.heap.size ≤ y ∧ ¬ (y = b4) := fun y hy => by
      rcases hsub y hy with h | h
      · exact hSl y h
      · omega
    have nr1 : In (fun y => ¬ (y = b4)) (.slice a1 (stepE e x).R.length c1) := f1.in n1 (fun y hy => hy) fun y hy => by omega
    have nr2 : In (fun y => ¬ (y = b4)) (.slice a2 (stepE e x).L.length c2) := f2.in n2 (fun y hy => hy) fun y hy => by omega
    have hLs := step_L hS.wf x
    refine den_norm (by simp only [List.cons_append, List.nil_append]; rfl) (den_split_false rfl (den_ob64 (by simp only [IE.den, nth, vint]; omega) (den_leaf' fun w8 h8 => (if_pos rfl).mpr ⟨⟨j + 1, S', m', stepE e x, _, _, Bl', Pg', by omega, rfl, hS7.kept h8.kept (fun y hy hin => by have := nS y hy; simp [BlkIn, nth, blkOf, vaddr] at hin; omega) (fun ad had hin => by have := nr1 ad had; simp [BlkIn, nth, blkOf, vaddr] at hin; omega) (fun ad had hin => by have := nr2 ad had; simp [BlkIn, nth, blkOf, vaddr] at hin; omega), nS, nr1, nr2, by omega⟩, ?_⟩)))
    simp only [denL, SV.den, IE.den, nth, vint]; omega
  refine den_call_bool (b := true) (fun wa _ => c16 wa) rfl (fun _ _ h8 h9 => den_norm (by simp only [List.cons_append, List.nil_append]; rfl) (den_leaf' fun wz hz => (if_neg (by decide)).mpr ⟨rfl, hz.base⟩))

theorem c6 (lim : Int) (A : List Cl) (s : Value) (w : World) (hA : Given clE w s A) (hAl : A.length < 9223372036854775808) (hok : ∀ a ∈ A, a.Ok) : Gives Try.prog 6 [.int .i64 lim, s] w (.bool true) := by
  obtain ⟨a, c, rfl⟩ := hA.1.slice
  refine gives mix t6 rfl rfl (ε := [.int .i64 lim, .slice a A.length c]) ⟨⟨_, rfl⟩, ⟨_, _, _, rfl⟩, trivial⟩ ?_
  refine den_callR (fun w1 l w2 => ((lim < 1 ∨ 16 < lim) ∧ l = [.pointer none, .int .i64 2]) ∨ ((1 ≤ lim ∧ lim ≤ 16) ∧ ∃ b m, l = [pt b, .int .i64 0] ∧ EvAt w2 b m (.slice none 0 0) (.slice none 0 0) ⟨lim, 0, [], [], fun _ => none⟩ ∧ w1.heap.size ≤ b ∧ w1.heap.size ≤ m)) (fun w1 h1 => ?_) ?_
  · refine (c17 lim w1).mono fun v w' hv => ?_
    rcases hv with ⟨hl, rfl⟩ | ⟨hl, b, m, rfl, E, q1, q2⟩
    · exact ⟨[.pointer none, .int .i64 2], ⟨⟨_, rfl⟩, ⟨_, rfl⟩, trivial⟩, rfl, .inl ⟨hl, rfl⟩⟩
    · exact ⟨[pt b, .int .i64 0], ⟨⟨_, rfl⟩, ⟨_, rfl⟩, trivial⟩, rfl, .inr ⟨hl, b, m, rfl, E, q1, q2⟩⟩
  rintro w1 l w2 h1 _ (⟨hl, rfl⟩ | ⟨hl, b, m, rfl, E0, hb1, hm1⟩) k12
  · exact den_norm (by simp only [List.cons_append, List.nil_append]; rfl) (den_split_true rfl (den_call_bool (b := true) (fun wa _ => c16 wa) rfl (fun _ _ _ _ => den_norm (by simp only [List.cons_append, List.nil_append]; rfl) (den_leaf rfl))))
  refine den_norm (by simp only [List.cons_append, List.nil_append]; rfl) (den_split_false rfl (den_splitLt (fun h80 => ?_) (fun h80 => ?_)))
  · exact den_call_bool (b := true) (fun wa _ => c16 wa) rfl (fun _ _ _ _ => den_norm (by simp only [List.cons_append, List.nil_append]; rfl) (den_leaf rfl))
  have hA80 : A.length ≤ 80 := by
    have : (A.length : Int) ≤ 80 := h80
    omega
  refine den_blk fun b4 k4 k4' _ => den_norm (by simp only [List.cons_append, List.nil_append]; rfl) ?_
  have z4 : w2.heap.size ≤ b4 := k4'
  have z1 : w.heap.size ≤ w1.heap.size := h1.base.size
  have z12 : w1.heap.size ≤ w2.heap.size := k12.size
  have lb := E0.lt
  have lm := E0.map.lt
  refine den_loop (fun ls w' => ∃ (j : Nat) (S : Nat → Prop) (m : Nat) (e : Ev) (r1 r2 : Value) (Bl : Nat → Bool) (Pg : Nat → Int), j ≤ A.length ∧ ls = .int .i64 (j : Int) :: refC e.lim e.cfg r1 r2 Bl Pg ∧ Sim w' S b m e r1 r2 Bl Pg ∧ (∀ x, S x → w.heap.size ≤ x ∧ ¬ (x = b4)) ∧ In (fun x => ¬ (x = b4)) r1 ∧ In (fun x => ¬ (x = b4)) r2 ∧ e.L.length ≤ j) (fun ls _ => A.length - (vint (nth ls 0)).toNat) (fun w3 h3 => ?_) ?_
  · refine ⟨0, fun x => x = b ∨ x = m, m, ⟨lim, 0, [], [], fun _ => none⟩, .slice none 0 0, .slice none 0 0, fun _ => false, fun _ => 0, Nat.zero_le _, rfl, ⟨⟨⟨_, _, E0.same (shown_new h3 fun x hx => by simp [BlkIn, nth, blkOf, vaddr] at hx; omega), (fun ad had => by cases had), (fun ad had => by cases had)⟩, .inl rfl, .inr rfl, fun x hx => ?_⟩, given_nil, given_nil, (fun ad had => by cases had), (fun ad had => by cases had), bok_reset, wf_new hl⟩, fun x hx => ?_, (fun ad had => by cases had), (fun ad had => by cases had), Nat.zero_le _⟩
    · have : w2.heap.size ≤ w3.heap.size := h3.kept.size
      rcases hx with rfl | rfl <;> omega
    · rcases hx with rfl | rfl <;> omega
  rintro w3 l w4 h3 hfl ⟨j, S, m, e, r1, r2, Bl, Pg, hj, rfl, hS, hSl, n1, n2, hLj⟩ hk4 hfa4
  obtain ⟨ra, rc, rfl⟩ := hS.g1.1.slice
  obtain ⟨pa, pc, rfl⟩ := hS.g2.1.slice
  have hb := hSl b hS.ev.sb
  have hmm := hSl m hS.ev.sm
  have hA4 := hA.same hk4
  have hAblk := hA.2.2.2
  have lb4 : b4 < w4.heap.size := by
    obtain ⟨x1, q1, l1⟩ := hfa4.1.lt
    cases q1
    exact l1
  refine den_norm (by simp only [List.cons_append, List.nil_append, refC]; rfl) (den_splitLt (fun hlt => ?_) (fun hge => ?_))
  · have hlt' : j < A.length := by simpa [IE.den, nth, vint, vlen] using hlt
    have hx : A[j]? = some (A[j]'hlt') := by simp
    generalize A[j]'hlt' = x at hx
    have hxo := hok x (List.mem_of_getElem? hx)
    intro w5 h5
    refine ⟨fun y => y = b ∨ y = m ∨ y = b4, fun y hy => by simp [BlkIn, nth, blkOf, vaddr] at hy; omega, ?_⟩
    have s5 := shown_same h5
    refine den_idxD (E := clE) (L := A) x j x.cells rfl (by decide) rfl hx ⟨⟨_, rfl⟩, ⟨_, rfl⟩, ⟨_, rfl⟩, ⟨_, rfl⟩, ⟨_, rfl⟩, ⟨_, rfl⟩, trivial⟩ (whole _) (hA4.same s5).1 (fun ad had hin => by have := hAblk ad had; omega) (den_norm (by simp only [List.cons_append, List.nil_append, Cl.cells]; rfl) ?_)
    refine den_callM (fun _ y => y = b ∨ y = m) (fun w6 l w7 => ∃ S' m' r1' r2' Bl' Pg', ∃ (a1 : Option Addr) (c1 : Nat) (a2 : Option Addr) (c2 : Nat), r1' = .slice a1 (stepE e x).R.length c1 ∧ r2' = .slice a2 (stepE e x).L.length c2 ∧ l = [.int .i64 (stepE e x).lim, .int .u32 (stepE e x).cfg, r1', r2', .bool (Bl' 0), .bool (Bl' 1), .bool (Bl' 2), .bool (Bl' 3), .bool (Bl' 4), .bool (Bl' 5), .bool (Bl' 6), .bool (Bl' 7), .int .u8 (Pg' 0), .int .u8 (Pg' 1), .int .u8 (Pg' 2), .int .u8 (Pg' 3), .int .u8 (Pg' 4), .int .u8 (Pg' 5), .int .u8 (Pg' 6), .int .u8 (Pg' 7), .bool true] ∧ Sim w7 S' b m' (stepE e x) r1' r2' Bl' Pg' ∧ (∀ y, S' y → S y ∨ w6.heap.size ≤ y) ∧ Fr w6 (.slice ra e.R.length rc) r1' ∧ Fr w6 (.slice pa e.L.length pc) r2') (fun w6 h6 y hy hlt => ⟨fun _ => by omega, fun hl => absurd (show y < w.heap.size from hl) (by omega), fun hin => by simp [BlkIn, nth, blkOf, vaddr] at hin; omega, fun hx => by cases hx⟩) (fun w6 h6 => ?_) ?_
    · refine (c26 w6 S b m e (.slice ra e.R.length rc) (.slice pa e.L.length pc) Bl Pg x hxo ((hS.same s5).same (shown_same h6)) (by omega)).mono (fun v w' ⟨S', m', r1', r2', Bl', Pg', q1, q2, q3, q4, q5, q6⟩ _ => ?_) fun _ _ h => h
      obtain ⟨a1, c1, rfl⟩ := q2.g1.1.slice
      obtain ⟨a2, c2, rfl⟩ := q2.g2.1.slice
      exact ⟨[.int .i64 (stepE e x).lim, .int .u32 (stepE e x).cfg, (.slice a1 (stepE e x).R.length c1), (.slice a2 (stepE e x).L.length c2), .bool (Bl' 0), .bool (Bl' 1), .bool (Bl' 2), .bool (Bl' 3), .bool (Bl' 4), .bool (Bl' 5), .bool (Bl' 6), .bool (Bl' 7), .int .u8 (Pg' 0), .int .u8 (Pg' 1), .int .u8 (Pg' 2), .int .u8 (Pg' 3), .int .u8 (Pg' 4), .int .u8 (Pg' 5), .int .u8 (Pg' 6), .int .u8 (Pg' 7), .bool true], ⟨⟨_, rfl⟩, ⟨_, rfl⟩, ⟨_, _, _, rfl⟩, ⟨_, _, _, rfl⟩, ⟨_, rfl⟩, ⟨_, rfl⟩, ⟨_, rfl⟩, ⟨_, rfl⟩, ⟨_, rfl⟩, ⟨_, rfl⟩, ⟨_, rfl⟩, ⟨_, rfl⟩, ⟨_, rfl⟩, ⟨_, rfl⟩, ⟨_, rfl⟩, ⟨_, rfl⟩, ⟨_, rfl⟩, ⟨_, rfl⟩, ⟨_, rfl⟩, ⟨_, rfl⟩, ⟨_, rfl⟩, trivial⟩, q1, ⟨S', m', _, _, Bl', Pg', a1, c1, a2, c2, rfl, rfl, rfl, q2, q3, q5, q6⟩, trivial⟩
    rintro w6 l w7 h6 _ ⟨S', m', r1', r2', Bl', Pg', a1, c1, a2, c2, rfl, rfl, rfl, hS7, hsub, f1, f2⟩ k67
    have l46 : b4 < w6.heap.size := h6.lt (i := 4) (by simp [keys]) rfl
    have z46 : w4.heap.size ≤ w6.heap.size := Nat.le_trans h5.kept.size h6.kept.size
    have zw6 : w.heap.size ≤ w6.heap.size := Nat.le_trans hk4.size z46
    have nS : ∀ y, S' y → w.heap.size ≤ y ∧ ¬ (y = b4) := fun y hy => by
      rcases hsub y hy with h | h
      · exact hSl y h
      · omega
    have nr1 : In (fun y => ¬ (y = b4)) (.slice a1 (stepE e x).R.length c1) := f1.in n1 (fun y hy => hy) fun y hy => by omega
    have nr2 : In (fun y => ¬ (y = b4)) (.slice a2 (stepE e x).L.length c2) := f2.in n2 (fun y hy => hy) fun y hy => by omega
    have hLs := step_L hS.wf x
    refine den_norm (by simp only [List.cons_append, List.nil_append]; rfl) (den_ob64 (by simp only [IE.den, nth, vint]; omega) (den_leaf' fun w8 h8 => (if_pos rfl).mpr ⟨⟨j + 1, S', m', stepE e x, _, _, Bl', Pg', by omega, rfl, hS7.kept h8.kept (fun y hy hin => by have := nS y hy; simp [BlkIn, nth, blkOf, vaddr] at hin; omega) (fun ad had hin => by have := nr1 ad had; simp [BlkIn, nth, blkOf, vaddr] at hin; omega) (fun ad had hin => by have := nr2 ad had; simp [BlkIn, nth, blkOf, vaddr] at hin; omega), nS, nr1, nr2, by omega⟩, ?_⟩))
    simp only [denL, SV.den, IE.den, nth, vint]; omega

  obtain ⟨ag1, ag2⟩ := dl_again e.L e.R e.B
  refine den_callM (fun _ y => y = b ∨ y = m) (fun w6 l w7 => ∃ oa oc, l = [.slice oa (dl e.L e.R e.B).out.length oc] ∧ ∃ S', EvS w7 S' b m (dlE e)) (fun w6 h6 y hy hlt => ⟨fun hd => (by cases hd), fun hl => absurd (show y < w.heap.size from hl) (by omega), fun hin => by simp [BlkIn, nth, blkOf, vaddr] at hin; omega, fun hx => by cases hx⟩) (fun w6 h6 => ?_) ?_
  · refine (m22 (hS.ev.same (shown_same h6)) hS.wf (by omega)).mono (fun v w' ⟨⟨p1, p2⟩, p3⟩ _ => ?_) fun _ _ h => h
    obtain ⟨oa, oc, rfl⟩ := p1.slice
    exact ⟨[.slice oa (dl e.L e.R e.B).out.length oc], ⟨⟨_, _, _, rfl⟩, trivial⟩, rfl, ⟨oa, oc, rfl, _, p3⟩, trivial⟩
  rintro w6 l w7 h6 _ ⟨oa, oc, rfl, S7, EV7⟩ k67
  have hw7 := hS.wf.dl
  have lL : (dlE e).L.length ≤ e.L.length := (dl_wf e.L e.R e.B hS.wf.L hS.wf.B).2.2.2
  refine den_norm (by simp only [List.cons_append, List.nil_append]; rfl) ?_
  refine den_callR (fun w8 l w9 => ∃ oa oc, l = [.slice oa (dlE e).R.length oc]) (fun w8 h8 => ?_) ?_
  · refine (m25 (EV7.same (shown_same h8)) hw7).mono fun v w' ⟨a', c', q1, q2⟩ => ?_
    exact ⟨[.slice a' (dlE e).R.length c'], ⟨⟨_, _, _, rfl⟩, trivial⟩, q1, a', c', rfl⟩
  rintro w8 l w9 h8 _ ⟨oa2, oc2, rfl⟩ k89
  have EV9 := (EV7.same (shown_same h8)).same k89
  refine den_norm (by simp only [List.cons_append, List.nil_append]; rfl) ?_
  refine den_callM (fun _ y => y = b ∨ y = m) (fun w6 l w7 => ∃ oa oc, l = [.slice oa 0 oc] ∧ ∃ S', EvS w7 S' b m (dlE (dlE e))) (fun w6 h6 y hy hlt => ⟨fun hd => (by cases hd), fun hl => absurd (show y < w.heap.size from hl) (by omega), fun hin => by simp [BlkIn, nth, blkOf, vaddr] at hin; omega, fun hx => by cases hx⟩) (fun w10 h10 => ?_) ?_
  · refine (m22 (EV9.same (shown_same h10)) hw7 (by omega)).mono (fun v w' ⟨⟨p1, p2⟩, p3⟩ _ => ?_) fun _ _ h => h
    have e0 : (dl (dlE e).L (dlE e).R (dlE e).B).out = [] := ag1
    rw [e0] at p1
    obtain ⟨oa, oc, rfl⟩ := p1.slice
    exact ⟨[.slice oa 0 oc], ⟨⟨_, _, _, rfl⟩, trivial⟩, rfl, ⟨oa, oc, rfl, _, p3⟩, trivial⟩
  rintro w10 l w11 h10 _ ⟨oa3, oc3, rfl, S11, EV11⟩ k1011
  have hw11 := hw7.dl
  refine den_norm (by simp only [List.cons_append, List.nil_append]; rfl) (den_split_true rfl ?_)
  refine den_callR (fun w8 l w9 => ∃ oa oc, l = [.slice oa (dlE e).R.length oc]) (fun w12 h12 => ?_) ?_
  · refine (m25 (EV11.same (shown_same h12)) hw11).mono fun v w' ⟨a', c', q1, q2⟩ => ?_
    have e0 : (dlE (dlE e)).R = (dlE e).R := ag2
    rw [e0] at q1
    exact ⟨[.slice a' (dlE e).R.length c'], ⟨⟨_, _, _, rfl⟩, trivial⟩, q1, a', c', rfl⟩
  rintro w12 l w13 h12 _ ⟨oa4, oc4, rfl⟩ k1213
  refine den_norm (by simp only [List.cons_append, List.nil_append]; rfl) (den_split_true (by simp [BE.den, IE.den, nth, vlen]) ?_)
  exact den_call_bool (b := true) (fun wa _ => c16 wa) rfl (fun _ _ h8 h9 => den_norm (by simp only [List.cons_append, List.nil_append]; rfl) (den_leaf' fun wz hz => (if_neg (by decide)).mpr ⟨rfl, hz.base⟩))
end Go.Proofs.Ytfjlnfgbfclgbaa
