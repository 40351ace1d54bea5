/- The law EventLists. No conditions beyond those that each theorem names. -/
import Derived.Test.YtfjlnfgbfclgbaaW
import Derived.Test.YtfjlnfgbfclgbaaTL
set_option maxRecDepth 100000
set_option maxHeartbeats 4000000
set_option linter.unusedVariables false
set_option linter.unusedSimpArgs false
namespace Go.Proofs.Ytfjlnfgbfclgbaa
open Go.Sx

/-- what is left of two turns -/
def left2 (ls : List Value) (w : World) : Nat := match blkOf (nth ls 0) with
  | some b => (2 - vint ((w.cell? ⟨b, 0, none⟩).getD (.bool false))).toNat
  | none => 0
theorem left2_eq {b : Nat} {turn : Nat} {w : World} (h : HasBlk w (pt b) [.int .i64 turn]) : left2 [pt b] w = 2 - turn := by
  obtain ⟨b', e, hc⟩ := h.pts.at_
  cases e
  have := hc 0 (.int .i64 turn) rfl
  simp only [left2, nth, blkOf, vaddr, Option.map_some, this, Option.getD_some, vint]
  omega
/-- an iterator over notices, and the list that it goes through -/
structure Lst (w : World) (fv r2 : Value) (L : List Ntc) (lo hi : Nat) (P : Nat → Prop) : Prop where
  sq : SeqAt Try.prog lo hi w fv (ysN L)
  g : Given ntcE w r2 L
  n : In (fun x => x < hi ∧ ¬ P x) r2
  p : ∀ x, P x → x < lo
theorem Lst.kept {w w' : World} {fv r2 : Value} {L : List Ntc} {lo hi : Nat} {P M : Nat → Prop} (h : Lst w fv r2 L lo hi P) (hk : Kept M w w') (hM : ∀ x, M x → P x ∨ hi ≤ x) : Lst w' fv r2 L lo hi P :=
  ⟨h.sq.kept hk fun x h1 h2 _ hm => by
    rcases hM x hm with hp | hp
    · have := h.p x hp
      omega
    · omega, h.g.kept hk fun ad had hm => by
    have := h.n ad had
    rcases hM _ hm with hp | hp
    · exact this.2 hp
    · omega, h.n, h.p⟩
theorem Lst.same {w w' : World} {fv r2 : Value} {L : List Ntc} {lo hi : Nat} {P : Nat → Prop} (h : Lst w fv r2 L lo hi P) (hk : Same w w') : Lst w' fv r2 L lo hi P := h.kept hk fun _ h => h.elim
theorem Lst.quiet {w w' : World} {fv r2 : Value} {L : List Ntc} {lo hi : Nat} {P : Nat → Prop} (h : Lst w fv r2 L lo hi P) (hk : Quiet w w') : Lst w' fv r2 L lo hi P :=
  ⟨h.sq.kept hk fun _ _ _ h => h, h.g.quiet hk, h.n, h.p⟩

theorem c7 (lim : Int) (A : List Cl) (s : Value) (many : Int) (w : World) (hA : Given clE w s A) (hAl : A.length < 9223372036854775808) (hok : ∀ a ∈ A, a.Ok) : Gives Try.prog 7 [.int .i64 lim, s, .int .i64 many] w (.bool true) := by
  obtain ⟨a, c, rfl⟩ := hA.1.slice
  refine Runs.gives ?_
  have hh := runs mix t7 rfl rfl (ε := [.int .i64 lim, .slice a A.length c, .int .i64 many]) (heap := []) (w := w) (M := fun _ => False) (R := fun v _ => v = .bool true) ⟨⟨_, rfl⟩, ⟨_, _, _, rfl⟩, ⟨_, rfl⟩, trivial⟩ trivial (by simp [keys]) (by simp [keys]) (by simp [keys]) ?_
  · exact hh
  refine den_blk fun b3 k3 _ _ => den_norm (by simp only [List.cons_append, List.nil_append]; rfl) (den_blk fun b0 k0 _ _ => den_norm (by simp only [List.cons_append, List.nil_append]; rfl) ?_)
  have z3 : w.heap.size ≤ b3 := k3
  have z0 : w.heap.size ≤ b0 := k0
  refine den_callR (fun w1 l w2 => ((lim < 1 ∨ 16 < lim) ∧ l = [.pointer none, .int .i64 2]) ∨ ((1 ≤ lim ∧ lim ≤ 16) ∧ ∃ b m, l = [pt b, .int .i64 0] ∧ EvAt w2 b m (.slice none 0 0) (.slice none 0 0) ⟨lim, 0, [], [], fun _ => none⟩ ∧ w1.heap.size ≤ b ∧ w1.heap.size ≤ m)) (fun w1 h1 => ?_) ?_
  · refine (c17 lim w1).mono fun v w' hv => ?_
    rcases hv with ⟨hl, rfl⟩ | ⟨hl, b, m, rfl, E, q1, q2⟩
    · exact ⟨[.pointer none, .int .i64 2], ⟨⟨_, rfl⟩, ⟨_, rfl⟩, trivial⟩, rfl, .inl ⟨hl, rfl⟩⟩
    · exact ⟨[pt b, .int .i64 0], ⟨⟨_, rfl⟩, ⟨_, rfl⟩, trivial⟩, rfl, .inr ⟨hl, b, m, rfl, E, q1, q2⟩⟩
  rintro w1 l w2 h1 _ (⟨hl, rfl⟩ | ⟨hl, b, m, rfl, E0, hb1, hm1⟩) k12
  · exact den_norm (by simp only [List.cons_append, List.nil_append]; rfl) (den_split_true rfl (den_call_bool (b := true) (fun wa _ => c16 wa) rfl (fun _ _ _ _ => den_norm (by simp only [List.cons_append, List.nil_append]; rfl) (den_leafMA _ rfl fun _ _ _ _ => rfl))))
  refine den_norm (by simp only [List.cons_append, List.nil_append]; rfl) (den_split_false rfl (den_splitLt (fun h80 => ?_) (fun h80 => ?_)))
  · exact den_call_bool (b := true) (fun wa _ => c16 wa) rfl (fun _ _ _ _ => den_norm (by simp only [List.cons_append, List.nil_append]; rfl) (den_leafMA _ rfl fun _ _ _ _ => rfl))
  have l3 : b3 < w1.heap.size := h1.lt (i := 3) (by simp [keys]) rfl
  have l0 : b0 < w1.heap.size := h1.lt (i := 4) (by simp [keys]) rfl
  have hA80 : A.length ≤ 80 := by
    have : (A.length : Int) ≤ 80 := h80
    omega
  refine den_blk fun b4 k4 k4' _ => den_norm (by simp only [List.cons_append, List.nil_append]; rfl) ?_
  have z4 : w2.heap.size ≤ b4 := k4'
  have z1 : w.heap.size ≤ w1.heap.size := h1.base.size
  have z12 : w1.heap.size ≤ w2.heap.size := k12.size
  have lb := E0.lt
  have lm := E0.map.lt
  refine den_loop (fun ls w' => ∃ (j : Nat) (S : Nat → Prop) (m : Nat) (e : Ev) (r1 r2 : Value) (Bl : Nat → Bool) (Pg : Nat → Int), j ≤ A.length ∧ ls = .int .i64 (j : Int) :: refC e.lim e.cfg r1 r2 Bl Pg ∧ Sim w' S b m e r1 r2 Bl Pg ∧ (∀ x, S x → w.heap.size ≤ x ∧ ¬ (x = b3 ∨ x = b0 ∨ x = b4)) ∧ In (fun x => ¬ (x = b3 ∨ x = b0 ∨ x = b4)) r1 ∧ In (fun x => ¬ (x = b3 ∨ x = b0 ∨ x = b4)) r2 ∧ e.L.length ≤ j) (fun ls _ => A.length - (vint (nth ls 0)).toNat) (fun w3 h3 => ?_) ?_
  · refine ⟨0, fun x => x = b ∨ x = m, m, ⟨lim, 0, [], [], fun _ => none⟩, .slice none 0 0, .slice none 0 0, fun _ => false, fun _ => 0, Nat.zero_le _, rfl, ⟨⟨⟨_, _, E0.same (shown_new h3 fun x hx => by simp [BlkIn, nth, blkOf, vaddr] at hx; omega), (fun ad had => by cases had), (fun ad had => by cases had)⟩, .inl rfl, .inr rfl, fun x hx => ?_⟩, given_nil, given_nil, (fun ad had => by cases had), (fun ad had => by cases had), bok_reset, wf_new hl⟩, fun x hx => ?_, (fun ad had => by cases had), (fun ad had => by cases had), Nat.zero_le _⟩
    · have : w2.heap.size ≤ w3.heap.size := h3.kept.size
      rcases hx with rfl | rfl <;> omega
    · rcases hx with rfl | rfl <;> omega
  rintro w3 l w4 h3 hfl ⟨j, S, m, e, r1, r2, Bl, Pg, hj, rfl, hS, hSl, n1, n2, hLj⟩ hk4 hfa4
  obtain ⟨ra, rc, rfl⟩ := hS.g1.1.slice
  obtain ⟨pa, pc, rfl⟩ := hS.g2.1.slice
  have hb := hSl b hS.ev.sb
  have hmm := hSl m hS.ev.sm
  have hA4 := hA.same hk4
  have hAblk := hA.2.2.2
  have lb4 : b4 < w4.heap.size ∧ b0 < w4.heap.size ∧ b3 < w4.heap.size := by
    obtain ⟨x1, q1, l1⟩ := hfa4.1.lt
    obtain ⟨x2, q2, l2⟩ := hfa4.2.1.lt
    obtain ⟨x3, q3, l3⟩ := hfa4.2.2.1.lt
    cases q1
    cases q2
    cases q3
    exact ⟨l1, l2, l3⟩
  refine den_norm (by simp only [List.cons_append, List.nil_append, refC]; rfl) (den_splitLt (fun hlt => ?_) (fun hge => ?_))
  · have hlt' : j < A.length := by simpa [IE.den, nth, vint, vlen] using hlt
    have hx : A[j]? = some (A[j]'hlt') := by simp
    generalize A[j]'hlt' = x at hx
    have hxo := hok x (List.mem_of_getElem? hx)
    intro w5 h5
    refine ⟨fun y => y = b ∨ y = m ∨ y = b4 ∨ y = b3 ∨ y = b0, fun y hy => by simp [BlkIn, nth, blkOf, vaddr] at hy; omega, ?_⟩
    have s5 := shown_same h5
    refine den_idxD (E := clE) (L := A) x j x.cells rfl (by decide) rfl hx ⟨⟨_, rfl⟩, ⟨_, rfl⟩, ⟨_, rfl⟩, ⟨_, rfl⟩, ⟨_, rfl⟩, ⟨_, rfl⟩, trivial⟩ (whole _) (hA4.same s5).1 (fun ad had hin => by have := hAblk ad had; omega) (den_norm (by simp only [List.cons_append, List.nil_append, Cl.cells]; rfl) ?_)
    refine den_callM (fun _ y => y = b ∨ y = m) (fun w6 l w7 => ∃ S' m' r1' r2' Bl' Pg', ∃ (a1 : Option Addr) (c1 : Nat) (a2 : Option Addr) (c2 : Nat), r1' = .slice a1 (stepE e x).R.length c1 ∧ r2' = .slice a2 (stepE e x).L.length c2 ∧ l = [.int .i64 (stepE e x).lim, .int .u32 (stepE e x).cfg, r1', r2', .bool (Bl' 0), .bool (Bl' 1), .bool (Bl' 2), .bool (Bl' 3), .bool (Bl' 4), .bool (Bl' 5), .bool (Bl' 6), .bool (Bl' 7), .int .u8 (Pg' 0), .int .u8 (Pg' 1), .int .u8 (Pg' 2), .int .u8 (Pg' 3), .int .u8 (Pg' 4), .int .u8 (Pg' 5), .int .u8 (Pg' 6), .int .u8 (Pg' 7), .bool true] ∧ Sim w7 S' b m' (stepE e x) r1' r2' Bl' Pg' ∧ (∀ y, S' y → S y ∨ w6.heap.size ≤ y) ∧ Fr w6 (.slice ra e.R.length rc) r1' ∧ Fr w6 (.slice pa e.L.length pc) r2') (fun w6 h6 y hy hlt => ⟨fun _ => by omega, fun hl => absurd (show y < w.heap.size from hl) (by omega), fun hin => by simp [BlkIn, nth, blkOf, vaddr] at hin; omega, fun _ => ((hS.same s5).same (shown_same h6)).ev.nr hy⟩) (fun w6 h6 => ?_) ?_
    · refine (c26 w6 S b m e (.slice ra e.R.length rc) (.slice pa e.L.length pc) Bl Pg x hxo ((hS.same s5).same (shown_same h6)) (by omega)).mono (fun v w' ⟨S', m', r1', r2', Bl', Pg', q1, q2, q3, q4, q5, q6⟩ _ => ?_) fun _ _ h => h
      obtain ⟨a1, c1, rfl⟩ := q2.g1.1.slice
      obtain ⟨a2, c2, rfl⟩ := q2.g2.1.slice
      exact ⟨[.int .i64 (stepE e x).lim, .int .u32 (stepE e x).cfg, (.slice a1 (stepE e x).R.length c1), (.slice a2 (stepE e x).L.length c2), .bool (Bl' 0), .bool (Bl' 1), .bool (Bl' 2), .bool (Bl' 3), .bool (Bl' 4), .bool (Bl' 5), .bool (Bl' 6), .bool (Bl' 7), .int .u8 (Pg' 0), .int .u8 (Pg' 1), .int .u8 (Pg' 2), .int .u8 (Pg' 3), .int .u8 (Pg' 4), .int .u8 (Pg' 5), .int .u8 (Pg' 6), .int .u8 (Pg' 7), .bool true], ⟨⟨_, rfl⟩, ⟨_, rfl⟩, ⟨_, _, _, rfl⟩, ⟨_, _, _, rfl⟩, ⟨_, rfl⟩, ⟨_, rfl⟩, ⟨_, rfl⟩, ⟨_, rfl⟩, ⟨_, rfl⟩, ⟨_, rfl⟩, ⟨_, rfl⟩, ⟨_, rfl⟩, ⟨_, rfl⟩, ⟨_, rfl⟩, ⟨_, rfl⟩, ⟨_, rfl⟩, ⟨_, rfl⟩, ⟨_, rfl⟩, ⟨_, rfl⟩, ⟨_, rfl⟩, ⟨_, rfl⟩, trivial⟩, q1, ⟨S', m', _, _, Bl', Pg', a1, c1, a2, c2, rfl, rfl, rfl, q2, q3, q5, q6⟩, trivial⟩
    rintro w6 l w7 h6 _ ⟨S', m', r1', r2', Bl', Pg', a1, c1, a2, c2, rfl, rfl, rfl, hS7, hsub, f1, f2⟩ k67
    have l46 : b4 < w6.heap.size := h6.lt (i := 7) (by simp [keys]) rfl
    have z46 : w4.heap.size ≤ w6.heap.size := Nat.le_trans h5.kept.size h6.kept.size
    have zw6 : w.heap.size ≤ w6.heap.size := Nat.le_trans hk4.size z46
    have nS : ∀ y, S' y → w.heap.size ≤ y ∧ ¬ (y = b3 ∨ y = b0 ∨ y = b4) := fun y hy => by
      rcases hsub y hy with h | h
      · exact hSl y h
      · omega
    have nr1 : In (fun y => ¬ (y = b3 ∨ y = b0 ∨ y = b4)) (.slice a1 (stepE e x).R.length c1) := f1.in n1 (fun y hy => hy) fun y hy => by omega
    have nr2 : In (fun y => ¬ (y = b3 ∨ y = b0 ∨ y = b4)) (.slice a2 (stepE e x).L.length c2) := f2.in n2 (fun y hy => hy) fun y hy => by omega
    have hLs := step_L hS.wf x
    refine den_norm (by simp only [List.cons_append, List.nil_append]; rfl) (den_ob64 (by simp only [IE.den, nth, vint]; omega) (den_leaf' fun w8 h8 => (if_pos rfl).mpr ⟨⟨j + 1, S', m', stepE e x, _, _, Bl', Pg', by omega, rfl, hS7.kept h8.kept (fun y hy hin => by have := nS y hy; simp [BlkIn, nth, blkOf, vaddr] at hin; omega) (fun ad had hin => by have := nr1 ad had; simp [BlkIn, nth, blkOf, vaddr] at hin; omega) (fun ad had hin => by have := nr2 ad had; simp [BlkIn, nth, blkOf, vaddr] at hin; omega), nS, nr1, nr2, by omega⟩, ?_⟩))
    simp only [denL, SV.den, IE.den, nth, vint]; omega
  refine den_callR (fun w5 l w6 => ∃ v, l = [v] ∧ SeqAt Try.prog w5.heap.size w6.heap.size w6 v (ysN e.L)) (fun w5 h5 => ?_) ?_
  · obtain ⟨s1, s2, E, _, _⟩ := (hS.same (shown_same h5)).ev.ex
    refine (c24 b m _ _ e w5 E hS.wf.ne (by omega)).mono fun v w' hs => ⟨[v], ?_, ?_, v, rfl, hs⟩
    · obtain ⟨g, caps, Ft, rfl, _⟩ := hs.ex
      exact ⟨rfl, trivial⟩
    · rfl
  rintro w5 l w6 h5 _ ⟨fv, rfl, hsq⟩ h56
  have hfn : vnil fv = false := by
    obtain ⟨g, caps, Ft, rfl, _⟩ := hsq.ex
    rfl
  have z45 : w4.heap.size ≤ w5.heap.size := h5.kept.size
  have z56 : w5.heap.size ≤ w6.heap.size := h56.size
  have zw4 : w.heap.size ≤ w4.heap.size := hk4.size
  have hS6 := (hS.same (shown_same h5)).same h56
  have r2l := hS.g2.2.2.2
  have lS4 := hS.ev.slt
  have K6 : Lst w6 fv (.slice pa e.L.length pc) e.L w5.heap.size w6.heap.size (fun x => x = b3 ∨ x = b0 ∨ x = b4 ∨ x = b ∨ x = m) := ⟨hsq, hS6.g2, fun ad had => by
    have q1 := r2l ad had
    have q2 := n2 ad had
    have q3 := hS.n2 ad had
    omega, fun x hx => by
    have q1 := lS4 b hS.ev.sb
    have q2 := lS4 m hS.ev.sm
    omega⟩
  refine den_norm (by simp only [List.cons_append, List.nil_append]; rfl) (den_split_false (by simp [BE.den, nth, hfn]) ?_)
  refine den_callM (fun _ y => y = b) (fun w7 l w8 => l = [.int .i64 0]) (fun w7 h7 y hy hlt => ⟨fun hd => (by cases hd), fun hl => absurd (show y < w.heap.size from hl) (by omega), fun hin => by simp [BlkIn, nth, blkOf, vaddr] at hin; omega, fun _ => (hS6.same (shown_same h7)).ev.nr (.inl hy)⟩) (fun w7 h7 => ?_) ?_
  · exact (m27 (hS6.same (shown_same h7)).ev hS.wf).mono (fun v w' ⟨p1, _⟩ _ => ⟨[.int .i64 0], ⟨⟨_, rfl⟩, trivial⟩, p1, rfl, trivial⟩) fun _ _ h => h
  rintro w7 l w8 h7 _ rfl k78
  have K8 := (K6.same (shown_same h7)).kept k78 fun x hx => .inl (.inr (.inr (.inr (.inl hx))))
  have z67 : w6.heap.size ≤ w7.heap.size := h7.kept.size
  have z78 : w7.heap.size ≤ w8.heap.size := k78.size
  refine den_norm (by simp only [List.cons_append, List.nil_append]; rfl) (den_blk fun b31 k31 _ _ => den_norm (by simp only [List.cons_append, List.nil_append]; rfl) ?_)
  have n31 : w8.heap.size ≤ b31 := k31
  refine den_loop (fun ls w' => ∃ (bt turn : Nat), ls = [pt bt] ∧ w6.heap.size ≤ bt ∧ turn ≤ 2 ∧ HasBlk w' (pt bt) [.int .i64 turn] ∧ Lst w' fv (.slice pa e.L.length pc) e.L w5.heap.size w6.heap.size (fun x => x = b3 ∨ x = b0 ∨ x = b4 ∨ x = b ∨ x = m)) left2 (fun w9 h9 => ⟨b31, 0, by simp [SV.den, denL, IE.den, BE.den, nth, vint, vbool, vaddr, addO, addr_add], by omega, by omega, h9.facts.1, K8.kept h9.kept fun x hx => by simp [BlkIn, nth, blkOf, vaddr] at hx; omega⟩) ?_
  rintro w9 l wa h9 hfl ⟨bt, turn, rfl, hbt, ht, hBa, KA⟩ hka hfaa
  rw [left2_eq hBa]
  have hBk : ∀ {wa wb : World} {M : Nat → Prop}, HasBlk wa (pt bt) [.int .i64 turn] → Kept M wa wb → ¬ M bt → HasBlk wb (pt bt) [.int .i64 turn] := fun {wa wb M} hB hK hM => by
    obtain ⟨b', ty, e, hh⟩ := hB
    cases e
    exact ⟨bt, ty, rfl, (hK.block bt (Array.getElem?_eq_some_iff.1 hh).1 hM).trans hh⟩
  have fa : b4 < wa.heap.size ∧ b0 < wa.heap.size ∧ b3 < wa.heap.size := by
    obtain ⟨x1, q1, l1⟩ := hfaa.1.lt
    obtain ⟨x2, q2, l2⟩ := hfaa.2.1.lt
    obtain ⟨x3, q3, l3⟩ := hfaa.2.2.1.lt
    cases q1
    cases q2
    cases q3
    exact ⟨by assumption, by assumption, by assumption⟩
  refine den_norm (by simp only [List.cons_append, List.nil_append]; rfl) ?_
  refine den_ldp [.int .i64 turn] [.int .i64 turn] ⟨⟨_, rfl⟩, trivial⟩ (whole _) (fun wb hb => (hBk hBa (shown_same hb) fun h => h).pts) (fun _ _ => by simp [BlkIn]) fun wb hb => den_norm (by simp only [List.cons_append, List.nil_append]; rfl) ?_
  have hBb := hBk hBa (shown_same hb) fun h => h
  have KB := KA.same (shown_same hb)
  have zab : wa.heap.size ≤ wb.heap.size := hb.kept.size
  have lbt : bt < wb.heap.size := hBb.pts.lt (by simp) bt rfl
  refine den_splitLt (fun htl => ?_) (fun htl => ?_)
  rotate_left
  · exact den_call_bool (b := true) (fun w1 _ => c16 w1) rfl (fun w1 w2 _ _ => den_leafM_ne (by decide) (den_leafM_ne (by decide) (den_leafMA _ rfl fun _ _ _ _ => rfl)))
  have ht2 : turn < 2 := by
    have : (turn : Int) < 2 := htl
    omega
  refine den_cut (fun ls w' => ls = [] ∧ HasBlk w' (pt bt) [.int .i64 turn] ∧ Lst w' fv (.slice pa e.L.length pc) e.L w5.heap.size w6.heap.size (fun x => x = b3 ∨ x = b0 ∨ x = b4 ∨ x = b ∨ x = m)) ?_ ?_
  rotate_left
  · rintro l wc hfc ⟨rfl, hBc, KC⟩ hkc hfac
    refine den_norm (by simp only [List.cons_append, List.nil_append]; rfl) ?_
    refine den_ldp [.int .i64 turn] [.int .i64 turn] ⟨⟨_, rfl⟩, trivial⟩ (whole _) (fun wd hd => (hBk hBc (shown_same hd) fun h => h).pts) (fun _ _ => by simp [BlkIn]) fun wd hd => den_norm (by simp only [List.cons_append, List.nil_append]; rfl) ?_
    have zcd : wc.heap.size ≤ wd.heap.size := hd.kept.size
    have l66 : w6.heap.size ≤ wc.heap.size := by have := hBc.pts.lt (by simp) bt rfl; omega
    refine den_blk fun bu ku _ _ => den_norm (by simp only [List.cons_append, List.nil_append]; rfl) ?_
    have nu : wd.heap.size ≤ bu := ku
    refine den_ob64 (by simp only [IE.den, nth, vint]; omega) (den_leaf' fun we he => (if_pos rfl).mpr ?_)
    have hn : HasBlk we (pt bu) [.int .i64 ((turn + 1 : Nat) : Int)] := by
      have := he.facts.1
      simpa [SV.den, denL, IE.den, BE.den, nth, vint, vbool, vaddr, addO, addr_add] using this
    refine ⟨⟨bu, turn + 1, by simp [SV.den, denL, IE.den, BE.den, nth, vint, vbool, vaddr, addO, addr_add], by omega, by omega, hn, (KC.same (shown_same hd)).kept he.kept fun x hin => by simp [BlkIn, nth, blkOf, vaddr] at hin; omega⟩, ?_⟩
    have : left2 [pt bu] we = 2 - (turn + 1) := left2_eq hn
    simp only [denL, SV.den, nth, vaddr, addO_zero]
    rw [this]
    omega
  refine den_blk fun bn kn _ _ => den_norm (by simp only [List.cons_append, List.nil_append]; rfl) ?_
  have nn : wb.heap.size ≤ bn := kn
  refine den_cut (fun ls w' => ∃ k : Int, ls = [.int .i64 k] ∧ (turn = 0 → k = min (e.L.length : Int) (max 1 many)) ∧ (turn = 1 → k = (e.L.length : Int)) ∧ HasBlk w' (pt bt) [.int .i64 turn] ∧ Lst w' fv (.slice pa e.L.length pc) e.L w5.heap.size w6.heap.size (fun x => x = b3 ∨ x = b0 ∨ x = b4 ∨ x = b ∨ x = m)) ?_ ?_
  · refine den_range (e.L.map Ntc.cells) (fun k l wk => l = [.int .i64 (k : Int)] ∧ (turn = 0 → k = 0 ∨ (k : Int) < many) ∧ HasBlk wk (pt bt) [.int .i64 turn] ∧ Lst wk fv (.slice pa e.L.length pc) e.L w5.heap.size w6.heap.size (fun x => x = b3 ∨ x = b0 ∨ x = b4 ∨ x = b ∨ x = m)) w5.heap.size w6.heap.size ?_ ?_ ?_ ?_ ?_ ?_
    · intro y hy
      obtain ⟨x, _, rfl⟩ := List.mem_map.1 hy
      exact ⟨⟨_, rfl⟩, ⟨_, rfl⟩, ⟨_, rfl⟩, trivial⟩
    · intro y hy
      simp [BlkIn, nth, blkOf, vaddr] at hy
      omega
    · intro wc hc
      exact (KB.kept hc.kept fun x hin => by simp [BlkIn, nth, blkOf, vaddr] at hin; omega).sq
    · intro wc hc
      exact ⟨by simp [SV.den, denL, IE.den, BE.den, nth, vint, vbool, vaddr, addO, addr_add], fun _ => .inl rfl, hBk hBb hc.kept (by intro hin; simp [BlkIn, nth, blkOf, vaddr] at hin; omega), KB.kept hc.kept fun x hin => by simp [BlkIn, nth, blkOf, vaddr] at hin; omega⟩
    · rintro wc Ft hc k y hy l hl' wd we ⟨rfl, hkm, hBd, KD⟩ hq hk hfa hFt
      rw [List.getElem?_map] at hy
      obtain ⟨x, hx, rfl⟩ := Option.map_eq_some_iff.1 hy
      have hkl : k < e.L.length := (List.getElem?_eq_some_iff.1 hx).1
      have hBe := hBd.quiet hq
      have KE := KD.quiet hq
      refine den_norm (by simp only [List.cons_append, List.nil_append, Ntc.cells]; rfl) (den_blk fun b39 k39 _ _ => den_norm (by simp only [List.cons_append, List.nil_append]; rfl) ?_)
      have z39 : we.heap.size ≤ b39 := k39
      have fe : bn < we.heap.size := by obtain ⟨x1, q1, l1⟩ := hfa.1.lt; cases q1; exact l1
      have lbe : bt < we.heap.size := hBe.pts.lt (by simp) bt rfl
      intro wf hf
      refine ⟨fun y => y = b39 ∨ y = bn ∨ y = b4 ∨ y = b0 ∨ y = b3, fun y hy => by simp [BlkIn, nth, blkOf, vaddr] at hy; omega, ?_⟩
      have KF := KE.same (shown_same hf)
      have hBf := hBk hBe (shown_same hf) fun h => h
      refine den_splitLe (fun hle => ?_) (fun hle => ?_)
      · have hle' : (e.L.length : Int) ≤ (k : Int) := hle
        omega
      refine den_idxD (E := ntcE) (L := e.L) x k x.cells rfl (by decide) rfl hx ⟨⟨_, rfl⟩, ⟨_, rfl⟩, ⟨_, rfl⟩, trivial⟩ (whole _) KF.g.1 (fun ad had hin => by have := KF.n ad had; omega) (den_norm (by simp only [List.cons_append, List.nil_append, Ntc.cells]; rfl) ?_)
      refine den_pur [.bool false] ⟨⟨_, rfl⟩, trivial⟩ (fun ρ hρ w' _ => ?_) (den_norm (by simp only [List.cons_append, List.nil_append]; rfl) ?_)
      · have e1 := hρ _ (List.mem_cons_self ..)
        have e2 := hρ _ (List.mem_cons_of_mem _ (List.mem_cons_self ..))
        obtain ⟨k1, k2⟩ := flat23 x x
        have := run_neqFlat un23 sh23 gu23 _ _ k1 ρ _ _ 23 4 e1 e2 w'
        have e : (!(decide (x.t = x.t) && (decide (x.i = x.i) && decide (x.p = x.p)))) = false := by simp
        rw [k2, e] at this
        exact this
      refine den_split_false rfl ?_
      refine den_ob64 (by simp only [IE.den, nth, vint]; omega) ?_
      refine den_ldp [.int .i64 turn] [.int .i64 turn] ⟨⟨_, rfl⟩, trivial⟩ (whole _) (fun wg hg => (hBk hBf hg.kept (by intro hin; simp [BlkIn, nth, blkOf, vaddr] at hin; omega)).pts) (fun _ _ => by simp [BlkIn]) fun wg hg => den_norm (by simp only [List.cons_append, List.nil_append]; rfl) ?_
      have hBg := hBk hBf hg.kept (by intro hin; simp [BlkIn, nth, blkOf, vaddr] at hin; omega)
      have KG := KF.kept hg.kept fun y hin => by simp [BlkIn, nth, blkOf, vaddr] at hin; omega
      refine den_split (fun h15 => ?_) (fun h15 => ?_)
      · have ht0 : turn = 0 := by
          simp only [BE.den, IE.den, nth, vint] at h15
          have := of_decide_eq_true h15
          omega
        refine den_splitLe (fun h16 => ?_) (fun h16 => ?_)
        · have h16' : many ≤ (k : Int) + 1 := h16
          refine den_resume fun wh hh wi hqi hki => ?_
          intro wz hz
          refine (if_neg (by decide)).mpr ((if_pos rfl).mpr ⟨(k : Int) + 1, by simp [SV.den, denL, IE.den, BE.den, nth, vint, vbool, vaddr, addO, addr_add], fun _ => ?_, fun h => by omega, hBk ((hBk hBg (shown_same hh) fun h => h).quiet hqi) hz.kept (by intro hin; first | (simp [BlkIn, nth, blkOf, vaddr] at hin; done) | (simp [BlkIn, nth, blkOf, vaddr] at hin; omega)), ((KG.same (shown_same hh)).quiet hqi).kept hz.kept fun y hin => by first | (simp [BlkIn, nth, blkOf, vaddr] at hin; done) | (simp [BlkIn, nth, blkOf, vaddr] at hin; omega)⟩)
          have := hkm ht0
          omega
        · have h16' : (k : Int) + 1 < many := h16
          exact den_leaf_round hFt fun wh hh => ⟨by simp [SV.den, denL, IE.den, BE.den, nth, vint, vbool, vaddr, addO, addr_add], fun _ => .inr (by omega), hBk hBg hh.kept (by intro hin; first | (simp [BlkIn, nth, blkOf, vaddr] at hin; done) | (simp [BlkIn, nth, blkOf, vaddr] at hin; omega)), KG.kept hh.kept fun y hin => by first | (simp [BlkIn, nth, blkOf, vaddr] at hin; done) | (simp [BlkIn, nth, blkOf, vaddr] at hin; omega)⟩
      · have ht0 : turn ≠ 0 := by
          simp only [BE.den, IE.den, nth, vint] at h15
          have := of_decide_eq_false h15
          omega
        exact den_leaf_round hFt fun wh hh => ⟨by simp [SV.den, denL, IE.den, BE.den, nth, vint, vbool, vaddr, addO, addr_add], fun h => absurd h ht0, hBk hBg hh.kept (by intro hin; first | (simp [BlkIn, nth, blkOf, vaddr] at hin; done) | (simp [BlkIn, nth, blkOf, vaddr] at hin; omega)), KG.kept hh.kept fun y hin => by first | (simp [BlkIn, nth, blkOf, vaddr] at hin; done) | (simp [BlkIn, nth, blkOf, vaddr] at hin; omega)⟩
    · rintro wc hc l hl' wd we ⟨rfl, hkm, hBd, KD⟩ hq hk hfa
      rw [List.length_map] at *
      refine den_norm (by simp only [List.cons_append, List.nil_append]; rfl) (den_leaf_eq fun wf hf => ⟨(e.L.length : Int), by simp [SV.den, denL, IE.den, BE.den, nth, vint, vbool, vaddr, addO, addr_add], fun h => ?_, fun _ => rfl, hBk (hBd.quiet hq) hf.kept (by intro hin; first | (simp [BlkIn, nth, blkOf, vaddr] at hin; done) | (simp [BlkIn, nth, blkOf, vaddr] at hin; omega)), (KD.quiet hq).kept hf.kept fun y hin => by first | (simp [BlkIn, nth, blkOf, vaddr] at hin; done) | (simp [BlkIn, nth, blkOf, vaddr] at hin; omega)⟩)
      have := hkm h
      omega
  rintro l wc hfc ⟨k, rfl, hk0, hk1, hBc, KC⟩ hkc hfac
  refine den_norm (by simp only [List.cons_append, List.nil_append]; rfl) ?_
  refine den_ldp [.int .i64 turn] [.int .i64 turn] ⟨⟨_, rfl⟩, trivial⟩ (whole _) (fun wd hd => (hBk hBc (shown_same hd) fun h => h).pts) (fun _ _ => by simp [BlkIn]) fun wd hd => den_norm (by simp only [List.cons_append, List.nil_append]; rfl) ?_
  have hBd := hBk hBc (shown_same hd) fun h => h
  have KD := KC.same (shown_same hd)
  refine den_split (fun h9 => ?_) (fun h9 => ?_)
  · have ht0 : turn = 0 := by
      simp only [BE.den, IE.den, nth, vint] at h9
      have := of_decide_eq_true h9
      omega
    refine den_splitNot (fun h10 => ?_) (fun h10 => ?_)
    · exfalso
      simp only [BE.den, IE.den, nth, vint, vlen] at h10
      have q1 := of_decide_eq_false h10
      have q2 := hk0 ht0
      first
        | omega
        | (exact q1 (by rw [q2]; split <;> split <;> omega))
        | (simp at q1; omega)
    refine den_ldp [.int .i64 turn] [.int .i64 turn] ⟨⟨_, rfl⟩, trivial⟩ (whole _) (fun we he => (hBk hBd (shown_same he) fun h => h).pts) (fun _ _ => by simp [BlkIn]) fun we he => den_norm (by simp only [List.cons_append, List.nil_append]; rfl) ?_
    have hBe := hBk hBd (shown_same he) fun h => h
    have KE := KD.same (shown_same he)
    refine den_split (fun h11 => ?_) (fun h11 => ?_)
    · exfalso
      simp only [BE.den, IE.den, nth, vint] at h11
      have := of_decide_eq_true h11
      omega
    · exact den_leaf_eq fun wf hf => ⟨rfl, hBk hBe (shown_same hf) fun h => h, KE.same (shown_same hf)⟩
  · have ht0 : turn ≠ 0 := by
      simp only [BE.den, IE.den, nth, vint] at h9
      have := of_decide_eq_false h9
      omega
    have ht1 : turn = 1 := by omega
    refine den_ldp [.int .i64 turn] [.int .i64 turn] ⟨⟨_, rfl⟩, trivial⟩ (whole _) (fun we he => (hBk hBd (shown_same he) fun h => h).pts) (fun _ _ => by simp [BlkIn]) fun we he => den_norm (by simp only [List.cons_append, List.nil_append]; rfl) ?_
    have hBe := hBk hBd (shown_same he) fun h => h
    have KE := KD.same (shown_same he)
    refine den_split (fun h11 => ?_) (fun h11 => ?_)
    · refine den_splitNot (fun h10 => ?_) (fun h10 => ?_)
      · exfalso
        simp only [BE.den, IE.den, nth, vint, vlen] at h10
        exact of_decide_eq_false h10 (hk1 ht1)
      · exact den_leaf_eq fun wf hf => ⟨rfl, hBk hBe (shown_same hf) fun h => h, KE.same (shown_same hf)⟩
    · exact den_leaf_eq fun wf hf => ⟨rfl, hBk hBe (shown_same hf) fun h => h, KE.same (shown_same hf)⟩

end Go.Proofs.Ytfjlnfgbfclgbaa
