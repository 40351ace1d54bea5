/- known: the examples of the chapter hold. No conditions beyond those that each theorem names. -/
import Derived.Test.YtfjlnfgbfclgbaaR
import Derived.Test.YtfjlnfgbfclgbaaTI
set_option maxRecDepth 100000
set_option maxHeartbeats 4000000
set_option linter.unusedVariables false
set_option linter.unusedSimpArgs false
namespace Go.Proofs.Ytfjlnfgbfclgbaa
open Go.Sx

def n1 : Ntc := ⟨0, 3, 1⟩
def n2 : Ntc := ⟨0, 4, 1⟩
def n3 : Ntc := ⟨2, 0, 4⟩
def n4 : Ntc := ⟨3, 0, 0⟩
theorem n1ok : n1.Ok := by constructor <;> decide
theorem n2ok : n2.Ok := by constructor <;> decide
theorem n3ok : n3.Ok := by constructor <;> decide
theorem n4ok : n4.Ok := by constructor <;> decide
def k0 : Ev := ⟨1, 0, [], [], fun _ => none⟩
def k1 : Ev := reqE k0 7
def k2 : Ev := reqE k1 8
def k3 : Ev := raiseE k2 n1
def k4 : Ev := dlE k3
def k5 : Ev := reqE k4 7
def k6 : Ev := raiseE k5 n2
def k7 : Ev := dlE k6
def k8 : Ev := readE k7 1
def k9 : Ev := dlE k8
def k10 : Ev := raiseE k9 n3
def k11 : Ev := cfgE k10 256
def k12 : Ev := raiseE k11 n3
def k13 : Ev := raiseE k12 n3
theorem wk0 : Wf k0 := ⟨by decide, by decide, by decide, (fun n hn => by cases hn), (fun k v h => by cases h)⟩
theorem wk1 : Wf k1 := wk0.req 7
theorem wk2 : Wf k2 := wk1.req 8
theorem wk3 : Wf k3 := wk2.raise n1ok
theorem wk4 : Wf k4 := wk3.dl
theorem wk5 : Wf k5 := wk4.req 7
theorem wk6 : Wf k6 := wk5.raise n2ok
theorem wk7 : Wf k7 := wk6.dl
theorem wk8 : Wf k8 := wk7.read 1
theorem wk9 : Wf k9 := wk8.dl
theorem wk10 : Wf k10 := wk9.raise n3ok
theorem wk11 : Wf k11 := wk10.config (by decide)
theorem wk12 : Wf k12 := wk11.raise n3ok
theorem wk13 : Wf k13 := wk12.raise n3ok
theorem cL : k2.L.length ≤ 50000 ∧ k3.L.length ≤ 50000 ∧ k5.L.length ≤ 50000 ∧ k6.L.length ≤ 50000 ∧ k8.L.length ≤ 50000 ∧ k9.L.length ≤ 50000 ∧ k10.L.length ≤ 50000 ∧ k11.L.length ≤ 50000 ∧ k12.L.length ≤ 50000 ∧ k13.L.length ≤ 50000 := by decide +kernel
theorem q1 : reqC k0 7 = 0 := by decide +kernel
theorem q2 : reqC k1 8 = 261 := by decide +kernel
theorem q3 : raiseB k2 n1 = true ∧ raiseC n1 = 0 := by decide +kernel
theorem q4 : (dl k3.L k3.R k3.B).out = [(7, 66304)] := by decide +kernel
theorem q5 : reqC k4 7 = 0 := by decide +kernel
theorem q6 : raiseB k5 n2 = true ∧ raiseC n2 = 0 := by decide +kernel
theorem q7 : (dl k6.L k6.R k6.B).out = [] := by decide +kernel
theorem q9 : (dl k8.L k8.R k8.B).out = [(7, 66560)] := by decide +kernel
theorem q10 : raiseB k9 n3 = false := by decide +kernel
theorem q12 : raiseB k11 n3 = true := by decide +kernel
theorem q13 : raiseB k12 n3 = false := by decide +kernel
theorem q14 : raiseC n4 = 2 := by decide +kernel
theorem one_arr {x : Int × Int} {w : World} {b : Nat} (h : HasBlk w (pt b) [.int .u16 x.1, .int .u32 x.2]) : Arr resE w (.slice (some ⟨b, 0, none⟩) 1 1) [x] := by
  have := h.reads 0 1 1 2 (by simp)
  exact ⟨⟨_, _, rfl⟩, by simp [resE], fun j y hy => by
    have q := this.cell j y (by simpa [resE] using hy)
    simpa [vaddr, addO, Addr.add] using q⟩
abbrev EvX (w : World) (b m : Nat) (e : Ev) : Prop := ∃ S, EvS w S b m e

theorem c16 (w : World) : Gives Try.prog 16 [] w (.bool true) := by
  refine Runs.gives ?_
  have hh := runs mix t16 rfl rfl (ε := []) (heap := []) (w := w) (M := fun _ => False) (R := fun v w' => v = .bool true) trivial trivial (by simp [keys]) (by simp [keys]) (by simp [keys]) ?_
  · exact hh
  refine den_callR (fun w1 l w2 => ∃ b m, l = [pt b, .int .i64 0] ∧ EvX w2 b m k0 ∧ w1.heap.size ≤ b ∧ w1.heap.size ≤ m ∧ b < w2.heap.size ∧ m < w2.heap.size) (fun w1 h1 => ?_) ?_
  · refine (c17 1 w1).mono fun v w' hv => ?_
    rcases hv with ⟨hv, _⟩ | ⟨_, b, m, rfl, E, hb, hm⟩
    · omega
    · exact ⟨[pt b, .int .i64 0], ⟨⟨_, rfl⟩, ⟨_, rfl⟩, trivial⟩, rfl, b, m, rfl, ⟨fun x => x < w'.heap.size, ⟨_, _, E, (fun ad had => by cases had), (fun ad had => by cases had)⟩, E.lt, E.map.lt, fun x hx => hx⟩, hb, hm, E.lt, E.map.lt⟩
  rintro w1 l w2 h1 _ ⟨b, m, rfl, E0, hb1, hm1, lb, lm⟩ kk12
  have hb : w.heap.size ≤ b := Nat.le_trans h1.base.size hb1
  have hm : w.heap.size ≤ m := Nat.le_trans h1.base.size hm1
  have W2 : w2.heap.size ≤ w2.heap.size := Nat.le_refl _
  refine den_norm (by simp only [List.cons_append, List.nil_append]; rfl) (den_split_false rfl ?_)
  have s2 : w2.heap.size ≤ w2.heap.size := Nat.le_refl _
  refine den_callM (fun _ x => x = b) (fun _ l w' => l = [.int .u8 (0 / 256), .int .u8 (0 % 256), .bool false, .bool false] ∧ EvX w' b m k1) (fun wx hx x hxx hlt => ⟨fun hd => (by cases hd), fun hl => absurd (show x < w.heap.size from hl) (by omega), fun hin => by simp [BlkIn, nth, blkOf, vaddr] at hin; try omega, fun hx => by cases hx⟩) (fun w3 h3 => ?_) (fun w3 l w4 h3 _ hR kk4 => ?_)
  · obtain ⟨S0, E0'⟩ := E0
    exact (m20 (E0'.same (shown_new h3 fun x hx => by first | (simp [BlkIn, nth, blkOf, vaddr] at hx; done) | (simp [BlkIn, nth, blkOf, vaddr] at hx; omega))) wk0 7).mono (fun v w' p _ => ⟨[.int .u8 (0 / 256), .int .u8 (0 % 256), .bool false, .bool false], ⟨⟨_, rfl⟩, ⟨_, rfl⟩, ⟨_, rfl⟩, ⟨_, rfl⟩, trivial⟩, (by rw [p.1, q1]; rfl), ⟨rfl, _, p.2⟩, trivial⟩) fun x hx h => h
  obtain ⟨rfl, E4⟩ := hR
  have s3 : w2.heap.size ≤ w3.heap.size := Nat.le_trans s2 (h3.kept.size)
  have s4 : w2.heap.size ≤ w4.heap.size := Nat.le_trans s3 kk4.size
  refine den_norm (by simp only [List.cons_append, List.nil_append]; rfl) ?_
  refine den_callM (fun _ x => x = b) (fun _ l w' => l = [.int .u8 (261 / 256), .int .u8 (261 % 256), .bool false, .bool false] ∧ EvX w' b m k2) (fun wx hx x hxx hlt => ⟨fun hd => (by cases hd), fun hl => absurd (show x < w.heap.size from hl) (by omega), fun hin => by simp [BlkIn, nth, blkOf, vaddr] at hin; try omega, fun hx => by cases hx⟩) (fun w5 h5 => ?_) (fun w5 l w6 h5 _ hR kk6 => ?_)
  · obtain ⟨S0, E4'⟩ := E4
    exact (m20 (E4'.same (shown_new h5 fun x hx => by first | (simp [BlkIn, nth, blkOf, vaddr] at hx; done) | (simp [BlkIn, nth, blkOf, vaddr] at hx; omega))) wk1 8).mono (fun v w' p _ => ⟨[.int .u8 (261 / 256), .int .u8 (261 % 256), .bool false, .bool false], ⟨⟨_, rfl⟩, ⟨_, rfl⟩, ⟨_, rfl⟩, ⟨_, rfl⟩, trivial⟩, (by rw [p.1, q2]; rfl), ⟨rfl, _, p.2⟩, trivial⟩) fun x hx h => h
  obtain ⟨rfl, E6⟩ := hR
  have s5 : w2.heap.size ≤ w5.heap.size := Nat.le_trans s4 (h5.kept.size)
  have s6 : w2.heap.size ≤ w6.heap.size := Nat.le_trans s5 kk6.size
  refine den_norm (by simp only [List.cons_append, List.nil_append]; rfl) ?_
  refine den_blk fun b10 z10 _ _ => den_norm (by simp only [List.cons_append, List.nil_append]; rfl) ?_
  have y10 : w2.heap.size ≤ b10 := Nat.le_trans s6 z10
  refine den_blk fun b11 z11 _ _ => den_norm (by simp only [List.cons_append, List.nil_append]; rfl) ?_
  have y11 : w2.heap.size ≤ b11 := Nat.le_trans s6 z11
  refine den_callM (fun _ x => x = b) (fun _ l w' => l = [.bool true, .int .i64 0] ∧ EvX w' b m k3) (fun wx hx x hxx hlt => ⟨fun hd => (by cases hd), fun hl => absurd (show x < w.heap.size from hl) (by omega), fun hin => by simp [BlkIn, nth, blkOf, vaddr] at hin; try omega, fun hx => by cases hx⟩) (fun w7 h7 => ?_) (fun w7 l w8 h7 _ hR kk8 => ?_)
  · obtain ⟨S0, E6'⟩ := E6
    exact (m21 (E6'.same (shown_new h7 fun x hx => by first | (simp [BlkIn, nth, blkOf, vaddr] at hx; done) | (simp [BlkIn, nth, blkOf, vaddr] at hx; omega))) wk2 (by have := cL; omega) n1 n1ok).mono (fun v w' p _ => ⟨[.bool true, .int .i64 0], ⟨⟨_, rfl⟩, ⟨_, rfl⟩, trivial⟩, (by rw [p.1, q3.1, q3.2]; rfl), ⟨rfl, _, p.2⟩, trivial⟩) fun x hx h => h
  obtain ⟨rfl, E8⟩ := hR
  have s7 : w2.heap.size ≤ w7.heap.size := Nat.le_trans s6 (h7.kept.size)
  have s8 : w2.heap.size ≤ w8.heap.size := Nat.le_trans s7 kk8.size
  refine den_norm (by simp only [List.cons_append, List.nil_append]; rfl) ?_
  refine den_call_bool (b := true) (fun wa _ => (c19 (0 / 256) (0 % 256) false false 0 (by decide) (by decide) wa).to (by rw [show isI (0 / 256) (0 % 256) false false 0 = true by decide])) rfl (fun w9 w10 h9 kk10 => den_norm (by simp only [List.cons_append, List.nil_append]; rfl) (den_split_false rfl ?_))
  have S10 := (shown_new h9 fun x hx => by first | (simp [BlkIn, nth, blkOf, vaddr] at hx; done) | (simp [BlkIn, nth, blkOf, vaddr] at hx; omega)).trans kk10
  have E10 : EvX w10 b m _ := let ⟨S0, q⟩ := E8; ⟨S0, q.same S10⟩
  have s10 : w2.heap.size ≤ w10.heap.size := Nat.le_trans s8 S10.size
  refine den_call_bool (b := true) (fun wa _ => (c19 (261 / 256) (261 % 256) false false 261 (by decide) (by decide) wa).to (by rw [show isI (261 / 256) (261 % 256) false false 261 = true by decide])) rfl (fun w11 w12 h11 kk12 => den_norm (by simp only [List.cons_append, List.nil_append]; rfl) (den_split_false rfl ?_))
  have S12 := (shown_new h11 fun x hx => by first | (simp [BlkIn, nth, blkOf, vaddr] at hx; done) | (simp [BlkIn, nth, blkOf, vaddr] at hx; omega)).trans kk12
  have E12 : EvX w12 b m _ := let ⟨S0, q⟩ := E10; ⟨S0, q.same S12⟩
  have s12 : w2.heap.size ≤ w12.heap.size := Nat.le_trans s10 S12.size
  refine den_split_false rfl (den_split_false rfl ?_)
  refine den_callM (fun _ x => x = b ∨ x = m) (fun _ l w' => ∃ oa oc, l = [.slice oa ([(7, 66304)] : List (Int × Int)).length oc] ∧ Mine resE 49 w' (.slice oa ([(7, 66304)] : List (Int × Int)).length oc) [(7, 66304)] ∧ EvX w' b m k4) (fun wx hx x hxx hlt => ⟨fun hd => (by cases hd), fun hl => absurd (show x < w.heap.size from hl) (by omega), fun hin => by simp [BlkIn, nth, blkOf, vaddr] at hin; try omega, fun hx => by cases hx⟩) (fun w13 h13 => ?_) (fun w13 l w14 h13 _ hR kk14 => ?_)
  · obtain ⟨S0, E12'⟩ := E12
    refine (m22 (E12'.same (shown_new h13 fun x hx => by first | (simp [BlkIn, nth, blkOf, vaddr] at hx; done) | (simp [BlkIn, nth, blkOf, vaddr] at hx; omega))) wk3 (by have := cL; omega)).mono (fun v w' p _ => ?_) fun x hx h => h
    obtain ⟨⟨p1, p2⟩, p3⟩ := p
    rw [q4] at p1
    obtain ⟨oa, oc, rfl⟩ := p1.slice
    exact ⟨[.slice oa ([(7, 66304)] : List (Int × Int)).length oc], ⟨⟨_, _, _, rfl⟩, trivial⟩, rfl, ⟨oa, oc, rfl, p1, _, p3⟩, trivial⟩
  obtain ⟨oa, oc, rfl, hO, E14⟩ := hR
  have s13 : w2.heap.size ≤ w13.heap.size := Nat.le_trans s12 h13.kept.size
  have s14 : w2.heap.size ≤ w14.heap.size := Nat.le_trans s13 kk14.size
  refine den_norm (by simp only [List.cons_append, List.nil_append]; rfl) ?_
  refine den_blk fun b17 z17 _ _ => den_norm (by simp only [List.cons_append, List.nil_append]; rfl) ?_
  have y17 : w2.heap.size ≤ b17 := Nat.le_trans s14 z17
  refine den_call_bool (b := true) (fun w15 h15 => (c32 _ _ [(7, 66304)] [(7, 66304)] w15 (hO.same (shown_new h15 fun x hx => by first | (simp [BlkIn, nth, blkOf, vaddr] at hx; done) | (simp [BlkIn, nth, blkOf, vaddr] at hx; omega))).arr (one_arr h15.facts.1) (by simp)).to (by simp)) rfl (fun w15 w16 h15 kk16 => den_norm (by simp only [List.cons_append, List.nil_append]; rfl) (den_split_false rfl ?_))
  have S16 := (shown_new h15 fun x hx => by first | (simp [BlkIn, nth, blkOf, vaddr] at hx; done) | (simp [BlkIn, nth, blkOf, vaddr] at hx; omega)).trans kk16
  have E16 : EvX w16 b m _ := let ⟨S0, q⟩ := E14; ⟨S0, q.same S16⟩
  have s16 : w2.heap.size ≤ w16.heap.size := Nat.le_trans s14 S16.size
  refine den_callM (fun _ x => x = b) (fun _ l w' => l = [.int .u8 (0 / 256), .int .u8 (0 % 256), .bool false, .bool false] ∧ EvX w' b m k5) (fun wx hx x hxx hlt => ⟨fun hd => (by cases hd), fun hl => absurd (show x < w.heap.size from hl) (by omega), fun hin => by simp [BlkIn, nth, blkOf, vaddr] at hin; try omega, fun hx => by cases hx⟩) (fun w17 h17 => ?_) (fun w17 l w18 h17 _ hR kk18 => ?_)
  · obtain ⟨S0, E16'⟩ := E16
    exact (m20 (E16'.same (shown_new h17 fun x hx => by first | (simp [BlkIn, nth, blkOf, vaddr] at hx; done) | (simp [BlkIn, nth, blkOf, vaddr] at hx; omega))) wk4 7).mono (fun v w' p _ => ⟨[.int .u8 (0 / 256), .int .u8 (0 % 256), .bool false, .bool false], ⟨⟨_, rfl⟩, ⟨_, rfl⟩, ⟨_, rfl⟩, ⟨_, rfl⟩, trivial⟩, (by rw [p.1, q5]; rfl), ⟨rfl, _, p.2⟩, trivial⟩) fun x hx h => h
  obtain ⟨rfl, E18⟩ := hR
  have s17 : w2.heap.size ≤ w17.heap.size := Nat.le_trans s16 (h17.kept.size)
  have s18 : w2.heap.size ≤ w18.heap.size := Nat.le_trans s17 kk18.size
  refine den_norm (by simp only [List.cons_append, List.nil_append]; rfl) ?_
  refine den_blk fun b23 z23 _ _ => den_norm (by simp only [List.cons_append, List.nil_append]; rfl) ?_
  have y23 : w2.heap.size ≤ b23 := Nat.le_trans s18 z23
  refine den_callM (fun _ x => x = b) (fun _ l w' => l = [.bool true, .int .i64 0] ∧ EvX w' b m k6) (fun wx hx x hxx hlt => ⟨fun hd => (by cases hd), fun hl => absurd (show x < w.heap.size from hl) (by omega), fun hin => by simp [BlkIn, nth, blkOf, vaddr] at hin; try omega, fun hx => by cases hx⟩) (fun w19 h19 => ?_) (fun w19 l w20 h19 _ hR kk20 => ?_)
  · obtain ⟨S0, E18'⟩ := E18
    exact (m21 (E18'.same (shown_new h19 fun x hx => by first | (simp [BlkIn, nth, blkOf, vaddr] at hx; done) | (simp [BlkIn, nth, blkOf, vaddr] at hx; omega))) wk5 (by have := cL; omega) n2 n2ok).mono (fun v w' p _ => ⟨[.bool true, .int .i64 0], ⟨⟨_, rfl⟩, ⟨_, rfl⟩, trivial⟩, (by rw [p.1, q6.1, q6.2]; rfl), ⟨rfl, _, p.2⟩, trivial⟩) fun x hx h => h
  obtain ⟨rfl, E20⟩ := hR
  have s19 : w2.heap.size ≤ w19.heap.size := Nat.le_trans s18 (h19.kept.size)
  have s20 : w2.heap.size ≤ w20.heap.size := Nat.le_trans s19 kk20.size
  refine den_norm (by simp only [List.cons_append, List.nil_append]; rfl) ?_
  refine den_call_bool (b := true) (fun wa _ => (c19 (0 / 256) (0 % 256) false false 0 (by decide) (by decide) wa).to (by rw [show isI (0 / 256) (0 % 256) false false 0 = true by decide])) rfl (fun w21 w22 h21 kk22 => den_norm (by simp only [List.cons_append, List.nil_append]; rfl) (den_split_false rfl ?_))
  have S22 := (shown_new h21 fun x hx => by first | (simp [BlkIn, nth, blkOf, vaddr] at hx; done) | (simp [BlkIn, nth, blkOf, vaddr] at hx; omega)).trans kk22
  have E22 : EvX w22 b m _ := let ⟨S0, q⟩ := E20; ⟨S0, q.same S22⟩
  have s22 : w2.heap.size ≤ w22.heap.size := Nat.le_trans s20 S22.size
  refine den_split_false rfl (den_split_false rfl ?_)
  refine den_callM (fun _ x => x = b ∨ x = m) (fun _ l w' => ∃ oa oc, l = [.slice oa ([] : List (Int × Int)).length oc] ∧ Mine resE 49 w' (.slice oa ([] : List (Int × Int)).length oc) [] ∧ EvX w' b m k7) (fun wx hx x hxx hlt => ⟨fun hd => (by cases hd), fun hl => absurd (show x < w.heap.size from hl) (by omega), fun hin => by simp [BlkIn, nth, blkOf, vaddr] at hin; try omega, fun hx => by cases hx⟩) (fun w23 h23 => ?_) (fun w23 l w24 h23 _ hR kk24 => ?_)
  · obtain ⟨S0, E22'⟩ := E22
    refine (m22 (E22'.same (shown_new h23 fun x hx => by first | (simp [BlkIn, nth, blkOf, vaddr] at hx; done) | (simp [BlkIn, nth, blkOf, vaddr] at hx; omega))) wk6 (by have := cL; omega)).mono (fun v w' p _ => ?_) fun x hx h => h
    obtain ⟨⟨p1, p2⟩, p3⟩ := p
    rw [q7] at p1
    obtain ⟨oa, oc, rfl⟩ := p1.slice
    exact ⟨[.slice oa ([] : List (Int × Int)).length oc], ⟨⟨_, _, _, rfl⟩, trivial⟩, rfl, ⟨oa, oc, rfl, p1, _, p3⟩, trivial⟩
  obtain ⟨oa, oc, rfl, hO, E24⟩ := hR
  have s23 : w2.heap.size ≤ w23.heap.size := Nat.le_trans s22 h23.kept.size
  have s24 : w2.heap.size ≤ w24.heap.size := Nat.le_trans s23 kk24.size
  refine den_norm (by simp only [List.cons_append, List.nil_append]; rfl) (den_split_false rfl ?_)
  refine den_callM (fun _ x => x = m) (fun _ l w' => l = [.int .i64 0] ∧ EvX w' b m k8) (fun wx hx x hxx hlt => ⟨fun hd => (by cases hd), fun hl => absurd (show x < w.heap.size from hl) (by omega), fun hin => by simp [BlkIn, nth, blkOf, vaddr] at hin; try omega, fun hx => by cases hx⟩) (fun w25 h25 => ?_) (fun w25 l w26 h25 _ hR kk26 => ?_)
  · obtain ⟨S0, E24'⟩ := E24
    exact (m23 (E24'.same (shown_new h25 fun x hx => by first | (simp [BlkIn, nth, blkOf, vaddr] at hx; done) | (simp [BlkIn, nth, blkOf, vaddr] at hx; omega))) wk7 1).mono (fun v w' p _ => ⟨[.int .i64 0], ⟨⟨_, rfl⟩, trivial⟩, p.1, ⟨rfl, _, p.2⟩, trivial⟩) fun x hx h => h
  obtain ⟨rfl, E26⟩ := hR
  have s25 : w2.heap.size ≤ w25.heap.size := Nat.le_trans s24 (h25.kept.size)
  have s26 : w2.heap.size ≤ w26.heap.size := Nat.le_trans s25 kk26.size
  refine den_norm (by simp only [List.cons_append, List.nil_append]; rfl) (den_split_false rfl ?_)
  refine den_callM (fun _ x => x = b ∨ x = m) (fun _ l w' => ∃ oa oc, l = [.slice oa ([(7, 66560)] : List (Int × Int)).length oc] ∧ Mine resE 49 w' (.slice oa ([(7, 66560)] : List (Int × Int)).length oc) [(7, 66560)] ∧ EvX w' b m k9) (fun wx hx x hxx hlt => ⟨fun hd => (by cases hd), fun hl => absurd (show x < w.heap.size from hl) (by omega), fun hin => by simp [BlkIn, nth, blkOf, vaddr] at hin; try omega, fun hx => by cases hx⟩) (fun w27 h27 => ?_) (fun w27 l w28 h27 _ hR kk28 => ?_)
  · obtain ⟨S0, E26'⟩ := E26
    refine (m22 (E26'.same (shown_new h27 fun x hx => by first | (simp [BlkIn, nth, blkOf, vaddr] at hx; done) | (simp [BlkIn, nth, blkOf, vaddr] at hx; omega))) wk8 (by have := cL; omega)).mono (fun v w' p _ => ?_) fun x hx h => h
    obtain ⟨⟨p1, p2⟩, p3⟩ := p
    rw [q9] at p1
    obtain ⟨oa, oc, rfl⟩ := p1.slice
    exact ⟨[.slice oa ([(7, 66560)] : List (Int × Int)).length oc], ⟨⟨_, _, _, rfl⟩, trivial⟩, rfl, ⟨oa, oc, rfl, p1, _, p3⟩, trivial⟩
  obtain ⟨oa, oc, rfl, hO, E28⟩ := hR
  have s27 : w2.heap.size ≤ w27.heap.size := Nat.le_trans s26 h27.kept.size
  have s28 : w2.heap.size ≤ w28.heap.size := Nat.le_trans s27 kk28.size
  refine den_norm (by simp only [List.cons_append, List.nil_append]; rfl) ?_
  refine den_blk fun b30 z30 _ _ => den_norm (by simp only [List.cons_append, List.nil_append]; rfl) ?_
  have y30 : w2.heap.size ≤ b30 := Nat.le_trans s28 z30
  refine den_call_bool (b := true) (fun w29 h29 => (c32 _ _ [(7, 66560)] [(7, 66560)] w29 (hO.same (shown_new h29 fun x hx => by first | (simp [BlkIn, nth, blkOf, vaddr] at hx; done) | (simp [BlkIn, nth, blkOf, vaddr] at hx; omega))).arr (one_arr h29.facts.1) (by simp)).to (by simp)) rfl (fun w29 w30 h29 kk30 => den_norm (by simp only [List.cons_append, List.nil_append]; rfl) (den_split_false rfl ?_))
  have S30 := (shown_new h29 fun x hx => by first | (simp [BlkIn, nth, blkOf, vaddr] at hx; done) | (simp [BlkIn, nth, blkOf, vaddr] at hx; omega)).trans kk30
  have E30 : EvX w30 b m _ := let ⟨S0, q⟩ := E28; ⟨S0, q.same S30⟩
  have s30 : w2.heap.size ≤ w30.heap.size := Nat.le_trans s28 S30.size
  refine den_callM (fun _ x => x = b) (fun _ l w' => l = [.bool false, .int .i64 (raiseC n3)] ∧ EvX w' b m k10) (fun wx hx x hxx hlt => ⟨fun hd => (by cases hd), fun hl => absurd (show x < w.heap.size from hl) (by omega), fun hin => by simp [BlkIn, nth, blkOf, vaddr] at hin; try omega, fun hx => by cases hx⟩) (fun w31 h31 => ?_) (fun w31 l w32 h31 _ hR kk32 => ?_)
  · obtain ⟨S0, E30'⟩ := E30
    exact (m21 (E30'.same (shown_new h31 fun x hx => by first | (simp [BlkIn, nth, blkOf, vaddr] at hx; done) | (simp [BlkIn, nth, blkOf, vaddr] at hx; omega))) wk9 (by have := cL; omega) n3 n3ok).mono (fun v w' p _ => ⟨[.bool false, .int .i64 (raiseC n3)], ⟨⟨_, rfl⟩, ⟨_, rfl⟩, trivial⟩, (by rw [p.1, q10]; rfl), ⟨rfl, _, p.2⟩, trivial⟩) fun x hx h => h
  obtain ⟨rfl, E32⟩ := hR
  have s31 : w2.heap.size ≤ w31.heap.size := Nat.le_trans s30 (h31.kept.size)
  have s32 : w2.heap.size ≤ w32.heap.size := Nat.le_trans s31 kk32.size
  refine den_norm (by simp only [List.cons_append, List.nil_append]; rfl) ?_
  refine den_callM (fun _ x => x = b) (fun _ l w' => l = [.int .i64 0] ∧ EvX w' b m k11) (fun wx hx x hxx hlt => ⟨fun hd => (by cases hd), fun hl => absurd (show x < w.heap.size from hl) (by omega), fun hin => by simp [BlkIn, nth, blkOf, vaddr] at hin; try omega, fun hx => by cases hx⟩) (fun w33 h33 => ?_) (fun w33 l w34 h33 _ hR kk34 => ?_)
  · obtain ⟨S0, E32'⟩ := E32
    exact (m18 (E32'.same (shown_new h33 fun x hx => by first | (simp [BlkIn, nth, blkOf, vaddr] at hx; done) | (simp [BlkIn, nth, blkOf, vaddr] at hx; omega))) wk10 (by have := cL; omega) 256 (by decide)).mono (fun v w' p _ => ⟨[.int .i64 0], ⟨⟨_, rfl⟩, trivial⟩, p.1, ⟨rfl, _, p.2⟩, trivial⟩) fun x hx h => h
  obtain ⟨rfl, E34⟩ := hR
  have s33 : w2.heap.size ≤ w33.heap.size := Nat.le_trans s32 (h33.kept.size)
  have s34 : w2.heap.size ≤ w34.heap.size := Nat.le_trans s33 kk34.size
  refine den_norm (by simp only [List.cons_append, List.nil_append]; rfl) ?_
  refine den_callM (fun _ x => x = b) (fun _ l w' => l = [.bool true, .int .i64 (raiseC n3)] ∧ EvX w' b m k12) (fun wx hx x hxx hlt => ⟨fun hd => (by cases hd), fun hl => absurd (show x < w.heap.size from hl) (by omega), fun hin => by simp [BlkIn, nth, blkOf, vaddr] at hin; try omega, fun hx => by cases hx⟩) (fun w35 h35 => ?_) (fun w35 l w36 h35 _ hR kk36 => ?_)
  · obtain ⟨S0, E34'⟩ := E34
    exact (m21 (E34'.same (shown_new h35 fun x hx => by first | (simp [BlkIn, nth, blkOf, vaddr] at hx; done) | (simp [BlkIn, nth, blkOf, vaddr] at hx; omega))) wk11 (by have := cL; omega) n3 n3ok).mono (fun v w' p _ => ⟨[.bool true, .int .i64 (raiseC n3)], ⟨⟨_, rfl⟩, ⟨_, rfl⟩, trivial⟩, (by rw [p.1, q12]; rfl), ⟨rfl, _, p.2⟩, trivial⟩) fun x hx h => h
  obtain ⟨rfl, E36⟩ := hR
  have s35 : w2.heap.size ≤ w35.heap.size := Nat.le_trans s34 (h35.kept.size)
  have s36 : w2.heap.size ≤ w36.heap.size := Nat.le_trans s35 kk36.size
  refine den_norm (by simp only [List.cons_append, List.nil_append]; rfl) ?_
  refine den_callM (fun _ x => x = b) (fun _ l w' => l = [.bool false, .int .i64 (raiseC n3)] ∧ EvX w' b m k13) (fun wx hx x hxx hlt => ⟨fun hd => (by cases hd), fun hl => absurd (show x < w.heap.size from hl) (by omega), fun hin => by simp [BlkIn, nth, blkOf, vaddr] at hin; try omega, fun hx => by cases hx⟩) (fun w37 h37 => ?_) (fun w37 l w38 h37 _ hR kk38 => ?_)
  · obtain ⟨S0, E36'⟩ := E36
    exact (m21 (E36'.same (shown_new h37 fun x hx => by first | (simp [BlkIn, nth, blkOf, vaddr] at hx; done) | (simp [BlkIn, nth, blkOf, vaddr] at hx; omega))) wk12 (by have := cL; omega) n3 n3ok).mono (fun v w' p _ => ⟨[.bool false, .int .i64 (raiseC n3)], ⟨⟨_, rfl⟩, ⟨_, rfl⟩, trivial⟩, (by rw [p.1, q13]; rfl), ⟨rfl, _, p.2⟩, trivial⟩) fun x hx h => h
  obtain ⟨rfl, E38⟩ := hR
  have s37 : w2.heap.size ≤ w37.heap.size := Nat.le_trans s36 (h37.kept.size)
  have s38 : w2.heap.size ≤ w38.heap.size := Nat.le_trans s37 kk38.size
  refine den_norm (by simp only [List.cons_append, List.nil_append]; rfl) ?_
  refine den_callM (fun _ x => x = b) (fun _ l w' => l = [.bool (raiseB k13 n4), .int .i64 2] ∧ EvX w' b m (raiseE k13 n4)) (fun wx hx x hxx hlt => ⟨fun hd => (by cases hd), fun hl => absurd (show x < w.heap.size from hl) (by omega), fun hin => by simp [BlkIn, nth, blkOf, vaddr] at hin; try omega, fun hx => by cases hx⟩) (fun w39 h39 => ?_) (fun w39 l w40 h39 _ hR kk40 => ?_)
  · obtain ⟨S0, E38'⟩ := E38
    exact (m21 (E38'.same (shown_new h39 fun x hx => by first | (simp [BlkIn, nth, blkOf, vaddr] at hx; done) | (simp [BlkIn, nth, blkOf, vaddr] at hx; omega))) wk13 (by have := cL; omega) n4 n4ok).mono (fun v w' p _ => ⟨[.bool (raiseB k13 n4), .int .i64 2], ⟨⟨_, rfl⟩, ⟨_, rfl⟩, trivial⟩, (by rw [p.1, q14]; rfl), ⟨rfl, _, p.2⟩, trivial⟩) fun x hx h => h
  obtain ⟨rfl, E40⟩ := hR
  have s39 : w2.heap.size ≤ w39.heap.size := Nat.le_trans s38 (h39.kept.size)
  have s40 : w2.heap.size ≤ w40.heap.size := Nat.le_trans s39 kk40.size
  refine den_norm (by simp only [List.cons_append, List.nil_append]; rfl) ?_
  refine den_split_true rfl (den_split_true rfl (den_split_true rfl (den_split_true rfl (den_leafA _ rfl fun wz _ => rfl))))

theorem c3 (n : Ntc) (hn : n.Ok) (c : Int) (hc : 0 ≤ c ∧ c < 4294967296) (w : World) : Gives Try.prog 3 [n.v, .int .u32 c] w (.bool true) := by
  have h10 := c10 n hn
  have h11 := c11 n hn
  have h12 := c12 n hn
  have h13 := c13 n
  have h14 := c14 n hn c hc
  have h15 := c15 n hn c hc
  have hh := gives (r := .bool true) (w := w) mix t3 rfl rfl (ε := [.int .u8 n.t, .int .u8 n.i, .int .u8 n.p, .int .u32 c]) ⟨⟨_, rfl⟩, ⟨_, rfl⟩, ⟨_, rfl⟩, ⟨_, rfl⟩, trivial⟩ ?_
  · exact hh
  refine den_blk fun b4 _ _ _ => den_norm (by simp only [List.cons_append, List.nil_append]; rfl) (den_startF fun w1 _ => ?_)
  refine den_call_int (x := resI n) (fun wa _ => h10 wa) rfl (fun _ _ _ _ => den_norm (by simp only [List.cons_append, List.nil_append]; rfl) ?_)
  refine den_call_int (x := resI n) (fun wa _ => h11 wa) rfl (fun _ _ _ _ => den_norm (by simp only [List.cons_append, List.nil_append]; rfl) (den_split_true (by simp [BE.den, IE.den, nth, vint]) ?_))
  refine den_call_bool (b := n.valid) (fun wa _ => h12 wa) rfl (fun _ _ _ _ => den_norm (by simp only [List.cons_append, List.nil_append]; rfl) ?_)
  refine den_call_bool (b := n.valid) (fun wa _ => h13 wa) rfl (fun _ _ _ _ => den_norm (by simp only [List.cons_append, List.nil_append]; rfl) (den_split_true (by simp [BE.den, nth, vbool]) ?_))
  refine den_call_bool (b := enI n.t n.i c) (fun wa _ => h14 wa) rfl (fun _ _ _ _ => den_norm (by simp only [List.cons_append, List.nil_append]; rfl) ?_)
  refine den_call_bool (b := enI n.t n.i c) (fun wa _ => h15 wa) rfl (fun _ _ _ _ => den_norm (by simp only [List.cons_append, List.nil_append]; rfl) (den_split_true (by simp [BE.den, nth, vbool]) ?_))
  exact den_call_bool (b := true) (fun wa _ => c16 wa) rfl (fun _ _ _ _ => den_norm (by simp only [List.cons_append, List.nil_append]; rfl) (den_leaf rfl))
end Go.Proofs.Ytfjlnfgbfclgbaa
