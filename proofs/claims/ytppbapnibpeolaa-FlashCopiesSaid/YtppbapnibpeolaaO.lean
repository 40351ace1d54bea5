/- The examples of the chapter. No conditions. -/
import Derived.Test.YtppbapnibpeolaaN
import Derived.Test.YtppbapnibpeolaaTD
set_option maxRecDepth 100000
set_option maxHeartbeats 4000000
set_option linter.unusedVariables false
set_option linter.unusedSimpArgs false
namespace Go.Proofs.Ytppbapnibpeolaa
open Go.Sx

theorem fpS {P : Program} {w0 wx : World} {S X : Nat → Prop} {ε : List Value} {un t : List Nat} {fs : Facts} (hS0 : ∀ y, S y → w0.heap.size ≤ y) (hun : ∀ y, BlkIn ε un y → ¬ S y) : ∀ w, Shown (G0 P w0) ε t fs wx w → ∀ y, S y → y < w.heap.size → FpOk (G0 P w0) false X ε un w y :=
  fun w _ y hy _ => ⟨fun h => (by cases h), fun hl => absurd (hS0 y hy) (by have : y < w0.heap.size := hl; omega), fun hin => hun y hin hy, fun h => (by cases h)⟩
def g2 : Geo := ⟨2, 2, 2, 2⟩
def sev : List Int := List.replicate 64 7
def wd0 : Dv := newDv g2 (inF [2])
def wd1 : Dv := wd0.prgD 0 0 [97, 98] sev
def wd2 : Dv := wd1.cutD 1 1
def wd3 : Dv := wd2.prgD 0 1 [99, 100] sev
def wd4 : Dv := wd3.rst
def wd5 : Dv := wd4.ersD 0
def wd6 : Dv := wd5.ersD 0
theorem wf0 : Wf wd0 := Wf.new g2 _ (by decide) (by decide) (by decide) (by decide) (by decide) (by decide) (by decide) (by decide)
theorem wf1 : Wf wd1 := wf0.prgD _ _ _ _
theorem wf2 : Wf wd2 := wf1.cutD _ _
theorem wf3 : Wf wd3 := wf2.prgD _ _ _ _
theorem wf4 : Wf wd4 := wf3.rst
theorem wf5 : Wf wd5 := wf4.ersD _
theorem wf6 : Wf wd6 := wf5.ersD _
theorem e_p1 : wd0.prgE 0 0 [97, 98] sev = 0 := by decide +kernel
theorem e_p2 : wd1.prgE 0 0 [99, 100] sev = 51 := by decide +kernel
theorem d_p2 : wd1.prgD 0 0 [99, 100] sev = wd1 := if_neg (by decide +kernel)
theorem e_p3 : wd1.prgE 1 1 [99, 100] sev = 51 := by decide +kernel
theorem d_p3 : wd1.prgD 1 1 [99, 100] sev = wd1 := if_neg (by decide +kernel)
theorem r1e : wd1.rdE 0 0 = 0 := by decide +kernel
theorem r1a : wd1.rdA 0 0 = [97, 98] := by decide +kernel
theorem r1b : wd1.rdB 0 0 = sev := by decide +kernel
theorem r2e : wd1.rdE 0 1 = 52 := by decide +kernel
theorem e_c : wd1.cutE 1 1 = 0 := by decide +kernel
theorem e_p4 : wd2.prgE 0 1 [99, 100] sev = 50 := by decide +kernel
theorem r3e : wd3.rdE 0 0 = 50 := by decide +kernel
theorem r4e : wd4.rdE 0 1 = 0 := by decide +kernel
theorem r4a : wd4.rdA 0 1 = [99, 255] := by decide +kernel
theorem r4b : wd4.rdB 0 1 = List.replicate 64 255 := by decide +kernel
theorem s4 : wd4.state 0 1 = 3 := by decide +kernel
theorem e_e1 : wd4.ersE 0 = 55 := by decide +kernel
theorem s5' : wd5.state 0 0 = 5 := by decide +kernel
theorem r5e : wd5.rdE 0 0 = 53 := by decide +kernel
theorem e_e2 : wd5.ersE 0 = 0 := by decide +kernel
theorem n6 : wd6.next 0 = 0 := by decide +kernel
theorem e_e3 : wd6.ersE 0 = 56 := by decide +kernel
theorem d_e3 : wd6.ersD 0 = wd6 := if_neg (by decide +kernel)
theorem o6 : wd6.n = 4 := by decide +kernel
theorem strEq_refl (D : List Int) : strEq D D = true := by simp [strEq]
theorem c11 (w : World) : Gives Try.prog 11 [] w (.bool true) := by
  refine gives mix t11 rfl rfl (ε := []) trivial (den_blk fun b0 k0 _ _ => den_norm (by simp only [List.cons_append, List.nil_append]; rfl) ?_)
  have z0 : w.heap.size ≤ b0 := k0
  refine den_callR (fun w1 l w2 => ∃ b mf sB Lb, l = [pt b, .int .i64 0] ∧ DevM w2 (fun y => w1.heap.size ≤ y ∧ y < w2.heap.size) (fun y => w1.heap.size ≤ y ∧ y < w2.heap.size) b mf sB Lb wd0) (fun w1 h1 => ?_) (fun w1 l w2 h1 hfl hR k12 => ?_)
  · have hF : HasBlk w1 (pt b0) [.int .i64 2] := h1.facts.1
    have hr := c29 g2 (slc0 b0 1 1) [2] w1 (lit_given (E := intE) (L := [2]) rfl (by decide) (by decide) hF) (by decide) (by decide)
    have key : ∀ l, l = [g2.v, slc0 b0 1 1] → GivesR Try.prog 29 l w1 _ := fun l e => by rw [e]; exact hr
    refine (key _ (by simp [SV.den, denL, IE.den, BE.den, nth, vint, vbool, vaddr, addO, addr_add, g2, Geo.v])).mono fun v w' h => ?_
    rcases h with ⟨h, _⟩ | ⟨_, _, b, mf, sB, Lb, e, hD⟩
    · exact absurd h (by decide)
    · exact ⟨[pt b, .int .i64 0], ⟨⟨_, rfl⟩, ⟨_, rfl⟩, trivial⟩, e, b, mf, sB, Lb, rfl, hD⟩
  obtain ⟨b, mf, sB, Lb, rfl, H⟩ := hR
  have lb0 : b0 < w1.heap.size := h1.lt (i := 0) (by simp [keys]) rfl
  have z : w.heap.size ≤ w1.heap.size := h1.base.size
  have hS0 : ∀ y, w1.heap.size ≤ y ∧ y < w2.heap.size → w.heap.size ≤ y := fun y hy => Nat.le_trans z hy.1
  have b0k : Bk w2 (fun y => w1.heap.size ≤ y ∧ y < w2.heap.size) b0 := ⟨Nat.lt_of_lt_of_le lb0 k12.size, fun hy => by have := hy.1; omega⟩
  have z : w.heap.size ≤ w2.heap.size := Nat.le_trans z k12.size
  obtain ⟨S, hS⟩ : ∃ S : Nat → Prop, S = fun y => w1.heap.size ≤ y ∧ y < w2.heap.size := ⟨_, rfl⟩
  rw [← hS] at H b0k
  have hS0 : ∀ y, S y → w.heap.size ≤ y := fun y hy => hS0 y (by rw [hS] at hy; exact hy)
  obtain ⟨T, hT⟩ : ∃ T : Nat → Prop, T = S := ⟨_, rfl⟩
  rw [show DevM w2 S S b mf sB Lb wd0 = DevM w2 S T b mf sB Lb wd0 by rw [hT]] at H
  clear hS hT
  refine den_norm (by simp only [List.cons_append, List.nil_append]; rfl) ?_
  refine den_m32 rfl 64 7 (by decide) rfl (fun _ => rfl) (fun a11 vs7 c11 ha11 kc11 ma11 fa11 => den_norm (by simp only [List.cons_append, List.nil_append]; rfl) ?_)
  have kka11 : Same w2 c11 := (shown_same ha11).trans kc11
  have HHa11 := H.same (shown_same ha11)
  have s7 : Lv c11 S vs7 sev := Lv.mine ma11 fun y hy hs => by have := fa11 y hy; have := HHa11.lt _ (HHa11.ST _ hs); omega
  have z : w.heap.size ≤ c11.heap.size := Nat.le_trans z kka11.size
  have H := H.same kka11
  have b0k := b0k.kept kka11
  refine den_m18 rfl 0 rfl (fun _ => rfl) (fun a12 c12 ha12 kc12 => den_norm (by simp only [List.cons_append, List.nil_append]; rfl) ?_)
  have kka12 : Same c11 c12 := (shown_same ha12).trans kc12
  have z : w.heap.size ≤ c12.heap.size := Nat.le_trans z kka12.size
  have H := H.same kka12
  have s7 := s7.same kka12
  have b0k := b0k.kept kka12
  refine den_split_false rfl ?_
  refine den_split_false rfl ?_
  refine den_blk fun b5 kb5 _ _ => den_norm (by simp only [List.cons_append, List.nil_append]; rfl) ?_
  have zb5 : c12.heap.size ≤ b5 := kb5
  refine den_lit u26 u5 [97, 98] (by decide) rfl rfl rfl (by decide) (by decide) (fun _ => rfl) (fun wa y ha e hl => ?_) (fun a13 c13 y ha13 e hG5 hka13 => den_norm (by simp only [List.cons_append, List.nil_append]; rfl) ?_)
  · have e2 : pt b5 = pt y := e
    have hl2 : y < w.heap.size := hl
    cases e2
    omega
  obtain rfl : b5 = y := by have e2 : pt b5 = pt y := e; cases e2; rfl
  have kka13 : Same c12 c13 := (((shown_same ha13).mono fun _ _ h => h.elim).trans hka13).mono fun y hy e => by omega
  have l5 : Lv c13 S (slc0 b5 2 2) [97, 98] := ⟨hG5, fun ad had hs => by have := H.lt _ (H.ST _ hs); have e : b5 = ad.block := (by cases had; rfl); omega⟩
  have z : w.heap.size ≤ c13.heap.size := Nat.le_trans z kka13.size
  have H := H.same kka13
  have s7 := s7.same kka13
  have b0k := b0k.kept kka13
  refine den_m19 rfl 0 0 _ _ [97, 98] sev 0 wd1 rfl (fun _ => rfl) (fun wa ha => H.same (shown_same ha)) wf0 (fun wa ha => (l5.same (shown_same ha)).g.src) (fun wa ha => (s7.same (shown_same ha)).g.src) (by decide +kernel) (by decide) (by decide) e_p1 rfl (fpS hS0 ?_) (fun a14 c14 Lb ha14 hka14 H2 => den_norm (by simp only [List.cons_append, List.nil_append]; rfl) ?_)
  · intro y hin
    have e : b0 = y := by simpa [BlkIn, nth, blkOf, vaddr] using hin
    subst e
    exact b0k.no
  have z : w.heap.size ≤ c14.heap.size := Nat.le_trans z (Nat.le_trans (shown_same ha14).size hka14.size)
  have s7 := (s7.same (shown_same ha14)).kept hka14
  have l5 := (l5.same (shown_same ha14)).kept hka14
  have b0k := (b0k.kept (shown_same ha14)).kept hka14
  have H := H2
  clear H2
  refine den_m18 rfl 0 rfl (fun _ => rfl) (fun a15 c15 ha15 kc15 => den_norm (by simp only [List.cons_append, List.nil_append]; rfl) ?_)
  have kka15 : Same c14 c15 := (shown_same ha15).trans kc15
  have z : w.heap.size ≤ c15.heap.size := Nat.le_trans z kka15.size
  have H := H.same kka15
  have s7 := s7.same kka15
  have l5 := l5.same kka15
  have b0k := b0k.kept kka15
  refine den_split_false rfl ?_
  refine den_blk fun b9 kb9 _ _ => den_norm (by simp only [List.cons_append, List.nil_append]; rfl) ?_
  have zb9 : c15.heap.size ≤ b9 := kb9
  refine den_lit u26 u5 [99, 100] (by decide) rfl rfl rfl (by decide) (by decide) (fun _ => rfl) (fun wa y ha e hl => ?_) (fun a16 c16 y ha16 e hG9 hka16 => den_norm (by simp only [List.cons_append, List.nil_append]; rfl) ?_)
  · have e2 : pt b9 = pt y := e
    have hl2 : y < w.heap.size := hl
    cases e2
    omega
  obtain rfl : b9 = y := by have e2 : pt b9 = pt y := e; cases e2; rfl
  have kka16 : Same c15 c16 := (((shown_same ha16).mono fun _ _ h => h.elim).trans hka16).mono fun y hy e => by omega
  have l9 : Lv c16 S (slc0 b9 2 2) [99, 100] := ⟨hG9, fun ad had hs => by have := H.lt _ (H.ST _ hs); have e : b9 = ad.block := (by cases had; rfl); omega⟩
  have z : w.heap.size ≤ c16.heap.size := Nat.le_trans z kka16.size
  have H := H.same kka16
  have s7 := s7.same kka16
  have l5 := l5.same kka16
  have b0k := b0k.kept kka16
  refine den_m19 rfl 0 0 _ _ [99, 100] sev 51 wd1 rfl (fun _ => rfl) (fun wa ha => H.same (shown_same ha)) wf1 (fun wa ha => (l9.same (shown_same ha)).g.src) (fun wa ha => (s7.same (shown_same ha)).g.src) (by decide +kernel) (by decide) (by decide) e_p2 d_p2 (fpS hS0 ?_) (fun a17 c17 Lb ha17 hka17 H2 => den_norm (by simp only [List.cons_append, List.nil_append]; rfl) ?_)
  · intro y hin
    have e : b0 = y := by simpa [BlkIn, nth, blkOf, vaddr] using hin
    subst e
    exact b0k.no
  have z : w.heap.size ≤ c17.heap.size := Nat.le_trans z (Nat.le_trans (shown_same ha17).size hka17.size)
  have s7 := (s7.same (shown_same ha17)).kept hka17
  have l5 := (l5.same (shown_same ha17)).kept hka17
  have l9 := (l9.same (shown_same ha17)).kept hka17
  have b0k := (b0k.kept (shown_same ha17)).kept hka17
  have H := H2
  clear H2
  refine den_split_false rfl ?_
  refine den_blk fun b12 kb12 _ _ => den_norm (by simp only [List.cons_append, List.nil_append]; rfl) ?_
  have zb12 : c17.heap.size ≤ b12 := kb12
  refine den_lit u26 u5 [99, 100] (by decide) rfl rfl rfl (by decide) (by decide) (fun _ => rfl) (fun wa y ha e hl => ?_) (fun a18 c18 y ha18 e hG12 hka18 => den_norm (by simp only [List.cons_append, List.nil_append]; rfl) ?_)
  · have e2 : pt b12 = pt y := e
    have hl2 : y < w.heap.size := hl
    cases e2
    omega
  obtain rfl : b12 = y := by have e2 : pt b12 = pt y := e; cases e2; rfl
  have kka18 : Same c17 c18 := (((shown_same ha18).mono fun _ _ h => h.elim).trans hka18).mono fun y hy e => by omega
  have l12 : Lv c18 S (slc0 b12 2 2) [99, 100] := ⟨hG12, fun ad had hs => by have := H.lt _ (H.ST _ hs); have e : b12 = ad.block := (by cases had; rfl); omega⟩
  have z : w.heap.size ≤ c18.heap.size := Nat.le_trans z kka18.size
  have H := H.same kka18
  have s7 := s7.same kka18
  have l5 := l5.same kka18
  have l9 := l9.same kka18
  have b0k := b0k.kept kka18
  refine den_m19 rfl 1 1 _ _ [99, 100] sev 51 wd1 rfl (fun _ => rfl) (fun wa ha => H.same (shown_same ha)) wf1 (fun wa ha => (l12.same (shown_same ha)).g.src) (fun wa ha => (s7.same (shown_same ha)).g.src) (by decide +kernel) (by decide) (by decide) e_p3 d_p3 (fpS hS0 ?_) (fun a19 c19 Lb ha19 hka19 H2 => den_norm (by simp only [List.cons_append, List.nil_append]; rfl) ?_)
  · intro y hin
    have e : b0 = y := by simpa [BlkIn, nth, blkOf, vaddr] using hin
    subst e
    exact b0k.no
  have z : w.heap.size ≤ c19.heap.size := Nat.le_trans z (Nat.le_trans (shown_same ha19).size hka19.size)
  have s7 := (s7.same (shown_same ha19)).kept hka19
  have l5 := (l5.same (shown_same ha19)).kept hka19
  have l9 := (l9.same (shown_same ha19)).kept hka19
  have l12 := (l12.same (shown_same ha19)).kept hka19
  have b0k := (b0k.kept (shown_same ha19)).kept hka19
  have H := H2
  clear H2
  refine den_split_false rfl ?_
  refine den_m13 rfl 0 0 0 [97, 98] sev rfl (fun _ _ _ => ⟨rfl, rfl, rfl⟩) (fun wa ha => H.same (shown_same ha)) wf1 r1e r1a r1b (fun a20 va20 vb20 c20 ha20 kc20 m1a20 m2a20 f1a20 f2a20 => den_norm (by simp only [List.cons_append, List.nil_append]; rfl) ?_)
  have kka20 : Same c19 c20 := (shown_same ha20).trans kc20
  have HHa20 := H.same (shown_same ha20)
  have raa : Lv c20 S va20 [97, 98] := Lv.mine m1a20 fun y hy hs => by have := f1a20 y hy; have := HHa20.lt _ (HHa20.ST _ hs); omega
  have rab : Lv c20 S vb20 sev := Lv.mine m2a20 fun y hy hs => by have := (f2a20 y hy).1; have := HHa20.lt _ (HHa20.ST _ hs); omega
  have z : w.heap.size ≤ c20.heap.size := Nat.le_trans z kka20.size
  have H := H.same kka20
  have s7 := s7.same kka20
  have l5 := l5.same kka20
  have l9 := l9.same kka20
  have l12 := l12.same kka20
  have b0k := b0k.kept kka20
  refine den_m13 rfl 0 1 52 _ _ rfl (fun _ _ _ => ⟨rfl, rfl, rfl⟩) (fun wa ha => H.same (shown_same ha)) wf1 r2e rfl rfl (fun a21 va21 vb21 c21 ha21 kc21 m1a21 m2a21 f1a21 f2a21 => den_norm (by simp only [List.cons_append, List.nil_append]; rfl) ?_)
  have kka21 : Same c20 c21 := (shown_same ha21).trans kc21
  have z : w.heap.size ≤ c21.heap.size := Nat.le_trans z kka21.size
  have H := H.same kka21
  have s7 := s7.same kka21
  have l5 := l5.same kka21
  have l9 := l9.same kka21
  have l12 := l12.same kka21
  have raa := raa.same kka21
  have rab := rab.same kka21
  have b0k := b0k.kept kka21
  refine den_m18 rfl 0 rfl (fun _ => rfl) (fun a22 c22 ha22 kc22 => den_norm (by simp only [List.cons_append, List.nil_append]; rfl) ?_)
  have kka22 : Same c21 c22 := (shown_same ha22).trans kc22
  have z : w.heap.size ≤ c22.heap.size := Nat.le_trans z kka22.size
  have H := H.same kka22
  have s7 := s7.same kka22
  have l5 := l5.same kka22
  have l9 := l9.same kka22
  have l12 := l12.same kka22
  have raa := raa.same kka22
  have rab := rab.same kka22
  have b0k := b0k.kept kka22
  refine den_split_false rfl ?_
  refine den_blk fun b22 kb22 _ _ => den_norm (by simp only [List.cons_append, List.nil_append]; rfl) ?_
  have zb22 : c22.heap.size ≤ b22 := kb22
  refine den_lit u26 u5 [97, 98] (by decide) rfl rfl rfl (by decide) (by decide) (fun _ => rfl) (fun wa y ha e hl => ?_) (fun a23 c23 y ha23 e hG22 hka23 => den_norm (by simp only [List.cons_append, List.nil_append]; rfl) ?_)
  · have e2 : pt b22 = pt y := e
    have hl2 : y < w.heap.size := hl
    cases e2
    omega
  obtain rfl : b22 = y := by have e2 : pt b22 = pt y := e; cases e2; rfl
  have kka23 : Same c22 c23 := (((shown_same ha23).mono fun _ _ h => h.elim).trans hka23).mono fun y hy e => by omega
  have l22 : Lv c23 S (slc0 b22 2 2) [97, 98] := ⟨hG22, fun ad had hs => by have := H.lt _ (H.ST _ hs); have e : b22 = ad.block := (by cases had; rfl); omega⟩
  have z : w.heap.size ≤ c23.heap.size := Nat.le_trans z kka23.size
  have H := H.same kka23
  have s7 := s7.same kka23
  have l5 := l5.same kka23
  have l9 := l9.same kka23
  have l12 := l12.same kka23
  have raa := raa.same kka23
  have rab := rab.same kka23
  have b0k := b0k.kept kka23
  refine den_m30 rfl _ _ [97, 98] [97, 98] true (strEq_refl _) rfl (fun _ => rfl) (fun wa ha => (raa.same (shown_same ha)).g.src) (fun wa ha => (l22.same (shown_same ha)).g.src) (fun a24 c24 ha24 kc24 => den_norm (by simp only [List.cons_append, List.nil_append]; rfl) ?_)
  have kka24 : Same c23 c24 := (shown_same ha24).trans kc24
  have z : w.heap.size ≤ c24.heap.size := Nat.le_trans z kka24.size
  have H := H.same kka24
  have s7 := s7.same kka24
  have l5 := l5.same kka24
  have l9 := l9.same kka24
  have l12 := l12.same kka24
  have raa := raa.same kka24
  have rab := rab.same kka24
  have l22 := l22.same kka24
  have b0k := b0k.kept kka24
  refine den_split_false rfl ?_
  refine den_m30 rfl _ _ sev sev true (strEq_refl _) rfl (fun _ => rfl) (fun wa ha => (rab.same (shown_same ha)).g.src) (fun wa ha => (s7.same (shown_same ha)).g.src) (fun a25 c25 ha25 kc25 => den_norm (by simp only [List.cons_append, List.nil_append]; rfl) ?_)
  have kka25 : Same c24 c25 := (shown_same ha25).trans kc25
  have z : w.heap.size ≤ c25.heap.size := Nat.le_trans z kka25.size
  have H := H.same kka25
  have s7 := s7.same kka25
  have l5 := l5.same kka25
  have l9 := l9.same kka25
  have l12 := l12.same kka25
  have raa := raa.same kka25
  have rab := rab.same kka25
  have l22 := l22.same kka25
  have b0k := b0k.kept kka25
  refine den_split_false rfl ?_
  refine den_split_false rfl ?_
  refine den_m21 rfl 1 1 0 wd2 rfl (fun _ => rfl) (fun wa ha => H.same (shown_same ha)) wf1 e_c rfl (fpS hS0 ?_) (fun a26 c26 ha26 hka26 H2 => den_norm (by simp only [List.cons_append, List.nil_append]; rfl) ?_)
  · intro y hin
    have e : b0 = y := by simpa [BlkIn, nth, blkOf, vaddr] using hin
    subst e
    exact b0k.no
  have z : w.heap.size ≤ c26.heap.size := Nat.le_trans z (Nat.le_trans (shown_same ha26).size hka26.size)
  have s7 := (s7.same (shown_same ha26)).kept hka26
  have l5 := (l5.same (shown_same ha26)).kept hka26
  have l9 := (l9.same (shown_same ha26)).kept hka26
  have l12 := (l12.same (shown_same ha26)).kept hka26
  have raa := (raa.same (shown_same ha26)).kept hka26
  have rab := (rab.same (shown_same ha26)).kept hka26
  have l22 := (l22.same (shown_same ha26)).kept hka26
  have b0k := (b0k.kept (shown_same ha26)).kept hka26
  have H := H2
  clear H2
  refine den_m18 rfl 0 rfl (fun _ => rfl) (fun a27 c27 ha27 kc27 => den_norm (by simp only [List.cons_append, List.nil_append]; rfl) ?_)
  have kka27 : Same c26 c27 := (shown_same ha27).trans kc27
  have z : w.heap.size ≤ c27.heap.size := Nat.le_trans z kka27.size
  have H := H.same kka27
  have s7 := s7.same kka27
  have l5 := l5.same kka27
  have l9 := l9.same kka27
  have l12 := l12.same kka27
  have raa := raa.same kka27
  have rab := rab.same kka27
  have l22 := l22.same kka27
  have b0k := b0k.kept kka27
  refine den_split_false rfl ?_
  refine den_blk fun b28 kb28 _ _ => den_norm (by simp only [List.cons_append, List.nil_append]; rfl) ?_
  have zb28 : c27.heap.size ≤ b28 := kb28
  refine den_lit u26 u5 [99, 100] (by decide) rfl rfl rfl (by decide) (by decide) (fun _ => rfl) (fun wa y ha e hl => ?_) (fun a28 c28 y ha28 e hG28 hka28 => den_norm (by simp only [List.cons_append, List.nil_append]; rfl) ?_)
  · have e2 : pt b28 = pt y := e
    have hl2 : y < w.heap.size := hl
    cases e2
    omega
  obtain rfl : b28 = y := by have e2 : pt b28 = pt y := e; cases e2; rfl
  have kka28 : Same c27 c28 := (((shown_same ha28).mono fun _ _ h => h.elim).trans hka28).mono fun y hy e => by omega
  have l28 : Lv c28 S (slc0 b28 2 2) [99, 100] := ⟨hG28, fun ad had hs => by have := H.lt _ (H.ST _ hs); have e : b28 = ad.block := (by cases had; rfl); omega⟩
  have z : w.heap.size ≤ c28.heap.size := Nat.le_trans z kka28.size
  have H := H.same kka28
  have s7 := s7.same kka28
  have l5 := l5.same kka28
  have l9 := l9.same kka28
  have l12 := l12.same kka28
  have raa := raa.same kka28
  have rab := rab.same kka28
  have l22 := l22.same kka28
  have b0k := b0k.kept kka28
  refine den_m19 rfl 0 1 _ _ [99, 100] sev 50 wd3 rfl (fun _ => rfl) (fun wa ha => H.same (shown_same ha)) wf2 (fun wa ha => (l28.same (shown_same ha)).g.src) (fun wa ha => (s7.same (shown_same ha)).g.src) (by decide +kernel) (by decide) (by decide) e_p4 rfl (fpS hS0 ?_) (fun a29 c29 Lb ha29 hka29 H2 => den_norm (by simp only [List.cons_append, List.nil_append]; rfl) ?_)
  · intro y hin
    have e : b0 = y := by simpa [BlkIn, nth, blkOf, vaddr] using hin
    subst e
    exact b0k.no
  have z : w.heap.size ≤ c29.heap.size := Nat.le_trans z (Nat.le_trans (shown_same ha29).size hka29.size)
  have s7 := (s7.same (shown_same ha29)).kept hka29
  have l5 := (l5.same (shown_same ha29)).kept hka29
  have l9 := (l9.same (shown_same ha29)).kept hka29
  have l12 := (l12.same (shown_same ha29)).kept hka29
  have raa := (raa.same (shown_same ha29)).kept hka29
  have rab := (rab.same (shown_same ha29)).kept hka29
  have l22 := (l22.same (shown_same ha29)).kept hka29
  have l28 := (l28.same (shown_same ha29)).kept hka29
  have b0k := (b0k.kept (shown_same ha29)).kept hka29
  have H := H2
  clear H2
  refine den_split_false rfl ?_
  refine den_m13 rfl 0 0 50 _ _ rfl (fun _ _ _ => ⟨rfl, rfl, rfl⟩) (fun wa ha => H.same (shown_same ha)) wf3 r3e rfl rfl (fun a30 va30 vb30 c30 ha30 kc30 m1a30 m2a30 f1a30 f2a30 => den_norm (by simp only [List.cons_append, List.nil_append]; rfl) ?_)
  have kka30 : Same c29 c30 := (shown_same ha30).trans kc30
  have z : w.heap.size ≤ c30.heap.size := Nat.le_trans z kka30.size
  have H := H.same kka30
  have s7 := s7.same kka30
  have l5 := l5.same kka30
  have l9 := l9.same kka30
  have l12 := l12.same kka30
  have raa := raa.same kka30
  have rab := rab.same kka30
  have l22 := l22.same kka30
  have l28 := l28.same kka30
  have b0k := b0k.kept kka30
  refine den_m22 rfl 0 wd4 rfl (fun _ => rfl) (fun wa ha => H.same (shown_same ha)) wf3 rfl rfl (fpS hS0 ?_) (fun a31 c31 ha31 hka31 H2 => den_norm (by simp only [List.cons_append, List.nil_append]; rfl) ?_)
  · intro y hin
    have e : b0 = y := by simpa [BlkIn, nth, blkOf, vaddr] using hin
    subst e
    exact b0k.no
  have z : w.heap.size ≤ c31.heap.size := Nat.le_trans z (Nat.le_trans (shown_same ha31).size hka31.size)
  have s7 := (s7.same (shown_same ha31)).kept hka31
  have l5 := (l5.same (shown_same ha31)).kept hka31
  have l9 := (l9.same (shown_same ha31)).kept hka31
  have l12 := (l12.same (shown_same ha31)).kept hka31
  have raa := (raa.same (shown_same ha31)).kept hka31
  have rab := (rab.same (shown_same ha31)).kept hka31
  have l22 := (l22.same (shown_same ha31)).kept hka31
  have l28 := (l28.same (shown_same ha31)).kept hka31
  have b0k := (b0k.kept (shown_same ha31)).kept hka31
  have H := H2
  clear H2
  refine den_m13 rfl 0 1 0 [99, 255] (List.replicate 64 255) rfl (fun _ _ _ => ⟨rfl, rfl, rfl⟩) (fun wa ha => H.same (shown_same ha)) wf4 r4e r4a r4b (fun a32 va32 vb32 c32 ha32 kc32 m1a32 m2a32 f1a32 f2a32 => den_norm (by simp only [List.cons_append, List.nil_append]; rfl) ?_)
  have kka32 : Same c31 c32 := (shown_same ha32).trans kc32
  have HHa32 := H.same (shown_same ha32)
  have rxa : Lv c32 S va32 [99, 255] := Lv.mine m1a32 fun y hy hs => by have := f1a32 y hy; have := HHa32.lt _ (HHa32.ST _ hs); omega
  have rxb : Lv c32 S vb32 (List.replicate 64 255) := Lv.mine m2a32 fun y hy hs => by have := (f2a32 y hy).1; have := HHa32.lt _ (HHa32.ST _ hs); omega
  have z : w.heap.size ≤ c32.heap.size := Nat.le_trans z kka32.size
  have H := H.same kka32
  have s7 := s7.same kka32
  have l5 := l5.same kka32
  have l9 := l9.same kka32
  have l12 := l12.same kka32
  have raa := raa.same kka32
  have rab := rab.same kka32
  have l22 := l22.same kka32
  have l28 := l28.same kka32
  have b0k := b0k.kept kka32
  refine den_split_false rfl ?_
  refine den_m18 rfl 0 rfl (fun _ => rfl) (fun a33 c33 ha33 kc33 => den_norm (by simp only [List.cons_append, List.nil_append]; rfl) ?_)
  have kka33 : Same c32 c33 := (shown_same ha33).trans kc33
  have z : w.heap.size ≤ c33.heap.size := Nat.le_trans z kka33.size
  have H := H.same kka33
  have s7 := s7.same kka33
  have l5 := l5.same kka33
  have l9 := l9.same kka33
  have l12 := l12.same kka33
  have raa := raa.same kka33
  have rab := rab.same kka33
  have l22 := l22.same kka33
  have l28 := l28.same kka33
  have rxa := rxa.same kka33
  have rxb := rxb.same kka33
  have b0k := b0k.kept kka33
  refine den_m18 rfl 0 rfl (fun _ => rfl) (fun a34 c34 ha34 kc34 => den_norm (by simp only [List.cons_append, List.nil_append]; rfl) ?_)
  have kka34 : Same c33 c34 := (shown_same ha34).trans kc34
  have z : w.heap.size ≤ c34.heap.size := Nat.le_trans z kka34.size
  have H := H.same kka34
  have s7 := s7.same kka34
  have l5 := l5.same kka34
  have l9 := l9.same kka34
  have l12 := l12.same kka34
  have raa := raa.same kka34
  have rab := rab.same kka34
  have l22 := l22.same kka34
  have l28 := l28.same kka34
  have rxa := rxa.same kka34
  have rxb := rxb.same kka34
  have b0k := b0k.kept kka34
  refine den_ob64 ⟨by simp only [IE.den, nth, vint]; omega, by simp only [IE.den, nth, vint]; omega⟩ ?_
  refine den_split_false rfl ?_
  refine den_blk fun b40 k40 _ _ => den_norm (by simp only [List.cons_append, List.nil_append]; rfl) ?_
  have z40 : c34.heap.size ≤ b40 := k40
  have rxa0 := rxa
  refine den_m30 rfl _ (slc0 b40 2 2) [99, 255] [99, 255] true (strEq_refl _) rfl (fun _ => rfl) (fun wa ha => (rxa.same (shown_same ha)).g.src) (fun wa ha => (lit_given (E := byteE) (L := [99, 255]) rfl (by decide) (by decide) ha.facts.1).src) (fun a35 c35 ha35 kc35 => den_norm (by simp only [List.cons_append, List.nil_append]; rfl) ?_)
  have kka35 : Same c34 c35 := (shown_same ha35).trans kc35
  have l40 : b40 < a35.heap.size := ha35.lt (i := 40) (by simp [keys]) rfl
  have b40k : Bk c35 S b40 := ⟨Nat.lt_of_lt_of_le l40 kc35.size, fun hs => by have := H.lt _ (H.ST _ hs); omega⟩
  have z : w.heap.size ≤ c35.heap.size := Nat.le_trans z kka35.size
  have H := H.same kka35
  have s7 := s7.same kka35
  have l5 := l5.same kka35
  have l9 := l9.same kka35
  have l12 := l12.same kka35
  have raa := raa.same kka35
  have rab := rab.same kka35
  have l22 := l22.same kka35
  have l28 := l28.same kka35
  have rxa := rxa.same kka35
  have rxb := rxb.same kka35
  have b0k := b0k.kept kka35
  refine den_split_false rfl ?_
  refine den_m32 rfl 64 255 (by decide) rfl (fun _ => rfl) (fun a36 vs255 c36 ha36 kc36 ma36 fa36 => den_norm (by simp only [List.cons_append, List.nil_append]; rfl) ?_)
  have kka36 : Same c35 c36 := (shown_same ha36).trans kc36
  have HHa36 := H.same (shown_same ha36)
  have s255 : Lv c36 S vs255 (List.replicate 64 255) := Lv.mine ma36 fun y hy hs => by have := fa36 y hy; have := HHa36.lt _ (HHa36.ST _ hs); omega
  have z : w.heap.size ≤ c36.heap.size := Nat.le_trans z kka36.size
  have H := H.same kka36
  have s7 := s7.same kka36
  have l5 := l5.same kka36
  have l9 := l9.same kka36
  have l12 := l12.same kka36
  have raa := raa.same kka36
  have rab := rab.same kka36
  have l22 := l22.same kka36
  have l28 := l28.same kka36
  have rxa := rxa.same kka36
  have rxb := rxb.same kka36
  have b0k := b0k.kept kka36
  have b40k := b40k.kept kka36
  refine den_m30 rfl _ _ (List.replicate 64 255) (List.replicate 64 255) true (strEq_refl _) rfl (fun _ => rfl) (fun wa ha => (rxb.same (shown_same ha)).g.src) (fun wa ha => (s255.same (shown_same ha)).g.src) (fun a37 c37 ha37 kc37 => den_norm (by simp only [List.cons_append, List.nil_append]; rfl) ?_)
  have kka37 : Same c36 c37 := (shown_same ha37).trans kc37
  have z : w.heap.size ≤ c37.heap.size := Nat.le_trans z kka37.size
  have H := H.same kka37
  have s7 := s7.same kka37
  have l5 := l5.same kka37
  have l9 := l9.same kka37
  have l12 := l12.same kka37
  have raa := raa.same kka37
  have rab := rab.same kka37
  have l22 := l22.same kka37
  have l28 := l28.same kka37
  have rxa := rxa.same kka37
  have rxb := rxb.same kka37
  have s255 := s255.same kka37
  have b0k := b0k.kept kka37
  have b40k := b40k.kept kka37
  refine den_split_false rfl ?_
  refine den_m28 rfl 0 1 3 s4 rfl (fun _ => rfl) (fun wa ha => H.same (shown_same ha)) wf4 (fun a38 c38 ha38 kc38 => den_norm (by simp only [List.cons_append, List.nil_append]; rfl) ?_)
  have kka38 : Same c37 c38 := (shown_same ha38).trans kc38
  have z : w.heap.size ≤ c38.heap.size := Nat.le_trans z kka38.size
  have H := H.same kka38
  have s7 := s7.same kka38
  have l5 := l5.same kka38
  have l9 := l9.same kka38
  have l12 := l12.same kka38
  have raa := raa.same kka38
  have rab := rab.same kka38
  have l22 := l22.same kka38
  have l28 := l28.same kka38
  have rxa := rxa.same kka38
  have rxb := rxb.same kka38
  have s255 := s255.same kka38
  have b0k := b0k.kept kka38
  have b40k := b40k.kept kka38
  refine den_split_false rfl ?_
  refine den_m20 rfl 0 55 wd5 rfl (fun _ => rfl) (fun wa ha => H.same (shown_same ha)) wf4 (by decide +kernel) e_e1 rfl (fpS hS0 ?_) (fun a39 c39 S2 T2 Lb ha39 hka39 hna39 H2 => den_norm (by simp only [List.cons_append, List.nil_append]; rfl) ?_)
  · intro y hin
    have e : b40 = y ∨ b0 = y := by simpa [BlkIn, nth, blkOf, vaddr] using hin
    rcases e with e | e
    · subst e; exact b40k.no
    · subst e; exact b0k.no
  have z1 : w.heap.size ≤ a39.heap.size := Nat.le_trans z (shown_same ha39).size
  have z : w.heap.size ≤ c39.heap.size := Nat.le_trans z1 hka39.size
  have hS0 : ∀ y, S2 y → w.heap.size ≤ y := fun y hy => (hna39.dn y hy).elim (hS0 y) fun h => Nat.le_trans z1 h
  have s7 := (s7.same (shown_same ha39)).next hka39 hna39
  have l5 := (l5.same (shown_same ha39)).next hka39 hna39
  have l9 := (l9.same (shown_same ha39)).next hka39 hna39
  have l12 := (l12.same (shown_same ha39)).next hka39 hna39
  have raa := (raa.same (shown_same ha39)).next hka39 hna39
  have rab := (rab.same (shown_same ha39)).next hka39 hna39
  have l22 := (l22.same (shown_same ha39)).next hka39 hna39
  have l28 := (l28.same (shown_same ha39)).next hka39 hna39
  have rxa := (rxa.same (shown_same ha39)).next hka39 hna39
  have rxb := (rxb.same (shown_same ha39)).next hka39 hna39
  have s255 := (s255.same (shown_same ha39)).next hka39 hna39
  have b0k := (b0k.kept (shown_same ha39)).next hka39 hna39
  have b40k := (b40k.kept (shown_same ha39)).next hka39 hna39
  have H := H2
  clear H2
  refine den_split_false rfl ?_
  refine den_m28 rfl 0 0 5 s5' rfl (fun _ => rfl) (fun wa ha => H.same (shown_same ha)) wf5 (fun a40 c40 ha40 kc40 => den_norm (by simp only [List.cons_append, List.nil_append]; rfl) ?_)
  have kka40 : Same c39 c40 := (shown_same ha40).trans kc40
  have z : w.heap.size ≤ c40.heap.size := Nat.le_trans z kka40.size
  have H := H.same kka40
  have s7 := s7.same kka40
  have l5 := l5.same kka40
  have l9 := l9.same kka40
  have l12 := l12.same kka40
  have raa := raa.same kka40
  have rab := rab.same kka40
  have l22 := l22.same kka40
  have l28 := l28.same kka40
  have rxa := rxa.same kka40
  have rxb := rxb.same kka40
  have s255 := s255.same kka40
  have b0k := b0k.kept kka40
  have b40k := b40k.kept kka40
  refine den_split_false rfl ?_
  refine den_m13 rfl 0 0 53 _ _ rfl (fun _ _ _ => ⟨rfl, rfl, rfl⟩) (fun wa ha => H.same (shown_same ha)) wf5 r5e rfl rfl (fun a41 va41 vb41 c41 ha41 kc41 m1a41 m2a41 f1a41 f2a41 => den_norm (by simp only [List.cons_append, List.nil_append]; rfl) ?_)
  have kka41 : Same c40 c41 := (shown_same ha41).trans kc41
  have z : w.heap.size ≤ c41.heap.size := Nat.le_trans z kka41.size
  have H := H.same kka41
  have s7 := s7.same kka41
  have l5 := l5.same kka41
  have l9 := l9.same kka41
  have l12 := l12.same kka41
  have raa := raa.same kka41
  have rab := rab.same kka41
  have l22 := l22.same kka41
  have l28 := l28.same kka41
  have rxa := rxa.same kka41
  have rxb := rxb.same kka41
  have s255 := s255.same kka41
  have b0k := b0k.kept kka41
  have b40k := b40k.kept kka41
  refine den_m20 rfl 0 0 wd6 rfl (fun _ => rfl) (fun wa ha => H.same (shown_same ha)) wf5 (by decide +kernel) e_e2 rfl (fpS hS0 ?_) (fun a42 c42 S2 T2 Lb ha42 hka42 hna42 H2 => den_norm (by simp only [List.cons_append, List.nil_append]; rfl) ?_)
  · intro y hin
    have e : b40 = y ∨ b0 = y := by simpa [BlkIn, nth, blkOf, vaddr] using hin
    rcases e with e | e
    · subst e; exact b40k.no
    · subst e; exact b0k.no
  have z1 : w.heap.size ≤ a42.heap.size := Nat.le_trans z (shown_same ha42).size
  have z : w.heap.size ≤ c42.heap.size := Nat.le_trans z1 hka42.size
  have hS0 : ∀ y, S2 y → w.heap.size ≤ y := fun y hy => (hna42.dn y hy).elim (hS0 y) fun h => Nat.le_trans z1 h
  have s7 := (s7.same (shown_same ha42)).next hka42 hna42
  have l5 := (l5.same (shown_same ha42)).next hka42 hna42
  have l9 := (l9.same (shown_same ha42)).next hka42 hna42
  have l12 := (l12.same (shown_same ha42)).next hka42 hna42
  have raa := (raa.same (shown_same ha42)).next hka42 hna42
  have rab := (rab.same (shown_same ha42)).next hka42 hna42
  have l22 := (l22.same (shown_same ha42)).next hka42 hna42
  have l28 := (l28.same (shown_same ha42)).next hka42 hna42
  have rxa := (rxa.same (shown_same ha42)).next hka42 hna42
  have rxb := (rxb.same (shown_same ha42)).next hka42 hna42
  have s255 := (s255.same (shown_same ha42)).next hka42 hna42
  have b0k := (b0k.kept (shown_same ha42)).next hka42 hna42
  have b40k := (b40k.kept (shown_same ha42)).next hka42 hna42
  have H := H2
  clear H2
  refine den_m26 rfl 0 0 n6 rfl (fun _ => rfl) (fun wa ha => H.same (shown_same ha)) wf6 (fun a43 c43 ha43 kc43 => den_norm (by simp only [List.cons_append, List.nil_append]; rfl) ?_)
  have kka43 : Same c42 c43 := (shown_same ha43).trans kc43
  have z : w.heap.size ≤ c43.heap.size := Nat.le_trans z kka43.size
  have H := H.same kka43
  have s7 := s7.same kka43
  have l5 := l5.same kka43
  have l9 := l9.same kka43
  have l12 := l12.same kka43
  have raa := raa.same kka43
  have rab := rab.same kka43
  have l22 := l22.same kka43
  have l28 := l28.same kka43
  have rxa := rxa.same kka43
  have rxb := rxb.same kka43
  have s255 := s255.same kka43
  have b0k := b0k.kept kka43
  have b40k := b40k.kept kka43
  refine den_split_true rfl ?_
  refine den_m18 rfl 0 rfl (fun _ => rfl) (fun a44 c44 ha44 kc44 => den_norm (by simp only [List.cons_append, List.nil_append]; rfl) ?_)
  have kka44 : Same c43 c44 := (shown_same ha44).trans kc44
  have z : w.heap.size ≤ c44.heap.size := Nat.le_trans z kka44.size
  have H := H.same kka44
  have s7 := s7.same kka44
  have l5 := l5.same kka44
  have l9 := l9.same kka44
  have l12 := l12.same kka44
  have raa := raa.same kka44
  have rab := rab.same kka44
  have l22 := l22.same kka44
  have l28 := l28.same kka44
  have rxa := rxa.same kka44
  have rxb := rxb.same kka44
  have s255 := s255.same kka44
  have b0k := b0k.kept kka44
  have b40k := b40k.kept kka44
  refine den_split_true rfl ?_
  refine den_split_true rfl ?_
  refine den_m20 rfl 0 56 wd6 rfl (fun _ => rfl) (fun wa ha => H.same (shown_same ha)) wf6 (by decide +kernel) e_e3 d_e3 (fpS hS0 ?_) (fun a45 c45 S2 T2 Lb ha45 hka45 hna45 H2 => den_norm (by simp only [List.cons_append, List.nil_append]; rfl) ?_)
  · intro y hin
    have e : b40 = y ∨ b0 = y := by simpa [BlkIn, nth, blkOf, vaddr] using hin
    rcases e with e | e
    · subst e; exact b40k.no
    · subst e; exact b0k.no
  have z1 : w.heap.size ≤ a45.heap.size := Nat.le_trans z (shown_same ha45).size
  have z : w.heap.size ≤ c45.heap.size := Nat.le_trans z1 hka45.size
  have hS0 : ∀ y, S2 y → w.heap.size ≤ y := fun y hy => (hna45.dn y hy).elim (hS0 y) fun h => Nat.le_trans z1 h
  have s7 := (s7.same (shown_same ha45)).next hka45 hna45
  have l5 := (l5.same (shown_same ha45)).next hka45 hna45
  have l9 := (l9.same (shown_same ha45)).next hka45 hna45
  have l12 := (l12.same (shown_same ha45)).next hka45 hna45
  have raa := (raa.same (shown_same ha45)).next hka45 hna45
  have rab := (rab.same (shown_same ha45)).next hka45 hna45
  have l22 := (l22.same (shown_same ha45)).next hka45 hna45
  have l28 := (l28.same (shown_same ha45)).next hka45 hna45
  have rxa := (rxa.same (shown_same ha45)).next hka45 hna45
  have rxb := (rxb.same (shown_same ha45)).next hka45 hna45
  have s255 := (s255.same (shown_same ha45)).next hka45 hna45
  have b0k := (b0k.kept (shown_same ha45)).next hka45 hna45
  have b40k := (b40k.kept (shown_same ha45)).next hka45 hna45
  have H := H2
  clear H2
  refine den_split_true rfl ?_
  refine den_m25 rfl 4 o6 rfl (fun _ => rfl) (fun wa ha => H.same (shown_same ha)) wf6 (fun a46 c46 ha46 kc46 => den_norm (by simp only [List.cons_append, List.nil_append]; rfl) ?_)
  have kka46 : Same c45 c46 := (shown_same ha46).trans kc46
  have z : w.heap.size ≤ c46.heap.size := Nat.le_trans z kka46.size
  have H := H.same kka46
  have s7 := s7.same kka46
  have l5 := l5.same kka46
  have l9 := l9.same kka46
  have l12 := l12.same kka46
  have raa := raa.same kka46
  have rab := rab.same kka46
  have l22 := l22.same kka46
  have l28 := l28.same kka46
  have rxa := rxa.same kka46
  have rxb := rxb.same kka46
  have s255 := s255.same kka46
  have b0k := b0k.kept kka46
  have b40k := b40k.kept kka46
  exact den_leaf rfl
end Go.Proofs.Ytppbapnibpeolaa
