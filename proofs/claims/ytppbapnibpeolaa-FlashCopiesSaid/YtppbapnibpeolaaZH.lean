/- Copies of two slices of bytes, in any order. No conditions beyond those that each theorem names. -/
import Derived.Test.YtppbapnibpeolaaZG
import Derived.Test.YtppbapnibpeolaaTL
set_option maxRecDepth 100000
set_option maxHeartbeats 4000000
set_option linter.unusedVariables false
set_option linter.unusedSimpArgs false
namespace Go.Proofs.Ytppbapnibpeolaa
open Go.Sx

section
variable {G : Ctx} {Λ : Nat → List Value → World → Prop} {ε : List Value} {wx ws : World} {X : Nat → Prop} {k k' : VC}
/-- append of bytes to an empty slice of one's own -/
theorem den_cp {type : TypeId} {x y : Operand} {kb i j : Nat} {drawn : Bool} {t t' un : List Nat} {fs : Facts} (hP : G.P = Try.prog) (s : Value) (D : List Int) (B : Nat) (hs : nth ε i = s) (hf : findH fs kb = some []) (hD : D.length ≤ 1000) (hun : ∀ i ∈ un, i ∈ keys fs)
    (hsrc : ∀ w, Shown G ε t fs wx w → Src w s D) (hB : ∀ b, nth ε kb = pt b → B ≤ b) (hBw : B ≤ wx.heap.size) (ht : t = []) (hj : ∀ v, nth (ε ++ [v]) j = v)
    (hk : ∀ v w', Same wx w' → Mine byteE 5 w' v D → (∀ g, v.ownBlock = some g → B ≤ g) → k.den G Λ (ε ++ [v]) w' (if drawn then ws else w') (if drawn then X else BlkIn ε t')) :
    (VC.gen (.call { callee := .builtin .append, args := #[x, y], argTypes := #[26, 26] }) type [(x, .slc kb 0 0 0), (y, .var i)] [.slice] (.var j) [] drawn t t' un fs k).den G Λ ε wx ws X := by
  intro w0 hw0
  subst ht
  obtain ⟨b, ty, hb', hh⟩ := findH_facts hw0.facts hf
  have hv : ∀ g, (Value.slice (some ⟨b, 0, none⟩) 0 0).ownBlock = some g → ¬ 0 < vcap (Value.slice (some ⟨b, 0, none⟩) 0 0) := fun g _ h => absurd h (by simp [vcap])
  refine den_appendL (G := G) (Λ := Λ) (ε := ε) (wx := wx) (ws := ws) (X := X) (E := byteE) (T := 5) rfl (by rw [hP]; exact u26) (by rw [hP]; exact i5) z5 s5 rfl (by decide) by5 byte_one (.slice (some ⟨b, 0, none⟩) 0 0) s [] D (by simp only [SV.den, hb', vaddr, addO, Option.map_some, addr_add, Nat.zero_add]) (by simp only [SV.den, hs]) (hsrc w0 hw0).2 (by simp; omega) (fun g hg hc => absurd hc (hv g hg)) hun (fun w hw => ⟨?_, (hsrc w hw).1⟩) (fun g hg hc => absurd hc (hv g hg)) (fun _ g hg hc => absurd hc (hv g hg)) hj (fun w s' w' hw hM hkp hfr hap => ?_) w0 hw0
  · obtain ⟨b2, ty2, hb2, hh2⟩ := findH_facts hw.facts hf
    rw [hb'] at hb2
    cases hb2
    exact .inr ⟨rfl, b, _, ty2, rfl, hh2⟩
  · have s1 : Same wx w := shown_same hw
    refine hk s' w' (s1.trans (hkp.mono fun y _ h => absurd h.2 (hv y h.1))) hM fun g hg => ?_
    rcases hfr with ⟨e, _⟩ | ⟨b', e, hb2, _⟩
    · rw [e] at hg
      have e2 : b = g := Option.some.inj hg
      subst e2
      exact hB _ hb'
    · rw [e] at hg
      cases hg
      have := s1.size
      omega
/-- what is behind the copies -/
def CpI (wB : World) (b30 : Nat) (wh bl pg : Int) (D1 D2 : List Int) (ls : List Value) (w' : World) : Prop :=
  ∃ vA vB, ls = [.int .i64 wh, .int .i64 bl, .int .i64 pg, vA, vB] ∧ Mine byteE 5 w' vA D1 ∧ Mine byteE 5 w' vB D2 ∧ (∀ g, vA.ownBlock = some g → wB.heap.size ≤ g) ∧ (∀ g, vB.ownBlock = some g → wB.heap.size ≤ g) ∧ Kept (fun y => y = b30) wB w'
variable {a : Nat → Value} {wh bl pg : Int} {sD sS : Value} {b30 : Nat} {D1 D2 : List Int} {wB : World} {I : List Value → World → Prop} (hI : ∀ ls w', CpI wB b30 wh bl pg D1 D2 ls w' → I ls w') (hP : G.P = Try.prog) (hs1 : Src wB sD D1) (hs2 : Src wB sS D2) (hl1 : D1.length ≤ 1000) (hl2 : D2.length ≤ 1000) (hb : b30 < wB.heap.size)
include hI hP hs1 hs2 hl1 hl2 hb
theorem r2 {b31 b32 : Nat} {vA vB : Value} (hx : Same wB wx) (hA : Mine byteE 5 wx vA D1) (fA : ∀ g, vA.ownBlock = some g → wB.heap.size ≤ g) (hB : Mine byteE 5 wx vB D2) (fB : ∀ g, vB.ownBlock = some g → wB.heap.size ≤ g) :
    q2.den G (LoopΛ 8 I Λ) [a 0, a 1, a 2, a 3, a 4, a 5, a 6, a 7, a 8, a 9, a 10, a 11, a 12, a 13, a 14, a 15, a 16, a 17, a 18, a 19, a 20, a 21, a 22, a 23, a 24, .int .i64 wh, .int .i64 bl, .int .i64 pg, sD, sS, pt b30, pt b31, pt b32, vA, vB] wx ws X := by
  have _u : (∀ ls w', CpI wB b30 wh bl pg D1 D2 ls w' → I ls w') ∧ G.P = Try.prog ∧ Src wB sD D1 ∧ Src wB sS D2 ∧ D1.length ≤ 1000 ∧ D2.length ≤ 1000 ∧ b30 < wB.heap.size := ⟨hI, hP, hs1, hs2, hl1, hl2, hb⟩
  refine den_leaf_eq fun wz hz => hI _ _ ⟨vA, vB, rfl, ?_⟩
  have hn : ∀ {y}, BlkIn [a 0, a 1, a 2, a 3, a 4, a 5, a 6, a 7, a 8, a 9, a 10, a 11, a 12, a 13, a 14, a 15, a 16, a 17, a 18, a 19, a 20, a 21, a 22, a 23, a 24, .int .i64 wh, .int .i64 bl, .int .i64 pg, sD, sS, pt b30, pt b31, pt b32, vA, vB] [30] y → y = b30 := fun {y} hy => by simpa [BlkIn, nth, blkOf, vaddr, eq_comm] using hy
  exact ⟨hA.kept hz.kept fun g hg hin => by have := fA g hg; have := hn hin; omega, hB.kept hz.kept fun g hg hin => by have := fB g hg; have := hn hin; omega, fA, fB, (hx.mono fun _ _ h => h.elim).trans (hz.kept.mono fun y _ hy => hn hy)⟩
theorem r1 {b31 : Nat} {vA : Value} (hx : Same wB wx) (hA : Mine byteE 5 wx vA D1) (fA : ∀ g, vA.ownBlock = some g → wB.heap.size ≤ g) :
    q1.den G (LoopΛ 8 I Λ) [a 0, a 1, a 2, a 3, a 4, a 5, a 6, a 7, a 8, a 9, a 10, a 11, a 12, a 13, a 14, a 15, a 16, a 17, a 18, a 19, a 20, a 21, a 22, a 23, a 24, .int .i64 wh, .int .i64 bl, .int .i64 pg, sD, sS, pt b30, pt b31, vA] wx ws X := by
  have _u : (∀ ls w', CpI wB b30 wh bl pg D1 D2 ls w' → I ls w') ∧ G.P = Try.prog ∧ Src wB sD D1 ∧ Src wB sS D2 ∧ D1.length ≤ 1000 ∧ D2.length ≤ 1000 ∧ b30 < wB.heap.size := ⟨hI, hP, hs1, hs2, hl1, hl2, hb⟩
  refine den_blk fun b33 k33 _ _ => den_norm (by simp only [List.cons_append, List.nil_append]; rfl) ?_
  have z := hx.size
  have z33 : wx.heap.size ≤ b33 := k33
  refine den_cp hP sS D2 wB.heap.size rfl rfl hl2 (by simp [keys]) (fun w hw => hs2.same (hx.trans (shown_same hw))) (fun b e => by have e2 : pt b33 = pt b := e; cases e2; omega) z rfl (fun _ => rfl) (fun vB w' hw hB fB => den_norm (by simp only [List.cons_append, List.nil_append]; rfl) ?_)
  refine den_leaf_eq fun wz hz => hI _ _ ⟨vA, vB, rfl, ?_⟩
  have hn : ∀ {y}, BlkIn [a 0, a 1, a 2, a 3, a 4, a 5, a 6, a 7, a 8, a 9, a 10, a 11, a 12, a 13, a 14, a 15, a 16, a 17, a 18, a 19, a 20, a 21, a 22, a 23, a 24, .int .i64 wh, .int .i64 bl, .int .i64 pg, sD, sS, pt b30, pt b31, vA, pt b33, vB] [30] y → y = b30 := fun {y} hy => by simpa [BlkIn, nth, blkOf, vaddr, eq_comm] using hy
  exact ⟨(hA.same hw).kept hz.kept fun g hg hin => by have := fA g hg; have := hn hin; omega, hB.kept hz.kept fun g hg hin => by have := fB g hg; have := hn hin; omega, fA, fB, ((hx.trans hw).mono fun _ _ h => h.elim).trans (hz.kept.mono fun y _ hy => hn hy)⟩
theorem r3 {b31 b32 : Nat} (hx : Same wB wx) (h1 : wB.heap.size ≤ b31) (h2 : wB.heap.size ≤ b32) : q3.den G (LoopΛ 8 I Λ) [a 0, a 1, a 2, a 3, a 4, a 5, a 6, a 7, a 8, a 9, a 10, a 11, a 12, a 13, a 14, a 15, a 16, a 17, a 18, a 19, a 20, a 21, a 22, a 23, a 24, .int .i64 wh, .int .i64 bl, .int .i64 pg, sD, sS, pt b30, pt b31, pt b32] wx ws X := by
  have z := hx.size
  refine den_cp hP sD D1 wB.heap.size rfl rfl hl1 (by simp [keys]) (fun w hw => hs1.same (hx.trans (shown_same hw))) (fun b e => by have e2 : pt b31 = pt b := e; cases e2; assumption) z rfl (fun _ => rfl) (fun vA w1 hw hA fA => den_norm (by simp only [List.cons_append, List.nil_append]; rfl) ?_)
  have z1 := hw.size
  refine den_cp hP sS D2 wB.heap.size rfl rfl hl2 (by simp [keys]) (fun w h => hs2.same ((hx.trans hw).trans (shown_same h))) (fun b e => by have e2 : pt b32 = pt b := e; cases e2; assumption) (by omega) rfl (fun _ => rfl) (fun vB w2 hw2 hB fB => den_norm (by simp only [List.cons_append, List.nil_append]; rfl) ?_)
  exact r2 hI hP hs1 hs2 hl1 hl2 hb ((hx.trans hw).trans hw2) (hA.same hw2) fA hB fB
theorem r9 {b31 b32 : Nat} (hx : Same wB wx) (h1 : wB.heap.size ≤ b31) (h2 : wB.heap.size ≤ b32) : q9.den G (LoopΛ 8 I Λ) [a 0, a 1, a 2, a 3, a 4, a 5, a 6, a 7, a 8, a 9, a 10, a 11, a 12, a 13, a 14, a 15, a 16, a 17, a 18, a 19, a 20, a 21, a 22, a 23, a 24, .int .i64 wh, .int .i64 bl, .int .i64 pg, sD, sS, pt b30, pt b31, pt b32] wx ws X := by
  have z := hx.size
  refine den_cp hP sD D1 wB.heap.size rfl rfl hl1 (by simp [keys]) (fun w hw => hs1.same (hx.trans (shown_same hw))) (fun b e => by have e2 : pt b32 = pt b := e; cases e2; assumption) z rfl (fun _ => rfl) (fun vA w1 hw hA fA => den_norm (by simp only [List.cons_append, List.nil_append]; rfl) ?_)
  have z1 := hw.size
  refine den_cp hP sS D2 wB.heap.size rfl rfl hl2 (by simp [keys]) (fun w h => hs2.same ((hx.trans hw).trans (shown_same h))) (fun b e => by have e2 : pt b31 = pt b := e; cases e2; assumption) (by omega) rfl (fun _ => rfl) (fun vB w2 hw2 hB fB => den_norm (by simp only [List.cons_append, List.nil_append]; rfl) ?_)
  exact r2 hI hP hs1 hs2 hl1 hl2 hb ((hx.trans hw).trans hw2) (hA.same hw2) fA hB fB
theorem r5 {b31 : Nat} (hx : Same wB wx) (h1 : wB.heap.size ≤ b31) : q5.den G (LoopΛ 8 I Λ) [a 0, a 1, a 2, a 3, a 4, a 5, a 6, a 7, a 8, a 9, a 10, a 11, a 12, a 13, a 14, a 15, a 16, a 17, a 18, a 19, a 20, a 21, a 22, a 23, a 24, .int .i64 wh, .int .i64 bl, .int .i64 pg, sD, sS, pt b30, pt b31] wx ws X :=
  den_blk fun b32 k32 _ _ => den_norm (by simp only [List.cons_append, List.nil_append]; rfl) (r3 hI hP hs1 hs2 hl1 hl2 hb hx h1 (Nat.le_trans hx.size k32))
theorem r11 {b31 : Nat} (hx : Same wB wx) (h1 : wB.heap.size ≤ b31) : q11.den G (LoopΛ 8 I Λ) [a 0, a 1, a 2, a 3, a 4, a 5, a 6, a 7, a 8, a 9, a 10, a 11, a 12, a 13, a 14, a 15, a 16, a 17, a 18, a 19, a 20, a 21, a 22, a 23, a 24, .int .i64 wh, .int .i64 bl, .int .i64 pg, sD, sS, pt b30, pt b31] wx ws X :=
  den_blk fun b32 k32 _ _ => den_norm (by simp only [List.cons_append, List.nil_append]; rfl) (r9 hI hP hs1 hs2 hl1 hl2 hb hx h1 (Nat.le_trans hx.size k32))
theorem rA {b31 : Nat} {un : List Nat} {k : VC} (hx : Same wB wx) (h1 : wB.heap.size ≤ b31)
    (hk : ∀ vA w', Same wB w' → Mine byteE 5 w' vA D1 → (∀ g, vA.ownBlock = some g → wB.heap.size ≤ g) → k.den G (LoopΛ 8 I Λ) [a 0, a 1, a 2, a 3, a 4, a 5, a 6, a 7, a 8, a 9, a 10, a 11, a 12, a 13, a 14, a 15, a 16, a 17, a 18, a 19, a 20, a 21, a 22, a 23, a 24, .int .i64 wh, .int .i64 bl, .int .i64 pg, sD, sS, pt b30, pt b31, vA] w' ws X) :
    (VC.gen (.call { callee := .builtin .append, args := #[.tmp 75, .tmp 77], argTypes := #[26, 26] }) 26 [(.tmp 75, .slc 31 0 0 0), (.tmp 77, .var 28)] [.slice] (.var 32) [] true [] [] [31, 30, 17, 16] [(31, []), (30, qc3), (17, qc0), (16, qc1)] k).den G (LoopΛ 8 I Λ) [a 0, a 1, a 2, a 3, a 4, a 5, a 6, a 7, a 8, a 9, a 10, a 11, a 12, a 13, a 14, a 15, a 16, a 17, a 18, a 19, a 20, a 21, a 22, a 23, a 24, .int .i64 wh, .int .i64 bl, .int .i64 pg, sD, sS, pt b30, pt b31] wx ws X := by
  have _u : (∀ ls w', CpI wB b30 wh bl pg D1 D2 ls w' → I ls w') ∧ G.P = Try.prog ∧ Src wB sD D1 ∧ Src wB sS D2 ∧ D1.length ≤ 1000 ∧ D2.length ≤ 1000 ∧ b30 < wB.heap.size := ⟨hI, hP, hs1, hs2, hl1, hl2, hb⟩
  have z := hx.size
  refine den_cp hP sD D1 wB.heap.size rfl rfl hl1 (by simp [keys]) (fun w hw => hs1.same (hx.trans (shown_same hw))) (fun b e => by have e2 : pt b31 = pt b := e; cases e2; assumption) z rfl (fun _ => rfl) (fun vA w1 hw hA fA => den_norm (by simp only [List.cons_append, List.nil_append]; rfl) ?_)
  exact hk vA w1 (hx.trans hw) hA fA
theorem r6 {b31 : Nat} (hx : Same wB wx) (h1 : wB.heap.size ≤ b31) : q6.den G (LoopΛ 8 I Λ) [a 0, a 1, a 2, a 3, a 4, a 5, a 6, a 7, a 8, a 9, a 10, a 11, a 12, a 13, a 14, a 15, a 16, a 17, a 18, a 19, a 20, a 21, a 22, a 23, a 24, .int .i64 wh, .int .i64 bl, .int .i64 pg, sD, sS, pt b30, pt b31] wx ws X :=
  den_both (rA hI hP hs1 hs2 hl1 hl2 hb (un := []) hx h1 fun vA w1 hw hA fA => r1 hI hP hs1 hs2 hl1 hl2 hb hw hA fA) (r5 hI hP hs1 hs2 hl1 hl2 hb hx h1)
theorem r7 {b31 : Nat} (hx : Same wB wx) (h1 : wB.heap.size ≤ b31) : q7.den G (LoopΛ 8 I Λ) [a 0, a 1, a 2, a 3, a 4, a 5, a 6, a 7, a 8, a 9, a 10, a 11, a 12, a 13, a 14, a 15, a 16, a 17, a 18, a 19, a 20, a 21, a 22, a 23, a 24, .int .i64 wh, .int .i64 bl, .int .i64 pg, sD, sS, pt b30, pt b31] wx ws X :=
  den_both (rA hI hP hs1 hs2 hl1 hl2 hb (un := []) hx h1 fun vA w1 hw hA fA => den_both (r1 hI hP hs1 hs2 hl1 hl2 hb hw hA fA) (r1 hI hP hs1 hs2 hl1 hl2 hb hw hA fA)) (den_both (den_blk fun b32 k32 _ _ => den_norm (by simp only [List.cons_append, List.nil_append]; rfl) (den_both (r3 hI hP hs1 hs2 hl1 hl2 hb hx h1 (Nat.le_trans hx.size k32)) (r3 hI hP hs1 hs2 hl1 hl2 hb hx h1 (Nat.le_trans hx.size k32)))) (r6 hI hP hs1 hs2 hl1 hl2 hb hx h1))
theorem r8 {b31 : Nat} (hx : Same wB wx) (h1 : wB.heap.size ≤ b31) : q8.den G (LoopΛ 8 I Λ) [a 0, a 1, a 2, a 3, a 4, a 5, a 6, a 7, a 8, a 9, a 10, a 11, a 12, a 13, a 14, a 15, a 16, a 17, a 18, a 19, a 20, a 21, a 22, a 23, a 24, .int .i64 wh, .int .i64 bl, .int .i64 pg, sD, sS, pt b30, pt b31] wx ws X :=
  den_both (r6 hI hP hs1 hs2 hl1 hl2 hb hx h1) (r5 hI hP hs1 hs2 hl1 hl2 hb hx h1)
theorem r12 {b31 : Nat} (hx : Same wB wx) (h1 : wB.heap.size ≤ b31) : q12.den G (LoopΛ 8 I Λ) [a 0, a 1, a 2, a 3, a 4, a 5, a 6, a 7, a 8, a 9, a 10, a 11, a 12, a 13, a 14, a 15, a 16, a 17, a 18, a 19, a 20, a 21, a 22, a 23, a 24, .int .i64 wh, .int .i64 bl, .int .i64 pg, sD, sS, pt b30, pt b31] wx ws X :=
  den_both (den_blk fun b32 k32 _ _ => den_norm (by simp only [List.cons_append, List.nil_append]; rfl) (den_both (r9 hI hP hs1 hs2 hl1 hl2 hb hx h1 (Nat.le_trans hx.size k32)) (r9 hI hP hs1 hs2 hl1 hl2 hb hx h1 (Nat.le_trans hx.size k32)))) (r11 hI hP hs1 hs2 hl1 hl2 hb hx h1)
theorem r14 {b31 : Nat} (hx : Same wB wx) (h1 : wB.heap.size ≤ b31) : q14.den G (LoopΛ 8 I Λ) [a 0, a 1, a 2, a 3, a 4, a 5, a 6, a 7, a 8, a 9, a 10, a 11, a 12, a 13, a 14, a 15, a 16, a 17, a 18, a 19, a 20, a 21, a 22, a 23, a 24, .int .i64 wh, .int .i64 bl, .int .i64 pg, sD, sS, pt b30, pt b31] wx ws X :=
  den_both (r11 hI hP hs1 hs2 hl1 hl2 hb hx h1) (r11 hI hP hs1 hs2 hl1 hl2 hb hx h1)
theorem rTop (hx : Same wB wx) : (VC.both (.blk (.both q7 (.both (.blk (.both q4 q3)) q8))) (.both (.both (.blk q7) (.both (.blk q12) q13)) (.both (.blk (.both (.blk (.both q10 q9)) (.both q12 q14))) (.both (.blk q8) (.both q13 (.blk q14)))))).den G (LoopΛ 8 I Λ) [a 0, a 1, a 2, a 3, a 4, a 5, a 6, a 7, a 8, a 9, a 10, a 11, a 12, a 13, a 14, a 15, a 16, a 17, a 18, a 19, a 20, a 21, a 22, a 23, a 24, .int .i64 wh, .int .i64 bl, .int .i64 pg, sD, sS, pt b30] wx ws X :=
  den_both (den_blk fun b31 k31 _ _ => den_norm (by simp only [List.cons_append, List.nil_append]; rfl) (den_both (r7 hI hP hs1 hs2 hl1 hl2 hb hx (Nat.le_trans hx.size k31)) (den_both (den_blk fun b32 k32 _ _ => den_norm (by simp only [List.cons_append, List.nil_append]; rfl) (den_both (den_both (r3 hI hP hs1 hs2 hl1 hl2 hb hx (Nat.le_trans hx.size k31) (Nat.le_trans hx.size k32)) (r3 hI hP hs1 hs2 hl1 hl2 hb hx (Nat.le_trans hx.size k31) (Nat.le_trans hx.size k32))) (r3 hI hP hs1 hs2 hl1 hl2 hb hx (Nat.le_trans hx.size k31) (Nat.le_trans hx.size k32)))) (r8 hI hP hs1 hs2 hl1 hl2 hb hx (Nat.le_trans hx.size k31))))) (den_both (den_both (den_blk fun b31 k31 _ _ => den_norm (by simp only [List.cons_append, List.nil_append]; rfl) (r7 hI hP hs1 hs2 hl1 hl2 hb hx (Nat.le_trans hx.size k31))) (den_both (den_blk fun b31 k31 _ _ => den_norm (by simp only [List.cons_append, List.nil_append]; rfl) (r12 hI hP hs1 hs2 hl1 hl2 hb hx (Nat.le_trans hx.size k31))) (den_both (den_blk fun b31 k31 _ _ => den_norm (by simp only [List.cons_append, List.nil_append]; rfl) (r6 hI hP hs1 hs2 hl1 hl2 hb hx (Nat.le_trans hx.size k31))) (den_blk fun b31 k31 _ _ => den_norm (by simp only [List.cons_append, List.nil_append]; rfl) (r11 hI hP hs1 hs2 hl1 hl2 hb hx (Nat.le_trans hx.size k31)))))) (den_both (den_blk fun b31 k31 _ _ => den_norm (by simp only [List.cons_append, List.nil_append]; rfl) (den_both (den_blk fun b32 k32 _ _ => den_norm (by simp only [List.cons_append, List.nil_append]; rfl) (den_both (den_both (r9 hI hP hs1 hs2 hl1 hl2 hb hx (Nat.le_trans hx.size k31) (Nat.le_trans hx.size k32)) (r9 hI hP hs1 hs2 hl1 hl2 hb hx (Nat.le_trans hx.size k31) (Nat.le_trans hx.size k32))) (r9 hI hP hs1 hs2 hl1 hl2 hb hx (Nat.le_trans hx.size k31) (Nat.le_trans hx.size k32)))) (den_both (r12 hI hP hs1 hs2 hl1 hl2 hb hx (Nat.le_trans hx.size k31)) (r14 hI hP hs1 hs2 hl1 hl2 hb hx (Nat.le_trans hx.size k31))))) (den_both (den_blk fun b31 k31 _ _ => den_norm (by simp only [List.cons_append, List.nil_append]; rfl) (r8 hI hP hs1 hs2 hl1 hl2 hb hx (Nat.le_trans hx.size k31))) (den_both (den_both (den_blk fun b31 k31 _ _ => den_norm (by simp only [List.cons_append, List.nil_append]; rfl) (r6 hI hP hs1 hs2 hl1 hl2 hb hx (Nat.le_trans hx.size k31))) (den_blk fun b31 k31 _ _ => den_norm (by simp only [List.cons_append, List.nil_append]; rfl) (r11 hI hP hs1 hs2 hl1 hl2 hb hx (Nat.le_trans hx.size k31)))) (den_blk fun b31 k31 _ _ => den_norm (by simp only [List.cons_append, List.nil_append]; rfl) (r14 hI hP hs1 hs2 hl1 hl2 hb hx (Nat.le_trans hx.size k31)))))))
end
end Go.Proofs.Ytppbapnibpeolaa
