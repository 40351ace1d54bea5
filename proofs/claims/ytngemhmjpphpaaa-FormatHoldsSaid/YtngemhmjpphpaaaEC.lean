/- One block taken from the front of buffers. No conditions beyond those that each theorem names. -/
import Derived.Test.YtngemhmjpphpaaaE
set_option maxRecDepth 100000
set_option maxHeartbeats 4000000
set_option linter.unusedVariables false
set_option linter.unusedSimpArgs false
namespace Go.Proofs.Ytngemhmjpphpaaa
open Go.Sx

theorem pad_copy {m : Nat} {D : List Int} (h : D.length ≤ m) : (List.replicate m (0 : Int)).take 0 ++ D.take (min D.length m) ++ (List.replicate m (0 : Int)).drop (0 + min D.length m) = D ++ List.replicate (m - D.length) 0 := by
  rw [Nat.min_eq_left h]
  simp
theorem c44 (p1 p2 p3 : Nat) (f1 f2 : Value) (g1 g2 : Nat) (caps1 caps2 : List Value) (z m mv : Nat) (x : Bool) (t : Int) (fi : Bool) (lo : Nat) (FM : Nat → Prop) (D1 D2 : List Int) (J0 J1 J2 : World → Prop) (k : Int) (w : World)
    (hp1 : PtsTo w (pt p1) [f1]) (hp2 : PtsTo w (pt p2) [.int .i64 z, .int .i64 m, .bool x, .int .i64 t, .bool fi, .int .i64 mv]) (hp3 : PtsTo w (pt p3) [f2])
    (hf1 : f1 = .func (.func g1) #[] caps1.toArray) (hf2 : f2 = .func (.func g2) #[] caps2.toArray) (hg1 : goFunc Try.prog g1 = true) (hg2 : goFunc Try.prog g2 = true)
    (hFM : ∀ b, FM b → lo ≤ b ∧ b < w.heap.size ∧ b ≠ p1 ∧ b ≠ p2 ∧ b ≠ p3) (hlo : lo ≤ w.heap.size)
    (h1 : ∀ w1, J0 w1 → Runs Try.prog g1 ([.int .i64 z] ++ caps1) w1 FM (fun v w2 => ∃ s : Sl, v = s.v ∧ Old lo w2 s D1 ∧ J1 w2))
    (h2 : ∀ w1, J1 w1 → Runs Try.prog g2 ([.int .i64 mv] ++ caps2) w1 FM (fun v w2 => ∃ s : Sl, v = s.v ∧ Old lo w2 s D2 ∧ J2 w2))
    (hJ0 : ∀ w1 w2 M, J0 w1 → Kept M w1 w2 → (∀ b, M b → w.heap.size ≤ b) → J0 w2) (hJ1 : ∀ w1 w2 M, J1 w1 → Kept M w1 w2 → (∀ b, M b → w.heap.size ≤ b) → J1 w2) (hJ2 : ∀ w1 w2 M, J2 w1 → Kept M w1 w2 → (∀ b, M b → w.heap.size ≤ b) → J2 w2)
    (hm : m ≤ 64) (hD1 : D1.length ≤ 60000000000) (hD2 : D2.length ≤ m) (hJ : J0 w) :
    Runs Try.prog 44 [.int .i64 k, pt p1, pt p2, pt p3] w FM (fun v w' => ∃ q : Sl × Sl, v = .agg #[q.1.v, q.2.v] ∧ BlkIs w.heap.size w' q (D1, D2 ++ List.replicate (m - D2.length) 0) ∧ J2 w') := by
  have h := runs mix t44 rfl rfl (ε := [.int .i64 k, pt p1, pt p2, pt p3]) (heap := []) (w := w) (M := FM) (R := fun v w' => ∃ q : Sl × Sl, v = .agg #[q.1.v, q.2.v] ∧ BlkIs w.heap.size w' q (D1, D2 ++ List.replicate (m - D2.length) 0) ∧ J2 w') ⟨⟨_, rfl⟩, ⟨_, rfl⟩, ⟨_, rfl⟩, ⟨_, rfl⟩, trivial⟩ trivial (by simp [keys]) (by simp [keys]) (by simp [keys]) ?_
  · simpa [denL, SV.den, IE.den, nth, vint, vaddr, addO, addr_add] using h
  have l1 := hp1.lt (by simp) p1 rfl
  have l2 := hp2.lt (by simp) p2 rfl
  have l3 := hp3.lt (by simp) p3 rfl
  have hb5 : (Try.t5.bytes : Int) * m ≤ 281474976710656 := by
    have e1 : (Try.t5.bytes : Int) ≤ 1000 := by have := by5; omega
    have e2 : (Try.t5.bytes : Int) * m ≤ 1000 * 64 := Int.mul_le_mul e1 (by omega) (by omega) (by omega)
    exact Int.le_trans e2 (by decide)
  have z0s : ∀ (i : Nat) (v : Value), [Value.int .i64 z][i]? = some v → [Value.int .i64 z, .int .i64 m, .bool x, .int .i64 t, .bool fi, .int .i64 mv][0 + i]? = some v := fun i v hv => by cases i with | zero => exact hv | succ i => simp at hv
  have z1s : ∀ (i : Nat) (v : Value), [Value.int .i64 m][i]? = some v → [Value.int .i64 z, .int .i64 m, .bool x, .int .i64 t, .bool fi, .int .i64 mv][1 + i]? = some v := fun i v hv => by cases i with | zero => exact hv | succ i => simp at hv
  have z5s : ∀ (i : Nat) (v : Value), [Value.int .i64 mv][i]? = some v → [Value.int .i64 z, .int .i64 m, .bool x, .int .i64 t, .bool fi, .int .i64 mv][5 + i]? = some v := fun i v hv => by cases i with | zero => exact hv | succ i => simp at hv
  have Xno : ∀ b, b < w.heap.size → (b = p1 ∨ b = p2 ∨ b = p3) → ¬ (FM b ∨ w.heap.size ≤ b) := fun b hb he hx => by
    rcases hx with hx | hx
    · have := hFM b hx
      omega
    · omega
  have nFM : ∀ b, FM b → ¬ w.heap.size ≤ b := fun b hb hh => by have := hFM b hb; omega
  have loX : ∀ {b}, w.heap.size ≤ b → lo ≤ b := fun hb => Nat.le_trans hlo hb
  refine den_blk fun b4 k4 _ _ => den_norm (by simp only [List.cons_append, List.nil_append]; rfl) ?_
  have z4 : w.heap.size ≤ b4 := k4
  intro w1 h1w
  refine ⟨fun b => FM b ∨ w.heap.size ≤ b, fun b hb => by simp [BlkIn, nth, blkOf, vaddr] at hb; subst hb; exact .inr z4, ?_⟩
  have s01 : Same w w1 := shown_same h1w
  have z01 := s01.size
  refine den_ldpD (i := 1) [f1] [f1] ⟨by rw [hf1]; rfl, trivial⟩ (whole _) (hp1.same s01) (fun b hb => by cases hb; exact Xno p1 l1 (.inl rfl)) (den_norm (by simp only [List.cons_append, List.nil_append]; rfl) ?_)
  refine den_notnil (i := 2) (hp2.same s01) ?_
  refine den_ldpD (i := 2) [.int .i64 z] _ ⟨⟨_, rfl⟩, trivial⟩ z0s (hp2.same s01) (fun b hb => by cases hb; exact Xno p2 l2 (.inr (.inl rfl))) (den_norm (by simp only [List.cons_append, List.nil_append]; rfl) ?_)
  refine den_ldpD (i := 2) [.int .i64 m] _ ⟨⟨_, rfl⟩, trivial⟩ z1s (hp2.same s01) (fun b hb => by cases hb; exact Xno p2 l2 (.inr (.inl rfl))) (den_norm (by simp only [List.cons_append, List.nil_append]; rfl) ?_)
  have hJw := hJ0 w w1 _ hJ s01 (fun b hb => hb.elim)
  have zW : w.heap.size ≤ w1.heap.size := z01
  refine den_both ?_ (den_both ?_ ?_)
  · skip
    refine den_callF (caps := caps1) (g := g1) rfl hf1 hg1 (fun _ b => FM b) (fun _ l w2 => ∃ s : Sl, l = [s.v] ∧ Old lo w2 s D1 ∧ J1 w2) (fun w2 hw2 b hb _ => ⟨fun _ => .inl hb, fun _ => hb, fun hin => ?_, fun hx => (by cases hx)⟩) (fun w2 hw2 => ?_) (fun w2 l w3 hw2 hfl hR kw3 => ?_)
    · have := nFM b hb
      simp [BlkIn, nth, blkOf, vaddr] at hin
      omega
    · refine (h1 w2 (hJ0 w1 w2 _ hJw (shown_same hw2) (fun b hb => hb.elim))).mono (fun v w' ⟨s, hv, ho, hj⟩ _ => ⟨[s.v], ⟨⟨_, _, _, rfl⟩, trivial⟩, hv, s, rfl, ho, hj⟩) (fun _ _ h => h)
    have zzw3 : w1.heap.size ≤ w3.heap.size := Nat.le_trans (shown_same hw2).size kw3.size
    have zW : w.heap.size ≤ w3.heap.size := Nat.le_trans zW zzw3
    obtain ⟨s1, rfl, hO, hJw⟩ := hR
    refine den_norm (by simp only [List.cons_append, List.nil_append]; rfl) ?_
    refine den_both ?_ (den_both ?_ ?_)
    · skip
      refine den_callR (fun w2 l w3 => ∃ v, l = [v] ∧ Mine byteE 5 w3 v D1 ∧ ∀ g, v.ownBlock = some g → w2.heap.size ≤ g) (fun w4 hw4 => ?_) (fun w4 l w5 hw4 hfl hR kw5 => ?_)
      · refine (c45 _ D1 w4 (hO.same (shown_same hw4)).1.1 hD1).mono fun v w' ⟨q1, q2, _⟩ => ?_
        obtain ⟨va, vc, hv⟩ := q1.slice
        exact ⟨[v], ⟨⟨_, _, _, hv⟩, trivial⟩, rfl, v, rfl, q1, q2⟩
      obtain ⟨cl, rfl, hC, oC⟩ := hR
      have zzw5 : w3.heap.size ≤ w5.heap.size := Nat.le_trans (shown_same hw4).size kw5.size
      have zW : w.heap.size ≤ w5.heap.size := Nat.le_trans zW zzw5
      have hJw := hJ1 w4 w5 _ (hJ1 w3 w4 _ hJw (shown_same hw4) (fun b hb => hb.elim)) kw5 (fun b hb => hb.elim)
      have hO := (hO.same (shown_same hw4)).same kw5
      have zC : w3.heap.size ≤ w4.heap.size := (shown_same hw4).size
      have oCw : ∀ g, cl.ownBlock = some g → w.heap.size ≤ g := fun g hg => by have := oC g hg; have zz := hw4.base.size; exact Nat.le_trans zz this
      refine den_norm (by simp only [List.cons_append, List.nil_append]; rfl) ?_
      have n4c : ∀ g, cl.ownBlock = some g → g ≠ b4 := fun g hg e => by have q1 := oC g hg; have q2 : b4 < w4.heap.size := hw4.lt (i := 4) (by simp [keys]) rfl; omega
      refine den_both ?_ ?_
      · skip
        have hCold := hC
        refine den_make (n := m) u40 i5 z5 rfl rfl hb5 (by omega) (fun v => rfl) (fun w6 bm w7 hw6 hbm hhm kw7 => ?_)
        have hM : Mine byteE 5 w7 (.slice (some ⟨bm, 0, none⟩) m m) (List.replicate m (0 : Int)) := mine_zeros (by omega) hhm
        have zzw7 : w5.heap.size ≤ w7.heap.size := Nat.le_trans (shown_same hw6).size kw7.size
        have zW : w.heap.size ≤ w7.heap.size := Nat.le_trans zW zzw7
        have hJw := hJ1 w6 w7 _ (hJ1 w5 w6 _ hJw (shown_same hw6) (fun b hb => hb.elim)) kw7 (fun b hb => hb.elim)
        have hO := (hO.same (shown_same hw6)).same kw7
        have hC := (hC.same (shown_same hw6)).same kw7
        have oM : ∀ g, (Value.slice (some ⟨bm, 0, none⟩) m m).ownBlock = some g → w.heap.size ≤ g := fun g hg => by cases hg; exact Nat.le_trans hw6.base.size hbm
        have zbm : w5.heap.size ≤ bm := Nat.le_trans (shown_same hw6).size hbm
        have n4m : b4 ≠ bm := fun e => by have q2 : b4 < w6.heap.size := hw6.lt (i := 4) (by simp [keys]) rfl; omega
        refine den_norm (by simp only [List.cons_append, List.nil_append]; rfl) ?_
        have ncm : ∀ g, cl.ownBlock = some g → g ≠ bm := fun g hg e => by have q1 := hCold.lt hg; omega
        refine den_blk fun ba ka _ kaW => den_norm (by simp only [List.cons_append, List.nil_append]; rfl) ?_
        have zba : w.heap.size ≤ ba := kaW
        have nC : ∀ g, cl.ownBlock = some g → g ≠ ba := fun g hg e => by have := hC.lt hg; omega
        have nM : bm ≠ ba := fun e => by have := hM.lt (g := bm) rfl; omega
        intro w8 hw8
        refine ⟨fun b => FM b ∨ w.heap.size ≤ b, fun b hb => by simp [BlkIn, nth, blkOf, vaddr] at hb; rcases hb with hb | hb <;> (subst hb; exact .inr (by first | exact zba | exact z4)), ?_⟩
        have hJw := hJ1 w7 w8 _ hJw hw8.kept (fun b hb => by have e : ba = b := (by simpa [BlkIn, nth, blkOf, vaddr] using hb); rw [← e]; exact zba)
        have hC := hC.kept hw8.kept fun g hg hb => nC g hg (by simpa [BlkIn, nth, blkOf, vaddr] using hb : ba = g).symm
        have hM := hM.kept hw8.kept fun g hg hb => by cases hg; exact nM (by simpa [BlkIn, nth, blkOf, vaddr] using hb : ba = bm).symm
        have zW : w.heap.size ≤ w8.heap.size := Nat.le_trans zW hw8.kept.size
        have f0 := hw8.base
        have pk : ∀ (p : Nat) (l : List Value), PtsTo w (pt p) l → (p = p1 ∨ p = p2 ∨ p = p3) → PtsTo w8 (pt p) l := fun p l hp he => hp.kept f0 fun b hb hb2 => by have e : p = b := Option.some.inj hb; have q := hFM _ hb2; omega
        refine den_ldpD (i := 3) [f2] [f2] ⟨by rw [hf2]; rfl, trivial⟩ (whole _) (pk _ _ hp3 (.inr (.inr rfl))) (fun b hb => by cases hb; exact Xno p3 l3 (.inr (.inr rfl))) (den_norm (by simp only [List.cons_append, List.nil_append]; rfl) ?_)
        refine den_ldpD (i := 2) [.int .i64 mv] _ ⟨⟨_, rfl⟩, trivial⟩ z5s (pk _ _ hp2 (.inr (.inl rfl))) (fun b hb => by cases hb; exact Xno p2 l2 (.inr (.inl rfl))) (den_norm (by simp only [List.cons_append, List.nil_append]; rfl) ?_)
        refine den_callF (caps := caps2) (g := g2) rfl hf2 hg2 (fun _ b => FM b) (fun _ l w2 => ∃ s : Sl, l = [s.v] ∧ Old lo w2 s D2 ∧ J2 w2) (fun w9 hw9 b hb _ => ⟨fun _ => .inl hb, fun _ => hb, fun hin => ?_, fun hx => (by cases hx)⟩) (fun w9 hw9 => ?_) (fun w9 l w10 hw9 hfl hR kw10 => ?_)
        · have := nFM b hb
          simp [BlkIn, nth, blkOf, vaddr] at hin
          omega
        · refine (h2 w9 (hJ1 w8 w9 _ hJw (shown_same hw9) (fun b hb => hb.elim))).mono (fun v w' ⟨s, hv, ho, hj⟩ _ => ⟨[s.v], ⟨⟨_, _, _, rfl⟩, trivial⟩, hv, s, rfl, ho, hj⟩) (fun _ _ h => h)
        obtain ⟨s2, rfl, hO2, hJ2w⟩ := hR
        have hC := (hC.same (shown_same hw9)).kept kw10 fun g hg hb => nFM g hb (oCw g hg)
        have hM := (hM.same (shown_same hw9)).kept kw10 fun g hg hb => nFM g hb (oM g hg)
        refine den_norm (by simp only [List.cons_append, List.nil_append]; rfl) (den_copyM (T := 5) rfl u40 st5 bm m m (List.replicate m (0 : Int)) (.slice (some ⟨bm, 0, none⟩) m m) 0 m m rfl (.inl rfl) (by omega) s2.v D2 rfl (fun w11 hw11 => ⟨hM.same (shown_same hw11), (hO2.same (shown_same hw11)).1.1⟩) (fun w11 hw11 => ?_) (fun _ => rfl) (fun w11 w12 hw11 hM kw12 => den_norm (by simp only [List.cons_append, List.nil_append]; rfl) ?_))
        · exact ⟨fun _ => .inr (oM bm rfl), fun hlt => absurd (show bm < w.heap.size from hlt) (Nat.not_lt.2 (oM bm rfl)), fun hin => (by simp [BlkIn, nth, blkOf, vaddr] at hin; rcases hin with hin | hin <;> first | exact nM hin.symm | exact n4m hin), fun hx => (by cases hx)⟩
        rw [pad_copy hD2] at hM
        have nbm : ∀ g, cl.ownBlock = some g → g ≠ bm := ncm
        have hC := (hC.same (shown_same hw11)).kept kw12 fun g hg hb => nbm g hg hb
        have hJ2w := hJ2 w11 w12 _ (hJ2 w10 w11 _ hJ2w (shown_same hw11) (fun b hb => hb.elim)) kw12 (fun b hb => by subst hb; exact oM _ rfl)
        obtain ⟨ca, cc, hcl⟩ := hC.slice
        subst hcl
        refine den_leafA _ rfl (fun w13 hw13 => ?_)
        refine ⟨(⟨ca, D1.length, cc⟩, ⟨some ⟨bm, 0, none⟩, m, m⟩), rfl, ⟨hC.kept hw13.kept fun g hg hb => ?_, hM.kept hw13.kept fun g hg hb => ?_, oCw, oM⟩, hJ2 w12 w13 _ hJ2w hw13.kept (fun b hb => by have e : b4 = b := (by simpa [BlkIn, nth, blkOf, vaddr] using hb); rw [← e]; exact z4)⟩
        · exact n4c g hg (by simpa [BlkIn, nth, blkOf, vaddr] using hb : b4 = g).symm
        · cases hg; exact n4m (by simpa [BlkIn, nth, blkOf, vaddr] using hb : b4 = bm)
      · skip
        refine den_blk fun ba ka _ kaW => den_norm (by simp only [List.cons_append, List.nil_append]; rfl) ?_
        have zba : w.heap.size ≤ ba := kaW
        have nC : ∀ g, cl.ownBlock = some g → g ≠ ba := fun g hg e => by have := hC.lt hg; omega
        have hCold := hC
        refine den_make (n := m) u40 i5 z5 rfl rfl hb5 (by omega) (fun v => rfl) (fun w14 bm w15 hw14 hbm hhm kw15 => ?_)
        have hM : Mine byteE 5 w15 (.slice (some ⟨bm, 0, none⟩) m m) (List.replicate m (0 : Int)) := mine_zeros (by omega) hhm
        have zzw15 : w5.heap.size ≤ w15.heap.size := Nat.le_trans (shown_same hw14).size kw15.size
        have zW : w.heap.size ≤ w15.heap.size := Nat.le_trans zW zzw15
        have hJw := hJ1 w14 w15 _ (hJ1 w5 w14 _ hJw (shown_same hw14) (fun b hb => hb.elim)) kw15 (fun b hb => hb.elim)
        have hO := (hO.same (shown_same hw14)).same kw15
        have hC := (hC.same (shown_same hw14)).same kw15
        have oM : ∀ g, (Value.slice (some ⟨bm, 0, none⟩) m m).ownBlock = some g → w.heap.size ≤ g := fun g hg => by cases hg; exact Nat.le_trans hw14.base.size hbm
        have zbm : w5.heap.size ≤ bm := Nat.le_trans (shown_same hw14).size hbm
        have n4m : b4 ≠ bm := fun e => by have q2 : b4 < w14.heap.size := hw14.lt (i := 4) (by simp [keys]) rfl; omega
        have nM : bm ≠ ba := fun e => by have q2 : ba < w14.heap.size := hw14.lt (i := 10) (by simp [keys]) rfl; omega
        refine den_norm (by simp only [List.cons_append, List.nil_append]; rfl) ?_
        have ncm : ∀ g, cl.ownBlock = some g → g ≠ bm := fun g hg e => by have q1 := hCold.lt hg; omega
        intro w16 hw16
        refine ⟨fun b => FM b ∨ w.heap.size ≤ b, fun b hb => by simp [BlkIn, nth, blkOf, vaddr] at hb; rcases hb with hb | hb <;> (subst hb; exact .inr (by first | exact zba | exact z4)), ?_⟩
        have hJw := hJ1 w15 w16 _ hJw hw16.kept (fun b hb => by have e : ba = b := (by simpa [BlkIn, nth, blkOf, vaddr] using hb); rw [← e]; exact zba)
        have hC := hC.kept hw16.kept fun g hg hb => nC g hg (by simpa [BlkIn, nth, blkOf, vaddr] using hb : ba = g).symm
        have hM := hM.kept hw16.kept fun g hg hb => by cases hg; exact nM (by simpa [BlkIn, nth, blkOf, vaddr] using hb : ba = bm).symm
        have zW : w.heap.size ≤ w16.heap.size := Nat.le_trans zW hw16.kept.size
        have f0 := hw16.base
        have pk : ∀ (p : Nat) (l : List Value), PtsTo w (pt p) l → (p = p1 ∨ p = p2 ∨ p = p3) → PtsTo w16 (pt p) l := fun p l hp he => hp.kept f0 fun b hb hb2 => by have e : p = b := Option.some.inj hb; have q := hFM _ hb2; omega
        refine den_ldpD (i := 3) [f2] [f2] ⟨by rw [hf2]; rfl, trivial⟩ (whole _) (pk _ _ hp3 (.inr (.inr rfl))) (fun b hb => by cases hb; exact Xno p3 l3 (.inr (.inr rfl))) (den_norm (by simp only [List.cons_append, List.nil_append]; rfl) ?_)
        refine den_ldpD (i := 2) [.int .i64 mv] _ ⟨⟨_, rfl⟩, trivial⟩ z5s (pk _ _ hp2 (.inr (.inl rfl))) (fun b hb => by cases hb; exact Xno p2 l2 (.inr (.inl rfl))) (den_norm (by simp only [List.cons_append, List.nil_append]; rfl) ?_)
        refine den_callF (caps := caps2) (g := g2) rfl hf2 hg2 (fun _ b => FM b) (fun _ l w2 => ∃ s : Sl, l = [s.v] ∧ Old lo w2 s D2 ∧ J2 w2) (fun w17 hw17 b hb _ => ⟨fun _ => .inl hb, fun _ => hb, fun hin => ?_, fun hx => (by cases hx)⟩) (fun w17 hw17 => ?_) (fun w17 l w18 hw17 hfl hR kw18 => ?_)
        · have := nFM b hb
          simp [BlkIn, nth, blkOf, vaddr] at hin
          omega
        · refine (h2 w17 (hJ1 w16 w17 _ hJw (shown_same hw17) (fun b hb => hb.elim))).mono (fun v w' ⟨s, hv, ho, hj⟩ _ => ⟨[s.v], ⟨⟨_, _, _, rfl⟩, trivial⟩, hv, s, rfl, ho, hj⟩) (fun _ _ h => h)
        obtain ⟨s2, rfl, hO2, hJ2w⟩ := hR
        have hC := (hC.same (shown_same hw17)).kept kw18 fun g hg hb => nFM g hb (oCw g hg)
        have hM := (hM.same (shown_same hw17)).kept kw18 fun g hg hb => nFM g hb (oM g hg)
        refine den_norm (by simp only [List.cons_append, List.nil_append]; rfl) (den_copyM (T := 5) rfl u40 st5 bm m m (List.replicate m (0 : Int)) (.slice (some ⟨bm, 0, none⟩) m m) 0 m m rfl (.inl rfl) (by omega) s2.v D2 rfl (fun w19 hw19 => ⟨hM.same (shown_same hw19), (hO2.same (shown_same hw19)).1.1⟩) (fun w19 hw19 => ?_) (fun _ => rfl) (fun w19 w20 hw19 hM kw20 => den_norm (by simp only [List.cons_append, List.nil_append]; rfl) ?_))
        · exact ⟨fun _ => .inr (oM bm rfl), fun hlt => absurd (show bm < w.heap.size from hlt) (Nat.not_lt.2 (oM bm rfl)), fun hin => (by simp [BlkIn, nth, blkOf, vaddr] at hin; rcases hin with hin | hin <;> first | exact nM hin.symm | exact n4m hin), fun hx => (by cases hx)⟩
        rw [pad_copy hD2] at hM
        have nbm : ∀ g, cl.ownBlock = some g → g ≠ bm := ncm
        have hC := (hC.same (shown_same hw19)).kept kw20 fun g hg hb => nbm g hg hb
        have hJ2w := hJ2 w19 w20 _ (hJ2 w18 w19 _ hJ2w (shown_same hw19) (fun b hb => hb.elim)) kw20 (fun b hb => by subst hb; exact oM _ rfl)
        obtain ⟨ca, cc, hcl⟩ := hC.slice
        subst hcl
        refine den_leafA _ rfl (fun w21 hw21 => ?_)
        refine ⟨(⟨ca, D1.length, cc⟩, ⟨some ⟨bm, 0, none⟩, m, m⟩), rfl, ⟨hC.kept hw21.kept fun g hg hb => ?_, hM.kept hw21.kept fun g hg hb => ?_, oCw, oM⟩, hJ2 w20 w21 _ hJ2w hw21.kept (fun b hb => by have e : b4 = b := (by simpa [BlkIn, nth, blkOf, vaddr] using hb); rw [← e]; exact z4)⟩
        · exact n4c g hg (by simpa [BlkIn, nth, blkOf, vaddr] using hb : b4 = g).symm
        · cases hg; exact n4m (by simpa [BlkIn, nth, blkOf, vaddr] using hb : b4 = bm)
    · skip
      refine den_make (n := m) u40 i5 z5 rfl rfl hb5 (by omega) (fun v => rfl) (fun w22 bm w23 hw22 hbm hhm kw23 => ?_)
      have hM : Mine byteE 5 w23 (.slice (some ⟨bm, 0, none⟩) m m) (List.replicate m (0 : Int)) := mine_zeros (by omega) hhm
      have zzw23 : w3.heap.size ≤ w23.heap.size := Nat.le_trans (shown_same hw22).size kw23.size
      have zW : w.heap.size ≤ w23.heap.size := Nat.le_trans zW zzw23
      have hJw := hJ1 w22 w23 _ (hJ1 w3 w22 _ hJw (shown_same hw22) (fun b hb => hb.elim)) kw23 (fun b hb => hb.elim)
      have hO := (hO.same (shown_same hw22)).same kw23
      have oM : ∀ g, (Value.slice (some ⟨bm, 0, none⟩) m m).ownBlock = some g → w.heap.size ≤ g := fun g hg => by cases hg; exact Nat.le_trans hw22.base.size hbm
      have zbm : w3.heap.size ≤ bm := Nat.le_trans (shown_same hw22).size hbm
      have n4m : b4 ≠ bm := fun e => by have q2 : b4 < w22.heap.size := hw22.lt (i := 4) (by simp [keys]) rfl; omega
      refine den_norm (by simp only [List.cons_append, List.nil_append]; rfl) ?_
      refine den_both ?_ ?_
      · skip
        have hMold := hM
        refine den_callR (fun w2 l w3 => ∃ v, l = [v] ∧ Mine byteE 5 w3 v D1 ∧ ∀ g, v.ownBlock = some g → w2.heap.size ≤ g) (fun w24 hw24 => ?_) (fun w24 l w25 hw24 hfl hR kw25 => ?_)
        · refine (c45 _ D1 w24 (hO.same (shown_same hw24)).1.1 hD1).mono fun v w' ⟨q1, q2, _⟩ => ?_
          obtain ⟨va, vc, hv⟩ := q1.slice
          exact ⟨[v], ⟨⟨_, _, _, hv⟩, trivial⟩, rfl, v, rfl, q1, q2⟩
        obtain ⟨cl, rfl, hC, oC⟩ := hR
        have zzw25 : w23.heap.size ≤ w25.heap.size := Nat.le_trans (shown_same hw24).size kw25.size
        have zW : w.heap.size ≤ w25.heap.size := Nat.le_trans zW zzw25
        have hJw := hJ1 w24 w25 _ (hJ1 w23 w24 _ hJw (shown_same hw24) (fun b hb => hb.elim)) kw25 (fun b hb => hb.elim)
        have hO := (hO.same (shown_same hw24)).same kw25
        have hM := (hM.same (shown_same hw24)).same kw25
        have zC : w23.heap.size ≤ w24.heap.size := (shown_same hw24).size
        have oCw : ∀ g, cl.ownBlock = some g → w.heap.size ≤ g := fun g hg => by have := oC g hg; have zz := hw24.base.size; exact Nat.le_trans zz this
        refine den_norm (by simp only [List.cons_append, List.nil_append]; rfl) ?_
        have n4c : ∀ g, cl.ownBlock = some g → g ≠ b4 := fun g hg e => by have q1 := oC g hg; have q2 : b4 < w24.heap.size := hw24.lt (i := 4) (by simp [keys]) rfl; omega
        have ncm : ∀ g, cl.ownBlock = some g → g ≠ bm := fun g hg e => by have q1 := oC g hg; have q2 := hMold.lt (g := bm) rfl; omega
        refine den_blk fun ba ka _ kaW => den_norm (by simp only [List.cons_append, List.nil_append]; rfl) ?_
        have zba : w.heap.size ≤ ba := kaW
        have nC : ∀ g, cl.ownBlock = some g → g ≠ ba := fun g hg e => by have := hC.lt hg; omega
        have nM : bm ≠ ba := fun e => by have := hM.lt (g := bm) rfl; omega
        intro w26 hw26
        refine ⟨fun b => FM b ∨ w.heap.size ≤ b, fun b hb => by simp [BlkIn, nth, blkOf, vaddr] at hb; rcases hb with hb | hb <;> (subst hb; exact .inr (by first | exact zba | exact z4)), ?_⟩
        have hJw := hJ1 w25 w26 _ hJw hw26.kept (fun b hb => by have e : ba = b := (by simpa [BlkIn, nth, blkOf, vaddr] using hb); rw [← e]; exact zba)
        have hC := hC.kept hw26.kept fun g hg hb => nC g hg (by simpa [BlkIn, nth, blkOf, vaddr] using hb : ba = g).symm
        have hM := hM.kept hw26.kept fun g hg hb => by cases hg; exact nM (by simpa [BlkIn, nth, blkOf, vaddr] using hb : ba = bm).symm
        have zW : w.heap.size ≤ w26.heap.size := Nat.le_trans zW hw26.kept.size
        have f0 := hw26.base
        have pk : ∀ (p : Nat) (l : List Value), PtsTo w (pt p) l → (p = p1 ∨ p = p2 ∨ p = p3) → PtsTo w26 (pt p) l := fun p l hp he => hp.kept f0 fun b hb hb2 => by have e : p = b := Option.some.inj hb; have q := hFM _ hb2; omega
        refine den_ldpD (i := 3) [f2] [f2] ⟨by rw [hf2]; rfl, trivial⟩ (whole _) (pk _ _ hp3 (.inr (.inr rfl))) (fun b hb => by cases hb; exact Xno p3 l3 (.inr (.inr rfl))) (den_norm (by simp only [List.cons_append, List.nil_append]; rfl) ?_)
        refine den_ldpD (i := 2) [.int .i64 mv] _ ⟨⟨_, rfl⟩, trivial⟩ z5s (pk _ _ hp2 (.inr (.inl rfl))) (fun b hb => by cases hb; exact Xno p2 l2 (.inr (.inl rfl))) (den_norm (by simp only [List.cons_append, List.nil_append]; rfl) ?_)
        refine den_callF (caps := caps2) (g := g2) rfl hf2 hg2 (fun _ b => FM b) (fun _ l w2 => ∃ s : Sl, l = [s.v] ∧ Old lo w2 s D2 ∧ J2 w2) (fun w27 hw27 b hb _ => ⟨fun _ => .inl hb, fun _ => hb, fun hin => ?_, fun hx => (by cases hx)⟩) (fun w27 hw27 => ?_) (fun w27 l w28 hw27 hfl hR kw28 => ?_)
        · have := nFM b hb
          simp [BlkIn, nth, blkOf, vaddr] at hin
          omega
        · refine (h2 w27 (hJ1 w26 w27 _ hJw (shown_same hw27) (fun b hb => hb.elim))).mono (fun v w' ⟨s, hv, ho, hj⟩ _ => ⟨[s.v], ⟨⟨_, _, _, rfl⟩, trivial⟩, hv, s, rfl, ho, hj⟩) (fun _ _ h => h)
        obtain ⟨s2, rfl, hO2, hJ2w⟩ := hR
        have hC := (hC.same (shown_same hw27)).kept kw28 fun g hg hb => nFM g hb (oCw g hg)
        have hM := (hM.same (shown_same hw27)).kept kw28 fun g hg hb => nFM g hb (oM g hg)
        refine den_norm (by simp only [List.cons_append, List.nil_append]; rfl) (den_copyM (T := 5) rfl u40 st5 bm m m (List.replicate m (0 : Int)) (.slice (some ⟨bm, 0, none⟩) m m) 0 m m rfl (.inl rfl) (by omega) s2.v D2 rfl (fun w29 hw29 => ⟨hM.same (shown_same hw29), (hO2.same (shown_same hw29)).1.1⟩) (fun w29 hw29 => ?_) (fun _ => rfl) (fun w29 w30 hw29 hM kw30 => den_norm (by simp only [List.cons_append, List.nil_append]; rfl) ?_))
        · exact ⟨fun _ => .inr (oM bm rfl), fun hlt => absurd (show bm < w.heap.size from hlt) (Nat.not_lt.2 (oM bm rfl)), fun hin => (by simp [BlkIn, nth, blkOf, vaddr] at hin; rcases hin with hin | hin <;> first | exact nM hin.symm | exact n4m hin), fun hx => (by cases hx)⟩
        rw [pad_copy hD2] at hM
        have nbm : ∀ g, cl.ownBlock = some g → g ≠ bm := ncm
        have hC := (hC.same (shown_same hw29)).kept kw30 fun g hg hb => nbm g hg hb
        have hJ2w := hJ2 w29 w30 _ (hJ2 w28 w29 _ hJ2w (shown_same hw29) (fun b hb => hb.elim)) kw30 (fun b hb => by subst hb; exact oM _ rfl)
        obtain ⟨ca, cc, hcl⟩ := hC.slice
        subst hcl
        refine den_leafA _ rfl (fun w31 hw31 => ?_)
        refine ⟨(⟨ca, D1.length, cc⟩, ⟨some ⟨bm, 0, none⟩, m, m⟩), rfl, ⟨hC.kept hw31.kept fun g hg hb => ?_, hM.kept hw31.kept fun g hg hb => ?_, oCw, oM⟩, hJ2 w30 w31 _ hJ2w hw31.kept (fun b hb => by have e : b4 = b := (by simpa [BlkIn, nth, blkOf, vaddr] using hb); rw [← e]; exact z4)⟩
        · exact n4c g hg (by simpa [BlkIn, nth, blkOf, vaddr] using hb : b4 = g).symm
        · cases hg; exact n4m (by simpa [BlkIn, nth, blkOf, vaddr] using hb : b4 = bm)
      · skip
        refine den_blk fun ba ka _ kaW => den_norm (by simp only [List.cons_append, List.nil_append]; rfl) ?_
        have zba : w.heap.size ≤ ba := kaW
        have nM : bm ≠ ba := fun e => by have := hM.lt (g := bm) rfl; omega
        have hMold := hM
        refine den_callR (fun w2 l w3 => ∃ v, l = [v] ∧ Mine byteE 5 w3 v D1 ∧ ∀ g, v.ownBlock = some g → w2.heap.size ≤ g) (fun w32 hw32 => ?_) (fun w32 l w33 hw32 hfl hR kw33 => ?_)
        · refine (c45 _ D1 w32 (hO.same (shown_same hw32)).1.1 hD1).mono fun v w' ⟨q1, q2, _⟩ => ?_
          obtain ⟨va, vc, hv⟩ := q1.slice
          exact ⟨[v], ⟨⟨_, _, _, hv⟩, trivial⟩, rfl, v, rfl, q1, q2⟩
        obtain ⟨cl, rfl, hC, oC⟩ := hR
        have zzw33 : w23.heap.size ≤ w33.heap.size := Nat.le_trans (shown_same hw32).size kw33.size
        have zW : w.heap.size ≤ w33.heap.size := Nat.le_trans zW zzw33
        have hJw := hJ1 w32 w33 _ (hJ1 w23 w32 _ hJw (shown_same hw32) (fun b hb => hb.elim)) kw33 (fun b hb => hb.elim)
        have hO := (hO.same (shown_same hw32)).same kw33
        have hM := (hM.same (shown_same hw32)).same kw33
        have zC : w23.heap.size ≤ w32.heap.size := (shown_same hw32).size
        have oCw : ∀ g, cl.ownBlock = some g → w.heap.size ≤ g := fun g hg => by have := oC g hg; have zz := hw32.base.size; exact Nat.le_trans zz this
        have nC : ∀ g, cl.ownBlock = some g → g ≠ ba := fun g hg e => by have q1 := oC g hg; have q2 : ba < w32.heap.size := hw32.lt (i := 10) (by simp [keys]) rfl; omega
        refine den_norm (by simp only [List.cons_append, List.nil_append]; rfl) ?_
        have n4c : ∀ g, cl.ownBlock = some g → g ≠ b4 := fun g hg e => by have q1 := oC g hg; have q2 : b4 < w32.heap.size := hw32.lt (i := 4) (by simp [keys]) rfl; omega
        have ncm : ∀ g, cl.ownBlock = some g → g ≠ bm := fun g hg e => by have q1 := oC g hg; have q2 := hMold.lt (g := bm) rfl; omega
        intro w34 hw34
        refine ⟨fun b => FM b ∨ w.heap.size ≤ b, fun b hb => by simp [BlkIn, nth, blkOf, vaddr] at hb; rcases hb with hb | hb <;> (subst hb; exact .inr (by first | exact zba | exact z4)), ?_⟩
        have hJw := hJ1 w33 w34 _ hJw hw34.kept (fun b hb => by have e : ba = b := (by simpa [BlkIn, nth, blkOf, vaddr] using hb); rw [← e]; exact zba)
        have hC := hC.kept hw34.kept fun g hg hb => nC g hg (by simpa [BlkIn, nth, blkOf, vaddr] using hb : ba = g).symm
        have hM := hM.kept hw34.kept fun g hg hb => by cases hg; exact nM (by simpa [BlkIn, nth, blkOf, vaddr] using hb : ba = bm).symm
        have zW : w.heap.size ≤ w34.heap.size := Nat.le_trans zW hw34.kept.size
        have f0 := hw34.base
        have pk : ∀ (p : Nat) (l : List Value), PtsTo w (pt p) l → (p = p1 ∨ p = p2 ∨ p = p3) → PtsTo w34 (pt p) l := fun p l hp he => hp.kept f0 fun b hb hb2 => by have e : p = b := Option.some.inj hb; have q := hFM _ hb2; omega
        refine den_ldpD (i := 3) [f2] [f2] ⟨by rw [hf2]; rfl, trivial⟩ (whole _) (pk _ _ hp3 (.inr (.inr rfl))) (fun b hb => by cases hb; exact Xno p3 l3 (.inr (.inr rfl))) (den_norm (by simp only [List.cons_append, List.nil_append]; rfl) ?_)
        refine den_ldpD (i := 2) [.int .i64 mv] _ ⟨⟨_, rfl⟩, trivial⟩ z5s (pk _ _ hp2 (.inr (.inl rfl))) (fun b hb => by cases hb; exact Xno p2 l2 (.inr (.inl rfl))) (den_norm (by simp only [List.cons_append, List.nil_append]; rfl) ?_)
        refine den_callF (caps := caps2) (g := g2) rfl hf2 hg2 (fun _ b => FM b) (fun _ l w2 => ∃ s : Sl, l = [s.v] ∧ Old lo w2 s D2 ∧ J2 w2) (fun w35 hw35 b hb _ => ⟨fun _ => .inl hb, fun _ => hb, fun hin => ?_, fun hx => (by cases hx)⟩) (fun w35 hw35 => ?_) (fun w35 l w36 hw35 hfl hR kw36 => ?_)
        · have := nFM b hb
          simp [BlkIn, nth, blkOf, vaddr] at hin
          omega
        · refine (h2 w35 (hJ1 w34 w35 _ hJw (shown_same hw35) (fun b hb => hb.elim))).mono (fun v w' ⟨s, hv, ho, hj⟩ _ => ⟨[s.v], ⟨⟨_, _, _, rfl⟩, trivial⟩, hv, s, rfl, ho, hj⟩) (fun _ _ h => h)
        obtain ⟨s2, rfl, hO2, hJ2w⟩ := hR
        have hC := (hC.same (shown_same hw35)).kept kw36 fun g hg hb => nFM g hb (oCw g hg)
        have hM := (hM.same (shown_same hw35)).kept kw36 fun g hg hb => nFM g hb (oM g hg)
        refine den_norm (by simp only [List.cons_append, List.nil_append]; rfl) (den_copyM (T := 5) rfl u40 st5 bm m m (List.replicate m (0 : Int)) (.slice (some ⟨bm, 0, none⟩) m m) 0 m m rfl (.inl rfl) (by omega) s2.v D2 rfl (fun w37 hw37 => ⟨hM.same (shown_same hw37), (hO2.same (shown_same hw37)).1.1⟩) (fun w37 hw37 => ?_) (fun _ => rfl) (fun w37 w38 hw37 hM kw38 => den_norm (by simp only [List.cons_append, List.nil_append]; rfl) ?_))
        · exact ⟨fun _ => .inr (oM bm rfl), fun hlt => absurd (show bm < w.heap.size from hlt) (Nat.not_lt.2 (oM bm rfl)), fun hin => (by simp [BlkIn, nth, blkOf, vaddr] at hin; rcases hin with hin | hin <;> first | exact nM hin.symm | exact n4m hin), fun hx => (by cases hx)⟩
        rw [pad_copy hD2] at hM
        have nbm : ∀ g, cl.ownBlock = some g → g ≠ bm := ncm
        have hC := (hC.same (shown_same hw37)).kept kw38 fun g hg hb => nbm g hg hb
        have hJ2w := hJ2 w37 w38 _ (hJ2 w36 w37 _ hJ2w (shown_same hw37) (fun b hb => hb.elim)) kw38 (fun b hb => by subst hb; exact oM _ rfl)
        obtain ⟨ca, cc, hcl⟩ := hC.slice
        subst hcl
        refine den_leafA _ rfl (fun w39 hw39 => ?_)
        refine ⟨(⟨ca, D1.length, cc⟩, ⟨some ⟨bm, 0, none⟩, m, m⟩), rfl, ⟨hC.kept hw39.kept fun g hg hb => ?_, hM.kept hw39.kept fun g hg hb => ?_, oCw, oM⟩, hJ2 w38 w39 _ hJ2w hw39.kept (fun b hb => by have e : b4 = b := (by simpa [BlkIn, nth, blkOf, vaddr] using hb); rw [← e]; exact z4)⟩
        · exact n4c g hg (by simpa [BlkIn, nth, blkOf, vaddr] using hb : b4 = g).symm
        · cases hg; exact n4m (by simpa [BlkIn, nth, blkOf, vaddr] using hb : b4 = bm)
    · skip
      refine den_blk fun ba ka _ kaW => den_norm (by simp only [List.cons_append, List.nil_append]; rfl) ?_
      have zba : w.heap.size ≤ ba := kaW
      refine den_both ?_ ?_
      · skip
        refine den_callR (fun w2 l w3 => ∃ v, l = [v] ∧ Mine byteE 5 w3 v D1 ∧ ∀ g, v.ownBlock = some g → w2.heap.size ≤ g) (fun w40 hw40 => ?_) (fun w40 l w41 hw40 hfl hR kw41 => ?_)
        · refine (c45 _ D1 w40 (hO.same (shown_same hw40)).1.1 hD1).mono fun v w' ⟨q1, q2, _⟩ => ?_
          obtain ⟨va, vc, hv⟩ := q1.slice
          exact ⟨[v], ⟨⟨_, _, _, hv⟩, trivial⟩, rfl, v, rfl, q1, q2⟩
        obtain ⟨cl, rfl, hC, oC⟩ := hR
        have zzw41 : w3.heap.size ≤ w41.heap.size := Nat.le_trans (shown_same hw40).size kw41.size
        have zW : w.heap.size ≤ w41.heap.size := Nat.le_trans zW zzw41
        have hJw := hJ1 w40 w41 _ (hJ1 w3 w40 _ hJw (shown_same hw40) (fun b hb => hb.elim)) kw41 (fun b hb => hb.elim)
        have hO := (hO.same (shown_same hw40)).same kw41
        have zC : w3.heap.size ≤ w40.heap.size := (shown_same hw40).size
        have oCw : ∀ g, cl.ownBlock = some g → w.heap.size ≤ g := fun g hg => by have := oC g hg; have zz := hw40.base.size; exact Nat.le_trans zz this
        have nC : ∀ g, cl.ownBlock = some g → g ≠ ba := fun g hg e => by have q1 := oC g hg; have q2 : ba < w40.heap.size := hw40.lt (i := 9) (by simp [keys]) rfl; omega
        refine den_norm (by simp only [List.cons_append, List.nil_append]; rfl) ?_
        have n4c : ∀ g, cl.ownBlock = some g → g ≠ b4 := fun g hg e => by have q1 := oC g hg; have q2 : b4 < w40.heap.size := hw40.lt (i := 4) (by simp [keys]) rfl; omega
        have hCold := hC
        refine den_make (n := m) u40 i5 z5 rfl rfl hb5 (by omega) (fun v => rfl) (fun w42 bm w43 hw42 hbm hhm kw43 => ?_)
        have hM : Mine byteE 5 w43 (.slice (some ⟨bm, 0, none⟩) m m) (List.replicate m (0 : Int)) := mine_zeros (by omega) hhm
        have zzw43 : w41.heap.size ≤ w43.heap.size := Nat.le_trans (shown_same hw42).size kw43.size
        have zW : w.heap.size ≤ w43.heap.size := Nat.le_trans zW zzw43
        have hJw := hJ1 w42 w43 _ (hJ1 w41 w42 _ hJw (shown_same hw42) (fun b hb => hb.elim)) kw43 (fun b hb => hb.elim)
        have hO := (hO.same (shown_same hw42)).same kw43
        have hC := (hC.same (shown_same hw42)).same kw43
        have oM : ∀ g, (Value.slice (some ⟨bm, 0, none⟩) m m).ownBlock = some g → w.heap.size ≤ g := fun g hg => by cases hg; exact Nat.le_trans hw42.base.size hbm
        have zbm : w41.heap.size ≤ bm := Nat.le_trans (shown_same hw42).size hbm
        have n4m : b4 ≠ bm := fun e => by have q2 : b4 < w42.heap.size := hw42.lt (i := 4) (by simp [keys]) rfl; omega
        have nM : bm ≠ ba := fun e => by have q2 : ba < w42.heap.size := hw42.lt (i := 9) (by simp [keys]) rfl; omega
        refine den_norm (by simp only [List.cons_append, List.nil_append]; rfl) ?_
        have ncm : ∀ g, cl.ownBlock = some g → g ≠ bm := fun g hg e => by have q1 := hCold.lt hg; omega
        intro w44 hw44
        refine ⟨fun b => FM b ∨ w.heap.size ≤ b, fun b hb => by simp [BlkIn, nth, blkOf, vaddr] at hb; rcases hb with hb | hb <;> (subst hb; exact .inr (by first | exact zba | exact z4)), ?_⟩
        have hJw := hJ1 w43 w44 _ hJw hw44.kept (fun b hb => by have e : ba = b := (by simpa [BlkIn, nth, blkOf, vaddr] using hb); rw [← e]; exact zba)
        have hC := hC.kept hw44.kept fun g hg hb => nC g hg (by simpa [BlkIn, nth, blkOf, vaddr] using hb : ba = g).symm
        have hM := hM.kept hw44.kept fun g hg hb => by cases hg; exact nM (by simpa [BlkIn, nth, blkOf, vaddr] using hb : ba = bm).symm
        have zW : w.heap.size ≤ w44.heap.size := Nat.le_trans zW hw44.kept.size
        have f0 := hw44.base
        have pk : ∀ (p : Nat) (l : List Value), PtsTo w (pt p) l → (p = p1 ∨ p = p2 ∨ p = p3) → PtsTo w44 (pt p) l := fun p l hp he => hp.kept f0 fun b hb hb2 => by have e : p = b := Option.some.inj hb; have q := hFM _ hb2; omega
        refine den_ldpD (i := 3) [f2] [f2] ⟨by rw [hf2]; rfl, trivial⟩ (whole _) (pk _ _ hp3 (.inr (.inr rfl))) (fun b hb => by cases hb; exact Xno p3 l3 (.inr (.inr rfl))) (den_norm (by simp only [List.cons_append, List.nil_append]; rfl) ?_)
        refine den_ldpD (i := 2) [.int .i64 mv] _ ⟨⟨_, rfl⟩, trivial⟩ z5s (pk _ _ hp2 (.inr (.inl rfl))) (fun b hb => by cases hb; exact Xno p2 l2 (.inr (.inl rfl))) (den_norm (by simp only [List.cons_append, List.nil_append]; rfl) ?_)
        refine den_callF (caps := caps2) (g := g2) rfl hf2 hg2 (fun _ b => FM b) (fun _ l w2 => ∃ s : Sl, l = [s.v] ∧ Old lo w2 s D2 ∧ J2 w2) (fun w45 hw45 b hb _ => ⟨fun _ => .inl hb, fun _ => hb, fun hin => ?_, fun hx => (by cases hx)⟩) (fun w45 hw45 => ?_) (fun w45 l w46 hw45 hfl hR kw46 => ?_)
        · have := nFM b hb
          simp [BlkIn, nth, blkOf, vaddr] at hin
          omega
        · refine (h2 w45 (hJ1 w44 w45 _ hJw (shown_same hw45) (fun b hb => hb.elim))).mono (fun v w' ⟨s, hv, ho, hj⟩ _ => ⟨[s.v], ⟨⟨_, _, _, rfl⟩, trivial⟩, hv, s, rfl, ho, hj⟩) (fun _ _ h => h)
        obtain ⟨s2, rfl, hO2, hJ2w⟩ := hR
        have hC := (hC.same (shown_same hw45)).kept kw46 fun g hg hb => nFM g hb (oCw g hg)
        have hM := (hM.same (shown_same hw45)).kept kw46 fun g hg hb => nFM g hb (oM g hg)
        refine den_norm (by simp only [List.cons_append, List.nil_append]; rfl) (den_copyM (T := 5) rfl u40 st5 bm m m (List.replicate m (0 : Int)) (.slice (some ⟨bm, 0, none⟩) m m) 0 m m rfl (.inl rfl) (by omega) s2.v D2 rfl (fun w47 hw47 => ⟨hM.same (shown_same hw47), (hO2.same (shown_same hw47)).1.1⟩) (fun w47 hw47 => ?_) (fun _ => rfl) (fun w47 w48 hw47 hM kw48 => den_norm (by simp only [List.cons_append, List.nil_append]; rfl) ?_))
        · exact ⟨fun _ => .inr (oM bm rfl), fun hlt => absurd (show bm < w.heap.size from hlt) (Nat.not_lt.2 (oM bm rfl)), fun hin => (by simp [BlkIn, nth, blkOf, vaddr] at hin; rcases hin with hin | hin <;> first | exact nM hin.symm | exact n4m hin), fun hx => (by cases hx)⟩
        rw [pad_copy hD2] at hM
        have nbm : ∀ g, cl.ownBlock = some g → g ≠ bm := ncm
        have hC := (hC.same (shown_same hw47)).kept kw48 fun g hg hb => nbm g hg hb
        have hJ2w := hJ2 w47 w48 _ (hJ2 w46 w47 _ hJ2w (shown_same hw47) (fun b hb => hb.elim)) kw48 (fun b hb => by subst hb; exact oM _ rfl)
        obtain ⟨ca, cc, hcl⟩ := hC.slice
        subst hcl
        refine den_leafA _ rfl (fun w49 hw49 => ?_)
        refine ⟨(⟨ca, D1.length, cc⟩, ⟨some ⟨bm, 0, none⟩, m, m⟩), rfl, ⟨hC.kept hw49.kept fun g hg hb => ?_, hM.kept hw49.kept fun g hg hb => ?_, oCw, oM⟩, hJ2 w48 w49 _ hJ2w hw49.kept (fun b hb => by have e : b4 = b := (by simpa [BlkIn, nth, blkOf, vaddr] using hb); rw [← e]; exact z4)⟩
        · exact n4c g hg (by simpa [BlkIn, nth, blkOf, vaddr] using hb : b4 = g).symm
        · cases hg; exact n4m (by simpa [BlkIn, nth, blkOf, vaddr] using hb : b4 = bm)
      · skip
        refine den_make (n := m) u40 i5 z5 rfl rfl hb5 (by omega) (fun v => rfl) (fun w50 bm w51 hw50 hbm hhm kw51 => ?_)
        have hM : Mine byteE 5 w51 (.slice (some ⟨bm, 0, none⟩) m m) (List.replicate m (0 : Int)) := mine_zeros (by omega) hhm
        have zzw51 : w3.heap.size ≤ w51.heap.size := Nat.le_trans (shown_same hw50).size kw51.size
        have zW : w.heap.size ≤ w51.heap.size := Nat.le_trans zW zzw51
        have hJw := hJ1 w50 w51 _ (hJ1 w3 w50 _ hJw (shown_same hw50) (fun b hb => hb.elim)) kw51 (fun b hb => hb.elim)
        have hO := (hO.same (shown_same hw50)).same kw51
        have oM : ∀ g, (Value.slice (some ⟨bm, 0, none⟩) m m).ownBlock = some g → w.heap.size ≤ g := fun g hg => by cases hg; exact Nat.le_trans hw50.base.size hbm
        have zbm : w3.heap.size ≤ bm := Nat.le_trans (shown_same hw50).size hbm
        have n4m : b4 ≠ bm := fun e => by have q2 : b4 < w50.heap.size := hw50.lt (i := 4) (by simp [keys]) rfl; omega
        have nM : bm ≠ ba := fun e => by have q2 : ba < w50.heap.size := hw50.lt (i := 9) (by simp [keys]) rfl; omega
        refine den_norm (by simp only [List.cons_append, List.nil_append]; rfl) ?_
        have hMold := hM
        refine den_callR (fun w2 l w3 => ∃ v, l = [v] ∧ Mine byteE 5 w3 v D1 ∧ ∀ g, v.ownBlock = some g → w2.heap.size ≤ g) (fun w52 hw52 => ?_) (fun w52 l w53 hw52 hfl hR kw53 => ?_)
        · refine (c45 _ D1 w52 (hO.same (shown_same hw52)).1.1 hD1).mono fun v w' ⟨q1, q2, _⟩ => ?_
          obtain ⟨va, vc, hv⟩ := q1.slice
          exact ⟨[v], ⟨⟨_, _, _, hv⟩, trivial⟩, rfl, v, rfl, q1, q2⟩
        obtain ⟨cl, rfl, hC, oC⟩ := hR
        have zzw53 : w51.heap.size ≤ w53.heap.size := Nat.le_trans (shown_same hw52).size kw53.size
        have zW : w.heap.size ≤ w53.heap.size := Nat.le_trans zW zzw53
        have hJw := hJ1 w52 w53 _ (hJ1 w51 w52 _ hJw (shown_same hw52) (fun b hb => hb.elim)) kw53 (fun b hb => hb.elim)
        have hO := (hO.same (shown_same hw52)).same kw53
        have hM := (hM.same (shown_same hw52)).same kw53
        have zC : w51.heap.size ≤ w52.heap.size := (shown_same hw52).size
        have oCw : ∀ g, cl.ownBlock = some g → w.heap.size ≤ g := fun g hg => by have := oC g hg; have zz := hw52.base.size; exact Nat.le_trans zz this
        have nC : ∀ g, cl.ownBlock = some g → g ≠ ba := fun g hg e => by have q1 := oC g hg; have q2 : ba < w52.heap.size := hw52.lt (i := 9) (by simp [keys]) rfl; omega
        refine den_norm (by simp only [List.cons_append, List.nil_append]; rfl) ?_
        have n4c : ∀ g, cl.ownBlock = some g → g ≠ b4 := fun g hg e => by have q1 := oC g hg; have q2 : b4 < w52.heap.size := hw52.lt (i := 4) (by simp [keys]) rfl; omega
        have ncm : ∀ g, cl.ownBlock = some g → g ≠ bm := fun g hg e => by have q1 := oC g hg; have q2 := hMold.lt (g := bm) rfl; omega
        intro w54 hw54
        refine ⟨fun b => FM b ∨ w.heap.size ≤ b, fun b hb => by simp [BlkIn, nth, blkOf, vaddr] at hb; rcases hb with hb | hb <;> (subst hb; exact .inr (by first | exact zba | exact z4)), ?_⟩
        have hJw := hJ1 w53 w54 _ hJw hw54.kept (fun b hb => by have e : ba = b := (by simpa [BlkIn, nth, blkOf, vaddr] using hb); rw [← e]; exact zba)
        have hC := hC.kept hw54.kept fun g hg hb => nC g hg (by simpa [BlkIn, nth, blkOf, vaddr] using hb : ba = g).symm
        have hM := hM.kept hw54.kept fun g hg hb => by cases hg; exact nM (by simpa [BlkIn, nth, blkOf, vaddr] using hb : ba = bm).symm
        have zW : w.heap.size ≤ w54.heap.size := Nat.le_trans zW hw54.kept.size
        have f0 := hw54.base
        have pk : ∀ (p : Nat) (l : List Value), PtsTo w (pt p) l → (p = p1 ∨ p = p2 ∨ p = p3) → PtsTo w54 (pt p) l := fun p l hp he => hp.kept f0 fun b hb hb2 => by have e : p = b := Option.some.inj hb; have q := hFM _ hb2; omega
        refine den_ldpD (i := 3) [f2] [f2] ⟨by rw [hf2]; rfl, trivial⟩ (whole _) (pk _ _ hp3 (.inr (.inr rfl))) (fun b hb => by cases hb; exact Xno p3 l3 (.inr (.inr rfl))) (den_norm (by simp only [List.cons_append, List.nil_append]; rfl) ?_)
        refine den_ldpD (i := 2) [.int .i64 mv] _ ⟨⟨_, rfl⟩, trivial⟩ z5s (pk _ _ hp2 (.inr (.inl rfl))) (fun b hb => by cases hb; exact Xno p2 l2 (.inr (.inl rfl))) (den_norm (by simp only [List.cons_append, List.nil_append]; rfl) ?_)
        refine den_callF (caps := caps2) (g := g2) rfl hf2 hg2 (fun _ b => FM b) (fun _ l w2 => ∃ s : Sl, l = [s.v] ∧ Old lo w2 s D2 ∧ J2 w2) (fun w55 hw55 b hb _ => ⟨fun _ => .inl hb, fun _ => hb, fun hin => ?_, fun hx => (by cases hx)⟩) (fun w55 hw55 => ?_) (fun w55 l w56 hw55 hfl hR kw56 => ?_)
        · have := nFM b hb
          simp [BlkIn, nth, blkOf, vaddr] at hin
          omega
        · refine (h2 w55 (hJ1 w54 w55 _ hJw (shown_same hw55) (fun b hb => hb.elim))).mono (fun v w' ⟨s, hv, ho, hj⟩ _ => ⟨[s.v], ⟨⟨_, _, _, rfl⟩, trivial⟩, hv, s, rfl, ho, hj⟩) (fun _ _ h => h)
        obtain ⟨s2, rfl, hO2, hJ2w⟩ := hR
        have hC := (hC.same (shown_same hw55)).kept kw56 fun g hg hb => nFM g hb (oCw g hg)
        have hM := (hM.same (shown_same hw55)).kept kw56 fun g hg hb => nFM g hb (oM g hg)
        refine den_norm (by simp only [List.cons_append, List.nil_append]; rfl) (den_copyM (T := 5) rfl u40 st5 bm m m (List.replicate m (0 : Int)) (.slice (some ⟨bm, 0, none⟩) m m) 0 m m rfl (.inl rfl) (by omega) s2.v D2 rfl (fun w57 hw57 => ⟨hM.same (shown_same hw57), (hO2.same (shown_same hw57)).1.1⟩) (fun w57 hw57 => ?_) (fun _ => rfl) (fun w57 w58 hw57 hM kw58 => den_norm (by simp only [List.cons_append, List.nil_append]; rfl) ?_))
        · exact ⟨fun _ => .inr (oM bm rfl), fun hlt => absurd (show bm < w.heap.size from hlt) (Nat.not_lt.2 (oM bm rfl)), fun hin => (by simp [BlkIn, nth, blkOf, vaddr] at hin; rcases hin with hin | hin <;> first | exact nM hin.symm | exact n4m hin), fun hx => (by cases hx)⟩
        rw [pad_copy hD2] at hM
        have nbm : ∀ g, cl.ownBlock = some g → g ≠ bm := ncm
        have hC := (hC.same (shown_same hw57)).kept kw58 fun g hg hb => nbm g hg hb
        have hJ2w := hJ2 w57 w58 _ (hJ2 w56 w57 _ hJ2w (shown_same hw57) (fun b hb => hb.elim)) kw58 (fun b hb => by subst hb; exact oM _ rfl)
        obtain ⟨ca, cc, hcl⟩ := hC.slice
        subst hcl
        refine den_leafA _ rfl (fun w59 hw59 => ?_)
        refine ⟨(⟨ca, D1.length, cc⟩, ⟨some ⟨bm, 0, none⟩, m, m⟩), rfl, ⟨hC.kept hw59.kept fun g hg hb => ?_, hM.kept hw59.kept fun g hg hb => ?_, oCw, oM⟩, hJ2 w58 w59 _ hJ2w hw59.kept (fun b hb => by have e : b4 = b := (by simpa [BlkIn, nth, blkOf, vaddr] using hb); rw [← e]; exact z4)⟩
        · exact n4c g hg (by simpa [BlkIn, nth, blkOf, vaddr] using hb : b4 = g).symm
        · cases hg; exact n4m (by simpa [BlkIn, nth, blkOf, vaddr] using hb : b4 = bm)
  · skip
    refine den_make (n := m) u40 i5 z5 rfl rfl hb5 (by omega) (fun v => rfl) (fun w60 bm w61 hw60 hbm hhm kw61 => ?_)
    have hM : Mine byteE 5 w61 (.slice (some ⟨bm, 0, none⟩) m m) (List.replicate m (0 : Int)) := mine_zeros (by omega) hhm
    have zzw61 : w1.heap.size ≤ w61.heap.size := Nat.le_trans (shown_same hw60).size kw61.size
    have zW : w.heap.size ≤ w61.heap.size := Nat.le_trans zW zzw61
    have hJw := hJ0 w60 w61 _ (hJ0 w1 w60 _ hJw (shown_same hw60) (fun b hb => hb.elim)) kw61 (fun b hb => hb.elim)
    have oM : ∀ g, (Value.slice (some ⟨bm, 0, none⟩) m m).ownBlock = some g → w.heap.size ≤ g := fun g hg => by cases hg; exact Nat.le_trans hw60.base.size hbm
    have zbm : w1.heap.size ≤ bm := Nat.le_trans (shown_same hw60).size hbm
    have n4m : b4 ≠ bm := fun e => by have q2 : b4 < w60.heap.size := hw60.lt (i := 4) (by simp [keys]) rfl; omega
    refine den_norm (by simp only [List.cons_append, List.nil_append]; rfl) ?_
    refine den_both ?_ ?_
    · skip
      refine den_callF (caps := caps1) (g := g1) rfl hf1 hg1 (fun _ b => FM b) (fun _ l w2 => ∃ s : Sl, l = [s.v] ∧ Old lo w2 s D1 ∧ J1 w2) (fun w62 hw62 b hb _ => ⟨fun _ => .inl hb, fun _ => hb, fun hin => ?_, fun hx => (by cases hx)⟩) (fun w62 hw62 => ?_) (fun w62 l w63 hw62 hfl hR kw63 => ?_)
      · have := nFM b hb
        simp [BlkIn, nth, blkOf, vaddr] at hin
        omega
      · refine (h1 w62 (hJ0 w61 w62 _ hJw (shown_same hw62) (fun b hb => hb.elim))).mono (fun v w' ⟨s, hv, ho, hj⟩ _ => ⟨[s.v], ⟨⟨_, _, _, rfl⟩, trivial⟩, hv, s, rfl, ho, hj⟩) (fun _ _ h => h)
      have zzw63 : w61.heap.size ≤ w63.heap.size := Nat.le_trans (shown_same hw62).size kw63.size
      have zW : w.heap.size ≤ w63.heap.size := Nat.le_trans zW zzw63
      have hM := (hM.same (shown_same hw62)).kept kw63 fun g hg hb => nFM g hb (oM g hg)
      obtain ⟨s1, rfl, hO, hJw⟩ := hR
      refine den_norm (by simp only [List.cons_append, List.nil_append]; rfl) ?_
      refine den_both ?_ ?_
      · skip
        have hMold := hM
        refine den_callR (fun w2 l w3 => ∃ v, l = [v] ∧ Mine byteE 5 w3 v D1 ∧ ∀ g, v.ownBlock = some g → w2.heap.size ≤ g) (fun w64 hw64 => ?_) (fun w64 l w65 hw64 hfl hR kw65 => ?_)
        · refine (c45 _ D1 w64 (hO.same (shown_same hw64)).1.1 hD1).mono fun v w' ⟨q1, q2, _⟩ => ?_
          obtain ⟨va, vc, hv⟩ := q1.slice
          exact ⟨[v], ⟨⟨_, _, _, hv⟩, trivial⟩, rfl, v, rfl, q1, q2⟩
        obtain ⟨cl, rfl, hC, oC⟩ := hR
        have zzw65 : w63.heap.size ≤ w65.heap.size := Nat.le_trans (shown_same hw64).size kw65.size
        have zW : w.heap.size ≤ w65.heap.size := Nat.le_trans zW zzw65
        have hJw := hJ1 w64 w65 _ (hJ1 w63 w64 _ hJw (shown_same hw64) (fun b hb => hb.elim)) kw65 (fun b hb => hb.elim)
        have hO := (hO.same (shown_same hw64)).same kw65
        have hM := (hM.same (shown_same hw64)).same kw65
        have zC : w63.heap.size ≤ w64.heap.size := (shown_same hw64).size
        have oCw : ∀ g, cl.ownBlock = some g → w.heap.size ≤ g := fun g hg => by have := oC g hg; have zz := hw64.base.size; exact Nat.le_trans zz this
        refine den_norm (by simp only [List.cons_append, List.nil_append]; rfl) ?_
        have n4c : ∀ g, cl.ownBlock = some g → g ≠ b4 := fun g hg e => by have q1 := oC g hg; have q2 : b4 < w64.heap.size := hw64.lt (i := 4) (by simp [keys]) rfl; omega
        have ncm : ∀ g, cl.ownBlock = some g → g ≠ bm := fun g hg e => by have q1 := oC g hg; have q2 := hMold.lt (g := bm) rfl; omega
        refine den_blk fun ba ka _ kaW => den_norm (by simp only [List.cons_append, List.nil_append]; rfl) ?_
        have zba : w.heap.size ≤ ba := kaW
        have nC : ∀ g, cl.ownBlock = some g → g ≠ ba := fun g hg e => by have := hC.lt hg; omega
        have nM : bm ≠ ba := fun e => by have := hM.lt (g := bm) rfl; omega
        intro w66 hw66
        refine ⟨fun b => FM b ∨ w.heap.size ≤ b, fun b hb => by simp [BlkIn, nth, blkOf, vaddr] at hb; rcases hb with hb | hb <;> (subst hb; exact .inr (by first | exact zba | exact z4)), ?_⟩
        have hJw := hJ1 w65 w66 _ hJw hw66.kept (fun b hb => by have e : ba = b := (by simpa [BlkIn, nth, blkOf, vaddr] using hb); rw [← e]; exact zba)
        have hC := hC.kept hw66.kept fun g hg hb => nC g hg (by simpa [BlkIn, nth, blkOf, vaddr] using hb : ba = g).symm
        have hM := hM.kept hw66.kept fun g hg hb => by cases hg; exact nM (by simpa [BlkIn, nth, blkOf, vaddr] using hb : ba = bm).symm
        have zW : w.heap.size ≤ w66.heap.size := Nat.le_trans zW hw66.kept.size
        have f0 := hw66.base
        have pk : ∀ (p : Nat) (l : List Value), PtsTo w (pt p) l → (p = p1 ∨ p = p2 ∨ p = p3) → PtsTo w66 (pt p) l := fun p l hp he => hp.kept f0 fun b hb hb2 => by have e : p = b := Option.some.inj hb; have q := hFM _ hb2; omega
        refine den_ldpD (i := 3) [f2] [f2] ⟨by rw [hf2]; rfl, trivial⟩ (whole _) (pk _ _ hp3 (.inr (.inr rfl))) (fun b hb => by cases hb; exact Xno p3 l3 (.inr (.inr rfl))) (den_norm (by simp only [List.cons_append, List.nil_append]; rfl) ?_)
        refine den_ldpD (i := 2) [.int .i64 mv] _ ⟨⟨_, rfl⟩, trivial⟩ z5s (pk _ _ hp2 (.inr (.inl rfl))) (fun b hb => by cases hb; exact Xno p2 l2 (.inr (.inl rfl))) (den_norm (by simp only [List.cons_append, List.nil_append]; rfl) ?_)
        refine den_callF (caps := caps2) (g := g2) rfl hf2 hg2 (fun _ b => FM b) (fun _ l w2 => ∃ s : Sl, l = [s.v] ∧ Old lo w2 s D2 ∧ J2 w2) (fun w67 hw67 b hb _ => ⟨fun _ => .inl hb, fun _ => hb, fun hin => ?_, fun hx => (by cases hx)⟩) (fun w67 hw67 => ?_) (fun w67 l w68 hw67 hfl hR kw68 => ?_)
        · have := nFM b hb
          simp [BlkIn, nth, blkOf, vaddr] at hin
          omega
        · refine (h2 w67 (hJ1 w66 w67 _ hJw (shown_same hw67) (fun b hb => hb.elim))).mono (fun v w' ⟨s, hv, ho, hj⟩ _ => ⟨[s.v], ⟨⟨_, _, _, rfl⟩, trivial⟩, hv, s, rfl, ho, hj⟩) (fun _ _ h => h)
        obtain ⟨s2, rfl, hO2, hJ2w⟩ := hR
        have hC := (hC.same (shown_same hw67)).kept kw68 fun g hg hb => nFM g hb (oCw g hg)
        have hM := (hM.same (shown_same hw67)).kept kw68 fun g hg hb => nFM g hb (oM g hg)
        refine den_norm (by simp only [List.cons_append, List.nil_append]; rfl) (den_copyM (T := 5) rfl u40 st5 bm m m (List.replicate m (0 : Int)) (.slice (some ⟨bm, 0, none⟩) m m) 0 m m rfl (.inl rfl) (by omega) s2.v D2 rfl (fun w69 hw69 => ⟨hM.same (shown_same hw69), (hO2.same (shown_same hw69)).1.1⟩) (fun w69 hw69 => ?_) (fun _ => rfl) (fun w69 w70 hw69 hM kw70 => den_norm (by simp only [List.cons_append, List.nil_append]; rfl) ?_))
        · exact ⟨fun _ => .inr (oM bm rfl), fun hlt => absurd (show bm < w.heap.size from hlt) (Nat.not_lt.2 (oM bm rfl)), fun hin => (by simp [BlkIn, nth, blkOf, vaddr] at hin; rcases hin with hin | hin <;> first | exact nM hin.symm | exact n4m hin), fun hx => (by cases hx)⟩
        rw [pad_copy hD2] at hM
        have nbm : ∀ g, cl.ownBlock = some g → g ≠ bm := ncm
        have hC := (hC.same (shown_same hw69)).kept kw70 fun g hg hb => nbm g hg hb
        have hJ2w := hJ2 w69 w70 _ (hJ2 w68 w69 _ hJ2w (shown_same hw69) (fun b hb => hb.elim)) kw70 (fun b hb => by subst hb; exact oM _ rfl)
        obtain ⟨ca, cc, hcl⟩ := hC.slice
        subst hcl
        refine den_leafA _ rfl (fun w71 hw71 => ?_)
        refine ⟨(⟨ca, D1.length, cc⟩, ⟨some ⟨bm, 0, none⟩, m, m⟩), rfl, ⟨hC.kept hw71.kept fun g hg hb => ?_, hM.kept hw71.kept fun g hg hb => ?_, oCw, oM⟩, hJ2 w70 w71 _ hJ2w hw71.kept (fun b hb => by have e : b4 = b := (by simpa [BlkIn, nth, blkOf, vaddr] using hb); rw [← e]; exact z4)⟩
        · exact n4c g hg (by simpa [BlkIn, nth, blkOf, vaddr] using hb : b4 = g).symm
        · cases hg; exact n4m (by simpa [BlkIn, nth, blkOf, vaddr] using hb : b4 = bm)
      · skip
        refine den_blk fun ba ka _ kaW => den_norm (by simp only [List.cons_append, List.nil_append]; rfl) ?_
        have zba : w.heap.size ≤ ba := kaW
        have nM : bm ≠ ba := fun e => by have := hM.lt (g := bm) rfl; omega
        have hMold := hM
        refine den_callR (fun w2 l w3 => ∃ v, l = [v] ∧ Mine byteE 5 w3 v D1 ∧ ∀ g, v.ownBlock = some g → w2.heap.size ≤ g) (fun w72 hw72 => ?_) (fun w72 l w73 hw72 hfl hR kw73 => ?_)
        · refine (c45 _ D1 w72 (hO.same (shown_same hw72)).1.1 hD1).mono fun v w' ⟨q1, q2, _⟩ => ?_
          obtain ⟨va, vc, hv⟩ := q1.slice
          exact ⟨[v], ⟨⟨_, _, _, hv⟩, trivial⟩, rfl, v, rfl, q1, q2⟩
        obtain ⟨cl, rfl, hC, oC⟩ := hR
        have zzw73 : w63.heap.size ≤ w73.heap.size := Nat.le_trans (shown_same hw72).size kw73.size
        have zW : w.heap.size ≤ w73.heap.size := Nat.le_trans zW zzw73
        have hJw := hJ1 w72 w73 _ (hJ1 w63 w72 _ hJw (shown_same hw72) (fun b hb => hb.elim)) kw73 (fun b hb => hb.elim)
        have hO := (hO.same (shown_same hw72)).same kw73
        have hM := (hM.same (shown_same hw72)).same kw73
        have zC : w63.heap.size ≤ w72.heap.size := (shown_same hw72).size
        have oCw : ∀ g, cl.ownBlock = some g → w.heap.size ≤ g := fun g hg => by have := oC g hg; have zz := hw72.base.size; exact Nat.le_trans zz this
        have nC : ∀ g, cl.ownBlock = some g → g ≠ ba := fun g hg e => by have q1 := oC g hg; have q2 : ba < w72.heap.size := hw72.lt (i := 10) (by simp [keys]) rfl; omega
        refine den_norm (by simp only [List.cons_append, List.nil_append]; rfl) ?_
        have n4c : ∀ g, cl.ownBlock = some g → g ≠ b4 := fun g hg e => by have q1 := oC g hg; have q2 : b4 < w72.heap.size := hw72.lt (i := 4) (by simp [keys]) rfl; omega
        have ncm : ∀ g, cl.ownBlock = some g → g ≠ bm := fun g hg e => by have q1 := oC g hg; have q2 := hMold.lt (g := bm) rfl; omega
        intro w74 hw74
        refine ⟨fun b => FM b ∨ w.heap.size ≤ b, fun b hb => by simp [BlkIn, nth, blkOf, vaddr] at hb; rcases hb with hb | hb <;> (subst hb; exact .inr (by first | exact zba | exact z4)), ?_⟩
        have hJw := hJ1 w73 w74 _ hJw hw74.kept (fun b hb => by have e : ba = b := (by simpa [BlkIn, nth, blkOf, vaddr] using hb); rw [← e]; exact zba)
        have hC := hC.kept hw74.kept fun g hg hb => nC g hg (by simpa [BlkIn, nth, blkOf, vaddr] using hb : ba = g).symm
        have hM := hM.kept hw74.kept fun g hg hb => by cases hg; exact nM (by simpa [BlkIn, nth, blkOf, vaddr] using hb : ba = bm).symm
        have zW : w.heap.size ≤ w74.heap.size := Nat.le_trans zW hw74.kept.size
        have f0 := hw74.base
        have pk : ∀ (p : Nat) (l : List Value), PtsTo w (pt p) l → (p = p1 ∨ p = p2 ∨ p = p3) → PtsTo w74 (pt p) l := fun p l hp he => hp.kept f0 fun b hb hb2 => by have e : p = b := Option.some.inj hb; have q := hFM _ hb2; omega
        refine den_ldpD (i := 3) [f2] [f2] ⟨by rw [hf2]; rfl, trivial⟩ (whole _) (pk _ _ hp3 (.inr (.inr rfl))) (fun b hb => by cases hb; exact Xno p3 l3 (.inr (.inr rfl))) (den_norm (by simp only [List.cons_append, List.nil_append]; rfl) ?_)
        refine den_ldpD (i := 2) [.int .i64 mv] _ ⟨⟨_, rfl⟩, trivial⟩ z5s (pk _ _ hp2 (.inr (.inl rfl))) (fun b hb => by cases hb; exact Xno p2 l2 (.inr (.inl rfl))) (den_norm (by simp only [List.cons_append, List.nil_append]; rfl) ?_)
        refine den_callF (caps := caps2) (g := g2) rfl hf2 hg2 (fun _ b => FM b) (fun _ l w2 => ∃ s : Sl, l = [s.v] ∧ Old lo w2 s D2 ∧ J2 w2) (fun w75 hw75 b hb _ => ⟨fun _ => .inl hb, fun _ => hb, fun hin => ?_, fun hx => (by cases hx)⟩) (fun w75 hw75 => ?_) (fun w75 l w76 hw75 hfl hR kw76 => ?_)
        · have := nFM b hb
          simp [BlkIn, nth, blkOf, vaddr] at hin
          omega
        · refine (h2 w75 (hJ1 w74 w75 _ hJw (shown_same hw75) (fun b hb => hb.elim))).mono (fun v w' ⟨s, hv, ho, hj⟩ _ => ⟨[s.v], ⟨⟨_, _, _, rfl⟩, trivial⟩, hv, s, rfl, ho, hj⟩) (fun _ _ h => h)
        obtain ⟨s2, rfl, hO2, hJ2w⟩ := hR
        have hC := (hC.same (shown_same hw75)).kept kw76 fun g hg hb => nFM g hb (oCw g hg)
        have hM := (hM.same (shown_same hw75)).kept kw76 fun g hg hb => nFM g hb (oM g hg)
        refine den_norm (by simp only [List.cons_append, List.nil_append]; rfl) (den_copyM (T := 5) rfl u40 st5 bm m m (List.replicate m (0 : Int)) (.slice (some ⟨bm, 0, none⟩) m m) 0 m m rfl (.inl rfl) (by omega) s2.v D2 rfl (fun w77 hw77 => ⟨hM.same (shown_same hw77), (hO2.same (shown_same hw77)).1.1⟩) (fun w77 hw77 => ?_) (fun _ => rfl) (fun w77 w78 hw77 hM kw78 => den_norm (by simp only [List.cons_append, List.nil_append]; rfl) ?_))
        · exact ⟨fun _ => .inr (oM bm rfl), fun hlt => absurd (show bm < w.heap.size from hlt) (Nat.not_lt.2 (oM bm rfl)), fun hin => (by simp [BlkIn, nth, blkOf, vaddr] at hin; rcases hin with hin | hin <;> first | exact nM hin.symm | exact n4m hin), fun hx => (by cases hx)⟩
        rw [pad_copy hD2] at hM
        have nbm : ∀ g, cl.ownBlock = some g → g ≠ bm := ncm
        have hC := (hC.same (shown_same hw77)).kept kw78 fun g hg hb => nbm g hg hb
        have hJ2w := hJ2 w77 w78 _ (hJ2 w76 w77 _ hJ2w (shown_same hw77) (fun b hb => hb.elim)) kw78 (fun b hb => by subst hb; exact oM _ rfl)
        obtain ⟨ca, cc, hcl⟩ := hC.slice
        subst hcl
        refine den_leafA _ rfl (fun w79 hw79 => ?_)
        refine ⟨(⟨ca, D1.length, cc⟩, ⟨some ⟨bm, 0, none⟩, m, m⟩), rfl, ⟨hC.kept hw79.kept fun g hg hb => ?_, hM.kept hw79.kept fun g hg hb => ?_, oCw, oM⟩, hJ2 w78 w79 _ hJ2w hw79.kept (fun b hb => by have e : b4 = b := (by simpa [BlkIn, nth, blkOf, vaddr] using hb); rw [← e]; exact z4)⟩
        · exact n4c g hg (by simpa [BlkIn, nth, blkOf, vaddr] using hb : b4 = g).symm
        · cases hg; exact n4m (by simpa [BlkIn, nth, blkOf, vaddr] using hb : b4 = bm)
    · skip
      refine den_blk fun ba ka _ kaW => den_norm (by simp only [List.cons_append, List.nil_append]; rfl) ?_
      have zba : w.heap.size ≤ ba := kaW
      have nM : bm ≠ ba := fun e => by have := hM.lt (g := bm) rfl; omega
      refine den_callF (caps := caps1) (g := g1) rfl hf1 hg1 (fun _ b => FM b) (fun _ l w2 => ∃ s : Sl, l = [s.v] ∧ Old lo w2 s D1 ∧ J1 w2) (fun w80 hw80 b hb _ => ⟨fun _ => .inl hb, fun _ => hb, fun hin => ?_, fun hx => (by cases hx)⟩) (fun w80 hw80 => ?_) (fun w80 l w81 hw80 hfl hR kw81 => ?_)
      · have := nFM b hb
        simp [BlkIn, nth, blkOf, vaddr] at hin
        omega
      · refine (h1 w80 (hJ0 w61 w80 _ hJw (shown_same hw80) (fun b hb => hb.elim))).mono (fun v w' ⟨s, hv, ho, hj⟩ _ => ⟨[s.v], ⟨⟨_, _, _, rfl⟩, trivial⟩, hv, s, rfl, ho, hj⟩) (fun _ _ h => h)
      have zzw81 : w61.heap.size ≤ w81.heap.size := Nat.le_trans (shown_same hw80).size kw81.size
      have zW : w.heap.size ≤ w81.heap.size := Nat.le_trans zW zzw81
      have hM := (hM.same (shown_same hw80)).kept kw81 fun g hg hb => nFM g hb (oM g hg)
      obtain ⟨s1, rfl, hO, hJw⟩ := hR
      refine den_norm (by simp only [List.cons_append, List.nil_append]; rfl) ?_
      have hMold := hM
      refine den_callR (fun w2 l w3 => ∃ v, l = [v] ∧ Mine byteE 5 w3 v D1 ∧ ∀ g, v.ownBlock = some g → w2.heap.size ≤ g) (fun w82 hw82 => ?_) (fun w82 l w83 hw82 hfl hR kw83 => ?_)
      · refine (c45 _ D1 w82 (hO.same (shown_same hw82)).1.1 hD1).mono fun v w' ⟨q1, q2, _⟩ => ?_
        obtain ⟨va, vc, hv⟩ := q1.slice
        exact ⟨[v], ⟨⟨_, _, _, hv⟩, trivial⟩, rfl, v, rfl, q1, q2⟩
      obtain ⟨cl, rfl, hC, oC⟩ := hR
      have zzw83 : w81.heap.size ≤ w83.heap.size := Nat.le_trans (shown_same hw82).size kw83.size
      have zW : w.heap.size ≤ w83.heap.size := Nat.le_trans zW zzw83
      have hJw := hJ1 w82 w83 _ (hJ1 w81 w82 _ hJw (shown_same hw82) (fun b hb => hb.elim)) kw83 (fun b hb => hb.elim)
      have hO := (hO.same (shown_same hw82)).same kw83
      have hM := (hM.same (shown_same hw82)).same kw83
      have zC : w81.heap.size ≤ w82.heap.size := (shown_same hw82).size
      have oCw : ∀ g, cl.ownBlock = some g → w.heap.size ≤ g := fun g hg => by have := oC g hg; have zz := hw82.base.size; exact Nat.le_trans zz this
      have nC : ∀ g, cl.ownBlock = some g → g ≠ ba := fun g hg e => by have q1 := oC g hg; have q2 : ba < w82.heap.size := hw82.lt (i := 9) (by simp [keys]) rfl; omega
      refine den_norm (by simp only [List.cons_append, List.nil_append]; rfl) ?_
      have n4c : ∀ g, cl.ownBlock = some g → g ≠ b4 := fun g hg e => by have q1 := oC g hg; have q2 : b4 < w82.heap.size := hw82.lt (i := 4) (by simp [keys]) rfl; omega
      have ncm : ∀ g, cl.ownBlock = some g → g ≠ bm := fun g hg e => by have q1 := oC g hg; have q2 := hMold.lt (g := bm) rfl; omega
      intro w84 hw84
      refine ⟨fun b => FM b ∨ w.heap.size ≤ b, fun b hb => by simp [BlkIn, nth, blkOf, vaddr] at hb; rcases hb with hb | hb <;> (subst hb; exact .inr (by first | exact zba | exact z4)), ?_⟩
      have hJw := hJ1 w83 w84 _ hJw hw84.kept (fun b hb => by have e : ba = b := (by simpa [BlkIn, nth, blkOf, vaddr] using hb); rw [← e]; exact zba)
      have hC := hC.kept hw84.kept fun g hg hb => nC g hg (by simpa [BlkIn, nth, blkOf, vaddr] using hb : ba = g).symm
      have hM := hM.kept hw84.kept fun g hg hb => by cases hg; exact nM (by simpa [BlkIn, nth, blkOf, vaddr] using hb : ba = bm).symm
      have zW : w.heap.size ≤ w84.heap.size := Nat.le_trans zW hw84.kept.size
      have f0 := hw84.base
      have pk : ∀ (p : Nat) (l : List Value), PtsTo w (pt p) l → (p = p1 ∨ p = p2 ∨ p = p3) → PtsTo w84 (pt p) l := fun p l hp he => hp.kept f0 fun b hb hb2 => by have e : p = b := Option.some.inj hb; have q := hFM _ hb2; omega
      refine den_ldpD (i := 3) [f2] [f2] ⟨by rw [hf2]; rfl, trivial⟩ (whole _) (pk _ _ hp3 (.inr (.inr rfl))) (fun b hb => by cases hb; exact Xno p3 l3 (.inr (.inr rfl))) (den_norm (by simp only [List.cons_append, List.nil_append]; rfl) ?_)
      refine den_ldpD (i := 2) [.int .i64 mv] _ ⟨⟨_, rfl⟩, trivial⟩ z5s (pk _ _ hp2 (.inr (.inl rfl))) (fun b hb => by cases hb; exact Xno p2 l2 (.inr (.inl rfl))) (den_norm (by simp only [List.cons_append, List.nil_append]; rfl) ?_)
      refine den_callF (caps := caps2) (g := g2) rfl hf2 hg2 (fun _ b => FM b) (fun _ l w2 => ∃ s : Sl, l = [s.v] ∧ Old lo w2 s D2 ∧ J2 w2) (fun w85 hw85 b hb _ => ⟨fun _ => .inl hb, fun _ => hb, fun hin => ?_, fun hx => (by cases hx)⟩) (fun w85 hw85 => ?_) (fun w85 l w86 hw85 hfl hR kw86 => ?_)
      · have := nFM b hb
        simp [BlkIn, nth, blkOf, vaddr] at hin
        omega
      · refine (h2 w85 (hJ1 w84 w85 _ hJw (shown_same hw85) (fun b hb => hb.elim))).mono (fun v w' ⟨s, hv, ho, hj⟩ _ => ⟨[s.v], ⟨⟨_, _, _, rfl⟩, trivial⟩, hv, s, rfl, ho, hj⟩) (fun _ _ h => h)
      obtain ⟨s2, rfl, hO2, hJ2w⟩ := hR
      have hC := (hC.same (shown_same hw85)).kept kw86 fun g hg hb => nFM g hb (oCw g hg)
      have hM := (hM.same (shown_same hw85)).kept kw86 fun g hg hb => nFM g hb (oM g hg)
      refine den_norm (by simp only [List.cons_append, List.nil_append]; rfl) (den_copyM (T := 5) rfl u40 st5 bm m m (List.replicate m (0 : Int)) (.slice (some ⟨bm, 0, none⟩) m m) 0 m m rfl (.inl rfl) (by omega) s2.v D2 rfl (fun w87 hw87 => ⟨hM.same (shown_same hw87), (hO2.same (shown_same hw87)).1.1⟩) (fun w87 hw87 => ?_) (fun _ => rfl) (fun w87 w88 hw87 hM kw88 => den_norm (by simp only [List.cons_append, List.nil_append]; rfl) ?_))
      · exact ⟨fun _ => .inr (oM bm rfl), fun hlt => absurd (show bm < w.heap.size from hlt) (Nat.not_lt.2 (oM bm rfl)), fun hin => (by simp [BlkIn, nth, blkOf, vaddr] at hin; rcases hin with hin | hin <;> first | exact nM hin.symm | exact n4m hin), fun hx => (by cases hx)⟩
      rw [pad_copy hD2] at hM
      have nbm : ∀ g, cl.ownBlock = some g → g ≠ bm := ncm
      have hC := (hC.same (shown_same hw87)).kept kw88 fun g hg hb => nbm g hg hb
      have hJ2w := hJ2 w87 w88 _ (hJ2 w86 w87 _ hJ2w (shown_same hw87) (fun b hb => hb.elim)) kw88 (fun b hb => by subst hb; exact oM _ rfl)
      obtain ⟨ca, cc, hcl⟩ := hC.slice
      subst hcl
      refine den_leafA _ rfl (fun w89 hw89 => ?_)
      refine ⟨(⟨ca, D1.length, cc⟩, ⟨some ⟨bm, 0, none⟩, m, m⟩), rfl, ⟨hC.kept hw89.kept fun g hg hb => ?_, hM.kept hw89.kept fun g hg hb => ?_, oCw, oM⟩, hJ2 w88 w89 _ hJ2w hw89.kept (fun b hb => by have e : b4 = b := (by simpa [BlkIn, nth, blkOf, vaddr] using hb); rw [← e]; exact z4)⟩
      · exact n4c g hg (by simpa [BlkIn, nth, blkOf, vaddr] using hb : b4 = g).symm
      · cases hg; exact n4m (by simpa [BlkIn, nth, blkOf, vaddr] using hb : b4 = bm)
  · skip
    refine den_blk fun ba ka _ kaW => den_norm (by simp only [List.cons_append, List.nil_append]; rfl) ?_
    have zba : w.heap.size ≤ ba := kaW
    refine den_both ?_ ?_
    · skip
      refine den_callF (caps := caps1) (g := g1) rfl hf1 hg1 (fun _ b => FM b) (fun _ l w2 => ∃ s : Sl, l = [s.v] ∧ Old lo w2 s D1 ∧ J1 w2) (fun w90 hw90 b hb _ => ⟨fun _ => .inl hb, fun _ => hb, fun hin => ?_, fun hx => (by cases hx)⟩) (fun w90 hw90 => ?_) (fun w90 l w91 hw90 hfl hR kw91 => ?_)
      · have := nFM b hb
        simp [BlkIn, nth, blkOf, vaddr] at hin
        omega
      · refine (h1 w90 (hJ0 w1 w90 _ hJw (shown_same hw90) (fun b hb => hb.elim))).mono (fun v w' ⟨s, hv, ho, hj⟩ _ => ⟨[s.v], ⟨⟨_, _, _, rfl⟩, trivial⟩, hv, s, rfl, ho, hj⟩) (fun _ _ h => h)
      have zzw91 : w1.heap.size ≤ w91.heap.size := Nat.le_trans (shown_same hw90).size kw91.size
      have zW : w.heap.size ≤ w91.heap.size := Nat.le_trans zW zzw91
      obtain ⟨s1, rfl, hO, hJw⟩ := hR
      refine den_norm (by simp only [List.cons_append, List.nil_append]; rfl) ?_
      refine den_both ?_ ?_
      · skip
        refine den_callR (fun w2 l w3 => ∃ v, l = [v] ∧ Mine byteE 5 w3 v D1 ∧ ∀ g, v.ownBlock = some g → w2.heap.size ≤ g) (fun w92 hw92 => ?_) (fun w92 l w93 hw92 hfl hR kw93 => ?_)
        · refine (c45 _ D1 w92 (hO.same (shown_same hw92)).1.1 hD1).mono fun v w' ⟨q1, q2, _⟩ => ?_
          obtain ⟨va, vc, hv⟩ := q1.slice
          exact ⟨[v], ⟨⟨_, _, _, hv⟩, trivial⟩, rfl, v, rfl, q1, q2⟩
        obtain ⟨cl, rfl, hC, oC⟩ := hR
        have zzw93 : w91.heap.size ≤ w93.heap.size := Nat.le_trans (shown_same hw92).size kw93.size
        have zW : w.heap.size ≤ w93.heap.size := Nat.le_trans zW zzw93
        have hJw := hJ1 w92 w93 _ (hJ1 w91 w92 _ hJw (shown_same hw92) (fun b hb => hb.elim)) kw93 (fun b hb => hb.elim)
        have hO := (hO.same (shown_same hw92)).same kw93
        have zC : w91.heap.size ≤ w92.heap.size := (shown_same hw92).size
        have oCw : ∀ g, cl.ownBlock = some g → w.heap.size ≤ g := fun g hg => by have := oC g hg; have zz := hw92.base.size; exact Nat.le_trans zz this
        have nC : ∀ g, cl.ownBlock = some g → g ≠ ba := fun g hg e => by have q1 := oC g hg; have q2 : ba < w92.heap.size := hw92.lt (i := 8) (by simp [keys]) rfl; omega
        refine den_norm (by simp only [List.cons_append, List.nil_append]; rfl) ?_
        have n4c : ∀ g, cl.ownBlock = some g → g ≠ b4 := fun g hg e => by have q1 := oC g hg; have q2 : b4 < w92.heap.size := hw92.lt (i := 4) (by simp [keys]) rfl; omega
        have hCold := hC
        refine den_make (n := m) u40 i5 z5 rfl rfl hb5 (by omega) (fun v => rfl) (fun w94 bm w95 hw94 hbm hhm kw95 => ?_)
        have hM : Mine byteE 5 w95 (.slice (some ⟨bm, 0, none⟩) m m) (List.replicate m (0 : Int)) := mine_zeros (by omega) hhm
        have zzw95 : w93.heap.size ≤ w95.heap.size := Nat.le_trans (shown_same hw94).size kw95.size
        have zW : w.heap.size ≤ w95.heap.size := Nat.le_trans zW zzw95
        have hJw := hJ1 w94 w95 _ (hJ1 w93 w94 _ hJw (shown_same hw94) (fun b hb => hb.elim)) kw95 (fun b hb => hb.elim)
        have hO := (hO.same (shown_same hw94)).same kw95
        have hC := (hC.same (shown_same hw94)).same kw95
        have oM : ∀ g, (Value.slice (some ⟨bm, 0, none⟩) m m).ownBlock = some g → w.heap.size ≤ g := fun g hg => by cases hg; exact Nat.le_trans hw94.base.size hbm
        have zbm : w93.heap.size ≤ bm := Nat.le_trans (shown_same hw94).size hbm
        have n4m : b4 ≠ bm := fun e => by have q2 : b4 < w94.heap.size := hw94.lt (i := 4) (by simp [keys]) rfl; omega
        have nM : bm ≠ ba := fun e => by have q2 : ba < w94.heap.size := hw94.lt (i := 8) (by simp [keys]) rfl; omega
        refine den_norm (by simp only [List.cons_append, List.nil_append]; rfl) ?_
        have ncm : ∀ g, cl.ownBlock = some g → g ≠ bm := fun g hg e => by have q1 := hCold.lt hg; omega
        intro w96 hw96
        refine ⟨fun b => FM b ∨ w.heap.size ≤ b, fun b hb => by simp [BlkIn, nth, blkOf, vaddr] at hb; rcases hb with hb | hb <;> (subst hb; exact .inr (by first | exact zba | exact z4)), ?_⟩
        have hJw := hJ1 w95 w96 _ hJw hw96.kept (fun b hb => by have e : ba = b := (by simpa [BlkIn, nth, blkOf, vaddr] using hb); rw [← e]; exact zba)
        have hC := hC.kept hw96.kept fun g hg hb => nC g hg (by simpa [BlkIn, nth, blkOf, vaddr] using hb : ba = g).symm
        have hM := hM.kept hw96.kept fun g hg hb => by cases hg; exact nM (by simpa [BlkIn, nth, blkOf, vaddr] using hb : ba = bm).symm
        have zW : w.heap.size ≤ w96.heap.size := Nat.le_trans zW hw96.kept.size
        have f0 := hw96.base
        have pk : ∀ (p : Nat) (l : List Value), PtsTo w (pt p) l → (p = p1 ∨ p = p2 ∨ p = p3) → PtsTo w96 (pt p) l := fun p l hp he => hp.kept f0 fun b hb hb2 => by have e : p = b := Option.some.inj hb; have q := hFM _ hb2; omega
        refine den_ldpD (i := 3) [f2] [f2] ⟨by rw [hf2]; rfl, trivial⟩ (whole _) (pk _ _ hp3 (.inr (.inr rfl))) (fun b hb => by cases hb; exact Xno p3 l3 (.inr (.inr rfl))) (den_norm (by simp only [List.cons_append, List.nil_append]; rfl) ?_)
        refine den_ldpD (i := 2) [.int .i64 mv] _ ⟨⟨_, rfl⟩, trivial⟩ z5s (pk _ _ hp2 (.inr (.inl rfl))) (fun b hb => by cases hb; exact Xno p2 l2 (.inr (.inl rfl))) (den_norm (by simp only [List.cons_append, List.nil_append]; rfl) ?_)
        refine den_callF (caps := caps2) (g := g2) rfl hf2 hg2 (fun _ b => FM b) (fun _ l w2 => ∃ s : Sl, l = [s.v] ∧ Old lo w2 s D2 ∧ J2 w2) (fun w97 hw97 b hb _ => ⟨fun _ => .inl hb, fun _ => hb, fun hin => ?_, fun hx => (by cases hx)⟩) (fun w97 hw97 => ?_) (fun w97 l w98 hw97 hfl hR kw98 => ?_)
        · have := nFM b hb
          simp [BlkIn, nth, blkOf, vaddr] at hin
          omega
        · refine (h2 w97 (hJ1 w96 w97 _ hJw (shown_same hw97) (fun b hb => hb.elim))).mono (fun v w' ⟨s, hv, ho, hj⟩ _ => ⟨[s.v], ⟨⟨_, _, _, rfl⟩, trivial⟩, hv, s, rfl, ho, hj⟩) (fun _ _ h => h)
        obtain ⟨s2, rfl, hO2, hJ2w⟩ := hR
        have hC := (hC.same (shown_same hw97)).kept kw98 fun g hg hb => nFM g hb (oCw g hg)
        have hM := (hM.same (shown_same hw97)).kept kw98 fun g hg hb => nFM g hb (oM g hg)
        refine den_norm (by simp only [List.cons_append, List.nil_append]; rfl) (den_copyM (T := 5) rfl u40 st5 bm m m (List.replicate m (0 : Int)) (.slice (some ⟨bm, 0, none⟩) m m) 0 m m rfl (.inl rfl) (by omega) s2.v D2 rfl (fun w99 hw99 => ⟨hM.same (shown_same hw99), (hO2.same (shown_same hw99)).1.1⟩) (fun w99 hw99 => ?_) (fun _ => rfl) (fun w99 w100 hw99 hM kw100 => den_norm (by simp only [List.cons_append, List.nil_append]; rfl) ?_))
        · exact ⟨fun _ => .inr (oM bm rfl), fun hlt => absurd (show bm < w.heap.size from hlt) (Nat.not_lt.2 (oM bm rfl)), fun hin => (by simp [BlkIn, nth, blkOf, vaddr] at hin; rcases hin with hin | hin <;> first | exact nM hin.symm | exact n4m hin), fun hx => (by cases hx)⟩
        rw [pad_copy hD2] at hM
        have nbm : ∀ g, cl.ownBlock = some g → g ≠ bm := ncm
        have hC := (hC.same (shown_same hw99)).kept kw100 fun g hg hb => nbm g hg hb
        have hJ2w := hJ2 w99 w100 _ (hJ2 w98 w99 _ hJ2w (shown_same hw99) (fun b hb => hb.elim)) kw100 (fun b hb => by subst hb; exact oM _ rfl)
        obtain ⟨ca, cc, hcl⟩ := hC.slice
        subst hcl
        refine den_leafA _ rfl (fun w101 hw101 => ?_)
        refine ⟨(⟨ca, D1.length, cc⟩, ⟨some ⟨bm, 0, none⟩, m, m⟩), rfl, ⟨hC.kept hw101.kept fun g hg hb => ?_, hM.kept hw101.kept fun g hg hb => ?_, oCw, oM⟩, hJ2 w100 w101 _ hJ2w hw101.kept (fun b hb => by have e : b4 = b := (by simpa [BlkIn, nth, blkOf, vaddr] using hb); rw [← e]; exact z4)⟩
        · exact n4c g hg (by simpa [BlkIn, nth, blkOf, vaddr] using hb : b4 = g).symm
        · cases hg; exact n4m (by simpa [BlkIn, nth, blkOf, vaddr] using hb : b4 = bm)
      · skip
        refine den_make (n := m) u40 i5 z5 rfl rfl hb5 (by omega) (fun v => rfl) (fun w102 bm w103 hw102 hbm hhm kw103 => ?_)
        have hM : Mine byteE 5 w103 (.slice (some ⟨bm, 0, none⟩) m m) (List.replicate m (0 : Int)) := mine_zeros (by omega) hhm
        have zzw103 : w91.heap.size ≤ w103.heap.size := Nat.le_trans (shown_same hw102).size kw103.size
        have zW : w.heap.size ≤ w103.heap.size := Nat.le_trans zW zzw103
        have hJw := hJ1 w102 w103 _ (hJ1 w91 w102 _ hJw (shown_same hw102) (fun b hb => hb.elim)) kw103 (fun b hb => hb.elim)
        have hO := (hO.same (shown_same hw102)).same kw103
        have oM : ∀ g, (Value.slice (some ⟨bm, 0, none⟩) m m).ownBlock = some g → w.heap.size ≤ g := fun g hg => by cases hg; exact Nat.le_trans hw102.base.size hbm
        have zbm : w91.heap.size ≤ bm := Nat.le_trans (shown_same hw102).size hbm
        have n4m : b4 ≠ bm := fun e => by have q2 : b4 < w102.heap.size := hw102.lt (i := 4) (by simp [keys]) rfl; omega
        have nM : bm ≠ ba := fun e => by have q2 : ba < w102.heap.size := hw102.lt (i := 8) (by simp [keys]) rfl; omega
        refine den_norm (by simp only [List.cons_append, List.nil_append]; rfl) ?_
        have hMold := hM
        refine den_callR (fun w2 l w3 => ∃ v, l = [v] ∧ Mine byteE 5 w3 v D1 ∧ ∀ g, v.ownBlock = some g → w2.heap.size ≤ g) (fun w104 hw104 => ?_) (fun w104 l w105 hw104 hfl hR kw105 => ?_)
        · refine (c45 _ D1 w104 (hO.same (shown_same hw104)).1.1 hD1).mono fun v w' ⟨q1, q2, _⟩ => ?_
          obtain ⟨va, vc, hv⟩ := q1.slice
          exact ⟨[v], ⟨⟨_, _, _, hv⟩, trivial⟩, rfl, v, rfl, q1, q2⟩
        obtain ⟨cl, rfl, hC, oC⟩ := hR
        have zzw105 : w103.heap.size ≤ w105.heap.size := Nat.le_trans (shown_same hw104).size kw105.size
        have zW : w.heap.size ≤ w105.heap.size := Nat.le_trans zW zzw105
        have hJw := hJ1 w104 w105 _ (hJ1 w103 w104 _ hJw (shown_same hw104) (fun b hb => hb.elim)) kw105 (fun b hb => hb.elim)
        have hO := (hO.same (shown_same hw104)).same kw105
        have hM := (hM.same (shown_same hw104)).same kw105
        have zC : w103.heap.size ≤ w104.heap.size := (shown_same hw104).size
        have oCw : ∀ g, cl.ownBlock = some g → w.heap.size ≤ g := fun g hg => by have := oC g hg; have zz := hw104.base.size; exact Nat.le_trans zz this
        have nC : ∀ g, cl.ownBlock = some g → g ≠ ba := fun g hg e => by have q1 := oC g hg; have q2 : ba < w104.heap.size := hw104.lt (i := 8) (by simp [keys]) rfl; omega
        refine den_norm (by simp only [List.cons_append, List.nil_append]; rfl) ?_
        have n4c : ∀ g, cl.ownBlock = some g → g ≠ b4 := fun g hg e => by have q1 := oC g hg; have q2 : b4 < w104.heap.size := hw104.lt (i := 4) (by simp [keys]) rfl; omega
        have ncm : ∀ g, cl.ownBlock = some g → g ≠ bm := fun g hg e => by have q1 := oC g hg; have q2 := hMold.lt (g := bm) rfl; omega
        intro w106 hw106
        refine ⟨fun b => FM b ∨ w.heap.size ≤ b, fun b hb => by simp [BlkIn, nth, blkOf, vaddr] at hb; rcases hb with hb | hb <;> (subst hb; exact .inr (by first | exact zba | exact z4)), ?_⟩
        have hJw := hJ1 w105 w106 _ hJw hw106.kept (fun b hb => by have e : ba = b := (by simpa [BlkIn, nth, blkOf, vaddr] using hb); rw [← e]; exact zba)
        have hC := hC.kept hw106.kept fun g hg hb => nC g hg (by simpa [BlkIn, nth, blkOf, vaddr] using hb : ba = g).symm
        have hM := hM.kept hw106.kept fun g hg hb => by cases hg; exact nM (by simpa [BlkIn, nth, blkOf, vaddr] using hb : ba = bm).symm
        have zW : w.heap.size ≤ w106.heap.size := Nat.le_trans zW hw106.kept.size
        have f0 := hw106.base
        have pk : ∀ (p : Nat) (l : List Value), PtsTo w (pt p) l → (p = p1 ∨ p = p2 ∨ p = p3) → PtsTo w106 (pt p) l := fun p l hp he => hp.kept f0 fun b hb hb2 => by have e : p = b := Option.some.inj hb; have q := hFM _ hb2; omega
        refine den_ldpD (i := 3) [f2] [f2] ⟨by rw [hf2]; rfl, trivial⟩ (whole _) (pk _ _ hp3 (.inr (.inr rfl))) (fun b hb => by cases hb; exact Xno p3 l3 (.inr (.inr rfl))) (den_norm (by simp only [List.cons_append, List.nil_append]; rfl) ?_)
        refine den_ldpD (i := 2) [.int .i64 mv] _ ⟨⟨_, rfl⟩, trivial⟩ z5s (pk _ _ hp2 (.inr (.inl rfl))) (fun b hb => by cases hb; exact Xno p2 l2 (.inr (.inl rfl))) (den_norm (by simp only [List.cons_append, List.nil_append]; rfl) ?_)
        refine den_callF (caps := caps2) (g := g2) rfl hf2 hg2 (fun _ b => FM b) (fun _ l w2 => ∃ s : Sl, l = [s.v] ∧ Old lo w2 s D2 ∧ J2 w2) (fun w107 hw107 b hb _ => ⟨fun _ => .inl hb, fun _ => hb, fun hin => ?_, fun hx => (by cases hx)⟩) (fun w107 hw107 => ?_) (fun w107 l w108 hw107 hfl hR kw108 => ?_)
        · have := nFM b hb
          simp [BlkIn, nth, blkOf, vaddr] at hin
          omega
        · refine (h2 w107 (hJ1 w106 w107 _ hJw (shown_same hw107) (fun b hb => hb.elim))).mono (fun v w' ⟨s, hv, ho, hj⟩ _ => ⟨[s.v], ⟨⟨_, _, _, rfl⟩, trivial⟩, hv, s, rfl, ho, hj⟩) (fun _ _ h => h)
        obtain ⟨s2, rfl, hO2, hJ2w⟩ := hR
        have hC := (hC.same (shown_same hw107)).kept kw108 fun g hg hb => nFM g hb (oCw g hg)
        have hM := (hM.same (shown_same hw107)).kept kw108 fun g hg hb => nFM g hb (oM g hg)
        refine den_norm (by simp only [List.cons_append, List.nil_append]; rfl) (den_copyM (T := 5) rfl u40 st5 bm m m (List.replicate m (0 : Int)) (.slice (some ⟨bm, 0, none⟩) m m) 0 m m rfl (.inl rfl) (by omega) s2.v D2 rfl (fun w109 hw109 => ⟨hM.same (shown_same hw109), (hO2.same (shown_same hw109)).1.1⟩) (fun w109 hw109 => ?_) (fun _ => rfl) (fun w109 w110 hw109 hM kw110 => den_norm (by simp only [List.cons_append, List.nil_append]; rfl) ?_))
        · exact ⟨fun _ => .inr (oM bm rfl), fun hlt => absurd (show bm < w.heap.size from hlt) (Nat.not_lt.2 (oM bm rfl)), fun hin => (by simp [BlkIn, nth, blkOf, vaddr] at hin; rcases hin with hin | hin <;> first | exact nM hin.symm | exact n4m hin), fun hx => (by cases hx)⟩
        rw [pad_copy hD2] at hM
        have nbm : ∀ g, cl.ownBlock = some g → g ≠ bm := ncm
        have hC := (hC.same (shown_same hw109)).kept kw110 fun g hg hb => nbm g hg hb
        have hJ2w := hJ2 w109 w110 _ (hJ2 w108 w109 _ hJ2w (shown_same hw109) (fun b hb => hb.elim)) kw110 (fun b hb => by subst hb; exact oM _ rfl)
        obtain ⟨ca, cc, hcl⟩ := hC.slice
        subst hcl
        refine den_leafA _ rfl (fun w111 hw111 => ?_)
        refine ⟨(⟨ca, D1.length, cc⟩, ⟨some ⟨bm, 0, none⟩, m, m⟩), rfl, ⟨hC.kept hw111.kept fun g hg hb => ?_, hM.kept hw111.kept fun g hg hb => ?_, oCw, oM⟩, hJ2 w110 w111 _ hJ2w hw111.kept (fun b hb => by have e : b4 = b := (by simpa [BlkIn, nth, blkOf, vaddr] using hb); rw [← e]; exact z4)⟩
        · exact n4c g hg (by simpa [BlkIn, nth, blkOf, vaddr] using hb : b4 = g).symm
        · cases hg; exact n4m (by simpa [BlkIn, nth, blkOf, vaddr] using hb : b4 = bm)
    · skip
      refine den_make (n := m) u40 i5 z5 rfl rfl hb5 (by omega) (fun v => rfl) (fun w112 bm w113 hw112 hbm hhm kw113 => ?_)
      have hM : Mine byteE 5 w113 (.slice (some ⟨bm, 0, none⟩) m m) (List.replicate m (0 : Int)) := mine_zeros (by omega) hhm
      have zzw113 : w1.heap.size ≤ w113.heap.size := Nat.le_trans (shown_same hw112).size kw113.size
      have zW : w.heap.size ≤ w113.heap.size := Nat.le_trans zW zzw113
      have hJw := hJ0 w112 w113 _ (hJ0 w1 w112 _ hJw (shown_same hw112) (fun b hb => hb.elim)) kw113 (fun b hb => hb.elim)
      have oM : ∀ g, (Value.slice (some ⟨bm, 0, none⟩) m m).ownBlock = some g → w.heap.size ≤ g := fun g hg => by cases hg; exact Nat.le_trans hw112.base.size hbm
      have zbm : w1.heap.size ≤ bm := Nat.le_trans (shown_same hw112).size hbm
      have n4m : b4 ≠ bm := fun e => by have q2 : b4 < w112.heap.size := hw112.lt (i := 4) (by simp [keys]) rfl; omega
      have nM : bm ≠ ba := fun e => by have q2 : ba < w112.heap.size := hw112.lt (i := 8) (by simp [keys]) rfl; omega
      refine den_norm (by simp only [List.cons_append, List.nil_append]; rfl) ?_
      refine den_callF (caps := caps1) (g := g1) rfl hf1 hg1 (fun _ b => FM b) (fun _ l w2 => ∃ s : Sl, l = [s.v] ∧ Old lo w2 s D1 ∧ J1 w2) (fun w114 hw114 b hb _ => ⟨fun _ => .inl hb, fun _ => hb, fun hin => ?_, fun hx => (by cases hx)⟩) (fun w114 hw114 => ?_) (fun w114 l w115 hw114 hfl hR kw115 => ?_)
      · have := nFM b hb
        simp [BlkIn, nth, blkOf, vaddr] at hin
        omega
      · refine (h1 w114 (hJ0 w113 w114 _ hJw (shown_same hw114) (fun b hb => hb.elim))).mono (fun v w' ⟨s, hv, ho, hj⟩ _ => ⟨[s.v], ⟨⟨_, _, _, rfl⟩, trivial⟩, hv, s, rfl, ho, hj⟩) (fun _ _ h => h)
      have zzw115 : w113.heap.size ≤ w115.heap.size := Nat.le_trans (shown_same hw114).size kw115.size
      have zW : w.heap.size ≤ w115.heap.size := Nat.le_trans zW zzw115
      have hM := (hM.same (shown_same hw114)).kept kw115 fun g hg hb => nFM g hb (oM g hg)
      obtain ⟨s1, rfl, hO, hJw⟩ := hR
      refine den_norm (by simp only [List.cons_append, List.nil_append]; rfl) ?_
      have hMold := hM
      refine den_callR (fun w2 l w3 => ∃ v, l = [v] ∧ Mine byteE 5 w3 v D1 ∧ ∀ g, v.ownBlock = some g → w2.heap.size ≤ g) (fun w116 hw116 => ?_) (fun w116 l w117 hw116 hfl hR kw117 => ?_)
      · refine (c45 _ D1 w116 (hO.same (shown_same hw116)).1.1 hD1).mono fun v w' ⟨q1, q2, _⟩ => ?_
        obtain ⟨va, vc, hv⟩ := q1.slice
        exact ⟨[v], ⟨⟨_, _, _, hv⟩, trivial⟩, rfl, v, rfl, q1, q2⟩
      obtain ⟨cl, rfl, hC, oC⟩ := hR
      have zzw117 : w115.heap.size ≤ w117.heap.size := Nat.le_trans (shown_same hw116).size kw117.size
      have zW : w.heap.size ≤ w117.heap.size := Nat.le_trans zW zzw117
      have hJw := hJ1 w116 w117 _ (hJ1 w115 w116 _ hJw (shown_same hw116) (fun b hb => hb.elim)) kw117 (fun b hb => hb.elim)
      have hO := (hO.same (shown_same hw116)).same kw117
      have hM := (hM.same (shown_same hw116)).same kw117
      have zC : w115.heap.size ≤ w116.heap.size := (shown_same hw116).size
      have oCw : ∀ g, cl.ownBlock = some g → w.heap.size ≤ g := fun g hg => by have := oC g hg; have zz := hw116.base.size; exact Nat.le_trans zz this
      have nC : ∀ g, cl.ownBlock = some g → g ≠ ba := fun g hg e => by have q1 := oC g hg; have q2 : ba < w116.heap.size := hw116.lt (i := 8) (by simp [keys]) rfl; omega
      refine den_norm (by simp only [List.cons_append, List.nil_append]; rfl) ?_
      have n4c : ∀ g, cl.ownBlock = some g → g ≠ b4 := fun g hg e => by have q1 := oC g hg; have q2 : b4 < w116.heap.size := hw116.lt (i := 4) (by simp [keys]) rfl; omega
      have ncm : ∀ g, cl.ownBlock = some g → g ≠ bm := fun g hg e => by have q1 := oC g hg; have q2 := hMold.lt (g := bm) rfl; omega
      intro w118 hw118
      refine ⟨fun b => FM b ∨ w.heap.size ≤ b, fun b hb => by simp [BlkIn, nth, blkOf, vaddr] at hb; rcases hb with hb | hb <;> (subst hb; exact .inr (by first | exact zba | exact z4)), ?_⟩
      have hJw := hJ1 w117 w118 _ hJw hw118.kept (fun b hb => by have e : ba = b := (by simpa [BlkIn, nth, blkOf, vaddr] using hb); rw [← e]; exact zba)
      have hC := hC.kept hw118.kept fun g hg hb => nC g hg (by simpa [BlkIn, nth, blkOf, vaddr] using hb : ba = g).symm
      have hM := hM.kept hw118.kept fun g hg hb => by cases hg; exact nM (by simpa [BlkIn, nth, blkOf, vaddr] using hb : ba = bm).symm
      have zW : w.heap.size ≤ w118.heap.size := Nat.le_trans zW hw118.kept.size
      have f0 := hw118.base
      have pk : ∀ (p : Nat) (l : List Value), PtsTo w (pt p) l → (p = p1 ∨ p = p2 ∨ p = p3) → PtsTo w118 (pt p) l := fun p l hp he => hp.kept f0 fun b hb hb2 => by have e : p = b := Option.some.inj hb; have q := hFM _ hb2; omega
      refine den_ldpD (i := 3) [f2] [f2] ⟨by rw [hf2]; rfl, trivial⟩ (whole _) (pk _ _ hp3 (.inr (.inr rfl))) (fun b hb => by cases hb; exact Xno p3 l3 (.inr (.inr rfl))) (den_norm (by simp only [List.cons_append, List.nil_append]; rfl) ?_)
      refine den_ldpD (i := 2) [.int .i64 mv] _ ⟨⟨_, rfl⟩, trivial⟩ z5s (pk _ _ hp2 (.inr (.inl rfl))) (fun b hb => by cases hb; exact Xno p2 l2 (.inr (.inl rfl))) (den_norm (by simp only [List.cons_append, List.nil_append]; rfl) ?_)
      refine den_callF (caps := caps2) (g := g2) rfl hf2 hg2 (fun _ b => FM b) (fun _ l w2 => ∃ s : Sl, l = [s.v] ∧ Old lo w2 s D2 ∧ J2 w2) (fun w119 hw119 b hb _ => ⟨fun _ => .inl hb, fun _ => hb, fun hin => ?_, fun hx => (by cases hx)⟩) (fun w119 hw119 => ?_) (fun w119 l w120 hw119 hfl hR kw120 => ?_)
      · have := nFM b hb
        simp [BlkIn, nth, blkOf, vaddr] at hin
        omega
      · refine (h2 w119 (hJ1 w118 w119 _ hJw (shown_same hw119) (fun b hb => hb.elim))).mono (fun v w' ⟨s, hv, ho, hj⟩ _ => ⟨[s.v], ⟨⟨_, _, _, rfl⟩, trivial⟩, hv, s, rfl, ho, hj⟩) (fun _ _ h => h)
      obtain ⟨s2, rfl, hO2, hJ2w⟩ := hR
      have hC := (hC.same (shown_same hw119)).kept kw120 fun g hg hb => nFM g hb (oCw g hg)
      have hM := (hM.same (shown_same hw119)).kept kw120 fun g hg hb => nFM g hb (oM g hg)
      refine den_norm (by simp only [List.cons_append, List.nil_append]; rfl) (den_copyM (T := 5) rfl u40 st5 bm m m (List.replicate m (0 : Int)) (.slice (some ⟨bm, 0, none⟩) m m) 0 m m rfl (.inl rfl) (by omega) s2.v D2 rfl (fun w121 hw121 => ⟨hM.same (shown_same hw121), (hO2.same (shown_same hw121)).1.1⟩) (fun w121 hw121 => ?_) (fun _ => rfl) (fun w121 w122 hw121 hM kw122 => den_norm (by simp only [List.cons_append, List.nil_append]; rfl) ?_))
      · exact ⟨fun _ => .inr (oM bm rfl), fun hlt => absurd (show bm < w.heap.size from hlt) (Nat.not_lt.2 (oM bm rfl)), fun hin => (by simp [BlkIn, nth, blkOf, vaddr] at hin; rcases hin with hin | hin <;> first | exact nM hin.symm | exact n4m hin), fun hx => (by cases hx)⟩
      rw [pad_copy hD2] at hM
      have nbm : ∀ g, cl.ownBlock = some g → g ≠ bm := ncm
      have hC := (hC.same (shown_same hw121)).kept kw122 fun g hg hb => nbm g hg hb
      have hJ2w := hJ2 w121 w122 _ (hJ2 w120 w121 _ hJ2w (shown_same hw121) (fun b hb => hb.elim)) kw122 (fun b hb => by subst hb; exact oM _ rfl)
      obtain ⟨ca, cc, hcl⟩ := hC.slice
      subst hcl
      refine den_leafA _ rfl (fun w123 hw123 => ?_)
      refine ⟨(⟨ca, D1.length, cc⟩, ⟨some ⟨bm, 0, none⟩, m, m⟩), rfl, ⟨hC.kept hw123.kept fun g hg hb => ?_, hM.kept hw123.kept fun g hg hb => ?_, oCw, oM⟩, hJ2 w122 w123 _ hJ2w hw123.kept (fun b hb => by have e : b4 = b := (by simpa [BlkIn, nth, blkOf, vaddr] using hb); rw [← e]; exact z4)⟩
      · exact n4c g hg (by simpa [BlkIn, nth, blkOf, vaddr] using hb : b4 = g).symm
      · cases hg; exact n4m (by simpa [BlkIn, nth, blkOf, vaddr] using hb : b4 = bm)
end Go.Proofs.Ytngemhmjpphpaaa

/- What Split returns. No conditions beyond those that each theorem names. -/
set_option maxRecDepth 100000
set_option maxHeartbeats 2000000
set_option linter.unusedVariables false
set_option linter.unusedSimpArgs false
namespace Go.Proofs.Ytngemhmjpphpaaa
open Go.Sx

def spE (z m : Int) (x : Bool) (t : Int) (fi : Bool) (n : Int) (act : Bool) (A B : Int) : Int :=
  if lOk z m x t fi n act then (if exE A (lenA z x (mvd m act) n) = 0 then exE B (lenB x (mvd m act) n) else exE A (lenA z x (mvd m act) n)) else 2
def pad (m : Nat) (D : List Int) : List Int := D ++ List.replicate (m - D.length) 0
/-- the block at an index of the buffers -/
def blkAt (z m mv : Nat) (x : Bool) (D M : List Int) (i : Nat) : Bl :=
  if x then ((D.drop (i * (z + mv))).take z, pad m ((D.drop (i * (z + mv) + z)).take mv)) else ((D.drop (i * z)).take z, pad m ((M.drop (i * mv)).take mv))
def splL (z m : Int) (x : Bool) (t : Int) (fi : Bool) (n : Int) (act : Bool) (D M : List Int) : List Bl :=
  if spE z m x t fi n act D.length M.length = 0 then (List.range n.toNat).map (blkAt z.toNat m.toNat (mvd m act).toNat x D M) else []
/-- a result of Split -/
def SR (lo : Nat) (z m : Int) (x : Bool) (t : Int) (fi : Bool) (n : Int) (act : Bool) (D M : List Int) (v : Value) (w : World) : Prop :=
  ∃ s LV, v = .tuple #[s, .int .i64 (spE z m x t fi n act D.length M.length)] ∧ Blks lo w s LV (splL z m x t fi n act D M)
theorem blks_nil {lo : Nat} {w : World} : Blks lo w (.slice none 0 0) [] [] := ⟨given_nil.1, rfl, fun ad had => (by cases had), fun i p q hp hq => by simp at hp⟩
theorem sr_no {lo : Nat} {z m : Int} {x : Bool} {t : Int} {fi : Bool} {n : Int} {act : Bool} {D M : List Int} {w : World} (h : spE z m x t fi n act D.length M.length ≠ 0) (e : Int) (he : e = spE z m x t fi n act D.length M.length) : SR lo z m x t fi n act D M (.tuple #[.slice none 0 0, .int .i64 e]) w := by
  subst he
  refine ⟨_, [], rfl, ?_⟩
  unfold splL
  rw [if_neg h]
  exact blks_nil

/-- between two blocks -/
structure JJ (lo : Nat) (p1 p2 p3 : Nat) (f1 f2 : Value) (lay : List Value) (w : World) : Prop where
  h1 : PtsTo w (pt p1) [f1]
  h2 : PtsTo w (pt p2) lay
  h3 : PtsTo w (pt p3) [f2]
theorem JJ.kept {lo : Nat} {p1 p2 p3 : Nat} {f1 f2 : Value} {lay : List Value} {w w' : World} {M : Nat → Prop} (h : JJ lo p1 p2 p3 f1 f2 lay w) (hk : Kept M w w') (hM : ∀ b, M b → b ≠ p1 ∧ b ≠ p2 ∧ b ≠ p3) : JJ lo p1 p2 p3 f1 f2 lay w' :=
  ⟨h.h1.kept hk fun b hb hm => by have e : p1 = b := Option.some.inj hb; exact (hM b hm).1 e.symm,
   h.h2.kept hk fun b hb hm => by have e : p2 = b := Option.some.inj hb; exact (hM b hm).2.1 e.symm,
   h.h3.kept hk fun b hb hm => by have e : p3 = b := Option.some.inj hb; exact (hM b hm).2.2 e.symm⟩
theorem go44 : goFunc Try.prog 44 = true := by kernel_rfl

/-- all blocks of the buffers: metadata with the data -/
theorem c43e (n z m mv : Nat) (x : Bool) (t : Int) (fi : Bool) (lo p1 p2 p3 pd : Nat) (D M : List Int) (w : World) (hn : n ≤ 65536) (hm : m ≤ 64) (hz : z ≤ 4096) (hmv : mv ≤ m) (hlen : D.length = n * (z + mv))
    (hj : JJ lo p1 p2 p3 (.func (.func 53) #[] #[pt pd]) (.func (.func 53) #[] #[pt pd]) [.int .i64 z, .int .i64 m, .bool x, .int .i64 t, .bool fi, .int .i64 mv] w)
    (hp : p1 < w.heap.size ∧ p2 < w.heap.size ∧ p3 < w.heap.size) (hd : Src lo pd w D) (hlo : lo ≤ pd) (hpd : pd < w.heap.size ∧ pd ≠ p1 ∧ pd ≠ p2 ∧ pd ≠ p3) (hx : x = true) :
    Runs Try.prog 43 [.int .i64 n, .func (.func 44) #[] #[pt p1, pt p2, pt p3]] w (fun b => b = pd) (fun v w' => ∃ LV, BlksNew w.heap.size w' v LV ((List.range n).map (blkAt z m mv x D M))) := by
  subst hx
  refine (c43 n 44 [pt p1, pt p2, pt p3] _ (blkAt z m mv true D M) (fun k w' => JJ lo p1 p2 p3 (.func (.func 53) #[] #[pt pd]) (.func (.func 53) #[] #[pt pd]) [.int .i64 z, .int .i64 m, .bool true, .int .i64 t, .bool fi, .int .i64 mv] w' ∧ Src lo pd w' (D.drop (k * (z + mv)))) (fun b => b = pd) w hn rfl go44 (fun b hb => by rw [hb]; exact hpd.1) ⟨hj, by simpa using hd⟩ ?_ ?_).mono (fun v w' ⟨LV, h, _⟩ _ => ⟨LV, h⟩) (fun _ _ h => h)
  · rintro k w1 w2 N ⟨h1, h2⟩ hk hN
    exact ⟨h1.kept hk fun b hb => by have := hN b hb; omega, h2.kept hk fun b hb => by have := hN b hb; omega⟩
  rintro k w1 hkn ⟨hj1, hs1⟩ hw1
  have hkl : k * (z + mv) + (z + mv) ≤ D.length := by rw [hlen, ← Nat.succ_mul]; exact Nat.mul_le_mul_right _ hkn
  have dl : (D.drop (k * (z + mv))).length = D.length - k * (z + mv) := List.length_drop
  have hlo1 : lo ≤ w1.heap.size := by omega
  have key := c44 p1 p2 p3 (.func (.func 53) #[] #[pt pd]) (.func (.func 53) #[] #[pt pd]) 53 53 [pt pd] [pt pd] z m mv true t fi lo (fun b => b = pd) ((D.drop (k * (z + mv))).take z) ((D.drop (k * (z + mv) + z)).take mv)
    (fun w' => JJ lo p1 p2 p3 (.func (.func 53) #[] #[pt pd]) (.func (.func 53) #[] #[pt pd]) [.int .i64 z, .int .i64 m, .bool true, .int .i64 t, .bool fi, .int .i64 mv] w' ∧ Src lo pd w' (D.drop (k * (z + mv))))
    (fun w' => JJ lo p1 p2 p3 (.func (.func 53) #[] #[pt pd]) (.func (.func 53) #[] #[pt pd]) [.int .i64 z, .int .i64 m, .bool true, .int .i64 t, .bool fi, .int .i64 mv] w' ∧ Src lo pd w' (D.drop (k * (z + mv) + z)))
    (fun w' => JJ lo p1 p2 p3 (.func (.func 53) #[] #[pt pd]) (.func (.func 53) #[] #[pt pd]) [.int .i64 z, .int .i64 m, .bool true, .int .i64 t, .bool fi, .int .i64 mv] w' ∧ Src lo pd w' (D.drop ((k + 1) * (z + mv))))
    k w1 hj1.h1 hj1.h2 hj1.h3 rfl rfl go53 go53 (fun b hb => by subst hb; exact ⟨hlo, Nat.lt_of_lt_of_le hpd.1 hw1, hpd.2⟩) hlo1 ?_ ?_ ?_ ?_ ?_ hm (by rw [List.length_take]; omega) (by rw [List.length_take]; omega) ⟨hj1, hs1⟩
  · refine key.mono (fun v w2 ⟨q, hv, hq, hj2⟩ _ => ⟨q, hv, ?_, hj2⟩) (fun _ _ h => h)
    have e : blkAt z m mv true D M k = ((D.drop (k * (z + mv))).take z, (D.drop (k * (z + mv) + z)).take mv ++ List.replicate (m - ((D.drop (k * (z + mv) + z)).take mv).length) 0) := rfl
    rw [e]
    exact hq
  · rintro w2 ⟨hj2, hs2⟩
    refine (c53 lo pd z _ w2 hs2 hlo (by omega)).mono (fun v w3 ⟨s, hv, ho, hs3⟩ hk3 => ⟨s, hv, ho, hj2.kept hk3 (fun b hb => by subst hb; exact hpd.2), ?_⟩) (fun _ _ h => h)
    rw [List.drop_drop] at hs3
    exact hs3
  · rintro w2 ⟨hj2, hs2⟩
    refine (c53 lo pd mv _ w2 hs2 hlo (by rw [List.length_drop]; omega)).mono (fun v w3 ⟨s, hv, ho, hs3⟩ hk3 => ⟨s, hv, ho, hj2.kept hk3 (fun b hb => by subst hb; exact hpd.2), ?_⟩) (fun _ _ h => h)
    rw [List.drop_drop] at hs3
    rw [show (k + 1) * (z + mv) = k * (z + mv) + z + mv by rw [Nat.succ_mul]; omega]
    exact hs3
  all_goals
    rintro w2 w3 N ⟨h1, h2⟩ hk hN
    exact ⟨h1.kept hk fun b hb => by have := hN b hb; omega, h2.kept hk fun b hb => by have := hN b hb; omega⟩
/-- all blocks of the buffers: metadata apart -/
theorem c43s (n z m mv : Nat) (x : Bool) (t : Int) (fi : Bool) (lo p1 p2 p3 pd pm : Nat) (D M : List Int) (w : World) (hn : n ≤ 65536) (hm : m ≤ 64) (hz : z ≤ 4096) (hmv : mv ≤ m) (hlen : D.length = n * z) (hlenM : M.length = n * mv)
    (hj : JJ lo p1 p2 p3 (.func (.func 53) #[] #[pt pd]) (.func (.func 53) #[] #[pt pm]) [.int .i64 z, .int .i64 m, .bool x, .int .i64 t, .bool fi, .int .i64 mv] w)
    (hp : p1 < w.heap.size ∧ p2 < w.heap.size ∧ p3 < w.heap.size) (hd : Src lo pd w D) (hdm : Src lo pm w M) (hlo : lo ≤ pd ∧ lo ≤ pm) (hpd : pd < w.heap.size ∧ pd ≠ p1 ∧ pd ≠ p2 ∧ pd ≠ p3) (hpm : pm < w.heap.size ∧ pm ≠ p1 ∧ pm ≠ p2 ∧ pm ≠ p3) (hne : pd ≠ pm) (hx : x = false) :
    Runs Try.prog 43 [.int .i64 n, .func (.func 44) #[] #[pt p1, pt p2, pt p3]] w (fun b => b = pd ∨ b = pm) (fun v w' => ∃ LV, BlksNew w.heap.size w' v LV ((List.range n).map (blkAt z m mv x D M))) := by
  subst hx
  refine (c43 n 44 [pt p1, pt p2, pt p3] _ (blkAt z m mv false D M) (fun k w' => JJ lo p1 p2 p3 (.func (.func 53) #[] #[pt pd]) (.func (.func 53) #[] #[pt pm]) [.int .i64 z, .int .i64 m, .bool false, .int .i64 t, .bool fi, .int .i64 mv] w' ∧ Src lo pd w' (D.drop (k * z)) ∧ Src lo pm w' (M.drop (k * mv))) (fun b => b = pd ∨ b = pm) w hn rfl go44 (fun b hb => by rcases hb with rfl | rfl; exact hpd.1; exact hpm.1) ⟨hj, by simpa using hd, by simpa using hdm⟩ ?_ ?_).mono (fun v w' ⟨LV, h, _⟩ _ => ⟨LV, h⟩) (fun _ _ h => h)
  · rintro k w1 w2 N ⟨h1, h2, h3⟩ hk hN
    exact ⟨h1.kept hk fun b hb => by have := hN b hb; omega, h2.kept hk fun b hb => by have := hN b hb; omega, h3.kept hk fun b hb => by have := hN b hb; omega⟩
  rintro k w1 hkn ⟨hj1, hs1, hm1⟩ hw1
  have hkl : k * z + z ≤ D.length := by rw [hlen, ← Nat.succ_mul]; exact Nat.mul_le_mul_right _ hkn
  have hkm : k * mv + mv ≤ M.length := by rw [hlenM, ← Nat.succ_mul]; exact Nat.mul_le_mul_right _ hkn
  have dl : (D.drop (k * z)).length = D.length - k * z := List.length_drop
  have dm : (M.drop (k * mv)).length = M.length - k * mv := List.length_drop
  have hlo1 : lo ≤ w1.heap.size := by omega
  have key := c44 p1 p2 p3 (.func (.func 53) #[] #[pt pd]) (.func (.func 53) #[] #[pt pm]) 53 53 [pt pd] [pt pm] z m mv false t fi lo (fun b => b = pd ∨ b = pm) ((D.drop (k * z)).take z) ((M.drop (k * mv)).take mv)
    (fun w' => JJ lo p1 p2 p3 (.func (.func 53) #[] #[pt pd]) (.func (.func 53) #[] #[pt pm]) [.int .i64 z, .int .i64 m, .bool false, .int .i64 t, .bool fi, .int .i64 mv] w' ∧ Src lo pd w' (D.drop (k * z)) ∧ Src lo pm w' (M.drop (k * mv)))
    (fun w' => JJ lo p1 p2 p3 (.func (.func 53) #[] #[pt pd]) (.func (.func 53) #[] #[pt pm]) [.int .i64 z, .int .i64 m, .bool false, .int .i64 t, .bool fi, .int .i64 mv] w' ∧ Src lo pd w' (D.drop ((k + 1) * z)) ∧ Src lo pm w' (M.drop (k * mv)))
    (fun w' => JJ lo p1 p2 p3 (.func (.func 53) #[] #[pt pd]) (.func (.func 53) #[] #[pt pm]) [.int .i64 z, .int .i64 m, .bool false, .int .i64 t, .bool fi, .int .i64 mv] w' ∧ Src lo pd w' (D.drop ((k + 1) * z)) ∧ Src lo pm w' (M.drop ((k + 1) * mv)))
    k w1 hj1.h1 hj1.h2 hj1.h3 rfl rfl go53 go53 (fun b hb => by rcases hb with rfl | rfl; exact ⟨hlo.1, Nat.lt_of_lt_of_le hpd.1 hw1, hpd.2⟩; exact ⟨hlo.2, Nat.lt_of_lt_of_le hpm.1 hw1, hpm.2⟩) hlo1 ?_ ?_ ?_ ?_ ?_ hm (by rw [List.length_take]; omega) (by rw [List.length_take]; omega) ⟨hj1, hs1, hm1⟩
  · refine key.mono (fun v w2 ⟨q, hv, hq, hj2⟩ _ => ⟨q, hv, ?_, hj2⟩) (fun _ _ h => h)
    have e : blkAt z m mv false D M k = ((D.drop (k * z)).take z, (M.drop (k * mv)).take mv ++ List.replicate (m - ((M.drop (k * mv)).take mv).length) 0) := rfl
    rw [e]
    exact hq
  · rintro w2 ⟨hj2, hs2, hm2⟩
    refine (c53 lo pd z _ w2 hs2 hlo.1 (by omega)).mono (fun v w3 ⟨s, hv, ho, hs3⟩ hk3 => ⟨s, hv, ho, hj2.kept hk3 (fun b hb => by subst hb; exact hpd.2), ?_, hm2.kept hk3 (fun b hb => by subst hb; exact ⟨hlo.1, hne⟩)⟩) (fun _ _ h => .inl h)
    rw [List.drop_drop] at hs3
    rw [Nat.succ_mul]
    exact hs3
  · rintro w2 ⟨hj2, hs2, hm2⟩
    refine (c53 lo pm mv _ w2 hm2 hlo.2 (by omega)).mono (fun v w3 ⟨s, hv, ho, hs3⟩ hk3 => ⟨s, hv, ho, hj2.kept hk3 (fun b hb => by subst hb; exact hpm.2), hs2.kept hk3 (fun b hb => by subst hb; exact ⟨hlo.2, fun e => hne e.symm⟩), ?_⟩) (fun _ _ h => .inr h)
    rw [List.drop_drop] at hs3
    rw [show (k + 1) * mv = k * mv + mv by rw [Nat.succ_mul]]
    exact hs3
  all_goals
    rintro w2 w3 N ⟨h1, h2, h3⟩ hk hN
    exact ⟨h1.kept hk fun b hb => by have := hN b hb; omega, h2.kept hk fun b hb => by have := hN b hb; omega, h3.kept hk fun b hb => by have := hN b hb; omega⟩
end Go.Proofs.Ytngemhmjpphpaaa

/- What Split returns, for every format and every buffers. No conditions beyond those that each theorem names. -/
set_option maxRecDepth 100000
set_option maxHeartbeats 2000000
set_option linter.unusedVariables false
set_option linter.unusedSimpArgs false
namespace Go.Proofs.Ytngemhmjpphpaaa
open Go.Sx

theorem given_old {w : World} {a : Option Addr} {n c : Nat} {D : List Int} (h : Given byteE w (.slice a n c) D) : Old w.heap.size w ⟨a, n, c⟩ D := ⟨h, fun ad had => h.2.2.2 ad had⟩
theorem exE_zero {A B : Int} (h : exE A B = 0) : A = B := by
  unfold exE at h
  split at h
  · omega
  · split at h <;> omega

theorem c21 (z m : Int) (x : Bool) (t : Int) (fi : Bool) (n : Int) (act : Bool) (sd sm : Value) (D M : List Int) (w : World) (hd : Given byteE w sd D) (hm : Given byteE w sm M) :
    GivesR Try.prog 21 [fmtV z m x t fi, .int .i64 n, .bool act, sd, sm] w (fun v w' => SR w.heap.size z m x t fi n act D M v w') := by
  obtain ⟨da, dc, rfl⟩ := hd.1.slice
  obtain ⟨ma, mc, rfl⟩ := hm.1.slice
  refine givesR mix t21 rfl rfl (ε := [.int .i64 z, .int .i64 m, .bool x, .int .i64 t, .bool fi, .int .i64 n, .bool act, .slice da D.length dc, .slice ma M.length mc]) ⟨⟨_, rfl⟩, ⟨_, rfl⟩, ⟨_, rfl⟩, ⟨_, rfl⟩, ⟨_, rfl⟩, ⟨_, rfl⟩, ⟨_, rfl⟩, ⟨_, _, _, rfl⟩, ⟨_, _, _, rfl⟩, trivial⟩ (den_blk fun b9 k9 _ _ => den_norm (by simp only [List.cons_append, List.nil_append]; rfl) ?_)
  have z9 : w.heap.size ≤ b9 := k9
  cases h : lOk z m x t fi n act with
  | false =>
    have he : spE z m x t fi n act D.length M.length = 2 := by simp [spE, h]
    refine den_call [.int .i64 0, .int .i64 0, .bool false, .int .i64 0, .bool false, .int .i64 0, .int .i64 2] ⟨⟨_, rfl⟩, ⟨_, rfl⟩, ⟨_, rfl⟩, ⟨_, rfl⟩, ⟨_, rfl⟩, ⟨_, rfl⟩, ⟨_, rfl⟩, trivial⟩ rfl (fun w1 _ => c39no z m x t fi n act h w1) (fun w1 w1' _ _ => den_norm (by simp only [List.cons_append, List.nil_append]; rfl) (den_blk fun b2 _ _ _ => den_split_true rfl (den_leafR _ rfl fun w2 _ => ?_)))
    exact sr_no (by rw [he]; decide) 2 he.symm
  | true =>
  have hp := lOk_parts h
  have hf := fOk_parts hp.1
  have hmr := mvd_range (act := act) hf.2
  have he : spE z m x t fi n act D.length M.length = (if exE D.length (lenA z x (mvd m act) n) = 0 then exE M.length (lenB x (mvd m act) n) else exE D.length (lenA z x (mvd m act) n)) := by simp [spE, h]
  refine den_call [.int .i64 z, .int .i64 m, .bool x, .int .i64 t, .bool fi, .int .i64 (mvd m act), .int .i64 0] ⟨⟨_, rfl⟩, ⟨_, rfl⟩, ⟨_, rfl⟩, ⟨_, rfl⟩, ⟨_, rfl⟩, ⟨_, rfl⟩, ⟨_, rfl⟩, trivial⟩ rfl (fun w1 _ => c39ok z m x t fi n act h w1) (fun w1 w2 h1 h2 => den_norm (by simp only [List.cons_append, List.nil_append]; rfl) (den_blk fun b17 k17 _ k170 => den_norm (by simp only [List.cons_append, List.nil_append]; rfl) (den_split_false rfl ?_)))
  have z17 : w.heap.size ≤ b17 := k170
  refine den_call [.int .i64 (lenA z x (mvd m act) n), .int .i64 (lenB x (mvd m act) n)] ⟨⟨_, rfl⟩, ⟨_, rfl⟩, trivial⟩ rfl (fun w3 _ => c40 z m x t fi (mvd m act) n (by omega) hmr ⟨hp.2.1, hp.2.2.1⟩ w3) (fun w3 w4 h3 h4 => den_norm (by simp only [List.cons_append, List.nil_append]; rfl) ?_)
  refine den_call_int (x := exE D.length (lenA z x (mvd m act) n)) (fun w5 _ => c41 _ _ _ _ w5) rfl (fun w5 w6 h5 h6 => den_norm (by simp only [List.cons_append, List.nil_append]; rfl) (den_splitNot (fun e1 => ?_) (fun e1 => ?_)))
  · have e1' : exE D.length (lenA z x (mvd m act) n) ≠ 0 := by
      simp only [BE.den, IE.den, nth, vint] at e1
      exact of_decide_eq_false e1
    rw [if_neg e1'] at he
    exact den_leafR _ rfl fun w7 _ => sr_no (by rw [he]; exact e1') _ he.symm
  have e1' : exE D.length (lenA z x (mvd m act) n) = 0 := by
    simp only [BE.den, IE.den, nth, vint] at e1
    exact of_decide_eq_true e1
  rw [if_pos e1'] at he
  refine den_call_int (x := exE M.length (lenB x (mvd m act) n)) (fun w7 _ => c41 _ _ _ _ w7) rfl (fun w7 w8 h7 h8 => den_norm (by simp only [List.cons_append, List.nil_append]; rfl) (den_splitNot (fun e2 => ?_) (fun e2 => ?_)))
  · have e2' : exE M.length (lenB x (mvd m act) n) ≠ 0 := by
      simp only [BE.den, IE.den, nth, vint] at e2
      exact of_decide_eq_false e2
    exact den_leafR _ rfl fun w9 _ => sr_no (by rw [he]; exact e2') _ he.symm
  have e2' : exE M.length (lenB x (mvd m act) n) = 0 := by
    simp only [BE.den, IE.den, nth, vint] at e2
    exact of_decide_eq_true e2
  rw [e2'] at he
  have hA := exE_zero e1'
  have hB := exE_zero e2'
  clear e1 e2
  -- the numbers
  obtain ⟨nn, rfl⟩ : ∃ k : Nat, n = k := ⟨n.toNat, by omega⟩
  obtain ⟨zz, rfl⟩ : ∃ k : Nat, z = k := ⟨z.toNat, by omega⟩
  obtain ⟨mm, rfl⟩ : ∃ k : Nat, m = k := ⟨m.toNat, by omega⟩
  generalize hmv : mvd (mm : Int) act = mv0 at *
  obtain ⟨mv, rfl⟩ : ∃ k : Nat, mv0 = k := ⟨mv0.toNat, by omega⟩
  have hmvm : mv ≤ mm := by
    have : mvd (mm : Int) act ≤ mm := by unfold mvd; split <;> omega
    omega
  have hspl : splL zz mm x t fi nn act D M = (List.range nn).map (blkAt zz mm mv x D M) := by
    unfold splL
    rw [if_pos he, hmv]
    simp
  refine den_callR (fun w9 l w10 => ∃ b, l = [.func (.func 53) #[] #[pt b]] ∧ w9.heap.size ≤ b ∧ HasBlk w10 (pt b) [.slice da D.length dc]) (fun w9 h9 => ?_) (fun w9 l w10 h9 hfl hR h910 => ?_)
  · refine (c42 _ w9 ⟨_, _, _, rfl⟩).mono fun v w' ⟨b, hb, hv, hh⟩ => ⟨[v], ?_, rfl, b, by rw [hv], hb, hh⟩
    subst hv
    exact ⟨rfl, trivial⟩
  obtain ⟨pd, rfl, hpd, hbd⟩ := hR
  refine den_norm (by simp only [List.cons_append, List.nil_append]; rfl) ?_
  refine den_callR (fun w11 l w12 => ∃ b, l = [.func (.func 53) #[] #[pt b]] ∧ w11.heap.size ≤ b ∧ HasBlk w12 (pt b) [.slice ma M.length mc]) (fun w11 h11 => ?_) (fun w11 l w12 h11 hfl hR h1112 => ?_)
  · refine (c42 _ w11 ⟨_, _, _, rfl⟩).mono fun v w' ⟨b, hb, hv, hh⟩ => ⟨[v], ?_, rfl, b, by rw [hv], hb, hh⟩
    subst hv
    exact ⟨rfl, trivial⟩
  obtain ⟨pm, rfl, hpm, hbm⟩ := hR
  have z9w : w.heap.size ≤ w9.heap.size := h9.base.size
  have z11w : w10.heap.size ≤ w11.heap.size := h11.kept.size
  have lpd : pd < w10.heap.size := hbd.pts.lt (by simp) pd rfl
  have lpm : pm < w12.heap.size := hbm.pts.lt (by simp) pm rfl
  have l17 : b17 < w9.heap.size := h9.lt (i := 17) (by simp [keys]) rfl
  have l9 : b9 < w9.heap.size := h9.lt (i := 9) (by simp [keys]) rfl
  have hbd12 : HasBlk w12 (pt pd) [.slice da D.length dc] := by
    obtain ⟨b, ty, e, hh⟩ := hbd
    cases e
    exact ⟨pd, ty, rfl, (h1112.block pd (Nat.lt_of_lt_of_le lpd z11w) (fun h => h)).trans (((shown_same h11).block pd lpd (fun h => h)).trans hh)⟩
  have z1112 : w11.heap.size ≤ w12.heap.size := h1112.size
  refine den_norm (by simp only [List.cons_append, List.nil_append]; rfl) (den_blk fun b24 k24 _ k240 => den_blk fun b25 k25 _ k250 => den_norm (by simp only [List.cons_append, List.nil_append]; rfl) ?_)
  have z24 : w.heap.size ≤ b24 := k240
  have z25 : w.heap.size ≤ b25 := k250
  refine den_cut (fun ls w' => ls = [.func (.func 53) #[] #[pt (if x then pd else pm)]] ∧ HasBlk w' (pt pd) [.slice da D.length dc] ∧ HasBlk w' (pt pm) [.slice ma M.length mc] ∧ pd ≠ b25 ∧ pm ≠ b25 ∧ pd ≠ b24 ∧ pm ≠ b24) ?_ ?_
  · have n1 : pd ≠ b25 ∧ pm ≠ b25 ∧ pd ≠ b24 ∧ pm ≠ b24 := by
      refine ⟨?_, ?_, ?_, ?_⟩ <;> omega
    have keepd : ∀ {p : Nat} {l : List Value} {e : List Value} {fs : Facts} {w13 : World}, Shown (G0 Try.prog w) e [25, 24] fs w12 w13 → HasBlk w12 (pt p) l → (∀ b, BlkIn e [25, 24] b → b = b25 ∨ b = b24) → p ≠ b25 → p ≠ b24 → HasBlk w13 (pt p) l := fun h13 hh hin q1 q2 => by
      obtain ⟨b, ty, e', hh⟩ := hh
      cases e'
      exact ⟨_, ty, rfl, (h13.kept.block _ (Array.getElem?_eq_some_iff.1 hh).1 (fun hb => by rcases hin _ hb with e | e; exact q1 e; exact q2 e)).trans hh⟩
    refine den_split (fun hx => ?_) (fun hx => ?_)
    · have hx' : x = true := hx
      subst hx'
      exact den_leaf_eq fun w13 h13 => ⟨rfl, keepd h13 hbd12 (fun b hb => by simp [BlkIn, nth, blkOf, vaddr] at hb; omega) n1.1 n1.2.2.1, keepd h13 hbm (fun b hb => by simp [BlkIn, nth, blkOf, vaddr] at hb; omega) n1.2.1 n1.2.2.2, n1⟩
    · have hx' : x = false := hx
      subst hx'
      exact den_leaf_eq fun w13 h13 => ⟨rfl, keepd h13 hbd12 (fun b hb => by simp [BlkIn, nth, blkOf, vaddr] at hb; omega) n1.1 n1.2.2.1, keepd h13 hbm (fun b hb => by simp [BlkIn, nth, blkOf, vaddr] at hb; omega) n1.2.1 n1.2.2.2, n1⟩
  rintro l w13 hf13 ⟨rfl, hbd13, hbm13, nd25, nm25, nd24, nm24⟩ hk13 hfa13
  refine den_norm (by simp only [List.cons_append, List.nil_append]; rfl) ?_
  have npd17 : pd ≠ b17 := by omega
  have npm17 : pm ≠ b17 := by omega
  have nepm : pd ≠ pm := by omega
  have bnd : ∀ i : Int, i = nn → 0 ≤ i ∧ i ≤ 65536 := fun i hi => by omega
  refine den_callM (fun _ b => b = pd ∨ b = pm) (fun w14 l w15 => ∃ s LV, l = [s] ∧ Blks w.heap.size w15 s LV ((List.range nn).map (blkAt zz mm mv x D M))) (fun w14 h14 b hb hlt => ⟨fun hd => (by cases hd), fun hlt2 => absurd (show b < w.heap.size from hlt2) (by rcases hb with rfl | rfl <;> omega), fun hin => ?_, fun hx => (by cases hx)⟩) (fun w14 h14 => ?_) (fun w14 l w15 h14 hfl hR hk15 => ?_)
  · simp [BlkIn, nth, blkOf, vaddr] at hin
    omega
  · have hbd14 : HasBlk w14 (pt pd) [.slice da D.length dc] := by
      obtain ⟨b, ty, e, hh⟩ := hbd13
      cases e
      exact ⟨pd, ty, rfl, ((shown_same h14).block pd (Array.getElem?_eq_some_iff.1 hh).1 (fun h => h)).trans hh⟩
    have hbm14 : HasBlk w14 (pt pm) [.slice ma M.length mc] := by
      obtain ⟨b, ty, e, hh⟩ := hbm13
      cases e
      exact ⟨pm, ty, rfl, ((shown_same h14).block pm (Array.getElem?_eq_some_iff.1 hh).1 (fun h => h)).trans hh⟩
    have f25 : HasBlk w14 (pt b25) _ := h14.facts.1
    have f24 : HasBlk w14 (pt b24) _ := h14.facts.2.1
    have f17 : HasBlk w14 (pt b17) _ := h14.facts.2.2.1
    have g25 := f25.pts.lt (by simp [denL]) b25 rfl
    have g24 := f24.pts.lt (by simp [denL]) b24 rfl
    have g17 := f17.pts.lt (by simp [denL]) b17 rfl
    have gpd := hbd14.pts.lt (by simp) pd rfl
    have gpm := hbm14.pts.lt (by simp) pm rfl
    have oldD : Old w.heap.size w14 ⟨da, D.length, dc⟩ D := (given_old hd).same h14.base
    have oldM : Old w.heap.size w14 ⟨ma, M.length, mc⟩ M := (given_old hm).same h14.base
    have srcD : Src w.heap.size pd w14 D := ⟨⟨da, D.length, dc⟩, hbd14, oldD⟩
    have srcM : Src w.heap.size pm w14 M := ⟨⟨ma, M.length, mc⟩, hbm14, oldM⟩
    cases x with
    | true =>
      have hlenD : D.length = nn * (zz + mv) := by
        have : lenA (zz : Int) true (mv : Int) (nn : Int) = ((nn * (zz + mv) : Nat) : Int) := by simp [lenA]
        rw [this] at hA
        exact_mod_cast hA
      have := c43e nn zz mm mv true t fi w.heap.size b24 b17 b25 pd D M w14 (by omega) (by omega) (by omega) hmvm hlenD ⟨f24.pts, f17.pts, f25.pts⟩ ⟨g24, g17, g25⟩ srcD (by omega) ⟨gpd, nd24, npd17, nd25⟩ rfl
      refine Runs.mono (R := fun v w' => ∃ LV, BlksNew w14.heap.size w' v LV ((List.range nn).map (blkAt zz mm mv true D M))) (M := fun b => b = pd) (by simpa [denL, SV.den, IE.den, nth, vint, vaddr, addO, addr_add] using this) (fun v w' ⟨LV, hn⟩ _ => ?_) (fun _ _ h => .inl h)
      obtain ⟨va, vc, hv⟩ := hn.mine.slice
      have hz := h14.base.size
      have hB := hn.blks
      exact ⟨[v], ⟨⟨_, _, _, hv⟩, trivial⟩, rfl, ⟨v, LV, rfl, ⟨hB.arr, hB.len, fun ad had => Nat.le_trans hz (hB.at_ ad had), fun i p q hp hq => by
        obtain ⟨q1, q2, q3, q4⟩ := hB.each i p q hp hq
        exact ⟨q1, q2, fun ad had => Nat.le_trans hz (q3 ad had), fun ad had => Nat.le_trans hz (q4 ad had)⟩⟩⟩, trivial⟩
    | false =>
      have hlenD : D.length = nn * zz := by
        have : lenA (zz : Int) false (mv : Int) (nn : Int) = ((nn * zz : Nat) : Int) := by simp [lenA]
        rw [this] at hA
        exact_mod_cast hA
      have hlenM : M.length = nn * mv := by
        have : lenB false (mv : Int) (nn : Int) = ((nn * mv : Nat) : Int) := by simp [lenB]
        rw [this] at hB
        exact_mod_cast hB
      have := c43s nn zz mm mv false t fi w.heap.size b24 b17 b25 pd pm D M w14 (by omega) (by omega) (by omega) hmvm hlenD hlenM ⟨f24.pts, f17.pts, f25.pts⟩ ⟨g24, g17, g25⟩ srcD srcM ⟨by omega, by omega⟩ ⟨gpd, nd24, npd17, nd25⟩ ⟨gpm, nm24, npm17, nm25⟩ nepm rfl
      refine Runs.mono (R := fun v w' => ∃ LV, BlksNew w14.heap.size w' v LV ((List.range nn).map (blkAt zz mm mv false D M))) (M := fun b => b = pd ∨ b = pm) (by simpa [denL, SV.den, IE.den, nth, vint, vaddr, addO, addr_add] using this) (fun v w' ⟨LV, hn⟩ _ => ?_) (fun _ _ h => h)
      obtain ⟨va, vc, hv⟩ := hn.mine.slice
      have hz := h14.base.size
      have hB := hn.blks
      exact ⟨[v], ⟨⟨_, _, _, hv⟩, trivial⟩, rfl, ⟨v, LV, rfl, ⟨hB.arr, hB.len, fun ad had => Nat.le_trans hz (hB.at_ ad had), fun i p q hp hq => by
        obtain ⟨q1, q2, q3, q4⟩ := hB.each i p q hp hq
        exact ⟨q1, q2, fun ad had => Nat.le_trans hz (q3 ad had), fun ad had => Nat.le_trans hz (q4 ad had)⟩⟩⟩, trivial⟩
  obtain ⟨s, LV, rfl, hB⟩ := hR
  refine den_norm (by simp only [List.cons_append, List.nil_append]; rfl) (den_leafR _ rfl fun w16 h16 => ⟨s, LV, by simp [SV.den, denL, IE.den, BE.den, nth, vint, vbool, vaddr, addO, addr_add, he], ?_⟩)
  rw [hspl]
  exact hB.same (shown_same h16)
end Go.Proofs.Ytngemhmjpphpaaa
