/- One block taken from the front of buffers. No conditions beyond those that each theorem names. -/
import Derived.Test.YtngemhmjpphpaaaE
set_option maxRecDepth 100000
set_option maxHeartbeats 4000000
set_option linter.unusedVariables false
set_option linter.unusedSimpArgs false
namespace Go.Proofs.Ytngemhmjpphpaaa
open Go.Sx

theorem pad_copy {m : Nat} {D : List Int} (h : D.length ≤ m) : (List.replicate m (0 : Int)).take 0 ++ D.take (min D.length m) ++ (List.replicate m (0 : Int)).drop (0 + min D.length m) = D ++ List.replicate (m - D.length) 0 := by
  rw [Nat.min_eq_left h]
  simp
theorem c44 (p1 p2 p3 : Nat) (f1 f2 : Value) (g1 g2 : Nat) (caps1 caps2 : List Value) (z m mv : Nat) (x : Bool) (t : Int) (fi : Bool) (lo : Nat) (FM : Nat → Prop) (D1 D2 : List Int) (J0 J1 J2 : World → Prop) (k : Int) (w : World)
    (hp1 : PtsTo w (pt p1) [f1]) (hp2 : PtsTo w (pt p2) [.int .i64 z, .int .i64 m, .bool x, .int .i64 t, .bool fi, .int .i64 mv]) (hp3 : PtsTo w (pt p3) [f2])
    (hf1 : f1 = .func (.func g1) #[] caps1.toArray) (hf2 : f2 = .func (.func g2) #[] caps2.toArray) (hg1 : goFunc Try.prog g1 = true) (hg2 : goFunc Try.prog g2 = true)
    (hFM : ∀ b, FM b → lo ≤ b ∧ b < w.heap.size ∧ b ≠ p1 ∧ b ≠ p2 ∧ b ≠ p3) (hlo : lo ≤ w.heap.size)
    (h1 : ∀ w1, J0 w1 → Runs Try.prog g1 ([.int .i64 z] ++ caps1) w1 FM (fun v w2 => ∃ s : Sl, v = s.v ∧ Old lo w2 s D1 ∧ J1 w2))
    (h2 : ∀ w1, J1 w1 → Runs Try.prog g2 ([.int .i64 mv] ++ caps2) w1 FM (fun v w2 => ∃ s : Sl, v = s.v ∧ Old lo w2 s D2 ∧ J2 w2))
    (hJ0 : ∀ w1 w2 M, J0 w1 → Kept M w1 w2 → (∀ b, M b → w.heap.size ≤ b) → J0 w2) (hJ1 : ∀ w1 w2 M, J1 w1 → Kept M w1 w2 → (∀ b, M b → w.heap.size ≤ b) → J1 w2) (hJ2 : ∀ w1 w2 M, J2 w1 → Kept M w1 w2 → (∀ b, M b → w.heap.size ≤ b) → J2 w2)
    (hm : m ≤ 64) (hD1 : D1.length ≤ 60000000000) (hD2 : D2.length ≤ m) (hJ : J0 w) :
    Runs Try.prog 44 [.int .i64 k, pt p1, pt p2, pt p3] w FM (fun v w' => ∃ q : Sl × Sl, v = .agg #[q.1.v, q.2.v] ∧ BlkIs w.heap.size w' q (D1, D2 ++ List.replicate (m - D2.length) 0) ∧ J2 w') := by
  have h := runs mix t44 rfl rfl (ε := [.int .i64 k, pt p1, pt p2, pt p3]) (heap := []) (w := w) (M := FM) (R := fun v w' => ∃ q : Sl × Sl, v = .agg #[q.1.v, q.2.v] ∧ BlkIs w.heap.size w' q (D1, D2 ++ List.replicate (m - D2.length) 0) ∧ J2 w') ⟨⟨_, rfl⟩, ⟨_, rfl⟩, ⟨_, rfl⟩, ⟨_, rfl⟩, trivial⟩ trivial (by simp [keys]) (by simp [keys]) (by simp [keys]) ?_
  · simpa [denL, SV.den, IE.den, nth, vint, vaddr, addO, addr_add] using h
  have l1 := hp1.lt (by simp) p1 rfl
  have l2 := hp2.lt (by simp) p2 rfl
  have l3 := hp3.lt (by simp) p3 rfl
  have hb5 : (Try.t5.bytes : Int) * m ≤ 281474976710656 := by
    have e1 : (Try.t5.bytes : Int) ≤ 1000 := by have := by5; omega
    have e2 : (Try.t5.bytes : Int) * m ≤ 1000 * 64 := Int.mul_le_mul e1 (by omega) (by omega) (by omega)
    exact Int.le_trans e2 (by decide)
  have z0s : ∀ (i : Nat) (v : Value), [Value.int .i64 z][i]? = some v → [Value.int .i64 z, .int .i64 m, .bool x, .int .i64 t, .bool fi, .int .i64 mv][0 + i]? = some v := fun i v hv => by cases i with | zero => exact hv | succ i => simp at hv
  have z1s : ∀ (i : Nat) (v : Value), [Value.int .i64 m][i]? = some v → [Value.int .i64 z, .int .i64 m, .bool x, .int .i64 t, .bool fi, .int .i64 mv][1 + i]? = some v := fun i v hv => by cases i with | zero => exact hv | succ i => simp at hv
  have z5s : ∀ (i : Nat) (v : Value), [Value.int .i64 mv][i]? = some v → [Value.int .i64 z, .int .i64 m, .bool x, .int .i64 t, .bool fi, .int .i64 mv][5 + i]? = some v := fun i v hv => by cases i with | zero => exact hv | succ i => simp at hv
  have Xno : ∀ b, b < w.heap.size → (b = p1 ∨ b = p2 ∨ b = p3) → ¬ (FM b ∨ w.heap.size ≤ b) := fun b hb he hx => by
    rcases hx with hx | hx
    · have := hFM b hx
      omega
    · omega
  have nFM : ∀ b, FM b → ¬ w.heap.size ≤ b := fun b hb hh => by have := hFM b hb; omega
  have loX : ∀ {b}, w.heap.size ≤ b → lo ≤ b := fun hb => Nat.le_trans hlo hb
  refine den_blk fun b4 k4 _ _ => den_norm (by simp only [List.cons_append, List.nil_append]; rfl) ?_
  have z4 : w.heap.size ≤ b4 := k4
  intro w1 h1w
  refine ⟨fun b => FM b ∨ w.heap.size ≤ b, fun b hb => by simp [BlkIn, nth, blkOf, vaddr] at hb; subst hb; exact .inr z4, ?_⟩
  have s01 : Same w w1 := shown_same h1w
  have z01 := s01.size
  refine den_ldpD (i := 1) [f1] [f1] ⟨by rw [hf1]; rfl, trivial⟩ (whole _) (hp1.same s01) (fun b hb => by cases hb; exact Xno p1 l1 (.inl rfl)) (den_norm (by simp only [List.cons_append, List.nil_append]; rfl) ?_)
  refine den_notnil (i := 2) (hp2.same s01) ?_
  refine den_ldpD (i := 2) [.int .i64 z] _ ⟨⟨_, rfl⟩, trivial⟩ z0s (hp2.same s01) (fun b hb => by cases hb; exact Xno p2 l2 (.inr (.inl rfl))) (den_norm (by simp only [List.cons_append, List.nil_append]; rfl) ?_)
  refine den_ldpD (i := 2) [.int .i64 m] _ ⟨⟨_, rfl⟩, trivial⟩ z1s (hp2.same s01) (fun b hb => by cases hb; exact Xno p2 l2 (.inr (.inl rfl))) (den_norm (by simp only [List.cons_append, List.nil_append]; rfl) ?_)
  have hJw := hJ0 w w1 _ hJ s01 (fun b hb => hb.elim)
  have zW : w.heap.size ≤ w1.heap.size := z01
  refine den_both ?_ (den_both ?_ ?_)
  · skip
    refine den_callF (caps := caps1) (g := g1) rfl hf1 hg1 (fun _ b => FM b) (fun _ l w2 => ∃ s : Sl, l = [s.v] ∧ Old lo w2 s D1 ∧ J1 w2) (fun w2 hw2 b hb _ => ⟨fun _ => .inl hb, fun _ => hb, fun hin => ?_, fun hx => (by cases hx)⟩) (fun w2 hw2 => ?_) (fun w2 l w3 hw2 hfl hR kw3 => ?_)
    · have := nFM b hb
      simp [BlkIn, nth, blkOf, vaddr] at hin
      omega
    · refine (h1 w2 (hJ0 w1 w2 _ hJw (shown_same hw2) (fun b hb => hb.elim))).mono (fun v w' ⟨s, hv, ho, hj⟩ _ => ⟨[s.v], ⟨⟨_, _, _, rfl⟩, trivial⟩, hv, s, rfl, ho, hj⟩) (fun _ _ h => h)
    have zzw3 : w1.heap.size ≤ w3.heap.size := Nat.le_trans (shown_same hw2).size kw3.size
    have zW : w.heap.size ≤ w3.heap.size := Nat.le_trans zW zzw3
    obtain ⟨s1, rfl, hO, hJw⟩ := hR
    refine den_norm (by simp only [List.cons_append, List.nil_append]; rfl) ?_
    refine den_both ?_ (den_both ?_ ?_)
    · skip
      refine den_callR (fun w2 l w3 => ∃ v, l = [v] ∧ Mine byteE 5 w3 v D1 ∧ ∀ g, v.ownBlock = some g → w2.heap.size ≤ g) (fun w4 hw4 => ?_) (fun w4 l w5 hw4 hfl hR kw5 => ?_)
      · refine (c45 _ D1 w4 (hO.same (shown_same hw4)).1.1 hD1).mono fun v w' ⟨q1, q2, _⟩ => ?_
        obtain ⟨va, vc, hv⟩ := q1.slice
        exact ⟨[v], ⟨⟨_, _, _, hv⟩, trivial⟩, rfl, v, rfl, q1, q2⟩
      obtain ⟨cl, rfl, hC, oC⟩ := hR
      have zzw5 : w3.heap.size ≤ w5.heap.size := Nat.le_trans (shown_same hw4).size kw5.size
      have zW : w.heap.size ≤ w5.heap.size := Nat.le_trans zW zzw5
      have hJw := hJ1 w4 w5 _ (hJ1 w3 w4 _ hJw (shown_same hw4) (fun b hb => hb.elim)) kw5 (fun b hb => hb.elim)
      have hO := (hO.same (shown_same hw4)).same kw5
      have zC : w3.heap.size ≤ w4.heap.size := (shown_same hw4).size
      have oCw : ∀ g, cl.ownBlock = some g → w.heap.size ≤ g := fun g hg => by have := oC g hg; have zz := hw4.base.size; exact Nat.le_trans zz this
      refine den_norm (by simp only [List.cons_append, List.nil_append]; rfl) ?_
      have n4c : ∀ g, cl.ownBlock = some g → g ≠ b4 := fun g hg e => by have q1 := oC g hg; have q2 : b4 < w4.heap.size := hw4.lt (i := 4) (by simp [keys]) rfl; omega
      refine den_both ?_ ?_
      · skip
        have hCold := hC
        refine den_make (n := m) u40 i5 z5 rfl rfl hb5 (by omega) (fun v => rfl) (fun w6 bm w7 hw6 hbm hhm kw7 => ?_)
        have hM : Mine byteE 5 w7 (.slice (some ⟨bm, 0, none⟩) m m) (List.replicate m (0 : Int)) := mine_zeros (by omega) hhm
        have zzw7 : w5.heap.size ≤ w7.heap.size := Nat.le_trans (shown_same hw6).size kw7.size
        have zW : w.heap.size ≤ w7.heap.size := Nat.le_trans zW zzw7
        have hJw := hJ1 w6 w7 _ (hJ1 w5 w6 _ hJw (shown_same hw6) (fun b hb => hb.elim)) kw7 (fun b hb => hb.elim)
        have hO := (hO.same (shown_same hw6)).same kw7
        have hC := (hC.same (shown_same hw6)).same kw7
        have oM : ∀ g, (Value.slice (some ⟨bm, 0, none⟩) m m).ownBlock = some g → w.heap.size ≤ g := fun g hg => by cases hg; exact Nat.le_trans hw6.base.size hbm
        have zbm : w5.heap.size ≤ bm := Nat.le_trans (shown_same hw6).size hbm
        have n4m : b4 ≠ bm := fun e => by have q2 : b4 < w6.heap.size := hw6.lt (i := 4) (by simp [keys]) rfl; omega
        refine den_norm (by simp only [List.cons_append, List.nil_append]; rfl) ?_
        have ncm : ∀ g, cl.ownBlock = some g → g ≠ bm := fun g hg e => by have q1 := hCold.lt hg; omega
        refine den_blk fun ba ka _ kaW => den_norm (by simp only [List.cons_append, List.nil_append]; rfl) ?_
        have zba : w.heap.size ≤ ba := kaW
        have nC : ∀ g, cl.ownBlock = some g → g ≠ ba := fun g hg e => by have := hC.lt hg; omega
        have nM : bm ≠ ba := fun e => by have := hM.lt (g := bm) rfl; omega
        intro w8 hw8
        refine ⟨fun b => FM b ∨ w.heap.size ≤ b, fun b hb => by simp [BlkIn, nth, blkOf, vaddr] at hb; rcases hb with hb | hb <;> (subst hb; exact .inr (by first | exact zba | exact z4)), ?_⟩
        have hJw := hJ1 w7 w8 _ hJw hw8.kept (fun b hb => by have e : ba = b := (by simpa [BlkIn, nth, blkOf, vaddr] using hb); rw [← e]; exact zba)
        have hC := hC.kept hw8.kept fun g hg hb => nC g hg (by simpa [BlkIn, nth, blkOf, vaddr] using hb : ba = g).symm
        have hM := hM.kept hw8.kept fun g hg hb => by cases hg; exact nM (by simpa [BlkIn, nth, blkOf, vaddr] using hb : ba = bm).symm
        have zW : w.heap.size ≤ w8.heap.size := Nat.le_trans zW hw8.kept.size
        have f0 := hw8.base
        have pk : ∀ (p : Nat) (l : List Value), PtsTo w (pt p) l → (p = p1 ∨ p = p2 ∨ p = p3) → PtsTo w8 (pt p) l := fun p l hp he => hp.kept f0 fun b hb hb2 => by have e : p = b := Option.some.inj hb; have q := hFM _ hb2; omega
        refine den_ldpD (i := 3) [f2] [f2] ⟨by rw [hf2]; rfl, trivial⟩ (whole _) (pk _ _ hp3 (.inr (.inr rfl))) (fun b hb => by cases hb; exact Xno p3 l3 (.inr (.inr rfl))) (den_norm (by simp only [List.cons_append, List.nil_append]; rfl) ?_)
        refine den_ldpD (i := 2) [.int .i64 mv] _ ⟨⟨_, rfl⟩, trivial⟩ z5s (pk _ _ hp2 (.inr (.inl rfl))) (fun b hb => by cases hb; exact Xno p2 l2 (.inr (.inl rfl))) (den_norm (by simp only [List.cons_append, List.nil_append]; rfl) ?_)
        refine den_callF (caps := caps2) (g := g2) rfl hf2 hg2 (fun _ b => FM b) (fun _ l w2 => ∃ s : Sl, l = [s.v] ∧ Old lo w2 s D2 ∧ J2 w2) (fun w9 hw9 b hb _ => ⟨fun _ => .inl hb, fun _ => hb, fun hin => ?_, fun hx => (by cases hx)⟩) (fun w9 hw9 => ?_) (fun w9 l w10 hw9 hfl hR kw10 => ?_)
        · have := nFM b hb
          simp [BlkIn, nth, blkOf, vaddr] at hin
          omega
        · refine (h2 w9 (hJ1 w8 w9 _ hJw (shown_same hw9) (fun b hb => hb.elim))).mono (fun v w' ⟨s, hv, ho, hj⟩ _ => ⟨[s.v], ⟨⟨_, _, _, rfl⟩, trivial⟩, hv, s, rfl, ho, hj⟩) (fun _ _ h => h)
        obtain ⟨s2, rfl, hO2, hJ2w⟩ := hR
        have hC := (hC.same (shown_same hw9)).kept kw10 fun g hg hb => nFM g hb (oCw g hg)
        have hM := (hM.same (shown_same hw9)).kept kw10 fun g hg hb => nFM g hb (oM g hg)
        refine den_norm (by simp only [List.cons_append, List.nil_append]; rfl) (den_copyM (T := 5) rfl u40 st5 bm m m (List.replicate m (0 : Int)) (.slice (some ⟨bm, 0, none⟩) m m) 0 m m rfl (.inl rfl) (by omega) s2.v D2 rfl (fun w11 hw11 => ⟨hM.same (shown_same hw11), (hO2.same (shown_same hw11)).1.1⟩) (fun w11 hw11 => ?_) (fun _ => rfl) (fun w11 w12 hw11 hM kw12 => den_norm (by simp only [List.cons_append, List.nil_append]; rfl) ?_))
        · exact ⟨fun _ => .inr (oM bm rfl), fun hlt => absurd (show bm < w.heap.size from hlt) (Nat.not_lt.2 (oM bm rfl)), fun hin => (by simp [BlkIn, nth, blkOf, vaddr] at hin; rcases hin with hin | hin <;> first | exact nM hin.symm | exact n4m hin), fun hx => (by cases hx)⟩
        rw [pad_copy hD2] at hM
        have nbm : ∀ g, cl.ownBlock = some g → g ≠ bm := ncm
        have hC := (hC.same (shown_same hw11)).kept kw12 fun g hg hb => nbm g hg hb
        have hJ2w := hJ2 w11 w12 _ (hJ2 w10 w11 _ hJ2w (shown_same hw11) (fun b hb => hb.elim)) kw12 (fun b hb => by subst hb; exact oM _ rfl)
        obtain ⟨ca, cc, hcl⟩ := hC.slice
        subst hcl
        refine den_leafA _ rfl (fun w13 hw13 => ?_)
        refine ⟨(⟨ca, D1.length, cc⟩, ⟨some ⟨bm, 0, none⟩, m, m⟩), rfl, ⟨hC.kept hw13.kept fun g hg hb => ?_, hM.kept hw13.kept fun g hg hb => ?_, oCw, oM⟩, hJ2 w12 w13 _ hJ2w hw13.kept (fun b hb => by have e : b4 = b := (by simpa [BlkIn, nth, blkOf, vaddr] using hb); rw [← e]; exact z4)⟩
        · exact n4c g hg (by simpa [BlkIn, nth, blkOf, vaddr] using hb : b4 = g).symm
        · cases hg; exact n4m (by simpa [BlkIn, nth, blkOf, vaddr] using hb : b4 = bm)
      · skip
        refine den_blk fun ba ka _ kaW => den_norm (by simp only [List.cons_append, List.nil_append]; rfl) ?_
        have zba : w.heap.size ≤ ba := kaW
        have nC : ∀ g, cl.ownBlock = some g → g ≠ ba := fun g hg e => by have := hC.lt hg; omega
        have hCold := hC
        refine den_make (n := m) u40 i5 z5 rfl rfl hb5 (by omega) (fun v => rfl) (fun w14 bm w15 hw14 hbm hhm kw15 => ?_)
        have hM : Mine byteE 5 w15 (.slice (some ⟨bm, 0, none⟩) m m) (List.replicate m (0 : Int)) := mine_zeros (by omega) hhm
        have zzw15 : w5.heap.size ≤ w15.heap.size := Nat.le_trans (shown_same hw14).size kw15.size
        have zW : w.heap.size ≤ w15.heap.size := Nat.le_trans zW zzw15
        have hJw := hJ1 w14 w15 _ (hJ1 w5 w14 _ hJw (shown_same hw14) (fun b hb => hb.elim)) kw15 (fun b hb => hb.elim)
        have hO := (hO.same (shown_same hw14)).same kw15
        have hC := (hC.same (shown_same hw14)).same kw15
        have oM : ∀ g, (Value.slice (some ⟨bm, 0, none⟩) m m).ownBlock = some g → w.heap.size ≤ g := fun g hg => by cases hg; exact Nat.le_trans hw14.base.size hbm
        have zbm : w5.heap.size ≤ bm := Nat.le_trans (shown_same hw14).size hbm
        have n4m : b4 ≠ bm := fun e => by have q2 : b4 < w14.heap.size := hw14.lt (i := 4) (by simp [keys]) rfl; omega
        have nM : bm ≠ ba := fun e => by have q2 : ba < w14.heap.size := hw14.lt (i := 10) (by simp [keys]) rfl; omega
        refine den_norm (by simp only [List.cons_append, List.nil_append]; rfl) ?_
        have ncm : ∀ g, cl.ownBlock = some g → g ≠ bm := fun g hg e => by have q1 := hCold.lt hg; omega
        intro w16 hw16
        refine ⟨fun b => FM b ∨ w.heap.size ≤ b, fun b hb => by simp [BlkIn, nth, blkOf, vaddr] at hb; rcases hb with hb | hb <;> (subst hb; exact .inr (by first | exact zba | exact z4)), ?_⟩
        have hJw := hJ1 w15 w16 _ hJw hw16.kept (fun b hb => by have e : ba = b := (by simpa [BlkIn, nth, blkOf, vaddr] using hb); rw [← e]; exact zba)
        have hC := hC.kept hw16.kept fun g hg hb => nC g hg (by simpa [BlkIn, nth, blkOf, vaddr] using hb : ba = g).symm
        have hM := hM.kept hw16.kept fun g hg hb => by cases hg; exact nM (by simpa [BlkIn, nth, blkOf, vaddr] using hb : ba = bm).symm
        have zW : w.heap.size ≤ w16.heap.size := Nat.le_trans zW hw16.kept.size
        have f0 := hw16.base
        have pk : ∀ (p : Nat) (l : List Value), PtsTo w (pt p) l → (p = p1 ∨ p = p2 ∨ p = p3) → PtsTo w16 (pt p) l := fun p l hp he => hp.kept f0 fun b hb hb2 => by have e : p = b := Option.some.inj hb; have q := hFM _ hb2; omega
        refine den_ldpD (i := 3) [f2] [f2] ⟨by rw [hf2]; rfl, trivial⟩ (whole _) (pk _ _ hp3 (.inr (.inr rfl))) (fun b hb => by cases hb; exact Xno p3 l3 (.inr (.inr rfl))) (den_norm (by simp only [List.cons_append, List.nil_append]; rfl) ?_)
        refine den_ldpD (i := 2) [.int .i64 mv] _ ⟨⟨_, rfl⟩, trivial⟩ z5s (pk _ _ hp2 (.inr (.inl rfl))) (fun b hb => by cases hb; exact Xno p2 l2 (.inr (.inl rfl))) (den_norm (by simp only [List.cons_append, List.nil_append]; rfl) ?_)
        refine den_callF (caps := caps2) (g := g2) rfl hf2 hg2 (fun _ b => FM b) (fun _ l w2 => ∃ s : Sl, l = [s.v] ∧ Old lo w2 s D2 ∧ J2 w2) (fun w17 hw17 b hb _ => ⟨fun _ => .inl hb, fun _ => hb, fun hin => ?_, fun hx => (by cases hx)⟩) (fun w17 hw17 => ?_) (fun w17 l w18 hw17 hfl hR kw18 => ?_)
        · have := nFM b hb
          simp [BlkIn, nth, blkOf, vaddr] at hin
          omega
        · refine (h2 w17 (hJ1 w16 w17 _ hJw (shown_same hw17) (fun b hb => hb.elim))).mono (fun v w' ⟨s, hv, ho, hj⟩ _ => ⟨[s.v], ⟨⟨_, _, _, rfl⟩, trivial⟩, hv, s, rfl, ho, hj⟩) (fun _ _ h => h)
        obtain ⟨s2, rfl, hO2, hJ2w⟩ := hR
        have hC := (hC.same (shown_same hw17)).kept kw18 fun g hg hb => nFM g hb (oCw g hg)
        have hM := (hM.same (shown_same hw17)).kept kw18 fun g hg hb => nFM g hb (oM g hg)
        refine den_norm (by simp only [List.cons_append, List.nil_append]; rfl) (den_copyM (T := 5) rfl u40 st5 bm m m (List.replicate m (0 : Int)) (.slice (some ⟨bm, 0, none⟩) m m) 0 m m rfl (.inl rfl) (by omega) s2.v D2 rfl (fun w19 hw19 => ⟨hM.same (shown_same hw19), (hO2.same (shown_same hw19)).1.1⟩) (fun w19 hw19 => ?_) (fun _ => rfl) (fun w19 w20 hw19 hM kw20 => den_norm (by simp only [List.cons_append, List.nil_append]; rfl) ?_))
        · exact ⟨fun _ => .inr (oM bm rfl), fun hlt => absurd (show bm < w.heap.size from hlt) (Nat.not_lt.2 (oM bm rfl)), fun hin => (by simp [BlkIn, nth, blkOf, vaddr] at hin; rcases hin with hin | hin <;> first | exact nM hin.symm | exact n4m hin), fun hx => (by cases hx)⟩
        rw [pad_copy hD2] at hM
        have nbm : ∀ g, cl.ownBlock = some g → g ≠ bm := ncm
        have hC := (hC.same (shown_same hw19)).kept kw20 fun g hg hb => nbm g hg hb
        have hJ2w := hJ2 w19 w20 _ (hJ2 w18 w19 _ hJ2w (shown_same hw19) (fun b hb => hb.elim)) kw20 (fun b hb => by subst hb; exact oM _ rfl)
        obtain ⟨ca, cc, hcl⟩ := hC.slice
        subst hcl
        refine den_leafA _ rfl (fun w21 hw21 => ?_)
        refine ⟨(⟨ca, D1.length, cc⟩, ⟨some ⟨bm, 0, none⟩, m, m⟩), rfl, ⟨hC.kept hw21.kept fun g hg hb => ?_, hM.kept hw21.kept fun g hg hb => ?_, oCw, oM⟩, hJ2 w20 w21 _ hJ2w hw21.kept (fun b hb => by have e : b4 = b := (by simpa [BlkIn, nth, blkOf, vaddr] using hb); rw [← e]; exact z4)⟩
        · exact n4c g hg (by simpa [BlkIn, nth, blkOf, vaddr] using hb : b4 = g).symm
        · cases hg; exact n4m (by simpa [BlkIn, nth, blkOf, vaddr] using hb : b4 = bm)
    · skip
      refine den_make (n := m) u40 i5 z5 rfl rfl hb5 (by omega) (fun v => rfl) (fun w22 bm w23 hw22 hbm hhm kw23 => ?_)
      have hM : Mine byteE 5 w23 (.slice (some ⟨bm, 0, none⟩) m m) (List.replicate m (0 : Int)) := mine_zeros (by omega) hhm
      have zzw23 : w3.heap.size ≤ w23.heap.size := Nat.le_trans (shown_same hw22).size kw23.size
      have zW : w.heap.size ≤ w23.heap.size := Nat.le_trans zW zzw23
      have hJw := hJ1 w22 w23 _ (hJ1 w3 w22 _ hJw (shown_same hw22) (fun b hb => hb.elim)) kw23 (fun b hb => hb.elim)
      have hO := (hO.same (shown_same hw22)).same kw23
      have oM : ∀ g, (Value.slice (some ⟨bm, 0, none⟩) m m).ownBlock = some g → w.heap.size ≤ g := fun g hg => by cases hg; exact Nat.le_trans hw22.base.size hbm
      have zbm : w3.heap.size ≤ bm := Nat.le_trans (shown_same hw22).size hbm
      have n4m : b4 ≠ bm := fun e => by have q2 : b4 < w22.heap.size := hw22.lt (i := 4) (by simp [keys]) rfl; omega
      refine den_norm (by simp only [List.cons_append, List.nil_append]; rfl) ?_
      refine den_both ?_ ?_
      · skip
        have hMold := hM
        refine den_callR (fun w2 l w3 => ∃ v, l = [v] ∧ Mine byteE 5 w3 v D1 ∧ ∀ g, v.ownBlock = some g → w2.heap.size ≤ g) (fun w24 hw24 => ?_) (fun w24 l w25 hw24 hfl hR kw25 => ?_)
        · refine (c45 _ D1 w24 (hO.same (shown_same hw24)).1.1 hD1).mono fun v w' ⟨q1, q2, _⟩ => ?_
          obtain ⟨va, vc, hv⟩ := q1.slice
          exact ⟨[v], ⟨⟨_, _, _, hv⟩, trivial⟩, rfl, v, rfl, q1, q2⟩
        obtain ⟨cl, rfl, hC, oC⟩ := hR
        have zzw25 : w23.heap.size ≤ w25.heap.size := Nat.le_trans (shown_same hw24).size kw25.size
        have zW : w.heap.size ≤ w25.heap.size := Nat.le_trans zW zzw25
        have hJw := hJ1 w24 w25 _ (hJ1 w23 w24 _ hJw (shown_same hw24) (fun b hb => hb.elim)) kw25 (fun b hb => hb.elim)
        have hO := (hO.same (shown_same hw24)).same kw25
        have hM := (hM.same (shown_same hw24)).same kw25
        have zC : w23.heap.size ≤ w24.heap.size := (shown_same hw24).size
        have oCw : ∀ g, cl.ownBlock = some g → w.heap.size ≤ g := fun g hg => by have := oC g hg; have zz := hw24.base.size; exact Nat.le_trans zz this
        refine den_norm (by simp only [List.cons_append, List.nil_append]; rfl) ?_
        have n4c : ∀ g, cl.ownBlock = some g → g ≠ b4 := fun g hg e => by have q1 := oC g hg; have q2 : b4 < w24.heap.size := hw24.lt (i := 4) (by simp [keys]) rfl; omega
        have ncm : ∀ g, cl.ownBlock = some g → g ≠ bm := fun g hg e => by have q1 := oC g hg; have q2 := hMold.lt (g := bm) rfl; omega
        refine den_blk fun ba ka _ kaW => den_norm (by simp only [List.cons_append, List.nil_append]; rfl) ?_
        have zba : w.heap.size ≤ ba := kaW
        have nC : ∀ g, cl.ownBlock = some g → g ≠ ba := fun g hg e => by have := hC.lt hg; omega
        have nM : bm ≠ ba := fun e => by have := hM.lt (g := bm) rfl; omega
        intro w26 hw26
        refine ⟨fun b => FM b ∨ w.heap.size ≤ b, fun b hb => by simp [BlkIn, nth, blkOf, vaddr] at hb; rcases hb with hb | hb <;> (subst hb; exact .inr (by first | exact zba | exact z4)), ?_⟩
        have hJw := hJ1 w25 w26 _ hJw hw26.kept (fun b hb => by have e : ba = b := (by simpa [BlkIn, nth, blkOf, vaddr] using hb); rw [← e]; exact zba)
        have hC := hC.kept hw26.kept fun g hg hb => nC g hg (by simpa [BlkIn, nth, blkOf, vaddr] using hb : ba = g).symm
        have hM := hM.kept hw26.kept fun g hg hb => by cases hg; exact nM (by simpa [BlkIn, nth, blkOf, vaddr] using hb : ba = bm).symm
        have zW : w.heap.size ≤ w26.heap.size := Nat.le_trans zW hw26.kept.size
        have f0 := hw26.base
        have pk : ∀ (p : Nat) (l : List Value), PtsTo w (pt p) l → (p = p1 ∨ p = p2 ∨ p = p3) → PtsTo w26 (pt p) l := fun p l hp he => hp.kept f0 fun b hb hb2 => by have e : p = b := Option.some.inj hb; have q := hFM _ hb2; omega
        refine den_ldpD (i := 3) [f2] [f2] ⟨by rw [hf2]; rfl, trivial⟩ (whole _) (pk _ _ hp3 (.inr (.inr rfl))) (fun b hb => by cases hb; exact Xno p3 l3 (.inr (.inr rfl))) (den_norm (by simp only [List.cons_append, List.nil_append]; rfl) ?_)
        refine den_ldpD (i := 2) [.int .i64 mv] _ ⟨⟨_, rfl⟩, trivial⟩ z5s (pk _ _ hp2 (.inr (.inl rfl))) (fun b hb => by cases hb; exact Xno p2 l2 (.inr (.inl rfl))) (den_norm (by simp only [List.cons_append, List.nil_append]; rfl) ?_)
        refine den_callF (caps := caps2) (g := g2) rfl hf2 hg2 (fun _ b => FM b) (fun _ l w2 => ∃ s : Sl, l = [s.v] ∧ Old lo w2 s D2 ∧ J2 w2) (fun w27 hw27 b hb _ => ⟨fun _ => .inl hb, fun _ => hb, fun hin => ?_, fun hx => (by cases hx)⟩) (fun w27 hw27 => ?_) (fun w27 l w28 hw27 hfl hR kw28 => ?_)
        · have := nFM b hb
          simp [BlkIn, nth, blkOf, vaddr] at hin
          omega
        · refine (h2 w27 (hJ1 w26 w27 _ hJw (shown_same hw27) (fun b hb => hb.elim))).mono (fun v w' ⟨s, hv, ho, hj⟩ _ => ⟨[s.v], ⟨⟨_, _, _, rfl⟩, trivial⟩, hv, s, rfl, ho, hj⟩) (fun _ _ h => h)
        obtain ⟨s2, rfl, hO2, hJ2w⟩ := hR
        have hC := (hC.same (shown_same hw27)).kept kw28 fun g hg hb => nFM g hb (oCw g hg)
        have hM := (hM.same (shown_same hw27)).kept kw28 fun g hg hb => nFM g hb (oM g hg)
        refine den_norm (by simp only [List.cons_append, List.nil_append]; rfl) (den_copyM (T := 5) rfl u40 st5 bm m m (List.replicate m (0 : Int)) (.slice (some ⟨bm, 0, none⟩) m m) 0 m m rfl (.inl rfl) (by omega) s2.v D2 rfl (fun w29 hw29 => ⟨hM.same (shown_same hw29), (hO2.same (shown_same hw29)).1.1⟩) (fun w29 hw29 => ?_) (fun _ => rfl) (fun w29 w30 hw29 hM kw30 => den_norm (by simp only [List.cons_append, List.nil_append]; rfl) ?_))
        · exact ⟨fun _ => .inr (oM bm rfl), fun hlt => absurd (show bm < w.heap.size from hlt) (Nat.not_lt.2 (oM bm rfl)), fun hin => (by simp [BlkIn, nth, blkOf, vaddr] at hin; rcases hin with hin | hin <;> first | exact nM hin.symm | exact n4m hin), fun hx => (by cases hx)⟩
        rw [pad_copy hD2] at hM
        have nbm : ∀ g, cl.ownBlock = some g → g ≠ bm := ncm
        have hC := (hC.same (shown_same hw29)).kept kw30 fun g hg hb => nbm g hg hb
        have hJ2w := hJ2 w29 w30 _ (hJ2 w28 w29 _ hJ2w (shown_same hw29) (fun b hb => hb.elim)) kw30 (fun b hb => by subst hb; exact oM _ rfl)
        obtain ⟨ca, cc, hcl⟩ := hC.slice
        subst hcl
        refine den_leafA _ rfl (fun w31 hw31 => ?_)
        refine ⟨(⟨ca, D1.length, cc⟩, ⟨some ⟨bm, 0, none⟩, m, m⟩), rfl, ⟨hC.kept hw31.kept fun g hg hb => ?_, hM.kept hw31.kept fun g hg hb => ?_, oCw, oM⟩, hJ2 w30 w31 _ hJ2w hw31.kept (fun b hb => by have e : b4 = b := (by simpa [BlkIn, nth, blkOf, vaddr] using hb); rw [← e]; exact z4)⟩
        · exact n4c g hg (by simpa [BlkIn, nth, blkOf, vaddr] using hb : b4 = g).symm
        · cases hg; exact n4m (by simpa [BlkIn, nth, blkOf, vaddr] using hb : b4 = bm)
      · skip
        refine den_blk fun ba ka _ kaW => den_norm (by simp only [List.cons_append, List.nil_append]; rfl) ?_
        have zba : w.heap.size ≤ ba := kaW
        have nM : bm ≠ ba := fun e => by have := hM.lt (g := bm) rfl; omega
        have hMold := hM
        refine den_callR (fun w2 l w3 => ∃ v, l = [v] ∧ Mine byteE 5 w3 v D1 ∧ ∀ g, v.ownBlock = some g → w2.heap.size ≤ g) (fun w32 hw32 => ?_) (fun w32 l w33 hw32 hfl hR kw33 => ?_)
        · refine (c45 _ D1 w32 (hO.same (shown_same hw32)).1.1 hD1).mono fun v w' ⟨q1, q2, _⟩ => ?_
          obtain ⟨va, vc, hv⟩ := q1.slice
          exact ⟨[v], ⟨⟨_, _, _, hv⟩, trivial⟩, rfl, v, rfl, q1, q2⟩
        obtain ⟨cl, rfl, hC, oC⟩ := hR
        have zzw33 : w23.heap.size ≤ w33.heap.size := Nat.le_trans (shown_same hw32).size kw33.size
        have zW : w.heap.size ≤ w33.heap.size := Nat.le_trans zW zzw33
        have hJw := hJ1 w32 w33 _ (hJ1 w23 w32 _ hJw (shown_same hw32) (fun b hb => hb.elim)) kw33 (fun b hb => hb.elim)
        have hO := (hO.same (shown_same hw32)).same kw33
        have hM := (hM.same (shown_same hw32)).same kw33
        have zC : w23.heap.size ≤ w32.heap.size := (shown_same hw32).size
        have oCw : ∀ g, cl.ownBlock = some g → w.heap.size ≤ g := fun g hg => by have := oC g hg; have zz := hw32.base.size; exact Nat.le_trans zz this
        have nC : ∀ g, cl.ownBlock = some g → g ≠ ba := fun g hg e => by have q1 := oC g hg; have q2 : ba < w32.heap.size := hw32.lt (i := 10) (by simp [keys]) rfl; omega
        refine den_norm (by simp only [List.cons_append, List.nil_append]; rfl) ?_
        have n4c : ∀ g, cl.ownBlock = some g → g ≠ b4 := fun g hg e => by have q1 := oC g hg; have q2 : b4 < w32.heap.size := hw32.lt (i := 4) (by simp [keys]) rfl; omega
        have ncm : ∀ g, cl.ownBlock = some g → g ≠ bm := fun g hg e => by have q1 := oC g hg; have q2 := hMold.lt (g := bm) rfl; omega
        intro w34 hw34
        refine ⟨fun b => FM b ∨ w.heap.size ≤ b, fun b hb => by simp [BlkIn, nth, blkOf, vaddr] at hb; rcases hb with hb | hb <;> (subst hb; exact .inr (by first | exact zba | exact z4)), ?_⟩
        have hJw := hJ1 w33 w34 _ hJw hw34.kept (fun b hb => by have e : ba = b := (by simpa [BlkIn, nth, blkOf, vaddr] using hb); rw [← e]; exact zba)
        have hC := hC.kept hw34.kept fun g hg hb => nC g hg (by simpa [BlkIn, nth, blkOf, vaddr] using hb : ba = g).symm
        have hM := hM.kept hw34.kept fun g hg hb => by cases hg; exact nM (by simpa [BlkIn, nth, blkOf, vaddr] using hb : ba = bm).symm
        have zW : w.heap.size ≤ w34.heap.size := Nat.le_trans zW hw34.kept.size
        have f0 := hw34.base
        have pk : ∀ (p : Nat) (l : List Value), PtsTo w (pt p) l → (p = p1 ∨ p = p2 ∨ p = p3) → PtsTo w34 (pt p) l := fun p l hp he => hp.kept f0 fun b hb hb2 => by have e : p = b := Option.some.inj hb; have q := hFM _ hb2; omega
        refine den_ldpD (i := 3) [f2] [f2] ⟨by rw [hf2]; rfl, trivial⟩ (whole _) (pk _ _ hp3 (.inr (.inr rfl))) (fun b hb => by cases hb; exact Xno p3 l3 (.inr (.inr rfl))) (den_norm (by simp only [List.cons_append, List.nil_append]; rfl) ?_)
        refine den_ldpD (i := 2) [.int .i64 mv] _ ⟨⟨_, rfl⟩, trivial⟩ z5s (pk _ _ hp2 (.inr (.inl rfl))) (fun b hb => by cases hb; exact Xno p2 l2 (.inr (.inl rfl))) (den_norm (by simp only [List.cons_append, List.nil_append]; rfl) ?_)
        refine den_callF (caps := caps2) (g := g2) rfl hf2 hg2 (fun _ b => FM b) (fun _ l w2 => ∃ s : Sl, l = [s.v] ∧ Old lo w2 s D2 ∧ J2 w2) (fun w35 hw35 b hb _ => ⟨fun _ => .inl hb, fun _ => hb, fun hin => ?_, fun hx => (by cases hx)⟩) (fun w35 hw35 => ?_) (fun w35 l w36 hw35 hfl hR kw36 => ?_)
        · have := nFM b hb
          simp [BlkIn, nth, blkOf, vaddr] at hin
          omega
        · refine (h2 w35 (hJ1 w34 w35 _ hJw (shown_same hw35) (fun b hb => hb.elim))).mono (fun v w' ⟨s, hv, ho, hj⟩ _ => ⟨[s.v], ⟨⟨_, _, _, rfl⟩, trivial⟩, hv, s, rfl, ho, hj⟩) (fun _ _ h => h)
        obtain ⟨s2, rfl, hO2, hJ2w⟩ := hR
        have hC := (hC.same (shown_same hw35)).kept kw36 fun g hg hb => nFM g hb (oCw g hg)
        have hM := (hM.same (shown_same hw35)).kept kw36 fun g hg hb => nFM g hb (oM g hg)
        refine den_norm (by simp only [List.cons_append, List.nil_append]; rfl) (den_copyM (T := 5) rfl u40 st5 bm m m (List.replicate m (0 : Int)) (.slice (some ⟨bm, 0, none⟩) m m) 0 m m rfl (.inl rfl) (by omega) s2.v D2 rfl (fun w37 hw37 => ⟨hM.same (shown_same hw37), (hO2.same (shown_same hw37)).1.1⟩) (fun w37 hw37 => ?_) (fun _ => rfl) (fun w37 w38 hw37 hM kw38 => den_norm (by simp only [List.cons_append, List.nil_append]; rfl) ?_))
        · exact ⟨fun _ => .inr (oM bm rfl), fun hlt => absurd (show bm < w.heap.size from hlt) (Nat.not_lt.2 (oM bm rfl)), fun hin => (by simp [BlkIn, nth, blkOf, vaddr] at hin; rcases hin with hin | hin <;> first | exact nM hin.symm | exact n4m hin), fun hx => (by cases hx)⟩
        rw [pad_copy hD2] at hM
        have nbm : ∀ g, cl.ownBlock = some g → g ≠ bm := ncm
        have hC := (hC.same (shown_same hw37)).kept kw38 fun g hg hb => nbm g hg hb
        have hJ2w := hJ2 w37 w38 _ (hJ2 w36 w37 _ hJ2w (shown_same hw37) (fun b hb => hb.elim)) kw38 (fun b hb => by subst hb; exact oM _ rfl)
        obtain ⟨ca, cc, hcl⟩ := hC.slice
        subst hcl
        refine den_leafA _ rfl (fun w39 hw39 => ?_)
        refine ⟨(⟨ca, D1.length, cc⟩, ⟨some ⟨bm, 0, none⟩, m, m⟩), rfl, ⟨hC.kept hw39.kept fun g hg hb => ?_, hM.kept hw39.kept fun g hg hb => ?_, oCw, oM⟩, hJ2 w38 w39 _ hJ2w hw39.kept (fun b hb => by have e : b4 = b := (by simpa [BlkIn, nth, blkOf, vaddr] using hb); rw [← e]; exact z4)⟩
        · exact n4c g hg (by simpa [BlkIn, nth, blkOf, vaddr] using hb : b4 = g).symm
        · cases hg; exact n4m (by simpa [BlkIn, nth, blkOf, vaddr] using hb : b4 = bm)
    · skip
      refine den_blk fun ba ka _ kaW => den_norm (by simp only [List.cons_append, List.nil_append]; rfl) ?_
      have zba : w.heap.size ≤ ba := kaW
      refine den_both ?_ ?_
      · skip
        refine den_callR (fun w2 l w3 => ∃ v, l = [v] ∧ Mine byteE 5 w3 v D1 ∧ ∀ g, v.ownBlock = some g → w2.heap.size ≤ g) (fun w40 hw40 => ?_) (fun w40 l w41 hw40 hfl hR kw41 => ?_)
        · refine (c45 _ D1 w40 (hO.same (shown_same hw40)).1.1 hD1).mono fun v w' ⟨q1, q2, _⟩ => ?_
          obtain ⟨va, vc, hv⟩ := q1.slice
          exact ⟨[v], ⟨⟨_, _, _, hv⟩, trivial⟩, rfl, v, rfl, q1, q2⟩
        obtain ⟨cl, rfl, hC, oC⟩ := hR
        have zzw41 : w3.heap.size ≤ w41.heap.size := Nat.le_trans (shown_same hw40).size kw41.size
        have zW : w.heap.size ≤ w41.heap.size := Nat.le_trans zW zzw41
        have hJw := hJ1 w40 w41 _ (hJ1 w3 w40 _ hJw (shown_same hw40) (fun b hb => hb.elim)) kw41 (fun b hb => hb.elim)
        have hO := (hO.same (shown_same hw40)).same kw41
        have zC : w3.heap.size ≤ w40.heap.size := (shown_same hw40).size
        have oCw : ∀ g, cl.ownBlock = some g → w.heap.size ≤ g := fun g hg => by have := oC g hg; have zz := hw40.base.size; exact Nat.le_trans zz this
        have nC : ∀ g, cl.ownBlock = some g → g ≠ ba := fun g hg e => by have q1 := oC g hg; have q2 : ba < w40.heap.size := hw40.lt (i := 9) (by simp [keys]) rfl; omega
        refine den_norm (by simp only [List.cons_append, List.nil_append]; rfl) ?_
        have n4c : ∀ g, cl.ownBlock = some g → g ≠ b4 := fun g hg e => by have q1 := oC g hg; have q2 : b4 < w40.heap.size := hw40.lt (i := 4) (by simp [keys]) rfl; omega
        have hCold := hC
        refine den_make (n := m) u40 i5 z5 rfl rfl hb5 (by omega) (fun v => rfl) (fun w42 bm w43 hw42 hbm hhm kw43 => ?_)
        have hM : Mine byteE 5 w43 (.slice (some ⟨bm, 0, none⟩) m m) (List.replicate m (0 : Int)) := mine_zeros (by omega) hhm
        have zzw43 : w41.heap.size ≤ w43.heap.size := Nat.le_trans (shown_same hw42).size kw43.size
        have zW : w.heap.size ≤ w43.heap.size := Nat.le_trans zW zzw43
        have hJw := hJ1 w42 w43 _ (hJ1 w41 w42 _ hJw (shown_same hw42) (fun b hb => hb.elim)) kw43 (fun b hb => hb.elim)
        have hO := (hO.same (shown_same hw42)).same kw43
        have hC := (hC.same (shown_same hw42)).same kw43
        have oM : ∀ g, (Value.slice (some ⟨bm, 0, none⟩) m m).ownBlock = some g → w.heap.size ≤ g := fun g hg => by cases hg; exact Nat.le_trans hw42.base.size hbm
        have zbm : w41.heap.size ≤ bm := Nat.le_trans (shown_same hw42).size hbm
        have n4m : b4 ≠ bm := fun e => by have q2 : b4 < w42.heap.size := hw42.lt (i := 4) (by simp [keys]) rfl; omega
        have nM : bm ≠ ba := fun e => by have q2 : ba < w42.heap.size := hw42.lt (i := 9) (by simp [keys]) rfl; omega
        refine den_norm (by simp only [List.cons_append, List.nil_append]; rfl) ?_
        have ncm : ∀ g, cl.ownBlock = some g → g ≠ bm := fun g hg e => by have q1 := hCold.lt hg; omega
        intro w44 hw44
        refine ⟨fun b => FM b ∨ w.heap.size ≤ b, fun b hb => by simp [BlkIn, nth, blkOf, vaddr] at hb; rcases hb with hb | hb <;> (subst hb; exact .inr (by first | exact zba | exact z4)), ?_⟩
        have hJw := hJ1 w43 w44 _ hJw hw44.kept (fun b hb => by have e : ba = b := (by simpa [BlkIn, nth, blkOf, vaddr] using hb); rw [← e]; exact zba)
        have hC := hC.kept hw44.kept fun g hg hb => nC g hg (by simpa [BlkIn, nth, blkOf, vaddr] using hb : ba = g).symm
        have hM := hM.kept hw44.kept fun g hg hb => by cases hg; exact nM (by simpa [BlkIn, nth, blkOf, vaddr] using hb : ba = bm).symm
        have zW : w.heap.size ≤ w44.heap.size := Nat.le_trans zW hw44.kept.size
        have f0 := hw44.base
        have pk : ∀ (p : Nat) (l : List Value), PtsTo w (pt p) l → (p = p1 ∨ p = p2 ∨ p = p3) → PtsTo w44 (pt p) l := fun p l hp he => hp.kept f0 fun b hb hb2 => by have e : p = b := Option.some.inj hb; have q := hFM _ hb2; omega
        refine den_ldpD (i := 3) [f2] [f2] ⟨by rw [hf2]; rfl, trivial⟩ (whole _) (pk _ _ hp3 (.inr (.inr rfl))) (fun b hb => by cases hb; exact Xno p3 l3 (.inr (.inr rfl))) (den_norm (by simp only [List.cons_append, List.nil_append]; rfl) ?_)
        refine den_ldpD (i := 2) [.int .i64 mv] _ ⟨⟨_, rfl⟩, trivial⟩ z5s (pk _ _ hp2 (.inr (.inl rfl))) (fun b hb => by cases hb; exact Xno p2 l2 (.inr (.inl rfl))) (den_norm (by simp only [List.cons_append, List.nil_append]; rfl) ?_)
        refine den_callF (caps := caps2) (g := g2) rfl hf2 hg2 (fun _ b => FM b) (fun _ l w2 => ∃ s : Sl, l = [s.v] ∧ Old lo w2 s D2 ∧ J2 w2) (fun w45 hw45 b hb _ => ⟨fun _ => .inl hb, fun _ => hb, fun hin => ?_, fun hx => (by cases hx)⟩) (fun w45 hw45 => ?_) (fun w45 l w46 hw45 hfl hR kw46 => ?_)
        · have := nFM b hb
          simp [BlkIn, nth, blkOf, vaddr] at hin
          omega
        · refine (h2 w45 (hJ1 w44 w45 _ hJw (shown_same hw45) (fun b hb => hb.elim))).mono (fun v w' ⟨s, hv, ho, hj⟩ _ => ⟨[s.v], ⟨⟨_, _, _, rfl⟩, trivial⟩, hv, s, rfl, ho, hj⟩) (fun _ _ h => h)
        obtain ⟨s2, rfl, hO2, hJ2w⟩ := hR
        have hC := (hC.same (shown_same hw45)).kept kw46 fun g hg hb => nFM g hb (oCw g hg)
        have hM := (hM.same (shown_same hw45)).kept kw46 fun g hg hb => nFM g hb (oM g hg)
        refine den_norm (by simp only [List.cons_append, List.nil_append]; rfl) (den_copyM (T := 5) rfl u40 st5 bm m m (List.replicate m (0 : Int)) (.slice (some ⟨bm, 0, none⟩) m m) 0 m m rfl (.inl rfl) (by omega) s2.v D2 rfl (fun w47 hw47 => ⟨hM.same (shown_same hw47), (hO2.same (shown_same hw47)).1.1⟩) (fun w47 hw47 => ?_) (fun _ => rfl) (fun w47 w48 hw47 hM kw48 => den_norm (by simp only [List.cons_append, List.nil_append]; rfl) ?_))
        · exact ⟨fun _ => .inr (oM bm rfl), fun hlt => absurd (show bm < w.heap.size from hlt) (Nat.not_lt.2 (oM bm rfl)), fun hin => (by simp [BlkIn, nth, blkOf, vaddr] at hin; rcases hin with hin | hin <;> first | exact nM hin.symm | exact n4m hin), fun hx => (by cases hx)⟩
        rw [pad_copy hD2] at hM
        have nbm : ∀ g, cl.ownBlock = some g → g ≠ bm := ncm
        have hC := (hC.same (shown_same hw47)).kept kw48 fun g hg hb => nbm g hg hb
        have hJ2w := hJ2 w47 w48 _ (hJ2 w46 w47 _ hJ2w (shown_same hw47) (fun b hb => hb.elim)) kw48 (fun b hb => by subst hb; exact oM _ rfl)
        obtain ⟨ca, cc, hcl⟩ := hC.slice
        subst hcl
        refine den_leafA _ rfl (fun w49 hw49 => ?_)
        refine ⟨(⟨ca, D1.length, cc⟩, ⟨some ⟨bm, 0, none⟩, m, m⟩), rfl, ⟨hC.kept hw49.kept fun g hg hb => ?_, hM.kept hw49.kept fun g hg hb => ?_, oCw, oM⟩, hJ2 w48 w49 _ hJ2w hw49.kept (fun b hb => by have e : b4 = b := (by simpa [BlkIn, nth, blkOf, vaddr] using hb); rw [← e]; exact z4)⟩
        · exact n4c g hg (by simpa [BlkIn, nth, blkOf, vaddr] using hb : b4 = g).symm
        · cases hg; exact n4m (by simpa [BlkIn, nth, blkOf, vaddr] using hb : b4 = bm)
      · skip
        refine den_make (n := m) u40 i5 z5 rfl rfl hb5 (by omega) (fun v => rfl) (fun w50 bm w51 hw50 hbm hhm kw51 => ?_)
        have hM : Mine byteE 5 w51 (.slice (some ⟨bm, 0, none⟩) m m) (List.replicate m (0 : Int)) := mine_zeros (by omega) hhm
        have zzw51 : w3.heap.size ≤ w51.heap.size := Nat.le_trans (shown_same hw50).size kw51.size
        have zW : w.heap.size ≤ w51.heap.size := Nat.le_trans zW zzw51
        have hJw := hJ1 w50 w51 _ (hJ1 w3 w50 _ hJw (shown_same hw50) (fun b hb => hb.elim)) kw51 (fun b hb => hb.elim)
        have hO := (hO.same (shown_same hw50)).same kw51
        have oM : ∀ g, (Value.slice (some ⟨bm, 0, none⟩) m m).ownBlock = some g → w.heap.size ≤ g := fun g hg => by cases hg; exact Nat.le_trans hw50.base.size hbm
        have zbm : w3.heap.size ≤ bm := Nat.le_trans (shown_same hw50).size hbm
        have n4m : b4 ≠ bm := fun e => by have q2 : b4 < w50.heap.size := hw50.lt (i := 4) (by simp [keys]) rfl; omega
        have nM : bm ≠ ba := fun e => by have q2 : ba < w50.heap.size := hw50.lt (i := 9) (by simp [keys]) rfl; omega
        refine den_norm (by simp only [List.cons_append, List.nil_append]; rfl) ?_
        have hMold := hM
        refine den_callR (fun w2 l w3 => ∃ v, l = [v] ∧ Mine byteE 5 w3 v D1 ∧ ∀ g, v.ownBlock = some g → w2.heap.size ≤ g) (fun w52 hw52 => ?_) (fun w52 l w53 hw52 hfl hR kw53 => ?_)
        · refine (c45 _ D1 w52 (hO.same (shown_same hw52)).1.1 hD1).mono fun v w' ⟨q1, q2, _⟩ => ?_
          obtain ⟨va, vc, hv⟩ := q1.slice
          exact ⟨[v], ⟨⟨_, _, _, hv⟩, trivial⟩, rfl, v, rfl, q1, q2⟩
        obtain ⟨cl, rfl, hC, oC⟩ := hR
        have zzw53 : w51.heap.size ≤ w53.heap.size := Nat.le_trans (shown_same hw52).size kw53.size
        have zW : w.heap.size ≤ w53.heap.size := Nat.le_trans zW zzw53
        have hJw := hJ1 w52 w53 _ (hJ1 w51 w52 _ hJw (shown_same hw52) (fun b hb => hb.elim)) kw53 (fun b hb => hb.elim)
        have hO := (hO.same (shown_same hw52)).same kw53
        have hM := (hM.same (shown_same hw52)).same kw53
        have zC : w51.heap.size ≤ w52.heap.size := (shown_same hw52).size
        have oCw : ∀ g, cl.ownBlock = some g → w.heap.size ≤ g := fun g hg => by have := oC g hg; have zz := hw52.base.size; exact Nat.le_trans zz this
        have nC : ∀ g, cl.ownBlock = some g → g ≠ ba := fun g hg e => by have q1 := oC g hg; have q2 : ba < w52.heap.size := hw52.lt (i := 9) (by simp [keys]) rfl; omega
        refine den_norm (by simp only [List.cons_append, List.nil_append]; rfl) ?_
        have n4c : ∀ g, cl.ownBlock = some g → g ≠ b4 := fun g hg e => by have q1 := oC g hg; have q2 : b4 < w52.heap.size := hw52.lt (i := 4) (by simp [keys]) rfl; omega
        have ncm : ∀ g, cl.ownBlock = some g → g ≠ bm := fun g hg e => by have q1 := oC g hg; have q2 := hMold.lt (g := bm) rfl; omega
        intro w54 hw54
        refine ⟨fun b => FM b ∨ w.heap.size ≤ b, fun b hb => by simp [BlkIn, nth, blkOf, vaddr] at hb; rcases hb with hb | hb <;> (subst hb; exact .inr (by first | exact zba | exact z4)), ?_⟩
        have hJw := hJ1 w53 w54 _ hJw hw54.kept (fun b hb => by have e : ba = b := (by simpa [BlkIn, nth, blkOf, vaddr] using hb); rw [← e]; exact zba)
        have hC := hC.kept hw54.kept fun g hg hb => nC g hg (by simpa [BlkIn, nth, blkOf, vaddr] using hb : ba = g).symm
        have hM := hM.kept hw54.kept fun g hg hb => by cases hg; exact nM (by simpa [BlkIn, nth, blkOf, vaddr] using hb : ba = bm).symm
        have zW : w.heap.size ≤ w54.heap.size := Nat.le_trans zW hw54.kept.size
        have f0 := hw54.base
        have pk : ∀ (p : Nat) (l : List Value), PtsTo w (pt p) l → (p = p1 ∨ p = p2 ∨ p = p3) → PtsTo w54 (pt p) l := fun p l hp he => hp.kept f0 fun b hb hb2 => by have e : p = b := Option.some.inj hb; have q := hFM _ hb2; omega
        refine den_ldpD (i := 3) [f2] [f2] ⟨by rw [hf2]; rfl, trivial⟩ (whole _) (pk _ _ hp3 (.inr (.inr rfl))) (fun b hb => by cases hb; exact Xno p3 l3 (.inr (.inr rfl))) (den_norm (by simp only [List.cons_append, List.nil_append]; rfl) ?_)
        refine den_ldpD (i := 2) [.int .i64 mv] _ ⟨⟨_, rfl⟩, trivial⟩ z5s (pk _ _ hp2 (.inr (.inl rfl))) (fun b hb => by cases hb; exact Xno p2 l2 (.inr (.inl rfl))) (den_norm (by simp only [List.cons_append, List.nil_append]; rfl) ?_)
        refine den_callF (caps := caps2) (g := g2) rfl hf2 hg2 (fun _ b => FM b) (fun _ l w2 => ∃ s : Sl, l = [s.v] ∧ Old lo w2 s D2 ∧ J2 w2) (fun w55 hw55 b hb _ => ⟨fun _ => .inl hb, fun _ => hb, fun hin => ?_, fun hx => (by cases hx)⟩) (fun w55 hw55 => ?_) (fun w55 l w56 hw55 hfl hR kw56 => ?_)
        · have := nFM b hb
          simp [BlkIn, nth, blkOf, vaddr] at hin
          omega
        · refine (h2 w55 (hJ1 w54 w55 _ hJw (shown_same hw55) (fun b hb => hb.elim))).mono (fun v w' ⟨s, hv, ho, hj⟩ _ => ⟨[s.v], ⟨⟨_, _, _, rfl⟩, trivial⟩, hv, s, rfl, ho, hj⟩) (fun _ _ h => h)
        obtain ⟨s2, rfl, hO2, hJ2w⟩ := hR
        have hC := (hC.same (shown_same hw55)).kept kw56 fun g hg hb => nFM g hb (oCw g hg)
        have hM := (hM.same (shown_same hw55)).kept kw56 fun g hg hb => nFM g hb (oM g hg)
        refine den_norm (by simp only [List.cons_append, List.nil_append]; rfl) (den_copyM (T := 5) rfl u40 st5 bm m m (List.replicate m (0 : Int)) (.slice (some ⟨bm, 0, none⟩) m m) 0 m m rfl (.inl rfl) (by omega) s2.v D2 rfl (fun w57 hw57 => ⟨hM.same (shown_same hw57), (hO2.same (shown_same hw57)).1.1⟩) (fun w57 hw57 => ?_) (fun _ => rfl) (fun w57 w58 hw57 hM kw58 => den_norm (by simp only [List.cons_append, List.nil_append]; rfl) ?_))
        · exact ⟨fun _ => .inr (oM bm rfl), fun hlt => absurd (show bm < w.heap.size from hlt) (Nat.not_lt.2 (oM bm rfl)), fun hin => (by simp [BlkIn, nth, blkOf, vaddr] at hin; rcases hin with hin | hin <;> first | exact nM hin.symm | exact n4m hin), fun hx => (by cases hx)⟩
        rw [pad_copy hD2] at hM
        have nbm : ∀ g, cl.ownBlock = some g → g ≠ bm := ncm
        have hC := (hC.same (shown_same hw57)).kept kw58 fun g hg hb => nbm g hg hb
        have hJ2w := hJ2 w57 w58 _ (hJ2 w56 w57 _ hJ2w (shown_same hw57) (fun b hb => hb.elim)) kw58 (fun b hb => by subst hb; exact oM _ rfl)
        obtain ⟨ca, cc, hcl⟩ := hC.slice
        subst hcl
        refine den_leafA _ rfl (fun w59 hw59 => ?_)
        refine ⟨(⟨ca, D1.length, cc⟩, ⟨some ⟨bm, 0, none⟩, m, m⟩), rfl, ⟨hC.kept hw59.kept fun g hg hb => ?_, hM.kept hw59.kept fun g hg hb => ?_, oCw, oM⟩, hJ2 w58 w59 _ hJ2w hw59.kept (fun b hb => by have e : b4 = b := (by simpa [BlkIn, nth, blkOf, vaddr] using hb); rw [← e]; exact z4)⟩
        · exact n4c g hg (by simpa [BlkIn, nth, blkOf, vaddr] using hb : b4 = g).symm
        · cases hg; exact n4m (by simpa [BlkIn, nth, blkOf, vaddr] using hb : b4 = bm)
  · skip
    refine den_make (n := m) u40 i5 z5 rfl rfl hb5 (by omega) (fun v => rfl) (fun w60 bm w61 hw60 hbm hhm kw61 => ?_)
    have hM : Mine byteE 5 w61 (.slice (some ⟨bm, 0, none⟩) m m) (List.replicate m (0 : Int)) := mine_zeros (by omega) hhm
    have zzw61 : w1.heap.size ≤ w61.heap.size := Nat.le_trans (shown_same hw60).size kw61.size
    have zW : w.heap.size ≤ w61.heap.size := Nat.le_trans zW zzw61
    have hJw := hJ0 w60 w61 _ (hJ0 w1 w60 _ hJw (shown_same hw60) (fun b hb => hb.elim)) kw61 (fun b hb => hb.elim)
    have oM : ∀ g, (Value.slice (some ⟨bm, 0, none⟩) m m).ownBlock = some g → w.heap.size ≤ g := fun g hg => by cases hg; exact Nat.le_trans hw60.base.size hbm
    have zbm : w1.heap.size ≤ bm := Nat.le_trans (shown_same hw60).size hbm
    have n4m : b4 ≠ bm := fun e => by have q2 : b4 < w60.heap.size := hw60.lt (i := 4) (by simp [keys]) rfl; omega
    refine den_norm (by simp only [List.cons_append, List.nil_append]; rfl) ?_
    refine den_both ?_ ?_
    · skip
      refine den_callF (caps := caps1) (g := g1) rfl hf1 hg1 (fun _ b => FM b) (fun _ l w2 => ∃ s : Sl, l = [s.v] ∧ Old lo w2 s D1 ∧ J1 w2) (fun w62 hw62 b hb _ => ⟨fun _ => .inl hb, fun _ => hb, fun hin => ?_, fun hx => (by cases hx)⟩) (fun w62 hw62 => ?_) (fun w62 l w63 hw62 hfl hR kw63 => ?_)
      · have := nFM b hb
        simp [BlkIn, nth, blkOf, vaddr] at hin
        omega
      · refine (h1 w62 (hJ0 w61 w62 _ hJw (shown_same hw62) (fun b hb => hb.elim))).mono (fun v w' ⟨s, hv, ho, hj⟩ _ => ⟨[s.v], ⟨⟨_, _, _, rfl⟩, trivial⟩, hv, s, rfl, ho, hj⟩) (fun _ _ h => h)
      have zzw63 : w61.heap.size ≤ w63.heap.size := Nat.le_trans (shown_same hw62).size kw63.size
      have zW : w.heap.size ≤ w63.heap.size := Nat.le_trans zW zzw63
      have hM := (hM.same (shown_same hw62)).kept kw63 fun g hg hb => nFM g hb (oM g hg)
      obtain ⟨s1, rfl, hO, hJw⟩ := hR
      refine den_norm (by simp only [List.cons_append, List.nil_append]; rfl) ?_
      refine den_both ?_ ?_
      · skip
        have hMold := hM
        refine den_callR (fun w2 l w3 => ∃ v, l = [v] ∧ Mine byteE 5 w3 v D1 ∧ ∀ g, v.ownBlock = some g → w2.heap.size ≤ g) (fun w64 hw64 => ?_) (fun w64 l w65 hw64 hfl hR kw65 => ?_)
        · refine (c45 _ D1 w64 (hO.same (shown_same hw64)).1.1 hD1).mono fun v w' ⟨q1, q2, _⟩ => ?_
          obtain ⟨va, vc, hv⟩ := q1.slice
          exact ⟨[v], ⟨⟨_, _, _, hv⟩, trivial⟩, rfl, v, rfl, q1, q2⟩
        obtain ⟨cl, rfl, hC, oC⟩ := hR
        have zzw65 : w63.heap.size ≤ w65.heap.size := Nat.le_trans (shown_same hw64).size kw65.size
        have zW : w.heap.size ≤ w65.heap.size := Nat.le_trans zW zzw65
        have hJw := hJ1 w64 w65 _ (hJ1 w63 w64 _ hJw (shown_same hw64) (fun b hb => hb.elim)) kw65 (fun b hb => hb.elim)
        have hO := (hO.same (shown_same hw64)).same kw65
        have hM := (hM.same (shown_same hw64)).same kw65
        have zC : w63.heap.size ≤ w64.heap.size := (shown_same hw64).size
        have oCw : ∀ g, cl.ownBlock = some g → w.heap.size ≤ g := fun g hg => by have := oC g hg; have zz := hw64.base.size; exact Nat.le_trans zz this
        refine den_norm (by simp only [List.cons_append, List.nil_append]; rfl) ?_
        have n4c : ∀ g, cl.ownBlock = some g → g ≠ b4 := fun g hg e => by have q1 := oC g hg; have q2 : b4 < w64.heap.size := hw64.lt (i := 4) (by simp [keys]) rfl; omega
        have ncm : ∀ g, cl.ownBlock = some g → g ≠ bm := fun g hg e => by have q1 := oC g hg; have q2 := hMold.lt (g := bm) rfl; omega
        refine den_blk fun ba ka _ kaW => den_norm (by simp only [List.cons_append, List.nil_append]; rfl) ?_
        have zba : w.heap.size ≤ ba := kaW
        have nC : ∀ g, cl.ownBlock = some g → g ≠ ba := fun g hg e => by have := hC.lt hg; omega
        have nM : bm ≠ ba := fun e => by have := hM.lt (g := bm) rfl; omega
        intro w66 hw66
        refine ⟨fun b => FM b ∨ w.heap.size ≤ b, fun b hb => by simp [BlkIn, nth, blkOf, vaddr] at hb; rcases hb with hb | hb <;> (subst hb; exact .inr (by first | exact zba | exact z4)), ?_⟩
        have hJw := hJ1 w65 w66 _ hJw hw66.kept (fun b hb => by have e : ba = b := (by simpa [BlkIn, nth, blkOf, vaddr] using hb); rw [← e]; exact zba)
        have hC := hC.kept hw66.kept fun g hg hb => nC g hg (by simpa [BlkIn, nth, blkOf, vaddr] using hb : ba = g).symm
        have hM := hM.kept hw66.kept fun g hg hb => by cases hg; exact nM (by simpa [BlkIn, nth, blkOf, vaddr] using hb : ba = bm).symm
        have zW : w.heap.size ≤ w66.heap.size := Nat.le_trans zW hw66.kept.size
        have f0 := hw66.base
        have pk : ∀ (p : Nat) (l : List Value), PtsTo w (pt p) l → (p = p1 ∨ p = p2 ∨ p = p3) → PtsTo w66 (pt p) l := fun p l hp he => hp.kept f0 fun b hb hb2 => by have e : p = b := Option.some.inj hb; have q := hFM _ hb2; omega
        refine den_ldpD (i := 3) [f2] [f2] ⟨by rw [hf2]; rfl, trivial⟩ (whole _) (pk _ _ hp3 (.inr (.inr rfl))) (fun b hb => by cases hb; exact Xno p3 l3 (.inr (.inr rfl))) (den_norm (by simp only [List.cons_append, List.nil_append]; rfl) ?_)
        refine den_ldpD (i := 2) [.int .i64 mv] _ ⟨⟨_, rfl⟩, trivial⟩ z5s (pk _ _ hp2 (.inr (.inl rfl))) (fun b hb => by cases hb; exact Xno p2 l2 (.inr (.inl rfl))) (den_norm (by simp only [List.cons_append, List.nil_append]; rfl) ?_)
        refine den_callF (caps := caps2) (g := g2) rfl hf2 hg2 (fun _ b => FM b) (fun _ l w2 => ∃ s : Sl, l = [s.v] ∧ Old lo w2 s D2 ∧ J2 w2) (fun w67 hw67 b hb _ => ⟨fun _ => .inl hb, fun _ => hb, fun hin => ?_, fun hx => (by cases hx)⟩) (fun w67 hw67 => ?_) (fun w67 l w68 hw67 hfl hR kw68 => ?_)
        · have := nFM b hb
          simp [BlkIn, nth, blkOf, vaddr] at hin
          omega
        · refine (h2 w67 (hJ1 w66 w67 _ hJw (shown_same hw67) (fun b hb => hb.elim))).mono (fun v w' ⟨s, hv, ho, hj⟩ _ => ⟨[s.v], ⟨⟨_, _, _, rfl⟩, trivial⟩, hv, s, rfl, ho, hj⟩) (fun _ _ h => h)
        obtain ⟨s2, rfl, hO2, hJ2w⟩ := hR
        have hC := (hC.same (shown_same hw67)).kept kw68 fun g hg hb => nFM g hb (oCw g hg)
        have hM := (hM.same (shown_same hw67)).kept kw68 fun g hg hb => nFM g hb (oM g hg)
        refine den_norm (by simp only [List.cons_append, List.nil_append]; rfl) (den_copyM (T := 5) rfl u40 st5 bm m m (List.replicate m (0 : Int)) (.slice (some ⟨bm, 0, none⟩) m m) 0 m m rfl (.inl rfl) (by omega) s2.v D2 rfl (fun w69 hw69 => ⟨hM.same (shown_same hw69), (hO2.same (shown_same hw69)).1.1⟩) (fun w69 hw69 => ?_) (fun _ => rfl) (fun w69 w70 hw69 hM kw70 => den_norm (by simp only [List.cons_append, List.nil_append]; rfl) ?_))
        · exact ⟨fun _ => .inr (oM bm rfl), fun hlt => absurd (show bm < w.heap.size from hlt) (Nat.not_lt.2 (oM bm rfl)), fun hin => (by simp [BlkIn, nth, blkOf, vaddr] at hin; rcases hin with hin | hin <;> first | exact nM hin.symm | exact n4m hin), fun hx => (by cases hx)⟩
        rw [pad_copy hD2] at hM
        have nbm : ∀ g, cl.ownBlock = some g → g ≠ bm := ncm
        have hC := (hC.same (shown_same hw69)).kept kw70 fun g hg hb => nbm g hg hb
        have hJ2w := hJ2 w69 w70 _ (hJ2 w68 w69 _ hJ2w (shown_same hw69) (fun b hb => hb.elim)) kw70 (fun b hb => by subst hb; exact oM _ rfl)
        obtain ⟨ca, cc, hcl⟩ := hC.slice
        subst hcl
        refine den_leafA _ rfl (fun w71 hw71 => ?_)
        refine ⟨(⟨ca, D1.length, cc⟩, ⟨some ⟨bm, 0, none⟩, m, m⟩), rfl, ⟨hC.kept hw71.kept fun g hg hb => ?_, hM.kept hw71.kept fun g hg hb => ?_, oCw, oM⟩, hJ2 w70 w71 _ hJ2w hw71.kept (fun b hb => by have e : b4 = b := (by simpa [BlkIn, nth, blkOf, vaddr] using hb); rw [← e]; exact z4)⟩
        · exact n4c g hg (by simpa [BlkIn, nth, blkOf, vaddr] using hb : b4 = g).symm
        · cases hg; exact n4m (by simpa [BlkIn, nth, blkOf, vaddr] using hb : b4 = bm)
      · skip
        refine den_blk fun ba ka _ kaW => den_norm (by simp only [List.cons_append, List.nil_append]; rfl) ?_
        have zba : w.heap.size ≤ ba := kaW
        have nM : bm ≠ ba := fun e => by have := hM.lt (g := bm) rfl; omega
        have hMold := hM
        refine den_callR (fun w2 l w3 => ∃ v, l = [v] ∧ Mine byteE 5 w3 v D1 ∧ ∀ g, v.ownBlock = some g → w2.heap.size ≤ g) (fun w72 hw72 => ?_) (fun w72 l w73 hw72 hfl hR kw73 => ?_)
        · refine (c45 _ D1 w72 (hO.same (shown_same hw72)).1.1 hD1).mono fun v w' ⟨q1, q2, _⟩ => ?_
          obtain ⟨va, vc, hv⟩ := q1.slice
          exact ⟨[v], ⟨⟨_, _, _, hv⟩, trivial⟩, rfl, v, rfl, q1, q2⟩
        obtain ⟨cl, rfl, hC, oC⟩ := hR
        have zzw73 : w63.heap.size ≤ w73.heap.size := Nat.le_trans (shown_same hw72).size kw73.size
        have zW : w.heap.size ≤ w73.heap.size := Nat.le_trans zW zzw73
        have hJw := hJ1 w72 w73 _ (hJ1 w63 w72 _ hJw (shown_same hw72) (fun b hb => hb.elim)) kw73 (fun b hb => hb.elim)
        have hO := (hO.same (shown_same hw72)).same kw73
        have hM := (hM.same (shown_same hw72)).same kw73
        have zC : w63.heap.size ≤ w72.heap.size := (shown_same hw72).size
        have oCw : ∀ g, cl.ownBlock = some g → w.heap.size ≤ g := fun g hg => by have := oC g hg; have zz := hw72.base.size; exact Nat.le_trans zz this
        have nC : ∀ g, cl.ownBlock = some g → g ≠ ba := fun g hg e => by have q1 := oC g hg; have q2 : ba < w72.heap.size := hw72.lt (i := 10) (by simp [keys]) rfl; omega
        refine den_norm (by simp only [List.cons_append, List.nil_append]; rfl) ?_
        have n4c : ∀ g, cl.ownBlock = some g → g ≠ b4 := fun g hg e => by have q1 := oC g hg; have q2 : b4 < w72.heap.size := hw72.lt (i := 4) (by simp [keys]) rfl; omega
        have ncm : ∀ g, cl.ownBlock = some g → g ≠ bm := fun g hg e => by have q1 := oC g hg; have q2 := hMold.lt (g := bm) rfl; omega
        intro w74 hw74
        refine ⟨fun b => FM b ∨ w.heap.size ≤ b, fun b hb => by simp [BlkIn, nth, blkOf, vaddr] at hb; rcases hb with hb | hb <;> (subst hb; exact .inr (by first | exact zba | exact z4)), ?_⟩
        have hJw := hJ1 w73 w74 _ hJw hw74.kept (fun b hb => by have e : ba = b := (by simpa [BlkIn, nth, blkOf, vaddr] using hb); rw [← e]; exact zba)
        have hC := hC.kept hw74.kept fun g hg hb => nC g hg (by simpa [BlkIn, nth, blkOf, vaddr] using hb : ba = g).symm
        have hM := hM.kept hw74.kept fun g hg hb => by cases hg; exact nM (by simpa [BlkIn, nth, blkOf, vaddr] using hb : ba = bm).symm
        have zW : w.heap.size ≤ w74.heap.size := Nat.le_trans zW hw74.kept.size
        have f0 := hw74.base
        have pk : ∀ (p : Nat) (l : List Value), PtsTo w (pt p) l → (p = p1 ∨ p = p2 ∨ p = p3) → PtsTo w74 (pt p) l := fun p l hp he => hp.kept f0 fun b hb hb2 => by have e : p = b := Option.some.inj hb; have q := hFM _ hb2; omega
        refine den_ldpD (i := 3) [f2] [f2] ⟨by rw [hf2]; rfl, trivial⟩ (whole _) (pk _ _ hp3 (.inr (.inr rfl))) (fun b hb => by cases hb; exact Xno p3 l3 (.inr (.inr rfl))) (den_norm (by simp only [List.cons_append, List.nil_append]; rfl) ?_)
        refine den_ldpD (i := 2) [.int .i64 mv] _ ⟨⟨_, rfl⟩, trivial⟩ z5s (pk _ _ hp2 (.inr (.inl rfl))) (fun b hb => by cases hb; exact Xno p2 l2 (.inr (.inl rfl))) (den_norm (by simp only [List.cons_append, List.nil_append]; rfl) ?_)
        refine den_callF (caps := caps2) (g := g2) rfl hf2 hg2 (fun _ b => FM b) (fun _ l w2 => ∃ s : Sl, l = [s.v] ∧ Old lo w2 s D2 ∧ J2 w2) (fun w75 hw75 b hb _ => ⟨fun _ => .inl hb, fun _ => hb, fun hin => ?_, fun hx => (by cases hx)⟩) (fun w75 hw75 => ?_) (fun w75 l w76 hw75 hfl hR kw76 => ?_)
        · have := nFM b hb
          simp [BlkIn, nth, blkOf, vaddr] at hin
          omega
        · refine (h2 w75 (hJ1 w74 w75 _ hJw (shown_same hw75) (fun b hb => hb.elim))).mono (fun v w' ⟨s, hv, ho, hj⟩ _ => ⟨[s.v], ⟨⟨_, _, _, rfl⟩, trivial⟩, hv, s, rfl, ho, hj⟩) (fun _ _ h => h)
        obtain ⟨s2, rfl, hO2, hJ2w⟩ := hR
        have hC := (hC.same (shown_same hw75)).kept kw76 fun g hg hb => nFM g hb (oCw g hg)
        have hM := (hM.same (shown_same hw75)).kept kw76 fun g hg hb => nFM g hb (oM g hg)
        refine den_norm (by simp only [List.cons_append, List.nil_append]; rfl) (den_copyM (T := 5) rfl u40 st5 bm m m (List.replicate m (0 : Int)) (.slice (some ⟨bm, 0, none⟩) m m) 0 m m rfl (.inl rfl) (by omega) s2.v D2 rfl (fun w77 hw77 => ⟨hM.same (shown_same hw77), (hO2.same (shown_same hw77)).1.1⟩) (fun w77 hw77 => ?_) (fun _ => rfl) (fun w77 w78 hw77 hM kw78 => den_norm (by simp only [List.cons_append, List.nil_append]; rfl) ?_))
        · exact ⟨fun _ => .inr (oM bm rfl), fun hlt => absurd (show bm < w.heap.size from hlt) (Nat.not_lt.2 (oM bm rfl)), fun hin => (by simp [BlkIn, nth, blkOf, vaddr] at hin; rcases hin with hin | hin <;> first | exact nM hin.symm | exact n4m hin), fun hx => (by cases hx)⟩
        rw [pad_copy hD2] at hM
        have nbm : ∀ g, cl.ownBlock = some g → g ≠ bm := ncm
        have hC := (hC.same (shown_same hw77)).kept kw78 fun g hg hb => nbm g hg hb
        have hJ2w := hJ2 w77 w78 _ (hJ2 w76 w77 _ hJ2w (shown_same hw77) (fun b hb => hb.elim)) kw78 (fun b hb => by subst hb; exact oM _ rfl)
        obtain ⟨ca, cc, hcl⟩ := hC.slice
        subst hcl
        refine den_leafA _ rfl (fun w79 hw79 => ?_)
        refine ⟨(⟨ca, D1.length, cc⟩, ⟨some ⟨bm, 0, none⟩, m, m⟩), rfl, ⟨hC.kept hw79.kept fun g hg hb => ?_, hM.kept hw79.kept fun g hg hb => ?_, oCw, oM⟩, hJ2 w78 w79 _ hJ2w hw79.kept (fun b hb => by have e : b4 = b := (by simpa [BlkIn, nth, blkOf, vaddr] using hb); rw [← e]; exact z4)⟩
        · exact n4c g hg (by simpa [BlkIn, nth, blkOf, vaddr] using hb : b4 = g).symm
        · cases hg; exact n4m (by simpa [BlkIn, nth, blkOf, vaddr] using hb : b4 = bm)
    · skip
      refine den_blk fun ba ka _ kaW => den_norm (by simp only [List.cons_append, List.nil_append]; rfl) ?_
      have zba : w.heap.size ≤ ba := kaW
      have nM : bm ≠ ba := fun e => by have := hM.lt (g := bm) rfl; omega
      refine den_callF (caps := caps1) (g := g1) rfl hf1 hg1 (fun _ b => FM b) (fun _ l w2 => ∃ s : Sl, l = [s.v] ∧ Old lo w2 s D1 ∧ J1 w2) (fun w80 hw80 b hb _ => ⟨fun _ => .inl hb, fun _ => hb, fun hin => ?_, fun hx => (by cases hx)⟩) (fun w80 hw80 => ?_) (fun w80 l w81 hw80 hfl hR kw81 => ?_)
      · have := nFM b hb
        simp [BlkIn, nth, blkOf, vaddr] at hin
        omega
      · refine (h1 w80 (hJ0 w61 w80 _ hJw (shown_same hw80) (fun b hb => hb.elim))).mono (fun v w' ⟨s, hv, ho, hj⟩ _ => ⟨[s.v], ⟨⟨_, _, _, rfl⟩, trivial⟩, hv, s, rfl, ho, hj⟩) (fun _ _ h => h)
      have zzw81 : w61.heap.size ≤ w81.heap.size := Nat.le_trans (shown_same hw80).size kw81.size
      have zW : w.heap.size ≤ w81.heap.size := Nat.le_trans zW zzw81
      have hM := (hM.same (shown_same hw80)).kept kw81 fun g hg hb => nFM g hb (oM g hg)
      obtain ⟨s1, rfl, hO, hJw⟩ := hR
      refine den_norm (by simp only [List.cons_append, List.nil_append]; rfl) ?_
      have hMold := hM
      refine den_callR (fun w2 l w3 => ∃ v, l = [v] ∧ Mine byteE 5 w3 v D1 ∧ ∀ g, v.ownBlock = some g → w2.heap.size ≤ g) (fun w82 hw82 => ?_) (fun w82 l w83 hw82 hfl hR kw83 => ?_)
      · refine (c45 _ D1 w82 (hO.same (shown_same hw82)).1.1 hD1).mono fun v w' ⟨q1, q2, _⟩ => ?_
        obtain ⟨va, vc, hv⟩ := q1.slice
        exact ⟨[v], ⟨⟨_, _, _, hv⟩, trivial⟩, rfl, v, rfl, q1, q2⟩
      obtain ⟨cl, rfl, hC, oC⟩ := hR
      have zzw83 : w81.heap.size ≤ w83.heap.size := Nat.le_trans (shown_same hw82).size kw83.size
      have zW : w.heap.size ≤ w83.heap.size := Nat.le_trans zW zzw83
      have hJw := hJ1 w82 w83 _ (hJ1 w81 w82 _ hJw (shown_same hw82) (fun b hb => hb.elim)) kw83 (fun b hb => hb.elim)
      have hO := (hO.same (shown_same hw82)).same kw83
      have hM := (hM.same (shown_same hw82)).same kw83
      have zC : w81.heap.size ≤ w82.heap.size := (shown_same hw82).size
      have oCw : ∀ g, cl.ownBlock = some g → w.heap.size ≤ g := fun g hg => by have := oC g hg; have zz := hw82.base.size; exact Nat.le_trans zz this
      have nC : ∀ g, cl.ownBlock = some g → g ≠ ba := fun g hg e => by have q1 := oC g hg; have q2 : ba < w82.heap.size := hw82.lt (i := 9) (by simp [keys]) rfl; omega
      refine den_norm (by simp only [List.cons_append, List.nil_append]; rfl) ?_
      have n4c : ∀ g, cl.ownBlock = some g → g ≠ b4 := fun g hg e => by have q1 := oC g hg; have q2 : b4 < w82.heap.size := hw82.lt (i := 4) (by simp [keys]) rfl; omega
      have ncm : ∀ g, cl.ownBlock = some g → g ≠ bm := fun g hg e => by have q1 := oC g hg; have q2 := hMold.lt (g := bm) rfl; omega
      intro w84 hw84
      refine ⟨fun b => FM b ∨ w.heap.size ≤ b, fun b hb => by simp [BlkIn, nth, blkOf, vaddr] at hb; rcases hb with hb | hb <;> (subst hb; exact .inr (by first | exact zba | exact z4)), ?_⟩
      have hJw := hJ1 w83 w84 _ hJw hw84.kept (fun b hb => by have e : ba = b := (by simpa [BlkIn, nth, blkOf, vaddr] using hb); rw [← e]; exact zba)
      have hC := hC.kept hw84.kept fun g hg hb => nC g hg (by simpa [BlkIn, nth, blkOf, vaddr] using hb : ba = g).symm
      have hM := hM.kept hw84.kept fun g hg hb => by cases hg; exact nM (by simpa [BlkIn, nth, blkOf, vaddr] using hb : ba = bm).symm
      have zW : w.heap.size ≤ w84.heap.size := Nat.le_trans zW hw84.kept.size
      have f0 := hw84.base
      have pk : ∀ (p : Nat) (l : List Value), PtsTo w (pt p) l → (p = p1 ∨ p = p2 ∨ p = p3) → PtsTo w84 (pt p) l := fun p l hp he => hp.kept f0 fun b hb hb2 => by have e : p = b := Option.some.inj hb; have q := hFM _ hb2; omega
      refine den_ldpD (i := 3) [f2] [f2] ⟨by rw [hf2]; rfl, trivial⟩ (whole _) (pk _ _ hp3 (.inr (.inr rfl))) (fun b hb => by cases hb; exact Xno p3 l3 (.inr (.inr rfl))) (den_norm (by simp only [List.cons_append, List.nil_append]; rfl) ?_)
      refine den_ldpD (i := 2) [.int .i64 mv] _ ⟨⟨_, rfl⟩, trivial⟩ z5s (pk _ _ hp2 (.inr (.inl rfl))) (fun b hb => by cases hb; exact Xno p2 l2 (.inr (.inl rfl))) (den_norm (by simp only [List.cons_append, List.nil_append]; rfl) ?_)
      refine den_callF (caps := caps2) (g := g2) rfl hf2 hg2 (fun _ b => FM b) (fun _ l w2 => ∃ s : Sl, l = [s.v] ∧ Old lo w2 s D2 ∧ J2 w2) (fun w85 hw85 b hb _ => ⟨fun _ => .inl hb, fun _ => hb, fun hin => ?_, fun hx => (by cases hx)⟩) (fun w85 hw85 => ?_) (fun w85 l w86 hw85 hfl hR kw86 => ?_)
      · have := nFM b hb
        simp [BlkIn, nth, blkOf, vaddr] at hin
        omega
      · refine (h2 w85 (hJ1 w84 w85 _ hJw (shown_same hw85) (fun b hb => hb.elim))).mono (fun v w' ⟨s, hv, ho, hj⟩ _ => ⟨[s.v], ⟨⟨_, _, _, rfl⟩, trivial⟩, hv, s, rfl, ho, hj⟩) (fun _ _ h => h)
      obtain ⟨s2, rfl, hO2, hJ2w⟩ := hR
      have hC := (hC.same (shown_same hw85)).kept kw86 fun g hg hb => nFM g hb (oCw g hg)
      have hM := (hM.same (shown_same hw85)).kept kw86 fun g hg hb => nFM g hb (oM g hg)
      refine den_norm (by simp only [List.cons_append, List.nil_append]; rfl) (den_copyM (T := 5) rfl u40 st5 bm m m (List.replicate m (0 : Int)) (.slice (some ⟨bm, 0, none⟩) m m) 0 m m rfl (.inl rfl) (by omega) s2.v D2 rfl (fun w87 hw87 => ⟨hM.same (shown_same hw87), (hO2.same (shown_same hw87)).1.1⟩) (fun w87 hw87 => ?_) (fun _ => rfl) (fun w87 w88 hw87 hM kw88 => den_norm (by simp only [List.cons_append, List.nil_append]; rfl) ?_))
      · exact ⟨fun _ => .inr (oM bm rfl), fun hlt => absurd (show bm < w.heap.size from hlt) (Nat.not_lt.2 (oM bm rfl)), fun hin => (by simp [BlkIn, nth, blkOf, vaddr] at hin; rcases hin with hin | hin <;> first | exact nM hin.symm | exact n4m hin), fun hx => (by cases hx)⟩
      rw [pad_copy hD2] at hM
      have nbm : ∀ g, cl.ownBlock = some g → g ≠ bm := ncm
      have hC := (hC.same (shown_same hw87)).kept kw88 fun g hg hb => nbm g hg hb
      have hJ2w := hJ2 w87 w88 _ (hJ2 w86 w87 _ hJ2w (shown_same hw87) (fun b hb => hb.elim)) kw88 (fun b hb => by subst hb; exact oM _ rfl)
      obtain ⟨ca, cc, hcl⟩ := hC.slice
      subst hcl
      refine den_leafA _ rfl (fun w89 hw89 => ?_)
      refine ⟨(⟨ca, D1.length, cc⟩, ⟨some ⟨bm, 0, none⟩, m, m⟩), rfl, ⟨hC.kept hw89.kept fun g hg hb => ?_, hM.kept hw89.kept fun g hg hb => ?_, oCw, oM⟩, hJ2 w88 w89 _ hJ2w hw89.kept (fun b hb => by have e : b4 = b := (by simpa [BlkIn, nth, blkOf, vaddr] using hb); rw [← e]; exact z4)⟩
      · exact n4c g hg (by simpa [BlkIn, nth, blkOf, vaddr] using hb : b4 = g).symm
      · cases hg; exact n4m (by simpa [BlkIn, nth, blkOf, vaddr] using hb : b4 = bm)
  · skip
    refine den_blk fun ba ka _ kaW => den_norm (by simp only [List.cons_append, List.nil_append]; rfl) ?_
    have zba : w.heap.size ≤ ba := kaW
    refine den_both ?_ ?_
    · skip
      refine den_callF (caps := caps1) (g := g1) rfl hf1 hg1 (fun _ b => FM b) (fun _ l w2 => ∃ s : Sl, l = [s.v] ∧ Old lo w2 s D1 ∧ J1 w2) (fun w90 hw90 b hb _ => ⟨fun _ => .inl hb, fun _ => hb, fun hin => ?_, fun hx => (by cases hx)⟩) (fun w90 hw90 => ?_) (fun w90 l w91 hw90 hfl hR kw91 => ?_)
      · have := nFM b hb
        simp [BlkIn, nth, blkOf, vaddr] at hin
        omega
      · refine (h1 w90 (hJ0 w1 w90 _ hJw (shown_same hw90) (fun b hb => hb.elim))).mono (fun v w' ⟨s, hv, ho, hj⟩ _ => ⟨[s.v], ⟨⟨_, _, _, rfl⟩, trivial⟩, hv, s, rfl, ho, hj⟩) (fun _ _ h => h)
      have zzw91 : w1.heap.size ≤ w91.heap.size := Nat.le_trans (shown_same hw90).size kw91.size
      have zW : w.heap.size ≤ w91.heap.size := Nat.le_trans zW zzw91
      obtain ⟨s1, rfl, hO, hJw⟩ := hR
      refine den_norm (by simp only [List.cons_append, List.nil_append]; rfl) ?_
      refine den_both ?_ ?_
      · skip
        refine den_callR (fun w2 l w3 => ∃ v, l = [v] ∧ Mine byteE 5 w3 v D1 ∧ ∀ g, v.ownBlock = some g → w2.heap.size ≤ g) (fun w92 hw92 => ?_) (fun w92 l w93 hw92 hfl hR kw93 => ?_)
        · refine (c45 _ D1 w92 (hO.same (shown_same hw92)).1.1 hD1).mono fun v w' ⟨q1, q2, _⟩ => ?_
          obtain ⟨va, vc, hv⟩ := q1.slice
          exact ⟨[v], ⟨⟨_, _, _, hv⟩, trivial⟩, rfl, v, rfl, q1, q2⟩
        obtain ⟨cl, rfl, hC, oC⟩ := hR
        have zzw93 : w91.heap.size ≤ w93.heap.size := Nat.le_trans (shown_same hw92).size kw93.size
        have zW : w.heap.size ≤ w93.heap.size := Nat.le_trans zW zzw93
        have hJw := hJ1 w92 w93 _ (hJ1 w91 w92 _ hJw (shown_same hw92) (fun b hb => hb.elim)) kw93 (fun b hb => hb.elim)
        have hO := (hO.same (shown_same hw92)).same kw93
        have zC : w91.heap.size ≤ w92.heap.size := (shown_same hw92).size
        have oCw : ∀ g, cl.ownBlock = some g → w.heap.size ≤ g := fun g hg => by have := oC g hg; have zz := hw92.base.size; exact Nat.le_trans zz this
        have nC : ∀ g, cl.ownBlock = some g → g ≠ ba := fun g hg e => by have q1 := oC g hg; have q2 : ba < w92.heap.size := hw92.lt (i := 8) (by simp [keys]) rfl; omega
        refine den_norm (by simp only [List.cons_append, List.nil_append]; rfl) ?_
        have n4c : ∀ g, cl.ownBlock = some g → g ≠ b4 := fun g hg e => by have q1 := oC g hg; have q2 : b4 < w92.heap.size := hw92.lt (i := 4) (by simp [keys]) rfl; omega
        have hCold := hC
        refine den_make (n := m) u40 i5 z5 rfl rfl hb5 (by omega) (fun v => rfl) (fun w94 bm w95 hw94 hbm hhm kw95 => ?_)
        have hM : Mine byteE 5 w95 (.slice (some ⟨bm, 0, none⟩) m m) (List.replicate m (0 : Int)) := mine_zeros (by omega) hhm
        have zzw95 : w93.heap.size ≤ w95.heap.size := Nat.le_trans (shown_same hw94).size kw95.size
        have zW : w.heap.size ≤ w95.heap.size := Nat.le_trans zW zzw95
        have hJw := hJ1 w94 w95 _ (hJ1 w93 w94 _ hJw (shown_same hw94) (fun b hb => hb.elim)) kw95 (fun b hb => hb.elim)
        have hO := (hO.same (shown_same hw94)).same kw95
        have hC := (hC.same (shown_same hw94)).same kw95
        have oM : ∀ g, (Value.slice (some ⟨bm, 0, none⟩) m m).ownBlock = some g → w.heap.size ≤ g := fun g hg => by cases hg; exact Nat.le_trans hw94.base.size hbm
        have zbm : w93.heap.size ≤ bm := Nat.le_trans (shown_same hw94).size hbm
        have n4m : b4 ≠ bm := fun e => by have q2 : b4 < w94.heap.size := hw94.lt (i := 4) (by simp [keys]) rfl; omega
        have nM : bm ≠ ba := fun e => by have q2 : ba < w94.heap.size := hw94.lt (i := 8) (by simp [keys]) rfl; omega
        refine den_norm (by simp only [List.cons_append, List.nil_append]; rfl) ?_
        have ncm : ∀ g, cl.ownBlock = some g → g ≠ bm := fun g hg e => by have q1 := hCold.lt hg; omega
        intro w96 hw96
        refine ⟨fun b => FM b ∨ w.heap.size ≤ b, fun b hb => by simp [BlkIn, nth, blkOf, vaddr] at hb; rcases hb with hb | hb <;> (subst hb; exact .inr (by first | exact zba | exact z4)), ?_⟩
        have hJw := hJ1 w95 w96 _ hJw hw96.kept (fun b hb => by have e : ba = b := (by simpa [BlkIn, nth, blkOf, vaddr] using hb); rw [← e]; exact zba)
        have hC := hC.kept hw96.kept fun g hg hb => nC g hg (by simpa [BlkIn, nth, blkOf, vaddr] using hb : ba = g).symm
        have hM := hM.kept hw96.kept fun g hg hb => by cases hg; exact nM (by simpa [BlkIn, nth, blkOf, vaddr] using hb : ba = bm).symm
        have zW : w.heap.size ≤ w96.heap.size := Nat.le_trans zW hw96.kept.size
        have f0 := hw96.base
        have pk : ∀ (p : Nat) (l : List Value), PtsTo w (pt p) l → (p = p1 ∨ p = p2 ∨ p = p3) → PtsTo w96 (pt p) l := fun p l hp he => hp.kept f0 fun b hb hb2 => by have e : p = b := Option.some.inj hb; have q := hFM _ hb2; omega
        refine den_ldpD (i := 3) [f2] [f2] ⟨by rw [hf2]; rfl, trivial⟩ (whole _) (pk _ _ hp3 (.inr (.inr rfl))) (fun b hb => by cases hb; exact Xno p3 l3 (.inr (.inr rfl))) (den_norm (by simp only [List.cons_append, List.nil_append]; rfl) ?_)
        refine den_ldpD (i := 2) [.int .i64 mv] _ ⟨⟨_, rfl⟩, trivial⟩ z5s (pk _ _ hp2 (.inr (.inl rfl))) (fun b hb => by cases hb; exact Xno p2 l2 (.inr (.inl rfl))) (den_norm (by simp only [List.cons_append, List.nil_append]; rfl) ?_)
        refine den_callF (caps := caps2) (g := g2) rfl hf2 hg2 (fun _ b => FM b) (fun _ l w2 => ∃ s : Sl, l = [s.v] ∧ Old lo w2 s D2 ∧ J2 w2) (fun w97 hw97 b hb _ => ⟨fun _ => .inl hb, fun _ => hb, fun hin => ?_, fun hx => (by cases hx)⟩) (fun w97 hw97 => ?_) (fun w97 l w98 hw97 hfl hR kw98 => ?_)
        · have := nFM b hb
          simp [BlkIn, nth, blkOf, vaddr] at hin
          omega
        · refine (h2 w97 (hJ1 w96 w97 _ hJw (shown_same hw97) (fun b hb => hb.elim))).mono (fun v w' ⟨s, hv, ho, hj⟩ _ => ⟨[s.v], ⟨⟨_, _, _, rfl⟩, trivial⟩, hv, s, rfl, ho, hj⟩) (fun _ _ h => h)
        obtain ⟨s2, rfl, hO2, hJ2w⟩ := hR
        have hC := (hC.same (shown_same hw97)).kept kw98 fun g hg hb => nFM g hb (oCw g hg)
        have hM := (hM.same (shown_same hw97)).kept kw98 fun g hg hb => nFM g hb (oM g hg)
        refine den_norm (by simp only [List.cons_append, List.nil_append]; rfl) (den_copyM (T := 5) rfl u40 st5 bm m m (List.replicate m (0 : Int)) (.slice (some ⟨bm, 0, none⟩) m m) 0 m m rfl (.inl rfl) (by omega) s2.v D2 rfl (fun w99 hw99 => ⟨hM.same (shown_same hw99), (hO2.same (shown_same hw99)).1.1⟩) (fun w99 hw99 => ?_) (fun _ => rfl) (fun w99 w100 hw99 hM kw100 => den_norm (by simp only [List.cons_append, List.nil_append]; rfl) ?_))
        · exact ⟨fun _ => .inr (oM bm rfl), fun hlt => absurd (show bm < w.heap.size from hlt) (Nat.not_lt.2 (oM bm rfl)), fun hin => (by simp [BlkIn, nth, blkOf, vaddr] at hin; rcases hin with hin | hin <;> first | exact nM hin.symm | exact n4m hin), fun hx => (by cases hx)⟩
        rw [pad_copy hD2] at hM
        have nbm : ∀ g, cl.ownBlock = some g → g ≠ bm := ncm
        have hC := (hC.same (shown_same hw99)).kept kw100 fun g hg hb => nbm g hg hb
        have hJ2w := hJ2 w99 w100 _ (hJ2 w98 w99 _ hJ2w (shown_same hw99) (fun b hb => hb.elim)) kw100 (fun b hb => by subst hb; exact oM _ rfl)
        obtain ⟨ca, cc, hcl⟩ := hC.slice
        subst hcl
        refine den_leafA _ rfl (fun w101 hw101 => ?_)
        refine ⟨(⟨ca, D1.length, cc⟩, ⟨some ⟨bm, 0, none⟩, m, m⟩), rfl, ⟨hC.kept hw101.kept fun g hg hb => ?_, hM.kept hw101.kept fun g hg hb => ?_, oCw, oM⟩, hJ2 w100 w101 _ hJ2w hw101.kept (fun b hb => by have e : b4 = b := (by simpa [BlkIn, nth, blkOf, vaddr] using hb); rw [← e]; exact z4)⟩
        · exact n4c g hg (by simpa [BlkIn, nth, blkOf, vaddr] using hb : b4 = g).symm
        · cases hg; exact n4m (by simpa [BlkIn, nth, blkOf, vaddr] using hb : b4 = bm)
      · skip
        refine den_make (n := m) u40 i5 z5 rfl rfl hb5 (by omega) (fun v => rfl) (fun w102 bm w103 hw102 hbm hhm kw103 => ?_)
        have hM : Mine byteE 5 w103 (.slice (some ⟨bm, 0, none⟩) m m) (List.replicate m (0 : Int)) := mine_zeros (by omega) hhm
        have zzw103 : w91.heap.size ≤ w103.heap.size := Nat.le_trans (shown_same hw102).size kw103.size
        have zW : w.heap.size ≤ w103.heap.size := Nat.le_trans zW zzw103
        have hJw := hJ1 w102 w103 _ (hJ1 w91 w102 _ hJw (shown_same hw102) (fun b hb => hb.elim)) kw103 (fun b hb => hb.elim)
        have hO := (hO.same (shown_same hw102)).same kw103
        have oM : ∀ g, (Value.slice (some ⟨bm, 0, none⟩) m m).ownBlock = some g → w.heap.size ≤ g := fun g hg => by cases hg; exact Nat.le_trans hw102.base.size hbm
        have zbm : w91.heap.size ≤ bm := Nat.le_trans (shown_same hw102).size hbm
        have n4m : b4 ≠ bm := fun e => by have q2 : b4 < w102.heap.size := hw102.lt (i := 4) (by simp [keys]) rfl; omega
        have nM : bm ≠ ba := fun e => by have q2 : ba < w102.heap.size := hw102.lt (i := 8) (by simp [keys]) rfl; omega
        refine den_norm (by simp only [List.cons_append, List.nil_append]; rfl) ?_
        have hMold := hM
        refine den_callR (fun w2 l w3 => ∃ v, l = [v] ∧ Mine byteE 5 w3 v D1 ∧ ∀ g, v.ownBlock = some g → w2.heap.size ≤ g) (fun w104 hw104 => ?_) (fun w104 l w105 hw104 hfl hR kw105 => ?_)
        · refine (c45 _ D1 w104 (hO.same (shown_same hw104)).1.1 hD1).mono fun v w' ⟨q1, q2, _⟩ => ?_
          obtain ⟨va, vc, hv⟩ := q1.slice
          exact ⟨[v], ⟨⟨_, _, _, hv⟩, trivial⟩, rfl, v, rfl, q1, q2⟩
        obtain ⟨cl, rfl, hC, oC⟩ := hR
        have zzw105 : w103.heap.size ≤ w105.heap.size := Nat.le_trans (shown_same hw104).size kw105.size
        have zW : w.heap.size ≤ w105.heap.size := Nat.le_trans zW zzw105
        have hJw := hJ1 w104 w105 _ (hJ1 w103 w104 _ hJw (shown_same hw104) (fun b hb => hb.elim)) kw105 (fun b hb => hb.elim)
        have hO := (hO.same (shown_same hw104)).same kw105
        have hM := (hM.same (shown_same hw104)).same kw105
        have zC : w103.heap.size ≤ w104.heap.size := (shown_same hw104).size
        have oCw : ∀ g, cl.ownBlock = some g → w.heap.size ≤ g := fun g hg => by have := oC g hg; have zz := hw104.base.size; exact Nat.le_trans zz this
        have nC : ∀ g, cl.ownBlock = some g → g ≠ ba := fun g hg e => by have q1 := oC g hg; have q2 : ba < w104.heap.size := hw104.lt (i := 8) (by simp [keys]) rfl; omega
        refine den_norm (by simp only [List.cons_append, List.nil_append]; rfl) ?_
        have n4c : ∀ g, cl.ownBlock = some g → g ≠ b4 := fun g hg e => by have q1 := oC g hg; have q2 : b4 < w104.heap.size := hw104.lt (i := 4) (by simp [keys]) rfl; omega
        have ncm : ∀ g, cl.ownBlock = some g → g ≠ bm := fun g hg e => by have q1 := oC g hg; have q2 := hMold.lt (g := bm) rfl; omega
        intro w106 hw106
        refine ⟨fun b => FM b ∨ w.heap.size ≤ b, fun b hb => by simp [BlkIn, nth, blkOf, vaddr] at hb; rcases hb with hb | hb <;> (subst hb; exact .inr (by first | exact zba | exact z4)), ?_⟩
        have hJw := hJ1 w105 w106 _ hJw hw106.kept (fun b hb => by have e : ba = b := (by simpa [BlkIn, nth, blkOf, vaddr] using hb); rw [← e]; exact zba)
        have hC := hC.kept hw106.kept fun g hg hb => nC g hg (by simpa [BlkIn, nth, blkOf, vaddr] using hb : ba = g).symm
        have hM := hM.kept hw106.kept fun g hg hb => by cases hg; exact nM (by simpa [BlkIn, nth, blkOf, vaddr] using hb : ba = bm).symm
        have zW : w.heap.size ≤ w106.heap.size := Nat.le_trans zW hw106.kept.size
        have f0 := hw106.base
        have pk : ∀ (p : Nat) (l : List Value), PtsTo w (pt p) l → (p = p1 ∨ p = p2 ∨ p = p3) → PtsTo w106 (pt p) l := fun p l hp he => hp.kept f0 fun b hb hb2 => by have e : p = b := Option.some.inj hb; have q := hFM _ hb2; omega
        refine den_ldpD (i := 3) [f2] [f2] ⟨by rw [hf2]; rfl, trivial⟩ (whole _) (pk _ _ hp3 (.inr (.inr rfl))) (fun b hb => by cases hb; exact Xno p3 l3 (.inr (.inr rfl))) (den_norm (by simp only [List.cons_append, List.nil_append]; rfl) ?_)
        refine den_ldpD (i := 2) [.int .i64 mv] _ ⟨⟨_, rfl⟩, trivial⟩ z5s (pk _ _ hp2 (.inr (.inl rfl))) (fun b hb => by cases hb; exact Xno p2 l2 (.inr (.inl rfl))) (den_norm (by simp only [List.cons_append, List.nil_append]; rfl) ?_)
        refine den_callF (caps := caps2) (g := g2) rfl hf2 hg2 (fun _ b => FM b) (fun _ l w2 => ∃ s : Sl, l = [s.v] ∧ Old lo w2 s D2 ∧ J2 w2) (fun w107 hw107 b hb _ => ⟨fun _ => .inl hb, fun _ => hb, fun hin => ?_, fun hx => (by cases hx)⟩) (fun w107 hw107 => ?_) (fun w107 l w108 hw107 hfl hR kw108 => ?_)
        · have := nFM b hb
          simp [BlkIn, nth, blkOf, vaddr] at hin
          omega
        · refine (h2 w107 (hJ1 w106 w107 _ hJw (shown_same hw107) (fun b hb => hb.elim))).mono (fun v w' ⟨s, hv, ho, hj⟩ _ => ⟨[s.v], ⟨⟨_, _, _, rfl⟩, trivial⟩, hv, s, rfl, ho, hj⟩) (fun _ _ h => h)
        obtain ⟨s2, rfl, hO2, hJ2w⟩ := hR
        have hC := (hC.same (shown_same hw107)).kept kw108 fun g hg hb => nFM g hb (oCw g hg)
        have hM := (hM.same (shown_same hw107)).kept kw108 fun g hg hb => nFM g hb (oM g hg)
        refine den_norm (by simp only [List.cons_append, List.nil_append]; rfl) (den_copyM (T := 5) rfl u40 st5 bm m m (List.replicate m (0 : Int)) (.slice (some ⟨bm, 0, none⟩) m m) 0 m m rfl (.inl rfl) (by omega) s2.v D2 rfl (fun w109 hw109 => ⟨hM.same (shown_same hw109), (hO2.same (shown_same hw109)).1.1⟩) (fun w109 hw109 => ?_) (fun _ => rfl) (fun w109 w110 hw109 hM kw110 => den_norm (by simp only [List.cons_append, List.nil_append]; rfl) ?_))
        · exact ⟨fun _ => .inr (oM bm rfl), fun hlt => absurd (show bm < w.heap.size from hlt) (Nat.not_lt.2 (oM bm rfl)), fun hin => (by simp [BlkIn, nth, blkOf, vaddr] at hin; rcases hin with hin | hin <;> first | exact nM hin.symm | exact n4m hin), fun hx => (by cases hx)⟩
        rw [pad_copy hD2] at hM
        have nbm : ∀ g, cl.ownBlock = some g → g ≠ bm := ncm
        have hC := (hC.same (shown_same hw109)).kept kw110 fun g hg hb => nbm g hg hb
        have hJ2w := hJ2 w109 w110 _ (hJ2 w108 w109 _ hJ2w (shown_same hw109) (fun b hb => hb.elim)) kw110 (fun b hb => by subst hb; exact oM _ rfl)
        obtain ⟨ca, cc, hcl⟩ := hC.slice
        subst hcl
        refine den_leafA _ rfl (fun w111 hw111 => ?_)
        refine ⟨(⟨ca, D1.length, cc⟩, ⟨some ⟨bm, 0, none⟩, m, m⟩), rfl, ⟨hC.kept hw111.kept fun g hg hb => ?_, hM.kept hw111.kept fun g hg hb => ?_, oCw, oM⟩, hJ2 w110 w111 _ hJ2w hw111.kept (fun b hb => by have e : b4 = b := (by simpa [BlkIn, nth, blkOf, vaddr] using hb); rw [← e]; exact z4)⟩
        · exact n4c g hg (by simpa [BlkIn, nth, blkOf, vaddr] using hb : b4 = g).symm
        · cases hg; exact n4m (by simpa [BlkIn, nth, blkOf, vaddr] using hb : b4 = bm)
    · skip
      refine den_make (n := m) u40 i5 z5 rfl rfl hb5 (by omega) (fun v => rfl) (fun w112 bm w113 hw112 hbm hhm kw113 => ?_)
      have hM : Mine byteE 5 w113 (.slice (some ⟨bm, 0, none⟩) m m) (List.replicate m (0 : Int)) := mine_zeros (by omega) hhm
      have zzw113 : w1.heap.size ≤ w113.heap.size := Nat.le_trans (shown_same hw112).size kw113.size
      have zW : w.heap.size ≤ w113.heap.size := Nat.le_trans zW zzw113
      have hJw := hJ0 w112 w113 _ (hJ0 w1 w112 _ hJw (shown_same hw112) (fun b hb => hb.elim)) kw113 (fun b hb => hb.elim)
      have oM : ∀ g, (Value.slice (some ⟨bm, 0, none⟩) m m).ownBlock = some g → w.heap.size ≤ g := fun g hg => by cases hg; exact Nat.le_trans hw112.base.size hbm
      have zbm : w1.heap.size ≤ bm := Nat.le_trans (shown_same hw112).size hbm
      have n4m : b4 ≠ bm := fun e => by have q2 : b4 < w112.heap.size := hw112.lt (i := 4) (by simp [keys]) rfl; omega
      have nM : bm ≠ ba := fun e => by have q2 : ba < w112.heap.size := hw112.lt (i := 8) (by simp [keys]) rfl; omega
      refine den_norm (by simp only [List.cons_append, List.nil_append]; rfl) ?_
      refine den_callF (caps := caps1) (g := g1) rfl hf1 hg1 (fun _ b => FM b) (fun _ l w2 => ∃ s : Sl, l = [s.v] ∧ Old lo w2 s D1 ∧ J1 w2) (fun w114 hw114 b hb _ => ⟨fun _ => .inl hb, fun _ => hb, fun hin => ?_, fun hx => (by cases hx)⟩) (fun w114 hw114 => ?_) (fun w114 l w115 hw114 hfl hR kw115 => ?_)
      · have := nFM b hb
        simp [BlkIn, nth, blkOf, vaddr] at hin
        omega
      · refine (h1 w114 (hJ0 w113 w114 _ hJw (shown_same hw114) (fun b hb => hb.elim))).mono (fun v w' ⟨s, hv, ho, hj⟩ _ => ⟨[s.v], ⟨⟨_, _, _, rfl⟩, trivial⟩, hv, s, rfl, ho, hj⟩) (fun _ _ h => h)
      have zzw115 : w113.heap.size ≤ w115.heap.size := Nat.le_trans (shown_same hw114).size kw115.size
      have zW : w.heap.size ≤ w115.heap.size := Nat.le_trans zW zzw115
      have hM := (hM.same (shown_same hw114)).kept kw115 fun g hg hb => nFM g hb (oM g hg)
      obtain ⟨s1, rfl, hO, hJw⟩ := hR
      refine den_norm (by simp only [List.cons_append, List.nil_append]; rfl) ?_
      have hMold := hM
      refine den_callR (fun w2 l w3 => ∃ v, l = [v] ∧ Mine byteE 5 w3 v D1 ∧ ∀ g, v.ownBlock = some g → w2.heap.size ≤ g) (fun w116 hw116 => ?_) (fun w116 l w117 hw116 hfl hR kw117 => ?_)
      · refine (c45 _ D1 w116 (hO.same (shown_same hw116)).1.1 hD1).mono fun v w' ⟨q1, q2, _⟩ => ?_
        obtain ⟨va, vc, hv⟩ := q1.slice
        exact ⟨[v], ⟨⟨_, _, _, hv⟩, trivial⟩, rfl, v, rfl, q1, q2⟩
      obtain ⟨cl, rfl, hC, oC⟩ := hR
      have zzw117 : w115.heap.size ≤ w117.heap.size := Nat.le_trans (shown_same hw116).size kw117.size
      have zW : w.heap.size ≤ w117.heap.size := Nat.le_trans zW zzw117
      have hJw := hJ1 w116 w117 _ (hJ1 w115 w116 _ hJw (shown_same hw116) (fun b hb => hb.elim)) kw117 (fun b hb => hb.elim)
      have hO := (hO.same (shown_same hw116)).same kw117
      have hM := (hM.same (shown_same hw116)).same kw117
      have zC : w115.heap.size ≤ w116.heap.size := (shown_same hw116).size
      have oCw : ∀ g, cl.ownBlock = some g → w.heap.size ≤ g := fun g hg => by have := oC g hg; have zz := hw116.base.size; exact Nat.le_trans zz this
      have nC : ∀ g, cl.ownBlock = some g → g ≠ ba := fun g hg e => by have q1 := oC g hg; have q2 : ba < w116.heap.size := hw116.lt (i := 8) (by simp [keys]) rfl; omega
      refine den_norm (by simp only [List.cons_append, List.nil_append]; rfl) ?_
      have n4c : ∀ g, cl.ownBlock = some g → g ≠ b4 := fun g hg e => by have q1 := oC g hg; have q2 : b4 < w116.heap.size := hw116.lt (i := 4) (by simp [keys]) rfl; omega
      have ncm : ∀ g, cl.ownBlock = some g → g ≠ bm := fun g hg e => by have q1 := oC g hg; have q2 := hMold.lt (g := bm) rfl; omega
      intro w118 hw118
      refine ⟨fun b => FM b ∨ w.heap.size ≤ b, fun b hb => by simp [BlkIn, nth, blkOf, vaddr] at hb; rcases hb with hb | hb <;> (subst hb; exact .inr (by first | exact zba | exact z4)), ?_⟩
      have hJw := hJ1 w117 w118 _ hJw hw118.kept (fun b hb => by have e : ba = b := (by simpa [BlkIn, nth, blkOf, vaddr] using hb); rw [← e]; exact zba)
      have hC := hC.kept hw118.kept fun g hg hb => nC g hg (by simpa [BlkIn, nth, blkOf, vaddr] using hb : ba = g).symm
      have hM := hM.kept hw118.kept fun g hg hb => by cases hg; exact nM (by simpa [BlkIn, nth, blkOf, vaddr] using hb : ba = bm).symm
      have zW : w.heap.size ≤ w118.heap.size := Nat.le_trans zW hw118.kept.size
      have f0 := hw118.base
      have pk : ∀ (p : Nat) (l : List Value), PtsTo w (pt p) l → (p = p1 ∨ p = p2 ∨ p = p3) → PtsTo w118 (pt p) l := fun p l hp he => hp.kept f0 fun b hb hb2 => by have e : p = b := Option.some.inj hb; have q := hFM _ hb2; omega
      refine den_ldpD (i := 3) [f2] [f2] ⟨by rw [hf2]; rfl, trivial⟩ (whole _) (pk _ _ hp3 (.inr (.inr rfl))) (fun b hb => by cases hb; exact Xno p3 l3 (.inr (.inr rfl))) (den_norm (by simp only [List.cons_append, List.nil_append]; rfl) ?_)
      refine den_ldpD (i := 2) [.int .i64 mv] _ ⟨⟨_, rfl⟩, trivial⟩ z5s (pk _ _ hp2 (.inr (.inl rfl))) (fun b hb => by cases hb; exact Xno p2 l2 (.inr (.inl rfl))) (den_norm (by simp only [List.cons_append, List.nil_append]; rfl) ?_)
      refine den_callF (caps := caps2) (g := g2) rfl hf2 hg2 (fun _ b => FM b) (fun _ l w2 => ∃ s : Sl, l = [s.v] ∧ Old lo w2 s D2 ∧ J2 w2) (fun w119 hw119 b hb _ => ⟨fun _ => .inl hb, fun _ => hb, fun hin => ?_, fun hx => (by cases hx)⟩) (fun w119 hw119 => ?_) (fun w119 l w120 hw119 hfl hR kw120 => ?_)
      · have := nFM b hb
        simp [BlkIn, nth, blkOf, vaddr] at hin
        omega
      · refine (h2 w119 (hJ1 w118 w119 _ hJw (shown_same hw119) (fun b hb => hb.elim))).mono (fun v w' ⟨s, hv, ho, hj⟩ _ => ⟨[s.v], ⟨⟨_, _, _, rfl⟩, trivial⟩, hv, s, rfl, ho, hj⟩) (fun _ _ h => h)
      obtain ⟨s2, rfl, hO2, hJ2w⟩ := hR
      have hC := (hC.same (shown_same hw119)).kept kw120 fun g hg hb => nFM g hb (oCw g hg)
      have hM := (hM.same (shown_same hw119)).kept kw120 fun g hg hb => nFM g hb (oM g hg)
      refine den_norm (by simp only [List.cons_append, List.nil_append]; rfl) (den_copyM (T := 5) rfl u40 st5 bm m m (List.replicate m (0 : Int)) (.slice (some ⟨bm, 0, none⟩) m m) 0 m m rfl (.inl rfl) (by omega) s2.v D2 rfl (fun w121 hw121 => ⟨hM.same (shown_same hw121), (hO2.same (shown_same hw121)).1.1⟩) (fun w121 hw121 => ?_) (fun _ => rfl) (fun w121 w122 hw121 hM kw122 => den_norm (by simp only [List.cons_append, List.nil_append]; rfl) ?_))
      · exact ⟨fun _ => .inr (oM bm rfl), fun hlt => absurd (show bm < w.heap.size from hlt) (Nat.not_lt.2 (oM bm rfl)), fun hin => (by simp [BlkIn, nth, blkOf, vaddr] at hin; rcases hin with hin | hin <;> first | exact nM hin.symm | exact n4m hin), fun hx => (by cases hx)⟩
      rw [pad_copy hD2] at hM
      have nbm : ∀ g, cl.ownBlock = some g → g ≠ bm := ncm
      have hC := (hC.same (shown_same hw121)).kept kw122 fun g hg hb => nbm g hg hb
      have hJ2w := hJ2 w121 w122 _ (hJ2 w120 w121 _ hJ2w (shown_same hw121) (fun b hb => hb.elim)) kw122 (fun b hb => by subst hb; exact oM _ rfl)
      obtain ⟨ca, cc, hcl⟩ := hC.slice
      subst hcl
      refine den_leafA _ rfl (fun w123 hw123 => ?_)
      refine ⟨(⟨ca, D1.length, cc⟩, ⟨some ⟨bm, 0, none⟩, m, m⟩), rfl, ⟨hC.kept hw123.kept fun g hg hb => ?_, hM.kept hw123.kept fun g hg hb => ?_, oCw, oM⟩, hJ2 w122 w123 _ hJ2w hw123.kept (fun b hb => by have e : b4 = b := (by simpa [BlkIn, nth, blkOf, vaddr] using hb); rw [← e]; exact z4)⟩
      · exact n4c g hg (by simpa [BlkIn, nth, blkOf, vaddr] using hb : b4 = g).symm
      · cases hg; exact n4m (by simpa [BlkIn, nth, blkOf, vaddr] using hb : b4 = bm)
end Go.Proofs.Ytngemhmjpphpaaa
