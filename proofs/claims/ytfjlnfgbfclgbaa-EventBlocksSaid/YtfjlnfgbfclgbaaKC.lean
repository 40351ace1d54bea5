/- The specification's Deliver. No conditions beyond those that each theorem names. -/
import Derived.Test.YtfjlnfgbfclgbaaKB
set_option maxRecDepth 100000
set_option maxHeartbeats 4000000
set_option linter.unusedVariables false
set_option linter.unusedSimpArgs false
namespace Go.Proofs.Ytfjlnfgbfclgbaa
open Go.Sx

theorem dl_cons_nil (n : Ntc) (L : List Ntc) (B : Int → Option Int) : dl (n :: L) [] B = (let d := dl L [] B; ⟨d.out, n :: d.left, d.R, d.B⟩) := by
  conv => lhs; unfold dl
theorem dl_cons_b (n : Ntc) (L : List Ntc) (r : Int) (R : List Int) (B : Int → Option Int) (h : (B n.t).isSome = true) : dl (n :: L) (r :: R) B = (let d := dl L (r :: R) B; ⟨d.out, n :: d.left, d.R, d.B⟩) := by
  conv => lhs; unfold dl
  rw [if_pos h]
theorem dl_cons_f (n : Ntc) (L : List Ntc) (r : Int) (R : List Int) (B : Int → Option Int) (h : (B n.t).isSome = false) : dl (n :: L) (r :: R) B = (let d := dl L R (upd B n.t n.p); ⟨(r, resI n) :: d.out, d.left, d.R, d.B⟩) := by
  conv => lhs; unfold dl
  rw [if_neg (by rw [h]; decide)]
theorem drop_cons {α : Type} {L : List α} {j : Nat} {x : α} (hx : L[j]? = some x) : L.drop j = x :: L.drop (j + 1) := by
  obtain ⟨h, rfl⟩ := List.getElem?_eq_some_iff.1 hx
  exact List.drop_eq_getElem_cons h

theorem c51 (lim cfg : Int) (R : List Int) (L : List Ntc) (B : Int → Option Int) (s1 s2 : Value) (Bl : Nat → Bool) (Pg : Nat → Int) (w : World) (h1 : Given hE w s1 R) (h2 : Given ntcE w s2 L) (hB : BOk B Bl Pg) (hok : ∀ n ∈ L, n.Ok ∧ n.t < 8) (hmL : L.length ≤ 60000) :
    GivesR Try.prog 51 [refV lim cfg s1 s2 Bl Pg] w (fun v w' => ∃ s1' s2' so Bl' Pg', v = .tuple #[refV lim cfg s1' s2' Bl' Pg', so] ∧ Given hE w' s1' (dl L R B).R ∧ Given ntcE w' s2' (dl L R B).left ∧ BOk (dl L R B).B Bl' Pg' ∧ Given resE w' so (dl L R B).out ∧ Fr w s1 s1' ∧ Fr w s2 s2') := by
  obtain ⟨a, c, rfl⟩ := h1.1.slice
  obtain ⟨a2, c2, rfl⟩ := h2.1.slice
  have hr := givesR (w := w) (R := fun v w' => ∃ s1' s2' so Bl' Pg', v = .tuple #[refV lim cfg s1' s2' Bl' Pg', so] ∧ Given hE w' s1' (dl L R B).R ∧ Given ntcE w' s2' (dl L R B).left ∧ BOk (dl L R B).B Bl' Pg' ∧ Given resE w' so (dl L R B).out ∧ Fr w (.slice a R.length c) s1' ∧ Fr w (.slice a2 L.length c2) s2') mix t51 rfl rfl (ε := [.int .i64 lim, .int .u32 cfg, .slice a R.length c, .slice a2 L.length c2, .bool (Bl 0), .bool (Bl 1), .bool (Bl 2), .bool (Bl 3), .bool (Bl 4), .bool (Bl 5), .bool (Bl 6), .bool (Bl 7), .int .u8 (Pg 0), .int .u8 (Pg 1), .int .u8 (Pg 2), .int .u8 (Pg 3), .int .u8 (Pg 4), .int .u8 (Pg 5), .int .u8 (Pg 6), .int .u8 (Pg 7)] ) ⟨⟨_, rfl⟩, ⟨_, rfl⟩, ⟨_, _, _, rfl⟩, ⟨_, _, _, rfl⟩, ⟨_, rfl⟩, ⟨_, rfl⟩, ⟨_, rfl⟩, ⟨_, rfl⟩, ⟨_, rfl⟩, ⟨_, rfl⟩, ⟨_, rfl⟩, ⟨_, rfl⟩, ⟨_, rfl⟩, ⟨_, rfl⟩, ⟨_, rfl⟩, ⟨_, rfl⟩, ⟨_, rfl⟩, ⟨_, rfl⟩, ⟨_, rfl⟩, ⟨_, rfl⟩, trivial⟩ ?_
  · exact hr
  refine den_blk fun b1 k1 _ _ => den_norm (by simp only [List.cons_append, List.nil_append]; rfl) (den_blk fun b2 k2 _ _ => den_norm (by simp only [List.cons_append, List.nil_append]; rfl) ?_)
  have z1 : w.heap.size ≤ b1 := k1
  have z2 : w.heap.size ≤ b2 := k2
  refine den_loop (fun ls w' => ∃ (j : Nat) (out lf : Value) (O : List (Int × Int)) (F : List Ntc) (r : Value) (R' : List Int) (B' : Int → Option Int) (Bl' : Nat → Bool) (Pg' : Nat → Int), j ≤ L.length ∧ ls = out :: lf :: .int .i64 (j : Int) :: refC lim cfg r (.slice a2 L.length c2) Bl' Pg' ∧
      Mine resE 49 w' out O ∧ Mine ntcE 23 w' lf F ∧ Given hE w' r R' ∧ BOk B' Bl' Pg' ∧ (∀ g, out.ownBlock = some g → w.heap.size ≤ g ∧ g ≠ b1 ∧ g ≠ b2) ∧ (∀ g, lf.ownBlock = some g → w.heap.size ≤ g ∧ g ≠ b1 ∧ g ≠ b2 ∧ out.ownBlock ≠ some g) ∧ ((∀ ad, vaddr r = some ad → ad.block < w.heap.size) ∧ Fr w (.slice a R.length c) r) ∧ O.length ≤ j ∧ F.length ≤ j ∧
      O ++ (dl (L.drop j) R' B').out = (dl L R B).out ∧ F ++ (dl (L.drop j) R' B').left = (dl L R B).left ∧ (dl (L.drop j) R' B').R = (dl L R B).R ∧ (dl (L.drop j) R' B').B = (dl L R B).B)
    (fun ls _ => L.length - (vint (nth ls 2)).toNat) (fun w1 hw1 => ⟨0, _, _, [], [], _, R, B, Bl, Pg, Nat.zero_le _, rfl, Mine.nil, Mine.nil, h1.kept hw1.base fun ad had hx => hx, hB, (fun g hg => by cases hg), (fun g hg => by cases hg), ⟨h1.2.2.2, Fr.refl _ _⟩, Nat.le_refl _, Nat.le_refl _, rfl, rfl, rfl, rfl⟩) ?_
  rintro w1 l w2 hw1 hfl ⟨j, out, lf, O, F, r, R', B', Bl', Pg', hj, rfl, hO, hF, hR, hB', hOb, hFb, ⟨hRlt, hRfr⟩, lO, lF, d1, d2, d3, d4⟩ hk2 hfa2
  obtain ⟨oa, oc, rfl⟩ := hO.slice
  obtain ⟨fa, fc, rfl⟩ := hF.slice
  obtain ⟨ra, rc, rfl⟩ := hR.1.slice
  have zW : w.heap.size ≤ w2.heap.size := hk2.size
  have hA := h2.same hk2
  have f1 : b2 < w2.heap.size ∧ b1 < w2.heap.size := by
    obtain ⟨x1, q1, l1⟩ := hfa2.1.lt
    obtain ⟨x2, q2, l2⟩ := hfa2.2.1.lt
    cases q1
    cases q2
    exact ⟨l1, l2⟩
  refine den_norm (by simp only [List.cons_append, List.nil_append, refC]; rfl) (den_splitLt (fun hlt => ?_) (fun hge => ?_))
  rotate_left
  · have hge' : L.length ≤ j := by simpa [IE.den, nth, vint, vlen] using hge
    have e1 : L.drop j = [] := List.drop_eq_nil_of_le hge'
    rw [e1] at d1 d2 d3 d4
    have d0 : dl [] R' B' = ⟨[], [], R', B'⟩ := by unfold dl; rfl
    rw [d0] at d1 d2 d3 d4
    simp only [List.append_nil] at d1 d2
    refine den_leaf' fun w3 h3 => (if_neg (by decide)).mpr ⟨_, rfl, ⟨.slice ra R'.length rc, .slice fa F.length fc, .slice oa O.length oc, Bl', Pg', rfl, ?_, ?_, ?_, ?_, hRfr, Fr.new fun ad had => (hFb _ (hF.own had)).1⟩, h3.base⟩
    · rw [← d3]
      exact hR.kept h3.kept fun ad had hx => by have := hRlt ad had; simp [BlkIn, nth, blkOf, vaddr] at hx; omega
    · rw [← d2]
      exact (hF.kept h3.kept fun g hg hx => by have := hFb g hg; simp [BlkIn, nth, blkOf, vaddr] at hx; omega).given
    · rw [← d4]; exact hB'
    · rw [← d1]
      exact (hO.kept h3.kept fun g hg hx => by have := hOb g hg; simp [BlkIn, nth, blkOf, vaddr] at hx; omega).given
  have hlt' : j < L.length := by simpa [IE.den, nth, vint, vlen] using hlt
  have hx : L[j]? = some (L[j]'hlt') := by simp
  generalize L[j]'hlt' = x at hx
  obtain ⟨hxo, hx8⟩ := hok x (List.mem_of_getElem? hx)
  rw [drop_cons hx] at d1 d2 d3 d4
  refine den_idx2 (E := ntcE) (L := L) x j [.int .u8 x.t, .int .u8 x.i, .int .u8 x.p] hA.1 rfl (by decide) rfl hx ⟨⟨_, rfl⟩, ⟨_, rfl⟩, ⟨_, rfl⟩, trivial⟩ (whole _) (fun w3 h3 => (hA.same (shown_same h3)).1) (fun ad had hin => by simp [BlkIn, nth, blkOf, vaddr] at hin) (fun w3 h3 => den_norm (by simp only [List.cons_append, List.nil_append]; rfl) ?_)
  have s3 := shown_same h3
  have hO3 := hO.same s3
  have hF3 := hF.same s3
  have hR3 := hR.same s3
  have z3 : w2.heap.size ≤ w3.heap.size := h3.kept.size
  refine den_blk fun b5 k5 _ _ => den_norm (by simp only [List.cons_append, List.nil_append]; rfl) ?_
  have z5 : w3.heap.size ≤ b5 := k5
  refine den_splitEq (fun h0 => ?_) (fun h0 => ?_)
  · have h0' : R' = [] := List.eq_nil_of_length_eq_zero (by have : (R'.length : Int) = 0 := h0; omega)
    subst h0'
    rw [dl_cons_nil] at d1 d2 d3 d4
    refine den_blk fun b6 k6 _ _ => den_norm (by simp only [List.cons_append, List.nil_append]; rfl) ?_
    have z6 : w3.heap.size ≤ b6 := k6
    refine den_push (E := ntcE) (T := 23) rfl u57 i23 z23 s23 rfl (by decide) by23 ntc_one (.slice fa F.length fc) F x rfl rfl rfl (by omega) (fun g hg _ => .inl (hFb g hg).1) (by simp [keys]) (fun wa ha => (hF3.kept ha.kept fun g hg hx => by have := hF3.lt hg; simp [BlkIn, nth, blkOf, vaddr] at hx; omega)) ?_ (fun hd => by cases hd) (fun _ => rfl) (fun wa v' wb ha hv' kab hfr hap => den_norm (by simp only [List.cons_append, List.nil_append]; rfl) ?_)
    · intro g hg _ hin2
      have q1 := hF3.lt hg
      have q2 := hFb g hg
      simp [BlkIn, nth, blkOf, vaddr] at hin2
      omega
    have za : w3.heap.size ≤ wa.heap.size := ha.kept.size
    have la : b5 < wa.heap.size := ha.lt (i := 48) (by simp [keys]) rfl
    have lb : b6 < wa.heap.size := ha.lt (i := 49) (by simp [keys]) rfl
    have hO4 := (hO3.kept ha.kept fun g hg hx => by have := hO3.lt hg; simp [BlkIn, nth, blkOf, vaddr] at hx; omega).kept kab fun g hg hb => (hFb g hb.1).2.2.2 hg
    have hR4 := (hR3.kept ha.kept fun ad had hx => by have := hR3.2.2.2 ad had; simp [BlkIn, nth, blkOf, vaddr] at hx; omega).kept kab fun ad had hb => by have := (hFb _ hb.1).1; have := hRlt ad had; omega
    have hFb' : ∀ g, v'.ownBlock = some g → w.heap.size ≤ g ∧ g ≠ b1 ∧ g ≠ b2 ∧ g ≠ b5 ∧ g ≠ b6 ∧ (Value.slice oa O.length oc).ownBlock ≠ some g := fun g hg => by
      rcases hfr with ⟨q1, _⟩ | ⟨b', q1, hb', _⟩
      · rw [q1] at hg
        have q2 := hFb g hg
        have q3 := hF3.lt hg
        exact ⟨q2.1, q2.2.1, q2.2.2.1, by omega, by omega, q2.2.2.2⟩
      · rw [q1] at hg
        have q4 : b' = g := Option.some.inj hg
        exact ⟨by omega, by omega, by omega, by omega, by omega, fun e => by have := hO3.lt e; omega⟩
    refine den_ob64 (by simp only [IE.den, nth, vint]; omega) (den_leaf' fun w8 h8 => (if_pos rfl).mpr ⟨⟨j + 1, .slice oa O.length oc, v', O, F ++ [x], .slice ra ([] : List Int).length rc, [], B', Bl', Pg', by omega, by simp [SV.den, denL, IE.den, BE.den, nth, vint, vbool, vaddr, addO, addr_add, refC], hO4.same (shown_same h8), hv'.same (shown_same h8), hR4.same (shown_same h8), hB', hOb, fun g hg => ⟨(hFb' g hg).1, (hFb' g hg).2.1, (hFb' g hg).2.2.1, (hFb' g hg).2.2.2.2.2⟩, ⟨hRlt, hRfr⟩, by omega, by rw [List.length_append]; simp; omega, d1, by rw [← d2]; simp, d3, d4⟩, ?_⟩)
    simp only [denL, SV.den, IE.den, nth, vint]; omega
  have hr0 : R' ≠ [] := fun e => h0 (by rw [e]; rfl)
  obtain ⟨r0, R2, rfl⟩ : ∃ r0 R2, R' = r0 :: R2 := by
    cases R' with
    | nil => exact absurd rfl hr0
    | cons r0 R2 => exact ⟨r0, R2, rfl⟩
  refine den_ob (by simp [BE.den, IE.den, nth, vint]; exact hxo.t.1) (den_ob (by simp [BE.den, IE.den, nth, vint]; exact hx8) ?_)
  refine den_splitEq (fun hk => ?_) (fun hk0 => ?_)
  · have hk' : x.t = 0 := hk
    have hBk := hB'.lo 0 (by decide)
    refine den_split (fun hb => ?_) (fun hb => ?_)
    · have hb' : Bl' 0 = true := hb
      rw [dl_cons_b x _ _ _ _ (by rw [hk']; rw [hb'] at hBk; simp at hBk; rw [hBk]; rfl)] at d1 d2 d3 d4
      refine den_blk fun b6 k6 _ _ => den_norm (by simp only [List.cons_append, List.nil_append]; rfl) ?_
      have z6 : w3.heap.size ≤ b6 := k6
      refine den_push (E := ntcE) (T := 23) rfl u57 i23 z23 s23 rfl (by decide) by23 ntc_one (.slice fa F.length fc) F x rfl rfl rfl (by omega) (fun g hg _ => .inl (hFb g hg).1) (by simp [keys]) (fun wa ha => (hF3.kept ha.kept fun g hg hx => by have := hF3.lt hg; simp [BlkIn, nth, blkOf, vaddr] at hx; omega)) ?_ (fun hd => by cases hd) (fun _ => rfl) (fun wa v' wb ha hv' kab hfr hap => den_norm (by simp only [List.cons_append, List.nil_append]; rfl) ?_)
      · intro g hg _ hin2
        have q1 := hF3.lt hg
        have q2 := hFb g hg
        simp [BlkIn, nth, blkOf, vaddr] at hin2
        omega
      have za : w3.heap.size ≤ wa.heap.size := ha.kept.size
      have la : b5 < wa.heap.size := ha.lt (i := 48) (by simp [keys]) rfl
      have lb : b6 < wa.heap.size := ha.lt (i := 49) (by simp [keys]) rfl
      have hO4 := (hO3.kept ha.kept fun g hg hx => by have := hO3.lt hg; simp [BlkIn, nth, blkOf, vaddr] at hx; omega).kept kab fun g hg hb => (hFb g hb.1).2.2.2 hg
      have hR4 := (hR3.kept ha.kept fun ad had hx => by have := hR3.2.2.2 ad had; simp [BlkIn, nth, blkOf, vaddr] at hx; omega).kept kab fun ad had hb => by have := (hFb _ hb.1).1; have := hRlt ad had; omega
      have hFb' : ∀ g, v'.ownBlock = some g → w.heap.size ≤ g ∧ g ≠ b1 ∧ g ≠ b2 ∧ g ≠ b5 ∧ g ≠ b6 ∧ (Value.slice oa O.length oc).ownBlock ≠ some g := fun g hg => by
        rcases hfr with ⟨q1, _⟩ | ⟨b', q1, hb', _⟩
        · rw [q1] at hg
          have q2 := hFb g hg
          have q3 := hF3.lt hg
          exact ⟨q2.1, q2.2.1, q2.2.2.1, by omega, by omega, q2.2.2.2⟩
        · rw [q1] at hg
          have q4 : b' = g := Option.some.inj hg
          exact ⟨by omega, by omega, by omega, by omega, by omega, fun e => by have := hO3.lt e; omega⟩
      refine den_ob64 (by simp only [IE.den, nth, vint]; omega) (den_leaf' fun w8 h8 => (if_pos rfl).mpr ⟨⟨j + 1, .slice oa O.length oc, v', O, F ++ [x], .slice ra (r0 :: R2).length rc, r0 :: R2, B', Bl', Pg', by omega, by simp [SV.den, denL, IE.den, BE.den, nth, vint, vbool, vaddr, addO, addr_add, refC], hO4.same (shown_same h8), hv'.same (shown_same h8), hR4.same (shown_same h8), hB', hOb, fun g hg => ⟨(hFb' g hg).1, (hFb' g hg).2.1, (hFb' g hg).2.2.1, (hFb' g hg).2.2.2.2.2⟩, ⟨hRlt, hRfr⟩, by omega, by rw [List.length_append]; simp; omega, d1, by rw [← d2]; simp, d3, d4⟩, ?_⟩)
      simp only [denL, SV.den, IE.den, nth, vint]; omega
    · have hb' : Bl' 0 = false := hb
      rw [dl_cons_f x _ _ _ _ (by rw [hk']; rw [hb'] at hBk; simp at hBk; rw [hBk]; rfl)] at d1 d2 d3 d4
      have hBu := hB'.upd 0 (by decide) x.t x.p hk'
      intro w4 h4
      refine ⟨fun y => (Value.slice oa O.length oc).ownBlock = some y ∨ y = b5 ∨ y = b2 ∨ y = b1, fun y hy => by simp [BlkIn, nth, blkOf, vaddr] at hy; omega, ?_⟩
      have z4 : w3.heap.size ≤ w4.heap.size := h4.kept.size
      have hO4 := hO3.kept h4.kept fun g hg hx => by have := hO3.lt hg; simp [BlkIn, nth, blkOf, vaddr] at hx; omega
      have hF4 := hF3.kept h4.kept fun g hg hx => by have := hF3.lt hg; simp [BlkIn, nth, blkOf, vaddr] at hx; omega
      have hR4 := hR3.kept h4.kept fun ad had hx => by have := hR3.2.2.2 ad had; simp [BlkIn, nth, blkOf, vaddr] at hx; omega
      obtain ⟨ad, had, hcell⟩ := hR4.1.elem (j := 0) (x := r0) rfl (by decide)
      have hadv : ra = some ad := had
      refine den_ob (by simp [BE.den, IE.den, nth, vlen]) (den_ob (by simp [BE.den, nth, vnil, hadv]) ?_)
      refine den_load [.int .u16 r0] ad ⟨⟨_, rfl⟩, trivial⟩ (by simp [SV.den, IE.den, nth, vaddr, hadv, addO, Addr.add]) (fun hX => ?_) (fun jj v hv => ?_) (den_norm (by simp only [List.cons_append, List.nil_append]; rfl) ?_)
      · have := hRlt ad had
        have := hR3.2.2.2 ad had
        rcases hX with hX | hX
        · have := hOb _ hX
          omega
        · omega
      · cases jj with
        | zero =>
          have := hcell 0 v hv
          simpa [Addr.add] using this
        | succ jj => simp at hv
      have lb5 : b5 < w4.heap.size := h4.lt (i := 48) (by simp [keys]) rfl
      refine den_call_int (x := resI x) (fun wa _ => c11 x hxo wa) rfl (fun wa wb ha hab => den_norm (by simp only [List.cons_append, List.nil_append]; rfl) (den_blk fun b6 k6 _ _ => den_norm (by simp only [List.cons_append, List.nil_append]; rfl) ?_))
      have za : w4.heap.size ≤ wa.heap.size := ha.kept.size
      have zab : wa.heap.size ≤ wb.heap.size := hab.size
      have z6 : wb.heap.size ≤ b6 := k6
      have hOb1 := (hO4.same (shown_same ha)).same hab
      have hFb1 := (hF4.same (shown_same ha)).same hab
      have hRb1 := (hR4.same (shown_same ha)).same hab
      refine den_push (E := resE) (T := 49) rfl u46 i49 z49 s49 rfl (by decide) by49 res_one (.slice oa O.length oc) O (r0, resI x) rfl rfl rfl (by omega) (fun g hg _ => .inl (hOb g hg).1) (by simp [keys]) (fun wc hc => hOb1.same (shown_same hc)) ?_ (fun _ g hg _ => .inl hg) (fun _ => rfl) (fun wc v' wd hc hv' kcd hfr hap => den_norm (by simp only [List.cons_append, List.nil_append]; rfl) ?_)
      · intro g hg _ hin
        have q1 := hO3.lt hg
        have q2 := hOb g hg
        simp [BlkIn, nth, blkOf, vaddr] at hin
        omega
      have zbc : wb.heap.size ≤ wc.heap.size := hc.kept.size
      have zcd : wc.heap.size ≤ wd.heap.size := kcd.size
      have hFd := (hFb1.same (shown_same hc)).kept kcd fun g hg hb => (hFb g hg).2.2.2 hb.1
      have hRd := (hRb1.same (shown_same hc)).kept kcd fun ad2 had2 hb => by have := (hOb _ hb.1).1; have := hRlt ad2 had2; omega
      have lb6 : b6 < wc.heap.size := hc.lt (i := 51) (by simp [keys]) rfl
      have hOb' : ∀ g, v'.ownBlock = some g → w.heap.size ≤ g ∧ g ≠ b1 ∧ g ≠ b2 ∧ g ≠ b5 ∧ g ≠ b6 ∧ (Value.slice fa F.length fc).ownBlock ≠ some g := fun g hg => by
        rcases hfr with ⟨q1, _⟩ | ⟨b', q1, hb', _⟩
        · rw [q1] at hg
          have q2 := hOb g hg
          have q3 := hO3.lt hg
          exact ⟨q2.1, q2.2.1, q2.2.2, by omega, by omega, fun e => (hFb g e).2.2.2 hg⟩
        · rw [q1] at hg
          have q4 : b' = g := Option.some.inj hg
          exact ⟨by omega, by omega, by omega, by omega, by omega, fun e => by have := hF3.lt e; omega⟩
      have hFb'' : ∀ g, (Value.slice fa F.length fc).ownBlock = some g → w.heap.size ≤ g ∧ g ≠ b1 ∧ g ≠ b2 ∧ v'.ownBlock ≠ some g := fun g hg => ⟨(hFb g hg).1, (hFb g hg).2.1, (hFb g hg).2.2.1, fun e => (hOb' g e).2.2.2.2.2 hg⟩
      intro we he
      refine den_slice ra (r0 :: R2).length rc (some (1 : Int)) none none 1 (r0 :: R2).length rc 1 u35 st37 (fun ρ h => h.1) (fun ρ h => congrArg some h.2.1) (fun _ _ => rfl) (fun _ _ => rfl) (.inl ⟨rfl, rfl⟩) (.inl ⟨rfl, rfl, rfl⟩) (.inr ⟨rfl, by simp⟩) (fun _ => rfl) ?_
      have hRe := hRd.kept he.kept fun ad2 had2 hx => by have := hRlt ad2 had2; simp [BlkIn, nth, blkOf, vaddr] at hx; try omega
      obtain ⟨sa1, sc1, hs1, hg1, hs1b⟩ := given_tail hRe
      rw [hs1]
      refine den_norm (by simp only [List.cons_append, List.nil_append]; rfl) ?_
      have hRlt' : ∀ ad2, vaddr (.slice sa1 R2.length sc1) = some ad2 → ad2.block < w.heap.size := fun ad2 h2 => by
        obtain ⟨ad3, h3', h4'⟩ := hs1b ad2 h2
        rw [← h4']
        exact hRlt ad3 h3'
      have hRfr' : Fr w (.slice a R.length c) (.slice sa1 R2.length sc1) := fun ad2 h2 => by
        obtain ⟨ad3, h3', h4'⟩ := hs1b ad2 h2
        rw [← h4']
        exact hRfr ad3 h3'
      refine den_startF fun wf hf => ?_
      have fin1 : ∀ {wz : World} {M : Nat → Prop}, Kept M wf wz → (∀ b, M b → b = b1 ∨ b = b2 ∨ b = b5 ∨ b = b6) → Mine resE 49 wz v' (O ++ [(r0, resI x)]) := fun {wz M} hk hM => ((hv'.kept he.kept fun g hg hb => by have := hOb' g hg; simp [BlkIn, nth, blkOf, vaddr] at hb; try omega).kept hf.kept fun g hg hb => by have := hOb' g hg; simp [BlkIn, nth, blkOf, vaddr] at hb; try omega).kept hk fun g hg hb => by have := hOb' g hg; have := hM _ hb; omega
      have fin2 : ∀ {wz : World} {M : Nat → Prop}, Kept M wf wz → (∀ b, M b → b = b1 ∨ b = b2 ∨ b = b5 ∨ b = b6) → Mine ntcE 23 wz (.slice fa F.length fc) F := fun {wz M} hk hM => ((hFd.kept he.kept fun g hg hb => by have := hFb g hg; have := hF3.lt hg; simp [BlkIn, nth, blkOf, vaddr] at hb; try omega).kept hf.kept fun g hg hb => by have := hFb g hg; have := hF3.lt hg; simp [BlkIn, nth, blkOf, vaddr] at hb; try omega).kept hk fun g hg hb => by have := hFb g hg; have := hF3.lt hg; have := hM _ hb; omega
      have fin3 : ∀ {wz : World} {M : Nat → Prop}, Kept M wf wz → (∀ b, M b → b = b1 ∨ b = b2 ∨ b = b5 ∨ b = b6) → Given hE wz (.slice sa1 R2.length sc1) R2 := fun {wz M} hk hM => (hg1.kept hf.kept fun ad2 had2 hb => by have := hRlt' ad2 had2; simp [BlkIn, nth, blkOf, vaddr] at hb; omega).kept hk fun ad2 had2 hb => by have := hRlt' ad2 had2; have := hM _ hb; omega
      refine den_ob (by simp [BE.den, IE.den, nth, vint]; omega) (den_ob (by simp [BE.den, IE.den, nth, vint]; omega) (den_ob (by simp [BE.den, IE.den, nth, vint]; omega) (den_ob (by simp [BE.den, IE.den, nth, vint]; omega) ?_)))
      refine den_ob64 (by simp only [IE.den, nth, vint]; omega) (den_leaf' fun w8 h8 => (if_pos rfl).mpr ⟨⟨j + 1, v', .slice fa F.length fc, O ++ [(r0, resI x)], F, .slice sa1 R2.length sc1, R2, upd B' x.t x.p, _, _, by omega, ?_, fin1 h8.kept fun b hb => by simp [BlkIn, nth, blkOf, vaddr] at hb; omega, fin2 h8.kept fun b hb => by simp [BlkIn, nth, blkOf, vaddr] at hb; omega, fin3 h8.kept fun b hb => by simp [BlkIn, nth, blkOf, vaddr] at hb; omega, hBu, fun g hg => ⟨(hOb' g hg).1, (hOb' g hg).2.1, (hOb' g hg).2.2.1⟩, hFb'', ⟨hRlt', hRfr'⟩, by rw [List.length_append]; simp; omega, by omega, by rw [← d1]; simp, d2, d3, d4⟩, ?_⟩)
      · simp [SV.den, denL, IE.den, BE.den, nth, vint, vbool, vaddr, addO, addr_add, refC]
      · simp only [denL, SV.den, IE.den, nth, vint]; omega
  refine den_splitEq (fun hk => ?_) (fun hk1 => ?_)
  · have hk' : x.t = 1 := hk
    have hBk := hB'.lo 1 (by decide)
    refine den_split (fun hb => ?_) (fun hb => ?_)
    · have hb' : Bl' 1 = true := hb
      rw [dl_cons_b x _ _ _ _ (by rw [hk']; rw [hb'] at hBk; simp at hBk; rw [hBk]; rfl)] at d1 d2 d3 d4
      refine den_blk fun b6 k6 _ _ => den_norm (by simp only [List.cons_append, List.nil_append]; rfl) ?_
      have z6 : w3.heap.size ≤ b6 := k6
      refine den_push (E := ntcE) (T := 23) rfl u57 i23 z23 s23 rfl (by decide) by23 ntc_one (.slice fa F.length fc) F x rfl rfl rfl (by omega) (fun g hg _ => .inl (hFb g hg).1) (by simp [keys]) (fun wa ha => (hF3.kept ha.kept fun g hg hx => by have := hF3.lt hg; simp [BlkIn, nth, blkOf, vaddr] at hx; omega)) ?_ (fun hd => by cases hd) (fun _ => rfl) (fun wa v' wb ha hv' kab hfr hap => den_norm (by simp only [List.cons_append, List.nil_append]; rfl) ?_)
      · intro g hg _ hin2
        have q1 := hF3.lt hg
        have q2 := hFb g hg
        simp [BlkIn, nth, blkOf, vaddr] at hin2
        omega
      have za : w3.heap.size ≤ wa.heap.size := ha.kept.size
      have la : b5 < wa.heap.size := ha.lt (i := 48) (by simp [keys]) rfl
      have lb : b6 < wa.heap.size := ha.lt (i := 49) (by simp [keys]) rfl
      have hO4 := (hO3.kept ha.kept fun g hg hx => by have := hO3.lt hg; simp [BlkIn, nth, blkOf, vaddr] at hx; omega).kept kab fun g hg hb => (hFb g hb.1).2.2.2 hg
      have hR4 := (hR3.kept ha.kept fun ad had hx => by have := hR3.2.2.2 ad had; simp [BlkIn, nth, blkOf, vaddr] at hx; omega).kept kab fun ad had hb => by have := (hFb _ hb.1).1; have := hRlt ad had; omega
      have hFb' : ∀ g, v'.ownBlock = some g → w.heap.size ≤ g ∧ g ≠ b1 ∧ g ≠ b2 ∧ g ≠ b5 ∧ g ≠ b6 ∧ (Value.slice oa O.length oc).ownBlock ≠ some g := fun g hg => by
        rcases hfr with ⟨q1, _⟩ | ⟨b', q1, hb', _⟩
        · rw [q1] at hg
          have q2 := hFb g hg
          have q3 := hF3.lt hg
          exact ⟨q2.1, q2.2.1, q2.2.2.1, by omega, by omega, q2.2.2.2⟩
        · rw [q1] at hg
          have q4 : b' = g := Option.some.inj hg
          exact ⟨by omega, by omega, by omega, by omega, by omega, fun e => by have := hO3.lt e; omega⟩
      refine den_ob64 (by simp only [IE.den, nth, vint]; omega) (den_leaf' fun w8 h8 => (if_pos rfl).mpr ⟨⟨j + 1, .slice oa O.length oc, v', O, F ++ [x], .slice ra (r0 :: R2).length rc, r0 :: R2, B', Bl', Pg', by omega, by simp [SV.den, denL, IE.den, BE.den, nth, vint, vbool, vaddr, addO, addr_add, refC], hO4.same (shown_same h8), hv'.same (shown_same h8), hR4.same (shown_same h8), hB', hOb, fun g hg => ⟨(hFb' g hg).1, (hFb' g hg).2.1, (hFb' g hg).2.2.1, (hFb' g hg).2.2.2.2.2⟩, ⟨hRlt, hRfr⟩, by omega, by rw [List.length_append]; simp; omega, d1, by rw [← d2]; simp, d3, d4⟩, ?_⟩)
      simp only [denL, SV.den, IE.den, nth, vint]; omega
    · have hb' : Bl' 1 = false := hb
      rw [dl_cons_f x _ _ _ _ (by rw [hk']; rw [hb'] at hBk; simp at hBk; rw [hBk]; rfl)] at d1 d2 d3 d4
      have hBu := hB'.upd 1 (by decide) x.t x.p hk'
      intro w4 h4
      refine ⟨fun y => (Value.slice oa O.length oc).ownBlock = some y ∨ y = b5 ∨ y = b2 ∨ y = b1, fun y hy => by simp [BlkIn, nth, blkOf, vaddr] at hy; omega, ?_⟩
      have z4 : w3.heap.size ≤ w4.heap.size := h4.kept.size
      have hO4 := hO3.kept h4.kept fun g hg hx => by have := hO3.lt hg; simp [BlkIn, nth, blkOf, vaddr] at hx; omega
      have hF4 := hF3.kept h4.kept fun g hg hx => by have := hF3.lt hg; simp [BlkIn, nth, blkOf, vaddr] at hx; omega
      have hR4 := hR3.kept h4.kept fun ad had hx => by have := hR3.2.2.2 ad had; simp [BlkIn, nth, blkOf, vaddr] at hx; omega
      obtain ⟨ad, had, hcell⟩ := hR4.1.elem (j := 0) (x := r0) rfl (by decide)
      have hadv : ra = some ad := had
      refine den_ob (by simp [BE.den, IE.den, nth, vlen]) (den_ob (by simp [BE.den, nth, vnil, hadv]) ?_)
      refine den_load [.int .u16 r0] ad ⟨⟨_, rfl⟩, trivial⟩ (by simp [SV.den, IE.den, nth, vaddr, hadv, addO, Addr.add]) (fun hX => ?_) (fun jj v hv => ?_) (den_norm (by simp only [List.cons_append, List.nil_append]; rfl) ?_)
      · have := hRlt ad had
        have := hR3.2.2.2 ad had
        rcases hX with hX | hX
        · have := hOb _ hX
          omega
        · omega
      · cases jj with
        | zero =>
          have := hcell 0 v hv
          simpa [Addr.add] using this
        | succ jj => simp at hv
      have lb5 : b5 < w4.heap.size := h4.lt (i := 48) (by simp [keys]) rfl
      refine den_call_int (x := resI x) (fun wa _ => c11 x hxo wa) rfl (fun wa wb ha hab => den_norm (by simp only [List.cons_append, List.nil_append]; rfl) (den_blk fun b6 k6 _ _ => den_norm (by simp only [List.cons_append, List.nil_append]; rfl) ?_))
      have za : w4.heap.size ≤ wa.heap.size := ha.kept.size
      have zab : wa.heap.size ≤ wb.heap.size := hab.size
      have z6 : wb.heap.size ≤ b6 := k6
      have hOb1 := (hO4.same (shown_same ha)).same hab
      have hFb1 := (hF4.same (shown_same ha)).same hab
      have hRb1 := (hR4.same (shown_same ha)).same hab
      refine den_push (E := resE) (T := 49) rfl u46 i49 z49 s49 rfl (by decide) by49 res_one (.slice oa O.length oc) O (r0, resI x) rfl rfl rfl (by omega) (fun g hg _ => .inl (hOb g hg).1) (by simp [keys]) (fun wc hc => hOb1.same (shown_same hc)) ?_ (fun _ g hg _ => .inl hg) (fun _ => rfl) (fun wc v' wd hc hv' kcd hfr hap => den_norm (by simp only [List.cons_append, List.nil_append]; rfl) ?_)
      · intro g hg _ hin
        have q1 := hO3.lt hg
        have q2 := hOb g hg
        simp [BlkIn, nth, blkOf, vaddr] at hin
        omega
      have zbc : wb.heap.size ≤ wc.heap.size := hc.kept.size
      have zcd : wc.heap.size ≤ wd.heap.size := kcd.size
      have hFd := (hFb1.same (shown_same hc)).kept kcd fun g hg hb => (hFb g hg).2.2.2 hb.1
      have hRd := (hRb1.same (shown_same hc)).kept kcd fun ad2 had2 hb => by have := (hOb _ hb.1).1; have := hRlt ad2 had2; omega
      have lb6 : b6 < wc.heap.size := hc.lt (i := 51) (by simp [keys]) rfl
      have hOb' : ∀ g, v'.ownBlock = some g → w.heap.size ≤ g ∧ g ≠ b1 ∧ g ≠ b2 ∧ g ≠ b5 ∧ g ≠ b6 ∧ (Value.slice fa F.length fc).ownBlock ≠ some g := fun g hg => by
        rcases hfr with ⟨q1, _⟩ | ⟨b', q1, hb', _⟩
        · rw [q1] at hg
          have q2 := hOb g hg
          have q3 := hO3.lt hg
          exact ⟨q2.1, q2.2.1, q2.2.2, by omega, by omega, fun e => (hFb g e).2.2.2 hg⟩
        · rw [q1] at hg
          have q4 : b' = g := Option.some.inj hg
          exact ⟨by omega, by omega, by omega, by omega, by omega, fun e => by have := hF3.lt e; omega⟩
      have hFb'' : ∀ g, (Value.slice fa F.length fc).ownBlock = some g → w.heap.size ≤ g ∧ g ≠ b1 ∧ g ≠ b2 ∧ v'.ownBlock ≠ some g := fun g hg => ⟨(hFb g hg).1, (hFb g hg).2.1, (hFb g hg).2.2.1, fun e => (hOb' g e).2.2.2.2.2 hg⟩
      intro we he
      refine den_slice ra (r0 :: R2).length rc (some (1 : Int)) none none 1 (r0 :: R2).length rc 1 u35 st37 (fun ρ h => h.1) (fun ρ h => congrArg some h.2.1) (fun _ _ => rfl) (fun _ _ => rfl) (.inl ⟨rfl, rfl⟩) (.inl ⟨rfl, rfl, rfl⟩) (.inr ⟨rfl, by simp⟩) (fun _ => rfl) ?_
      have hRe := hRd.kept he.kept fun ad2 had2 hx => by have := hRlt ad2 had2; simp [BlkIn, nth, blkOf, vaddr] at hx; try omega
      obtain ⟨sa1, sc1, hs1, hg1, hs1b⟩ := given_tail hRe
      rw [hs1]
      refine den_norm (by simp only [List.cons_append, List.nil_append]; rfl) ?_
      have hRlt' : ∀ ad2, vaddr (.slice sa1 R2.length sc1) = some ad2 → ad2.block < w.heap.size := fun ad2 h2 => by
        obtain ⟨ad3, h3', h4'⟩ := hs1b ad2 h2
        rw [← h4']
        exact hRlt ad3 h3'
      have hRfr' : Fr w (.slice a R.length c) (.slice sa1 R2.length sc1) := fun ad2 h2 => by
        obtain ⟨ad3, h3', h4'⟩ := hs1b ad2 h2
        rw [← h4']
        exact hRfr ad3 h3'
      refine den_startF fun wf hf => ?_
      have fin1 : ∀ {wz : World} {M : Nat → Prop}, Kept M wf wz → (∀ b, M b → b = b1 ∨ b = b2 ∨ b = b5 ∨ b = b6) → Mine resE 49 wz v' (O ++ [(r0, resI x)]) := fun {wz M} hk hM => ((hv'.kept he.kept fun g hg hb => by have := hOb' g hg; simp [BlkIn, nth, blkOf, vaddr] at hb; try omega).kept hf.kept fun g hg hb => by have := hOb' g hg; simp [BlkIn, nth, blkOf, vaddr] at hb; try omega).kept hk fun g hg hb => by have := hOb' g hg; have := hM _ hb; omega
      have fin2 : ∀ {wz : World} {M : Nat → Prop}, Kept M wf wz → (∀ b, M b → b = b1 ∨ b = b2 ∨ b = b5 ∨ b = b6) → Mine ntcE 23 wz (.slice fa F.length fc) F := fun {wz M} hk hM => ((hFd.kept he.kept fun g hg hb => by have := hFb g hg; have := hF3.lt hg; simp [BlkIn, nth, blkOf, vaddr] at hb; try omega).kept hf.kept fun g hg hb => by have := hFb g hg; have := hF3.lt hg; simp [BlkIn, nth, blkOf, vaddr] at hb; try omega).kept hk fun g hg hb => by have := hFb g hg; have := hF3.lt hg; have := hM _ hb; omega
      have fin3 : ∀ {wz : World} {M : Nat → Prop}, Kept M wf wz → (∀ b, M b → b = b1 ∨ b = b2 ∨ b = b5 ∨ b = b6) → Given hE wz (.slice sa1 R2.length sc1) R2 := fun {wz M} hk hM => (hg1.kept hf.kept fun ad2 had2 hb => by have := hRlt' ad2 had2; simp [BlkIn, nth, blkOf, vaddr] at hb; omega).kept hk fun ad2 had2 hb => by have := hRlt' ad2 had2; have := hM _ hb; omega
      refine den_ob (by simp [BE.den, IE.den, nth, vint]; omega) (den_ob (by simp [BE.den, IE.den, nth, vint]; omega) (den_ob (by simp [BE.den, IE.den, nth, vint]; omega) (den_ob (by simp [BE.den, IE.den, nth, vint]; omega) ?_)))
      refine den_ob64 (by simp only [IE.den, nth, vint]; omega) (den_leaf' fun w8 h8 => (if_pos rfl).mpr ⟨⟨j + 1, v', .slice fa F.length fc, O ++ [(r0, resI x)], F, .slice sa1 R2.length sc1, R2, upd B' x.t x.p, _, _, by omega, ?_, fin1 h8.kept fun b hb => by simp [BlkIn, nth, blkOf, vaddr] at hb; omega, fin2 h8.kept fun b hb => by simp [BlkIn, nth, blkOf, vaddr] at hb; omega, fin3 h8.kept fun b hb => by simp [BlkIn, nth, blkOf, vaddr] at hb; omega, hBu, fun g hg => ⟨(hOb' g hg).1, (hOb' g hg).2.1, (hOb' g hg).2.2.1⟩, hFb'', ⟨hRlt', hRfr'⟩, by rw [List.length_append]; simp; omega, by omega, by rw [← d1]; simp, d2, d3, d4⟩, ?_⟩)
      · simp [SV.den, denL, IE.den, BE.den, nth, vint, vbool, vaddr, addO, addr_add, refC]
      · simp only [denL, SV.den, IE.den, nth, vint]; omega
  refine den_splitEq (fun hk => ?_) (fun hk2 => ?_)
  · have hk' : x.t = 2 := hk
    have hBk := hB'.lo 2 (by decide)
    refine den_split (fun hb => ?_) (fun hb => ?_)
    · have hb' : Bl' 2 = true := hb
      rw [dl_cons_b x _ _ _ _ (by rw [hk']; rw [hb'] at hBk; simp at hBk; rw [hBk]; rfl)] at d1 d2 d3 d4
      refine den_blk fun b6 k6 _ _ => den_norm (by simp only [List.cons_append, List.nil_append]; rfl) ?_
      have z6 : w3.heap.size ≤ b6 := k6
      refine den_push (E := ntcE) (T := 23) rfl u57 i23 z23 s23 rfl (by decide) by23 ntc_one (.slice fa F.length fc) F x rfl rfl rfl (by omega) (fun g hg _ => .inl (hFb g hg).1) (by simp [keys]) (fun wa ha => (hF3.kept ha.kept fun g hg hx => by have := hF3.lt hg; simp [BlkIn, nth, blkOf, vaddr] at hx; omega)) ?_ (fun hd => by cases hd) (fun _ => rfl) (fun wa v' wb ha hv' kab hfr hap => den_norm (by simp only [List.cons_append, List.nil_append]; rfl) ?_)
      · intro g hg _ hin2
        have q1 := hF3.lt hg
        have q2 := hFb g hg
        simp [BlkIn, nth, blkOf, vaddr] at hin2
        omega
      have za : w3.heap.size ≤ wa.heap.size := ha.kept.size
      have la : b5 < wa.heap.size := ha.lt (i := 48) (by simp [keys]) rfl
      have lb : b6 < wa.heap.size := ha.lt (i := 49) (by simp [keys]) rfl
      have hO4 := (hO3.kept ha.kept fun g hg hx => by have := hO3.lt hg; simp [BlkIn, nth, blkOf, vaddr] at hx; omega).kept kab fun g hg hb => (hFb g hb.1).2.2.2 hg
      have hR4 := (hR3.kept ha.kept fun ad had hx => by have := hR3.2.2.2 ad had; simp [BlkIn, nth, blkOf, vaddr] at hx; omega).kept kab fun ad had hb => by have := (hFb _ hb.1).1; have := hRlt ad had; omega
      have hFb' : ∀ g, v'.ownBlock = some g → w.heap.size ≤ g ∧ g ≠ b1 ∧ g ≠ b2 ∧ g ≠ b5 ∧ g ≠ b6 ∧ (Value.slice oa O.length oc).ownBlock ≠ some g := fun g hg => by
        rcases hfr with ⟨q1, _⟩ | ⟨b', q1, hb', _⟩
        · rw [q1] at hg
          have q2 := hFb g hg
          have q3 := hF3.lt hg
          exact ⟨q2.1, q2.2.1, q2.2.2.1, by omega, by omega, q2.2.2.2⟩
        · rw [q1] at hg
          have q4 : b' = g := Option.some.inj hg
          exact ⟨by omega, by omega, by omega, by omega, by omega, fun e => by have := hO3.lt e; omega⟩
      refine den_ob64 (by simp only [IE.den, nth, vint]; omega) (den_leaf' fun w8 h8 => (if_pos rfl).mpr ⟨⟨j + 1, .slice oa O.length oc, v', O, F ++ [x], .slice ra (r0 :: R2).length rc, r0 :: R2, B', Bl', Pg', by omega, by simp [SV.den, denL, IE.den, BE.den, nth, vint, vbool, vaddr, addO, addr_add, refC], hO4.same (shown_same h8), hv'.same (shown_same h8), hR4.same (shown_same h8), hB', hOb, fun g hg => ⟨(hFb' g hg).1, (hFb' g hg).2.1, (hFb' g hg).2.2.1, (hFb' g hg).2.2.2.2.2⟩, ⟨hRlt, hRfr⟩, by omega, by rw [List.length_append]; simp; omega, d1, by rw [← d2]; simp, d3, d4⟩, ?_⟩)
      simp only [denL, SV.den, IE.den, nth, vint]; omega
    · have hb' : Bl' 2 = false := hb
      rw [dl_cons_f x _ _ _ _ (by rw [hk']; rw [hb'] at hBk; simp at hBk; rw [hBk]; rfl)] at d1 d2 d3 d4
      have hBu := hB'.upd 2 (by decide) x.t x.p hk'
      intro w4 h4
      refine ⟨fun y => (Value.slice oa O.length oc).ownBlock = some y ∨ y = b5 ∨ y = b2 ∨ y = b1, fun y hy => by simp [BlkIn, nth, blkOf, vaddr] at hy; omega, ?_⟩
      have z4 : w3.heap.size ≤ w4.heap.size := h4.kept.size
      have hO4 := hO3.kept h4.kept fun g hg hx => by have := hO3.lt hg; simp [BlkIn, nth, blkOf, vaddr] at hx; omega
      have hF4 := hF3.kept h4.kept fun g hg hx => by have := hF3.lt hg; simp [BlkIn, nth, blkOf, vaddr] at hx; omega
      have hR4 := hR3.kept h4.kept fun ad had hx => by have := hR3.2.2.2 ad had; simp [BlkIn, nth, blkOf, vaddr] at hx; omega
      obtain ⟨ad, had, hcell⟩ := hR4.1.elem (j := 0) (x := r0) rfl (by decide)
      have hadv : ra = some ad := had
      refine den_ob (by simp [BE.den, IE.den, nth, vlen]) (den_ob (by simp [BE.den, nth, vnil, hadv]) ?_)
      refine den_load [.int .u16 r0] ad ⟨⟨_, rfl⟩, trivial⟩ (by simp [SV.den, IE.den, nth, vaddr, hadv, addO, Addr.add]) (fun hX => ?_) (fun jj v hv => ?_) (den_norm (by simp only [List.cons_append, List.nil_append]; rfl) ?_)
      · have := hRlt ad had
        have := hR3.2.2.2 ad had
        rcases hX with hX | hX
        · have := hOb _ hX
          omega
        · omega
      · cases jj with
        | zero =>
          have := hcell 0 v hv
          simpa [Addr.add] using this
        | succ jj => simp at hv
      have lb5 : b5 < w4.heap.size := h4.lt (i := 48) (by simp [keys]) rfl
      refine den_call_int (x := resI x) (fun wa _ => c11 x hxo wa) rfl (fun wa wb ha hab => den_norm (by simp only [List.cons_append, List.nil_append]; rfl) (den_blk fun b6 k6 _ _ => den_norm (by simp only [List.cons_append, List.nil_append]; rfl) ?_))
      have za : w4.heap.size ≤ wa.heap.size := ha.kept.size
      have zab : wa.heap.size ≤ wb.heap.size := hab.size
      have z6 : wb.heap.size ≤ b6 := k6
      have hOb1 := (hO4.same (shown_same ha)).same hab
      have hFb1 := (hF4.same (shown_same ha)).same hab
      have hRb1 := (hR4.same (shown_same ha)).same hab
      refine den_push (E := resE) (T := 49) rfl u46 i49 z49 s49 rfl (by decide) by49 res_one (.slice oa O.length oc) O (r0, resI x) rfl rfl rfl (by omega) (fun g hg _ => .inl (hOb g hg).1) (by simp [keys]) (fun wc hc => hOb1.same (shown_same hc)) ?_ (fun _ g hg _ => .inl hg) (fun _ => rfl) (fun wc v' wd hc hv' kcd hfr hap => den_norm (by simp only [List.cons_append, List.nil_append]; rfl) ?_)
      · intro g hg _ hin
        have q1 := hO3.lt hg
        have q2 := hOb g hg
        simp [BlkIn, nth, blkOf, vaddr] at hin
        omega
      have zbc : wb.heap.size ≤ wc.heap.size := hc.kept.size
      have zcd : wc.heap.size ≤ wd.heap.size := kcd.size
      have hFd := (hFb1.same (shown_same hc)).kept kcd fun g hg hb => (hFb g hg).2.2.2 hb.1
      have hRd := (hRb1.same (shown_same hc)).kept kcd fun ad2 had2 hb => by have := (hOb _ hb.1).1; have := hRlt ad2 had2; omega
      have lb6 : b6 < wc.heap.size := hc.lt (i := 51) (by simp [keys]) rfl
      have hOb' : ∀ g, v'.ownBlock = some g → w.heap.size ≤ g ∧ g ≠ b1 ∧ g ≠ b2 ∧ g ≠ b5 ∧ g ≠ b6 ∧ (Value.slice fa F.length fc).ownBlock ≠ some g := fun g hg => by
        rcases hfr with ⟨q1, _⟩ | ⟨b', q1, hb', _⟩
        · rw [q1] at hg
          have q2 := hOb g hg
          have q3 := hO3.lt hg
          exact ⟨q2.1, q2.2.1, q2.2.2, by omega, by omega, fun e => (hFb g e).2.2.2 hg⟩
        · rw [q1] at hg
          have q4 : b' = g := Option.some.inj hg
          exact ⟨by omega, by omega, by omega, by omega, by omega, fun e => by have := hF3.lt e; omega⟩
      have hFb'' : ∀ g, (Value.slice fa F.length fc).ownBlock = some g → w.heap.size ≤ g ∧ g ≠ b1 ∧ g ≠ b2 ∧ v'.ownBlock ≠ some g := fun g hg => ⟨(hFb g hg).1, (hFb g hg).2.1, (hFb g hg).2.2.1, fun e => (hOb' g e).2.2.2.2.2 hg⟩
      intro we he
      refine den_slice ra (r0 :: R2).length rc (some (1 : Int)) none none 1 (r0 :: R2).length rc 1 u35 st37 (fun ρ h => h.1) (fun ρ h => congrArg some h.2.1) (fun _ _ => rfl) (fun _ _ => rfl) (.inl ⟨rfl, rfl⟩) (.inl ⟨rfl, rfl, rfl⟩) (.inr ⟨rfl, by simp⟩) (fun _ => rfl) ?_
      have hRe := hRd.kept he.kept fun ad2 had2 hx => by have := hRlt ad2 had2; simp [BlkIn, nth, blkOf, vaddr] at hx; try omega
      obtain ⟨sa1, sc1, hs1, hg1, hs1b⟩ := given_tail hRe
      rw [hs1]
      refine den_norm (by simp only [List.cons_append, List.nil_append]; rfl) ?_
      have hRlt' : ∀ ad2, vaddr (.slice sa1 R2.length sc1) = some ad2 → ad2.block < w.heap.size := fun ad2 h2 => by
        obtain ⟨ad3, h3', h4'⟩ := hs1b ad2 h2
        rw [← h4']
        exact hRlt ad3 h3'
      have hRfr' : Fr w (.slice a R.length c) (.slice sa1 R2.length sc1) := fun ad2 h2 => by
        obtain ⟨ad3, h3', h4'⟩ := hs1b ad2 h2
        rw [← h4']
        exact hRfr ad3 h3'
      refine den_startF fun wf hf => ?_
      have fin1 : ∀ {wz : World} {M : Nat → Prop}, Kept M wf wz → (∀ b, M b → b = b1 ∨ b = b2 ∨ b = b5 ∨ b = b6) → Mine resE 49 wz v' (O ++ [(r0, resI x)]) := fun {wz M} hk hM => ((hv'.kept he.kept fun g hg hb => by have := hOb' g hg; simp [BlkIn, nth, blkOf, vaddr] at hb; try omega).kept hf.kept fun g hg hb => by have := hOb' g hg; simp [BlkIn, nth, blkOf, vaddr] at hb; try omega).kept hk fun g hg hb => by have := hOb' g hg; have := hM _ hb; omega
      have fin2 : ∀ {wz : World} {M : Nat → Prop}, Kept M wf wz → (∀ b, M b → b = b1 ∨ b = b2 ∨ b = b5 ∨ b = b6) → Mine ntcE 23 wz (.slice fa F.length fc) F := fun {wz M} hk hM => ((hFd.kept he.kept fun g hg hb => by have := hFb g hg; have := hF3.lt hg; simp [BlkIn, nth, blkOf, vaddr] at hb; try omega).kept hf.kept fun g hg hb => by have := hFb g hg; have := hF3.lt hg; simp [BlkIn, nth, blkOf, vaddr] at hb; try omega).kept hk fun g hg hb => by have := hFb g hg; have := hF3.lt hg; have := hM _ hb; omega
      have fin3 : ∀ {wz : World} {M : Nat → Prop}, Kept M wf wz → (∀ b, M b → b = b1 ∨ b = b2 ∨ b = b5 ∨ b = b6) → Given hE wz (.slice sa1 R2.length sc1) R2 := fun {wz M} hk hM => (hg1.kept hf.kept fun ad2 had2 hb => by have := hRlt' ad2 had2; simp [BlkIn, nth, blkOf, vaddr] at hb; omega).kept hk fun ad2 had2 hb => by have := hRlt' ad2 had2; have := hM _ hb; omega
      refine den_ob (by simp [BE.den, IE.den, nth, vint]; omega) (den_ob (by simp [BE.den, IE.den, nth, vint]; omega) (den_ob (by simp [BE.den, IE.den, nth, vint]; omega) (den_ob (by simp [BE.den, IE.den, nth, vint]; omega) ?_)))
      refine den_ob64 (by simp only [IE.den, nth, vint]; omega) (den_leaf' fun w8 h8 => (if_pos rfl).mpr ⟨⟨j + 1, v', .slice fa F.length fc, O ++ [(r0, resI x)], F, .slice sa1 R2.length sc1, R2, upd B' x.t x.p, _, _, by omega, ?_, fin1 h8.kept fun b hb => by simp [BlkIn, nth, blkOf, vaddr] at hb; omega, fin2 h8.kept fun b hb => by simp [BlkIn, nth, blkOf, vaddr] at hb; omega, fin3 h8.kept fun b hb => by simp [BlkIn, nth, blkOf, vaddr] at hb; omega, hBu, fun g hg => ⟨(hOb' g hg).1, (hOb' g hg).2.1, (hOb' g hg).2.2.1⟩, hFb'', ⟨hRlt', hRfr'⟩, by rw [List.length_append]; simp; omega, by omega, by rw [← d1]; simp, d2, d3, d4⟩, ?_⟩)
      · simp [SV.den, denL, IE.den, BE.den, nth, vint, vbool, vaddr, addO, addr_add, refC]
      · simp only [denL, SV.den, IE.den, nth, vint]; omega
  refine den_splitEq (fun hk => ?_) (fun hk3 => ?_)
  · have hk' : x.t = 3 := hk
    have hBk := hB'.lo 3 (by decide)
    refine den_split (fun hb => ?_) (fun hb => ?_)
    · have hb' : Bl' 3 = true := hb
      rw [dl_cons_b x _ _ _ _ (by rw [hk']; rw [hb'] at hBk; simp at hBk; rw [hBk]; rfl)] at d1 d2 d3 d4
      refine den_blk fun b6 k6 _ _ => den_norm (by simp only [List.cons_append, List.nil_append]; rfl) ?_
      have z6 : w3.heap.size ≤ b6 := k6
      refine den_push (E := ntcE) (T := 23) rfl u57 i23 z23 s23 rfl (by decide) by23 ntc_one (.slice fa F.length fc) F x rfl rfl rfl (by omega) (fun g hg _ => .inl (hFb g hg).1) (by simp [keys]) (fun wa ha => (hF3.kept ha.kept fun g hg hx => by have := hF3.lt hg; simp [BlkIn, nth, blkOf, vaddr] at hx; omega)) ?_ (fun hd => by cases hd) (fun _ => rfl) (fun wa v' wb ha hv' kab hfr hap => den_norm (by simp only [List.cons_append, List.nil_append]; rfl) ?_)
      · intro g hg _ hin2
        have q1 := hF3.lt hg
        have q2 := hFb g hg
        simp [BlkIn, nth, blkOf, vaddr] at hin2
        omega
      have za : w3.heap.size ≤ wa.heap.size := ha.kept.size
      have la : b5 < wa.heap.size := ha.lt (i := 48) (by simp [keys]) rfl
      have lb : b6 < wa.heap.size := ha.lt (i := 49) (by simp [keys]) rfl
      have hO4 := (hO3.kept ha.kept fun g hg hx => by have := hO3.lt hg; simp [BlkIn, nth, blkOf, vaddr] at hx; omega).kept kab fun g hg hb => (hFb g hb.1).2.2.2 hg
      have hR4 := (hR3.kept ha.kept fun ad had hx => by have := hR3.2.2.2 ad had; simp [BlkIn, nth, blkOf, vaddr] at hx; omega).kept kab fun ad had hb => by have := (hFb _ hb.1).1; have := hRlt ad had; omega
      have hFb' : ∀ g, v'.ownBlock = some g → w.heap.size ≤ g ∧ g ≠ b1 ∧ g ≠ b2 ∧ g ≠ b5 ∧ g ≠ b6 ∧ (Value.slice oa O.length oc).ownBlock ≠ some g := fun g hg => by
        rcases hfr with ⟨q1, _⟩ | ⟨b', q1, hb', _⟩
        · rw [q1] at hg
          have q2 := hFb g hg
          have q3 := hF3.lt hg
          exact ⟨q2.1, q2.2.1, q2.2.2.1, by omega, by omega, q2.2.2.2⟩
        · rw [q1] at hg
          have q4 : b' = g := Option.some.inj hg
          exact ⟨by omega, by omega, by omega, by omega, by omega, fun e => by have := hO3.lt e; omega⟩
      refine den_ob64 (by simp only [IE.den, nth, vint]; omega) (den_leaf' fun w8 h8 => (if_pos rfl).mpr ⟨⟨j + 1, .slice oa O.length oc, v', O, F ++ [x], .slice ra (r0 :: R2).length rc, r0 :: R2, B', Bl', Pg', by omega, by simp [SV.den, denL, IE.den, BE.den, nth, vint, vbool, vaddr, addO, addr_add, refC], hO4.same (shown_same h8), hv'.same (shown_same h8), hR4.same (shown_same h8), hB', hOb, fun g hg => ⟨(hFb' g hg).1, (hFb' g hg).2.1, (hFb' g hg).2.2.1, (hFb' g hg).2.2.2.2.2⟩, ⟨hRlt, hRfr⟩, by omega, by rw [List.length_append]; simp; omega, d1, by rw [← d2]; simp, d3, d4⟩, ?_⟩)
      simp only [denL, SV.den, IE.den, nth, vint]; omega
    · have hb' : Bl' 3 = false := hb
      rw [dl_cons_f x _ _ _ _ (by rw [hk']; rw [hb'] at hBk; simp at hBk; rw [hBk]; rfl)] at d1 d2 d3 d4
      have hBu := hB'.upd 3 (by decide) x.t x.p hk'
      intro w4 h4
      refine ⟨fun y => (Value.slice oa O.length oc).ownBlock = some y ∨ y = b5 ∨ y = b2 ∨ y = b1, fun y hy => by simp [BlkIn, nth, blkOf, vaddr] at hy; omega, ?_⟩
      have z4 : w3.heap.size ≤ w4.heap.size := h4.kept.size
      have hO4 := hO3.kept h4.kept fun g hg hx => by have := hO3.lt hg; simp [BlkIn, nth, blkOf, vaddr] at hx; omega
      have hF4 := hF3.kept h4.kept fun g hg hx => by have := hF3.lt hg; simp [BlkIn, nth, blkOf, vaddr] at hx; omega
      have hR4 := hR3.kept h4.kept fun ad had hx => by have := hR3.2.2.2 ad had; simp [BlkIn, nth, blkOf, vaddr] at hx; omega
      obtain ⟨ad, had, hcell⟩ := hR4.1.elem (j := 0) (x := r0) rfl (by decide)
      have hadv : ra = some ad := had
      refine den_ob (by simp [BE.den, IE.den, nth, vlen]) (den_ob (by simp [BE.den, nth, vnil, hadv]) ?_)
      refine den_load [.int .u16 r0] ad ⟨⟨_, rfl⟩, trivial⟩ (by simp [SV.den, IE.den, nth, vaddr, hadv, addO, Addr.add]) (fun hX => ?_) (fun jj v hv => ?_) (den_norm (by simp only [List.cons_append, List.nil_append]; rfl) ?_)
      · have := hRlt ad had
        have := hR3.2.2.2 ad had
        rcases hX with hX | hX
        · have := hOb _ hX
          omega
        · omega
      · cases jj with
        | zero =>
          have := hcell 0 v hv
          simpa [Addr.add] using this
        | succ jj => simp at hv
      have lb5 : b5 < w4.heap.size := h4.lt (i := 48) (by simp [keys]) rfl
      refine den_call_int (x := resI x) (fun wa _ => c11 x hxo wa) rfl (fun wa wb ha hab => den_norm (by simp only [List.cons_append, List.nil_append]; rfl) (den_blk fun b6 k6 _ _ => den_norm (by simp only [List.cons_append, List.nil_append]; rfl) ?_))
      have za : w4.heap.size ≤ wa.heap.size := ha.kept.size
      have zab : wa.heap.size ≤ wb.heap.size := hab.size
      have z6 : wb.heap.size ≤ b6 := k6
      have hOb1 := (hO4.same (shown_same ha)).same hab
      have hFb1 := (hF4.same (shown_same ha)).same hab
      have hRb1 := (hR4.same (shown_same ha)).same hab
      refine den_push (E := resE) (T := 49) rfl u46 i49 z49 s49 rfl (by decide) by49 res_one (.slice oa O.length oc) O (r0, resI x) rfl rfl rfl (by omega) (fun g hg _ => .inl (hOb g hg).1) (by simp [keys]) (fun wc hc => hOb1.same (shown_same hc)) ?_ (fun _ g hg _ => .inl hg) (fun _ => rfl) (fun wc v' wd hc hv' kcd hfr hap => den_norm (by simp only [List.cons_append, List.nil_append]; rfl) ?_)
      · intro g hg _ hin
        have q1 := hO3.lt hg
        have q2 := hOb g hg
        simp [BlkIn, nth, blkOf, vaddr] at hin
        omega
      have zbc : wb.heap.size ≤ wc.heap.size := hc.kept.size
      have zcd : wc.heap.size ≤ wd.heap.size := kcd.size
      have hFd := (hFb1.same (shown_same hc)).kept kcd fun g hg hb => (hFb g hg).2.2.2 hb.1
      have hRd := (hRb1.same (shown_same hc)).kept kcd fun ad2 had2 hb => by have := (hOb _ hb.1).1; have := hRlt ad2 had2; omega
      have lb6 : b6 < wc.heap.size := hc.lt (i := 51) (by simp [keys]) rfl
      have hOb' : ∀ g, v'.ownBlock = some g → w.heap.size ≤ g ∧ g ≠ b1 ∧ g ≠ b2 ∧ g ≠ b5 ∧ g ≠ b6 ∧ (Value.slice fa F.length fc).ownBlock ≠ some g := fun g hg => by
        rcases hfr with ⟨q1, _⟩ | ⟨b', q1, hb', _⟩
        · rw [q1] at hg
          have q2 := hOb g hg
          have q3 := hO3.lt hg
          exact ⟨q2.1, q2.2.1, q2.2.2, by omega, by omega, fun e => (hFb g e).2.2.2 hg⟩
        · rw [q1] at hg
          have q4 : b' = g := Option.some.inj hg
          exact ⟨by omega, by omega, by omega, by omega, by omega, fun e => by have := hF3.lt e; omega⟩
      have hFb'' : ∀ g, (Value.slice fa F.length fc).ownBlock = some g → w.heap.size ≤ g ∧ g ≠ b1 ∧ g ≠ b2 ∧ v'.ownBlock ≠ some g := fun g hg => ⟨(hFb g hg).1, (hFb g hg).2.1, (hFb g hg).2.2.1, fun e => (hOb' g e).2.2.2.2.2 hg⟩
      intro we he
      refine den_slice ra (r0 :: R2).length rc (some (1 : Int)) none none 1 (r0 :: R2).length rc 1 u35 st37 (fun ρ h => h.1) (fun ρ h => congrArg some h.2.1) (fun _ _ => rfl) (fun _ _ => rfl) (.inl ⟨rfl, rfl⟩) (.inl ⟨rfl, rfl, rfl⟩) (.inr ⟨rfl, by simp⟩) (fun _ => rfl) ?_
      have hRe := hRd.kept he.kept fun ad2 had2 hx => by have := hRlt ad2 had2; simp [BlkIn, nth, blkOf, vaddr] at hx; try omega
      obtain ⟨sa1, sc1, hs1, hg1, hs1b⟩ := given_tail hRe
      rw [hs1]
      refine den_norm (by simp only [List.cons_append, List.nil_append]; rfl) ?_
      have hRlt' : ∀ ad2, vaddr (.slice sa1 R2.length sc1) = some ad2 → ad2.block < w.heap.size := fun ad2 h2 => by
        obtain ⟨ad3, h3', h4'⟩ := hs1b ad2 h2
        rw [← h4']
        exact hRlt ad3 h3'
      have hRfr' : Fr w (.slice a R.length c) (.slice sa1 R2.length sc1) := fun ad2 h2 => by
        obtain ⟨ad3, h3', h4'⟩ := hs1b ad2 h2
        rw [← h4']
        exact hRfr ad3 h3'
      refine den_startF fun wf hf => ?_
      have fin1 : ∀ {wz : World} {M : Nat → Prop}, Kept M wf wz → (∀ b, M b → b = b1 ∨ b = b2 ∨ b = b5 ∨ b = b6) → Mine resE 49 wz v' (O ++ [(r0, resI x)]) := fun {wz M} hk hM => ((hv'.kept he.kept fun g hg hb => by have := hOb' g hg; simp [BlkIn, nth, blkOf, vaddr] at hb; try omega).kept hf.kept fun g hg hb => by have := hOb' g hg; simp [BlkIn, nth, blkOf, vaddr] at hb; try omega).kept hk fun g hg hb => by have := hOb' g hg; have := hM _ hb; omega
      have fin2 : ∀ {wz : World} {M : Nat → Prop}, Kept M wf wz → (∀ b, M b → b = b1 ∨ b = b2 ∨ b = b5 ∨ b = b6) → Mine ntcE 23 wz (.slice fa F.length fc) F := fun {wz M} hk hM => ((hFd.kept he.kept fun g hg hb => by have := hFb g hg; have := hF3.lt hg; simp [BlkIn, nth, blkOf, vaddr] at hb; try omega).kept hf.kept fun g hg hb => by have := hFb g hg; have := hF3.lt hg; simp [BlkIn, nth, blkOf, vaddr] at hb; try omega).kept hk fun g hg hb => by have := hFb g hg; have := hF3.lt hg; have := hM _ hb; omega
      have fin3 : ∀ {wz : World} {M : Nat → Prop}, Kept M wf wz → (∀ b, M b → b = b1 ∨ b = b2 ∨ b = b5 ∨ b = b6) → Given hE wz (.slice sa1 R2.length sc1) R2 := fun {wz M} hk hM => (hg1.kept hf.kept fun ad2 had2 hb => by have := hRlt' ad2 had2; simp [BlkIn, nth, blkOf, vaddr] at hb; omega).kept hk fun ad2 had2 hb => by have := hRlt' ad2 had2; have := hM _ hb; omega
      refine den_ob (by simp [BE.den, IE.den, nth, vint]; omega) (den_ob (by simp [BE.den, IE.den, nth, vint]; omega) (den_ob (by simp [BE.den, IE.den, nth, vint]; omega) (den_ob (by simp [BE.den, IE.den, nth, vint]; omega) ?_)))
      refine den_ob64 (by simp only [IE.den, nth, vint]; omega) (den_leaf' fun w8 h8 => (if_pos rfl).mpr ⟨⟨j + 1, v', .slice fa F.length fc, O ++ [(r0, resI x)], F, .slice sa1 R2.length sc1, R2, upd B' x.t x.p, _, _, by omega, ?_, fin1 h8.kept fun b hb => by simp [BlkIn, nth, blkOf, vaddr] at hb; omega, fin2 h8.kept fun b hb => by simp [BlkIn, nth, blkOf, vaddr] at hb; omega, fin3 h8.kept fun b hb => by simp [BlkIn, nth, blkOf, vaddr] at hb; omega, hBu, fun g hg => ⟨(hOb' g hg).1, (hOb' g hg).2.1, (hOb' g hg).2.2.1⟩, hFb'', ⟨hRlt', hRfr'⟩, by rw [List.length_append]; simp; omega, by omega, by rw [← d1]; simp, d2, d3, d4⟩, ?_⟩)
      · simp [SV.den, denL, IE.den, BE.den, nth, vint, vbool, vaddr, addO, addr_add, refC]
      · simp only [denL, SV.den, IE.den, nth, vint]; omega
  refine den_splitEq (fun hk => ?_) (fun hk4 => ?_)
  · have hk' : x.t = 4 := hk
    have hBk := hB'.lo 4 (by decide)
    refine den_split (fun hb => ?_) (fun hb => ?_)
    · have hb' : Bl' 4 = true := hb
      rw [dl_cons_b x _ _ _ _ (by rw [hk']; rw [hb'] at hBk; simp at hBk; rw [hBk]; rfl)] at d1 d2 d3 d4
      refine den_blk fun b6 k6 _ _ => den_norm (by simp only [List.cons_append, List.nil_append]; rfl) ?_
      have z6 : w3.heap.size ≤ b6 := k6
      refine den_push (E := ntcE) (T := 23) rfl u57 i23 z23 s23 rfl (by decide) by23 ntc_one (.slice fa F.length fc) F x rfl rfl rfl (by omega) (fun g hg _ => .inl (hFb g hg).1) (by simp [keys]) (fun wa ha => (hF3.kept ha.kept fun g hg hx => by have := hF3.lt hg; simp [BlkIn, nth, blkOf, vaddr] at hx; omega)) ?_ (fun hd => by cases hd) (fun _ => rfl) (fun wa v' wb ha hv' kab hfr hap => den_norm (by simp only [List.cons_append, List.nil_append]; rfl) ?_)
      · intro g hg _ hin2
        have q1 := hF3.lt hg
        have q2 := hFb g hg
        simp [BlkIn, nth, blkOf, vaddr] at hin2
        omega
      have za : w3.heap.size ≤ wa.heap.size := ha.kept.size
      have la : b5 < wa.heap.size := ha.lt (i := 48) (by simp [keys]) rfl
      have lb : b6 < wa.heap.size := ha.lt (i := 49) (by simp [keys]) rfl
      have hO4 := (hO3.kept ha.kept fun g hg hx => by have := hO3.lt hg; simp [BlkIn, nth, blkOf, vaddr] at hx; omega).kept kab fun g hg hb => (hFb g hb.1).2.2.2 hg
      have hR4 := (hR3.kept ha.kept fun ad had hx => by have := hR3.2.2.2 ad had; simp [BlkIn, nth, blkOf, vaddr] at hx; omega).kept kab fun ad had hb => by have := (hFb _ hb.1).1; have := hRlt ad had; omega
      have hFb' : ∀ g, v'.ownBlock = some g → w.heap.size ≤ g ∧ g ≠ b1 ∧ g ≠ b2 ∧ g ≠ b5 ∧ g ≠ b6 ∧ (Value.slice oa O.length oc).ownBlock ≠ some g := fun g hg => by
        rcases hfr with ⟨q1, _⟩ | ⟨b', q1, hb', _⟩
        · rw [q1] at hg
          have q2 := hFb g hg
          have q3 := hF3.lt hg
          exact ⟨q2.1, q2.2.1, q2.2.2.1, by omega, by omega, q2.2.2.2⟩
        · rw [q1] at hg
          have q4 : b' = g := Option.some.inj hg
          exact ⟨by omega, by omega, by omega, by omega, by omega, fun e => by have := hO3.lt e; omega⟩
      refine den_ob64 (by simp only [IE.den, nth, vint]; omega) (den_leaf' fun w8 h8 => (if_pos rfl).mpr ⟨⟨j + 1, .slice oa O.length oc, v', O, F ++ [x], .slice ra (r0 :: R2).length rc, r0 :: R2, B', Bl', Pg', by omega, by simp [SV.den, denL, IE.den, BE.den, nth, vint, vbool, vaddr, addO, addr_add, refC], hO4.same (shown_same h8), hv'.same (shown_same h8), hR4.same (shown_same h8), hB', hOb, fun g hg => ⟨(hFb' g hg).1, (hFb' g hg).2.1, (hFb' g hg).2.2.1, (hFb' g hg).2.2.2.2.2⟩, ⟨hRlt, hRfr⟩, by omega, by rw [List.length_append]; simp; omega, d1, by rw [← d2]; simp, d3, d4⟩, ?_⟩)
      simp only [denL, SV.den, IE.den, nth, vint]; omega
    · have hb' : Bl' 4 = false := hb
      rw [dl_cons_f x _ _ _ _ (by rw [hk']; rw [hb'] at hBk; simp at hBk; rw [hBk]; rfl)] at d1 d2 d3 d4
      have hBu := hB'.upd 4 (by decide) x.t x.p hk'
      intro w4 h4
      refine ⟨fun y => (Value.slice oa O.length oc).ownBlock = some y ∨ y = b5 ∨ y = b2 ∨ y = b1, fun y hy => by simp [BlkIn, nth, blkOf, vaddr] at hy; omega, ?_⟩
      have z4 : w3.heap.size ≤ w4.heap.size := h4.kept.size
      have hO4 := hO3.kept h4.kept fun g hg hx => by have := hO3.lt hg; simp [BlkIn, nth, blkOf, vaddr] at hx; omega
      have hF4 := hF3.kept h4.kept fun g hg hx => by have := hF3.lt hg; simp [BlkIn, nth, blkOf, vaddr] at hx; omega
      have hR4 := hR3.kept h4.kept fun ad had hx => by have := hR3.2.2.2 ad had; simp [BlkIn, nth, blkOf, vaddr] at hx; omega
      obtain ⟨ad, had, hcell⟩ := hR4.1.elem (j := 0) (x := r0) rfl (by decide)
      have hadv : ra = some ad := had
      refine den_ob (by simp [BE.den, IE.den, nth, vlen]) (den_ob (by simp [BE.den, nth, vnil, hadv]) ?_)
      refine den_load [.int .u16 r0] ad ⟨⟨_, rfl⟩, trivial⟩ (by simp [SV.den, IE.den, nth, vaddr, hadv, addO, Addr.add]) (fun hX => ?_) (fun jj v hv => ?_) (den_norm (by simp only [List.cons_append, List.nil_append]; rfl) ?_)
      · have := hRlt ad had
        have := hR3.2.2.2 ad had
        rcases hX with hX | hX
        · have := hOb _ hX
          omega
        · omega
      · cases jj with
        | zero =>
          have := hcell 0 v hv
          simpa [Addr.add] using this
        | succ jj => simp at hv
      have lb5 : b5 < w4.heap.size := h4.lt (i := 48) (by simp [keys]) rfl
      refine den_call_int (x := resI x) (fun wa _ => c11 x hxo wa) rfl (fun wa wb ha hab => den_norm (by simp only [List.cons_append, List.nil_append]; rfl) (den_blk fun b6 k6 _ _ => den_norm (by simp only [List.cons_append, List.nil_append]; rfl) ?_))
      have za : w4.heap.size ≤ wa.heap.size := ha.kept.size
      have zab : wa.heap.size ≤ wb.heap.size := hab.size
      have z6 : wb.heap.size ≤ b6 := k6
      have hOb1 := (hO4.same (shown_same ha)).same hab
      have hFb1 := (hF4.same (shown_same ha)).same hab
      have hRb1 := (hR4.same (shown_same ha)).same hab
      refine den_push (E := resE) (T := 49) rfl u46 i49 z49 s49 rfl (by decide) by49 res_one (.slice oa O.length oc) O (r0, resI x) rfl rfl rfl (by omega) (fun g hg _ => .inl (hOb g hg).1) (by simp [keys]) (fun wc hc => hOb1.same (shown_same hc)) ?_ (fun _ g hg _ => .inl hg) (fun _ => rfl) (fun wc v' wd hc hv' kcd hfr hap => den_norm (by simp only [List.cons_append, List.nil_append]; rfl) ?_)
      · intro g hg _ hin
        have q1 := hO3.lt hg
        have q2 := hOb g hg
        simp [BlkIn, nth, blkOf, vaddr] at hin
        omega
      have zbc : wb.heap.size ≤ wc.heap.size := hc.kept.size
      have zcd : wc.heap.size ≤ wd.heap.size := kcd.size
      have hFd := (hFb1.same (shown_same hc)).kept kcd fun g hg hb => (hFb g hg).2.2.2 hb.1
      have hRd := (hRb1.same (shown_same hc)).kept kcd fun ad2 had2 hb => by have := (hOb _ hb.1).1; have := hRlt ad2 had2; omega
      have lb6 : b6 < wc.heap.size := hc.lt (i := 51) (by simp [keys]) rfl
      have hOb' : ∀ g, v'.ownBlock = some g → w.heap.size ≤ g ∧ g ≠ b1 ∧ g ≠ b2 ∧ g ≠ b5 ∧ g ≠ b6 ∧ (Value.slice fa F.length fc).ownBlock ≠ some g := fun g hg => by
        rcases hfr with ⟨q1, _⟩ | ⟨b', q1, hb', _⟩
        · rw [q1] at hg
          have q2 := hOb g hg
          have q3 := hO3.lt hg
          exact ⟨q2.1, q2.2.1, q2.2.2, by omega, by omega, fun e => (hFb g e).2.2.2 hg⟩
        · rw [q1] at hg
          have q4 : b' = g := Option.some.inj hg
          exact ⟨by omega, by omega, by omega, by omega, by omega, fun e => by have := hF3.lt e; omega⟩
      have hFb'' : ∀ g, (Value.slice fa F.length fc).ownBlock = some g → w.heap.size ≤ g ∧ g ≠ b1 ∧ g ≠ b2 ∧ v'.ownBlock ≠ some g := fun g hg => ⟨(hFb g hg).1, (hFb g hg).2.1, (hFb g hg).2.2.1, fun e => (hOb' g e).2.2.2.2.2 hg⟩
      intro we he
      refine den_slice ra (r0 :: R2).length rc (some (1 : Int)) none none 1 (r0 :: R2).length rc 1 u35 st37 (fun ρ h => h.1) (fun ρ h => congrArg some h.2.1) (fun _ _ => rfl) (fun _ _ => rfl) (.inl ⟨rfl, rfl⟩) (.inl ⟨rfl, rfl, rfl⟩) (.inr ⟨rfl, by simp⟩) (fun _ => rfl) ?_
      have hRe := hRd.kept he.kept fun ad2 had2 hx => by have := hRlt ad2 had2; simp [BlkIn, nth, blkOf, vaddr] at hx; try omega
      obtain ⟨sa1, sc1, hs1, hg1, hs1b⟩ := given_tail hRe
      rw [hs1]
      refine den_norm (by simp only [List.cons_append, List.nil_append]; rfl) ?_
      have hRlt' : ∀ ad2, vaddr (.slice sa1 R2.length sc1) = some ad2 → ad2.block < w.heap.size := fun ad2 h2 => by
        obtain ⟨ad3, h3', h4'⟩ := hs1b ad2 h2
        rw [← h4']
        exact hRlt ad3 h3'
      have hRfr' : Fr w (.slice a R.length c) (.slice sa1 R2.length sc1) := fun ad2 h2 => by
        obtain ⟨ad3, h3', h4'⟩ := hs1b ad2 h2
        rw [← h4']
        exact hRfr ad3 h3'
      refine den_startF fun wf hf => ?_
      have fin1 : ∀ {wz : World} {M : Nat → Prop}, Kept M wf wz → (∀ b, M b → b = b1 ∨ b = b2 ∨ b = b5 ∨ b = b6) → Mine resE 49 wz v' (O ++ [(r0, resI x)]) := fun {wz M} hk hM => ((hv'.kept he.kept fun g hg hb => by have := hOb' g hg; simp [BlkIn, nth, blkOf, vaddr] at hb; try omega).kept hf.kept fun g hg hb => by have := hOb' g hg; simp [BlkIn, nth, blkOf, vaddr] at hb; try omega).kept hk fun g hg hb => by have := hOb' g hg; have := hM _ hb; omega
      have fin2 : ∀ {wz : World} {M : Nat → Prop}, Kept M wf wz → (∀ b, M b → b = b1 ∨ b = b2 ∨ b = b5 ∨ b = b6) → Mine ntcE 23 wz (.slice fa F.length fc) F := fun {wz M} hk hM => ((hFd.kept he.kept fun g hg hb => by have := hFb g hg; have := hF3.lt hg; simp [BlkIn, nth, blkOf, vaddr] at hb; try omega).kept hf.kept fun g hg hb => by have := hFb g hg; have := hF3.lt hg; simp [BlkIn, nth, blkOf, vaddr] at hb; try omega).kept hk fun g hg hb => by have := hFb g hg; have := hF3.lt hg; have := hM _ hb; omega
      have fin3 : ∀ {wz : World} {M : Nat → Prop}, Kept M wf wz → (∀ b, M b → b = b1 ∨ b = b2 ∨ b = b5 ∨ b = b6) → Given hE wz (.slice sa1 R2.length sc1) R2 := fun {wz M} hk hM => (hg1.kept hf.kept fun ad2 had2 hb => by have := hRlt' ad2 had2; simp [BlkIn, nth, blkOf, vaddr] at hb; omega).kept hk fun ad2 had2 hb => by have := hRlt' ad2 had2; have := hM _ hb; omega
      refine den_ob (by simp [BE.den, IE.den, nth, vint]; omega) (den_ob (by simp [BE.den, IE.den, nth, vint]; omega) (den_ob (by simp [BE.den, IE.den, nth, vint]; omega) (den_ob (by simp [BE.den, IE.den, nth, vint]; omega) ?_)))
      refine den_ob64 (by simp only [IE.den, nth, vint]; omega) (den_leaf' fun w8 h8 => (if_pos rfl).mpr ⟨⟨j + 1, v', .slice fa F.length fc, O ++ [(r0, resI x)], F, .slice sa1 R2.length sc1, R2, upd B' x.t x.p, _, _, by omega, ?_, fin1 h8.kept fun b hb => by simp [BlkIn, nth, blkOf, vaddr] at hb; omega, fin2 h8.kept fun b hb => by simp [BlkIn, nth, blkOf, vaddr] at hb; omega, fin3 h8.kept fun b hb => by simp [BlkIn, nth, blkOf, vaddr] at hb; omega, hBu, fun g hg => ⟨(hOb' g hg).1, (hOb' g hg).2.1, (hOb' g hg).2.2.1⟩, hFb'', ⟨hRlt', hRfr'⟩, by rw [List.length_append]; simp; omega, by omega, by rw [← d1]; simp, d2, d3, d4⟩, ?_⟩)
      · simp [SV.den, denL, IE.den, BE.den, nth, vint, vbool, vaddr, addO, addr_add, refC]
      · simp only [denL, SV.den, IE.den, nth, vint]; omega
  refine den_splitEq (fun hk => ?_) (fun hk5 => ?_)
  · have hk' : x.t = 5 := hk
    have hBk := hB'.lo 5 (by decide)
    refine den_split (fun hb => ?_) (fun hb => ?_)
    · have hb' : Bl' 5 = true := hb
      rw [dl_cons_b x _ _ _ _ (by rw [hk']; rw [hb'] at hBk; simp at hBk; rw [hBk]; rfl)] at d1 d2 d3 d4
      refine den_blk fun b6 k6 _ _ => den_norm (by simp only [List.cons_append, List.nil_append]; rfl) ?_
      have z6 : w3.heap.size ≤ b6 := k6
      refine den_push (E := ntcE) (T := 23) rfl u57 i23 z23 s23 rfl (by decide) by23 ntc_one (.slice fa F.length fc) F x rfl rfl rfl (by omega) (fun g hg _ => .inl (hFb g hg).1) (by simp [keys]) (fun wa ha => (hF3.kept ha.kept fun g hg hx => by have := hF3.lt hg; simp [BlkIn, nth, blkOf, vaddr] at hx; omega)) ?_ (fun hd => by cases hd) (fun _ => rfl) (fun wa v' wb ha hv' kab hfr hap => den_norm (by simp only [List.cons_append, List.nil_append]; rfl) ?_)
      · intro g hg _ hin2
        have q1 := hF3.lt hg
        have q2 := hFb g hg
        simp [BlkIn, nth, blkOf, vaddr] at hin2
        omega
      have za : w3.heap.size ≤ wa.heap.size := ha.kept.size
      have la : b5 < wa.heap.size := ha.lt (i := 48) (by simp [keys]) rfl
      have lb : b6 < wa.heap.size := ha.lt (i := 49) (by simp [keys]) rfl
      have hO4 := (hO3.kept ha.kept fun g hg hx => by have := hO3.lt hg; simp [BlkIn, nth, blkOf, vaddr] at hx; omega).kept kab fun g hg hb => (hFb g hb.1).2.2.2 hg
      have hR4 := (hR3.kept ha.kept fun ad had hx => by have := hR3.2.2.2 ad had; simp [BlkIn, nth, blkOf, vaddr] at hx; omega).kept kab fun ad had hb => by have := (hFb _ hb.1).1; have := hRlt ad had; omega
      have hFb' : ∀ g, v'.ownBlock = some g → w.heap.size ≤ g ∧ g ≠ b1 ∧ g ≠ b2 ∧ g ≠ b5 ∧ g ≠ b6 ∧ (Value.slice oa O.length oc).ownBlock ≠ some g := fun g hg => by
        rcases hfr with ⟨q1, _⟩ | ⟨b', q1, hb', _⟩
        · rw [q1] at hg
          have q2 := hFb g hg
          have q3 := hF3.lt hg
          exact ⟨q2.1, q2.2.1, q2.2.2.1, by omega, by omega, q2.2.2.2⟩
        · rw [q1] at hg
          have q4 : b' = g := Option.some.inj hg
          exact ⟨by omega, by omega, by omega, by omega, by omega, fun e => by have := hO3.lt e; omega⟩
      refine den_ob64 (by simp only [IE.den, nth, vint]; omega) (den_leaf' fun w8 h8 => (if_pos rfl).mpr ⟨⟨j + 1, .slice oa O.length oc, v', O, F ++ [x], .slice ra (r0 :: R2).length rc, r0 :: R2, B', Bl', Pg', by omega, by simp [SV.den, denL, IE.den, BE.den, nth, vint, vbool, vaddr, addO, addr_add, refC], hO4.same (shown_same h8), hv'.same (shown_same h8), hR4.same (shown_same h8), hB', hOb, fun g hg => ⟨(hFb' g hg).1, (hFb' g hg).2.1, (hFb' g hg).2.2.1, (hFb' g hg).2.2.2.2.2⟩, ⟨hRlt, hRfr⟩, by omega, by rw [List.length_append]; simp; omega, d1, by rw [← d2]; simp, d3, d4⟩, ?_⟩)
      simp only [denL, SV.den, IE.den, nth, vint]; omega
    · have hb' : Bl' 5 = false := hb
      rw [dl_cons_f x _ _ _ _ (by rw [hk']; rw [hb'] at hBk; simp at hBk; rw [hBk]; rfl)] at d1 d2 d3 d4
      have hBu := hB'.upd 5 (by decide) x.t x.p hk'
      intro w4 h4
      refine ⟨fun y => (Value.slice oa O.length oc).ownBlock = some y ∨ y = b5 ∨ y = b2 ∨ y = b1, fun y hy => by simp [BlkIn, nth, blkOf, vaddr] at hy; omega, ?_⟩
      have z4 : w3.heap.size ≤ w4.heap.size := h4.kept.size
      have hO4 := hO3.kept h4.kept fun g hg hx => by have := hO3.lt hg; simp [BlkIn, nth, blkOf, vaddr] at hx; omega
      have hF4 := hF3.kept h4.kept fun g hg hx => by have := hF3.lt hg; simp [BlkIn, nth, blkOf, vaddr] at hx; omega
      have hR4 := hR3.kept h4.kept fun ad had hx => by have := hR3.2.2.2 ad had; simp [BlkIn, nth, blkOf, vaddr] at hx; omega
      obtain ⟨ad, had, hcell⟩ := hR4.1.elem (j := 0) (x := r0) rfl (by decide)
      have hadv : ra = some ad := had
      refine den_ob (by simp [BE.den, IE.den, nth, vlen]) (den_ob (by simp [BE.den, nth, vnil, hadv]) ?_)
      refine den_load [.int .u16 r0] ad ⟨⟨_, rfl⟩, trivial⟩ (by simp [SV.den, IE.den, nth, vaddr, hadv, addO, Addr.add]) (fun hX => ?_) (fun jj v hv => ?_) (den_norm (by simp only [List.cons_append, List.nil_append]; rfl) ?_)
      · have := hRlt ad had
        have := hR3.2.2.2 ad had
        rcases hX with hX | hX
        · have := hOb _ hX
          omega
        · omega
      · cases jj with
        | zero =>
          have := hcell 0 v hv
          simpa [Addr.add] using this
        | succ jj => simp at hv
      have lb5 : b5 < w4.heap.size := h4.lt (i := 48) (by simp [keys]) rfl
      refine den_call_int (x := resI x) (fun wa _ => c11 x hxo wa) rfl (fun wa wb ha hab => den_norm (by simp only [List.cons_append, List.nil_append]; rfl) (den_blk fun b6 k6 _ _ => den_norm (by simp only [List.cons_append, List.nil_append]; rfl) ?_))
      have za : w4.heap.size ≤ wa.heap.size := ha.kept.size
      have zab : wa.heap.size ≤ wb.heap.size := hab.size
      have z6 : wb.heap.size ≤ b6 := k6
      have hOb1 := (hO4.same (shown_same ha)).same hab
      have hFb1 := (hF4.same (shown_same ha)).same hab
      have hRb1 := (hR4.same (shown_same ha)).same hab
      refine den_push (E := resE) (T := 49) rfl u46 i49 z49 s49 rfl (by decide) by49 res_one (.slice oa O.length oc) O (r0, resI x) rfl rfl rfl (by omega) (fun g hg _ => .inl (hOb g hg).1) (by simp [keys]) (fun wc hc => hOb1.same (shown_same hc)) ?_ (fun _ g hg _ => .inl hg) (fun _ => rfl) (fun wc v' wd hc hv' kcd hfr hap => den_norm (by simp only [List.cons_append, List.nil_append]; rfl) ?_)
      · intro g hg _ hin
        have q1 := hO3.lt hg
        have q2 := hOb g hg
        simp [BlkIn, nth, blkOf, vaddr] at hin
        omega
      have zbc : wb.heap.size ≤ wc.heap.size := hc.kept.size
      have zcd : wc.heap.size ≤ wd.heap.size := kcd.size
      have hFd := (hFb1.same (shown_same hc)).kept kcd fun g hg hb => (hFb g hg).2.2.2 hb.1
      have hRd := (hRb1.same (shown_same hc)).kept kcd fun ad2 had2 hb => by have := (hOb _ hb.1).1; have := hRlt ad2 had2; omega
      have lb6 : b6 < wc.heap.size := hc.lt (i := 51) (by simp [keys]) rfl
      have hOb' : ∀ g, v'.ownBlock = some g → w.heap.size ≤ g ∧ g ≠ b1 ∧ g ≠ b2 ∧ g ≠ b5 ∧ g ≠ b6 ∧ (Value.slice fa F.length fc).ownBlock ≠ some g := fun g hg => by
        rcases hfr with ⟨q1, _⟩ | ⟨b', q1, hb', _⟩
        · rw [q1] at hg
          have q2 := hOb g hg
          have q3 := hO3.lt hg
          exact ⟨q2.1, q2.2.1, q2.2.2, by omega, by omega, fun e => (hFb g e).2.2.2 hg⟩
        · rw [q1] at hg
          have q4 : b' = g := Option.some.inj hg
          exact ⟨by omega, by omega, by omega, by omega, by omega, fun e => by have := hF3.lt e; omega⟩
      have hFb'' : ∀ g, (Value.slice fa F.length fc).ownBlock = some g → w.heap.size ≤ g ∧ g ≠ b1 ∧ g ≠ b2 ∧ v'.ownBlock ≠ some g := fun g hg => ⟨(hFb g hg).1, (hFb g hg).2.1, (hFb g hg).2.2.1, fun e => (hOb' g e).2.2.2.2.2 hg⟩
      intro we he
      refine den_slice ra (r0 :: R2).length rc (some (1 : Int)) none none 1 (r0 :: R2).length rc 1 u35 st37 (fun ρ h => h.1) (fun ρ h => congrArg some h.2.1) (fun _ _ => rfl) (fun _ _ => rfl) (.inl ⟨rfl, rfl⟩) (.inl ⟨rfl, rfl, rfl⟩) (.inr ⟨rfl, by simp⟩) (fun _ => rfl) ?_
      have hRe := hRd.kept he.kept fun ad2 had2 hx => by have := hRlt ad2 had2; simp [BlkIn, nth, blkOf, vaddr] at hx; try omega
      obtain ⟨sa1, sc1, hs1, hg1, hs1b⟩ := given_tail hRe
      rw [hs1]
      refine den_norm (by simp only [List.cons_append, List.nil_append]; rfl) ?_
      have hRlt' : ∀ ad2, vaddr (.slice sa1 R2.length sc1) = some ad2 → ad2.block < w.heap.size := fun ad2 h2 => by
        obtain ⟨ad3, h3', h4'⟩ := hs1b ad2 h2
        rw [← h4']
        exact hRlt ad3 h3'
      have hRfr' : Fr w (.slice a R.length c) (.slice sa1 R2.length sc1) := fun ad2 h2 => by
        obtain ⟨ad3, h3', h4'⟩ := hs1b ad2 h2
        rw [← h4']
        exact hRfr ad3 h3'
      refine den_startF fun wf hf => ?_
      have fin1 : ∀ {wz : World} {M : Nat → Prop}, Kept M wf wz → (∀ b, M b → b = b1 ∨ b = b2 ∨ b = b5 ∨ b = b6) → Mine resE 49 wz v' (O ++ [(r0, resI x)]) := fun {wz M} hk hM => ((hv'.kept he.kept fun g hg hb => by have := hOb' g hg; simp [BlkIn, nth, blkOf, vaddr] at hb; try omega).kept hf.kept fun g hg hb => by have := hOb' g hg; simp [BlkIn, nth, blkOf, vaddr] at hb; try omega).kept hk fun g hg hb => by have := hOb' g hg; have := hM _ hb; omega
      have fin2 : ∀ {wz : World} {M : Nat → Prop}, Kept M wf wz → (∀ b, M b → b = b1 ∨ b = b2 ∨ b = b5 ∨ b = b6) → Mine ntcE 23 wz (.slice fa F.length fc) F := fun {wz M} hk hM => ((hFd.kept he.kept fun g hg hb => by have := hFb g hg; have := hF3.lt hg; simp [BlkIn, nth, blkOf, vaddr] at hb; try omega).kept hf.kept fun g hg hb => by have := hFb g hg; have := hF3.lt hg; simp [BlkIn, nth, blkOf, vaddr] at hb; try omega).kept hk fun g hg hb => by have := hFb g hg; have := hF3.lt hg; have := hM _ hb; omega
      have fin3 : ∀ {wz : World} {M : Nat → Prop}, Kept M wf wz → (∀ b, M b → b = b1 ∨ b = b2 ∨ b = b5 ∨ b = b6) → Given hE wz (.slice sa1 R2.length sc1) R2 := fun {wz M} hk hM => (hg1.kept hf.kept fun ad2 had2 hb => by have := hRlt' ad2 had2; simp [BlkIn, nth, blkOf, vaddr] at hb; omega).kept hk fun ad2 had2 hb => by have := hRlt' ad2 had2; have := hM _ hb; omega
      refine den_ob (by simp [BE.den, IE.den, nth, vint]; omega) (den_ob (by simp [BE.den, IE.den, nth, vint]; omega) (den_ob (by simp [BE.den, IE.den, nth, vint]; omega) (den_ob (by simp [BE.den, IE.den, nth, vint]; omega) ?_)))
      refine den_ob64 (by simp only [IE.den, nth, vint]; omega) (den_leaf' fun w8 h8 => (if_pos rfl).mpr ⟨⟨j + 1, v', .slice fa F.length fc, O ++ [(r0, resI x)], F, .slice sa1 R2.length sc1, R2, upd B' x.t x.p, _, _, by omega, ?_, fin1 h8.kept fun b hb => by simp [BlkIn, nth, blkOf, vaddr] at hb; omega, fin2 h8.kept fun b hb => by simp [BlkIn, nth, blkOf, vaddr] at hb; omega, fin3 h8.kept fun b hb => by simp [BlkIn, nth, blkOf, vaddr] at hb; omega, hBu, fun g hg => ⟨(hOb' g hg).1, (hOb' g hg).2.1, (hOb' g hg).2.2.1⟩, hFb'', ⟨hRlt', hRfr'⟩, by rw [List.length_append]; simp; omega, by omega, by rw [← d1]; simp, d2, d3, d4⟩, ?_⟩)
      · simp [SV.den, denL, IE.den, BE.den, nth, vint, vbool, vaddr, addO, addr_add, refC]
      · simp only [denL, SV.den, IE.den, nth, vint]; omega
  refine den_splitEq (fun hk => ?_) (fun hk6 => ?_)
  · have hk' : x.t = 6 := hk
    have hBk := hB'.lo 6 (by decide)
    refine den_split (fun hb => ?_) (fun hb => ?_)
    · have hb' : Bl' 6 = true := hb
      rw [dl_cons_b x _ _ _ _ (by rw [hk']; rw [hb'] at hBk; simp at hBk; rw [hBk]; rfl)] at d1 d2 d3 d4
      refine den_blk fun b6 k6 _ _ => den_norm (by simp only [List.cons_append, List.nil_append]; rfl) ?_
      have z6 : w3.heap.size ≤ b6 := k6
      refine den_push (E := ntcE) (T := 23) rfl u57 i23 z23 s23 rfl (by decide) by23 ntc_one (.slice fa F.length fc) F x rfl rfl rfl (by omega) (fun g hg _ => .inl (hFb g hg).1) (by simp [keys]) (fun wa ha => (hF3.kept ha.kept fun g hg hx => by have := hF3.lt hg; simp [BlkIn, nth, blkOf, vaddr] at hx; omega)) ?_ (fun hd => by cases hd) (fun _ => rfl) (fun wa v' wb ha hv' kab hfr hap => den_norm (by simp only [List.cons_append, List.nil_append]; rfl) ?_)
      · intro g hg _ hin2
        have q1 := hF3.lt hg
        have q2 := hFb g hg
        simp [BlkIn, nth, blkOf, vaddr] at hin2
        omega
      have za : w3.heap.size ≤ wa.heap.size := ha.kept.size
      have la : b5 < wa.heap.size := ha.lt (i := 48) (by simp [keys]) rfl
      have lb : b6 < wa.heap.size := ha.lt (i := 49) (by simp [keys]) rfl
      have hO4 := (hO3.kept ha.kept fun g hg hx => by have := hO3.lt hg; simp [BlkIn, nth, blkOf, vaddr] at hx; omega).kept kab fun g hg hb => (hFb g hb.1).2.2.2 hg
      have hR4 := (hR3.kept ha.kept fun ad had hx => by have := hR3.2.2.2 ad had; simp [BlkIn, nth, blkOf, vaddr] at hx; omega).kept kab fun ad had hb => by have := (hFb _ hb.1).1; have := hRlt ad had; omega
      have hFb' : ∀ g, v'.ownBlock = some g → w.heap.size ≤ g ∧ g ≠ b1 ∧ g ≠ b2 ∧ g ≠ b5 ∧ g ≠ b6 ∧ (Value.slice oa O.length oc).ownBlock ≠ some g := fun g hg => by
        rcases hfr with ⟨q1, _⟩ | ⟨b', q1, hb', _⟩
        · rw [q1] at hg
          have q2 := hFb g hg
          have q3 := hF3.lt hg
          exact ⟨q2.1, q2.2.1, q2.2.2.1, by omega, by omega, q2.2.2.2⟩
        · rw [q1] at hg
          have q4 : b' = g := Option.some.inj hg
          exact ⟨by omega, by omega, by omega, by omega, by omega, fun e => by have := hO3.lt e; omega⟩
      refine den_ob64 (by simp only [IE.den, nth, vint]; omega) (den_leaf' fun w8 h8 => (if_pos rfl).mpr ⟨⟨j + 1, .slice oa O.length oc, v', O, F ++ [x], .slice ra (r0 :: R2).length rc, r0 :: R2, B', Bl', Pg', by omega, by simp [SV.den, denL, IE.den, BE.den, nth, vint, vbool, vaddr, addO, addr_add, refC], hO4.same (shown_same h8), hv'.same (shown_same h8), hR4.same (shown_same h8), hB', hOb, fun g hg => ⟨(hFb' g hg).1, (hFb' g hg).2.1, (hFb' g hg).2.2.1, (hFb' g hg).2.2.2.2.2⟩, ⟨hRlt, hRfr⟩, by omega, by rw [List.length_append]; simp; omega, d1, by rw [← d2]; simp, d3, d4⟩, ?_⟩)
      simp only [denL, SV.den, IE.den, nth, vint]; omega
    · have hb' : Bl' 6 = false := hb
      rw [dl_cons_f x _ _ _ _ (by rw [hk']; rw [hb'] at hBk; simp at hBk; rw [hBk]; rfl)] at d1 d2 d3 d4
      have hBu := hB'.upd 6 (by decide) x.t x.p hk'
      intro w4 h4
      refine ⟨fun y => (Value.slice oa O.length oc).ownBlock = some y ∨ y = b5 ∨ y = b2 ∨ y = b1, fun y hy => by simp [BlkIn, nth, blkOf, vaddr] at hy; omega, ?_⟩
      have z4 : w3.heap.size ≤ w4.heap.size := h4.kept.size
      have hO4 := hO3.kept h4.kept fun g hg hx => by have := hO3.lt hg; simp [BlkIn, nth, blkOf, vaddr] at hx; omega
      have hF4 := hF3.kept h4.kept fun g hg hx => by have := hF3.lt hg; simp [BlkIn, nth, blkOf, vaddr] at hx; omega
      have hR4 := hR3.kept h4.kept fun ad had hx => by have := hR3.2.2.2 ad had; simp [BlkIn, nth, blkOf, vaddr] at hx; omega
      obtain ⟨ad, had, hcell⟩ := hR4.1.elem (j := 0) (x := r0) rfl (by decide)
      have hadv : ra = some ad := had
      refine den_ob (by simp [BE.den, IE.den, nth, vlen]) (den_ob (by simp [BE.den, nth, vnil, hadv]) ?_)
      refine den_load [.int .u16 r0] ad ⟨⟨_, rfl⟩, trivial⟩ (by simp [SV.den, IE.den, nth, vaddr, hadv, addO, Addr.add]) (fun hX => ?_) (fun jj v hv => ?_) (den_norm (by simp only [List.cons_append, List.nil_append]; rfl) ?_)
      · have := hRlt ad had
        have := hR3.2.2.2 ad had
        rcases hX with hX | hX
        · have := hOb _ hX
          omega
        · omega
      · cases jj with
        | zero =>
          have := hcell 0 v hv
          simpa [Addr.add] using this
        | succ jj => simp at hv
      have lb5 : b5 < w4.heap.size := h4.lt (i := 48) (by simp [keys]) rfl
      refine den_call_int (x := resI x) (fun wa _ => c11 x hxo wa) rfl (fun wa wb ha hab => den_norm (by simp only [List.cons_append, List.nil_append]; rfl) (den_blk fun b6 k6 _ _ => den_norm (by simp only [List.cons_append, List.nil_append]; rfl) ?_))
      have za : w4.heap.size ≤ wa.heap.size := ha.kept.size
      have zab : wa.heap.size ≤ wb.heap.size := hab.size
      have z6 : wb.heap.size ≤ b6 := k6
      have hOb1 := (hO4.same (shown_same ha)).same hab
      have hFb1 := (hF4.same (shown_same ha)).same hab
      have hRb1 := (hR4.same (shown_same ha)).same hab
      refine den_push (E := resE) (T := 49) rfl u46 i49 z49 s49 rfl (by decide) by49 res_one (.slice oa O.length oc) O (r0, resI x) rfl rfl rfl (by omega) (fun g hg _ => .inl (hOb g hg).1) (by simp [keys]) (fun wc hc => hOb1.same (shown_same hc)) ?_ (fun _ g hg _ => .inl hg) (fun _ => rfl) (fun wc v' wd hc hv' kcd hfr hap => den_norm (by simp only [List.cons_append, List.nil_append]; rfl) ?_)
      · intro g hg _ hin
        have q1 := hO3.lt hg
        have q2 := hOb g hg
        simp [BlkIn, nth, blkOf, vaddr] at hin
        omega
      have zbc : wb.heap.size ≤ wc.heap.size := hc.kept.size
      have zcd : wc.heap.size ≤ wd.heap.size := kcd.size
      have hFd := (hFb1.same (shown_same hc)).kept kcd fun g hg hb => (hFb g hg).2.2.2 hb.1
      have hRd := (hRb1.same (shown_same hc)).kept kcd fun ad2 had2 hb => by have := (hOb _ hb.1).1; have := hRlt ad2 had2; omega
      have lb6 : b6 < wc.heap.size := hc.lt (i := 51) (by simp [keys]) rfl
      have hOb' : ∀ g, v'.ownBlock = some g → w.heap.size ≤ g ∧ g ≠ b1 ∧ g ≠ b2 ∧ g ≠ b5 ∧ g ≠ b6 ∧ (Value.slice fa F.length fc).ownBlock ≠ some g := fun g hg => by
        rcases hfr with ⟨q1, _⟩ | ⟨b', q1, hb', _⟩
        · rw [q1] at hg
          have q2 := hOb g hg
          have q3 := hO3.lt hg
          exact ⟨q2.1, q2.2.1, q2.2.2, by omega, by omega, fun e => (hFb g e).2.2.2 hg⟩
        · rw [q1] at hg
          have q4 : b' = g := Option.some.inj hg
          exact ⟨by omega, by omega, by omega, by omega, by omega, fun e => by have := hF3.lt e; omega⟩
      have hFb'' : ∀ g, (Value.slice fa F.length fc).ownBlock = some g → w.heap.size ≤ g ∧ g ≠ b1 ∧ g ≠ b2 ∧ v'.ownBlock ≠ some g := fun g hg => ⟨(hFb g hg).1, (hFb g hg).2.1, (hFb g hg).2.2.1, fun e => (hOb' g e).2.2.2.2.2 hg⟩
      intro we he
      refine den_slice ra (r0 :: R2).length rc (some (1 : Int)) none none 1 (r0 :: R2).length rc 1 u35 st37 (fun ρ h => h.1) (fun ρ h => congrArg some h.2.1) (fun _ _ => rfl) (fun _ _ => rfl) (.inl ⟨rfl, rfl⟩) (.inl ⟨rfl, rfl, rfl⟩) (.inr ⟨rfl, by simp⟩) (fun _ => rfl) ?_
      have hRe := hRd.kept he.kept fun ad2 had2 hx => by have := hRlt ad2 had2; simp [BlkIn, nth, blkOf, vaddr] at hx; try omega
      obtain ⟨sa1, sc1, hs1, hg1, hs1b⟩ := given_tail hRe
      rw [hs1]
      refine den_norm (by simp only [List.cons_append, List.nil_append]; rfl) ?_
      have hRlt' : ∀ ad2, vaddr (.slice sa1 R2.length sc1) = some ad2 → ad2.block < w.heap.size := fun ad2 h2 => by
        obtain ⟨ad3, h3', h4'⟩ := hs1b ad2 h2
        rw [← h4']
        exact hRlt ad3 h3'
      have hRfr' : Fr w (.slice a R.length c) (.slice sa1 R2.length sc1) := fun ad2 h2 => by
        obtain ⟨ad3, h3', h4'⟩ := hs1b ad2 h2
        rw [← h4']
        exact hRfr ad3 h3'
      refine den_startF fun wf hf => ?_
      have fin1 : ∀ {wz : World} {M : Nat → Prop}, Kept M wf wz → (∀ b, M b → b = b1 ∨ b = b2 ∨ b = b5 ∨ b = b6) → Mine resE 49 wz v' (O ++ [(r0, resI x)]) := fun {wz M} hk hM => ((hv'.kept he.kept fun g hg hb => by have := hOb' g hg; simp [BlkIn, nth, blkOf, vaddr] at hb; try omega).kept hf.kept fun g hg hb => by have := hOb' g hg; simp [BlkIn, nth, blkOf, vaddr] at hb; try omega).kept hk fun g hg hb => by have := hOb' g hg; have := hM _ hb; omega
      have fin2 : ∀ {wz : World} {M : Nat → Prop}, Kept M wf wz → (∀ b, M b → b = b1 ∨ b = b2 ∨ b = b5 ∨ b = b6) → Mine ntcE 23 wz (.slice fa F.length fc) F := fun {wz M} hk hM => ((hFd.kept he.kept fun g hg hb => by have := hFb g hg; have := hF3.lt hg; simp [BlkIn, nth, blkOf, vaddr] at hb; try omega).kept hf.kept fun g hg hb => by have := hFb g hg; have := hF3.lt hg; simp [BlkIn, nth, blkOf, vaddr] at hb; try omega).kept hk fun g hg hb => by have := hFb g hg; have := hF3.lt hg; have := hM _ hb; omega
      have fin3 : ∀ {wz : World} {M : Nat → Prop}, Kept M wf wz → (∀ b, M b → b = b1 ∨ b = b2 ∨ b = b5 ∨ b = b6) → Given hE wz (.slice sa1 R2.length sc1) R2 := fun {wz M} hk hM => (hg1.kept hf.kept fun ad2 had2 hb => by have := hRlt' ad2 had2; simp [BlkIn, nth, blkOf, vaddr] at hb; omega).kept hk fun ad2 had2 hb => by have := hRlt' ad2 had2; have := hM _ hb; omega
      refine den_ob (by simp [BE.den, IE.den, nth, vint]; omega) (den_ob (by simp [BE.den, IE.den, nth, vint]; omega) (den_ob (by simp [BE.den, IE.den, nth, vint]; omega) (den_ob (by simp [BE.den, IE.den, nth, vint]; omega) ?_)))
      refine den_ob64 (by simp only [IE.den, nth, vint]; omega) (den_leaf' fun w8 h8 => (if_pos rfl).mpr ⟨⟨j + 1, v', .slice fa F.length fc, O ++ [(r0, resI x)], F, .slice sa1 R2.length sc1, R2, upd B' x.t x.p, _, _, by omega, ?_, fin1 h8.kept fun b hb => by simp [BlkIn, nth, blkOf, vaddr] at hb; omega, fin2 h8.kept fun b hb => by simp [BlkIn, nth, blkOf, vaddr] at hb; omega, fin3 h8.kept fun b hb => by simp [BlkIn, nth, blkOf, vaddr] at hb; omega, hBu, fun g hg => ⟨(hOb' g hg).1, (hOb' g hg).2.1, (hOb' g hg).2.2.1⟩, hFb'', ⟨hRlt', hRfr'⟩, by rw [List.length_append]; simp; omega, by omega, by rw [← d1]; simp, d2, d3, d4⟩, ?_⟩)
      · simp [SV.den, denL, IE.den, BE.den, nth, vint, vbool, vaddr, addO, addr_add, refC]
      · simp only [denL, SV.den, IE.den, nth, vint]; omega
  refine den_splitEq (fun hk => ?_) (fun hk7 => ?_)
  · have hk' : x.t = 7 := hk
    have hBk := hB'.lo 7 (by decide)
    refine den_split (fun hb => ?_) (fun hb => ?_)
    · have hb' : Bl' 7 = true := hb
      rw [dl_cons_b x _ _ _ _ (by rw [hk']; rw [hb'] at hBk; simp at hBk; rw [hBk]; rfl)] at d1 d2 d3 d4
      refine den_blk fun b6 k6 _ _ => den_norm (by simp only [List.cons_append, List.nil_append]; rfl) ?_
      have z6 : w3.heap.size ≤ b6 := k6
      refine den_push (E := ntcE) (T := 23) rfl u57 i23 z23 s23 rfl (by decide) by23 ntc_one (.slice fa F.length fc) F x rfl rfl rfl (by omega) (fun g hg _ => .inl (hFb g hg).1) (by simp [keys]) (fun wa ha => (hF3.kept ha.kept fun g hg hx => by have := hF3.lt hg; simp [BlkIn, nth, blkOf, vaddr] at hx; omega)) ?_ (fun hd => by cases hd) (fun _ => rfl) (fun wa v' wb ha hv' kab hfr hap => den_norm (by simp only [List.cons_append, List.nil_append]; rfl) ?_)
      · intro g hg _ hin2
        have q1 := hF3.lt hg
        have q2 := hFb g hg
        simp [BlkIn, nth, blkOf, vaddr] at hin2
        omega
      have za : w3.heap.size ≤ wa.heap.size := ha.kept.size
      have la : b5 < wa.heap.size := ha.lt (i := 48) (by simp [keys]) rfl
      have lb : b6 < wa.heap.size := ha.lt (i := 49) (by simp [keys]) rfl
      have hO4 := (hO3.kept ha.kept fun g hg hx => by have := hO3.lt hg; simp [BlkIn, nth, blkOf, vaddr] at hx; omega).kept kab fun g hg hb => (hFb g hb.1).2.2.2 hg
      have hR4 := (hR3.kept ha.kept fun ad had hx => by have := hR3.2.2.2 ad had; simp [BlkIn, nth, blkOf, vaddr] at hx; omega).kept kab fun ad had hb => by have := (hFb _ hb.1).1; have := hRlt ad had; omega
      have hFb' : ∀ g, v'.ownBlock = some g → w.heap.size ≤ g ∧ g ≠ b1 ∧ g ≠ b2 ∧ g ≠ b5 ∧ g ≠ b6 ∧ (Value.slice oa O.length oc).ownBlock ≠ some g := fun g hg => by
        rcases hfr with ⟨q1, _⟩ | ⟨b', q1, hb', _⟩
        · rw [q1] at hg
          have q2 := hFb g hg
          have q3 := hF3.lt hg
          exact ⟨q2.1, q2.2.1, q2.2.2.1, by omega, by omega, q2.2.2.2⟩
        · rw [q1] at hg
          have q4 : b' = g := Option.some.inj hg
          exact ⟨by omega, by omega, by omega, by omega, by omega, fun e => by have := hO3.lt e; omega⟩
      refine den_ob64 (by simp only [IE.den, nth, vint]; omega) (den_leaf' fun w8 h8 => (if_pos rfl).mpr ⟨⟨j + 1, .slice oa O.length oc, v', O, F ++ [x], .slice ra (r0 :: R2).length rc, r0 :: R2, B', Bl', Pg', by omega, by simp [SV.den, denL, IE.den, BE.den, nth, vint, vbool, vaddr, addO, addr_add, refC], hO4.same (shown_same h8), hv'.same (shown_same h8), hR4.same (shown_same h8), hB', hOb, fun g hg => ⟨(hFb' g hg).1, (hFb' g hg).2.1, (hFb' g hg).2.2.1, (hFb' g hg).2.2.2.2.2⟩, ⟨hRlt, hRfr⟩, by omega, by rw [List.length_append]; simp; omega, d1, by rw [← d2]; simp, d3, d4⟩, ?_⟩)
      simp only [denL, SV.den, IE.den, nth, vint]; omega
    · have hb' : Bl' 7 = false := hb
      rw [dl_cons_f x _ _ _ _ (by rw [hk']; rw [hb'] at hBk; simp at hBk; rw [hBk]; rfl)] at d1 d2 d3 d4
      have hBu := hB'.upd 7 (by decide) x.t x.p hk'
      intro w4 h4
      refine ⟨fun y => (Value.slice oa O.length oc).ownBlock = some y ∨ y = b5 ∨ y = b2 ∨ y = b1, fun y hy => by simp [BlkIn, nth, blkOf, vaddr] at hy; omega, ?_⟩
      have z4 : w3.heap.size ≤ w4.heap.size := h4.kept.size
      have hO4 := hO3.kept h4.kept fun g hg hx => by have := hO3.lt hg; simp [BlkIn, nth, blkOf, vaddr] at hx; omega
      have hF4 := hF3.kept h4.kept fun g hg hx => by have := hF3.lt hg; simp [BlkIn, nth, blkOf, vaddr] at hx; omega
      have hR4 := hR3.kept h4.kept fun ad had hx => by have := hR3.2.2.2 ad had; simp [BlkIn, nth, blkOf, vaddr] at hx; omega
      obtain ⟨ad, had, hcell⟩ := hR4.1.elem (j := 0) (x := r0) rfl (by decide)
      have hadv : ra = some ad := had
      refine den_ob (by simp [BE.den, IE.den, nth, vlen]) (den_ob (by simp [BE.den, nth, vnil, hadv]) ?_)
      refine den_load [.int .u16 r0] ad ⟨⟨_, rfl⟩, trivial⟩ (by simp [SV.den, IE.den, nth, vaddr, hadv, addO, Addr.add]) (fun hX => ?_) (fun jj v hv => ?_) (den_norm (by simp only [List.cons_append, List.nil_append]; rfl) ?_)
      · have := hRlt ad had
        have := hR3.2.2.2 ad had
        rcases hX with hX | hX
        · have := hOb _ hX
          omega
        · omega
      · cases jj with
        | zero =>
          have := hcell 0 v hv
          simpa [Addr.add] using this
        | succ jj => simp at hv
      have lb5 : b5 < w4.heap.size := h4.lt (i := 48) (by simp [keys]) rfl
      refine den_call_int (x := resI x) (fun wa _ => c11 x hxo wa) rfl (fun wa wb ha hab => den_norm (by simp only [List.cons_append, List.nil_append]; rfl) (den_blk fun b6 k6 _ _ => den_norm (by simp only [List.cons_append, List.nil_append]; rfl) ?_))
      have za : w4.heap.size ≤ wa.heap.size := ha.kept.size
      have zab : wa.heap.size ≤ wb.heap.size := hab.size
      have z6 : wb.heap.size ≤ b6 := k6
      have hOb1 := (hO4.same (shown_same ha)).same hab
      have hFb1 := (hF4.same (shown_same ha)).same hab
      have hRb1 := (hR4.same (shown_same ha)).same hab
      refine den_push (E := resE) (T := 49) rfl u46 i49 z49 s49 rfl (by decide) by49 res_one (.slice oa O.length oc) O (r0, resI x) rfl rfl rfl (by omega) (fun g hg _ => .inl (hOb g hg).1) (by simp [keys]) (fun wc hc => hOb1.same (shown_same hc)) ?_ (fun _ g hg _ => .inl hg) (fun _ => rfl) (fun wc v' wd hc hv' kcd hfr hap => den_norm (by simp only [List.cons_append, List.nil_append]; rfl) ?_)
      · intro g hg _ hin
        have q1 := hO3.lt hg
        have q2 := hOb g hg
        simp [BlkIn, nth, blkOf, vaddr] at hin
        omega
      have zbc : wb.heap.size ≤ wc.heap.size := hc.kept.size
      have zcd : wc.heap.size ≤ wd.heap.size := kcd.size
      have hFd := (hFb1.same (shown_same hc)).kept kcd fun g hg hb => (hFb g hg).2.2.2 hb.1
      have hRd := (hRb1.same (shown_same hc)).kept kcd fun ad2 had2 hb => by have := (hOb _ hb.1).1; have := hRlt ad2 had2; omega
      have lb6 : b6 < wc.heap.size := hc.lt (i := 51) (by simp [keys]) rfl
      have hOb' : ∀ g, v'.ownBlock = some g → w.heap.size ≤ g ∧ g ≠ b1 ∧ g ≠ b2 ∧ g ≠ b5 ∧ g ≠ b6 ∧ (Value.slice fa F.length fc).ownBlock ≠ some g := fun g hg => by
        rcases hfr with ⟨q1, _⟩ | ⟨b', q1, hb', _⟩
        · rw [q1] at hg
          have q2 := hOb g hg
          have q3 := hO3.lt hg
          exact ⟨q2.1, q2.2.1, q2.2.2, by omega, by omega, fun e => (hFb g e).2.2.2 hg⟩
        · rw [q1] at hg
          have q4 : b' = g := Option.some.inj hg
          exact ⟨by omega, by omega, by omega, by omega, by omega, fun e => by have := hF3.lt e; omega⟩
      have hFb'' : ∀ g, (Value.slice fa F.length fc).ownBlock = some g → w.heap.size ≤ g ∧ g ≠ b1 ∧ g ≠ b2 ∧ v'.ownBlock ≠ some g := fun g hg => ⟨(hFb g hg).1, (hFb g hg).2.1, (hFb g hg).2.2.1, fun e => (hOb' g e).2.2.2.2.2 hg⟩
      intro we he
      refine den_slice ra (r0 :: R2).length rc (some (1 : Int)) none none 1 (r0 :: R2).length rc 1 u35 st37 (fun ρ h => h.1) (fun ρ h => congrArg some h.2.1) (fun _ _ => rfl) (fun _ _ => rfl) (.inl ⟨rfl, rfl⟩) (.inl ⟨rfl, rfl, rfl⟩) (.inr ⟨rfl, by simp⟩) (fun _ => rfl) ?_
      have hRe := hRd.kept he.kept fun ad2 had2 hx => by have := hRlt ad2 had2; simp [BlkIn, nth, blkOf, vaddr] at hx; try omega
      obtain ⟨sa1, sc1, hs1, hg1, hs1b⟩ := given_tail hRe
      rw [hs1]
      refine den_norm (by simp only [List.cons_append, List.nil_append]; rfl) ?_
      have hRlt' : ∀ ad2, vaddr (.slice sa1 R2.length sc1) = some ad2 → ad2.block < w.heap.size := fun ad2 h2 => by
        obtain ⟨ad3, h3', h4'⟩ := hs1b ad2 h2
        rw [← h4']
        exact hRlt ad3 h3'
      have hRfr' : Fr w (.slice a R.length c) (.slice sa1 R2.length sc1) := fun ad2 h2 => by
        obtain ⟨ad3, h3', h4'⟩ := hs1b ad2 h2
        rw [← h4']
        exact hRfr ad3 h3'
      refine den_startF fun wf hf => ?_
      have fin1 : ∀ {wz : World} {M : Nat → Prop}, Kept M wf wz → (∀ b, M b → b = b1 ∨ b = b2 ∨ b = b5 ∨ b = b6) → Mine resE 49 wz v' (O ++ [(r0, resI x)]) := fun {wz M} hk hM => ((hv'.kept he.kept fun g hg hb => by have := hOb' g hg; simp [BlkIn, nth, blkOf, vaddr] at hb; try omega).kept hf.kept fun g hg hb => by have := hOb' g hg; simp [BlkIn, nth, blkOf, vaddr] at hb; try omega).kept hk fun g hg hb => by have := hOb' g hg; have := hM _ hb; omega
      have fin2 : ∀ {wz : World} {M : Nat → Prop}, Kept M wf wz → (∀ b, M b → b = b1 ∨ b = b2 ∨ b = b5 ∨ b = b6) → Mine ntcE 23 wz (.slice fa F.length fc) F := fun {wz M} hk hM => ((hFd.kept he.kept fun g hg hb => by have := hFb g hg; have := hF3.lt hg; simp [BlkIn, nth, blkOf, vaddr] at hb; try omega).kept hf.kept fun g hg hb => by have := hFb g hg; have := hF3.lt hg; simp [BlkIn, nth, blkOf, vaddr] at hb; try omega).kept hk fun g hg hb => by have := hFb g hg; have := hF3.lt hg; have := hM _ hb; omega
      have fin3 : ∀ {wz : World} {M : Nat → Prop}, Kept M wf wz → (∀ b, M b → b = b1 ∨ b = b2 ∨ b = b5 ∨ b = b6) → Given hE wz (.slice sa1 R2.length sc1) R2 := fun {wz M} hk hM => (hg1.kept hf.kept fun ad2 had2 hb => by have := hRlt' ad2 had2; simp [BlkIn, nth, blkOf, vaddr] at hb; omega).kept hk fun ad2 had2 hb => by have := hRlt' ad2 had2; have := hM _ hb; omega
      refine den_ob (by simp [BE.den, IE.den, nth, vint]; omega) (den_ob (by simp [BE.den, IE.den, nth, vint]; omega) (den_ob (by simp [BE.den, IE.den, nth, vint]; omega) (den_ob (by simp [BE.den, IE.den, nth, vint]; omega) ?_)))
      refine den_ob64 (by simp only [IE.den, nth, vint]; omega) (den_leaf' fun w8 h8 => (if_pos rfl).mpr ⟨⟨j + 1, v', .slice fa F.length fc, O ++ [(r0, resI x)], F, .slice sa1 R2.length sc1, R2, upd B' x.t x.p, _, _, by omega, ?_, fin1 h8.kept fun b hb => by simp [BlkIn, nth, blkOf, vaddr] at hb; omega, fin2 h8.kept fun b hb => by simp [BlkIn, nth, blkOf, vaddr] at hb; omega, fin3 h8.kept fun b hb => by simp [BlkIn, nth, blkOf, vaddr] at hb; omega, hBu, fun g hg => ⟨(hOb' g hg).1, (hOb' g hg).2.1, (hOb' g hg).2.2.1⟩, hFb'', ⟨hRlt', hRfr'⟩, by rw [List.length_append]; simp; omega, by omega, by rw [← d1]; simp, d2, d3, d4⟩, ?_⟩)
      · simp [SV.den, denL, IE.den, BE.den, nth, vint, vbool, vaddr, addO, addr_add, refC]
      · simp only [denL, SV.den, IE.den, nth, vint]; omega
  exfalso
  have q0 : x.t ≠ 0 := hk0
  have q1 : x.t ≠ 1 := hk1
  have q2 : x.t ≠ 2 := hk2
  have q3 : x.t ≠ 3 := hk3
  have q4 : x.t ≠ 4 := hk4
  have q5 : x.t ≠ 5 := hk5
  have q6 : x.t ≠ 6 := hk6
  have q7 : x.t ≠ 7 := hk7
  have := hxo.t.1
  omega
end Go.Proofs.Ytfjlnfgbfclgbaa
