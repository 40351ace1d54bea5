/- The law FormatPacks. No conditions beyond those that each theorem names. -/
import Derived.Test.YtngemhmjpphpaaaLA
set_option maxRecDepth 100000
set_option maxHeartbeats 4000000
set_option linter.unusedVariables false
set_option linter.unusedSimpArgs false
namespace Go.Proofs.Ytngemhmjpphpaaa
open Go.Sx

theorem upL_few {z m : Int} {x : Bool} {t : Int} {fi : Bool} {D : List Int} : (upL z m x t fi D).length < 9223372036854775808 := by
  unfold upL
  split
  · rename_i h
    have hl : fOk z m x t fi = true := by
      cases hq : fOk z m x t fi with
      | true => rfl
      | false => simp [upE, hq] at h
    have := per_range hl
    simp only [List.length_map, List.length_range]
    omega
  · exact Nat.succ_pos _
theorem UR.fits {lo : Nat} {z m : Int} {x : Bool} {t : Int} {fi : Bool} {D : List Int} {v : Value} {w : World} (h : UR lo z m x t fi D v w) :
    ∃ a LV c, v = .tuple #[.slice a LV.length c, .int .i64 (upE z m x t fi D.length)] ∧ Blks lo w (.slice a LV.length c) LV (upL z m x t fi D) := by
  obtain ⟨s, LV, rfl, hB, _⟩ := h
  obtain ⟨a, c, rfl⟩ := hB.slice
  exact ⟨a, LV, c, rfl, hB⟩
theorem UR.fits' {lo : Nat} {z m : Int} {x : Bool} {t : Int} {fi : Bool} {D : List Int} {v : Value} {w : World} (h : UR lo z m x t fi D v w) :
    ∃ a LV c, v = .tuple #[.slice a LV.length c, .int .i64 (upE z m x t fi D.length)] ∧ Blks lo w (.slice a LV.length c) LV (upL z m x t fi D) ∧ LV.length ≤ c := by
  obtain ⟨s, LV, rfl, hB, hc⟩ := h
  obtain ⟨a, c, rfl⟩ := hB.slice
  exact ⟨a, LV, c, rfl, hB, hc⟩
theorem PR.fits {lo : Nat} {z m : Int} {x : Bool} {t : Int} {fi : Bool} {L : List Bl} {v : Value} {w : World} (h : PR lo z m x t fi L v w) :
    ∃ a n c, v = .tuple #[.slice a n c, .int .i64 (if pkOk z m x t fi L then 0 else 2)] ∧ Mine byteE 5 w (.slice a n c) (if pkOk z m x t fi L then pad 4160 (catB L) else []) := by
  obtain ⟨s, rfl, hM, _⟩ := h
  obtain ⟨a, c, rfl⟩ := hM.slice
  exact ⟨a, _, c, rfl, hM⟩

theorem c8 (z m : Int) (x : Bool) (t : Int) (fi : Bool) (s sd : Value) (LV : List (Sl × Sl)) (L : List Bl) (D : List Int) (w : World) (h : Blks 0 w s LV L) (hlm : L.length < 9223372036854775808) (hd : Given byteE w sd D) :
    Gives Try.prog 8 [fmtV z m x t fi, s, sd] w (.bool true) := by
  obtain ⟨sa, sc, rfl⟩ := h.slice
  obtain ⟨da, dc, rfl⟩ := hd.1.slice
  refine gives mix t8 rfl rfl (ε := [.int .i64 z, .int .i64 m, .bool x, .int .i64 t, .bool fi, .slice sa LV.length sc, .slice da D.length dc]) ⟨⟨_, rfl⟩, ⟨_, rfl⟩, ⟨_, rfl⟩, ⟨_, rfl⟩, ⟨_, rfl⟩, ⟨_, _, _, rfl⟩, ⟨_, _, _, rfl⟩, trivial⟩ (den_blk fun b7 k7 _ _ => den_norm (by simp only [List.cons_append, List.nil_append]; rfl) ?_)
  have z7 : w.heap.size ≤ b7 := k7
  refine den_call_bool (b := fewB L) (fun w1 h1 => c27 _ LV L w1 (h.same h1.base) hlm) rfl (fun w1 w2 h1 h2 => den_norm (by simp only [List.cons_append, List.nil_append]; rfl) (den_splitNot (fun hf => ?_) (fun hf => ?_)))
  · exact den_call_bool (b := true) (fun w1 h1 => c19 w1) rfl (fun w1 w2 h1 h2 => den_leaf rfl)
  clear hf
  refine den_splitLt (fun h1 => ?_) (fun h1 => ?_)
  · exact den_call_bool (b := true) (fun w1 h1 => c19 w1) rfl (fun w1 w2 h1 h2 => den_leaf rfl)
  have hD : (D.length : Int) ≤ 5000 := h1
  clear h1
  generalize hA : (if pkOk z m x t fi L then pad 4160 (catB L) else []) = A
  generalize hE : (if pkOk z m x t fi L then (0 : Int) else 2) = E
  refine den_callR (fun w1 l w2 => ∃ a n c, l = [.slice a n c, .int .i64 E] ∧ Mine byteE 5 w2 (.slice a n c) A) (fun wa ha => (c30 z m x t fi _ LV L wa (h.same ha.base) hlm).mono fun v w2 hS => ?_) ?_
  · obtain ⟨a, n, c, rfl, hB⟩ := hS.fits
    rw [hA, hE] at *
    exact ⟨[.slice a n c, .int .i64 E], ⟨⟨_, _, _, rfl⟩, ⟨_, rfl⟩, trivial⟩, rfl, a, n, c, rfl, hB⟩
  rintro wa l wb ha _ ⟨ka, kn, kc, rfl, hKb⟩ sab
  refine den_norm (by simp only [List.cons_append, List.nil_append]; rfl) ?_
  refine den_callR (fun w1 l w2 => ∃ a n c, l = [.slice a n c, .int .i64 E] ∧ Mine byteE 5 w2 (.slice a n c) A) (fun wc hc => (c31 z m x t fi _ LV L wc (h.same hc.base) hlm).mono fun v w2 hS => ?_) ?_
  · obtain ⟨a, n, c, rfl, hB⟩ := hS.fits
    rw [hA, hE] at *
    exact ⟨[.slice a n c, .int .i64 E], ⟨⟨_, _, _, rfl⟩, ⟨_, rfl⟩, trivial⟩, rfl, a, n, c, rfl, hB⟩
  rintro wc l wd hc _ ⟨ra, rn, rc, rfl, hRd⟩ scd
  have hKd := (hKb.same (shown_same hc)).same scd
  refine den_norm (by simp only [List.cons_append, List.nil_append]; rfl) ?_
  refine den_blk fun b13 k13 k130' k130 => den_norm (by simp only [List.cons_append, List.nil_append]; rfl) ?_
  refine den_appendL (E := byteE) (T := 5) rfl u40 i5 z5 s5 rfl (by decide) by5 byte_one (.slice (some ⟨b13, 0, none⟩) 0 0) (.slice da D.length dc) [] D (by simp [SV.den, nth, vaddr, addO, addr_add]) rfl hd.2.1 (by simp; omega) (fun g hg hc => by simp [vcap] at hc) (by simp [keys]) (fun w3 h3 => ⟨?_, (hd.same h3.base).1⟩) (fun g hg hc => by simp [vcap] at hc) (fun hd => by cases hd) (fun _ => rfl) (fun w3 own w4 h3 ho k34 hfr hap => den_norm (by simp only [List.cons_append, List.nil_append]; rfl) ?_)
  · obtain ⟨b', ty, hb', hh⟩ := h3.facts.1
    cases hb'
    exact .inr ⟨rfl, b13, _, ty, rfl, hh⟩
  rw [List.nil_append] at ho
  have l13 : b13 < w3.heap.size := h3.lt (i := 13) (by simp [keys]) rfl
  have l9 : b7 < w3.heap.size := h3.lt (i := 7) (by simp [keys]) rfl
  have zw3 : w.heap.size ≤ w3.heap.size := h3.base.size
  have s34 : Same w3 w4 := k34.mono fun b _ hb => by simp [vcap] at hb
  have lK : ∀ g, (Value.slice ka kn kc).ownBlock = some g → g < w3.heap.size := fun g hg => Nat.lt_of_lt_of_le (hKd.lt hg) h3.kept.size
  have lR : ∀ g, (Value.slice ra rn rc).ownBlock = some g → g < w3.heap.size := fun g hg => Nat.lt_of_lt_of_le (hRd.lt hg) h3.kept.size
  have s3' : Same wd w3 := shown_same h3
  have hK4 := (hKd.same s3').same s34
  have hR4 := (hRd.same s3').same s34
  have hfr' : 0 < D.length → ∀ g, own.ownBlock = some g → w3.heap.size ≤ g := fun hp g hg => by
    rcases hfr with ⟨_, e⟩ | ⟨b, e, hb, _⟩
    · have := ho.cap
      rw [e] at this
      simp [vcap] at this
      rw [this] at hp
      simp at hp
    · rw [e] at hg; cases hg; exact hb
  obtain ⟨oa, oc, hov⟩ := ho.slice
  subst hov
  clear hfr
  refine den_callR (fun w5 l w6 => ∃ a LV c, l = [.slice a LV.length c, .int .i64 (upE z m x t fi D.length)] ∧ Blks w5.heap.size w6 (.slice a LV.length c) LV (upL z m x t fi D)) (fun w5 h5 => (c32 z m x t fi _ D w5 (ho.same (shown_same h5)).given).mono fun v w6 hS => ?_) ?_
  · obtain ⟨a, LV, c, rfl, hB⟩ := hS.fits
    exact ⟨[.slice a LV.length c, .int .i64 (upE z m x t fi D.length)], ⟨⟨_, _, _, rfl⟩, ⟨_, rfl⟩, trivial⟩, rfl, a, LV, c, rfl, hB⟩
  rintro w5 l w6 h5 _ ⟨pa, LP, pc, rfl, hP6⟩ h56
  have ho6 := (ho.same (shown_same h5)).same h56
  have l5 : ∀ g, (Value.slice oa D.length oc).ownBlock = some g → g < w5.heap.size := fun g hg => (ho.same (shown_same h5)).lt hg
  have hd6 := (((hd.same h3.base).same s34).same (shown_same h5)).same h56
  refine den_norm (by simp only [List.cons_append, List.nil_append]; rfl) ?_
  refine den_callR (fun w7 l w8 => ∃ a LV c, l = [.slice a LV.length c, .int .i64 (upE z m x t fi D.length)] ∧ Blks w7.heap.size w8 (.slice a LV.length c) LV (upL z m x t fi D)) (fun w7 h7 => (c33 z m x t fi _ D w7 (hd6.same (shown_same h7))).mono fun v w8 hS => ?_) ?_
  · obtain ⟨a, LV, c, rfl, hB⟩ := hS.fits
    exact ⟨[.slice a LV.length c, .int .i64 (upE z m x t fi D.length)], ⟨⟨_, _, _, rfl⟩, ⟨_, rfl⟩, trivial⟩, rfl, a, LV, c, rfl, hB⟩
  rintro w7 l w8 h7 _ ⟨qa, LQ, qc, rfl, hQ8⟩ h78
  have hP8 := (hP6.same (shown_same h7)).same h78
  have ho8 := (ho6.same (shown_same h7)).same h78
  have l7 : ∀ g, (Value.slice oa D.length oc).ownBlock = some g → g < w7.heap.size := fun g hg => (ho6.same (shown_same h7)).lt hg
  have hK8 := (((hK4.same (shown_same h5)).same h56).same (shown_same h7)).same h78
  have hR8 := (((hR4.same (shown_same h5)).same h56).same (shown_same h7)).same h78
  clear hd6 ho6 ho
  refine den_norm (by simp only [List.cons_append, List.nil_append]; rfl) ?_
  refine den_loop (fun ls w' => ∃ (j : Nat) (D' : List Int), ls = [.int .i64 j] ∧ D'.length = D.length ∧ Mine byteE 5 w' (.slice oa D.length oc) D' ∧ Blks w5.heap.size w' (.slice pa LP.length pc) LP (upL z m x t fi D) ∧ Blks w7.heap.size w' (.slice qa LQ.length qc) LQ (upL z m x t fi D) ∧ Mine byteE 5 w' (.slice ka kn kc) A ∧ Mine byteE 5 w' (.slice ra rn rc) A) (fun ls _ => D.length - (vint (nth ls 0)).toNat) (fun w9 h9 => ⟨0, D, rfl, rfl, ho8.same (shown_same h9), hP8.same (shown_same h9), hQ8.same (shown_same h9), hK8.same (shown_same h9), hR8.same (shown_same h9)⟩) ?_
  clear hP8 hQ8 ho8 hK8 hR8
  rintro w9 l w10 h9 hfl ⟨j, D', rfl, hDl, ho10, hP10, hQ10, hK10, hR10⟩ hk10 hfa10
  refine den_norm (by simp only [List.cons_append, List.nil_append]; rfl) (den_splitLt (fun hlt => ?_) (fun hge => ?_))
  · have hlt' : j < D.length := by simpa [IE.den, nth, vint, vlen] using hlt
    have hx : D'[j]? = some (D'[j]'(by omega)) := by simp
    generalize D'[j]'(by omega) = y at hx
    have fr := hfr' (by omega)
    refine den_idx2 (E := byteE) (L := D') y j [.int .u8 y] ho10.arr rfl (by decide) rfl hx ⟨⟨_, rfl⟩, trivial⟩ (whole _) (fun w11 h11 => (ho10.same (shown_same h11)).arr) (fun ad had hin => ?_) (fun w11 h11 => den_norm (by simp only [List.cons_append, List.nil_append]; rfl) ?_)
    · have h2 := fr ad.block (ho10.own had)
      first
        | (simp [BlkIn, nth, blkOf, vaddr] at hin; done)
        | (simp [BlkIn, nth, blkOf, vaddr] at hin; omega)
    refine den_obLe (by simp only [IE.den, nth, vint]; omega) (den_obLt hlt ?_)
    refine den_storeM (E := byteE) (T := 5) (.slice oa D.length oc) D' j y (IntKind.wrap .u8 (y + 1)) (.int .u8 (IntKind.wrap .u8 (y + 1))) [.int .u8 (IntKind.wrap .u8 (y + 1))] (by kernel_rfl) rfl rfl rfl hx rfl rfl rfl (by intro u hu; simp at hu; subst hu; rfl) (by simp [byteE]) (by decide) rfl (fun w12 h12 => (ho10.same (shown_same h11)).same (shown_same h12)) (fun w12 h12 g hg => ?_) ⟨w10, ho10⟩ (fun w12 w13 h12 hm13 hk13 => ?_)
    · have h2 := fr g hg
      exact ⟨fun hd => (by cases hd), fun hlt => absurd (show g < w.heap.size from hlt) (by omega), fun hin => (by simp [BlkIn, nth, blkOf, vaddr] at hin; omega), fun hx => (by cases hx)⟩
    refine den_ob64 (by simp only [IE.den, nth, vint]; omega) (den_leaf' fun w14 h14 => (if_pos rfl).mpr ⟨⟨j + 1, _, by simp [SV.den, denL, IE.den, BE.den, nth, vint, vbool, vaddr, addO, addr_add], by simp [hDl], hm13.same (shown_same h14), ?_, ?_, ?_, ?_⟩, ?_⟩)
    · exact ((((hP10.same (shown_same h11)).same (shown_same h12)).kept hk13 fun b hb hbb => by have := l5 b hbb; omega).same (shown_same h14))
    · exact ((((hQ10.same (shown_same h11)).same (shown_same h12)).kept hk13 fun b hb hbb => by have := l7 b hbb; omega).same (shown_same h14))
    · exact ((((hK10.same (shown_same h11)).same (shown_same h12)).kept hk13 fun b hb hbb => by have := lK b hb; have := fr b hbb; omega).same (shown_same h14))
    · exact ((((hR10.same (shown_same h11)).same (shown_same h12)).kept hk13 fun b hb hbb => by have := lR b hb; have := fr b hbb; omega).same (shown_same h14))
    · simp [SV.den, denL, IE.den, BE.den, nth, vint, vbool, vaddr, addO, addr_add]
      omega
  refine den_start0 fun w11 h11 => den_str A (.slice ka kn kc) u40 u5 u9 rfl (hK10.same (shown_same h11)).arr (fun ad had _ => by simp [BlkIn, nth, blkOf, vaddr]) (fun v => rfl) (den_norm (by simp only [List.cons_append, List.nil_append]; rfl) ?_)
  refine den_start0 fun w12 h12 => den_str A (.slice ra rn rc) u40 u5 u9 rfl ((hR10.same (shown_same h11)).same (shown_same h12)).arr (fun ad had _ => by simp [BlkIn, nth, blkOf, vaddr]) (fun v => rfl) (den_norm (by simp only [List.cons_append, List.nil_append]; rfl) ?_)
  refine den_start0 fun w13 h13 => den_strEq A A rfl rfl (fun v => rfl) ?_
  rw [strEq_refl]
  refine den_norm (by simp only [List.cons_append, List.nil_append]; rfl) (den_split_true rfl ?_)
  have hP13 := ((hP10.same (shown_same h11)).same (shown_same h12)).same (shown_same h13)
  have hQ13 := ((hQ10.same (shown_same h11)).same (shown_same h12)).same (shown_same h13)
  refine den_call_int (x := E) (fun w _ => c18 E w) rfl (fun w14 w15 h14 h15 => den_norm (by simp only [List.cons_append, List.nil_append]; rfl) (den_split_true (by simp [BE.den, IE.den, nth, vint]) ?_))
  have hP15 := (hP13.same (shown_same h14)).same h15
  have hQ15 := (hQ13.same (shown_same h14)).same h15
  refine den_call_bool (b := true) (fun w16 h16 => c24 _ _ _ _ LP LQ _ w16 (hP15.same (shown_same h16)) (hQ15.same (shown_same h16)) upL_few) rfl (fun w17 w18 h17 h18 => den_norm (by simp only [List.cons_append, List.nil_append]; rfl) (den_split_true rfl ?_))
  refine den_call_int (x := upE z m x t fi D.length) (fun w _ => c18 _ w) rfl (fun _ _ _ _ => den_norm (by simp only [List.cons_append, List.nil_append]; rfl) (den_split_true (by simp [BE.den, IE.den, nth, vint]) ?_))
  exact den_call_bool (b := true) (fun w1 h1 => c19 w1) rfl (fun w1 w2 h1 h2 => den_leaf' fun w3 h3 => (if_neg (by decide)).mpr ⟨rfl, h3.base⟩)
end Go.Proofs.Ytngemhmjpphpaaa
