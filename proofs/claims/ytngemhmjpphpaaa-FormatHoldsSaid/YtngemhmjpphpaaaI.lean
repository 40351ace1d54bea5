/- The law FormatSplits. No conditions beyond those that each theorem names. -/
import Derived.Test.YtngemhmjpphpaaaH
set_option maxRecDepth 100000
set_option maxHeartbeats 4000000
set_option linter.unusedVariables false
set_option linter.unusedSimpArgs false
namespace Go.Proofs.Ytngemhmjpphpaaa
open Go.Sx

theorem splL_few {z m : Int} {x : Bool} {t : Int} {fi : Bool} {n : Int} {act : Bool} {D M : List Int} : (splL z m x t fi n act D M).length < 9223372036854775808 := by
  unfold splL
  split
  · rename_i h
    have hl : lOk z m x t fi n act = true := by
      cases hq : lOk z m x t fi n act with
      | true => rfl
      | false => simp [spE, hq] at h
    have := lOk_parts hl
    simp only [List.length_map, List.length_range]
    omega
  · exact Nat.succ_pos _
theorem SR.fits {lo : Nat} {z m : Int} {x : Bool} {t : Int} {fi : Bool} {n : Int} {act : Bool} {D M : List Int} {v : Value} {w : World} (h : SR lo z m x t fi n act D M v w) :
    ∃ a LV c, v = .tuple #[.slice a LV.length c, .int .i64 (spE z m x t fi n act D.length M.length)] ∧ Blks lo w (.slice a LV.length c) LV (splL z m x t fi n act D M) := by
  obtain ⟨s, LV, rfl, hB⟩ := h
  obtain ⟨a, c, rfl⟩ := hB.slice
  exact ⟨a, LV, c, rfl, hB⟩

theorem c4 (z m : Int) (x : Bool) (t : Int) (fi : Bool) (n : Int) (act : Bool) (sd sm : Value) (D M : List Int) (w : World) (hd : Given byteE w sd D) (hm : Given byteE w sm M) :
    Gives Try.prog 4 [fmtV z m x t fi, .int .i64 n, .bool act, sd, sm] w (.bool true) := by
  obtain ⟨da, dc, rfl⟩ := hd.1.slice
  obtain ⟨ma, mc, rfl⟩ := hm.1.slice
  refine gives mix t4 rfl rfl (ε := [.int .i64 z, .int .i64 m, .bool x, .int .i64 t, .bool fi, .int .i64 n, .bool act, .slice da D.length dc, .slice ma M.length mc]) ⟨⟨_, rfl⟩, ⟨_, rfl⟩, ⟨_, rfl⟩, ⟨_, rfl⟩, ⟨_, rfl⟩, ⟨_, rfl⟩, ⟨_, rfl⟩, ⟨_, _, _, rfl⟩, ⟨_, _, _, rfl⟩, trivial⟩ (den_blk fun b9 k9 _ _ => den_norm (by simp only [List.cons_append, List.nil_append]; rfl) ?_)
  have z9 : w.heap.size ≤ b9 := k9
  refine den_splitLt (fun h1 => ?_) (fun h1 => ?_)
  · exact den_call_bool (b := true) (fun w1 h1 => c19 w1) rfl (fun w1 w2 h1 h2 => den_leaf rfl)
  have hD : (D.length : Int) ≤ 20000 := h1
  clear h1
  refine den_splitLt (fun h1 => ?_) (fun h1 => ?_)
  · exact den_call_bool (b := true) (fun w1 h1 => c19 w1) rfl (fun w1 w2 h1 h2 => den_leaf rfl)
  clear h1
  refine den_call [.int .i64 (leA z m x t fi n act), .int .i64 (leB z m x t fi n act), .int .i64 (leE z m x t fi n act)] ⟨⟨_, rfl⟩, ⟨_, rfl⟩, ⟨_, rfl⟩, trivial⟩ rfl (fun w1 h1 => c20 z m x t fi n act w1) (fun w1 w2 h1 h2 => den_norm (by simp only [List.cons_append, List.nil_append]; rfl) ?_)
  refine den_blk fun b13 k13 _ k130 => den_norm (by simp only [List.cons_append, List.nil_append]; rfl) ?_
  refine den_appendL (E := byteE) (T := 5) rfl u40 i5 z5 s5 rfl (by decide) by5 byte_one (.slice (some ⟨b13, 0, none⟩) 0 0) (.slice da D.length dc) [] D (by simp [SV.den, nth, vaddr, addO, addr_add]) rfl hd.2.1 (by simp; omega) (fun g hg hc => by simp [vcap] at hc) (by simp [keys]) (fun w3 h3 => ⟨?_, (hd.same h3.base).1⟩) (fun g hg hc => by simp [vcap] at hc) (fun hd => by cases hd) (fun _ => rfl) (fun w3 own w4 h3 ho k34 hfr hap => den_norm (by simp only [List.cons_append, List.nil_append]; rfl) ?_)
  · obtain ⟨b', ty, hb', hh⟩ := h3.facts.1
    cases hb'
    exact .inr ⟨rfl, b13, _, ty, rfl, hh⟩
  rw [List.nil_append] at ho
  have l13 : b13 < w3.heap.size := h3.lt (i := 13) (by simp [keys]) rfl
  have l9 : b9 < w3.heap.size := h3.lt (i := 9) (by simp [keys]) rfl
  have zw3 : w.heap.size ≤ w3.heap.size := h3.base.size
  have s34 : Same w3 w4 := k34.mono fun b _ hb => by simp [vcap] at hb
  have hfr' : 0 < D.length → ∀ g, own.ownBlock = some g → w3.heap.size ≤ g := fun hp g hg => by
    rcases hfr with ⟨_, e⟩ | ⟨b, e, hb, _⟩
    · have := ho.cap
      rw [e] at this
      simp [vcap] at this
      rw [this] at hp
      simp at hp
    · rw [e] at hg; cases hg; exact hb
  obtain ⟨oa, oc, hov⟩ := ho.slice
  subst hov
  clear hfr
  refine den_callR (fun w5 l w6 => ∃ a LV c, l = [.slice a LV.length c, .int .i64 (spE z m x t fi n act D.length M.length)] ∧ Blks w5.heap.size w6 (.slice a LV.length c) LV (splL z m x t fi n act D M)) (fun w5 h5 => (c21 z m x t fi n act _ _ D M w5 (ho.same (shown_same h5)).given ((hm.same h3.base).same (s34.trans (shown_same h5)))).mono fun v w6 hS => ?_) ?_
  · obtain ⟨a, LV, c, rfl, hB⟩ := hS.fits
    exact ⟨[.slice a LV.length c, .int .i64 (spE z m x t fi n act D.length M.length)], ⟨⟨_, _, _, rfl⟩, ⟨_, rfl⟩, trivial⟩, rfl, a, LV, c, rfl, hB⟩
  rintro w5 l w6 h5 _ ⟨pa, LP, pc, rfl, hP6⟩ h56
  have ho6 := (ho.same (shown_same h5)).same h56
  have l5 : ∀ g, (Value.slice oa D.length oc).ownBlock = some g → g < w5.heap.size := fun g hg => (ho.same (shown_same h5)).lt hg
  have hd6 := (((hd.same h3.base).same s34).same (shown_same h5)).same h56
  have hm6 := (((hm.same h3.base).same s34).same (shown_same h5)).same h56
  refine den_norm (by simp only [List.cons_append, List.nil_append]; rfl) ?_
  refine den_callR (fun w7 l w8 => ∃ a LV c, l = [.slice a LV.length c, .int .i64 (spE z m x t fi n act D.length M.length)] ∧ Blks w7.heap.size w8 (.slice a LV.length c) LV (splL z m x t fi n act D M)) (fun w7 h7 => (c22 z m x t fi n act _ _ D M w7 (hd6.same (shown_same h7)) (hm6.same (shown_same h7))).mono fun v w8 hS => ?_) ?_
  · obtain ⟨a, LV, c, rfl, hB⟩ := hS.fits
    exact ⟨[.slice a LV.length c, .int .i64 (spE z m x t fi n act D.length M.length)], ⟨⟨_, _, _, rfl⟩, ⟨_, rfl⟩, trivial⟩, rfl, a, LV, c, rfl, hB⟩
  rintro w7 l w8 h7 _ ⟨qa, LQ, qc, rfl, hQ8⟩ h78
  have hP8 := (hP6.same (shown_same h7)).same h78
  have ho8 := (ho6.same (shown_same h7)).same h78
  have l7 : ∀ g, (Value.slice oa D.length oc).ownBlock = some g → g < w7.heap.size := fun g hg => (ho6.same (shown_same h7)).lt hg
  clear hd6 hm6 ho6 ho
  refine den_norm (by simp only [List.cons_append, List.nil_append]; rfl) ?_
  refine den_loop (fun ls w' => ∃ (j : Nat) (D' : List Int), ls = [.int .i64 j] ∧ D'.length = D.length ∧ Mine byteE 5 w' (.slice oa D.length oc) D' ∧ Blks w5.heap.size w' (.slice pa LP.length pc) LP (splL z m x t fi n act D M) ∧ Blks w7.heap.size w' (.slice qa LQ.length qc) LQ (splL z m x t fi n act D M)) (fun ls _ => D.length - (vint (nth ls 0)).toNat) (fun w9 h9 => ⟨0, D, rfl, rfl, ho8.same (shown_same h9), hP8.same (shown_same h9), hQ8.same (shown_same h9)⟩) ?_
  clear hP8 hQ8 ho8
  rintro w9 l w10 h9 hfl ⟨j, D', rfl, hDl, ho10, hP10, hQ10⟩ hk10 hfa10
  refine den_norm (by simp only [List.cons_append, List.nil_append]; rfl) (den_splitLt (fun hlt => ?_) (fun hge => ?_))
  · have hlt' : j < D.length := by simpa [IE.den, nth, vint, vlen] using hlt
    have hx : D'[j]? = some (D'[j]'(by omega)) := by simp
    generalize D'[j]'(by omega) = y at hx
    have fr := hfr' (by omega)
    refine den_idx2 (E := byteE) (L := D') y j [.int .u8 y] ho10.arr rfl (by decide) rfl hx ⟨⟨_, rfl⟩, trivial⟩ (whole _) (fun w11 h11 => (ho10.same (shown_same h11)).arr) (fun ad had hin => ?_) (fun w11 h11 => den_norm (by simp only [List.cons_append, List.nil_append]; rfl) ?_)
    · have h2 := fr ad.block (ho10.own had)
      first
        | (simp [BlkIn, nth, blkOf, vaddr] at hin; done)
        | (simp [BlkIn, nth, blkOf, vaddr] at hin; omega)
    refine den_obLe (by simp only [IE.den, nth, vint]; omega) (den_obLt hlt ?_)
    refine den_storeM (E := byteE) (T := 5) (.slice oa D.length oc) D' j y (IntKind.wrap .u8 (y + 1)) (.int .u8 (IntKind.wrap .u8 (y + 1))) [.int .u8 (IntKind.wrap .u8 (y + 1))] (by kernel_rfl) rfl rfl rfl hx rfl rfl rfl (by intro u hu; simp at hu; subst hu; rfl) (by simp [byteE]) (by decide) rfl (fun w12 h12 => (ho10.same (shown_same h11)).same (shown_same h12)) (fun w12 h12 g hg => ?_) ⟨w10, ho10⟩ (fun w12 w13 h12 hm13 hk13 => ?_)
    · have h2 := fr g hg
      exact ⟨fun hd => (by cases hd), fun hlt => absurd (show g < w.heap.size from hlt) (by omega), fun hin => (by simp [BlkIn, nth, blkOf, vaddr] at hin; omega), fun hx => (by cases hx)⟩
    refine den_ob64 (by simp only [IE.den, nth, vint]; omega) (den_leaf' fun w14 h14 => (if_pos rfl).mpr ⟨⟨j + 1, _, by simp [SV.den, denL, IE.den, BE.den, nth, vint, vbool, vaddr, addO, addr_add], by simp [hDl], hm13.same (shown_same h14), ?_, ?_⟩, ?_⟩)
    · exact ((((hP10.same (shown_same h11)).same (shown_same h12)).kept hk13 fun b hb hbb => by have := l5 b hbb; omega).same (shown_same h14))
    · exact ((((hQ10.same (shown_same h11)).same (shown_same h12)).kept hk13 fun b hb hbb => by have := l7 b hbb; omega).same (shown_same h14))
    · simp [SV.den, denL, IE.den, BE.den, nth, vint, vbool, vaddr, addO, addr_add]
      omega
  refine den_call_bool (b := true) (fun w11 h11 => (c23 z m x t fi n act (leA z m x t fi n act) (leB z m x t fi n act) (leE z m x t fi n act) w11).to (congrArg Value.bool (by simp))) rfl (fun w11 w12 h11 h12 => den_norm (by simp only [List.cons_append, List.nil_append]; rfl) (den_split_true rfl ?_))
  have hP12 := (hP10.same (shown_same h11)).same h12
  have hQ12 := (hQ10.same (shown_same h11)).same h12
  refine den_call_bool (b := true) (fun w13 h13 => c24 _ _ _ _ LP LQ _ w13 (hP12.same (shown_same h13)) (hQ12.same (shown_same h13)) splL_few) rfl (fun w13 w14 h13 h14 => den_norm (by simp only [List.cons_append, List.nil_append]; rfl) (den_split_true rfl ?_))
  refine den_call_int (x := spE z m x t fi n act D.length M.length) (fun w _ => c18 _ w) rfl (fun _ _ _ _ => den_norm (by simp only [List.cons_append, List.nil_append]; rfl) (den_split_true (by simp [BE.den, IE.den, nth, vint]) ?_))
  exact den_call_bool (b := true) (fun w1 h1 => c19 w1) rfl (fun w1 w2 h1 h2 => den_leaf' fun w3 h3 => (if_neg (by decide)).mpr ⟨rfl, h3.base⟩)
end Go.Proofs.Ytngemhmjpphpaaa
