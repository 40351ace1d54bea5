/- The law FormatEach. No conditions beyond those that each theorem names. -/
import Derived.Test.YtngemhmjpphpaaaN
set_option maxRecDepth 100000
set_option maxHeartbeats 4000000
set_option linter.unusedVariables false
set_option linter.unusedSimpArgs false
namespace Go.Proofs.Ytngemhmjpphpaaa
open Go.Sx

/-- what is left of two turns -/
def left2 (ls : List Value) (w : World) : Nat := match blkOf (nth ls 0) with
  | some b => (2 - vint ((w.cell? ⟨b, 0, none⟩).getD (.bool false))).toNat
  | none => 0
theorem left2_eq {b : Nat} {turn : Nat} {w : World} (h : HasBlk w (pt b) [.int .i64 turn]) : left2 [pt b] w = 2 - turn := by
  obtain ⟨b', e, hc⟩ := h.pts.at_
  cases e
  have := hc 0 (.int .i64 turn) rfl
  simp only [left2, nth, blkOf, vaddr, Option.map_some, this, Option.getD_some, vint]
  omega

theorem c6 (z m : Int) (x : Bool) (t : Int) (fi : Bool) (lba n many : Int) (w : World) (hl63 : lba ≤ 9223372036854775807) : Gives Try.prog 6 [fmtV z m x t fi, .int .i64 lba, .int .i64 n, .int .i64 many] w (.bool true) := by
  refine Runs.gives ?_
  have h := runs mix t6 rfl rfl (ε := [.int .i64 z, .int .i64 m, .bool x, .int .i64 t, .bool fi, .int .i64 lba, .int .i64 n, .int .i64 many]) (w := w) (M := fun _ => False) (R := fun v _ => v = .bool true) ⟨⟨_, rfl⟩, ⟨_, rfl⟩, ⟨_, rfl⟩, ⟨_, rfl⟩, ⟨_, rfl⟩, ⟨_, rfl⟩, ⟨_, rfl⟩, ⟨_, rfl⟩, trivial⟩ trivial (by simp [keys]) (by simp [keys]) (by simp [keys]) ?_
  · simpa [SV.den, denL, IE.den, BE.den, nth, vint, vbool, vaddr, addO, addr_add] using h
  refine den_blk fun b8 k8 _ _ => den_norm (by simp only [List.cons_append, List.nil_append]; rfl) (den_blk fun b9 k9 _ _ => den_norm (by simp only [List.cons_append, List.nil_append]; rfl) (den_blk fun b10 k10 _ _ => den_norm (by simp only [List.cons_append, List.nil_append]; rfl) (den_blk fun b11 k11 _ _ => den_norm (by simp only [List.cons_append, List.nil_append]; rfl) ?_)))
  refine den_cut (fun ls w' => ls = [] ∧ ¬ (300 < n ∧ n ≤ 65536)) ?_ ?_
  · refine den_splitLt (fun h1 => den_splitLe (fun h2 => ?_) (fun h2 => ?_)) (fun h1 => ?_)
    · exact den_call_bool (b := true) (fun w1 _ => c19 w1) rfl (fun w1 w2 _ _ => den_leafM_ne (by decide) (den_leafMA _ rfl fun _ _ _ _ => rfl))
    · have h2' : (65536 : Int) < n := h2
      exact den_leaf_eq fun w1 _ => ⟨rfl, by omega⟩
    · have h1' : n ≤ (300 : Int) := h1
      exact den_leaf_eq fun w1 _ => ⟨rfl, by omega⟩
  rintro l w0 hf0 ⟨rfl, hn300⟩ hk0 hfa0
  refine den_norm (by simp only [List.cons_append, List.nil_append]; rfl) ?_
  refine den_callR (fun w1 l w2 => ∃ c1 c2 c3, l = [.func (.func 47) #[] #[pt c1, pt c2, pt c3]] ∧ Cap c1 c2 c3 z m x t fi lba n w2 ∧ w1.heap.size ≤ c1 ∧ w1.heap.size ≤ c2 ∧ w1.heap.size ≤ c3) (fun w1 h1 => (c26 z m x t fi lba n w1).mono fun v w' ⟨c1, c2, c3, hv, h2⟩ => ⟨[v], by rw [hv]; exact ⟨rfl, trivial⟩, rfl, c1, c2, c3, by rw [hv], h2⟩) ?_
  rintro w1 l w2 h1 _ ⟨c1, c2, c3, rfl, hcap2, hc1, hc2, hc3⟩ h12
  have l8 : b8 < w1.heap.size := h1.lt (i := 8) (by simp [keys]) rfl
  have l9 : b9 < w1.heap.size := h1.lt (i := 9) (by simp [keys]) rfl
  have l10 : b10 < w1.heap.size := h1.lt (i := 10) (by simp [keys]) rfl
  have l11 : b11 < w1.heap.size := h1.lt (i := 11) (by simp [keys]) rfl
  have clt := hcap2.lt
  have cb : ∀ b, b = c1 ∨ b = c2 ∨ b = c3 → w1.heap.size ≤ b ∧ b < w2.heap.size := fun b hb => ⟨by omega, clt b hb⟩
  have capk : ∀ {wa wb : World} {M : Nat → Prop}, Cap c1 c2 c3 z m x t fi lba n wa → Kept M wa wb → (∀ b, M b → b < w1.heap.size ∨ w2.heap.size ≤ b) → Cap c1 c2 c3 z m x t fi lba n wb := fun {wa wb M} hC hK hM => hC.of_eq fun b hb => hK.block b (hC.lt b hb) fun hm => by
    have q1 := cb b hb
    have q2 := hM b hm
    omega
  refine den_norm (by simp only [List.cons_append, List.nil_append]; rfl) (den_split_false rfl (den_blk fun b13 k13 _ _ => den_norm (by simp only [List.cons_append, List.nil_append]; rfl) ?_))
  have n13 : w2.heap.size ≤ b13 := k13
  refine den_cut (fun ls w' => ls = [.int .i64 (eachN z m x t fi lba n)] ∧ lba ≤ 1152921504606846976 ∧ Cap c1 c2 c3 z m x t fi lba n w') ?_ ?_
  · have k13' : ∀ {ε' : List Value} {fs : Facts} {wa : World}, nth ε' 13 = pt b13 → Shown (GM Try.prog w (fun _ => False) true) ε' [13] fs w2 wa → Cap c1 c2 c3 z m x t fi lba n wa := fun {ε' fs wa} he hw => capk hcap2 hw.kept fun b hb => by
      obtain ⟨i, hi, e⟩ := hb
      simp only [List.mem_singleton] at hi
      subst hi
      rw [he] at e
      cases e
      exact .inr n13
    refine den_call [.int .i64 (plS z m x t fi lba), .int .i64 (plI z m x t fi lba), .int .i64 (plE z m x t fi lba)] ⟨⟨_, rfl⟩, ⟨_, rfl⟩, ⟨_, rfl⟩, trivial⟩ rfl (fun w3 _ => c11 z m x t fi lba hl63 w3) (fun w3 w4 h3 h4 => den_norm (by simp only [List.cons_append, List.nil_append]; rfl) (den_splitNot (fun he => ?_) (fun he => ?_)))
    · have he' : plE z m x t fi lba ≠ 0 := by
        simp only [BE.den, IE.den, nth, vint] at he
        exact of_decide_eq_false he
      have e0 : eachN z m x t fi lba n = 0 := if_neg fun hh => he' (plE_zero.2 hh.1)
      have hC4 := (k13' rfl h3).same h4
      refine den_splitLt (fun hb => ?_) (fun hb => ?_)
      · exact den_call_bool (b := true) (fun w1 _ => c19 w1) rfl (fun w1 w2 _ _ => den_leafM_ne (by decide) (den_leafMA _ rfl fun _ _ _ _ => rfl))
      · have hb' : lba ≤ (1152921504606846976 : Int) := hb
        exact den_leaf_eq fun w5 h5 => ⟨by rw [e0]; rfl, hb', capk hC4 h5.kept fun b hin => by simp [BlkIn, nth, blkOf, vaddr] at hin; omega⟩
    have he' : plE z m x t fi lba = 0 := by
      simp only [BE.den, IE.den, nth, vint] at he
      exact of_decide_eq_true he
    have hpl := plE_zero.1 he'
    have hC4 := (k13' rfl h3).same h4
    refine den_splitLt (fun h5 => ?_) (fun h5 => den_splitLt (fun h6 => ?_) (fun h6 => ?_))
    · have h5' : n < 1 := h5
      have e0 : eachN z m x t fi lba n = 0 := by
        unfold eachN
        split
        · omega
        · rfl
      refine den_splitLt (fun hb => ?_) (fun hb => ?_)
      · exact den_call_bool (b := true) (fun w1 _ => c19 w1) rfl (fun w1 w2 _ _ => den_leafM_ne (by decide) (den_leafMA _ rfl fun _ _ _ _ => rfl))
      · have hb' : lba ≤ (1152921504606846976 : Int) := hb
        exact den_leaf_eq fun w5 h5 => ⟨by rw [e0]; rfl, hb', capk hC4 h5.kept fun b hin => by simp [BlkIn, nth, blkOf, vaddr] at hin; omega⟩
    · have h6' : 65536 < n := h6
      have e0 : eachN z m x t fi lba n = 0 := if_neg fun hh => by omega
      refine den_splitLt (fun hb => ?_) (fun hb => ?_)
      · exact den_call_bool (b := true) (fun w1 _ => c19 w1) rfl (fun w1 w2 _ _ => den_leafM_ne (by decide) (den_leafMA _ rfl fun _ _ _ _ => rfl))
      · have hb' : lba ≤ (1152921504606846976 : Int) := hb
        exact den_leaf_eq fun w5 h5 => ⟨by rw [e0]; rfl, hb', capk hC4 h5.kept fun b hin => by simp [BlkIn, nth, blkOf, vaddr] at hin; omega⟩
    · have h5' : 1 ≤ n := h5
      have h6' : n ≤ 65536 := h6
      have e0 : (eachN z m x t fi lba n : Int) = n := by
        unfold eachN
        rw [if_pos ⟨hpl, h6'⟩]
        omega
      refine den_splitLt (fun hb => ?_) (fun hb => ?_)
      · exact den_call_bool (b := true) (fun w1 _ => c19 w1) rfl (fun w1 w2 _ _ => den_leafM_ne (by decide) (den_leafMA _ rfl fun _ _ _ _ => rfl))
      · have hb' : lba ≤ (1152921504606846976 : Int) := hb
        exact den_leaf_eq fun w5 h5 => ⟨by rw [e0]; rfl, hb', capk hC4 h5.kept fun b hin => by first | (simp [BlkIn, nth, blkOf, vaddr] at hin; done) | (simp [BlkIn, nth, blkOf, vaddr] at hin; omega)⟩
  rintro l w3 hf3 ⟨rfl, hlba, hcap3⟩ hk3 hfa3
  have l13 : b13 < w3.heap.size := by
    obtain ⟨b', hb', hlt'⟩ := hfa3.1.lt
    cases hb'
    exact hlt'
  refine den_norm (by simp only [List.cons_append, List.nil_append]; rfl) (den_blk fun b15 k15 _ _ => den_norm (by simp only [List.cons_append, List.nil_append]; rfl) ?_)
  have n15 : w3.heap.size ≤ b15 := k15
  refine den_loop (fun ls w' => ∃ (b turn : Nat), ls = [pt b] ∧ b13 < b ∧ turn ≤ 2 ∧ HasBlk w' (pt b) [.int .i64 turn] ∧ Cap c1 c2 c3 z m x t fi lba n w') left2 (fun w4 h4 => ⟨b15, 0, by simp [SV.den, denL, IE.den, BE.den, nth, vint, vbool, vaddr, addO, addr_add], by omega, by omega, h4.facts.1, capk hcap3 h4.kept fun b hin => by simp [BlkIn, nth, blkOf, vaddr] at hin; omega⟩) ?_
  rintro w4 l w5 h4 hfl ⟨b, turn, rfl, hb13, ht, hB5, hC5⟩ hk5 hfa5
  rw [left2_eq hB5]
  have hBk : ∀ {wa wb : World} {M : Nat → Prop}, HasBlk wa (pt b) [.int .i64 turn] → Kept M wa wb → ¬ M b → HasBlk wb (pt b) [.int .i64 turn] := fun {wa wb M} hB hK hM => by
    obtain ⟨b', ty, e, hh⟩ := hB
    cases e
    exact ⟨b, ty, rfl, (hK.block b (Array.getElem?_eq_some_iff.1 hh).1 hM).trans hh⟩
  refine den_norm (by simp only [List.cons_append, List.nil_append]; rfl) ?_
  refine den_ldp [.int .i64 turn] [.int .i64 turn] ⟨⟨_, rfl⟩, trivial⟩ (whole _) (fun w6 h6 => (hBk hB5 (shown_same h6) fun h => h).pts) (fun _ _ => by simp [BlkIn]) fun w6 h6 => den_norm (by simp only [List.cons_append, List.nil_append]; rfl) ?_
  have hB6 := hBk hB5 (shown_same h6) fun h => h
  have hC6 := hC5.same (shown_same h6)
  refine den_splitLt (fun htl => ?_) (fun htl => ?_)
  rotate_left
  · exact den_call_bool (b := true) (fun w1 _ => c19 w1) rfl (fun w1 w2 _ _ => den_leafM_ne (by decide) (den_leafMA _ rfl fun _ _ _ _ => rfl))
  have ht2 : turn < 2 := by
    have : (turn : Int) < 2 := htl
    omega
  refine den_cut (fun ls w' => ls = [] ∧ HasBlk w' (pt b) [.int .i64 turn] ∧ Cap c1 c2 c3 z m x t fi lba n w') ?_ ?_
  rotate_left
  · rintro l w7 hf7 ⟨rfl, hB7, hC7⟩ hk7 hfa7
    refine den_norm (by simp only [List.cons_append, List.nil_append]; rfl) ?_
    refine den_ldp [.int .i64 turn] [.int .i64 turn] ⟨⟨_, rfl⟩, trivial⟩ (whole _) (fun w8 h8 => (hBk hB7 (shown_same h8) fun h => h).pts) (fun _ _ => by simp [BlkIn]) fun w8 h8 => den_norm (by simp only [List.cons_append, List.nil_append]; rfl) ?_
    have l13' : b13 < w8.heap.size := by
      obtain ⟨b', hb', hlt'⟩ := hfa7.1.lt
      cases hb'
      exact Nat.lt_of_lt_of_le hlt' h8.kept.size
    refine den_blk fun b19 k19 _ _ => den_norm (by simp only [List.cons_append, List.nil_append]; rfl) ?_
    have n19 : w8.heap.size ≤ b19 := k19
    refine den_ob64 (by simp only [IE.den, nth, vint]; omega) (den_leaf' fun w9 h9 => (if_pos rfl).mpr ?_)
    have hn : HasBlk w9 (pt b19) [.int .i64 ((turn + 1 : Nat) : Int)] := by
      have := h9.facts.1
      simpa [SV.den, denL, IE.den, BE.den, nth, vint, vbool, vaddr, addO, addr_add] using this
    refine ⟨⟨b19, turn + 1, by simp [SV.den, denL, IE.den, BE.den, nth, vint, vbool, vaddr, addO, addr_add], by omega, by omega, hn, capk (hC7.same (shown_same h8)) h9.kept fun b hin => by simp [BlkIn, nth, blkOf, vaddr] at hin; omega⟩, ?_⟩
    have : left2 [pt b19] w9 = 2 - (turn + 1) := left2_eq hn
    simp only [denL, SV.den, nth, vaddr, addO_zero]
    rw [this]
    omega
  refine den_blk fun b18 k18 _ _ => den_norm (by simp only [List.cons_append, List.nil_append]; rfl) ?_
  have n18 : w6.heap.size ≤ b18 := k18
  have lb6 : b < w6.heap.size := hB6.pts.lt (by simp) b rfl
  have l13' : b13 < w6.heap.size := Nat.lt_trans hb13 lb6
  refine den_cut (fun ls w' => ∃ k : Int, ls = [.int .i64 k] ∧ (turn = 0 → k = min (eachN z m x t fi lba n : Int) (max 1 many)) ∧ (turn = 1 → k = (eachN z m x t fi lba n : Int)) ∧ HasBlk w' (pt b) [.int .i64 turn] ∧ Cap c1 c2 c3 z m x t fi lba n w') ?_ ?_
  · refine den_range (eachP z m x t fi lba n) (fun k l wk => l = [.int .i64 k] ∧ (turn = 0 → k = 0 ∨ (k : Int) < many) ∧ HasBlk wk (pt b) [.int .i64 turn] ∧ Cap c1 c2 c3 z m x t fi lba n wk) w1.heap.size w2.heap.size ?_ ?_ ?_ ?_ ?_ ?_
    · intro y hy
      obtain ⟨i, hi⟩ := List.getElem?_of_mem hy
      obtain ⟨_, rfl⟩ := eachP_mem hi
      exact ⟨⟨_, rfl⟩, ⟨_, rfl⟩, trivial⟩
    · intro y hy
      simp [BlkIn, nth, blkOf, vaddr] at hy
      have q1 := hcap2.lt c1 (.inl rfl)
      have q2 : w2.heap.size ≤ b18 := by omega
      omega
    · intro w7 h7
      exact (capk hC6 h7.kept fun y hin => by simp [BlkIn, nth, blkOf, vaddr] at hin; omega).seq hlba cb
    · intro w7 h7
      exact ⟨by simp [SV.den, denL, IE.den, BE.den, nth, vint, vbool, vaddr, addO, addr_add], fun _ => .inl rfl, hBk hB6 h7.kept (by intro hin; simp [BlkIn, nth, blkOf, vaddr] at hin; omega), capk hC6 h7.kept fun y hin => by simp [BlkIn, nth, blkOf, vaddr] at hin; omega⟩
    · rintro w7 Ft h7 k y hy l hl w8 w9 ⟨rfl, hkm, hB8, hC8⟩ hq hk hfa hFt
      obtain ⟨hkn, rfl⟩ := eachP_mem hy
      have hB9 := hB8.quiet hq
      have hC9 := hC8.quiet hq
      have hpl : plOk z m x t fi lba = true ∧ n ≤ 65536 := by
        unfold eachN at hkn
        split at hkn
        · assumption
        · omega
      have hkb : eachN z m x t fi lba n ≤ 65536 := by
        unfold eachN
        rw [if_pos hpl]
        omega
      have hl0 : 0 ≤ lba := by
        have : fOk z m x t fi = true ∧ 0 ≤ lba := by simpa [plOk] using hpl.1
        exact this.2
      refine den_norm (by simp only [List.cons_append, List.nil_append, eachAt]; rfl) ?_
      refine den_ob64 (by simp only [IE.den, nth, vint]; omega) ?_
      refine den_call [.int .i64 (plS z m x t fi (lba + k)), .int .i64 (plI z m x t fi (lba + k)), .int .i64 (plE z m x t fi (lba + k))] ⟨⟨_, rfl⟩, ⟨_, rfl⟩, ⟨_, rfl⟩, trivial⟩ rfl (fun w10 _ => c11 z m x t fi (lba + k) (by omega) w10) (fun w10 w11 h10 h11 => den_norm (by simp only [List.cons_append, List.nil_append]; rfl) (den_splitLe (fun h12 => ?_) (fun h12 => den_splitNot (fun h13 => ?_) (fun h13 => den_splitNot (fun h14 => ?_) (fun h14 => ?_)))))
      · have h12' : (eachN z m x t fi lba n : Int) ≤ k := h12
        omega
      · simp [BE.den, IE.den, nth, vint] at h13
      · simp [BE.den, IE.den, nth, vint] at h14
      have s11 := (shown_same h10).trans h11
      refine den_ob64 (by simp only [IE.den, nth, vint]; omega) ?_
      refine den_ldp [.int .i64 turn] [.int .i64 turn] ⟨⟨_, rfl⟩, trivial⟩ (whole _) (fun w12 h12 => (hBk (hBk hB9 s11 fun h => h) h12.kept (by intro hin; simp [BlkIn, nth, blkOf, vaddr] at hin; omega)).pts) (fun _ _ => by simp [BlkIn]) fun w12 h12 => den_norm (by simp only [List.cons_append, List.nil_append]; rfl) ?_
      have hB12 := hBk (hBk hB9 s11 fun h => h) h12.kept (by intro hin; simp [BlkIn, nth, blkOf, vaddr] at hin; omega)
      have hC12 := capk (hC9.same s11) h12.kept fun y hin => by simp [BlkIn, nth, blkOf, vaddr] at hin; omega
      refine den_split (fun h15 => ?_) (fun h15 => ?_)
      · have ht0 : turn = 0 := by
          simp only [BE.den, IE.den, nth, vint] at h15
          have := of_decide_eq_true h15
          omega
        refine den_splitLe (fun h16 => ?_) (fun h16 => ?_)
        · have h16' : many ≤ (k : Int) + 1 := h16
          refine den_resume fun w13 h13 w14 hq14 hk14 => ?_
          intro wz hz
          refine (if_neg (by decide)).mpr ((if_pos rfl).mpr ⟨(k : Int) + 1, by simp [SV.den, denL, IE.den, BE.den, nth, vint, vbool, vaddr, addO, addr_add], fun _ => ?_, fun h => by omega, hBk ((hBk hB12 (shown_same h13) fun h => h).quiet hq14) hz.kept (by intro hin; first | (simp [BlkIn, nth, blkOf, vaddr] at hin; done) | (simp [BlkIn, nth, blkOf, vaddr] at hin; omega)), capk ((hC12.same (shown_same h13)).quiet hq14) hz.kept fun y hin => by first | (simp [BlkIn, nth, blkOf, vaddr] at hin; done) | (simp [BlkIn, nth, blkOf, vaddr] at hin; omega)⟩)
          have := hkm ht0
          omega
        · have h16' : (k : Int) + 1 < many := h16
          exact den_leaf_round hFt fun w13 h13 => ⟨by simp [SV.den, denL, IE.den, BE.den, nth, vint, vbool, vaddr, addO, addr_add], fun _ => .inr (by omega), hBk hB12 h13.kept (by intro hin; first | (simp [BlkIn, nth, blkOf, vaddr] at hin; done) | (simp [BlkIn, nth, blkOf, vaddr] at hin; omega)), capk hC12 h13.kept fun y hin => by first | (simp [BlkIn, nth, blkOf, vaddr] at hin; done) | (simp [BlkIn, nth, blkOf, vaddr] at hin; omega)⟩
      · have ht0 : turn ≠ 0 := by
          simp only [BE.den, IE.den, nth, vint] at h15
          have := of_decide_eq_false h15
          omega
        exact den_leaf_round hFt fun w13 h13 => ⟨by simp [SV.den, denL, IE.den, BE.den, nth, vint, vbool, vaddr, addO, addr_add], fun h => absurd h ht0, hBk hB12 h13.kept (by intro hin; first | (simp [BlkIn, nth, blkOf, vaddr] at hin; done) | (simp [BlkIn, nth, blkOf, vaddr] at hin; omega)), capk hC12 h13.kept fun y hin => by first | (simp [BlkIn, nth, blkOf, vaddr] at hin; done) | (simp [BlkIn, nth, blkOf, vaddr] at hin; omega)⟩
    · rintro w7 h7 l hl w8 w9 ⟨rfl, hkm, hB8, hC8⟩ hq hk hfa
      rw [eachP_length] at *
      refine den_norm (by simp only [List.cons_append, List.nil_append]; rfl) (den_leaf_eq fun w10 h10 => ⟨(eachN z m x t fi lba n : Int), by simp [SV.den, denL, IE.den, BE.den, nth, vint, vbool, vaddr, addO, addr_add], fun h => ?_, fun _ => rfl, hBk (hB8.quiet hq) h10.kept (by intro hin; first | (simp [BlkIn, nth, blkOf, vaddr] at hin; done) | (simp [BlkIn, nth, blkOf, vaddr] at hin; omega)), capk (hC8.quiet hq) h10.kept fun y hin => by first | (simp [BlkIn, nth, blkOf, vaddr] at hin; done) | (simp [BlkIn, nth, blkOf, vaddr] at hin; omega)⟩)
      have := hkm h
      omega
  rintro l w7 hf7 ⟨k, rfl, hk0, hk1, hB7, hC7⟩ hk7 hfa7
  refine den_norm (by simp only [List.cons_append, List.nil_append]; rfl) ?_
  refine den_ldp [.int .i64 turn] [.int .i64 turn] ⟨⟨_, rfl⟩, trivial⟩ (whole _) (fun w8 h8 => (hBk hB7 (shown_same h8) fun h => h).pts) (fun _ _ => by simp [BlkIn]) fun w8 h8 => den_norm (by simp only [List.cons_append, List.nil_append]; rfl) ?_
  have hB8 := hBk hB7 (shown_same h8) fun h => h
  have hC8 := hC7.same (shown_same h8)
  refine den_split (fun h9 => ?_) (fun h9 => ?_)
  · have ht0 : turn = 0 := by
      simp only [BE.den, IE.den, nth, vint] at h9
      have := of_decide_eq_true h9
      omega
    refine den_splitNot (fun h10 => ?_) (fun h10 => ?_)
    · exfalso
      simp only [BE.den, IE.den, nth, vint] at h10
      have q1 := of_decide_eq_false h10
      have q2 := hk0 ht0
      first
        | omega
        | (exact q1 (by rw [q2]; split <;> split <;> omega))
        | (simp at q1; omega)
    refine den_ldp [.int .i64 turn] [.int .i64 turn] ⟨⟨_, rfl⟩, trivial⟩ (whole _) (fun w9 h9 => (hBk hB8 (shown_same h9) fun h => h).pts) (fun _ _ => by simp [BlkIn]) fun w9 h9 => den_norm (by simp only [List.cons_append, List.nil_append]; rfl) ?_
    have hB9 := hBk hB8 (shown_same h9) fun h => h
    have hC9 := hC8.same (shown_same h9)
    refine den_split (fun h11 => ?_) (fun h11 => ?_)
    · exfalso
      simp only [BE.den, IE.den, nth, vint] at h11
      have := of_decide_eq_true h11
      omega
    · exact den_leaf_eq fun w10 h10 => ⟨rfl, hBk hB9 (shown_same h10) fun h => h, hC9.same (shown_same h10)⟩
  · have ht0 : turn ≠ 0 := by
      simp only [BE.den, IE.den, nth, vint] at h9
      have := of_decide_eq_false h9
      omega
    have ht1 : turn = 1 := by omega
    refine den_ldp [.int .i64 turn] [.int .i64 turn] ⟨⟨_, rfl⟩, trivial⟩ (whole _) (fun w9 h9 => (hBk hB8 (shown_same h9) fun h => h).pts) (fun _ _ => by simp [BlkIn]) fun w9 h9 => den_norm (by simp only [List.cons_append, List.nil_append]; rfl) ?_
    have hB9 := hBk hB8 (shown_same h9) fun h => h
    have hC9 := hC8.same (shown_same h9)
    refine den_split (fun h11 => ?_) (fun h11 => ?_)
    · refine den_splitNot (fun h10 => ?_) (fun h10 => ?_)
      · exfalso
        simp only [BE.den, IE.den, nth, vint] at h10
        exact of_decide_eq_false h10 (hk1 ht1)
      · exact den_leaf_eq fun w10 h10 => ⟨rfl, hBk hB9 (shown_same h10) fun h => h, hC9.same (shown_same h10)⟩
    · exact den_leaf_eq fun w10 h10 => ⟨rfl, hBk hB9 (shown_same h10) fun h => h, hC9.same (shown_same h10)⟩
end Go.Proofs.Ytngemhmjpphpaaa
