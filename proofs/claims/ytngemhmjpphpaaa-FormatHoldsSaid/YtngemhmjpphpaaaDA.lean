/- What the specification of Join returns. No conditions beyond those that each theorem names. -/
import Derived.Test.YtngemhmjpphpaaaD
set_option maxRecDepth 100000
set_option maxHeartbeats 2000000
set_option linter.unusedVariables false
set_option linter.unusedSimpArgs false
namespace Go.Proofs.Ytngemhmjpphpaaa
open Go.Sx

theorem c29 (z m : Int) (x : Bool) (t : Int) (fi act : Bool) (s : Value) (LV : List (Sl × Sl)) (L : List Bl) (w : World) (h : Blks 0 w s LV L) (hfewB : fewB L = true) :
    GivesR Try.prog 29 [fmtV z m x t fi, .bool act, s] w (fun v w' => JR w.heap.size z m x t fi act L v w') := by
  obtain ⟨a, c, rfl⟩ := h.slice
  have hl := h.len
  have hfew := few_each hfewB
  refine givesR mix t29 rfl rfl (ε := [.int .i64 z, .int .i64 m, .bool x, .int .i64 t, .bool fi, .bool act, .slice a LV.length c]) ⟨⟨_, rfl⟩, ⟨_, rfl⟩, ⟨_, rfl⟩, ⟨_, rfl⟩, ⟨_, rfl⟩, ⟨_, rfl⟩, ⟨_, _, _, rfl⟩, trivial⟩ (den_blk fun b7 k7 _ _ => den_norm (by simp only [List.cons_append, List.nil_append]; rfl) ?_)
  have z7 : w.heap.size ≤ b7 := k7
  refine den_call [.int .i64 (leA z m x t fi L.length act), .int .i64 (leB z m x t fi L.length act), .int .i64 (leE z m x t fi L.length act)] ⟨⟨_, rfl⟩, ⟨_, rfl⟩, ⟨_, rfl⟩, trivial⟩ rfl (fun w1 h1 => ?_) (fun w1 w2 h1 h2 => den_norm (by simp only [List.cons_append, List.nil_append]; rfl) (den_splitNot (fun he => ?_) (fun he => ?_)))
  · have := c20 z m x t fi L.length act w1
    rw [← hl] at this ⊢
    exact this
  · have hlok : lOk z m x t fi L.length act = false := by
      cases hq : lOk z m x t fi L.length act with
      | false => rfl
      | true => simp [BE.den, IE.den, nth, vint, leE, hq] at he
    have hok : jOk z m x t fi act L = false := by unfold jOk; rw [hlok]; rfl
    refine den_leafR _ rfl fun w3 h3 => ⟨_, _, by rw [hok]; rfl, ?_⟩
    rw [hok]
    exact two_nil h3.base.size
  have hlok : lOk z m x t fi L.length act = true := by
    cases hq : lOk z m x t fi L.length act with
    | true => rfl
    | false => simp [BE.den, IE.den, nth, vint, leE, hq] at he
  have hp := lOk_parts hlok
  have hfo := fOk_parts hp.1
  have hmr := mvd_range (act := act) hfo.2
  generalize hmvd : (mvd m act).toNat = mv
  have hmv0 : mvd m act = (mv : Int) := by omega
  refine den_call_bool (b := fitsB z m L) (fun w3 h3 => c49 z m x t fi _ LV L w3 (h.same h3.base) (by omega)) rfl (fun w3' w3 h3' h33 => den_norm (by simp only [List.cons_append, List.nil_append]; rfl) (den_splitNot (fun hfi => ?_) (fun hfi => ?_)))
  · have hfi' : fitsB z m L = false := hfi
    have hok : jOk z m x t fi act L = false := by unfold jOk; rw [hlok, hfi']; rfl
    refine den_leafR _ rfl fun w4 h4 => ⟨_, _, by rw [hok]; rfl, ?_⟩
    rw [hok]
    exact two_nil h4.base.size
  have hfi' : fitsB z m L = true := hfi
  have hok : jOk z m x t fi act L = true := by unfold jOk; rw [hlok, hfi']; rfl
  have hfit : ∀ q ∈ L, (q.2.length : Int) = m := fun q hq => by
    have := List.all_eq_true.1 hfi' q hq
    simp only [Bool.and_eq_true, decide_eq_true_eq] at this
    exact this.2
  have hmvm : (mv : Int) ≤ m := by
    rw [← hmv0]
    unfold mvd
    split <;> omega
  have l7 : b7 < w3.heap.size := Nat.lt_of_lt_of_le (h3'.lt (i := 7) (by simp [keys]) rfl) h33.size
  have z03 : w.heap.size ≤ w3.heap.size := Nat.le_trans h3'.base.size h33.size
  unfold JR
  rw [hmvd]
  refine den_loop (fun ls w' => ∃ (j : Nat) (d mm : Value), ls = [.int .i64 j, d, mm] ∧ j ≤ LV.length ∧ Two w3.heap.size w' d mm (jD x mv (L.take j)) (jM x mv (L.take j))) (fun ls _ => LV.length - (vint (nth ls 0)).toNat) (fun w4 h4 => ⟨0, _, _, rfl, Nat.zero_le _, by cases x <;> simpa [jD, jM, SV.den] using two_nil (w := w4) (lo := w3.heap.size) h4.kept.size⟩) ?_
  rintro w4 l w5 h4 hf ⟨j, d, mm, rfl, hj, hT⟩ hk5 hfa5
  obtain ⟨da, dc, hdv⟩ := hT.hd.slice
  obtain ⟨ma, mc, hmv⟩ := hT.hm.slice
  refine den_norm (by simp only [List.cons_append, List.nil_append]; rfl) (den_splitLt (fun hlt => ?_) (fun hge => ?_))
  · have hlt' : j < LV.length := by simpa [IE.den, nth, vint, vlen] using hlt
    obtain ⟨p, q, hp, hq, g1, g2, n1, n2⟩ := h.pick hlt'
    have hqm := hfew.2 q (List.mem_of_getElem? hq)
    have hfq := hfit q (List.mem_of_getElem? hq)
    have bd := jD_length (x := x) (mv := mv) (L := L.take j) (fun q hq => hfew.2 q (List.mem_of_mem_take hq))
    have bm := jM_length (x := x) (mv := mv) (L := L.take j) (fun q hq => hfew.2 q (List.mem_of_mem_take hq))
    have bl : (L.take j).length ≤ 20 := by rw [List.length_take]; omega
    have bd' : (L.take j).length * 5100 ≤ 20 * 5100 := Nat.mul_le_mul_right _ bl
    refine den_idx2 (E := bvE) (L := LV) p j [p.1.v] ((h.same hk5).arr) rfl (by decide) rfl hp ⟨⟨_, _, _, rfl⟩, trivial⟩ (fun m v hv => by cases m with | zero => exact hv | succ m => simp at hv) (fun w6 h6 => (h.same h6.base).arr) (fun ad had => by simp [BlkIn, nth, blkOf, vaddr]) (fun w6 h6 => den_norm (by simp only [List.cons_append, List.nil_append]; rfl) ?_)
    have hT6 := hT.same (shown_same h6)
    have no7 : ∀ (v : Value), (∀ g, v.ownBlock = some g → w3.heap.size ≤ g) → ∀ g, v.ownBlock = some g → g ≠ b7 := fun v hv g hg => by
      have := hv g hg
      omega
    refine den_appendL (E := byteE) (T := 5) rfl u40 i5 z5 s5 rfl (by decide) by5 byte_one d p.1.v (jD x mv (L.take j)) q.1 rfl rfl g1.2.1 (by omega) (fun g hg _ => .inl (by have := hT6.ld g hg; have : w.heap.size ≤ w3.heap.size := z03; omega)) (by simp [keys]) (fun w7 h7 => ⟨(hT6.same (shown_same h7)).hd, (g1.same h7.base).1⟩) ?_ (fun hd => by cases hd) (fun _ => rfl) (fun w7 d1 w8 h7 hd8 k8 hfr8 hap8 => den_norm (by simp only [List.cons_append, List.nil_append]; rfl) ?_)
    · intro g hg _ hin
      have := no7 d hT6.ld g hg
      simp [BlkIn, nth, blkOf, vaddr] at hin
      omega
    have hT7 := hT6.same (shown_same h7)
    have hT8 := hT7.app1 k8 hd8 (by rcases hfr8 with e | ⟨b, e1, e2, _⟩; exact .inl e; exact .inr ⟨b, e1, e2, trivial⟩)
    obtain ⟨d1a, d1c, hd1v⟩ := hT8.hd.slice
    refine den_start1 fun w9 h9 => ?_
    have hT9 := hT8.same (shown_same h9)
    refine den_idxD2 (E := bvE) (L := LV) p j [p.2.v] rfl (by decide) rfl hp ⟨⟨_, _, _, rfl⟩, trivial⟩ (fun m v hv => by cases m with | zero => exact hv | succ m => simp at hv) (h.same h9.base).arr (fun ad had hin => by have := h.arr.lt hp (by decide) ad had; simp [BlkIn, nth, blkOf, vaddr] at hin; omega) (den_norm (by simp only [List.cons_append, List.nil_append]; rfl) ?_)
    refine den_call_int (x := (mv : Int)) (fun w10 h10 => (c25 z m x t fi act w10).to (by rw [hmv0])) rfl fun w10 w11 h10 h11 => den_norm (by simp only [List.cons_append, List.nil_append]; rfl) ?_
    have hT11 := (hT9.same (shown_same h10)).same h11
    obtain ⟨pa, pc, hpv⟩ := g2.1.slice
    have hcap2 : q.2.length ≤ pc := by have := g2.2.2.1; rw [hpv] at this; exact this
    have hmvq : mv ≤ q.2.length := by omega
    have hgs : ∀ w', Same w w' → Arr byteE w' (sliced pa 0 mv pc 1) (q.2.take mv) := fun w' hw' => by
      have h1 := (g2.same hw').1
      rw [hpv] at h1
      have h2 := h1.sub (l := 0) (k := mv) (m := pc) (by omega) (by omega) (by omega)
      rw [List.drop_zero] at h2
      exact h2
    refine den_slice pa q.2.length pc none (some (mv : Int)) none 0 mv pc 1 u40 st5 (fun ρ h => h.1.trans hpv) (fun _ _ => rfl) (fun ρ h => congrArg some (h.2.1.trans (by simp only [SV.den, IE.den, nth, vint]))) (fun _ _ => rfl) (.inl ⟨rfl, rfl⟩) (.inr ⟨rfl, by omega⟩) (.inl ⟨rfl, rfl⟩) (fun _ => rfl) (den_norm (by simp only [List.cons_append, List.nil_append]; rfl) ?_)
    refine den_split (fun hext => ?_) (fun hext => ?_)
    · have hx : x = true := hext
      subst hx
      refine den_appendL (E := byteE) (T := 5) rfl u40 i5 z5 s5 rfl (by decide) by5 byte_one d1 (sliced pa 0 mv pc 1) (jD true mv (L.take j) ++ q.1) (q.2.take mv) rfl rfl (sliced_nil (fun n' c' e => g2.2.1 n' c' (hpv.trans e)) hmvq (Nat.le_refl _)) (by rw [List.length_append, List.length_take]; omega) (fun g hg _ => .inl (by have := hT11.ld g hg; have : w.heap.size ≤ w3.heap.size := z03; omega)) (by simp [keys]) (fun w12 h12 => ⟨(hT11.same (shown_same h12)).hd, hgs w12 h12.base⟩) ?_ (fun hd => by cases hd) (fun _ => rfl) (fun w12 d2 w13 h12 hd13 k13 hfr13 hap13 => den_norm (by simp only [List.cons_append, List.nil_append]; rfl) ?_)
      · intro g hg _ hin
        have := no7 d1 hT11.ld g hg
        simp [BlkIn, nth, blkOf, vaddr] at hin
        omega
      have hT13 := (hT11.same (shown_same h12)).app1 k13 hd13 (by rcases hfr13 with e | ⟨b, e1, e2, _⟩; exact .inl e; exact .inr ⟨b, e1, e2, trivial⟩)
      refine den_ob64 (by simp only [IE.den, nth, vint]; omega) (den_leaf' fun w14 h14 => (if_pos rfl).mpr ⟨⟨j + 1, d2, mm, by simp [SV.den, denL, IE.den, BE.den, nth, vint, vbool, vaddr, addO, addr_add], by omega, ?_⟩, ?_⟩)
      · rw [jD_step hq, if_pos rfl, ← List.append_assoc]
        exact hT13.same (shown_same h14)
      · simp [SV.den, denL, IE.den, BE.den, nth, vint, vbool, vaddr, addO, addr_add]
        omega
    · have hx : x = false := hext
      subst hx
      refine den_appendL (E := byteE) (T := 5) rfl u40 i5 z5 s5 rfl (by decide) by5 byte_one mm (sliced pa 0 mv pc 1) (jM false mv (L.take j)) (q.2.take mv) rfl rfl (sliced_nil (fun n' c' e => g2.2.1 n' c' (hpv.trans e)) hmvq (Nat.le_refl _)) (by rw [List.length_take]; omega) (fun g hg _ => .inl (by have := hT11.lm g hg; have : w.heap.size ≤ w3.heap.size := z03; omega)) (by simp [keys]) (fun w12 h12 => ⟨(hT11.same (shown_same h12)).hm, hgs w12 h12.base⟩) ?_ (fun hd => by cases hd) (fun _ => rfl) (fun w12 m2 w13 h12 hm13 k13 hfr13 hap13 => den_norm (by simp only [List.cons_append, List.nil_append]; rfl) ?_)
      · intro g hg _ hin
        have := no7 mm hT11.lm g hg
        simp [BlkIn, nth, blkOf, vaddr] at hin
        omega
      have hT13 := (hT11.same (shown_same h12)).app2 k13 hm13 (by rcases hfr13 with e | ⟨b, e1, e2, _⟩; exact .inl e; exact .inr ⟨b, e1, e2, trivial⟩)
      refine den_ob64 (by simp only [IE.den, nth, vint]; omega) (den_leaf' fun w14 h14 => (if_pos rfl).mpr ⟨⟨j + 1, d1, m2, by simp [SV.den, denL, IE.den, BE.den, nth, vint, vbool, vaddr, addO, addr_add], by omega, ?_⟩, ?_⟩)
      · rw [jD_step hq, jM_step hq]
        exact hT13.same (shown_same h14)
      · simp [SV.den, denL, IE.den, BE.den, nth, vint, vbool, vaddr, addO, addr_add]
        omega
  · have hge' : LV.length ≤ j := by simpa [IE.den, nth, vint, vlen] using hge
    have hjl : L.take j = L := List.take_of_length_le (by omega)
    rw [hjl] at hT
    refine den_leaf' fun w6 h6 => (if_neg (by decide)).mpr ⟨_, rfl, ⟨d, mm, by simp [SV.den, denL, IE.den, BE.den, nth, vint, vbool, vaddr, addO, addr_add, hok], ?_⟩, h6.base⟩
    rw [if_pos hok, if_pos hok]
    have hT6 := hT.same (shown_same h6)
    exact ⟨hT6.hd, hT6.hm, fun g hg => by have := hT6.ld g hg; have : w.heap.size ≤ w3.heap.size := z03; omega, fun g hg => by have := hT6.lm g hg; have : w.heap.size ≤ w3.heap.size := z03; omega, hT6.ne, h6.base.size⟩
end Go.Proofs.Ytngemhmjpphpaaa
