/- What Join and its specification return. No conditions beyond those that each theorem names. -/
import Derived.Test.YtngemhmjpphpaaaC
import Derived.Test.YtngemhmjpphpaaaBA
set_option maxRecDepth 100000
set_option maxHeartbeats 2000000
set_option linter.unusedVariables false
set_option linter.unusedSimpArgs false
namespace Go.Proofs.Ytngemhmjpphpaaa
open Go.Sx

def jOk (z m : Int) (x : Bool) (t : Int) (fi act : Bool) (L : List Bl) : Bool := lOk z m x t fi L.length act && fitsB z m L
/-- a result of Join: the buffers, or the error -/
def JR (lo : Nat) (z m : Int) (x : Bool) (t : Int) (fi act : Bool) (L : List Bl) (v : Value) (w : World) : Prop :=
  ∃ d mm, v = .tuple #[d, mm, .int .i64 (if jOk z m x t fi act L then 0 else 2)] ∧ Two lo w d mm (if jOk z m x t fi act L then jD x (mvd m act).toNat L else []) (if jOk z m x t fi act L then jM x (mvd m act).toNat L else [])
theorem two_nil {lo : Nat} {w : World} (h : lo ≤ w.heap.size) : Two lo w (.slice none 0 0) (.slice none 0 0) [] [] :=
  ⟨Mine.nil, Mine.nil, fun g hg => (by cases hg), fun g hg => (by cases hg), fun g hg => (by cases hg), h⟩
theorem few_each {L : List Bl} (h : fewB L = true) : L.length ≤ 20 ∧ ∀ q ∈ L, q.1.length ≤ 5000 ∧ q.2.length ≤ 100 := by
  unfold fewB at h
  simp only [Bool.and_eq_true, List.all_eq_true, decide_eq_true_eq] at h
  exact ⟨h.2, h.1⟩
theorem jD_length {x : Bool} {mv : Nat} : ∀ {L : List Bl}, (∀ q ∈ L, q.1.length ≤ 5000 ∧ q.2.length ≤ 100) → (jD x mv L).length ≤ L.length * 5100
  | [], _ => by simp [jD]
  | q :: L, h => by
    have h1 := h q (by simp)
    have ih := jD_length (x := x) (mv := mv) (L := L) fun q hq => h q (by simp [hq])
    have e : jD x mv (q :: L) = (if x then q.1 ++ q.2.take mv else q.1) ++ jD x mv L := by simp [jD]
    rw [e, List.length_append, List.length_cons, Nat.succ_mul]
    have : (if x then q.1 ++ q.2.take mv else q.1).length ≤ 5100 := by
      split
      · rw [List.length_append, List.length_take]; omega
      · omega
    omega
theorem jM_length {x : Bool} {mv : Nat} : ∀ {L : List Bl}, (∀ q ∈ L, q.1.length ≤ 5000 ∧ q.2.length ≤ 100) → (jM x mv L).length ≤ L.length * 5100
  | [], _ => by unfold jM; split <;> simp
  | q :: L, h => by
    have h1 := h q (by simp)
    have ih := jM_length (x := x) (mv := mv) (L := L) fun q hq => h q (by simp [hq])
    cases x with
    | true => simp [jM]
    | false =>
      have e : jM false mv (q :: L) = q.2.take mv ++ jM false mv L := by simp [jM]
      rw [e, List.length_append, List.length_cons, Nat.succ_mul, List.length_take]
      omega
theorem jD_step {x : Bool} {mv : Nat} {L : List Bl} {j : Nat} {q : Bl} (h : L[j]? = some q) : jD x mv (L.take (j + 1)) = jD x mv (L.take j) ++ (if x then q.1 ++ q.2.take mv else q.1) := by
  rw [take_succ h]; simp [jD]
theorem jM_step {mv : Nat} {L : List Bl} {j : Nat} {q : Bl} (h : L[j]? = some q) : jM false mv (L.take (j + 1)) = jM false mv (L.take j) ++ q.2.take mv := by
  rw [take_succ h]; simp [jM]
theorem sliced_nil {a : Option Addr} {n c l k m sz : Nat} (h : ∀ n' c', Value.slice a n c = .slice none n' c' → n' = 0 ∧ c' = 0) (hk : k ≤ n) (hm : m ≤ c) : ∀ n' c', sliced a l k m sz = .slice none n' c' → n' = 0 ∧ c' = 0 := by
  intro n' c' e
  cases a with
  | none =>
    obtain ⟨rfl, rfl⟩ := h n c rfl
    obtain rfl : k = 0 := by omega
    obtain rfl : m = 0 := by omega
    simp [sliced] at e
    exact ⟨e.1.symm, e.2.symm⟩
  | some a =>
    unfold sliced at e
    split at e <;> simp at e

theorem c28 (z m : Int) (x : Bool) (t : Int) (fi act : Bool) (s : Value) (LV : List (Sl × Sl)) (L : List Bl) (w : World) (h : Blks 0 w s LV L) (hfewB : fewB L = true) :
    GivesR Try.prog 28 [fmtV z m x t fi, .bool act, s] w (fun v w' => JR w.heap.size z m x t fi act L v w') := by
  obtain ⟨a, c, rfl⟩ := h.slice
  have hl := h.len
  have hfew := few_each hfewB
  refine givesR mix t28 rfl rfl (ε := [.int .i64 z, .int .i64 m, .bool x, .int .i64 t, .bool fi, .bool act, .slice a LV.length c]) ⟨⟨_, rfl⟩, ⟨_, rfl⟩, ⟨_, rfl⟩, ⟨_, rfl⟩, ⟨_, rfl⟩, ⟨_, rfl⟩, ⟨_, _, _, rfl⟩, trivial⟩ (den_blk fun b7 k7 _ _ => den_blk fun b8 k8 _ _ => den_blk fun b9 k9 _ _ => den_norm (by simp only [List.cons_append, List.nil_append]; rfl) ?_)
  have z7 : w.heap.size ≤ b7 := k7
  have z8 : w.heap.size ≤ b8 := k8
  have z9 : w.heap.size ≤ b9 := k9
  cases hlok : lOk z m x t fi L.length act with
  | false =>
    have hok : jOk z m x t fi act L = false := by unfold jOk; rw [hlok]; rfl
    refine den_call [.int .i64 0, .int .i64 0, .bool false, .int .i64 0, .bool false, .int .i64 0, .int .i64 2] ⟨⟨_, rfl⟩, ⟨_, rfl⟩, ⟨_, rfl⟩, ⟨_, rfl⟩, ⟨_, rfl⟩, ⟨_, rfl⟩, ⟨_, rfl⟩, trivial⟩ rfl (fun w1 h1 => ?_) (fun w1 w2 h1 h2 => den_norm (by simp only [List.cons_append, List.nil_append]; rfl) (den_blk fun b17 k17 _ _ => den_norm (by simp only [List.cons_append, List.nil_append]; rfl) (den_split_true rfl (den_leafR _ rfl fun w3 h3 => ?_))))
    · have := c39no z m x t fi L.length act hlok w1
      rw [← hl] at this
      exact this
    · refine ⟨_, _, by rw [hok]; rfl, ?_⟩
      rw [hok]
      exact two_nil h3.base.size
  | true =>
  have hp := lOk_parts hlok
  have hfo := fOk_parts hp.1
  have hmr := mvd_range (act := act) hfo.2
  generalize hmvd : (mvd m act).toNat = mv
  have hmv0 : mvd m act = (mv : Int) := by omega
  refine den_call [.int .i64 z, .int .i64 m, .bool x, .int .i64 t, .bool fi, .int .i64 (mvd m act), .int .i64 0] ⟨⟨_, rfl⟩, ⟨_, rfl⟩, ⟨_, rfl⟩, ⟨_, rfl⟩, ⟨_, rfl⟩, ⟨_, rfl⟩, ⟨_, rfl⟩, trivial⟩ rfl (fun w1 h1 => ?_) (fun w1 w2 h1 h2 => den_norm (by simp only [List.cons_append, List.nil_append]; rfl) (den_blk fun b17 k17 _ _ => den_norm (by simp only [List.cons_append, List.nil_append]; rfl) (den_split_false rfl ?_)))
  · have := c39ok z m x t fi L.length act hlok w1
    rw [← hl] at this
    exact this
  refine den_call_bool (b := fitsB z m L) (fun w3 h3 => c48 z m x t fi _ LV L w3 (h.same h3.base) (by omega)) rfl (fun w3' w3 h3' h33 => den_norm (by simp only [List.cons_append, List.nil_append]; rfl) (den_splitNot (fun hfi => ?_) (fun hfi => ?_)))
  · have hfi' : fitsB z m L = false := hfi
    have hok : jOk z m x t fi act L = false := by unfold jOk; rw [hlok, hfi']; rfl
    refine den_leafR _ rfl fun w4 h4 => ⟨_, _, by rw [hok]; rfl, ?_⟩
    rw [hok]
    exact two_nil h4.base.size
  have hfi' : fitsB z m L = true := hfi
  have hok : jOk z m x t fi act L = true := by unfold jOk; rw [hlok, hfi']; rfl
  have hfit : ∀ q ∈ L, (q.2.length : Int) = m := fun q hq => by
    have := List.all_eq_true.1 hfi' q hq
    simp only [Bool.and_eq_true, decide_eq_true_eq] at this
    exact this.2
  have hmvm : (mv : Int) ≤ m := by
    rw [← hmv0]
    unfold mvd
    split <;> omega
  have l7 : b7 < w3.heap.size := Nat.lt_of_lt_of_le (h3'.lt (i := 7) (by simp [keys]) rfl) h33.size
  have l8 : b8 < w3.heap.size := Nat.lt_of_lt_of_le (h3'.lt (i := 8) (by simp [keys]) rfl) h33.size
  have l9 : b9 < w3.heap.size := Nat.lt_of_lt_of_le (h3'.lt (i := 9) (by simp [keys]) rfl) h33.size
  have l17 : b17 < w3.heap.size := Nat.lt_of_lt_of_le (h3'.lt (i := 17) (by simp [keys]) rfl) h33.size
  have z03 : w.heap.size ≤ w3.heap.size := Nat.le_trans h3'.base.size h33.size
  have hgoal : jOk z m x t fi act L = true := hok
  unfold JR
  rw [hmvd]
  refine den_split (fun hext => ?_) (fun hext => ?_)
  · -- Extended
    have hx : x = true := hext
    subst hx
    refine den_loop (fun ls w' => ∃ (j : Nat) (d mm : Value), ls = [.int .i64 j, d, mm] ∧ j ≤ LV.length ∧ Two w3.heap.size w' d mm (jD true mv (L.take j)) (jM true mv (L.take j))) (fun ls _ => LV.length - (vint (nth ls 0)).toNat) (fun w4 h4 => ⟨0, _, _, rfl, Nat.zero_le _, by simpa [jD, jM, SV.den] using two_nil (w := w4) (lo := w3.heap.size) h4.kept.size⟩) ?_
    rintro w4 l w5 h4 hf ⟨j, d, mm, rfl, hj, hT⟩ hk5 hfa5
    obtain ⟨da, dc, hdv⟩ := hT.hd.slice
    obtain ⟨ma, mc, hmv⟩ := hT.hm.slice
    refine den_norm (by simp only [List.cons_append, List.nil_append]; rfl) (den_splitLt (fun hlt => ?_) (fun hge => ?_))
    · have hlt' : j < LV.length := by simpa [IE.den, nth, vint, vlen] using hlt
      obtain ⟨p, q, hp, hq, g1, g2, n1, n2⟩ := h.pick hlt'
      have hqm := hfew.2 q (List.mem_of_getElem? hq)
      have hfq := hfit q (List.mem_of_getElem? hq)
      have bd := jD_length (x := true) (mv := mv) (L := L.take j) (fun q hq => hfew.2 q (List.mem_of_mem_take hq))
      have bm := jM_length (x := true) (mv := mv) (L := L.take j) (fun q hq => hfew.2 q (List.mem_of_mem_take hq))
      have bl : (L.take j).length ≤ 20 := by rw [List.length_take]; omega
      have bd' : (L.take j).length * 5100 ≤ 20 * 5100 := Nat.mul_le_mul_right _ bl
      refine den_idx2 (E := bvE) (L := LV) p j [p.1.v, p.2.v] ((h.same hk5).arr) rfl (by decide) rfl hp ⟨⟨_, _, _, rfl⟩, ⟨_, _, _, rfl⟩, trivial⟩ (whole _) (fun w6 h6 => (h.same h6.base).arr) (fun ad had => by simp [BlkIn, nth, blkOf, vaddr]) (fun w6 h6 => den_norm (by simp only [List.cons_append, List.nil_append]; rfl) (den_blk fun b24 k24 _ _ => den_norm (by simp only [List.cons_append, List.nil_append]; rfl) ?_))
      have hT6 := hT.same (shown_same h6)
      have apd : ∀ (c : Nat) (v : Value), (∀ g, v.ownBlock = some g → w3.heap.size ≤ g ∧ g < w6.heap.size) → ∀ g, v.ownBlock = some g → ¬ (g = b24 ∨ g = b17 ∨ g = b9 ∨ g = b8 ∨ g = b7) := fun c v hv g hg => by
        have := hv g hg
        omega
      have ad1 := apd 0 d (fun g hg => ⟨hT6.ld g hg, hT6.hd.lt hg⟩)
      have ad2 := apd 0 mm (fun g hg => ⟨hT6.lm g hg, hT6.hm.lt hg⟩)
      refine den_appendL (E := byteE) (T := 5) rfl u40 i5 z5 s5 rfl (by decide) by5 byte_one d p.1.v (jD true mv (L.take j)) q.1 rfl rfl g1.2.1 (by omega) (fun g hg _ => .inl (by have := hT6.ld g hg; have : w.heap.size ≤ w3.heap.size := z03; omega)) (by simp [keys]) (fun w7 h7 => ⟨(hT6.kept h7.kept fun b hb hb2 hin => by simp [BlkIn, nth, blkOf, vaddr] at hin; omega).hd, (g1.same h7.base).1⟩) ?_ (fun hd => by cases hd) (fun _ => rfl) (fun w7 d1 w8 h7 hd8 k8 hfr8 hap8 => den_norm (by simp only [List.cons_append, List.nil_append]; rfl) ?_)
      · intro g hg _ hin
        have := ad1 g hg
        simp [BlkIn, nth, blkOf, vaddr] at hin
        omega
      have hT7 := hT6.kept h7.kept fun b hb hb2 hin => by simp [BlkIn, nth, blkOf, vaddr] at hin; omega
      have hT8 := hT7.app1 k8 hd8 (by rcases hfr8 with e | ⟨b, e1, e2, _⟩; exact .inl e; exact .inr ⟨b, e1, e2, trivial⟩)
      obtain ⟨d1a, d1c, hd1v⟩ := hT8.hd.slice
      intro w9 h9
      have hT9 := hT8.kept h9.kept fun b hb hb2 hin => by simp [BlkIn, nth, blkOf, vaddr] at hin; omega
      have z79 : w7.heap.size ≤ w9.heap.size := Nat.le_trans k8.size h9.kept.size
      refine ⟨fun _ => True, fun _ _ => trivial, ?_⟩
      obtain ⟨pa, pc, hpv⟩ := g2.1.slice
      have hcap2 : q.2.length ≤ pc := by have := g2.2.2.1; rw [hpv] at this; exact this
      have hmvq : mv ≤ q.2.length := by omega
      have hgs : ∀ w', Same w w' → Arr byteE w' (sliced pa 0 mv pc 1) (q.2.take mv) := fun w' hw' => by
        have h1 := (g2.same hw').1
        rw [hpv] at h1
        have h2 := h1.sub (l := 0) (k := mv) (m := pc) (by omega) (by omega) (by omega)
        rw [List.drop_zero] at h2
        exact h2
      refine den_slice pa q.2.length pc none (some (mv : Int)) none 0 mv pc 1 u40 st5 (fun ρ h => h.1.trans hpv) (fun _ _ => rfl) (fun ρ h => congrArg some (h.2.1.trans (by simp only [SV.den, IE.den, nth, vint]; rw [hmv0]))) (fun _ _ => rfl) (.inl ⟨rfl, rfl⟩) (.inr ⟨rfl, by omega⟩) (.inl ⟨rfl, rfl⟩) (fun _ => rfl) (den_norm (by simp only [List.cons_append, List.nil_append]; rfl) ?_)
      refine den_appendL (E := byteE) (T := 5) rfl u40 i5 z5 s5 rfl (by decide) by5 byte_one d1 (sliced pa 0 mv pc 1) (jD true mv (L.take j) ++ q.1) (q.2.take mv) rfl rfl (sliced_nil (fun n' c' e => g2.2.1 n' c' (hpv.trans e)) hmvq (Nat.le_refl _)) (by rw [List.length_append, List.length_take]; omega) (fun g hg _ => .inl (by have := hT9.ld g hg; have : w.heap.size ≤ w3.heap.size := z03; omega)) (by simp [keys]) (fun w10 h10 => ⟨(hT9.same (shown_same h10)).hd, hgs w10 h10.base⟩) ?_ (fun _ _ _ _ => trivial) (fun _ => rfl) (fun w10 d2 w11 h10 hd11 k11 hfr11 hap11 => den_norm (by simp only [List.cons_append, List.nil_append]; rfl) ?_)
      · intro g hg _ hin
        have h1 : w3.heap.size ≤ g := hT9.ld g hg
        have h2 : d1.ownBlock = d.ownBlock ∨ w7.heap.size ≤ g := by
          rcases hfr8 with e | ⟨b, e1, e2, _⟩
          · exact .inl e.1
          · rw [e1] at hg; cases hg; exact .inr e2
        have h3 : b24 < w7.heap.size := h7.lt (i := 24) (by simp [keys]) rfl
        simp [BlkIn, nth, blkOf, vaddr] at hin
        rcases h2 with h2 | h2
        · rw [h2] at hg
          have := ad1 g hg
          omega
        · omega
      have hT11 := (hT9.same (shown_same h10)).app1 k11 hd11 (by rcases hfr11 with e | ⟨b, e1, e2, _⟩; exact .inl e; exact .inr ⟨b, e1, e2, trivial⟩)
      refine den_ob64 (by simp only [IE.den, nth, vint]; omega) (den_leaf' fun w12 h12 => (if_pos rfl).mpr ⟨⟨j + 1, d2, mm, by simp [SV.den, denL, IE.den, BE.den, nth, vint, vbool, vaddr, addO, addr_add], by omega, ?_⟩, ?_⟩)
      · have hT12 := hT11.kept h12.kept fun b hb hb2 hin => by simp [BlkIn, nth, blkOf, vaddr] at hin; omega
        rw [jD_step hq, if_pos rfl, ← List.append_assoc]
        exact hT12
      · simp [SV.den, denL, IE.den, BE.den, nth, vint, vbool, vaddr, addO, addr_add]
        omega
    · have hge' : LV.length ≤ j := by simpa [IE.den, nth, vint, vlen] using hge
      have hjl : L.take j = L := List.take_of_length_le (by omega)
      rw [hjl] at hT
      refine den_leaf' fun w6 h6 => (if_neg (by decide)).mpr ⟨_, rfl, ⟨d, mm, by simp [SV.den, denL, IE.den, BE.den, nth, vint, vbool, vaddr, addO, addr_add, hok], ?_⟩, h6.base⟩
      rw [if_pos hok, if_pos hok]
      have hT6 := hT.kept h6.kept fun b hb hb2 hin => by simp [BlkIn, nth, blkOf, vaddr] at hin; omega
      exact ⟨hT6.hd, hT6.hm, fun g hg => by have := hT6.ld g hg; have : w.heap.size ≤ w3.heap.size := z03; omega, fun g hg => by have := hT6.lm g hg; have : w.heap.size ≤ w3.heap.size := z03; omega, hT6.ne, h6.base.size⟩
  · -- apart
    have hx : x = false := hext
    subst hx
    refine den_loop (fun ls w' => ∃ (j : Nat) (d mm : Value), ls = [.int .i64 j, d, mm] ∧ j ≤ LV.length ∧ Two w3.heap.size w' d mm (jD false mv (L.take j)) (jM false mv (L.take j))) (fun ls _ => LV.length - (vint (nth ls 0)).toNat) (fun w4 h4 => ⟨0, _, _, rfl, Nat.zero_le _, by simpa [jD, jM, SV.den] using two_nil (w := w4) (lo := w3.heap.size) h4.kept.size⟩) ?_
    rintro w4 l w5 h4 hf ⟨j, d, mm, rfl, hj, hT⟩ hk5 hfa5
    obtain ⟨da, dc, hdv⟩ := hT.hd.slice
    obtain ⟨ma, mc, hmv⟩ := hT.hm.slice
    refine den_norm (by simp only [List.cons_append, List.nil_append]; rfl) (den_splitLt (fun hlt => ?_) (fun hge => ?_))
    · have hlt' : j < LV.length := by simpa [IE.den, nth, vint, vlen] using hlt
      obtain ⟨p, q, hp, hq, g1, g2, n1, n2⟩ := h.pick hlt'
      have hqm := hfew.2 q (List.mem_of_getElem? hq)
      have hfq := hfit q (List.mem_of_getElem? hq)
      have bd := jD_length (x := false) (mv := mv) (L := L.take j) (fun q hq => hfew.2 q (List.mem_of_mem_take hq))
      have bm := jM_length (x := false) (mv := mv) (L := L.take j) (fun q hq => hfew.2 q (List.mem_of_mem_take hq))
      have bl : (L.take j).length ≤ 20 := by rw [List.length_take]; omega
      have bd' : (L.take j).length * 5100 ≤ 20 * 5100 := Nat.mul_le_mul_right _ bl
      refine den_idx2 (E := bvE) (L := LV) p j [p.1.v, p.2.v] ((h.same hk5).arr) rfl (by decide) rfl hp ⟨⟨_, _, _, rfl⟩, ⟨_, _, _, rfl⟩, trivial⟩ (whole _) (fun w6 h6 => (h.same h6.base).arr) (fun ad had => by simp [BlkIn, nth, blkOf, vaddr]) (fun w6 h6 => den_norm (by simp only [List.cons_append, List.nil_append]; rfl) (den_blk fun b24 k24 _ _ => den_norm (by simp only [List.cons_append, List.nil_append]; rfl) ?_))
      have hT6 := hT.same (shown_same h6)
      have apd : ∀ (c : Nat) (v : Value), (∀ g, v.ownBlock = some g → w3.heap.size ≤ g ∧ g < w6.heap.size) → ∀ g, v.ownBlock = some g → ¬ (g = b24 ∨ g = b17 ∨ g = b9 ∨ g = b8 ∨ g = b7) := fun c v hv g hg => by
        have := hv g hg
        omega
      have ad1 := apd 0 d (fun g hg => ⟨hT6.ld g hg, hT6.hd.lt hg⟩)
      have ad2 := apd 0 mm (fun g hg => ⟨hT6.lm g hg, hT6.hm.lt hg⟩)
      refine den_appendL (E := byteE) (T := 5) rfl u40 i5 z5 s5 rfl (by decide) by5 byte_one d p.1.v (jD false mv (L.take j)) q.1 rfl rfl g1.2.1 (by omega) (fun g hg _ => .inl (by have := hT6.ld g hg; have : w.heap.size ≤ w3.heap.size := z03; omega)) (by simp [keys]) (fun w7 h7 => ⟨(hT6.kept h7.kept fun b hb hb2 hin => by simp [BlkIn, nth, blkOf, vaddr] at hin; omega).hd, (g1.same h7.base).1⟩) ?_ (fun hd => by cases hd) (fun _ => rfl) (fun w7 d1 w8 h7 hd8 k8 hfr8 hap8 => den_norm (by simp only [List.cons_append, List.nil_append]; rfl) ?_)
      · intro g hg _ hin
        have := ad1 g hg
        simp [BlkIn, nth, blkOf, vaddr] at hin
        omega
      have hT7 := hT6.kept h7.kept fun b hb hb2 hin => by simp [BlkIn, nth, blkOf, vaddr] at hin; omega
      have hT8 := hT7.app1 k8 hd8 (by rcases hfr8 with e | ⟨b, e1, e2, _⟩; exact .inl e; exact .inr ⟨b, e1, e2, trivial⟩)
      obtain ⟨d1a, d1c, hd1v⟩ := hT8.hd.slice
      intro w9 h9
      have hT9 := hT8.kept h9.kept fun b hb hb2 hin => by simp [BlkIn, nth, blkOf, vaddr] at hin; omega
      have z79 : w7.heap.size ≤ w9.heap.size := Nat.le_trans k8.size h9.kept.size
      refine ⟨fun _ => True, fun _ _ => trivial, ?_⟩
      obtain ⟨pa, pc, hpv⟩ := g2.1.slice
      have hcap2 : q.2.length ≤ pc := by have := g2.2.2.1; rw [hpv] at this; exact this
      have hmvq : mv ≤ q.2.length := by omega
      have hgs : ∀ w', Same w w' → Arr byteE w' (sliced pa 0 mv pc 1) (q.2.take mv) := fun w' hw' => by
        have h1 := (g2.same hw').1
        rw [hpv] at h1
        have h2 := h1.sub (l := 0) (k := mv) (m := pc) (by omega) (by omega) (by omega)
        rw [List.drop_zero] at h2
        exact h2
      refine den_slice pa q.2.length pc none (some (mv : Int)) none 0 mv pc 1 u40 st5 (fun ρ h => h.1.trans hpv) (fun _ _ => rfl) (fun ρ h => congrArg some (h.2.1.trans (by simp only [SV.den, IE.den, nth, vint]; rw [hmv0]))) (fun _ _ => rfl) (.inl ⟨rfl, rfl⟩) (.inr ⟨rfl, by omega⟩) (.inl ⟨rfl, rfl⟩) (fun _ => rfl) (den_norm (by simp only [List.cons_append, List.nil_append]; rfl) ?_)
      refine den_appendL (E := byteE) (T := 5) rfl u40 i5 z5 s5 rfl (by decide) by5 byte_one mm (sliced pa 0 mv pc 1) (jM false mv (L.take j)) (q.2.take mv) rfl rfl (sliced_nil (fun n' c' e => g2.2.1 n' c' (hpv.trans e)) hmvq (Nat.le_refl _)) (by rw [List.length_take]; omega) (fun g hg _ => .inl (by have := hT9.lm g hg; have : w.heap.size ≤ w3.heap.size := z03; omega)) (by simp [keys]) (fun w10 h10 => ⟨(hT9.same (shown_same h10)).hm, hgs w10 h10.base⟩) ?_ (fun _ _ _ _ => trivial) (fun _ => rfl) (fun w10 m2 w11 h10 hm11 k11 hfr11 hap11 => den_norm (by simp only [List.cons_append, List.nil_append]; rfl) ?_)
      · intro g hg _ hin
        have := ad2 g hg
        simp [BlkIn, nth, blkOf, vaddr] at hin
        omega
      have hT11 := (hT9.same (shown_same h10)).app2 k11 hm11 (by rcases hfr11 with e | ⟨b, e1, e2, _⟩; exact .inl e; exact .inr ⟨b, e1, e2, trivial⟩)
      refine den_ob64 (by simp only [IE.den, nth, vint]; omega) (den_leaf' fun w12 h12 => (if_pos rfl).mpr ⟨⟨j + 1, d1, m2, by simp [SV.den, denL, IE.den, BE.den, nth, vint, vbool, vaddr, addO, addr_add], by omega, ?_⟩, ?_⟩)
      · have hT12 := hT11.kept h12.kept fun b hb hb2 hin => by simp [BlkIn, nth, blkOf, vaddr] at hin; omega
        rw [jD_step hq, jM_step hq]
        exact hT12
      · simp [SV.den, denL, IE.den, BE.den, nth, vint, vbool, vaddr, addO, addr_add]
        omega
    · have hge' : LV.length ≤ j := by simpa [IE.den, nth, vint, vlen] using hge
      have hjl : L.take j = L := List.take_of_length_le (by omega)
      rw [hjl] at hT
      refine den_leaf' fun w6 h6 => (if_neg (by decide)).mpr ⟨_, rfl, ⟨d, mm, by simp [SV.den, denL, IE.den, BE.den, nth, vint, vbool, vaddr, addO, addr_add, hok], ?_⟩, h6.base⟩
      rw [if_pos hok, if_pos hok]
      have hT6 := hT.kept h6.kept fun b hb hb2 hin => by simp [BlkIn, nth, blkOf, vaddr] at hin; omega
      exact ⟨hT6.hd, hT6.hm, fun g hg => by have := hT6.ld g hg; have : w.heap.size ≤ w3.heap.size := z03; omega, fun g hg => by have := hT6.lm g hg; have : w.heap.size ≤ w3.heap.size := z03; omega, hT6.ne, h6.base.size⟩
end Go.Proofs.Ytngemhmjpphpaaa
