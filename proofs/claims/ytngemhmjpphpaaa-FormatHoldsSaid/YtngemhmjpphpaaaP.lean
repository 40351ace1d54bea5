/- Blocks come back from buffers and sectors: plain lists. No conditions beyond those that each theorem names. -/
import Derived.Test.YtngemhmjpphpaaaM
set_option maxRecDepth 100000
set_option maxHeartbeats 1000000
set_option linter.unusedVariables false
set_option linter.unusedSimpArgs false
namespace Go.Proofs.Ytngemhmjpphpaaa
open Go.Sx

theorem flat_drop {F : Bl → List Int} {c : Nat} : ∀ {L : List Bl} (i : Nat), (∀ q ∈ L, (F q).length = c) → (L.flatMap F).drop (i * c) = (L.drop i).flatMap F
  | [], i, _ => by simp
  | q :: L, 0, _ => by simp
  | q :: L, i + 1, h => by
    have h1 := h q (by simp)
    have ih := flat_drop (F := F) (c := c) (L := L) i fun q hq => h q (by simp [hq])
    rw [List.flatMap_cons, List.drop_succ_cons, ← ih, Nat.succ_mul, List.drop_append, List.drop_eq_nil_of_le (by rw [h1]; omega), List.nil_append, h1]
    congr 1
    omega
theorem flat_length {F : Bl → List Int} {c : Nat} : ∀ {L : List Bl}, (∀ q ∈ L, (F q).length = c) → (L.flatMap F).length = L.length * c
  | [], _ => by simp
  | q :: L, h => by
    have h1 := h q (by simp)
    have ih := flat_length (F := F) (c := c) (L := L) fun q hq => h q (by simp [hq])
    rw [List.flatMap_cons, List.length_append, ih, h1, List.length_cons, Nat.succ_mul, Nat.add_comm]
theorem drop_at {L : List Bl} {i : Nat} {q : Bl} (h : L[i]? = some q) : L.drop i = q :: L.drop (i + 1) := by
  obtain ⟨hi, e⟩ := List.getElem?_eq_some_iff.1 h
  rw [List.drop_eq_getElem_cons hi, e]
theorem two_parts {A B C : List Int} {z m : Nat} (hA : A.length = z) (hB : B.length = m) : (A ++ (B ++ C)).take z = A ∧ ((A ++ (B ++ C)).drop z).take m = B := by
  subst hA hB
  simp
/-- a block of the buffers that were joined -/
theorem blkAt_join {z m mv : Nat} {x : Bool} {L : List Bl} (hL : ∀ q ∈ L, q.1.length = z ∧ q.2.length = m) (hmv : mv ≤ m) {i : Nat} {q : Bl} (hq : L[i]? = some q) :
    blkAt z m mv x (jD x mv L) (jM x mv L) i = (q.1, pad m (q.2.take mv)) := by
  have hqm := hL q (List.mem_of_getElem? hq)
  have ht : (q.2.take mv).length = mv := by rw [List.length_take]; omega
  cases x with
  | true =>
    have e : (jD true mv L).drop (i * (z + mv)) = q.1 ++ (q.2.take mv ++ (L.drop (i + 1)).flatMap fun q => q.1 ++ q.2.take mv) := by
      have := flat_drop (F := fun q => q.1 ++ q.2.take mv) (c := z + mv) (L := L) i fun q hq => by
        have := hL q hq
        rw [List.length_append, List.length_take]
        omega
      unfold jD
      simp only [if_true]
      rw [this, drop_at hq, List.flatMap_cons, List.append_assoc]
    unfold blkAt
    rw [if_pos rfl, ← List.drop_drop, e]
    obtain ⟨h1, h2⟩ := two_parts (A := q.1) (B := q.2.take mv) (C := (L.drop (i + 1)).flatMap fun q => q.1 ++ q.2.take mv) hqm.1 ht
    rw [h1, h2]
  | false =>
    have e : (jD false mv L).drop (i * z) = q.1 ++ ([] ++ (L.drop (i + 1)).flatMap fun q => q.1) := by
      have := flat_drop (F := fun q => q.1) (c := z) (L := L) i fun q hq => (hL q hq).1
      unfold jD
      simp only [Bool.false_eq_true, if_false]
      rw [this, drop_at hq, List.flatMap_cons, List.nil_append]
    have e2 : (jM false mv L).drop (i * mv) = q.2.take mv ++ ([] ++ (L.drop (i + 1)).flatMap fun q => q.2.take mv) := by
      have := flat_drop (F := fun q => q.2.take mv) (c := mv) (L := L) i fun q hq => by
        have := hL q hq
        rw [List.length_take]
        omega
      unfold jM
      simp only [Bool.false_eq_true, if_false]
      rw [this, drop_at hq, List.flatMap_cons, List.nil_append]
    unfold blkAt
    rw [if_neg (by decide), e, e2, (two_parts (m := 0) hqm.1 rfl).1, (two_parts (m := 0) ht rfl).1]
/-- a block of the sector that was packed -/
theorem blkU_pack {z m N : Nat} {L : List Bl} (hL : ∀ q ∈ L, q.1.length = z ∧ q.2.length = m) {i : Nat} {q : Bl} (hq : L[i]? = some q) : blkU z m (pad N (catB L)) i = q := by
  have hqm := hL q (List.mem_of_getElem? hq)
  have hi := (List.getElem?_eq_some_iff.1 hq).1
  have hlen := catB_length hL
  have hle : i * (z + m) ≤ (catB L).length := by rw [hlen]; exact Nat.mul_le_mul_right _ (Nat.le_of_lt hi)
  have e : (pad N (catB L)).drop (i * (z + m)) = q.1 ++ (q.2 ++ ((L.drop (i + 1)).flatMap (fun q => q.1 ++ q.2) ++ List.replicate (N - (catB L).length) 0)) := by
    unfold pad
    rw [List.drop_append_of_le_length hle]
    have := flat_drop (F := fun q => q.1 ++ q.2) (c := z + m) (L := L) i fun q hq => by
      have := hL q hq
      rw [List.length_append]
      omega
    unfold catB
    rw [this, drop_at hq, List.flatMap_cons]
    simp only [List.append_assoc]
  unfold blkU
  rw [← List.drop_drop, e]
  obtain ⟨h1, h2⟩ := two_parts (A := q.1) (B := q.2) (C := (L.drop (i + 1)).flatMap (fun q => q.1 ++ q.2) ++ List.replicate (N - (catB L).length) 0) hqm.1 hqm.2
  rw [h1, h2]
theorem range_map {L : List Bl} {n : Nat} {F : Nat → Bl} (hn : n = L.length) (h : ∀ (i : Nat) q, L[i]? = some q → F i = q) : (List.range n).map F = L := by
  subst hn
  apply List.ext_getElem?
  intro i
  by_cases hi : i < L.length
  · rw [List.getElem?_map, List.getElem?_range hi, Option.map_some, h i _ (List.getElem?_eq_getElem hi), List.getElem?_eq_getElem hi]
  · rw [List.getElem?_eq_none (by simp; omega), List.getElem?_eq_none (by omega)]
theorem range_map_take {L : List Bl} {n k : Nat} {F : Nat → Bl} (hk : k = L.length) (hkn : k ≤ n) (h : ∀ (i : Nat) q, L[i]? = some q → F i = q) : ((List.range n).map F).take k = L := by
  rw [← List.map_take, List.take_range, Nat.min_eq_left hkn]
  exact range_map hk h
theorem jD_len {z m mv : Nat} {x : Bool} {L : List Bl} (hL : ∀ q ∈ L, q.1.length = z ∧ q.2.length = m) (hmv : mv ≤ m) : ((jD x mv L).length : Int) = lenA z x mv L.length := by
  cases x with
  | true =>
    have := flat_length (F := fun q : Bl => q.1 ++ q.2.take mv) (c := z + mv) (L := L) fun q hq => by
      have := hL q hq
      rw [List.length_append, List.length_take]
      omega
    simp only [jD, lenA, if_true]
    rw [this]
    push_cast
    rfl
  | false =>
    have := flat_length (F := fun q : Bl => q.1) (c := z) (L := L) fun q hq => (hL q hq).1
    simp only [jD, lenA, Bool.false_eq_true, if_false]
    rw [this]
    push_cast
    rfl
theorem jM_len {z m mv : Nat} {x : Bool} {L : List Bl} (hL : ∀ q ∈ L, q.1.length = z ∧ q.2.length = m) (hmv : mv ≤ m) : ((jM x mv L).length : Int) = lenB x mv L.length := by
  cases x with
  | true => simp [jM, lenB]
  | false =>
    have := flat_length (F := fun q : Bl => q.2.take mv) (c := mv) (L := L) fun q hq => by
      have := hL q hq
      rw [List.length_take]
      omega
    simp only [jM, lenB, Bool.false_eq_true, if_false]
    rw [this]
    push_cast
    rfl
/-- different addresses have different places -/
theorem places {z m : Int} {x : Bool} {t : Int} {fi : Bool} {a b : Int} (ha : plOk z m x t fi a = true) (hb : plOk z m x t fi b = true) :
    (plS z m x t fi a = plS z m x t fi b ∧ plI z m x t fi a = plI z m x t fi b) ↔ a = b := by
  have hp : fOk z m x t fi = true ∧ 0 ≤ a := by simpa [plOk] using ha
  have hp2 : fOk z m x t fi = true ∧ 0 ≤ b := by simpa [plOk] using hb
  have hr := per_range hp.1
  unfold plS plI
  rw [if_pos ha, if_pos hb, if_pos ha, if_pos hb]
  generalize per z m x t fi = p at hr
  rw [Int.tdiv_eq_ediv_of_nonneg hp.2, Int.tmod_eq_emod_of_nonneg hp.2, Int.tdiv_eq_ediv_of_nonneg hp2.2, Int.tmod_eq_emod_of_nonneg hp2.2]
  have : p = 1 ∨ p = 2 ∨ p = 3 ∨ p = 4 ∨ p = 5 ∨ p = 6 ∨ p = 7 ∨ p = 8 := by omega
  rcases this with rfl | rfl | rfl | rfl | rfl | rfl | rfl | rfl <;> omega
theorem strEq_zeros : strV (List.replicate 8 0) = .string { data := #[0, 0, 0, 0, 0, 0, 0, 0] } := by
  unfold strV strOfNums
  simp [List.replicate]
theorem Blks.take {lo : Nat} {w : World} {a : Option Addr} {n c : Nat} {LV : List (Sl × Sl)} {L : List Bl} (h : Blks lo w (.slice a n c) LV L) {k : Nat} (hk : k ≤ n) (hc : k ≤ c) : Blks lo w (.slice a k c) (LV.take k) (L.take k) := by
  obtain ⟨a', c', e⟩ := h.slice
  have hn : n = LV.length := by injection e
  have h1 := Arr.sub (E := bvE) (l := 0) (k := k) (m := c) h.arr (Nat.zero_le _) hk hc
  rw [List.drop_zero] at h1
  have e2 : sliced a 0 k c bvE.sz = .slice a k c := by
    unfold sliced
    cases a <;> simp [Addr.add]
  rw [e2] at h1
  refine ⟨h1, by simp [h.len], h.at_, fun i p q hp hq => ?_⟩
  rw [List.getElem?_take] at hp hq
  split at hp
  · rename_i hi
    rw [if_pos hi] at hq
    exact h.each i p q hp hq
  · cases hp
end Go.Proofs.Ytngemhmjpphpaaa
