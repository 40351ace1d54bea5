/- Blocks of equal erase counts that are taken and released in turn. No conditions beyond those that each theorem names. -/
import Derived.Test.YtdinjabnfjoojaaPA
set_option maxRecDepth 100000
set_option linter.unusedVariables false
set_option linter.unusedSimpArgs false
namespace Go.Proofs.Ytdinjabnfjoojaa
open Go.Sx

/-- the blocks after i turns -/
def hB (n i : Nat) (e : Int) (j : Nat) : Bk := ⟨e + (i / n : Nat) + (if j < i % n then 1 else 0), 1⟩
def hL (n i : Nat) (e : Int) : List Bk := (List.range n).map (hB n i e)
theorem hL_length {n i : Nat} {e : Int} : (hL n i e).length = n := by simp [hL]
theorem hL_get {n i : Nat} {e : Int} {j : Nat} (h : j < n) : (hL n i e)[j]? = some (hB n i e j) := by simp [hL, h]
theorem hL_inv {n i : Nat} {e : Int} {j : Nat} {x : Bk} (h : (hL n i e)[j]? = some x) : j < n ∧ x = hB n i e j := by
  have hj := (List.getElem?_eq_some_iff.1 h).1
  rw [hL_length] at hj
  rw [hL_get hj] at h
  exact ⟨hj, (Option.some.inj h).symm⟩
theorem hL_coldest {n i : Nat} {e : Int} (hn : 0 < n) : coldest 1 (hL n i e) = (i % n : Nat) := by
  have hr : i % n < n := Nat.mod_lt _ hn
  obtain ⟨j, y, h1, h2, h3⟩ := coldest_least (s := 1) (hL_get (i := i) (e := e) hr) (by simp [isSt, hB])
  obtain ⟨hj, rfl⟩ := hL_inv h2
  simp only [hB, Nat.lt_irrefl, if_false] at h3
  rw [h1]
  split at h3 <;> omega
theorem hL_step {n i : Nat} {e : Int} (hn : 0 < n) : (hL n i e).set (i % n) ⟨e + (i / n : Nat) + 1, 1⟩ = hL n (i + 1) e := by
  have hr : i % n < n := Nat.mod_lt _ hn
  have hd := Nat.div_add_mod i n
  apply List.ext_getElem?
  intro j
  by_cases hj : j < n
  · rw [hL_get hj, List.getElem?_set]
    have key : (i + 1) / n = i / n + (if i % n + 1 = n then 1 else 0) ∧ (i + 1) % n = if i % n + 1 = n then 0 else i % n + 1 := by
      by_cases hc : i % n + 1 = n
      · have e1 : i + 1 = n * (i / n + 1) := by rw [Nat.mul_add, Nat.mul_one]; omega
        simp only [hc, if_true]
        rw [e1]
        exact ⟨Nat.mul_div_cancel_left _ hn, Nat.mul_mod_right _ _⟩
      · have hlt : i % n + 1 < n := by omega
        have e1 : i + 1 = (i % n + 1) + n * (i / n) := by omega
        simp only [hc, if_false]
        rw [e1]
        refine ⟨?_, ?_⟩
        · rw [Nat.add_mul_div_left _ _ hn, Nat.div_eq_of_lt hlt]; omega
        · rw [Nat.add_mul_mod_self_left, Nat.mod_eq_of_lt hlt]
    by_cases hjr : i % n = j
    · rw [if_pos hjr, if_pos (by rw [hL_length]; exact hr)]
      unfold hB
      rw [key.1, key.2]
      refine congrArg some ?_
      rw [Bk.mk.injEq]
      refine ⟨?_, rfl⟩
      by_cases hc : i % n + 1 = n
      · rw [if_pos hc, if_pos hc, if_neg (by omega)]; push_cast; omega
      · rw [if_neg hc, if_neg hc, if_pos (by omega)]; push_cast; omega
    · rw [if_neg hjr, hL_get hj]
      unfold hB
      rw [key.1, key.2]
      refine congrArg some ?_
      rw [Bk.mk.injEq]
      refine ⟨?_, rfl⟩
      by_cases hc : i % n + 1 = n
      · rw [if_pos hc, if_pos hc, if_pos (show j < i % n by omega), if_neg (by omega)]; push_cast; omega
      · rw [if_neg hc, if_neg hc]
        by_cases hlt : j < i % n
        · rw [if_pos hlt, if_pos (by omega)]; push_cast; omega
        · rw [if_neg hlt, if_neg (by omega)]; push_cast; omega
  · rw [List.getElem?_eq_none (by rw [List.length_set, hL_length]; omega), List.getElem?_eq_none (by rw [hL_length]; omega)]
theorem hL_ne {n i : Nat} {e : Int} (hn : 0 < n) : hL n i e ≠ [] := fun h => by have := hL_length (n := n) (i := i) (e := e); rw [h] at this; simp at this; omega
theorem hL_bst {n i : Nat} {e : Int} (hn : 0 < n) (lt : Bk → Bk → Bool) : ∃ j, j < n ∧ bst good lt (hL n i e) = (j : Nat) := by
  rcases bstN_bounds good lt (hL n i e) (hL n i e).length with h | ⟨j, x, _, hj, hx, _⟩
  · have := (bst_none (p := good) (lt := lt) (L := hL n i e) (n := (hL n i e).length) (Nat.le_refl _)).1 (by rw [h]; decide) 0 _ (by rw [hL_length]; exact hn) (hL_get hn)
    simp [good, hB] at this
  · exact ⟨j, (hL_inv hx).1, hj⟩
theorem hL_hi {n i : Nat} {e : Int} (hn : 0 < n) : hi (hL n i e) ≤ e + (i / n : Nat) + 1 ∧ e + (i / n : Nat) ≤ hi (hL n i e) := by
  obtain ⟨j, hj, h⟩ := hL_bst (i := i) (e := e) hn gtE
  unfold hi
  rw [h, erAt_some (hL_get hj)]
  unfold hB
  dsimp only
  split <;> omega
theorem least_good {L : List Bk} : ∀ {n : Nat}, n ≤ L.length → ∀ (i : Nat) (x : Bk), i < n → L[i]? = some x → good x = true →
    ∃ (j : Nat) (y : Bk), bstN good ltE L n = j ∧ L[j]? = some y ∧ y.er ≤ x.er
  | 0, _, i, x, hi, _, _ => by omega
  | n + 1, hn, i, x, hi, hx, hp => by
    have hz : L[n]? = some (L[n]'(by omega)) := by simp
    generalize L[n]'(by omega) = z at hz
    rcases Nat.lt_succ_iff_lt_or_eq.1 hi with hlt | rfl
    · obtain ⟨j, y, hj, hy, hle⟩ := least_good (L := L) (n := n) (by omega) i x hlt hx hp
      cases hpz : good z with
      | false => exact ⟨j, y, by rw [bstN_no hz hpz, hj], hy, hle⟩
      | true =>
        by_cases hc : ltE z y = true
        · refine ⟨n, z, by rw [bstN_cmp hz hpz hj hy, if_pos hc], hz, ?_⟩
          have : z.er < y.er := of_decide_eq_true hc
          omega
        · exact ⟨j, y, by rw [bstN_cmp hz hpz hj hy, if_neg hc], hy, hle⟩
    · rw [hx] at hz
      cases hz
      by_cases hneg : bstN good ltE L i < 0
      · exact ⟨i, x, bstN_first hx hp hneg, hx, Int.le_refl _⟩
      · rcases bstN_bounds good ltE L i with h8 | ⟨j, y, hji, hj, hy, hpy⟩
        · rw [h8] at hneg
          exact absurd (by decide) hneg
        · by_cases hc : ltE x y = true
          · exact ⟨i, x, by rw [bstN_cmp hx hp hj hy, if_pos hc], hx, Int.le_refl _⟩
          · refine ⟨j, y, by rw [bstN_cmp hx hp hj hy, if_neg hc], hy, ?_⟩
            have : ¬ x.er < y.er := fun h => hc (decide_eq_true h)
            omega
theorem hL_lo {n i : Nat} {e : Int} (hn : 0 < n) : lo (hL n i e) = e + (i / n : Nat) := by
  have hr : i % n < n := Nat.mod_lt _ hn
  obtain ⟨j, y, h1, h2, h3⟩ := least_good (L := hL n i e) (Nat.le_refl _) (i % n) _ (by rw [hL_length]; exact hr) (hL_get hr) (by simp [good, hB])
  obtain ⟨hj, rfl⟩ := hL_inv h2
  unfold lo
  rw [show bst good ltE (hL n i e) = bstN good ltE (hL n i e) (hL n i e).length from rfl, h1, erAt_some h2]
  simp only [hB, Nat.lt_irrefl, if_false] at h3 ⊢
  split at h3 <;> omega
/-- one turn: taken and released -/
theorem hL_turn {n i : Nat} {e : Int} (hn : 0 < n) (he : 0 ≤ e) (hb : e + (i / n : Nat) < 1099511627776) :
    takE (hL n i e) = 0 ∧ takI (hL n i e) = (i % n : Nat) ∧ chk (takL (hL n i e)) (takI (hL n i e)) rels = 0 ∧ relL (takL (hL n i e)) (takI (hL n i e)) = hL n (i + 1) e := by
  have hr : i % n < n := Nat.mod_lt _ hn
  have hc := hL_coldest (i := i) (e := e) hn
  have hneg : ¬ coldest 1 (hL n i e) < 0 := by rw [hc]; omega
  have hE : takE (hL n i e) = 0 := by unfold takE; rw [if_neg hneg]
  have hI : takI (hL n i e) = (i % n : Nat) := by unfold takI; rw [if_neg hneg, hc]
  have hB0 : hB n i e (i % n) = ⟨e + (i / n : Nat), 1⟩ := by simp [hB]
  have hT : takL (hL n i e) = (hL n i e).set (i % n) ⟨e + (i / n : Nat), 2⟩ := by
    unfold takL
    rw [if_neg hneg, hc, bkAt_some (hL_get hr), hB0]
    rfl
  have hg : ((hL n i e).set (i % n) ⟨e + (i / n : Nat), 2⟩)[i % n]? = some ⟨e + (i / n : Nat), 2⟩ := by rw [List.getElem?_set, if_pos rfl, if_pos (by rw [hL_length]; exact hr)]
  have hch : chk (takL (hL n i e)) (takI (hL n i e)) rels = 0 := by
    rw [hT, hI]
    have h1 : hasB ((hL n i e).set (i % n) ⟨e + (i / n : Nat), 2⟩) ((i % n : Nat) : Int) = true := by
      unfold hasB
      rw [List.length_set, hL_length]
      simp only [Bool.and_eq_true, decide_eq_true_eq]
      omega
    have h2 : rels ⟨e + (i / n : Nat), 2⟩ = true := by
      unfold rels
      simp only [Bool.and_eq_true, Bool.or_eq_true, decide_eq_true_eq]
      exact ⟨.inl trivial, hb⟩
    unfold chk
    rw [if_neg (by rw [h1]; decide), if_neg (by rw [bkAt_some hg, h2]; decide)]
  refine ⟨hE, hI, hch, ?_⟩
  unfold relL
  rw [if_pos hch, hT, hI, bkAt_some hg]
  simp only [Int.toNat_natCast, List.set_set]
  exact hL_step hn
end Go.Proofs.Ytdinjabnfjoojaa
