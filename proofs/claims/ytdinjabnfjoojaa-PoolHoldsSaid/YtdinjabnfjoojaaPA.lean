/- The block that Take takes is a free one with the lowest erase count, the first of these. No conditions beyond those that each theorem names. -/
import Derived.Test.YtdinjabnfjoojaaO
set_option maxRecDepth 100000
set_option linter.unusedVariables false
set_option linter.unusedSimpArgs false
namespace Go.Proofs.Ytdinjabnfjoojaa
open Go.Sx

theorem bst_least {s : Int} {L : List Bk} : ∀ {n : Nat}, n ≤ L.length → ∀ (i : Nat) (x : Bk), i < n → L[i]? = some x → isSt s x = true →
    ∃ (j : Nat) (y : Bk), bstN (isSt s) ltE L n = j ∧ L[j]? = some y ∧ isSt s y = true ∧ j < n ∧ (y.er < x.er ∨ (y.er = x.er ∧ j ≤ i))
  | 0, _, i, x, hi, _, _ => by omega
  | n + 1, hn, i, x, hi, hx, hp => by
    have hz : L[n]? = some (L[n]'(by omega)) := by simp
    generalize L[n]'(by omega) = z at hz
    rcases Nat.lt_succ_iff_lt_or_eq.1 hi with hlt | rfl
    · obtain ⟨j, y, hj, hy, hpy, hjn, hle⟩ := bst_least (s := s) (L := L) (n := n) (by omega) i x hlt hx hp
      cases hpz : isSt s z with
      | false => exact ⟨j, y, by rw [bstN_no hz hpz, hj], hy, hpy, by omega, hle⟩
      | true =>
        by_cases hc : ltE z y = true
        · refine ⟨n, z, by rw [bstN_cmp hz hpz hj hy, if_pos hc], hz, hpz, by omega, .inl ?_⟩
          have : z.er < y.er := of_decide_eq_true hc
          rcases hle with h | h <;> omega
        · exact ⟨j, y, by rw [bstN_cmp hz hpz hj hy, if_neg hc], hy, hpy, by omega, hle⟩
    · rw [hx] at hz
      cases hz
      by_cases hneg : bstN (isSt s) ltE L i < 0
      · exact ⟨i, x, bstN_first hx hp hneg, hx, hp, by omega, .inr ⟨rfl, Nat.le_refl _⟩⟩
      · rcases bstN_bounds (isSt s) ltE L i with h8 | ⟨j, y, hji, hj, hy, hpy⟩
        · rw [h8] at hneg
          exact absurd (by decide) hneg
        · by_cases hc : ltE x y = true
          · exact ⟨i, x, by rw [bstN_cmp hx hp hj hy, if_pos hc], hx, hp, by omega, .inr ⟨rfl, Nat.le_refl _⟩⟩
          · refine ⟨j, y, by rw [bstN_cmp hx hp hj hy, if_neg hc], hy, hpy, by omega, ?_⟩
            have : ¬ x.er < y.er := fun h => hc (decide_eq_true h)
            omega
theorem coldest_least {s : Int} {L : List Bk} {i : Nat} {x : Bk} (hx : L[i]? = some x) (hp : isSt s x = true) :
    ∃ (j : Nat) (y : Bk), coldest s L = j ∧ L[j]? = some y ∧ (y.er < x.er ∨ (y.er = x.er ∧ j ≤ i)) := by
  obtain ⟨j, y, h1, h2, _, _, h3⟩ := bst_least (s := s) (Nat.le_refl L.length) i x (List.getElem?_eq_some_iff.1 hx).1 hx hp
  exact ⟨j, y, h1, h2, h3⟩
/-- no block of this state: none is found -/
theorem cn_zero {s : Int} {L : List Bk} : cn L s = 0 ↔ coldest s L < 0 := by
  have hb := bst_none (p := isSt s) (lt := ltE) (L := L) (n := L.length) (Nat.le_refl _)
  rw [show coldest s L = bstN (isSt s) ltE L L.length from rfl, hb]
  unfold cn
  constructor
  · intro h i x _ hx
    have : L.filter (isSt s) = [] := List.length_eq_zero_iff.1 (by omega)
    have := List.filter_eq_nil_iff.1 this x (List.mem_of_getElem? hx)
    simpa using this
  · intro h
    have : L.filter (isSt s) = [] := List.filter_eq_nil_iff.2 fun x hx => by
      obtain ⟨i, hi⟩ := List.getElem?_of_mem hx
      have := h i x (List.getElem?_eq_some_iff.1 hi).1 hi
      simp [this]
    rw [this]; rfl
end Go.Proofs.Ytdinjabnfjoojaa
