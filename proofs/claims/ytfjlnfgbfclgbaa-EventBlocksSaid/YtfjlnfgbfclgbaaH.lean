/- Deliver, one notice after another and in one pass: the two are the same. Plain lists. No conditions beyond those that each theorem names. -/
import Derived.Test.YtfjlnfgbfclgbaaG
set_option linter.unusedVariables false
namespace Go.Proofs.Ytfjlnfgbfclgbaa
open Go.Sx

/-- what one pass delivers: completions, what is left, requests, blocked types -/
structure Del where
  out : List (Int × Int)
  left : List Ntc
  R : List Int
  B : Int → Option Int
def dl : List Ntc → List Int → (Int → Option Int) → Del
  | [], R, B => ⟨[], [], R, B⟩
  | n :: L, [], B => let d := dl L [] B; ⟨d.out, n :: d.left, d.R, d.B⟩
  | n :: L, r :: R, B => if (B n.t).isSome then (let d := dl L (r :: R) B; ⟨d.out, n :: d.left, d.R, d.B⟩) else (let d := dl L R (upd B n.t n.p); ⟨(r, resI n) :: d.out, d.left, d.R, d.B⟩)
theorem dl_nil : ∀ (L : List Ntc) (B : Int → Option Int), dl L [] B = ⟨[], L, [], B⟩
  | [], B => rfl
  | n :: L, B => by
    unfold dl
    rw [dl_nil L B]
theorem dl_none : ∀ (L : List Ntc) (R : List Int) (B : Int → Option Int), (∀ (i : Nat) n, L[i]? = some n → (B n.t).isSome = true) → dl L R B = ⟨[], L, R, B⟩
  | L, [], B, _ => dl_nil L B
  | [], r :: R, B, _ => rfl
  | n :: L, r :: R, B, h => by
    have h0 := h 0 n rfl
    unfold dl
    rw [if_pos h0, dl_none L (r :: R) B fun i n hi => h (i + 1) n (by simpa using hi)]
theorem upd_some {B : Int → Option Int} {t p : Int} {j : Int} (h : (B j).isSome = true) : (upd B t p j).isSome = true := by
  unfold upd
  split
  · rfl
  · exact h
/-- the first notice whose type is not blocked is taken out -/
theorem dl_step : ∀ (L : List Ntc) (r : Int) (R : List Int) (B : Int → Option Int) (i : Nat) (n : Ntc), L[i]? = some n → (B n.t).isSome = false → (∀ (j : Nat) y, j < i → L[j]? = some y → (B y.t).isSome = true) →
    dl L (r :: R) B = (let d := dl (L.eraseIdx i) R (upd B n.t n.p); ⟨(r, resI n) :: d.out, d.left, d.R, d.B⟩)
  | [], r, R, B, i, n, h, _, _ => by simp at h
  | x :: L, r, R, B, 0, n, h, hn, _ => by
    cases h
    rw [List.eraseIdx_cons_zero]
    conv => lhs; unfold dl
    rw [if_neg (by rw [hn]; decide)]
  | x :: L, r, R, B, i + 1, n, h, hn, hf => by
    have hx := hf 0 x (by omega) rfl
    have ih := dl_step L r R B i n (by simpa using h) hn fun j y hj hy => hf (j + 1) y (by omega) (by simpa using hy)
    rw [List.eraseIdx_cons_succ]
    conv => lhs; unfold dl
    rw [if_pos hx, ih]
    have hx' : (upd B n.t n.p x.t).isSome = true := upd_some hx
    cases R with
    | nil => simp only [dl]
    | cons r2 R2 =>
      conv => rhs; unfold dl
      rw [if_pos hx']
end Go.Proofs.Ytfjlnfgbfclgbaa
