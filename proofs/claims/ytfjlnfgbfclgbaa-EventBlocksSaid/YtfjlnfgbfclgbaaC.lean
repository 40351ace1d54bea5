/- The first element that is taken. No conditions beyond those that each theorem names. -/
import Derived.Test.YtfjlnfgbfclgbaaB
set_option maxRecDepth 100000
set_option maxHeartbeats 1000000
set_option linter.unusedVariables false
set_option linter.unusedSimpArgs false
namespace Go.Proofs.Ytfjlnfgbfclgbaa
open Go.Sx

theorem first_of {α : Type} (p : α → Bool) : ∀ (L : List α), (∀ (i : Nat) y, L[i]? = some y → p y = false) ∨ ∃ (i : Nat) (x : α), L[i]? = some x ∧ p x = true ∧ ∀ (j : Nat) y, j < i → L[j]? = some y → p y = false
  | [] => .inl fun i y h => by simp at h
  | a :: L => by
    cases ha : p a with
    | true => exact .inr ⟨0, a, rfl, ha, fun j y hj => by omega⟩
    | false =>
      rcases first_of p L with h | ⟨i, x, h1, h2, h3⟩
      · refine .inl fun i y hy => ?_
        cases i with
        | zero => cases hy; exact ha
        | succ i => exact h i y (by simpa using hy)
      · refine .inr ⟨i + 1, x, by simpa using h1, h2, fun j y hj hy => ?_⟩
        cases j with
        | zero => cases hy; exact ha
        | succ j => exact h3 j y (by omega) (by simpa using hy)
/-- taken: what is left, the element, whether there is one -/
theorem c43 (s fv : Value) (L : List Ntc) (p : Ntc → Bool) (g : Nat) (caps : List Value) (w : World) (hm : L.length ≤ 60000000000) (hs : Arr ntcE w s L)
    (hf : fv = .func (.func g) #[] caps.toArray) (hg : goFunc Try.prog g = true) (hp : ∀ x w', x ∈ L → Same w w' → Gives Try.prog g ([x.v] ++ caps) w' (.bool (p x))) :
    GivesR Try.prog 43 [s, fv] w (fun v w' => ((∀ (i : Nat) y, L[i]? = some y → p y = false) ∧ v = .tuple #[s, zN, .bool false]) ∨
      ∃ (i : Nat) (x : Ntc) (r : Value), L[i]? = some x ∧ p x = true ∧ (∀ (j : Nat) y, j < i → L[j]? = some y → p y = false) ∧ v = .tuple #[r, x.v, .bool true] ∧ Mine ntcE 23 w' r (L.eraseIdx i) ∧ ∀ g, r.ownBlock = some g → w.heap.size ≤ g) := by
  obtain ⟨a, c, rfl⟩ := hs.slice
  subst hf
  refine givesR mix t43 rfl rfl (ε := [.slice a L.length c, .func (.func g) #[] caps.toArray]) ⟨⟨_, _, _, rfl⟩, rfl, trivial⟩ ?_
  refine den_blk fun b2 k2 _ _ => den_norm (by simp only [List.cons_append, List.nil_append]; rfl) ?_
  have z2 : w.heap.size ≤ b2 := k2
  rcases first_of p L with hno | ⟨i, x, hx, hpx, hfirst⟩
  · refine den_call_int (x := -1) (fun w1 h1 => (c59 _ _ L p g caps w1 (by omega) (hs.same h1.base) rfl hg (fun x w' hx hk => hp x w' hx (h1.base.trans hk))).to (by rw [Sx.idxFrom_none (fun _ x => p x) L 0 hno])) rfl (fun w1 w2 h1 h2 => den_norm (by simp only [List.cons_append, List.nil_append]; rfl) (den_split_true rfl ?_))
    exact den_start1 fun w3 h3 => den_leafR _ rfl fun w4 h4 => .inl ⟨hno, rfl⟩
  have hi : i < L.length := (List.getElem?_eq_some_iff.1 hx).1
  refine den_call_int (x := (i : Int)) (fun w1 h1 => (c59 _ _ L p g caps w1 (by omega) (hs.same h1.base) rfl hg (fun x w' hx hk => hp x w' hx (h1.base.trans hk))).to (by rw [Sx.idxFrom_found (fun _ x => p x) L 0 i x hx hpx hfirst, Nat.zero_add])) rfl (fun w1' w2' h1 h2 => den_norm (by simp only [List.cons_append, List.nil_append]; rfl) (den_splitLt (fun h => ?_) (fun h => ?_)))
  · have h' : (i : Int) < 0 := h
    omega
  intro w1 hw1
  have zw1 : w.heap.size ≤ w1.heap.size := hw1.base.size
  have l2 : b2 < w1.heap.size := hw1.lt (i := 2) (by simp [keys]) rfl
  refine ⟨fun b => w1.heap.size ≤ b ∨ b = b2, fun b hb => by simp [BlkIn, nth, blkOf, vaddr] at hb; exact .inr hb.symm, ?_⟩
  refine den_ob64 (by simp only [IE.den, nth, vint]; omega) ?_
  refine den_idxD (E := ntcE) (L := L) x i [.int .u8 x.t, .int .u8 x.i, .int .u8 x.p] rfl (by decide) rfl hx ⟨⟨_, rfl⟩, ⟨_, rfl⟩, ⟨_, rfl⟩, trivial⟩ (whole _) (hs.same hw1.base) (fun ad had hin => by have := hs.lt hx (by decide) ad had; omega) (den_norm (by simp only [List.cons_append, List.nil_append]; rfl) ?_)
  refine den_callR (fun w2 l w3 => ∃ v, l = [v] ∧ Mine ntcE 23 w3 v L ∧ ∀ g, v.ownBlock = some g → w2.heap.size ≤ g) (fun w2 h2 => ?_) (fun w2 l w3 h2 hfl hR k3 => ?_)
  · refine (c36 _ L w2 (hs.same h2.base) hm).mono fun v w' ⟨q1, q2, _⟩ => ?_
    obtain ⟨va, vc, hv⟩ := q1.slice
    exact ⟨[v], ⟨⟨_, _, _, hv⟩, trivial⟩, rfl, v, rfl, q1, q2⟩
  obtain ⟨v, rfl, hM, hlo⟩ := hR
  have z12 : w1.heap.size ≤ w2.heap.size := h2.kept.size
  obtain ⟨gg, cc, rfl⟩ : ∃ gg cc, v = .slice (some ⟨gg, 0, none⟩) L.length cc := by
    rcases hM.forms with ⟨_, e⟩ | ⟨gg, cc, cur, tt, e, _⟩
    · rw [e] at hi
      simp at hi
    · exact ⟨gg, cc, e⟩
  have hgg := hlo gg rfl
  have lgg : gg < w3.heap.size := hM.lt rfl
  refine den_norm (by simp only [List.cons_append, List.nil_append]; rfl) ?_
  refine den_callM (fun _ b => b = gg) (fun w4 l w5 => ∃ r, l = [r] ∧ Mine ntcE 23 w5 r (L.eraseIdx i) ∧ r.ownBlock = some gg) (fun w4 h4 b hb hlt => ⟨fun _ => .inl (by omega), fun hlt2 => absurd (show b < w.heap.size from hlt2) (by omega), fun hin => by simp [BlkIn, nth, blkOf, vaddr] at hin; omega, fun hx => (by cases hx)⟩) (fun w4 h4 => ?_) (fun w4 l w5 h4 hfl hR hk5 => ?_)
  · have := c61 gg L.length cc L i w4 (hM.same (shown_same h4)) hi hm
    refine Runs.mono (R := fun v w' => Mine ntcE 23 w' v (L.eraseIdx i) ∧ v.ownBlock = some gg) (M := fun b => b = gg) (by simpa [denL, SV.den, IE.den, nth, vint] using this) (fun v w' ⟨q1, q2⟩ _ => ?_) (fun _ _ h => h)
    obtain ⟨va, vc, hv⟩ := q1.slice
    exact ⟨[v], ⟨⟨_, _, _, hv⟩, trivial⟩, rfl, ⟨v, rfl, q1, q2⟩, trivial⟩
  obtain ⟨r, rfl, hr, hro⟩ := hR
  refine den_norm (by simp only [List.cons_append, List.nil_append]; rfl) (den_leafR _ rfl fun w6 h6 => .inr ⟨i, x, r, hx, hpx, hfirst, rfl, hr.kept h6.kept fun g hg hin => ?_, fun g hg => ?_⟩)
  · rw [hro] at hg
    have e : gg = g := Option.some.inj hg
    simp [BlkIn, nth, blkOf, vaddr] at hin
    omega
  · rw [hro] at hg
    have e : gg = g := Option.some.inj hg
    omega
/-- taken: what is left, the element, whether there is one -/
theorem c57 (s fv : Value) (L : List Int) (p : Int → Bool) (g : Nat) (caps : List Value) (w : World) (hm : L.length ≤ 60000000000) (hs : Arr hE w s L)
    (hf : fv = .func (.func g) #[] caps.toArray) (hg : goFunc Try.prog g = true) (hp : ∀ x w', x ∈ L → Same w w' → Gives Try.prog g ([.int .u16 x] ++ caps) w' (.bool (p x))) :
    GivesR Try.prog 57 [s, fv] w (fun v w' => ((∀ (i : Nat) y, L[i]? = some y → p y = false) ∧ v = .tuple #[s, .int .u16 0, .bool false]) ∨
      ∃ (i : Nat) (x : Int) (r : Value), L[i]? = some x ∧ p x = true ∧ (∀ (j : Nat) y, j < i → L[j]? = some y → p y = false) ∧ v = .tuple #[r, .int .u16 x, .bool true] ∧ Mine hE 37 w' r (L.eraseIdx i) ∧ ∀ g, r.ownBlock = some g → w.heap.size ≤ g) := by
  obtain ⟨a, c, rfl⟩ := hs.slice
  subst hf
  refine givesR mix t57 rfl rfl (ε := [.slice a L.length c, .func (.func g) #[] caps.toArray]) ⟨⟨_, _, _, rfl⟩, rfl, trivial⟩ ?_
  rcases first_of p L with hno | ⟨i, x, hx, hpx, hfirst⟩
  · refine den_call_int (x := -1) (fun w1 h1 => (c63 _ _ L p g caps w1 (by omega) (hs.same h1.base) rfl hg (fun x w' hx hk => hp x w' hx (h1.base.trans hk))).to (by rw [Sx.idxFrom_none (fun _ x => p x) L 0 hno])) rfl (fun w1 w2 h1 h2 => den_norm (by simp only [List.cons_append, List.nil_append]; rfl) (den_split_true rfl ?_))
    exact den_leafR _ rfl fun w4 h4 => .inl ⟨hno, rfl⟩
  have hi : i < L.length := (List.getElem?_eq_some_iff.1 hx).1
  refine den_call_int (x := (i : Int)) (fun w1 h1 => (c63 _ _ L p g caps w1 (by omega) (hs.same h1.base) rfl hg (fun x w' hx hk => hp x w' hx (h1.base.trans hk))).to (by rw [Sx.idxFrom_found (fun _ x => p x) L 0 i x hx hpx hfirst, Nat.zero_add])) rfl (fun w1' w2' h1 h2 => den_norm (by simp only [List.cons_append, List.nil_append]; rfl) (den_splitLt (fun h => ?_) (fun h => ?_)))
  · have h' : (i : Int) < 0 := h
    omega
  intro w1 hw1
  have zw1 : w.heap.size ≤ w1.heap.size := hw1.base.size

  refine ⟨fun b => w1.heap.size ≤ b, fun b hb => by simp [BlkIn, nth, blkOf, vaddr] at hb, ?_⟩
  refine den_ob64 (by simp only [IE.den, nth, vint]; omega) ?_
  refine den_idxD (E := hE) (L := L) x i [.int .u16 x] rfl (by decide) rfl hx ⟨⟨_, rfl⟩, trivial⟩ (whole _) (hs.same hw1.base) (fun ad had hin => by have := hs.lt hx (by decide) ad had; omega) (den_norm (by simp only [List.cons_append, List.nil_append]; rfl) ?_)
  refine den_callR (fun w2 l w3 => ∃ v, l = [v] ∧ Mine hE 37 w3 v L ∧ ∀ g, v.ownBlock = some g → w2.heap.size ≤ g) (fun w2 h2 => ?_) (fun w2 l w3 h2 hfl hR k3 => ?_)
  · refine (c42 _ L w2 (hs.same h2.base) hm).mono fun v w' ⟨q1, q2, _⟩ => ?_
    obtain ⟨va, vc, hv⟩ := q1.slice
    exact ⟨[v], ⟨⟨_, _, _, hv⟩, trivial⟩, rfl, v, rfl, q1, q2⟩
  obtain ⟨v, rfl, hM, hlo⟩ := hR
  have z12 : w1.heap.size ≤ w2.heap.size := h2.kept.size
  obtain ⟨gg, cc, rfl⟩ : ∃ gg cc, v = .slice (some ⟨gg, 0, none⟩) L.length cc := by
    rcases hM.forms with ⟨_, e⟩ | ⟨gg, cc, cur, tt, e, _⟩
    · rw [e] at hi
      simp at hi
    · exact ⟨gg, cc, e⟩
  have hgg := hlo gg rfl
  have lgg : gg < w3.heap.size := hM.lt rfl
  refine den_norm (by simp only [List.cons_append, List.nil_append]; rfl) ?_
  refine den_callM (fun _ b => b = gg) (fun w4 l w5 => ∃ r, l = [r] ∧ Mine hE 37 w5 r (L.eraseIdx i) ∧ r.ownBlock = some gg) (fun w4 h4 b hb hlt => ⟨fun _ => (show w1.heap.size ≤ b by omega), fun hlt2 => absurd (show b < w.heap.size from hlt2) (by omega), fun hin => by simp [BlkIn, nth, blkOf, vaddr] at hin, fun hx => (by cases hx)⟩) (fun w4 h4 => ?_) (fun w4 l w5 h4 hfl hR hk5 => ?_)
  · have := c64 gg L.length cc L i w4 (hM.same (shown_same h4)) hi hm
    refine Runs.mono (R := fun v w' => Mine hE 37 w' v (L.eraseIdx i) ∧ v.ownBlock = some gg) (M := fun b => b = gg) (by simpa [denL, SV.den, IE.den, nth, vint] using this) (fun v w' ⟨q1, q2⟩ _ => ?_) (fun _ _ h => h)
    obtain ⟨va, vc, hv⟩ := q1.slice
    exact ⟨[v], ⟨⟨_, _, _, hv⟩, trivial⟩, rfl, ⟨v, rfl, q1, q2⟩, trivial⟩
  obtain ⟨r, rfl, hr, hro⟩ := hR
  refine den_norm (by simp only [List.cons_append, List.nil_append]; rfl) (den_leafR _ rfl fun w6 h6 => .inr ⟨i, x, r, hx, hpx, hfirst, rfl, hr.kept h6.kept fun g hg hin => ?_, fun g hg => ?_⟩)
  · rw [hro] at hg
    have e : gg = g := Option.some.inj hg
    simp [BlkIn, nth, blkOf, vaddr] at hin
    
  · rw [hro] at hg
    have e : gg = g := Option.some.inj hg
    omega
end Go.Proofs.Ytfjlnfgbfclgbaa
