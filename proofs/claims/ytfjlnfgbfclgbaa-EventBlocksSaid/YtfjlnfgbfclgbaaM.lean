/- slices.DeleteFunc on notices, and the steps of events. No conditions beyond those that each theorem names. -/
import Derived.Test.YtfjlnfgbfclgbaaL
import Derived.Test.YtfjlnfgbfclgbaaTF
set_option maxRecDepth 100000
set_option maxHeartbeats 2000000
set_option linter.unusedVariables false
set_option linter.unusedSimpArgs false
namespace Go.Proofs.Ytfjlnfgbfclgbaa
open Go.Sx

theorem idx_ntc (L : List Ntc) (p : Ntc → Bool) : ((∀ x ∈ L, p x = false) ∧ Sx.idxFrom (fun _ x => p x) 0 L = -1) ∨ ∃ (i : Nat) (x : Ntc), L[i]? = some x ∧ p x = true ∧ (∀ (j : Nat) y, j < i → L[j]? = some y → p y = false) ∧ Sx.idxFrom (fun _ x => p x) 0 L = (i : Int) := by
  rcases first_of p L with hno | ⟨i, x, hx, hpx, hfirst⟩
  · refine .inl ⟨fun x hx => ?_, Sx.idxFrom_none (fun _ x => p x) L 0 hno⟩
    obtain ⟨i, hi⟩ := List.getElem?_of_mem hx
    exact hno i x hi
  · exact .inr ⟨i, x, hx, hpx, hfirst, by rw [Sx.idxFrom_found (fun _ x => p x) L 0 i x hx hpx hfirst, Nat.zero_add]⟩
theorem c35 (s fv : Value) (L : List Ntc) (p : Ntc → Bool) (g : Nat) (caps : List Value) (w : World) (hm : L.length ≤ 60000) (hs : Mine ntcE 23 w s L)
    (hf : fv = .func (.func g) #[] caps.toArray) (hg : goFunc Try.prog g = true) (hp : ∀ x w', x ∈ L → Kept (fun y => s.ownBlock = some y) w w' → Gives Try.prog g ([x.v] ++ caps) w' (.bool (p x))) :
    Runs Try.prog 35 [s, fv] w (fun y => s.ownBlock = some y) (fun v w' => Mine ntcE 23 w' v (L.filter fun x => !p x) ∧ v.ownBlock = s.ownBlock) := by
  obtain ⟨a, c, rfl⟩ := hs.slice
  subst hf
  have hr := runs mix t35 rfl rfl (ε := [.slice a L.length c, .func (.func g) #[] caps.toArray]) (w := w) (M := fun y => (Value.slice a L.length c).ownBlock = some y) (R := fun v w' => Mine ntcE 23 w' v (L.filter fun x => !p x) ∧ v.ownBlock = (Value.slice a L.length c).ownBlock) ⟨⟨_, _, _, rfl⟩, rfl, trivial⟩ trivial (by simp [keys]) (by simp [keys]) (by simp [keys]) ?_
  · exact hr
  have idx := fun (w1 : World) (h1 : Same w w1) => c59 (.slice a L.length c) _ L p g caps w1 (by omega) (hs.same h1).arr rfl hg (fun x w' hx hk => hp x w' hx ((h1.trans hk).mono fun _ _ h => h.elim))
  rcases idx_ntc L p with ⟨hno, e0⟩ | ⟨i, x0, hx0, hpx, hfirst, e0⟩
  · refine den_call_int (x := -1) (fun w1 h1 => (idx w1 (shown_same h1)).to (by rw [e0])) rfl (fun w1 w2 h1 h2 => den_norm (by simp only [List.cons_append, List.nil_append]; rfl) (den_split_true rfl ?_))
    refine den_leafA _ rfl fun w3 h3 => ⟨?_, rfl⟩
    rw [List.filter_eq_self.2 (fun x hx => by rw [hno x hx]; rfl)]
    exact ((hs.same (shown_same h1)).same h2).same (shown_same h3)
  have hi : i < L.length := (List.getElem?_eq_some_iff.1 hx0).1
  obtain ⟨gg, rfl⟩ : ∃ gg, a = some ⟨gg, 0, none⟩ := by
    rcases hs.forms with ⟨e, _⟩ | ⟨gg, cc, cur, tt, e, _⟩
    · have e1 : L.length = 0 := by injection e
      omega
    · exact ⟨gg, by injection e⟩
  refine den_call_int (x := (i : Int)) (fun w1 h1 => (idx w1 (shown_same h1)).to (by rw [e0])) rfl (fun w1 w2 h1 h2 => den_norm (by simp only [List.cons_append, List.nil_append]; rfl) (den_split_false (by simp [BE.den, IE.den, nth, vint]) ?_))
  have M2 := (hs.same (shown_same h1)).same h2
  have hcap : L.length ≤ c := hs.cap
  have keepL : ∀ j, j ≤ L.length → (L.take j).length = j := fun j hj => by rw [List.length_take]; omega
  refine den_ob64 (by simp only [IE.den, nth, vint]; omega) (den_loop (fun ls w' => ∃ (k j : Nat) (N : List Ntc), ls = [.int .i64 (k : Int), .int .i64 (j : Int)] ∧ j ≤ L.length ∧ k < j ∧ N.length = L.length ∧ N.take k = (L.take j).filter (fun x => !p x) ∧ N.drop j = L.drop j ∧ Mine ntcE 23 w' (.slice (some ⟨gg, 0, none⟩) L.length c) N)
    (fun ls _ => L.length - (vint (nth ls 1)).toNat) (fun w3 h3 => ⟨i, i + 1, L, by simp [SV.den, denL, IE.den, BE.den, nth, vint, vbool, vaddr, addO, addr_add], by omega, by omega, rfl, ?_, rfl, M2.same (shown_same h3)⟩) ?_)
  · rw [List.take_add_one, List.filter_append, hx0]
    have : (L.take i).filter (fun x => !p x) = L.take i := List.filter_eq_self.2 fun y hy => by
      obtain ⟨j, hj⟩ := List.getElem?_of_mem hy
      rw [List.getElem?_take] at hj
      split at hj
      · rename_i hji
        rw [hfirst j y hji hj]; rfl
      · cases hj
    rw [this]
    simp [hpx]
  rintro w3 l w4 h3 hfl ⟨k, j, N, rfl, hj, hkj, hN, hN1, hN2, hM⟩ hk4 hfa4
  refine den_norm (by simp only [List.cons_append, List.nil_append]; rfl) (den_splitLt (fun hlt => ?_) (fun hge => ?_))
  rotate_left
  · have hge' : L.length ≤ j := by simpa [IE.den, nth, vint, vlen] using hge
    obtain rfl : j = L.length := by omega
    rw [List.take_length] at hN1
    refine den_start0 fun w5 h5 => ?_
    refine den_slice (some ⟨gg, 0, none⟩) L.length c (some (k : Int)) none none k L.length c 3 u57 st23 (fun ρ h => h.1) (fun ρ h => congrArg some h.2.1) (fun _ _ => rfl) (fun _ _ => rfl) (.inl ⟨rfl, rfl⟩) (.inl ⟨rfl, rfl, rfl⟩) (.inr ⟨rfl, by omega⟩) (fun _ => rfl) (den_norm (by simp only [List.cons_append, List.nil_append]; rfl) ?_)
    have hM5 := (hM.same (shown_same h5)).take (k := k) (by omega)
    rw [hN1] at hM5
    refine den_clear (E := ntcE) (T := 23) rfl u57 zt23 (by kernel_rfl) zoN gg k c L.length (L.filter fun x => !p x) rfl (by omega) hcap (fun w6 h6 => hM5.same (shown_same h6)) ⟨fun hd => (by cases hd), fun _ => rfl, by simp [BlkIn]⟩ (fun w6 w7 h6 ho7 hk7 => ?_)
    refine den_start0 fun w8 h8 => ?_
    refine den_slice (some ⟨gg, 0, none⟩) L.length c none (some (k : Int)) none 0 k c 3 u57 st23 (fun ρ h => h.1) (fun _ _ => rfl) (fun ρ h => congrArg some h.2.1) (fun _ _ => rfl) (.inl ⟨rfl, rfl⟩) (.inr ⟨rfl, by omega⟩) (.inl ⟨rfl, rfl⟩) (fun _ => rfl) (den_norm (by simp only [List.cons_append, List.nil_append]; rfl) ?_)
    rw [sliced0]
    refine den_leaf' fun w9 h9 => (if_neg (by decide)).mpr ⟨_, rfl, ⟨(ho7.same (shown_same h8)).same (shown_same h9), rfl⟩, h9.base⟩
  have hlt' : j < L.length := by simpa [IE.den, nth, vint, vlen] using hlt
  have hx : L[j]? = some (L[j]'hlt') := by simp
  generalize L[j]'hlt' = x at hx
  have hxN : N[j]? = some x := by
    have q1 : (N.drop j)[0]? = (L.drop j)[0]? := by rw [hN2]
    rw [List.getElem?_drop, List.getElem?_drop, Nat.add_zero] at q1
    rw [q1, hx]
  have dropN : N.drop (j + 1) = L.drop (j + 1) := by rw [← List.drop_drop, hN2, List.drop_drop]
  refine den_idx2 (E := ntcE) (L := N) x j x.cells hM.arr rfl (by decide) rfl hxN ⟨⟨_, rfl⟩, ⟨_, rfl⟩, ⟨_, rfl⟩, trivial⟩ (whole _) (fun w5 h5 => (hM.same (shown_same h5)).arr) (fun ad had => by simp [BlkIn, nth, blkOf, vaddr]) (fun w5 h5 => den_norm (by simp only [List.cons_append, List.nil_append]; rfl) ?_)
  have hM5 := hM.same (shown_same h5)
  have k5 : Kept (fun y => (Value.slice (some ⟨gg, 0, none⟩) L.length c).ownBlock = some y) w w5 := h5.base
  refine den_norm (by simp only [List.cons_append, List.nil_append, Ntc.cells]; rfl) (den_blk fun b8 k8 _ _ => den_norm (by simp only [List.cons_append, List.nil_append]; rfl) ?_)
  have z8 : w5.heap.size ≤ b8 := k8
  have lg : gg < w5.heap.size := hM5.lt rfl
  refine den_callF rfl rfl hg (fun _ _ => False) (fun w3 l w4 => l = [.bool (p x)]) (fun _ _ _ h _ => h.elim) (fun w6 h6 => ?_) (fun w6 l w7 h6 hfl hR hk7 => ?_)
  · have := hp x w6 (List.mem_of_getElem? hx) h6.base
    exact ⟨Calls.mono this.run fun e w' ⟨h1, h2⟩ => ⟨_, h1, ⟨[.bool (p x)], ⟨⟨_, rfl⟩, trivial⟩, rfl, rfl⟩, h2⟩⟩
  subst hR
  have hM7 := (hM5.kept h6.kept fun g2 hg2 hx => by cases hg2; simp [BlkIn, nth, blkOf, vaddr] at hx; omega).same (hk7.mono fun _ _ h => h)
  have l8 : b8 < w6.heap.size := h6.lt (i := 8) (by simp [keys]) rfl
  refine den_norm (by simp only [List.cons_append, List.nil_append]; rfl) (den_splitNot (fun h4 => ?_) (fun h4 => ?_))
  · have h4' : p x = false := h4
    obtain ⟨xk, hxk⟩ : ∃ xk, N[k]? = some xk := ⟨N[k]'(by omega), by simp⟩
    refine den_ob (by simp [BE.den, IE.den, nth, vint]) (den_ob (by simp [BE.den, IE.den, nth, vint, vlen]; omega) ?_)
    refine den_storeM (E := ntcE) (T := 23) (.slice (some ⟨gg, 0, none⟩) L.length c) N k xk x x.v x.cells st23 rfl rfl rfl hxk rfl rfl rfl (ntc_one x) (by decide) (by decide) rfl (fun w8 h8 => hM7.same (shown_same h8)) (fun w8 h8 g2 hg2 => ⟨fun hd => (by cases hd), fun _ => hg2, fun hin => by cases hg2; simp [BlkIn, nth, blkOf, vaddr] at hin; omega, fun hx => by cases hx⟩) ⟨_, hM7⟩ (fun w8 w9 h8 hM9 k89 => ?_)
    refine den_ob64 (by simp only [IE.den, nth, vint]; omega) (den_ob64 (by simp only [IE.den, nth, vint]; omega) (den_leaf' fun wa ha => (if_pos rfl).mpr ⟨⟨k + 1, j + 1, N.set k x, by simp [SV.den, denL, IE.den, BE.den, nth, vint, vbool, vaddr, addO, addr_add], by omega, by omega, by simp [hN], ?_, ?_, hM9.same (shown_same ha)⟩, ?_⟩))
    · rw [List.take_add_one, List.take_add_one, List.filter_append, ← hN1, hx, List.take_set_of_le (Nat.le_refl _)]
      congr 1
      rw [List.getElem?_set_self (by omega)]
      simp [h4']
    · rw [List.drop_set_of_lt (by omega), dropN]
    · simp only [denL, SV.den, IE.den, nth, vint]; omega
  · have h4' : p x = true := h4
    refine den_ob64 (by simp only [IE.den, nth, vint]; omega) (den_leaf' fun wa ha => (if_pos rfl).mpr ⟨⟨k, j + 1, N, by simp [SV.den, denL, IE.den, BE.den, nth, vint, vbool, vaddr, addO, addr_add], by omega, by omega, hN, ?_, dropN, hM7.same (shown_same ha)⟩, ?_⟩)
    · rw [hN1, List.take_add_one, List.filter_append, hx]
      simp [h4']
    · simp only [denL, SV.den, IE.den, nth, vint]; omega
end Go.Proofs.Ytfjlnfgbfclgbaa
