/- What the functions that iterate over a pool return, and what the smaller changing ones do. No conditions beyond those that each theorem names. -/
import Derived.Test.YtdinjabnfjoojaaB
set_option maxRecDepth 100000
set_option maxHeartbeats 1000000
set_option linter.unusedVariables false
set_option linter.unusedSimpArgs false
namespace Go.Proofs.Ytdinjabnfjoojaa
open Go.Sx

theorem c17 (p : Value) (L : List Bk) (st : Int) (w : World) (hO : PoolR w p L) (hL : L ≠ []) (hm : L.length ≤ 60000000000) : GivesR Try.prog 17 [p, .int .i64 st] w (fun v w' => SeqAt Try.prog w.heap.size w'.heap.size w' v ((eachF st 0 L).map fun x => (yvals Try.prog [3, 3] x).toArray)) := by
  have hO0 := hO
  obtain ⟨s, ho, hs⟩ := hO
  obtain ⟨a, c, rfl⟩ := hs.slice
  obtain ⟨bo, rfl, hbo⟩ := ho.at_
  refine givesR mix t17 rfl rfl (ε := [pt bo, .int .i64 st]) ⟨⟨_, rfl⟩, ⟨_, rfl⟩, trivial⟩ (den_blk fun b2 k2 _ k20 => den_blk fun b3 k3 _ k30 => den_norm (by simp only [List.cons_append, List.nil_append]; rfl) ?_)
  have z2 : w.heap.size ≤ b2 := k20
  have z3 : w.heap.size ≤ b3 := k30
  refine den_call_bool (b := false) (fun w1 h1 => ?_) rfl fun w1 w2 h1 h2 => den_norm (by simp only [List.cons_append, List.nil_append]; rfl) (den_splitNot (fun _ => ?_) (fun hx => by cases hx))
  · exact c30no (pt bo) L w1 (hO0.same h1.base) hL
  refine den_notnil (i := 0) ho ?_
  refine den_ldp [.slice a L.length c] (.slice a L.length c :: cnV L) ⟨⟨_, _, _, rfl⟩, trivial⟩ (fun m v hv => by cases m with | zero => exact hv | succ m => simp at hv) (fun w1 h1 => ho.same h1.base) (fun _ _ => by simp [BlkIn]) fun w3 h3 => den_norm (by simp only [List.cons_append, List.nil_append]; rfl) ?_
  refine den_callR (fun w l w' => ∃ v, l = [v] ∧ Mine blkE 70 w' v L ∧ ∀ g, v.ownBlock = some g → w.heap.size ≤ g) (fun w1 h1 => ?_) (fun w4 l w5 h4 hf hR hs45 => ?_)
  · refine (c47 _ L w1 (hs.same h1.base) hm).mono fun v w' hv => ?_
    obtain ⟨av, cv, hv'⟩ := hv.1.slice
    exact ⟨[v], ⟨⟨_, _, _, hv'⟩, trivial⟩, rfl, v, rfl, hv.1, hv.2.1⟩
  obtain ⟨v, rfl, hv, hg⟩ := hR
  have z4 : w.heap.size ≤ w4.heap.size := h4.base.size
  have l3 := h4.lt (i := 3) (b := b3) (by simp [keys]) rfl
  have l2 := h4.lt (i := 2) (b := b2) (by simp [keys]) rfl
  refine den_norm (by simp only [List.cons_append, List.nil_append]; rfl) (den_leafR _ rfl fun w6 h6 => ?_)
  have f3 : HasBlk w6 (pt b3) [v] := h6.facts.1
  have f2 : HasBlk w6 (pt b2) [.int .i64 st] := h6.facts.2.1
  have hv6 : Mine blkE 70 w6 v L := hv.kept h6.kept fun g hg' hin => by have := hg g hg'; simp [BlkIn, nth, blkOf, vaddr] at hin; omega
  refine ⟨48, _, fun x => x = b3 ∨ x = b2 ∨ v.ownBlock = some x, by simp [SV.den, denL, IE.den, BE.den, nth, vint, vbool, vaddr, addO, addr_add], by kernel_rfl, seq48 b3 b2 v st L w6 f3 f2 hv6 (by omega), fun x hx => ?_⟩
  have nrec : ∀ {b : Nat} {l : List Value}, HasBlk w6 (pt b) l → ¬ IsRec w6 b := by
    rintro b l ⟨x', ty, e, hh⟩ ⟨o, ho, hr⟩
    cases e
    rw [hh] at ho; cases ho; cases hr
  rcases hx with rfl | rfl | hx
  · have := f3.pts.lt (by simp) _ rfl
    exact ⟨z3, this, this, nrec f3⟩
  · have := f2.pts.lt (by simp) _ rfl
    exact ⟨z2, this, this, nrec f2⟩
  · have := hg x hx
    exact ⟨by omega, hv6.lt hx, hv6.lt hx, hv6.notRec hx⟩

def erAt (L : List Bk) (m : Int) : Int := match L[m.toNat]? with | some x => if m < 0 then 0 else x.er | none => 0
theorem erAt_some {L : List Bk} {j : Nat} {x : Bk} (h : L[j]? = some x) : erAt L j = x.er := by
  have : ¬ ((j : Nat) : Int) < 0 := by omega
  simp [erAt, h, this]
theorem erAt_neg {L : List Bk} {m : Int} (h : m < 0) : erAt L m = 0 := by unfold erAt; split <;> simp [h]
def coldest (s : Int) (L : List Bk) : Int := bst (isSt s) ltE L
theorem c31 (p : Value) (L : List Bk) (st : Int) (w : World) (hO : PoolR w p L) (hL : L ≠ []) (hm : L.length ≤ 60000000000) : Gives Try.prog 31 [p, .int .i64 st] w (.int .i64 (coldest st L)) := by
  refine Runs.gives ?_
  have hO0 := hO
  obtain ⟨s, ho, hs⟩ := hO
  obtain ⟨bo, rfl, hbo⟩ := ho.at_
  have h := runs mix t31 rfl rfl (ε := [pt bo, .int .i64 st]) (w := w) (M := fun _ => False) (R := fun v _ => v = .int .i64 (coldest st L)) ⟨⟨_, rfl⟩, ⟨_, rfl⟩, trivial⟩ trivial (by simp [keys]) (by simp [keys]) (by simp [keys]) ?_
  · simpa [SV.den, denL, IE.den, BE.den, nth, vint, vbool, vaddr, addO, addr_add] using h
  refine den_blk fun b2 k2 _ k20 => den_blk fun b3 k3 _ k30 => den_norm (by simp only [List.cons_append, List.nil_append]; rfl) ?_
  refine den_callR (fun w l w' => ∃ v, l = [v] ∧ SeqAt Try.prog w.heap.size w'.heap.size w' v ((eachF st 0 L).map fun x => (yvals Try.prog [3, 3] x).toArray)) (fun w1 h1 => ?_) (fun w1 l w2 h1 hf hR hs12 => ?_)
  · refine (c17 (pt bo) L st w1 (hO0.same h1.base) hL hm).mono fun v w' hv => ?_
    obtain ⟨g, caps, Ft, rfl, h2⟩ := hv.ex
    exact ⟨[.func (.func g) #[] caps], ⟨rfl, trivial⟩, rfl, _, rfl, hv⟩
  obtain ⟨v, rfl, hv⟩ := hR
  have l2 := h1.lt (i := 2) (b := b2) (by simp [keys]) rfl
  have l3 := h1.lt (i := 3) (b := b3) (by simp [keys]) rfl
  refine den_norm (by simp only [List.cons_append, List.nil_append]; rfl) ?_
  refine den_range (eachF st 0 L) (fun k l _ => ∃ j, j ≤ L.length ∧ cntTo st L j = k ∧ l = [.int .i64 (bstN (isSt st) ltE L j), .int .i64 (erAt L (bstN (isSt st) ltE L j))]) w1.heap.size w2.heap.size ?_ ?_ ?_ (fun _ _ => ⟨0, Nat.zero_le _, by simp [cntTo], by rw [erAt_neg (by simp [bstN])]; rfl⟩) ?_ ?_
  · intro x hx
    obtain ⟨i, hi⟩ := List.getElem?_of_mem hx
    obtain ⟨j, y, _, _, _, rfl⟩ := eachF_inv hi
    exact ⟨⟨_, rfl⟩, ⟨_, rfl⟩, trivial⟩
  · intro b hb
    simp [BlkIn, nth, blkOf, vaddr] at hb
    omega
  · intro w3 h3
    exact hv.kept (shown_same h3) fun b _ _ _ h => h
  · rintro w3 Ft h3 k x hx l hl w0 w' ⟨j, hj, hk, rfl⟩ hq hkp hfa hFt
    obtain ⟨i, y, hy, hys, hci, rfl⟩ := eachF_inv hx
    have hi := (List.getElem?_eq_some_iff.1 hy).1
    have hb : bstN (isSt st) ltE L j = bstN (isSt st) ltE L i := by
      rcases Nat.le_total i j with h | h
      · exact (bstN_same h hj (by omega)).symm
      · exact bstN_same h (by omega) (by omega)
    have hc1 := cntTo_succ (s := st) hy
    rw [if_pos hys] at hc1
    rw [hb]
    have put : ∀ {m e : Int}, bstN (isSt st) ltE L (i + 1) = m → erAt L m = e → ∃ j, j ≤ L.length ∧ cntTo st L j = k + 1 ∧ [Value.int .i64 m, .int .i64 e] = [.int .i64 (bstN (isSt st) ltE L j), .int .i64 (erAt L (bstN (isSt st) ltE L j))] := fun h1 h2 => ⟨i + 1, hi, by omega, by rw [h1, h2]⟩
    refine den_norm (by simp only [List.cons_append, List.nil_append]; rfl) (den_splitLt (fun h4 => ?_) (fun h4 => den_splitLt (fun h5 => ?_) (fun h5 => ?_)))
    · have h4' : bstN (isSt st) ltE L i < 0 := h4
      refine den_leaf_round hFt fun w2 h2 => ?_
      have := put (bstN_first hy hys h4') (erAt_some hy)
      simpa [SV.den, denL, IE.den, BE.den, nth, vint, vbool, vaddr, addO, addr_add] using this
    · have h4' : 0 ≤ bstN (isSt st) ltE L i := h4
      rcases bstN_bounds (isSt st) ltE L i with h8 | ⟨i', z, hij, hi', hz, _⟩
      · omega
      have hc := bstN_cmp hy hys hi' hz (lt := ltE)
      have h5' : y.er < erAt L (bstN (isSt st) ltE L i) := h5
      rw [hi', erAt_some hz] at h5'
      rw [if_pos (by simp [ltE, h5'])] at hc
      refine den_leaf_round hFt fun w2 h2 => ?_
      have := put hc (erAt_some hy)
      simpa [SV.den, denL, IE.den, BE.den, nth, vint, vbool, vaddr, addO, addr_add] using this
    · have h4' : 0 ≤ bstN (isSt st) ltE L i := h4
      rcases bstN_bounds (isSt st) ltE L i with h8 | ⟨i', z, hij, hi', hz, _⟩
      · omega
      have hc := bstN_cmp hy hys hi' hz (lt := ltE)
      have h5' : erAt L (bstN (isSt st) ltE L i) ≤ y.er := h5
      rw [hi', erAt_some hz] at h5'
      rw [if_neg (by simp [ltE]; omega), ← hi'] at hc
      refine den_leaf_round hFt fun w2 h2 => ?_
      have := put hc rfl
      simpa [SV.den, denL, IE.den, BE.den, nth, vint, vbool, vaddr, addO, addr_add] using this
  · rintro w3 h3 l hl w0 w' ⟨j, hj, hk, rfl⟩ hq hkp hfa
    refine den_norm (by simp only [List.cons_append, List.nil_append]; rfl) (den_leafMA _ rfl fun w5 w6 h5 _ => ?_)
    rw [eachF_length] at hk
    have : bstN (isSt st) ltE L j = coldest st L := bstN_same hj (Nat.le_refl _) hk
    simp [SV.den, denL, IE.den, BE.den, nth, vint, vbool, vaddr, addO, addr_add, this]

theorem c20 (p : Value) (L : List Bk) (w : World) (hO : PoolR w p L) (hL : L ≠ []) (hm : L.length ≤ 60000000000) : Gives Try.prog 20 [p] w (.tuple #[.int .i64 (if coldest 3 L < 0 then 0 else coldest 3 L), .bool (decide (0 ≤ coldest 3 L))]) := by
  obtain ⟨s, ho, hs⟩ := id hO
  obtain ⟨bo, rfl, hbo⟩ := ho.at_
  refine gives mix t20 rfl rfl (ε := [pt bo]) ⟨⟨_, rfl⟩, trivial⟩ ?_
  refine den_call_bool (b := false) (fun w1 h1 => c30no (pt bo) L w1 (hO.same h1.base) hL) rfl fun w1 w2 h1 h2 => den_norm (by simp only [List.cons_append, List.nil_append]; rfl) (den_split_false rfl ?_)
  refine den_call_int (x := coldest 3 L) (fun w1 h1 => c31 (pt bo) L 3 w1 (hO.same h1.base) hL hm) rfl fun w3 w4 h3 h4 => den_norm (by simp only [List.cons_append, List.nil_append]; rfl) (den_leaf ?_)
  simp [SV.den, denL, IE.den, BE.den, nth, vint, vbool, vaddr, addO, addr_add]

/-- Spread() -/
def lo (L : List Bk) : Int := erAt L (bst good ltE L)
def hi (L : List Bk) : Int := erAt L (bst good gtE L)
theorem bst_none {α : Type} {p : α → Bool} {lt : α → α → Bool} {L : List α} : ∀ {n : Nat}, n ≤ L.length → (bstN p lt L n < 0 ↔ ∀ (i : Nat) x, i < n → L[i]? = some x → p x = false)
  | 0, _ => by simp [bstN]
  | n + 1, hn => by
    have ih := bst_none (p := p) (lt := lt) (L := L) (n := n) (by omega)
    have hx : L[n]? = some (L[n]'(by omega)) := by simp
    generalize L[n]'(by omega) = x at hx
    cases hpx : p x with
    | false =>
      rw [bstN_no hx hpx, ih]
      constructor
      · intro h i y hi hy
        by_cases hin : i = n
        · subst hin; rw [hx] at hy; cases hy; exact hpx
        · exact h i y (by omega) hy
      · intro h i y hi hy; exact h i y (by omega) hy
    | true =>
      constructor
      · intro h
        by_cases hneg : bstN p lt L n < 0
        · rw [bstN_first hx hpx hneg] at h; omega
        · rcases bstN_bounds p lt L n with h8 | ⟨i, y, _, hi, hy, _⟩
          · omega
          · rw [bstN_cmp hx hpx hi hy] at h; split at h <;> omega
      · intro h; have := h n x (by omega) hx; rw [hpx] at this; cases this
theorem c13 (p : Value) (L : List Bk) (w : World) (hO : PoolR w p L) (hL : L ≠ []) (hm : L.length ≤ 60000000000) : Gives Try.prog 13 [p] w (.tuple #[.int .i64 (lo L), .int .i64 (hi L)]) := by
  obtain ⟨s, ho, hs⟩ := id hO
  obtain ⟨a, c, rfl⟩ := hs.slice
  obtain ⟨bo, rfl, hbo⟩ := ho.at_
  have ld : ∀ (m : Nat) v, [Value.slice a L.length c][m]? = some v → (Value.slice a L.length c :: cnV L)[0 + m]? = some v := fun m v hv => by cases m with | zero => exact hv | succ m => simp at hv
  refine gives mix t13 rfl rfl (ε := [pt bo]) ⟨⟨_, rfl⟩, trivial⟩ ?_
  refine den_call_bool (b := false) (fun w1 h1 => c30no (pt bo) L w1 (hO.same h1.base) hL) rfl fun w1 w2 h1 h2 => den_norm (by simp only [List.cons_append, List.nil_append]; rfl) (den_split_false rfl (den_notnil (i := 0) ho ?_))
  refine den_ldp [.slice a L.length c] (.slice a L.length c :: cnV L) ⟨⟨_, _, _, rfl⟩, trivial⟩ ld (fun w1 h1 => ho.same h1.base) (fun _ _ => by simp [BlkIn]) fun w3 h3 => den_norm (by simp only [List.cons_append, List.nil_append]; rfl) ?_
  refine den_call_int (x := bst good ltE L) (fun w1 h1 => c35 _ L good ltE 36 37 w1 (by omega) (hs.same h1.base) go36 go37 c36 c37) rfl fun w4 w5 h4 h5 => den_norm (by simp only [List.cons_append, List.nil_append]; rfl) ?_
  refine den_ldp [.slice a L.length c] (.slice a L.length c :: cnV L) ⟨⟨_, _, _, rfl⟩, trivial⟩ ld (fun w1 h1 => ho.same h1.base) (fun _ _ => by simp [BlkIn]) fun w6 h6 => den_norm (by simp only [List.cons_append, List.nil_append]; rfl) ?_
  refine den_call_int (x := bst good gtE L) (fun w1 h1 => c35 _ L good gtE 36 38 w1 (by omega) (hs.same h1.base) go36 go38 c36 c38) rfl fun w7 w8 h7 h8 => den_norm (by simp only [List.cons_append, List.nil_append]; rfl) (den_splitLt (fun h9 => den_leaf ?_) (fun h9 => ?_))
  · have h9' : bst good ltE L < 0 := h9
    have h9'' : bst good gtE L < 0 := (bst_none (Nat.le_refl _)).2 ((bst_none (Nat.le_refl _)).1 h9')
    simp [SV.den, denL, IE.den, BE.den, nth, vint, vbool, vaddr, addO, addr_add, lo, hi, erAt_neg h9', erAt_neg h9'']
  · have h9' : ¬ bst good ltE L < 0 := by have : 0 ≤ bst good ltE L := h9; omega
    have h9'' : ¬ bst good gtE L < 0 := fun h => h9' ((bst_none (Nat.le_refl _)).2 ((bst_none (Nat.le_refl _)).1 h))
    rcases bstN_bounds good ltE L L.length with h | ⟨i, x, _, hi1, hx, _⟩
    · exact absurd (show bst good ltE L < 0 by rw [show bst good ltE L = -1 from h]; decide) h9'
    rcases bstN_bounds good gtE L L.length with h | ⟨j, y, _, hj1, hy, _⟩
    · exact absurd (show bst good gtE L < 0 by rw [show bst good gtE L = -1 from h]; decide) h9''
    have ei : bst good ltE L = i := hi1
    have ej : bst good gtE L = j := hj1
    refine den_start1 fun w9 h10 => ?_
    refine den_ldpD [.slice a L.length c] (.slice a L.length c :: cnV L) ⟨⟨_, _, _, rfl⟩, trivial⟩ ld (ho.same h10.base) (fun _ _ => by simp [BlkIn]) (den_norm (by simp only [List.cons_append, List.nil_append]; rfl) ?_)
    refine den_idxD (E := blkE) (L := L) x i [.int .i64 x.er] rfl (by decide) ei hx ⟨⟨_, rfl⟩, trivial⟩ (fun m v hv => by cases m with | zero => exact hv | succ m => simp at hv) (hs.same h10.base) (fun _ _ => by simp [BlkIn]) (den_norm (by simp only [List.cons_append, List.nil_append]; rfl) ?_)
    refine den_ldpD [.slice a L.length c] (.slice a L.length c :: cnV L) ⟨⟨_, _, _, rfl⟩, trivial⟩ ld (ho.same h10.base) (fun _ _ => by simp [BlkIn]) (den_norm (by simp only [List.cons_append, List.nil_append]; rfl) ?_)
    refine den_idxD (E := blkE) (L := L) y j [.int .i64 y.er] rfl (by decide) ej hy ⟨⟨_, rfl⟩, trivial⟩ (fun m v hv => by cases m with | zero => exact hv | succ m => simp at hv) (hs.same h10.base) (fun _ _ => by simp [BlkIn]) (den_norm (by simp only [List.cons_append, List.nil_append]; rfl) (den_leaf ?_))
    simp [SV.den, denL, IE.den, BE.den, nth, vint, vbool, vaddr, addO, addr_add, lo, hi, ei, ej, erAt_some hx, erAt_some hy]

theorem c19 (p : Value) (L : List Bk) (w : World) (hO : PoolR w p L) (hL : L ≠ []) (hm : L.length ≤ 60000000000) :
    GivesR Try.prog 19 [p] w (fun v w' => ∃ b s, v = pt b ∧ PoolAt w' b s L ∧ w.heap.size ≤ b ∧ ∀ g, s.ownBlock = some g → w.heap.size ≤ g) := by
  obtain ⟨s, ho, hs⟩ := id hO
  obtain ⟨a, c, rfl⟩ := hs.slice
  obtain ⟨bo, rfl, hbo⟩ := ho.at_
  refine givesR mix t19 rfl rfl (ε := [pt bo]) ⟨⟨_, rfl⟩, trivial⟩ ?_
  refine den_call_bool (b := false) (fun w1 h1 => c30no (pt bo) L w1 (hO.same h1.base) hL) rfl fun w1 w2 h1 h2 => den_norm (by simp only [List.cons_append, List.nil_append]; rfl) (den_split_false rfl ?_)
  refine den_start1 fun w3 h3 => den_notnil (i := 0) ho ?_
  refine den_ldpD [.slice a L.length c] (.slice a L.length c :: cnV L) ⟨⟨_, _, _, rfl⟩, trivial⟩ (fun m v hv => by cases m with | zero => exact hv | succ m => simp at hv) (ho.same h3.base) (fun _ _ => by simp [BlkIn]) (den_norm (by simp only [List.cons_append, List.nil_append]; rfl) ?_)
  refine den_ldpD (cnV L) (.slice a L.length c :: cnV L) ⟨⟨_, rfl⟩, ⟨_, rfl⟩, ⟨_, rfl⟩, ⟨_, rfl⟩, ⟨_, rfl⟩, trivial⟩ (fun m v hv => by rw [Nat.add_comm, List.getElem?_cons_succ]; exact hv) (ho.same h3.base) (fun _ _ => by simp [BlkIn]) (den_norm (by simp only [List.cons_append, List.nil_append, cnV]; rfl) ?_)
  refine den_callR (fun w l w' => ∃ v, l = [v] ∧ Mine blkE 70 w' v L ∧ ∀ g, v.ownBlock = some g → w.heap.size ≤ g) (fun w1 h1 => ?_) (fun w4 l w5 h4 hf hR hs45 => ?_)
  · refine (c47 _ L w1 (hs.same h1.base) hm).mono fun v w' hv => ?_
    obtain ⟨av, cv, hv'⟩ := hv.1.slice
    exact ⟨[v], ⟨⟨_, _, _, hv'⟩, trivial⟩, rfl, v, rfl, hv.1, hv.2.1⟩
  obtain ⟨v, rfl, hv, hg⟩ := hR
  have z4 : w.heap.size ≤ w4.heap.size := h4.base.size
  refine den_norm (by simp only [List.cons_append, List.nil_append]; rfl) (den_blk fun b9 k9 _ k90 => den_norm (by simp only [List.cons_append, List.nil_append]; rfl) (den_leafR _ rfl fun w6 h6 => ?_))
  refine ⟨b9, v, by simp [SV.den, denL, IE.den, BE.den, nth, vint, vbool, vaddr, addO, addr_add], ⟨h6.facts.1, hv.same (shown_same h6), fun e => ?_⟩, k90, fun g hg' => by have := hg g hg'; omega⟩
  have := hv.lt e
  omega
end Go.Proofs.Ytdinjabnfjoojaa
