/- What the rest of the specification's functions, and both sides' New, return. No conditions beyond those that each theorem names. -/
import Derived.Test.YtdinjabnfjoojaaF
set_option maxRecDepth 100000
set_option maxHeartbeats 1000000
set_option linter.unusedVariables false
set_option linter.unusedSimpArgs false
namespace Go.Proofs.Ytdinjabnfjoojaa
open Go.Sx

theorem bst_neg_iff {L : List Bk} {n : Nat} (hn : n ≤ L.length) : bstN good ltE L n < 0 ↔ bstN good gtE L n < 0 := (bst_none hn).trans (bst_none hn).symm
def sprI (L : List Bk) (j : Nat) : List Value := [.int .i64 j, .int .i64 (erAt L (bstN good ltE L j)), .int .i64 (erAt L (bstN good gtE L j)), .bool (decide (0 ≤ bstN good ltE L j))]
theorem c46 (t : Value) (L : List Bk) (w : World) (ht : Arr refE w t L) (hm : L.length < 4611686018427387904) : Gives Try.prog 46 [t] w (.tuple #[.int .i64 (lo L), .int .i64 (hi L)]) := by
  obtain ⟨a, c, rfl⟩ := ht.slice
  refine gives mix t46 rfl rfl (ε := [.slice a L.length c]) ⟨⟨_, _, _, rfl⟩, trivial⟩ ?_
  refine den_loop (fun ls _ => ∃ j : Nat, ls = sprI L j ∧ j ≤ L.length) (fun ls _ => L.length - (vint (nth ls 0)).toNat) (fun w1 h1 => ⟨0, by rw [sprI, erAt_neg (by simp [bstN]), erAt_neg (by simp [bstN])]; rfl, Nat.zero_le _⟩) ?_
  rintro w1 l w2 h1 hf ⟨j, rfl, hj⟩ hk hfa
  refine den_norm (by simp only [sprI, List.cons_append, List.nil_append]; rfl) (den_splitLt (fun h => ?_) (fun h => ?_))
  · have hlt' : j < L.length := by simpa [IE.den, nth, vint, vlen] using h
    have hx : L[j]? = some L[j] := by simp [hlt']
    generalize L[j] = x at hx
    have next : ∀ (a1 b1 : Int) (any : Bool), erAt L (bstN good ltE L (j + 1)) = a1 → erAt L (bstN good gtE L (j + 1)) = b1 → decide (0 ≤ bstN good ltE L (j + 1)) = any →
        ∀ {ε : List Value} {t : List Nat} {fs : Facts} {G : Ctx} {wx ws : World} {X : Nat → Prop} {vs : List SV} {Λ : Nat → List Value → World → Prop}, denL ε vs = [.int .i64 ((j : Int) + 1), .int .i64 a1, .int .i64 b1, .bool any] →
        (VC.leaf 1 vs t fs).den G (fun j' vs' w'' => if j' = 1 then (∃ j : Nat, vs' = sprI L j ∧ j ≤ L.length) ∧ L.length - (vint (nth vs' 0)).toNat < L.length - (vint (nth (sprI L j) 0)).toNat else Λ j' vs' w'') ε wx ws X := by
      intro a1 b1 any e1 e2 e3 ε t fs G wx ws X vs Λ hv
      refine den_leaf' fun w _ => (if_pos rfl).mpr ⟨⟨j + 1, by rw [hv, sprI, e1, e2, e3]; simp, by omega⟩, ?_⟩
      rw [hv]
      simp only [sprI, nth, vint]
      omega
    refine den_idx2 (E := refE) (L := L) x j [.int .i64 x.st] ht rfl (by decide) rfl hx ⟨⟨_, rfl⟩, trivial⟩ head1 (fun w h => ht.same h.base) (fun _ _ => by simp [BlkIn]) (fun w3 h3 => den_norm (by simp only [List.cons_append, List.nil_append]; rfl) (den_splitEq (fun e => ?_) (fun e => ?_)))
    · have e' : x.st = 4 := e
      have hg : good x = false := by simp [good, e']
      exact den_ob64 (by simp only [IE.den, nth, vint]; omega) (next _ _ _ (by rw [bstN_no hx hg]; rfl) (by rw [bstN_no hx hg]; rfl) (by rw [bstN_no hx hg]; rfl) rfl)
    have e' : ¬ x.st = 4 := e
    have hg : good x = true := by simp [good, e']
    refine den_obLe (show (0 : Int) ≤ (j : Int) by omega) (den_obLt (show (j : Int) < (L.length : Int) by omega) ?_)
    refine den_ldi (E := refE) (L := L) x j [.int .i64 x.er] rfl (by decide) rfl hx ⟨⟨_, rfl⟩, trivial⟩ head2 (fun w h => ht.same h.base) (fun _ _ => by simp [BlkIn]) (fun w4 h4 => den_norm (by simp only [List.cons_append, List.nil_append]; rfl) (den_splitNot (fun h5 => ?_) (fun h5 => ?_)))
    · have n1 : bstN good ltE L j < 0 := by have h5' : decide (0 ≤ bstN good ltE L j) = false := h5
                                            have := of_decide_eq_false h5'
                                            omega
      have n2 := (bst_neg_iff hj).1 n1
      have f1 := bstN_first (lt := ltE) hx hg n1
      have f2 := bstN_first (lt := gtE) hx hg n2
      exact den_ob64 (by simp only [IE.den, nth, vint]; omega) (next _ _ _ (by rw [f1, erAt_some hx]; rfl) (by rw [f2, erAt_some hx]; rfl) (by rw [f1]; simp; rfl) rfl)
    · have n1 : 0 ≤ bstN good ltE L j := by have h5' : decide (0 ≤ bstN good ltE L j) = true := h5
                                            exact of_decide_eq_true h5'
      have n2 : ¬ bstN good gtE L j < 0 := fun h => by have := (bst_neg_iff hj).2 h; omega
      rcases bstN_bounds good ltE L j with h8 | ⟨i1, y1, _, hi1, hy1, _⟩
      · omega
      rcases bstN_bounds good gtE L j with h8 | ⟨i2, y2, _, hi2, hy2, _⟩
      · omega
      have c1 := bstN_cmp hx hg hi1 hy1 (lt := ltE)
      have c2 := bstN_cmp hx hg hi2 hy2 (lt := gtE)
      have a1 : erAt L (bstN good ltE L j) = y1.er := by rw [hi1, erAt_some hy1]
      have a2 : erAt L (bstN good gtE L j) = y2.er := by rw [hi2, erAt_some hy2]
      refine den_splitLt (fun h6 => den_splitLt (fun h7 => ?_) (fun h7 => ?_)) (fun h6 => den_splitLt (fun h7 => ?_) (fun h7 => ?_))
      all_goals
        simp only [IE.den, nth, vint, a1, a2] at h6 h7
      · rw [if_pos (by simp [ltE, h6])] at c1
        rw [if_pos (by simp [gtE, h7])] at c2
        exact den_ob64 (by simp only [IE.den, nth, vint]; omega) (next _ _ _ (by rw [c1, erAt_some hx]; rfl) (by rw [c2, erAt_some hx]; rfl) (by rw [c1]; simp; rfl) rfl)
      · rw [if_pos (by simp [ltE, h6])] at c1
        rw [if_neg (by simp [gtE]; omega), ← hi2] at c2
        exact den_ob64 (by simp only [IE.den, nth, vint]; omega) (next _ _ _ (by rw [c1, erAt_some hx]; rfl) (by rw [c2]; rfl) (by rw [c1]; simp; rfl) rfl)
      · rw [if_neg (by simp [ltE]; omega), ← hi1] at c1
        rw [if_pos (by simp [gtE, h7])] at c2
        exact den_ob64 (by simp only [IE.den, nth, vint]; omega) (next _ _ _ (by rw [c1]; rfl) (by rw [c2, erAt_some hx]; rfl) (by rw [c1]; exact decide_eq_true n1) rfl)
      · rw [if_neg (by simp [ltE]; omega), ← hi1] at c1
        rw [if_neg (by simp [gtE]; omega), ← hi2] at c2
        exact den_ob64 (by simp only [IE.den, nth, vint]; omega) (next _ _ _ (by rw [c1]; rfl) (by rw [c2]; rfl) (by rw [c1]; exact decide_eq_true n1) rfl)
  · have hge : L.length ≤ j := by simpa [IE.den, nth, vint, vlen] using h
    obtain rfl : j = L.length := by omega
    exact den_leaf' fun w3 h3 => (if_neg (by decide)).mpr ⟨rfl, h3.base⟩

/-- the places of the blocks in a state -/
def ofN (st : Int) (L : List Bk) : Nat → List Int
  | 0 => []
  | n + 1 => match L[n]? with
    | some x => if isSt st x then ofN st L n ++ [(n : Int)] else ofN st L n
    | none => ofN st L n
theorem ofN_length {st : Int} {L : List Bk} : ∀ {n : Nat}, n ≤ L.length → (ofN st L n).length = cntTo st L n
  | 0, _ => by simp [ofN, cntTo]
  | n + 1, hn => by
    have hx : L[n]? = some (L[n]'(by omega)) := by simp
    generalize L[n]'(by omega) = x at hx
    have ih := ofN_length (st := st) (L := L) (n := n) (by omega)
    rw [cntTo_succ hx, ← ih]
    simp only [ofN, hx]
    cases isSt st x <;> simp
theorem ofN_get {st : Int} {L : List Bk} : ∀ {n j : Nat} {x : Bk}, n ≤ L.length → j < n → L[j]? = some x → isSt st x = true → (ofN st L n)[cntTo st L j]? = some (j : Int)
  | 0, j, x, _, h, _, _ => by omega
  | n + 1, j, x, hn, hj, hx, hs => by
    have hy : L[n]? = some (L[n]'(by omega)) := by simp
    generalize L[n]'(by omega) = y at hy
    have hl := ofN_length (st := st) (L := L) (n := n) (by omega)
    by_cases h : j = n
    · subst h
      rw [hx] at hy
      cases hy
      simp only [ofN, hx, if_pos hs]
      rw [← hl]
      simp
    · have ih := ofN_get (st := st) (L := L) (n := n) (j := j) (by omega) (by omega) hx hs
      simp only [ofN, hy]
      split
      · rw [List.getElem?_append_left (List.getElem?_eq_some_iff.1 ih).1]
        exact ih
      · exact ih
theorem info3 : Try.prog.info? 3 = some Try.t3 := by kernel_rfl
theorem zero3' : Try.t3.zero = some (.int .i64 0) := by kernel_rfl
theorem bytes3 : Try.t3.bytes ≤ 1000 := by decide +kernel
theorem underlying23 : Try.prog.underlying 23 = some (.slice 3) := by kernel_rfl
theorem oneI (x : Int) : ∀ u ∈ intE.enc x, u.oneCell' = true := by intro u hu; simp [intE] at hu; subst hu; rfl
theorem c18 (t : Value) (L : List Bk) (st : Int) (w : World) (ht : Arr refE w t L) (hm : L.length ≤ 60000000000) :
    GivesR Try.prog 18 [t, .int .i64 st] w (fun v w' => Mine intE 3 w' v (ofN st L L.length) ∧ ∀ g, v.ownBlock = some g → w.heap.size ≤ g) := by
  obtain ⟨a, c, rfl⟩ := ht.slice
  refine givesR mix t18 rfl rfl (ε := [.slice a L.length c, .int .i64 st]) ⟨⟨_, _, _, rfl⟩, ⟨_, rfl⟩, trivial⟩ ?_
  refine den_loop (fun ls w' => ∃ (j : Nat) (s : Value), ls = [.int .i64 j, s] ∧ j ≤ L.length ∧ Mine intE 3 w' s (ofN st L j) ∧ ∀ g, s.ownBlock = some g → w.heap.size ≤ g) (fun ls _ => L.length - (vint (nth ls 0)).toNat) (fun w1 h1 => ⟨0, .slice none 0 0, rfl, Nat.zero_le _, Mine.nil, fun g hg => by cases hg⟩) ?_
  rintro w1 l w2 h1 hf ⟨j, s, rfl, hj, hs, hown⟩ hk hfa
  refine den_norm (by simp only [List.cons_append, List.nil_append]; rfl) (den_splitLt (fun h => ?_) (fun h => ?_))
  · have hlt' : j < L.length := by simpa [IE.den, nth, vint, vlen] using h
    have hx : L[j]? = some L[j] := by simp [hlt']
    generalize L[j] = x at hx
    have hlen : (ofN st L j).length ≤ j := by
      rw [ofN_length (by omega)]
      unfold cntTo
      exact Nat.le_trans (List.length_filter_le _ _) (by simp; omega)
    refine den_idx2 (E := refE) (L := L) x j [.int .i64 x.st] (ht.same hk) rfl (by decide) rfl hx ⟨⟨_, rfl⟩, trivial⟩ head1 (fun w h => ht.same h.base) (fun _ _ => by simp [BlkIn]) (fun w3 h3 => den_norm (by simp only [List.cons_append, List.nil_append]; rfl) (den_splitEq (fun e => ?_) (fun e => ?_)))
    · have e' : isSt st x = true := by simpa [IE.den, nth, vint, isSt] using e
      have hs3 := hs.same (shown_same h3)
      refine den_blk fun b5 k5 _ k50 => den_norm (by simp only [List.cons_append, List.nil_append]; rfl) ?_
      have z5 : w.heap.size ≤ b5 := k50
      refine den_push (E := intE) (T := 3) rfl underlying23 info3 zero3' (by kernel_rfl) (by kernel_rfl) (by decide) bytes3 oneI s (ofN st L j) (j : Int) rfl rfl rfl (by omega) (fun g hg _ => .inl (hown g hg)) (by simp [keys]) (fun w4 h4 => hs3.same (shown_same h4)) (fun g hg _ hin => ?_) (fun hd => by cases hd) (fun _ => rfl) ?_
      · have := hs3.lt hg
        simp [BlkIn, nth, blkOf, vaddr] at hin
        omega
      · intro w4 s2 w5 h4 ho hk5 hfr hap
        have z4 : w.heap.size ≤ w4.heap.size := h4.base.size
        refine den_norm (by simp only [List.cons_append, List.nil_append]; rfl) (den_ob64 (by simp only [IE.den, nth, vint]; omega) (den_leaf' fun w6 h6 => (if_pos rfl).mpr ⟨⟨j + 1, s2, by simp [SV.den, denL, IE.den, BE.den, nth, vint, vbool, vaddr, addO, addr_add], by omega, ?_, fun g hg => ?_⟩, by simp [SV.den, denL, IE.den, BE.den, nth, vint, vbool, vaddr, addO, addr_add]; omega⟩))
        · have : ofN st L (j + 1) = ofN st L j ++ [(j : Int)] := by simp only [ofN, hx, if_pos e']
          rw [this]
          exact ho.same (shown_same h6)
        · rcases hfr with ⟨e3, _⟩ | ⟨b', e3, hle, _⟩
          · rw [e3] at hg; exact hown g hg
          · rw [e3] at hg; cases hg; omega
    · have e' : isSt st x = false := by simpa [IE.den, nth, vint, isSt] using e
      have hs3 := hs.same (shown_same h3)
      refine den_ob64 (by simp only [IE.den, nth, vint]; omega) (den_leaf' fun w6 h6 => (if_pos rfl).mpr ⟨⟨j + 1, s, by simp [SV.den, denL, IE.den, BE.den, nth, vint, vbool, vaddr, addO, addr_add], by omega, ?_, hown⟩, by simp [SV.den, denL, IE.den, BE.den, nth, vint, vbool, vaddr, addO, addr_add]; omega⟩)
      have : ofN st L (j + 1) = ofN st L j := by simp [ofN, hx, e']
      rw [this]
      exact hs3.same (shown_same h6)
  · have hge : L.length ≤ j := by simpa [IE.den, nth, vint, vlen] using h
    obtain rfl : j = L.length := by omega
    exact den_leaf' fun w3 h3 => (if_neg (by decide)).mpr ⟨s, rfl, ⟨hs.same (shown_same h3), hown⟩, h3.base⟩
end Go.Proofs.Ytdinjabnfjoojaa
