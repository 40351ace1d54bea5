/- What the functions that read a pool return. No conditions beyond those that each theorem names. -/
import Derived.Test.YtdinjabnfjoojaaA
set_option maxRecDepth 100000
set_option linter.unusedVariables false
set_option linter.unusedSimpArgs false
namespace Go.Proofs.Ytdinjabnfjoojaa
open Go.Sx

/-- how many blocks are in a state -/
def cn (L : List Bk) (s : Int) : Int := ((L.filter (isSt s)).length : Nat)
def cnV (L : List Bk) : List Value := [.int .i64 0, .int .i64 (cn L 1), .int .i64 (cn L 2), .int .i64 (cn L 3), .int .i64 (cn L 4)]
/-- the pointer leads to a pool of these blocks -/
def PoolR (w : World) (p : Value) (L : List Bk) : Prop := ∃ s, PtsTo w p (s :: cnV L) ∧ Arr blkE w s L
theorem PoolR.same {w w' : World} {p : Value} {L : List Bk} (h : PoolR w p L) (hk : Same w w') : PoolR w' p L := by
  obtain ⟨s, h1, h2⟩ := h
  exact ⟨s, h1.same hk, h2.same hk⟩
/-- the block b holds a pool, whose slice s holds these blocks in a block of its own -/
structure PoolAt (w : World) (b : Nat) (s : Value) (L : List Bk) : Prop where
  blk : HasBlk w (pt b) (s :: cnV L)
  mine : Mine blkE 70 w s L
  apart : s.ownBlock ≠ some b
theorem PoolAt.r {w : World} {b : Nat} {s : Value} {L : List Bk} (h : PoolAt w b s L) : PoolR w (pt b) L := ⟨s, h.blk.pts, h.mine.arr⟩
theorem PoolAt.lt {w : World} {b : Nat} {s : Value} {L : List Bk} (h : PoolAt w b s L) : b < w.heap.size := by
  obtain ⟨b', hb', hlt⟩ := h.blk.lt
  cases hb'
  exact hlt
theorem HasBlk.kept' {w w' : World} {b : Nat} {l : List Value} {M : Nat → Prop} (h : HasBlk w (pt b) l) (hk : Kept M w w') (hM : ¬ M b) : HasBlk w' (pt b) l := by
  obtain ⟨b', ty, hb', hh⟩ := h
  cases hb'
  exact ⟨b, ty, rfl, (hk.block b (Array.getElem?_eq_some_iff.1 hh).1 hM).trans hh⟩
theorem PoolAt.kept {w w' : World} {b : Nat} {s : Value} {L : List Bk} {M : Nat → Prop} (h : PoolAt w b s L) (hk : Kept M w w') (hb : ¬ M b) (hs : ∀ g, s.ownBlock = some g → ¬ M g) : PoolAt w' b s L :=
  ⟨HasBlk.kept' h.blk hk hb, h.mine.kept hk hs, h.apart⟩
theorem PoolAt.same {w w' : World} {b : Nat} {s : Value} {L : List Bk} (h : PoolAt w b s L) (hk : Same w w') : PoolAt w' b s L := h.kept hk (fun h => h) (fun _ _ h => h)

theorem c30 (p : Value) (L : List Bk) (w : World) (h : PoolR w p L) : Gives Try.prog 30 [p] w (.bool (decide (L.length = 0))) := by
  obtain ⟨s, ho, hs⟩ := h
  obtain ⟨a, c, rfl⟩ := hs.slice
  obtain ⟨b, rfl, hc⟩ := ho.at_
  refine gives mix t30 rfl rfl (ε := [pt b]) ⟨⟨_, rfl⟩, trivial⟩ (den_split_false rfl ?_)
  refine den_ldp [.slice a L.length c] (.slice a L.length c :: cnV L) ⟨⟨_, _, _, rfl⟩, trivial⟩ (fun m v hv => by cases m with | zero => exact hv | succ m => simp at hv) (fun w1 h1 => ho.same h1.base) (fun _ _ => by simp [BlkIn]) fun w1 h1 => den_norm (by simp only [List.cons_append, List.nil_append]; rfl) (den_leaf ?_)
  simp [SV.den, denL, IE.den, BE.den, nth, vint, vbool, vaddr, addO, addr_add, vlen, eqB_eq]
theorem c30no (p : Value) (L : List Bk) (w : World) (h : PoolR w p L) (hL : L ≠ []) : Gives Try.prog 30 [p] w (.bool false) := by
  have := c30 p L w h
  have e : L.length ≠ 0 := fun e => hL (List.eq_nil_of_length_eq_zero e)
  rwa [decide_eq_false e] at this
def hasB (L : List Bk) (i : Int) : Bool := decide (0 ≤ i) && decide (i < L.length)
theorem c50 (p : Value) (L : List Bk) (i : Int) (w : World) (h : PoolR w p L) : Gives Try.prog 50 [p, .int .i64 i] w (.bool (hasB L i)) := by
  obtain ⟨s, ho, hs⟩ := h
  obtain ⟨a, c, rfl⟩ := hs.slice
  obtain ⟨b, rfl, hc⟩ := ho.at_
  refine gives mix t50 rfl rfl (ε := [pt b, .int .i64 i]) ⟨⟨_, rfl⟩, ⟨_, rfl⟩, trivial⟩ (den_splitLe (fun h => ?_) (fun h => den_leaf ?_))
  · have h' : 0 ≤ i := h
    refine den_notnil (i := 0) ho ?_
    refine den_ldp [.slice a L.length c] (.slice a L.length c :: cnV L) ⟨⟨_, _, _, rfl⟩, trivial⟩ (fun m v hv => by cases m with | zero => exact hv | succ m => simp at hv) (fun w1 h1 => ho.same h1.base) (fun _ _ => by simp [BlkIn]) fun w1 h1 => den_norm (by simp only [List.cons_append, List.nil_append]; rfl) (den_leaf ?_)
    simp [SV.den, denL, IE.den, BE.den, nth, vint, vbool, vaddr, addO, addr_add, vlen, hasB, h']
  · have h' : ¬ 0 ≤ i := by have : i < 0 := h; omega
    simp [SV.den, denL, IE.den, BE.den, nth, vint, vbool, vaddr, addO, addr_add, hasB, h']
theorem hasB_some {L : List Bk} {i : Int} (h : hasB L i = true) : ∃ (j : Nat) (x : Bk), i = j ∧ L[j]? = some x := by
  simp only [hasB, Bool.and_eq_true, decide_eq_true_eq] at h
  exact ⟨i.toNat, L[i.toNat]'(by omega), by omega, by simp⟩
/-- a block, or nothing -/
def bkAt (L : List Bk) (i : Int) : Bk := if hasB L i then (L[i.toNat]?).getD ⟨0, 0⟩ else ⟨0, 0⟩
theorem bkAt_some {L : List Bk} {j : Nat} {x : Bk} (h : L[j]? = some x) : bkAt L j = x := by
  have hj := (List.getElem?_eq_some_iff.1 h).1
  have : hasB L j = true := by simp [hasB, hj]
  simp [bkAt, this, h]
theorem bkAt_no {L : List Bk} {i : Int} (h : hasB L i = false) : bkAt L i = ⟨0, 0⟩ := by simp [bkAt, h]
theorem c24 (p : Value) (L : List Bk) (i : Int) (w : World) (h : PoolR w p L) : Gives Try.prog 24 [p, .int .i64 i] w (.int .i64 (bkAt L i).st) := by
  have h0 := h
  obtain ⟨s, ho, hs⟩ := h
  obtain ⟨a, c, rfl⟩ := hs.slice
  obtain ⟨b, rfl, hc⟩ := ho.at_
  refine gives mix t24 rfl rfl (ε := [pt b, .int .i64 i]) ⟨⟨_, rfl⟩, ⟨_, rfl⟩, trivial⟩ (den_split_false rfl (den_call_bool (b := hasB L i) (fun w1 h1 => c50 (pt b) L i w1 (h0.same h1.base)) rfl fun w1 w2 h1 h2 => den_norm (by simp only [List.cons_append, List.nil_append]; rfl) (den_splitNot (fun h3 => den_leaf ?_) (fun h3 => ?_))))
  · have h3' : hasB L i = false := h3
    rw [bkAt_no h3']
    rfl
  · obtain ⟨j, x, rfl, hx⟩ := hasB_some (show hasB L i = true from h3)
    rw [bkAt_some hx]
    refine den_ldp [.slice a L.length c] (.slice a L.length c :: cnV L) ⟨⟨_, _, _, rfl⟩, trivial⟩ (fun m v hv => by cases m with | zero => exact hv | succ m => simp at hv) (fun w1 h1 => ho.same h1.base) (fun _ _ => by simp [BlkIn]) fun w3 h4 => den_norm (by simp only [List.cons_append, List.nil_append]; rfl) ?_
    exact den_idx2 (E := blkE) (L := L) x j [.int .i64 x.st] hs rfl (by decide) rfl hx ⟨⟨_, rfl⟩, trivial⟩ (fun m v hv => by cases m with | zero => exact hv | succ m => simp at hv) (fun w h => hs.same h.base) (fun _ _ => by simp [BlkIn]) (fun w4 h5 => den_leaf rfl)
theorem c25 (p : Value) (L : List Bk) (i : Int) (w : World) (h : PoolR w p L) : Gives Try.prog 25 [p, .int .i64 i] w (.int .i64 (bkAt L i).er) := by
  have h0 := h
  obtain ⟨s, ho, hs⟩ := h
  obtain ⟨a, c, rfl⟩ := hs.slice
  obtain ⟨b, rfl, hc⟩ := ho.at_
  refine gives mix t25 rfl rfl (ε := [pt b, .int .i64 i]) ⟨⟨_, rfl⟩, ⟨_, rfl⟩, trivial⟩ (den_split_false rfl (den_call_bool (b := hasB L i) (fun w1 h1 => c50 (pt b) L i w1 (h0.same h1.base)) rfl fun w1 w2 h1 h2 => den_norm (by simp only [List.cons_append, List.nil_append]; rfl) (den_splitNot (fun h3 => den_leaf ?_) (fun h3 => ?_))))
  · have h3' : hasB L i = false := h3
    rw [bkAt_no h3']
    rfl
  · obtain ⟨j, x, rfl, hx⟩ := hasB_some (show hasB L i = true from h3)
    rw [bkAt_some hx]
    refine den_ldp [.slice a L.length c] (.slice a L.length c :: cnV L) ⟨⟨_, _, _, rfl⟩, trivial⟩ (fun m v hv => by cases m with | zero => exact hv | succ m => simp at hv) (fun w1 h1 => ho.same h1.base) (fun _ _ => by simp [BlkIn]) fun w3 h4 => den_norm (by simp only [List.cons_append, List.nil_append]; rfl) ?_
    exact den_idx2 (E := blkE) (L := L) x j [.int .i64 x.er] hs rfl (by decide) rfl hx ⟨⟨_, rfl⟩, trivial⟩ (fun m v hv => by cases m with | zero => exact hv | succ m => simp at hv) (fun w h => hs.same h.base) (fun _ _ => by simp [BlkIn]) (fun w4 h5 => den_leaf rfl)

/-! the iterator -/
def eachF (s : Int) : Nat → List Bk → List (List Value)
  | _, [] => []
  | i, x :: L => if isSt s x then [.int .i64 (i : Nat), .int .i64 x.er] :: eachF s (i + 1) L else eachF s (i + 1) L
def cntTo (s : Int) (L : List Bk) (j : Nat) : Nat := ((L.take j).filter (isSt s)).length
theorem cntTo_succ {s : Int} {L : List Bk} {j : Nat} {x : Bk} (h : L[j]? = some x) : cntTo s L (j + 1) = cntTo s L j + if isSt s x then 1 else 0 := by
  unfold cntTo
  rw [List.take_add_one, h, Option.toList_some, List.filter_append, List.length_append]
  congr 1
  cases hb : isSt s x <;> simp [List.filter_cons, hb]
theorem eachF_get {s : Int} : ∀ {L : List Bk} {j i : Nat} {x : Bk}, L[j]? = some x → isSt s x = true → (eachF s i L)[cntTo s L j]? = some [.int .i64 ((i + j : Nat) : Int), .int .i64 x.er]
  | [], j, i, x, h, _ => by simp at h
  | y :: L, 0, i, x, h, hx => by
    simp only [List.getElem?_cons_zero, Option.some.injEq] at h
    subst h
    simp [eachF, hx, cntTo]
  | y :: L, j + 1, i, x, h, hx => by
    have ih := eachF_get (L := L) (j := j) (i := i + 1) (x := x) (by simpa using h) hx
    by_cases hy : isSt s y = true
    · have : cntTo s (y :: L) (j + 1) = cntTo s L j + 1 := by simp [cntTo, hy]
      rw [this]
      simp only [eachF, if_pos hy, List.getElem?_cons_succ, ih]
      rw [show i + 1 + j = i + (j + 1) by omega]
    · have : cntTo s (y :: L) (j + 1) = cntTo s L j := by simp [cntTo, hy]
      rw [this]
      simp only [eachF, if_neg hy, ih]
      rw [show i + 1 + j = i + (j + 1) by omega]
theorem eachF_length {s : Int} : ∀ {L : List Bk} {i : Nat}, (eachF s i L).length = cntTo s L L.length
  | [], _ => by simp [eachF, cntTo]
  | y :: L, i => by
    have ih := eachF_length (s := s) (L := L) (i := i + 1)
    simp only [cntTo, List.take_length] at ih ⊢
    by_cases hy : isSt s y = true
    · simp [eachF, hy, ih]
    · simp [eachF, hy, ih]
theorem eachF_inv {s : Int} : ∀ {L : List Bk} {k i : Nat} {v : List Value}, (eachF s i L)[k]? = some v → ∃ (j : Nat) (x : Bk), L[j]? = some x ∧ isSt s x = true ∧ cntTo s L j = k ∧ v = [.int .i64 ((i + j : Nat) : Int), .int .i64 x.er]
  | [], k, i, v, h => by simp [eachF] at h
  | y :: L, k, i, v, h => by
    by_cases hy : isSt s y = true
    · simp only [eachF, if_pos hy] at h
      cases k with
      | zero =>
        simp only [List.getElem?_cons_zero, Option.some.injEq] at h
        exact ⟨0, y, rfl, hy, by simp [cntTo], by rw [← h]; rfl⟩
      | succ k =>
        obtain ⟨j, x, h1, h2, h3, h4⟩ := eachF_inv (L := L) (by simpa using h)
        exact ⟨j + 1, x, by simpa using h1, h2, by simp [cntTo, hy] at h3 ⊢; exact h3, by rw [h4, show i + 1 + j = i + (j + 1) by omega]⟩
    · simp only [eachF, if_neg hy] at h
      obtain ⟨j, x, h1, h2, h3, h4⟩ := eachF_inv (L := L) h
      exact ⟨j + 1, x, by simpa using h1, h2, by simp [cntTo, hy] at h3 ⊢; exact h3, by rw [h4, show i + 1 + j = i + (j + 1) by omega]⟩
theorem cntTo_mono {s : Int} {L : List Bk} : ∀ {i j : Nat}, i ≤ j → cntTo s L i ≤ cntTo s L j := by
  intro i j h
  unfold cntTo
  have : (L.take i).Sublist (L.take j) := by
    have := List.take_sublist i (L.take j)
    rwa [List.take_take, Nat.min_eq_left h] at this
  exact (this.filter _).length_le
theorem bstN_same {s : Int} {lt : Bk → Bk → Bool} {L : List Bk} : ∀ {i j : Nat}, i ≤ j → j ≤ L.length → cntTo s L i = cntTo s L j → bstN (isSt s) lt L i = bstN (isSt s) lt L j := by
  intro i j hij
  induction j with
  | zero => intro _ _; obtain rfl : i = 0 := by omega
            rfl
  | succ j ih =>
    intro hj hc
    by_cases h : i = j + 1
    · rw [h]
    · have hx : L[j]? = some (L[j]'(by omega)) := by simp
      generalize L[j]'(by omega) = x at hx
      have h1 := cntTo_succ (s := s) hx
      have h2 := cntTo_mono (s := s) (L := L) (show i ≤ j by omega)
      have hxs : isSt s x = false := by
        cases hb : isSt s x with
        | false => rfl
        | true => rw [hb] at h1; simp at h1; omega
      rw [hxs] at h1
      rw [bstN_no hx hxs]
      exact ih (by omega) (by omega) (by simp at h1; omega)

theorem zero3 : (Try.prog.info? 3).bind (·.zero) = some (.int .i64 0) := by kernel_rfl
theorem yv (a b : Value) : yvals Try.prog [3, 3] [a, b] = [a, b] := by
  unfold yvals
  rw [zero3]
  unfold yvals
  rw [zero3]
  rfl
theorem seq48 (b1 b2 : Nat) (s : Value) (st : Int) (L : List Bk) (w : World) (h1b : HasBlk w (pt b1) [s]) (h2b : HasBlk w (pt b2) [.int .i64 st]) (hs : Mine blkE 70 w s L) (hm : L.length < 4611686018427387904) :
    SeqOk Try.prog 48 #[pt b1, pt b2] w (fun x => x = b1 ∨ x = b2 ∨ s.ownBlock = some x) ((eachF st 0 L).map fun x => (yvals Try.prog [3, 3] x).toArray) := by
  intro l J Jx W hFt hY hJ
  obtain ⟨a, cp, hsl⟩ := hs.slice
  have obs : ∀ W' : World, (∀ x, x = b1 ∨ x = b2 ∨ s.ownBlock = some x → W'.heap[x]? = w.heap[x]?) → HasBlk W' (pt b1) [s] ∧ HasBlk W' (pt b2) [.int .i64 st] ∧ Mine blkE 70 W' s L := fun W' h =>
    ⟨h1b.of_eq fun x hx => by cases hx; exact h _ (.inl rfl), h2b.of_eq fun x hx => by cases hx; exact h _ (.inr (.inl rfl)), hs.of_eq fun g hg => h g (.inr (.inr hg))⟩
  have lts : ∀ {W' : World}, HasBlk W' (pt b1) [s] ∧ HasBlk W' (pt b2) [.int .i64 st] ∧ Mine blkE 70 W' s L → ∀ x, x = b1 ∨ x = b2 ∨ s.ownBlock = some x → x < W'.heap.size := by
    rintro W' ⟨h1, h2, h3⟩ x (rfl | rfl | hx)
    · exact h1.pts.lt (by simp) _ rfl
    · exact h2.pts.lt (by simp) _ rfl
    · exact h3.lt hx
  have same : ∀ {W1 W2 : World}, HasBlk W1 (pt b1) [s] ∧ HasBlk W1 (pt b2) [.int .i64 st] ∧ Mine blkE 70 W1 s L → Same W1 W2 → HasBlk W2 (pt b1) [s] ∧ HasBlk W2 (pt b2) [.int .i64 st] ∧ Mine blkE 70 W2 s L :=
    fun h hs => ⟨HasBlk.kept' h.1 hs fun h => h, HasBlk.kept' h.2.1 hs fun h => h, h.2.2.same hs⟩
  have oW := obs W (hFt 0 W hJ)
  have h := runs mix t48 rfl rfl (ε := [.func (.yield l) #[] #[], pt b1, pt b2]) (w := W) (M := fun x => ¬ (x = b1 ∨ x = b2 ∨ s.ownBlock = some x)) (R := fun v w' => v = .tuple #[] ∧ ∃ W0, (J (eachF st 0 L).length W0 ∨ Jx W0) ∧ Same W0 w') ⟨rfl, ⟨_, rfl⟩, ⟨_, rfl⟩, trivial⟩ trivial (by simp [keys]) (by simp [keys]) (by simp [keys]) ?_
  · have h' : Runs Try.prog 48 [.func (.yield l) #[] #[], pt b1, pt b2] W (fun x => ¬ (x = b1 ∨ x = b2 ∨ s.ownBlock = some x)) (fun v w' => v = .tuple #[] ∧ ∃ W0, (J (eachF st 0 L).length W0 ∨ Jx W0) ∧ Same W0 w') := by simpa [SV.den, denL, IE.den, BE.den, nth, vint, vbool, vaddr, addO, addr_add] using h
    refine Calls.mono h'.run fun e w' ⟨v, h1, ⟨_, h2⟩, _⟩ => ⟨v, h1, ?_⟩
    rw [List.length_map]
    exact h2
  subst hsl
  refine den_ldp [.slice a L.length cp] [.slice a L.length cp] ⟨⟨_, _, _, rfl⟩, trivial⟩ (whole _) (fun w1 h1 => (same oW (shown_same h1)).1.pts) (fun _ _ => by simp [BlkIn]) fun w1 h1 => den_norm (by simp only [List.cons_append, List.nil_append]; rfl) ?_
  refine den_for L.length (fun j w' => ∃ W0, J (cntTo st L j) W0 ∧ Same W0 w') ⟨rfl, fun w4 h4 => ⟨W, by simpa [cntTo] using hJ, (shown_same h1).trans (shown_same h4)⟩⟩ ?_
  rintro j w4 hj ⟨W0, hJ0, hs0⟩ hk hfa
  have o0 := obs W0 (hFt _ W0 hJ0)
  have o4 := same o0 hs0
  refine den_norm (by simp only [List.cons_append, List.nil_append]; rfl) (den_splitLt (fun hlt => ?_) (fun hge => ?_))
  · have hlt' : j < L.length := by simpa [IE.den, nth, vint, vlen] using hlt
    have hx : L[j]? = some L[j] := by simp [hlt']
    generalize L[j] = x at hx
    refine den_idx2 (E := blkE) (L := L) x j (blkE.enc x) o4.2.2.arr rfl (by decide) rfl hx ⟨⟨_, rfl⟩, ⟨_, rfl⟩, trivial⟩ (whole _) (fun w5 h5 => (same o4 (shown_same h5)).2.2.arr) (fun _ _ => by simp [BlkIn]) fun w5 h5 => ?_
    have o5 := same o4 (shown_same h5)
    have s5 := hs0.trans (shown_same h5)
    refine den_norm (by simp only [List.cons_append, List.nil_append, blkE]; rfl) (den_blk fun b7 k7 _ _ => den_norm (by simp only [List.cons_append, List.nil_append]; rfl) ?_)
    have nw : ∀ {w6 : World} {fs : Facts} {G : Ctx}, Shown G [.func (.yield l) #[] #[], pt b1, pt b2, .slice a L.length cp, .int .i64 j, .int .i64 x.er, .int .i64 x.st, pt b7] [7] fs w5 w6 → Same w5 w6 := fun h6 => shown_new h6 fun y hy => by simp [BlkIn, nth, blkOf, vaddr] at hy; omega
    refine den_ldp [.int .i64 st] [.int .i64 st] ⟨⟨_, rfl⟩, trivial⟩ (whole _) (fun w6 h6 => (same o5 (nw h6)).2.1.pts) (fun _ _ => by simp [BlkIn]) fun w6 h6 => den_norm (by simp only [List.cons_append, List.nil_append]; rfl) ?_
    have s6 := s5.trans (nw h6)
    refine den_splitEq (fun hst => ?_) (fun hst => ?_)
    · have hst' : isSt st x = true := by simpa [IE.den, nth, vint, isSt] using hst
      have hc := cntTo_succ (s := st) hx
      rw [if_pos hst'] at hc
      refine den_yield rfl (l := l) rfl (fun _ y => y < W0.heap.size ∧ ¬ (y = b1 ∨ y = b2 ∨ (Value.slice a L.length cp).ownBlock = some y)) (fun _ v w' => if v then J (cntTo st L (j + 1)) w' else Jx w') (fun _ => rfl) (fun w9 h9 y hy _ => ?_) (fun w9 h9 => ?_) (fun w9 v w10 h9 hR hk10 => den_norm (by simp only [List.cons_append, List.nil_append]; rfl) ?_)
      · refine ⟨fun hd => (by cases hd), fun _ => hy.2, fun hin => ?_, fun hx => by cases hx⟩
        have : W0.heap.size ≤ w5.heap.size := s5.size
        simp [BlkIn, nth, blkOf, vaddr] at hin
        omega
      · obtain ⟨fn, tm, as_, bd, hy1, hy2⟩ := hY (cntTo st L j) (#[.int .i64 j, .int .i64 x.er]) W0 w9 (by rw [List.getElem?_map, eachF_get hx hst', Option.map_some, yv]; simp) hJ0 (s6.trans (shown_same h9))
        exact ⟨fn, tm, as_, bd, hy1, hy2.mono fun e w' ⟨v, h1, h2, h3⟩ => ⟨v, h1, by rw [hc]; exact h3, h2.mono fun _ _ h => h⟩⟩
      · refine den_splitNot (fun hv => ?_) (fun hv => ?_)
        · have hv' : v = false := hv
          subst hv'
          refine den_leaf_ne (by decide) (den_leafA _ rfl fun w11 h11 => ⟨rfl, w10, .inr hR, shown_same h11⟩)
        · have hv' : v = true := hv
          subst hv'
          exact den_ob64 (by simp only [IE.den, nth, vint]; omega) (den_next rfl hlt' fun w11 h11 => ⟨w10, hR, shown_same h11⟩)
    · have hst' : isSt st x = false := by simpa [IE.den, nth, vint, isSt] using hst
      have hc := cntTo_succ (s := st) hx
      rw [hst'] at hc
      exact den_ob64 (by simp only [IE.den, nth, vint]; omega) (den_next rfl hlt' fun w11 h11 => ⟨W0, by rw [hc]; exact hJ0, s6.trans (shown_same h11)⟩)
  · have hge' : L.length ≤ j := by simpa [IE.den, nth, vint, vlen] using hge
    obtain rfl : j = L.length := by omega
    exact den_leaf_ne (by decide) (den_leafA _ rfl fun w5 h5 => ⟨rfl, W0, .inl (by rw [eachF_length]; exact hJ0), hs0.trans (shown_same h5)⟩)
end Go.Proofs.Ytdinjabnfjoojaa
