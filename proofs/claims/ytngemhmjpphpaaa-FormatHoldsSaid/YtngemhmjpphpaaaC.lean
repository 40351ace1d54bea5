/- Lists of blocks in memory, and what the functions that look at them and join them return. No conditions beyond those that each theorem names. -/
import Derived.Test.YtngemhmjpphpaaaB
import Derived.Test.YtngemhmjpphpaaaSxZH
set_option maxRecDepth 100000
set_option maxHeartbeats 1000000
set_option linter.unusedVariables false
set_option linter.unusedSimpArgs false
namespace Go.Proofs.Ytngemhmjpphpaaa
open Go.Sx

theorem u40 : Try.prog.underlying 40 = some (.slice 5) := Try.underlying40
theorem u5 : Try.prog.underlying 5 = some (.int .u8) := Try.underlying5
theorem u9 : Try.prog.underlying 9 = some .string := Try.underlying9
theorem i5 : Try.prog.info? 5 = some Try.t5 := by kernel_rfl
theorem z5 : Try.t5.zero = some (.int .u8 0) := by kernel_rfl
theorem s5 : Try.t5.size = byteE.sz := by kernel_rfl
theorem by5 : Try.t5.bytes ≤ 1000 := by decide +kernel
theorem st5 : sizeT Try.prog 5 = some 1 := by kernel_rfl

/-- a slice's head -/
structure Sl where
  a : Option Addr
  n : Nat
  c : Nat
def Sl.v (s : Sl) : Value := .slice s.a s.n s.c
def bvE : Enc (Sl × Sl) := ⟨fun p => [p.1.v, p.2.v], 2, fun _ => rfl⟩
abbrev Bl := List Int × List Int
theorem bv_one (x : Sl × Sl) : ∀ u ∈ bvE.enc x, u.oneCell' = true := by intro u hu; simp [bvE] at hu; rcases hu with rfl | rfl <;> rfl
/-- a slice that can be read; where its capacity is 0 its block need not be there -/
def Givn {α : Type} (E : Enc α) (w : World) (s : Value) (L : List α) : Prop := Arr E w s L ∧ (∀ n c, s = .slice none n c → n = 0 ∧ c = 0) ∧ L.length ≤ vcap s ∧ True
theorem Given.givn {α : Type} {E : Enc α} {w : World} {s : Value} {L : List α} (h : Given E w s L) : Givn E w s L := ⟨h.1, h.2.1, h.2.2.1, trivial⟩
theorem Givn.same {α : Type} {E : Enc α} {w w' : World} {s : Value} {L : List α} (h : Givn E w s L) (hk : Same w w') : Givn E w' s L := ⟨h.1.same hk, h.2.1, h.2.2.1, trivial⟩
theorem Givn.kept {α : Type} {E : Enc α} {w w' : World} {s : Value} {L : List α} {M : Nat → Prop} (h : Givn E w s L) (hk : Kept M w w') (hM : ∀ ad, vaddr s = some ad → ¬ M ad.block) : Givn E w' s L :=
  ⟨h.1.kept hk fun ad had _ => hM ad had, h.2.1, h.2.2.1, trivial⟩
/-- a slice of blocks: their heads, and their bytes; all at lo or behind -/
structure Blks (lo : Nat) (w : World) (s : Value) (LV : List (Sl × Sl)) (L : List Bl) : Prop where
  arr : Arr bvE w s LV
  len : LV.length = L.length
  at_ : ∀ ad, vaddr s = some ad → lo ≤ ad.block
  each : ∀ (i : Nat) p q, LV[i]? = some p → L[i]? = some q → Givn byteE w p.1.v q.1 ∧ Givn byteE w p.2.v q.2 ∧ (∀ ad, p.1.a = some ad → lo ≤ ad.block) ∧ (∀ ad, p.2.a = some ad → lo ≤ ad.block)
theorem Blks.kept {lo : Nat} {w w' : World} {s : Value} {LV : List (Sl × Sl)} {L : List Bl} {M : Nat → Prop} (h : Blks lo w s LV L) (hk : Kept M w w') (hM : ∀ b, lo ≤ b → ¬ M b) : Blks lo w' s LV L :=
  ⟨h.arr.kept hk fun ad had _ => hM _ (h.at_ ad had), h.len, h.at_, fun i p q hp hq => by
    obtain ⟨h1, h2, h3, h4⟩ := h.each i p q hp hq
    exact ⟨h1.kept hk fun ad had => hM _ (h3 ad had), h2.kept hk fun ad had => hM _ (h4 ad had), h3, h4⟩⟩
theorem Blks.same {lo : Nat} {w w' : World} {s : Value} {LV : List (Sl × Sl)} {L : List Bl} (h : Blks lo w s LV L) (hk : Same w w') : Blks lo w' s LV L := h.kept hk fun _ _ h => h
theorem Blks.slice {lo : Nat} {w : World} {s : Value} {LV : List (Sl × Sl)} {L : List Bl} (h : Blks lo w s LV L) : ∃ a c, s = .slice a LV.length c := h.arr.slice
theorem given_n {w : World} {p : Sl} {D : List Int} (h : Givn byteE w p.v D) : p.n = D.length := by
  obtain ⟨a, c, e⟩ := h.1.slice
  unfold Sl.v at e
  injection e
theorem Blks.pick {lo : Nat} {w : World} {s : Value} {LV : List (Sl × Sl)} {L : List Bl} (h : Blks lo w s LV L) {j : Nat} (hj : j < LV.length) :
    ∃ p q, LV[j]? = some p ∧ L[j]? = some q ∧ Givn byteE w p.1.v q.1 ∧ Givn byteE w p.2.v q.2 ∧ p.1.n = q.1.length ∧ p.2.n = q.2.length := by
  have hp : LV[j]? = some (LV[j]'hj) := by simp
  have hq : L[j]? = some (L[j]'(by rw [← h.len]; exact hj)) := by simp
  obtain ⟨h1, h2, _⟩ := h.each j _ _ hp hq
  exact ⟨_, _, hp, hq, h1, h2, given_n h1, given_n h2⟩

def fewB (L : List Bl) : Bool := (L.all fun q => decide (q.1.length ≤ 5000) && decide (q.2.length ≤ 100)) && decide (L.length ≤ 20)
def fitsB (z m : Int) (L : List Bl) : Bool := L.all fun q => decide ((q.1.length : Int) = z) && decide ((q.2.length : Int) = m)

theorem all_of_each {p : Bl → Bool} : ∀ (L : List Bl), (∀ (i : Nat) q, i < L.length → L[i]? = some q → p q = true) → L.all p = true
  | L, h => by
    rw [List.all_eq_true]
    intro q hq
    obtain ⟨i, hi⟩ := List.getElem?_of_mem hq
    exact h i q (List.getElem?_eq_some_iff.1 hi).1 hi
theorem all_no {p : Bl → Bool} {L : List Bl} {i : Nat} {q : Bl} (h : L[i]? = some q) (hp : p q = false) : L.all p = false := by
  cases hh : L.all p with
  | false => rfl
  | true =>
    have := List.all_eq_true.1 hh q (List.mem_of_getElem? h)
    rw [hp] at this
    cases this

theorem c27 (s : Value) (LV : List (Sl × Sl)) (L : List Bl) (w : World) (h : Blks 0 w s LV L) (hm : L.length < 9223372036854775808) : Gives Try.prog 27 [s] w (.bool (fewB L)) := by
  obtain ⟨a, c, rfl⟩ := h.slice
  have hl := h.len
  refine gives mix t27 rfl rfl (ε := [.slice a LV.length c]) ⟨⟨_, _, _, rfl⟩, trivial⟩ ?_
  refine den_for LV.length (fun j w' => ∀ (i : Nat) q, i < j → L[i]? = some q → (decide (q.1.length ≤ 5000) && decide (q.2.length ≤ 100)) = true) ⟨rfl, fun w _ i q hi => by omega⟩ ?_
  intro j w1 hj hI hk hfa
  refine den_norm (by simp only [List.cons_append, List.nil_append]; rfl) (den_splitLt (fun hlt => ?_) (fun hge => ?_))
  · have hlt' : j < LV.length := by simpa [IE.den, nth, vint, vlen] using hlt
    obtain ⟨p, q, hp, hq, g1, g2, n1, n2⟩ := h.pick hlt'
    refine den_idx2 (E := bvE) (L := LV) p j [p.1.v] ((h.same hk).arr) rfl (by decide) rfl hp ⟨⟨_, _, _, rfl⟩, trivial⟩ (fun m v hv => by cases m with | zero => exact hv | succ m => simp at hv) (fun w2 h2 => (h.same h2.base).arr) (fun ad had => by simp [BlkIn, nth, blkOf, vaddr]) (fun w2 h2 => den_norm (by simp only [List.cons_append, List.nil_append]; rfl) ?_)
    have no : fewB L = false → (VC.leaf 0 [SV.bool (BE.lit false)] [] []).den (G0 Try.prog w) (LoopΛ 1 (ForA LV.length (fun j w' => ∀ (i : Nat) q, i < j → L[i]? = some q → (decide (q.1.length ≤ 5000) && decide (q.2.length ≤ 100)) = true) j) (Λ0 w (.bool (fewB L)))) [.slice a LV.length c, .int .i64 j, p.1.v] w2 w2 (BlkIn [.slice a LV.length c, .int .i64 j, p.1.v] []) := fun e => by
      refine den_leaf_ne (by decide) (den_leaf ?_)
      rw [e]; rfl
    refine den_splitLt (fun h3 => ?_) (fun h3 => ?_)
    · refine no ?_
      have : ¬ q.1.length ≤ 5000 := by
        simp only [IE.den, nth, Sl.v, vlen] at h3
        omega
      unfold fewB
      rw [all_no hq (by simp [this])]
      rfl
    have h3' : q.1.length ≤ 5000 := by
      simp only [IE.den, nth, Sl.v, vlen] at h3
      omega
    refine den_obLe (by simp only [IE.den, nth, vint]; omega) (den_obLt hlt ?_)
    refine den_ldi (E := bvE) (L := LV) p j [p.2.v] rfl (by decide) rfl hp ⟨⟨_, _, _, rfl⟩, trivial⟩ (fun m v hv => by cases m with | zero => exact hv | succ m => simp at hv) (fun w3 h3 => (h.same h3.base).arr) (fun ad had => by simp [BlkIn, nth, blkOf, vaddr]) (fun w3 h3 => den_norm (by simp only [List.cons_append, List.nil_append]; rfl) ?_)
    refine den_splitLt (fun h4 => ?_) (fun h4 => ?_)
    · refine den_leaf_ne (by decide) (den_leaf ?_)
      have : ¬ q.2.length ≤ 100 := by
        simp only [IE.den, nth, Sl.v, vlen] at h4
        omega
      have e : fewB L = false := by
        unfold fewB
        rw [all_no hq (by simp [this])]
        rfl
      rw [e]; rfl
    have h4' : q.2.length ≤ 100 := by
      simp only [IE.den, nth, Sl.v, vlen] at h4
      omega
    have hjm : (j : Int) < 9223372036854775807 := by omega
    refine den_ob64 (by simp only [IE.den, nth, vint]; omega) (den_next rfl hlt' fun w5 _ i y hi hy => ?_)
    by_cases hij : i = j
    · subst hij
      rw [hq] at hy
      cases hy
      simp [h3', h4']
    · exact hI i y (by omega) hy
  · have hge' : LV.length ≤ j := by simpa [IE.den, nth, vint, vlen] using hge
    refine den_leaf_ne (by decide) (den_leaf ?_)
    have e : (L.all fun q => decide (q.1.length ≤ 5000) && decide (q.2.length ≤ 100)) = true := all_of_each L fun i q hi hq => hI i q (by omega) hq
    have e2 : decide ((L.length : Int) ≤ 20) = decide (L.length ≤ 20) := by
      by_cases h : L.length ≤ 20
      · rw [decide_eq_true h, decide_eq_true (by omega)]
      · rw [decide_eq_false h, decide_eq_false (by omega)]
    simp only [denL, SV.den, BE.den, IE.den, nth, vlen, leB_eq, hl, e2]
    unfold fewB
    rw [e]
    rfl

theorem c49 (z m : Int) (x : Bool) (t : Int) (fi : Bool) (s : Value) (LV : List (Sl × Sl)) (L : List Bl) (w : World) (h : Blks 0 w s LV L) (hm : L.length < 9223372036854775808) : Gives Try.prog 49 [fmtV z m x t fi, s] w (.bool (fitsB z m L)) := by
  obtain ⟨a, c, rfl⟩ := h.slice
  have hl := h.len
  refine gives mix t49 rfl rfl (ε := [.int .i64 z, .int .i64 m, .bool x, .int .i64 t, .bool fi, .slice a LV.length c]) ⟨⟨_, rfl⟩, ⟨_, rfl⟩, ⟨_, rfl⟩, ⟨_, rfl⟩, ⟨_, rfl⟩, ⟨_, _, _, rfl⟩, trivial⟩ (den_blk fun b6 k6 _ _ => den_norm (by simp only [List.cons_append, List.nil_append]; rfl) ?_)
  have z6 : w.heap.size ≤ b6 := k6
  refine den_for LV.length (fun j w' => ∀ (i : Nat) q, i < j → L[i]? = some q → (decide ((q.1.length : Int) = z) && decide ((q.2.length : Int) = m)) = true) ⟨rfl, fun w _ i q hi => by omega⟩ ?_
  intro j w1 hj hI hk hfa
  refine den_norm (by simp only [List.cons_append, List.nil_append]; rfl) (den_splitLt (fun hlt => ?_) (fun hge => ?_))
  · have hlt' : j < LV.length := by simpa [IE.den, nth, vint, vlen] using hlt
    obtain ⟨p, q, hp, hq, g1, g2, n1, n2⟩ := h.pick hlt'
    refine den_start1 fun w2 h2 => ?_
    have old : ∀ ad, vaddr (.slice a LV.length c) = some ad → ¬ BlkIn [.int .i64 z, .int .i64 m, .bool x, .int .i64 t, .bool fi, .slice a LV.length c, .pointer (some ⟨b6, 0, none⟩), .int .i64 j] [6] ad.block := fun ad had hin => by
      have := h.arr.lt hp (by decide) ad had
      simp [BlkIn, nth, blkOf, vaddr] at hin
      omega
    refine den_idxD (E := bvE) (L := LV) p j [p.1.v] rfl (by decide) rfl hp ⟨⟨_, _, _, rfl⟩, trivial⟩ (fun m v hv => by cases m with | zero => exact hv | succ m => simp at hv) (h.same h2.base).arr old (den_norm (by simp only [List.cons_append, List.nil_append]; rfl) ?_)
    refine den_splitNot (fun h3 => ?_) (fun h3 => ?_)
    · refine den_leaf_ne (by decide) (den_leaf ?_)
      have h3' : ¬ (q.1.length : Int) = z := by
        simp only [BE.den, IE.den, nth, vint, Sl.v, vlen, n1] at h3
        exact of_decide_eq_false h3
      have e : fitsB z m L = false := all_no hq (by simp [h3'])
      rw [e]; rfl
    have h3' : (q.1.length : Int) = z := by
      simp only [BE.den, IE.den, nth, vint, Sl.v, vlen, n1] at h3
      exact of_decide_eq_true h3
    refine den_idxD2 (E := bvE) (L := LV) p j [p.2.v] rfl (by decide) rfl hp ⟨⟨_, _, _, rfl⟩, trivial⟩ (fun m v hv => by cases m with | zero => exact hv | succ m => simp at hv) (h.same h2.base).arr old (den_norm (by simp only [List.cons_append, List.nil_append]; rfl) ?_)
    refine den_splitNot (fun h4 => ?_) (fun h4 => ?_)
    · refine den_leaf_ne (by decide) (den_leaf ?_)
      have h4' : ¬ (q.2.length : Int) = m := by
        simp only [BE.den, IE.den, nth, vint, Sl.v, vlen, n2] at h4
        exact of_decide_eq_false h4
      have e : fitsB z m L = false := all_no hq (by simp [h4'])
      rw [e]; rfl
    have h4' : (q.2.length : Int) = m := by
      simp only [BE.den, IE.den, nth, vint, Sl.v, vlen, n2] at h4
      exact of_decide_eq_true h4
    have hjm : (j : Int) < 9223372036854775807 := by omega
    refine den_ob64 (by simp only [IE.den, nth, vint]; omega) (den_next rfl hlt' fun w5 _ i y hi hy => ?_)
    by_cases hij : i = j
    · subst hij
      rw [hq] at hy
      cases hy
      simp [h3', h4']
    · exact hI i y (by omega) hy
  · have hge' : LV.length ≤ j := by simpa [IE.den, nth, vint, vlen] using hge
    refine den_leaf_ne (by decide) (den_leaf ?_)
    have e : fitsB z m L = true := all_of_each L fun i q hi hq => hI i q (by omega) hq
    rw [e]; rfl

theorem c55 (z m : Int) (x : Bool) (t : Int) (fi : Bool) (p : Sl × Sl) (q : Bl) (b : Nat) (w : World) (n1 : p.1.n = q.1.length) (n2 : p.2.n = q.2.length) (hb : PtsTo w (.pointer (some ⟨b, 0, none⟩)) [.int .i64 z, .int .i64 m]) :
    Gives Try.prog 55 [.agg #[p.1.v, p.2.v], .pointer (some ⟨b, 0, none⟩)] w (.bool (!(decide ((q.1.length : Int) = z) && decide ((q.2.length : Int) = m)))) := by
  have hlt := hb.lt (by simp) b rfl
  have h := gives (w := w) (r := .bool (!(decide ((q.1.length : Int) = z) && decide ((q.2.length : Int) = m)))) mix t55 rfl rfl (ε := [p.1.v, p.2.v, .pointer (some ⟨b, 0, none⟩)]) ⟨⟨_, _, _, rfl⟩, ⟨_, _, _, rfl⟩, ⟨_, rfl⟩, trivial⟩ (den_blk fun b3 k3 _ _ => den_norm (by simp only [List.cons_append, List.nil_append]; rfl) (den_notnil (i := 2) hb ?_))
  · simpa [denL, SV.den, nth, vaddr, addO, addr_add] using h
  have z3 : w.heap.size ≤ b3 := k3
  refine den_ldp [.int .i64 z] [.int .i64 z, .int .i64 m] ⟨⟨_, rfl⟩, trivial⟩ (fun m v hv => by cases m with | zero => exact hv | succ m => simp at hv) (fun w1 h1 => hb.same h1.base) (fun g hg hin => by simp [BlkIn, nth, blkOf, vaddr] at hin) (fun w1 h1 => den_norm (by simp only [List.cons_append, List.nil_append]; rfl) (den_splitNot (fun h2 => den_leaf ?_) (fun h2 => ?_)))
  · simp only [BE.den, IE.den, nth, vint, Sl.v, vlen, n1] at h2
    have h2' : ¬ (q.1.length : Int) = z := of_decide_eq_false h2
    simp [denL, SV.den, BE.den, h2']
  have h2' : (q.1.length : Int) = z := by
    simp only [BE.den, IE.den, nth, vint, Sl.v, vlen, n1] at h2
    exact of_decide_eq_true h2
  refine den_ldp [.int .i64 m] [.int .i64 z, .int .i64 m] ⟨⟨_, rfl⟩, trivial⟩ (fun m v hv => by cases m with | zero => exact hv | succ m => simp at hv) (fun w2 h2 => hb.same h2.base) (fun g hg hin => by simp [BlkIn, nth, blkOf, vaddr] at hin) (fun w2 h2 => den_norm (by simp only [List.cons_append, List.nil_append]; rfl) (den_leaf ?_))
  simp [denL, SV.den, BE.den, IE.den, nth, vint, Sl.v, vlen, n2, h2', eqB_eq]

/-- slices.IndexFunc: the first block for which the function says yes -/
theorem c57 (s fv : Value) (LV : List (Sl × Sl)) (p : Sl × Sl → Bool) (g : Nat) (caps : List Value) (w : World) (hm : LV.length < 9223372036854775808) (hs : Arr bvE w s LV)
    (hf : fv = .func (.func g) #[] caps.toArray) (hg : goFunc Try.prog g = true) (hp : ∀ x w', x ∈ LV → Same w w' → Gives Try.prog g ([.agg #[x.1.v, x.2.v]] ++ caps) w' (.bool (p x))) :
    Gives Try.prog 57 [s, fv] w (.int .i64 (Sx.idxFrom (fun _ x => p x) 0 LV)) := by
  obtain ⟨a, c, rfl⟩ := hs.slice
  subst hf
  refine gives mix t57 rfl rfl (ε := [.slice a LV.length c, .func (.func g) #[] caps.toArray]) ⟨⟨_, _, _, rfl⟩, rfl, trivial⟩ ?_
  refine den_for LV.length (fun j w' => ∀ (i : Nat) y, i < j → LV[i]? = some y → p y = false) ⟨rfl, fun w _ i y hi => by omega⟩ ?_
  intro j w1 hj hI hk hfa
  refine den_norm (by simp only [List.cons_append, List.nil_append]; rfl) (den_splitLt (fun hlt => ?_) (fun hge => ?_))
  · have hlt' : j < LV.length := by simpa [IE.den, nth, vint, vlen] using hlt
    have hx : LV[j]? = some (LV[j]'hlt') := by simp
    generalize LV[j]'hlt' = x at hx
    refine den_idx2 (E := bvE) (L := LV) x j [x.1.v, x.2.v] (hs.same hk) rfl (by decide) rfl hx ⟨⟨_, _, _, rfl⟩, ⟨_, _, _, rfl⟩, trivial⟩ (whole _) (fun w2 h2 => hs.same h2.base) (fun ad had => by simp [BlkIn, nth, blkOf, vaddr]) (fun w2 h2 => den_norm (by simp only [List.cons_append, List.nil_append]; rfl) ?_)
    refine den_callF rfl rfl hg (fun _ _ => False) (fun w3 l w4 => l = [.bool (p x)]) (fun _ _ _ h _ => h.elim) (fun w3 h3 => ?_) (fun w3 l w4 h3 hfl hR hk3 => ?_)
    · have := hp x w3 (List.mem_of_getElem? hx) h3.base
      exact ⟨Calls.mono this.run fun e w' ⟨h1, h2⟩ => ⟨_, h1, ⟨[.bool (p x)], ⟨⟨_, rfl⟩, trivial⟩, rfl, rfl⟩, h2⟩⟩
    subst hR
    refine den_norm (by simp only [List.cons_append, List.nil_append]; rfl) (den_split (fun h4 => ?_) (fun h4 => ?_))
    · have h4' : p x = true := h4
      refine den_leaf_ne (by decide) (den_leaf ?_)
      rw [Sx.idxFrom_found (fun _ x => p x) LV 0 j x hx h4' (fun i y hi hy => hI i y hi hy)]
      simp [denL, SV.den, IE.den, nth, vint]
    · have h4' : p x = false := h4
      have hjm : (j : Int) < 9223372036854775807 := by omega
      refine den_ob64 (by simp only [IE.den, nth, vint]; omega) (den_next rfl hlt' fun w5 _ i y hi hy => ?_)
      by_cases hij : i = j
      · subst hij
        rw [hx] at hy
        cases hy
        exact h4'
      · exact hI i y (by omega) hy
  · have hge' : LV.length ≤ j := by simpa [IE.den, nth, vint, vlen] using hge
    refine den_leaf_ne (by decide) (den_leaf ?_)
    rw [Sx.idxFrom_none (fun _ x => p x) LV 0 (fun i y hy => hI i y (Nat.lt_of_lt_of_le (List.getElem?_eq_some_iff.1 hy).1 hge') hy)]
    rfl
theorem go55 : goFunc Try.prog 55 = true := by kernel_rfl
theorem c48 (z m : Int) (x : Bool) (t : Int) (fi : Bool) (s : Value) (LV : List (Sl × Sl)) (L : List Bl) (w : World) (h : Blks 0 w s LV L) (hm : L.length < 9223372036854775808) : Gives Try.prog 48 [fmtV z m x t fi, s] w (.bool (fitsB z m L)) := by
  obtain ⟨a, c, rfl⟩ := h.slice
  have hl := h.len
  refine gives mix t48 rfl rfl (ε := [.int .i64 z, .int .i64 m, .bool x, .int .i64 t, .bool fi, .slice a LV.length c]) ⟨⟨_, rfl⟩, ⟨_, rfl⟩, ⟨_, rfl⟩, ⟨_, rfl⟩, ⟨_, rfl⟩, ⟨_, _, _, rfl⟩, trivial⟩ (den_blk fun b6 k6 _ _ => den_norm (by simp only [List.cons_append, List.nil_append]; rfl) ?_)
  have z6 : w.heap.size ≤ b6 := k6
  let pr : Sl × Sl → Bool := fun p => !(decide ((p.1.n : Int) = z) && decide ((p.2.n : Int) = m))
  have key : LV.any pr = !fitsB z m L := by
    have : ∀ (LV : List (Sl × Sl)) (L : List Bl), LV.length = L.length → (∀ (i : Nat) p q, LV[i]? = some p → L[i]? = some q → p.1.n = q.1.length ∧ p.2.n = q.2.length) → LV.any pr = !fitsB z m L := by
      intro LV
      induction LV with
      | nil => intro L hl _; cases L with
        | nil => rfl
        | cons _ _ => simp at hl
      | cons p LV ih =>
        intro L hl he
        cases L with
        | nil => simp at hl
        | cons q L =>
          obtain ⟨e1, e2⟩ := he 0 p q rfl rfl
          have := ih L (by simpa using hl) (fun i p q hp hq => he (i + 1) p q (by simpa using hp) (by simpa using hq))
          simp only [List.any_cons, this, fitsB, List.all_cons, pr, e1, e2]
          simp [Bool.not_and]
    exact this LV L hl fun i p q hp hq => by
      obtain ⟨g1, g2, _⟩ := h.each i p q hp hq
      exact ⟨given_n g1, given_n g2⟩
  refine den_call_bool (b := LV.any pr) (fun w1 h1 => ?_) rfl (fun w1 w2 h1 h2 => den_leaf ?_)
  · have hb : HasBlk w1 (.pointer (some ⟨b6, 0, none⟩)) _ := h1.facts.1
    have hA := h.same h1.base
    have h57 : ∀ w2, Same w1 w2 → Gives Try.prog 57 [.slice a LV.length c, .func (.func 55) #[] #[.pointer (some ⟨b6, 0, none⟩)]] w2 (.int .i64 (Sx.idxFrom (fun _ x => pr x) 0 LV)) := fun w2 hs2 => by
      refine c57 _ _ LV pr 55 [.pointer (some ⟨b6, 0, none⟩)] w2 (by omega) (hA.same hs2).arr rfl go55 (fun y w3 hy hs3 => ?_)
      obtain ⟨i, hi⟩ := List.getElem?_of_mem hy
      obtain ⟨p', q, hp, hq, g1, g2, n1, n2⟩ := h.pick (List.getElem?_eq_some_iff.1 hi).1
      rw [hi] at hp
      cases hp
      have hpt := (hb.pts.same hs2).same hs3
      obtain ⟨b', e, hc⟩ := hpt.at_
      cases e
      have h55 := c55 z m x t fi y q b6 w3 n1 n2 ⟨b6, rfl, fun k v hv => hc k v (by
        match k, hv with
        | 0, hv => exact hv
        | 1, hv => exact hv
        | k + 2, hv => simp at hv)⟩
      rw [← n1, ← n2] at h55
      exact h55
    have h54 := gives (w := w1) (r := .bool (LV.any pr)) mix t54 rfl rfl (ε := [.slice a LV.length c, .func (.func 55) #[] #[.pointer (some ⟨b6, 0, none⟩)]]) ⟨⟨_, _, _, rfl⟩, rfl, trivial⟩ (den_call_int (x := Sx.idxFrom (fun _ x => pr x) 0 LV) (fun w2 h2 => h57 w2 h2.base) rfl fun _ _ _ _ => den_leaf ?_)
    · simpa [denL, SV.den, nth, vaddr, addO, addr_add] using h54
    · simp only [denL, SV.den, BE.den, IE.den, nth, vint, List.cons_append, List.nil_append, leB_eq]
      rw [contains_idx pr LV]
  · simp [denL, SV.den, BE.den, nth, vbool, key]

/-- two buffers of one's own, apart -/
structure Two (lo : Nat) (w : World) (d m : Value) (D M : List Int) : Prop where
  hd : Mine byteE 5 w d D
  hm : Mine byteE 5 w m M
  ld : ∀ g, d.ownBlock = some g → lo ≤ g
  lm : ∀ g, m.ownBlock = some g → lo ≤ g
  ne : ∀ g, d.ownBlock = some g → m.ownBlock ≠ some g
  sz : lo ≤ w.heap.size
section
variable {lo : Nat} {w w' : World} {d m : Value} {D M : List Int}
theorem Two.kept {N : Nat → Prop} (h : Two lo w d m D M) (hk : Kept N w w') (hN : ∀ b, lo ≤ b → b < w.heap.size → ¬ N b) : Two lo w' d m D M :=
  ⟨h.hd.kept hk fun g hg => hN g (h.ld g hg) (h.hd.lt hg), h.hm.kept hk fun g hg => hN g (h.lm g hg) (h.hm.lt hg), h.ld, h.lm, h.ne, Nat.le_trans h.sz hk.size⟩
theorem Two.same (h : Two lo w d m D M) (hk : Same w w') : Two lo w' d m D M := h.kept hk fun _ _ _ h => h
theorem Two.app1 {d' : Value} {D' : List Int} (h : Two lo w d m D M) (hk : Kept (fun b => d.ownBlock = some b ∧ 0 < vcap d) w w') (hd : Mine byteE 5 w' d' D') (hfr : (d'.ownBlock = d.ownBlock ∧ vcap d' = vcap d) ∨ ∃ b, d'.ownBlock = some b ∧ w.heap.size ≤ b ∧ True) : Two lo w' d' m D' M := by
  have hsz := h.sz
  refine ⟨hd, h.hm.kept hk fun g hg e => h.ne g e.1 hg, fun g hg => ?_, h.lm, fun g hg e => ?_, Nat.le_trans h.sz hk.size⟩
  · rcases hfr with ⟨e, _⟩ | ⟨b, e, hb, _⟩
    · rw [e] at hg; exact h.ld g hg
    · rw [e] at hg; cases hg; omega
  · rcases hfr with ⟨e', _⟩ | ⟨b, e', hb, _⟩
    · rw [e'] at hg; exact h.ne g hg e
    · rw [e'] at hg; cases hg
      have := h.hm.lt e
      omega
theorem Two.app2 {m' : Value} {M' : List Int} (h : Two lo w d m D M) (hk : Kept (fun b => m.ownBlock = some b ∧ 0 < vcap m) w w') (hd : Mine byteE 5 w' m' M') (hfr : (m'.ownBlock = m.ownBlock ∧ vcap m' = vcap m) ∨ ∃ b, m'.ownBlock = some b ∧ w.heap.size ≤ b ∧ True) : Two lo w' d m' D M' := by
  have hsz := h.sz
  refine ⟨h.hd.kept hk fun g hg e => h.ne g hg e.1, hd, h.ld, fun g hg => ?_, fun g hg e => ?_, Nat.le_trans h.sz hk.size⟩
  · rcases hfr with ⟨e, _⟩ | ⟨b, e, hb, _⟩
    · rw [e] at hg; exact h.lm g hg
    · rw [e] at hg; cases hg; omega
  · rcases hfr with ⟨e', _⟩ | ⟨b, e', hb, _⟩
    · rw [e'] at e; exact h.ne g hg e
    · rw [e'] at e; cases e
      have := h.hd.lt hg
      omega
end
/-- the buffers of the first blocks -/
def jD (x : Bool) (mv : Nat) (L : List Bl) : List Int := L.flatMap fun q => if x then q.1 ++ q.2.take mv else q.1
def jM (x : Bool) (mv : Nat) (L : List Bl) : List Int := if x then [] else L.flatMap fun q => q.2.take mv
theorem take_succ {L : List Bl} {j : Nat} {q : Bl} (h : L[j]? = some q) : L.take (j + 1) = L.take j ++ [q] := by
  rw [List.take_add_one, h]
  rfl
end Go.Proofs.Ytngemhmjpphpaaa
