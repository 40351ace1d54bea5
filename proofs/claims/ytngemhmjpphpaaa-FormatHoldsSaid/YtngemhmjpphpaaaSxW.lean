/- Part W of a symbolic run of Go code by computation: its states, conditions and the proof that a condition that holds says what the function returns. No conditions of its own. -/
import Derived.Test.YtngemhmjpphpaaaSxV
import Derived.RangeFuncOwn
set_option linter.unusedVariables false
set_option linter.unusedSimpArgs false
namespace Go.Sx
open Go.RowKit

/-! lists of elements in memory -/
structure Enc (α : Type) where
  enc : α → List Value
  sz : Nat
  len : ∀ x, (enc x).length = sz

/-- the slice holds these elements -/
def Arr {α : Type} (E : Enc α) (w : World) (s : Value) (L : List α) : Prop := Reads w s E.sz L.length (L.flatMap E.enc)

theorem flatMap_length {α : Type} (E : Enc α) : ∀ (L : List α), (L.flatMap E.enc).length = L.length * E.sz
  | [] => by simp
  | x :: L => by rw [List.flatMap_cons, List.length_append, flatMap_length E L, E.len, List.length_cons, Nat.succ_mul, Nat.add_comm]
theorem flatMap_get {α : Type} (E : Enc α) : ∀ (L : List α) (j : Nat) (x : α) (m : Nat) (v : Value), L[j]? = some x → (E.enc x)[m]? = some v → (L.flatMap E.enc)[j * E.sz + m]? = some v
  | [], j, x, m, v, h, _ => by simp at h
  | y :: L, 0, x, m, v, h, hm => by
    simp only [List.getElem?_cons_zero, Option.some.injEq] at h
    subst h
    rw [List.flatMap_cons, Nat.zero_mul, Nat.zero_add, List.getElem?_append_left (List.getElem?_eq_some_iff.1 hm).1]
    exact hm
  | y :: L, j + 1, x, m, v, h, hm => by
    rw [List.flatMap_cons, List.getElem?_append_right (by rw [E.len, Nat.succ_mul]; omega)]
    have e : (j + 1) * E.sz + m - (E.enc y).length = j * E.sz + m := by rw [E.len, Nat.succ_mul]; omega
    rw [e]
    exact flatMap_get E L j x m v (by simpa using h) hm
theorem Arr.slice {α : Type} {E : Enc α} {w : World} {s : Value} {L : List α} (h : Arr E w s L) : ∃ a c, s = .slice a L.length c := Reads.slice h
theorem Arr.elem {α : Type} {E : Enc α} {w : World} {s : Value} {L : List α} (h : Arr E w s L) {j : Nat} {x : α} (hx : L[j]? = some x) (hsz : 0 < E.sz) :
    ∃ ad, vaddr s = some ad ∧ ∀ (m : Nat) v, (E.enc x)[m]? = some v → w.cell? ((ad.add (j * E.sz)).add m) = some v := by
  obtain ⟨ad, had, _⟩ := Reads.cell h (j * E.sz + 0) _ (flatMap_get E L j x 0 ((E.enc x)[0]'(by rw [E.len]; exact hsz)) hx (by simp))
  refine ⟨ad, had, fun m v hv => ?_⟩
  obtain ⟨ad', had', hc⟩ := Reads.cell h (j * E.sz + m) _ (flatMap_get E L j x m v hx hv)
  rw [had] at had'
  cases had'
  rw [add_add]
  exact hc
theorem Reads.kept {w w' : World} {s : Value} {sz n : Nat} {cells : List Value} {M : Nat → Prop} (h : Reads w s sz n cells) (hk : Kept M w w') (hM : ∀ ad, vaddr s = some ad → ad.block < w.heap.size → ¬ M ad.block) : Reads w' s sz n cells :=
  ⟨h.slice, h.len, fun j x hx => let ⟨ad, h1, h2⟩ := h.cell j x hx; ⟨ad, h1, hk.cell h2 (by rw [add_block]; exact hM ad h1 (by have := World.block_lt_of_cell? w _ h2; rwa [add_block] at this))⟩⟩
theorem Arr.kept {α : Type} {E : Enc α} {w w' : World} {s : Value} {L : List α} {M : Nat → Prop} (h : Arr E w s L) (hk : Kept M w w') (hM : ∀ ad, vaddr s = some ad → ad.block < w.heap.size → ¬ M ad.block) : Arr E w' s L := Reads.kept h hk hM
theorem Arr.same {α : Type} {E : Enc α} {w w' : World} {s : Value} {L : List α} (h : Arr E w s L) (hk : Same w w') : Arr E w' s L := Reads.same h hk
theorem not_rec_of_cell {w : World} {a : Addr} {v : Value} (h : w.cell? a = some v) : ¬ IsRec w a.block := by
  rintro ⟨o, ho, hi⟩
  obtain ⟨o', ho', hc⟩ := cells_of_cell h
  rw [ho] at ho'
  cases ho'
  cases o <;> simp_all [Obj.isRec, Go.Obj.isCells]
theorem Reads.quiet {w w' : World} {s : Value} {sz n : Nat} {cells : List Value} (h : Reads w s sz n cells) (hk : Quiet w w') : Reads w' s sz n cells :=
  ⟨h.slice, h.len, fun j x hx => let ⟨ad, h1, h2⟩ := h.cell j x hx; ⟨ad, h1, hk.cell h2 (not_rec_of_cell h2)⟩⟩
theorem Arr.quiet {α : Type} {E : Enc α} {w w' : World} {s : Value} {L : List α} (h : Arr E w s L) (hk : Quiet w w') : Arr E w' s L := Reads.quiet h hk

/-! rules -/
def LoopΛ (i : Nat) (A : List Value → World → Prop) (Λ : Nat → List Value → World → Prop) : Nat → List Value → World → Prop := fun j vs w => if j = i then A vs w else Λ j vs w

section
variable {G : Ctx} {Λ : Nat → List Value → World → Prop} {ε : List Value} {wx ws : World} {X : Nat → Prop} {k k' : VC}

theorem den_norm {ε' : List Value} (h : ε = ε') (hk : k.den G Λ ε' wx ws X) : k.den G Λ ε wx ws X := h ▸ hk
theorem den_obLe {a b : IE} (h : a.den ε ≤ b.den ε) (hk : k.den G Λ ε wx ws X) : (VC.ob (.le a b) k).den G Λ ε wx ws X := ⟨decide_eq_true h, hk⟩
theorem den_obLt {a b : IE} (h : a.den ε < b.den ε) (hk : k.den G Λ ε wx ws X) : (VC.ob (.lt a b) k).den G Λ ε wx ws X := ⟨decide_eq_true h, hk⟩
theorem den_obNe {a b : IE} (h : a.den ε ≠ b.den ε) (hk : k.den G Λ ε wx ws X) : (VC.ob (.not (.eq a b)) k).den G Λ ε wx ws X := ⟨by simp [BE.den, h], hk⟩
/-- an addition that stays in the numbers of 64 bits -/
theorem den_ob64 {a : IE} (h : -9223372036854775808 ≤ a.den ε ∧ a.den ε ≤ 9223372036854775807) (hk : k.den G Λ ε wx ws X) : (VC.ob (.le (.lit (-9223372036854775808)) a) (VC.ob (.le a (.lit 9223372036854775807)) k)).den G Λ ε wx ws X :=
  den_obLe h.1 (den_obLe h.2 hk)
theorem den_splitLe {a b : IE} (h : a.den ε ≤ b.den ε → k.den G Λ ε wx ws X) (h' : b.den ε < a.den ε → k'.den G Λ ε wx ws X) : (VC.split (.le a b) k k').den G Λ ε wx ws X :=
  ⟨fun e => h (of_decide_eq_true e), fun e => h' (by have := of_decide_eq_false e; omega)⟩
theorem den_splitLt {a b : IE} (h : a.den ε < b.den ε → k.den G Λ ε wx ws X) (h' : b.den ε ≤ a.den ε → k'.den G Λ ε wx ws X) : (VC.split (.lt a b) k k').den G Λ ε wx ws X :=
  ⟨fun e => h (of_decide_eq_true e), fun e => h' (by have := of_decide_eq_false e; omega)⟩
theorem den_splitEq {a b : IE} (h : a.den ε = b.den ε → k.den G Λ ε wx ws X) (h' : a.den ε ≠ b.den ε → k'.den G Λ ε wx ws X) : (VC.split (.eq a b) k k').den G Λ ε wx ws X :=
  ⟨fun e => h (of_decide_eq_true e), fun e => h' (of_decide_eq_false e)⟩
theorem den_splitNot {b : BE} (h : b.den ε = false → k.den G Λ ε wx ws X) (h' : b.den ε = true → k'.den G Λ ε wx ws X) : (VC.split (.not b) k k').den G Λ ε wx ws X :=
  ⟨fun e => h (by simpa [BE.den] using e), fun e => h' (by simpa [BE.den] using e)⟩
theorem den_leaf_eq {i : Nat} {A : List Value → World → Prop} {vs : List SV} {t : List Nat} {fs : Facts} (h : ∀ w, Shown G ε t fs wx w → A (denL ε vs) w) : (VC.leaf i vs t fs).den G (LoopΛ i A Λ) ε wx ws X :=
  fun w hw => (if_pos rfl).mpr (h w hw)
theorem den_leaf_ne {i j : Nat} {A : List Value → World → Prop} {vs : List SV} {t : List Nat} {fs : Facts} (hne : j ≠ i) (h : (VC.leaf j vs t fs).den G Λ ε wx ws X) : (VC.leaf j vs t fs).den G (LoopΛ i A Λ) ε wx ws X :=
  fun w hw => (if_neg hne).mpr (h w hw)
theorem den_leafM_ne {i j : Nat} {A : List Value → World → Prop} {vs : List SV} {t : List Nat} {fs : Facts} (hne : j ≠ i) (h : (VC.leafM j vs t fs).den G Λ ε wx ws X) : (VC.leafM j vs t fs).den G (LoopΛ i A Λ) ε wx ws X :=
  fun w hw w' hq hb => (if_neg hne).mpr (h w hw w' hq hb)

/-- what is read of an element of a slice that lies in no tracked block -/
theorem den_idx {i sz off2 : Nat} {e : IE} {bs : List Base} {t t' : List Nat} {fs : Facts} {α : Type} {E : Enc α} {L : List α} (x : α) (j : Nat) (l : List Value) (hsz : E.sz = sz) (hpos : 0 < E.sz) (he : e.den ε = j) (hx : L[j]? = some x) (hl : Fits bs l) (hlc : ∀ (m : Nat) v, l[m]? = some v → (E.enc x)[off2 + m]? = some v)
    (hR : ∀ w, Shown G ε t fs wx w → Arr E w (nth ε i) L ∧ ∀ ad, vaddr (nth ε i) = some ad → ¬ BlkIn ε t' ad.block)
    (hk : ∀ w, Shown G ε t fs wx w → k.den G Λ (ε ++ l) w w (BlkIn ε t')) (hex : ∃ w, Shown G ε t fs wx w) :
    (VC.ob (.le (.lit 0) e) (VC.ob (.lt e (.len i)) (VC.ob (.not (.nil i)) (VC.start false t t' fs (VC.load (.elt i 0 e sz off2) bs k))))).den G Λ ε wx ws X := by
  obtain ⟨w0, hw0⟩ := hex
  have hj : j < L.length := (List.getElem?_eq_some_iff.1 hx).1
  obtain ⟨a, c, hs⟩ := (hR w0 hw0).1.slice
  obtain ⟨ad0, had0, _⟩ := (hR w0 hw0).1.elem hx hpos
  refine ⟨by simp [BE.den, IE.den, he], by simp [BE.den, IE.den, he, hs, vlen]; exact hj, ?_, ?_⟩
  · rw [hs] at had0; simp only [vaddr] at had0; subst had0; simp [BE.den, hs, vnil]
  · intro w hw
    obtain ⟨ad, had, hc⟩ := (hR w hw).1.elem hx hpos
    refine ⟨l, hl, ⟨(ad.add (j * E.sz)).add off2, ?_, ?_, fun m v hv => by rw [add_add]; exact hc _ v (hlc m v hv)⟩, hk w hw⟩
    · simp only [SV.den, had, addO, Option.map_some, he, hsz, Int.toNat_natCast]
      simp [Addr.add]
    · rw [add_block, add_block]
      exact (hR w hw).2 ad had
/-- the same in a region of drawn order -/
theorem den_idxD {i sz off2 : Nat} {e : IE} {bs : List Base} {α : Type} {E : Enc α} {L : List α} (x : α) (j : Nat) (l : List Value) (hsz : E.sz = sz) (hpos : 0 < E.sz) (he : e.den ε = j) (hx : L[j]? = some x) (hl : Fits bs l) (hlc : ∀ (m : Nat) v, l[m]? = some v → (E.enc x)[off2 + m]? = some v)
    (hR : Arr E ws (nth ε i) L) (hX : ∀ ad, vaddr (nth ε i) = some ad → ¬ X ad.block)
    (hk : k.den G Λ (ε ++ l) wx ws X) :
    (VC.ob (.le (.lit 0) e) (VC.ob (.lt e (.len i)) (VC.ob (.not (.nil i)) (VC.load (.elt i 0 e sz off2) bs k)))).den G Λ ε wx ws X := by
  have hj : j < L.length := (List.getElem?_eq_some_iff.1 hx).1
  obtain ⟨a, c, hs⟩ := hR.slice
  obtain ⟨ad, had, hc⟩ := hR.elem hx hpos
  refine ⟨by simp [BE.den, IE.den, he], by simp [BE.den, IE.den, he, hs, vlen]; exact hj, ?_, ?_⟩
  · rw [hs] at had; simp only [vaddr] at had; subst had; simp [BE.den, hs, vnil]
  · refine ⟨l, hl, ⟨(ad.add (j * E.sz)).add off2, ?_, by rw [add_block, add_block]; exact hX ad had, fun m v hv => by rw [add_add]; exact hc _ v (hlc m v hv)⟩, hk⟩
    simp only [SV.den, had, addO, Option.map_some, he, hsz, Int.toNat_natCast]
    simp [Addr.add]
/-- and where it is known that there is a slice -/
theorem den_idxD2 {i sz off2 : Nat} {e : IE} {bs : List Base} {α : Type} {E : Enc α} {L : List α} (x : α) (j : Nat) (l : List Value) (hsz : E.sz = sz) (hpos : 0 < E.sz) (he : e.den ε = j) (hx : L[j]? = some x) (hl : Fits bs l) (hlc : ∀ (m : Nat) v, l[m]? = some v → (E.enc x)[off2 + m]? = some v)
    (hR : Arr E ws (nth ε i) L) (hX : ∀ ad, vaddr (nth ε i) = some ad → ¬ X ad.block)
    (hk : k.den G Λ (ε ++ l) wx ws X) :
    (VC.ob (.le (.lit 0) e) (VC.ob (.lt e (.len i)) (VC.load (.elt i 0 e sz off2) bs k))).den G Λ ε wx ws X := by
  obtain ⟨h1, h2, _, h3⟩ := den_idxD (G := G) (Λ := Λ) (k := k) (wx := wx) x j l hsz hpos he hx hl hlc hR hX hk
  exact ⟨h1, h2, h3⟩
theorem whole (l : List Value) : ∀ (m : Nat) v, l[m]? = some v → l[0 + m]? = some v := fun m v h => by rw [Nat.zero_add]; exact h

/-- the end of a round of a loop that counts up to n -/
def ForA (n : Nat) (Inv : Nat → World → Prop) (j : Nat) : List Value → World → Prop := fun vs w =>
  (∃ j' : Nat, vs = [.int .i64 j'] ∧ j' ≤ n ∧ Inv j' w) ∧ n - (vint (nth vs 0)).toNat < n - (vint (nth [.int .i64 (j : Int)] 0)).toNat
/-- a loop that counts up to n -/
theorem den_for {i : Nat} {vs : List SV} {t t' : List Nat} {fs fs' : Facts} (n : Nat) (Inv : Nat → World → Prop) (h0 : denL ε vs = [.int .i64 ((0 : Nat) : Int)] ∧ ∀ w, Shown G ε t fs wx w → Inv 0 w)
    (hk : ∀ (j : Nat) w', j ≤ n → Inv j w' → Kept G.M G.W0 w' → FactsAt (ε ++ [.int .i64 j]) w' fs' →
      k.den G (LoopΛ i (ForA n Inv j) Λ) (ε ++ [.int .i64 j]) w' w' (BlkIn (ε ++ [.int .i64 j]) t')) :
    (VC.loop i vs [.int .i64] t t' fs fs' k).den G Λ ε wx ws X := by
  refine den_loop (fun ls w' => ∃ j : Nat, ls = [.int .i64 j] ∧ j ≤ n ∧ Inv j w') (fun ls _ => n - (vint (nth ls 0)).toNat) (fun w hw => ⟨0, h0.1, by omega, h0.2 w hw⟩) ?_
  rintro w l w' hw hf ⟨j, rfl, hj, hI⟩ hkept hfa
  exact hk j w' hj hI hkept hfa
theorem den_next {i n j : Nat} {Inv : Nat → World → Prop} {vs : List SV} {t : List Nat} {fs : Facts} (h : denL ε vs = [.int .i64 ((j : Int) + 1)]) (hj : j < n) (hI : ∀ w, Shown G ε t fs wx w → Inv (j + 1) w) : (VC.leaf i vs t fs).den G (LoopΛ i (ForA n Inv j) Λ) ε wx ws X := by
  refine den_leaf_eq fun w hw => ⟨⟨j + 1, by rw [h]; simp, by omega, hI w hw⟩, ?_⟩
  rw [h]
  simp only [nth, vint]
  omega

/-- a call of a function value -/
theorem den_callF {fo : Operand} {argTypes : Array TypeId} {cl : Call} {type : TypeId} {fsv : SV} {vals : List (Operand × SV)} {bs : List Base} {rv : SV} {drawn : Bool} {t t' un : List Nat} {fs : Facts}
    (hcl : cl = { callee := .value fo, args := (vals.map (·.1)).toArray, argTypes := argTypes }) {g : Nat} {caps : List Value} (hf : fsv.den ε = .func (.func g) #[] caps.toArray) (hg : goFunc G.P g = true) (M' : World → Nat → Prop) (R : World → List Value → World → Prop)
    (hF : ∀ w, Shown G ε t fs wx w → ∀ b, M' w b → b < w.heap.size → FpOk G drawn X ε un w b)
    (hc : ∀ w, Shown G ε t fs wx w → Runs G.P g (vals.map (fun p => p.2.den ε) ++ caps) w (M' w) (fun v w' => ∃ l, Fits bs l ∧ v = rv.den (ε ++ l) ∧ R w l w'))
    (hk : ∀ w l w', Shown G ε t fs wx w → Fits bs l → R w l w' → Kept (M' w) w w' → k.den G Λ (ε ++ l) w' (if drawn then ws else w') (if drawn then X else BlkIn ε t')) :
    (VC.gen (.call cl) type ((fo, fsv) :: vals) bs rv [] drawn t t' un fs k).den G Λ ε wx ws X := by
  subst hcl
  intro w hw
  refine ⟨R w, M' w, fun ρ hρ => .inr (.inr ⟨g, ((vals.map (fun p => p.2.den ε)) ++ caps).toArray, w, ?_, Calls.mono (hc w hw).run ?_⟩), hF w hw, allB_intro ?_⟩
  · have h1 : ρ fo = .func (.func g) #[] caps.toArray := by rw [hρ.1, hf]
    have h2 : (vals.map (·.1)).toArray.map ρ = (vals.map (fun p => p.2.den ε)).toArray := by
      have : ∀ l : List (Operand × SV), ValsAt ε ρ l → l.map (fun p => ρ p.1) = l.map (fun p => p.2.den ε) := by
        intro l
        induction l with
        | nil => intro _; rfl
        | cons p l ih => intro h; simp only [List.map_cons]; rw [h.1, ih h.2]
      apply Array.ext'
      simp only [Array.toList_map, List.map_map]
      exact this vals hρ.2
    have hrun := goFunc_run hg ((vals.map (fun p => p.2.den ε)).toArray ++ caps.toArray) w
    simp only [execOp, bare, resolve, h1, Sem.run_bind]
    simp [Deferred.ofValue, h2, invoke]
    simpa using hrun
  · rintro e w' ⟨v, rfl, ⟨l, hl, rfl, hR⟩, h2⟩
    exact ⟨_, rfl, l, hl, rfl, hR, h2, trivial⟩
  · intro l hl w' hR hsame
    have := hk w l w' hw hl hR hsame
    cases drawn <;> exact this
end

def idxFrom {α : Type} (p : Nat → α → Bool) : Nat → List α → Int
  | _, [] => -1
  | k, x :: l => if p k x then k else idxFrom p (k + 1) l
theorem idxFrom_found {α : Type} (p : Nat → α → Bool) : ∀ (l : List α) (k i : Nat) (x : α), l[i]? = some x → p (k + i) x = true → (∀ (j : Nat) y, j < i → l[j]? = some y → p (k + j) y = false) → idxFrom p k l = (k + i : Nat)
  | [], _, _, _, h, _, _ => by simp at h
  | y :: l, k, 0, x, h, hp, _ => by
    simp only [List.getElem?_cons_zero, Option.some.injEq] at h
    subst h
    rw [Nat.add_zero] at hp
    rw [idxFrom, if_pos hp]
    rfl
  | y :: l, k, i + 1, x, h, hp, hn => by
    have h0 := hn 0 y (by omega) rfl
    rw [Nat.add_zero] at h0
    rw [idxFrom, if_neg (by rw [h0]; simp), idxFrom_found p l (k + 1) i x (by simpa using h) (by rw [show k + 1 + i = k + (i + 1) by omega]; exact hp) (fun j z hj hz => by
      have := hn (j + 1) z (by omega) (by simpa using hz)
      rwa [show k + (j + 1) = k + 1 + j by omega] at this)]
    congr 1; omega
theorem idxFrom_none {α : Type} (p : Nat → α → Bool) : ∀ (l : List α) (k : Nat), (∀ (j : Nat) y, l[j]? = some y → p (k + j) y = false) → idxFrom p k l = -1
  | [], _, _ => rfl
  | y :: l, k, h => by
    have h0 := h 0 y rfl
    rw [Nat.add_zero] at h0
    rw [idxFrom, if_neg (by rw [h0]; simp), idxFrom_none p l (k + 1) (fun j z hz => by
      have := h (j + 1) z (by simpa using hz)
      rwa [show k + (j + 1) = k + 1 + j by omega] at this)]
theorem idxFrom_bounds {α : Type} (p : Nat → α → Bool) : ∀ (l : List α) (k : Nat), idxFrom p k l = -1 ∨ ∃ (i : Nat) (x : α), idxFrom p k l = ((k + i : Nat) : Int) ∧ l[i]? = some x ∧ p (k + i) x = true
  | [], _ => .inl rfl
  | y :: l, k => by
    by_cases h : p k y = true
    · exact .inr ⟨0, y, by rw [idxFrom, if_pos h]; rfl, rfl, h⟩
    · rcases idxFrom_bounds p l (k + 1) with h1 | ⟨i, x, h1, h2, h3⟩
      · exact .inl (by rw [idxFrom, if_neg h, h1])
      · exact .inr ⟨i + 1, x, by rw [idxFrom, if_neg h, h1]; congr 1; omega, by simpa using h2, by rw [show k + (i + 1) = k + 1 + i by omega]; exact h3⟩
theorem idxFrom_neg {α : Type} (p : Nat → α → Bool) : ∀ (l : List α) (k : Nat), idxFrom p k l < 0 ↔ ∀ (i : Nat) x, l[i]? = some x → p (k + i) x = false
  | [], k => by simp [idxFrom]
  | y :: l, k => by
    by_cases h : p k y = true
    · rw [idxFrom, if_pos h]
      constructor
      · intro e; omega
      · intro e; have := e 0 y rfl; rw [Nat.add_zero, h] at this; cases this
    · rw [idxFrom, if_neg h, idxFrom_neg p l (k + 1)]
      constructor
      · intro e i x hx
        cases i with
        | zero => simp only [List.getElem?_cons_zero, Option.some.injEq] at hx; subst hx; simpa using h
        | succ i => rw [show k + (i + 1) = k + 1 + i by omega]; exact e i x (by simpa using hx)
      · intro e i x hx
        rw [show k + 1 + i = k + (i + 1) by omega]
        exact e (i + 1) x (by simpa using hx)

/-! lists of conditions -/
def sBE : SV → BE
  | .bool b => b
  | _ => .lit false
def isBools : List SV → Bool
  | [] => true
  | .bool _ :: l => isBools l
  | _ :: _ => false
def boolsOf (ε : List Value) (l : List SV) : List Bool := l.map fun s => (sBE s).den ε
theorem boolsOf_den (ε : List Value) : ∀ {l : List SV}, isBools l = true → denL ε l = (boolsOf ε l).map .bool
  | [], _ => rfl
  | .bool b :: l, h => by
    simp only [isBools] at h
    simp only [denL, boolsOf, List.map_cons, SV.den, sBE]
    rw [boolsOf_den ε h]
    rfl
  | .var _ :: _, h | .int .. :: _, h | .ptr .. :: _, h | .elt .. :: _, h | .slc .. :: _, h | .agg _ :: _, h | .tuple _ :: _, h | .fn .. :: _, h | .cst _ :: _, h => by simp [isBools] at h

theorem idxFrom_all (l : List Bool) : (decide (0 ≤ idxFrom (fun _ x => x == false) 0 l)) = !(l.all id) := by
  have key : ∀ (l : List Bool) (k : Nat), (0 ≤ idxFrom (fun _ x => x == false) k l ↔ l.all id = false) := by
    intro l
    induction l with
    | nil => intro k; simp [idxFrom]
    | cons b l ih =>
      intro k
      cases b with
      | true => simp only [idxFrom]; rw [if_neg (by simp), ih]; simp
      | false => simp only [idxFrom]; rw [if_pos (by simp)]; simp
  by_cases h : l.all id = true
  · rw [h]
    have : ¬ 0 ≤ idxFrom (fun _ x => x == false) 0 l := fun e => by have := (key l 0).1 e; rw [h] at this; cases this
    exact decide_eq_false this
  · have h' : l.all id = false := by simpa using h
    rw [h']
    have := (key l 0).2 h'
    exact decide_eq_true this

def boolE : Enc Bool := ⟨fun b => [.bool b], 1, fun _ => rfl⟩

/-- slices.Index at bools -/
theorem index_bool {P : Program} (hmix : P.follows .mixedOrders = true) {f : Nat}
    (t : exFn { P := P, loops := fun r => if Nat.beq r 2 then some ⟨1, [(8, .int .i64)], []⟩ else none } f [.var 0, .bool (.var 1)] [.slice, .bool] [] =
      VC.loop 1 [SV.int IntKind.i64 (IE.lit 0)] [Base.int IntKind.i64] [] [] [] []
  (VC.split (BE.lt (IE.var 2) (IE.len 0))
    (VC.ob (BE.le (IE.lit 0) (IE.var 2))
      (VC.ob (BE.lt (IE.var 2) (IE.len 0))
        (VC.ob (BE.not (BE.nil 0))
          (VC.start false [] [] []
            (VC.load (SV.elt 0 0 (IE.var 2) 1 0) [Base.bool]
              (VC.split (BE.beq (BE.var 1) (BE.var 3)) (VC.leaf 0 [SV.int IntKind.i64 (IE.var 2)] [] [])
                (VC.ob (BE.le (IE.lit (-9223372036854775808)) (IE.add (IE.var 2) (IE.lit 1)))
                  (VC.ob (BE.le (IE.add (IE.var 2) (IE.lit 1)) (IE.lit 9223372036854775807)) (VC.leaf 1 [SV.int IntKind.i64 (IE.add (IE.var 2) (IE.lit 1))] [] [])))))))))
    (VC.leaf 0 [SV.int IntKind.i64 (IE.lit (-1))] [] [])))
    (s : Value) (L : List Bool) (v : Bool) (w : World) (hm : L.length < 4611686018427387904) (hs : Arr boolE w s L) : Gives P f [s, .bool v] w (.int .i64 (idxFrom (fun _ x => x == v) 0 L)) := by
  obtain ⟨a, c, rfl⟩ := hs.slice
  refine gives hmix t rfl rfl (ε := [.slice a L.length c, .bool v]) ⟨⟨_, _, _, rfl⟩, ⟨_, rfl⟩, trivial⟩ ?_
  refine den_for L.length (fun j w => ∀ (i : Nat) y, i < j → L[i]? = some y → (y == v) = false) ⟨rfl, fun w _ i y hi => by omega⟩ ?_
  intro j w1 hj hI hk hfa
  refine den_split (fun hlt => ?_) (fun hge => ?_)
  · have hlt' : j < L.length := by simpa [BE.den, IE.den, nth, vint, vlen] using hlt
    refine den_idx (E := boolE) (L := L) L[j] j [.bool L[j]] rfl (by decide) rfl (by simp [hlt']) ⟨⟨_, rfl⟩, trivial⟩ (whole _) (fun w h => ⟨hs.same h.base, fun _ _ => by simp [BlkIn]⟩) (fun w h => ?_) ⟨w1, Kept.refl _ _, hk, trivial, fun i j hi hj hn => by simp [keys] at hi hj <;> omega⟩
    refine den_norm (by simp only [List.cons_append, List.nil_append, boolE]; rfl) ?_
    refine den_split (fun he => ?_) (fun he => ?_)
    · have he' : (L[j] == v) = true := by simpa [BE.den, nth, vbool, Bool.beq_comm] using he
      refine den_leaf_ne (by decide) (den_leaf ?_)
      simp only [denL, SV.den, IE.den, nth, vint]
      rw [idxFrom_found _ L 0 j L[j] (by simp [hlt']) he' (fun i y hi hy => hI i y hi hy)]
      simp
    · have he' : (L[j] == v) = false := by simpa [BE.den, nth, vbool, Bool.beq_comm] using he
      have hjm : (j : Int) < 4611686018427387904 := by omega
      refine den_ob64 (by simp only [IE.den, nth, vint]; omega) (den_next rfl hlt' fun w _ i y hi hy => ?_)
      by_cases hij : i = j
      · subst hij
        simp only [List.getElem?_eq_getElem hlt', Option.some.injEq] at hy
        rw [← hy]; exact he'
      · exact hI i y (by omega) hy
  · have hge' : L.length ≤ j := by simpa [BE.den, IE.den, nth, vint, vlen] using hge
    refine den_leaf_ne (by decide) (den_leaf ?_)
    simp only [denL, SV.den, IE.den]
    rw [idxFrom_none _ L 0 (fun i y hy => hI i y (Nat.lt_of_lt_of_le (List.getElem?_eq_some_iff.1 hy).1 hge') hy)]
/-- all(l ...): whether all conditions hold -/
theorem all_bools {P : Program} (hmix : P.follows .mixedOrders = true) {fa fc fi : Nat}
    (ta : exFn { P := P } fa [.var 0] [.slice] [] = VC.call fc [SV.var 0, SV.bool (BE.lit false)] [Base.bool] (SV.bool (BE.var 1)) [] false [] [] [] [] (VC.leaf 0 [SV.bool (BE.not (BE.var 1))] [] []))
    (tc : exFn { P := P } fc [.var 0, .bool (.var 1)] [.slice, .bool] [] = VC.call fi [SV.var 0, SV.bool (BE.var 1)] [Base.int IntKind.i64] (SV.int IntKind.i64 (IE.var 2)) [] false [] [] [] [] (VC.leaf 0 [SV.bool (BE.le (IE.lit 0) (IE.var 2))] [] []))
    (hi : ∀ (s : Value) (L : List Bool) (v : Bool) (w : World), L.length < 4611686018427387904 → Arr boolE w s L → Gives P fi [s, .bool v] w (.int .i64 (idxFrom (fun _ x => x == v) 0 L)))
    (s : Value) (L : List Bool) (w : World) (hm : L.length < 4611686018427387904) (hs : Arr boolE w s L) : Gives P fa [s] w (.bool (L.all id)) := by
  obtain ⟨a, c, rfl⟩ := hs.slice
  refine gives hmix ta rfl rfl (ε := [.slice a L.length c]) ⟨⟨_, _, _, rfl⟩, trivial⟩ ?_
  refine den_call_bool (b := !(L.all id)) (fun w h => ?_) rfl (fun w w' _ _ => den_leaf (by simp [denL, SV.den, BE.den, nth, vbool]))
  refine (gives hmix tc rfl rfl (ε := [.slice a L.length c, .bool false]) ⟨⟨_, _, _, rfl⟩, ⟨_, rfl⟩, trivial⟩ ?_)
  exact den_call_int (fun w1 h1 => hi _ L false w1 hm ((hs.same h.base).same h1.base)) rfl (fun w w' _ _ => den_leaf (by
    simp only [denL, SV.den, BE.den, IE.den, nth, vint, List.cons_append, List.nil_append, leB_eq]
    rw [idxFrom_all]))

section
variable {G : Ctx} {Λ : Nat → List Value → World → Prop} {ε : List Value} {wx ws : World} {X : Nat → Prop} {k k' : VC}
/-- a call of 'all' at a list of conditions written out -/
theorem den_all {f kb n m : Nat} {drawn : Bool} {t t' un : List Nat} {fs : Facts} (cs : List SV) (hall : ∀ (s : Value) (L : List Bool) (w : World), L.length < 4611686018427387904 → Arr boolE w s L → Gives G.P f [s] w (.bool (L.all id)))
    (hf : findH fs kb = some cs) (hb : isBools cs = true) (hm : cs.length = m) (hm2 : m < 4611686018427387904) (hn : ∀ v, nth (ε ++ [v]) n = v)
    (hk : ∀ w w', Shown G ε t fs wx w → Same w w' → k.den G Λ (ε ++ [.bool ((boolsOf ε cs).all id)]) w' (if drawn then ws else w') (if drawn then X else BlkIn ε t')) :
    (VC.call f [SV.slc kb 0 m m] [Base.bool] (SV.bool (BE.var n)) [] drawn t t' un fs k).den G Λ ε wx ws X := by
  refine den_call_bool (b := (boolsOf ε cs).all id) (fun w h => ?_) (hn _) hk
  have hfa := findH_facts h.facts hf
  rw [boolsOf_den ε hb] at hfa
  have hlen : ((boolsOf ε cs).map Value.bool).length = m := by simp [boolsOf, hm]
  have hr := hfa.reads 0 m m 1 (by omega)
  refine hall _ _ _ (by simp [boolsOf, hm]; exact hm2) ?_
  have e : (((boolsOf ε cs).map Value.bool).drop 0).take (m * 1) = (boolsOf ε cs).flatMap boolE.enc := by
    rw [List.drop_zero, Nat.mul_one, List.take_of_length_le (by omega)]
    induction boolsOf ε cs with
    | nil => rfl
    | cons b l ih => simp [boolE] at ih ⊢; exact ih
  rw [e] at hr
  have hl2 : (boolsOf ε cs).length = m := by simp [boolsOf, hm]
  show Reads w _ 1 (boolsOf ε cs).length _
  rw [hl2]
  exact hr
end
end Go.Sx
