/- Part W of a symbolic run of Go code by computation: its states, conditions and the proof that a condition that holds says what the function returns. No conditions of its own. -/
import Derived.Test.YtppbapnibpeolaaSxV
import Derived.RangeFuncOwn
import Derived.Laws.Slices
import Derived.Laws.StructEq
import Derived.ChangeKeysEq
set_option linter.unusedVariables false
set_option linter.unusedSimpArgs false
namespace Go.Sx
open Go.RowKit

/-! lists of elements in memory -/
structure Enc (α : Type) where
  enc : α → List Value
  sz : Nat
  len : ∀ x, (enc x).length = sz

/-- the slice holds these elements -/
def Arr {α : Type} (E : Enc α) (w : World) (s : Value) (L : List α) : Prop := Reads w s E.sz L.length (L.flatMap E.enc)

theorem flatMap_length {α : Type} (E : Enc α) : ∀ (L : List α), (L.flatMap E.enc).length = L.length * E.sz
  | [] => by simp
  | x :: L => by rw [List.flatMap_cons, List.length_append, flatMap_length E L, E.len, List.length_cons, Nat.succ_mul, Nat.add_comm]
theorem flatMap_get {α : Type} (E : Enc α) : ∀ (L : List α) (j : Nat) (x : α) (m : Nat) (v : Value), L[j]? = some x → (E.enc x)[m]? = some v → (L.flatMap E.enc)[j * E.sz + m]? = some v
  | [], j, x, m, v, h, _ => by simp at h
  | y :: L, 0, x, m, v, h, hm => by
    simp only [List.getElem?_cons_zero, Option.some.injEq] at h
    subst h
    rw [List.flatMap_cons, Nat.zero_mul, Nat.zero_add, List.getElem?_append_left (List.getElem?_eq_some_iff.1 hm).1]
    exact hm
  | y :: L, j + 1, x, m, v, h, hm => by
    rw [List.flatMap_cons, List.getElem?_append_right (by rw [E.len, Nat.succ_mul]; omega)]
    have e : (j + 1) * E.sz + m - (E.enc y).length = j * E.sz + m := by rw [E.len, Nat.succ_mul]; omega
    rw [e]
    exact flatMap_get E L j x m v (by simpa using h) hm
theorem Arr.slice {α : Type} {E : Enc α} {w : World} {s : Value} {L : List α} (h : Arr E w s L) : ∃ a c, s = .slice a L.length c := Reads.slice h
theorem Arr.elem {α : Type} {E : Enc α} {w : World} {s : Value} {L : List α} (h : Arr E w s L) {j : Nat} {x : α} (hx : L[j]? = some x) (hsz : 0 < E.sz) :
    ∃ ad, vaddr s = some ad ∧ ∀ (m : Nat) v, (E.enc x)[m]? = some v → w.cell? ((ad.add (j * E.sz)).add m) = some v := by
  obtain ⟨ad, had, _⟩ := Reads.cell h (j * E.sz + 0) _ (flatMap_get E L j x 0 ((E.enc x)[0]'(by rw [E.len]; exact hsz)) hx (by simp))
  refine ⟨ad, had, fun m v hv => ?_⟩
  obtain ⟨ad', had', hc⟩ := Reads.cell h (j * E.sz + m) _ (flatMap_get E L j x m v hx hv)
  rw [had] at had'
  cases had'
  rw [add_add]
  exact hc
theorem Reads.kept {w w' : World} {s : Value} {sz n : Nat} {cells : List Value} {M : Nat → Prop} (h : Reads w s sz n cells) (hk : Kept M w w') (hM : ∀ ad, vaddr s = some ad → ad.block < w.heap.size → ¬ M ad.block) : Reads w' s sz n cells :=
  ⟨h.slice, h.len, fun j x hx => let ⟨ad, h1, h2⟩ := h.cell j x hx; ⟨ad, h1, hk.cell h2 (by rw [add_block]; exact hM ad h1 (by have := World.block_lt_of_cell? w _ h2; rwa [add_block] at this))⟩⟩
theorem Arr.kept {α : Type} {E : Enc α} {w w' : World} {s : Value} {L : List α} {M : Nat → Prop} (h : Arr E w s L) (hk : Kept M w w') (hM : ∀ ad, vaddr s = some ad → ad.block < w.heap.size → ¬ M ad.block) : Arr E w' s L := Reads.kept h hk hM
theorem Arr.same {α : Type} {E : Enc α} {w w' : World} {s : Value} {L : List α} (h : Arr E w s L) (hk : Same w w') : Arr E w' s L := Reads.same h hk
/-! rules -/
def LoopΛ (i : Nat) (A : List Value → World → Prop) (Λ : Nat → List Value → World → Prop) : Nat → List Value → World → Prop := fun j vs w => if j = i then A vs w else Λ j vs w

section
variable {G : Ctx} {Λ : Nat → List Value → World → Prop} {ε : List Value} {wx ws : World} {X : Nat → Prop} {k k' : VC}

theorem den_norm {ε' : List Value} (h : ε = ε') (hk : k.den G Λ ε' wx ws X) : k.den G Λ ε wx ws X := h ▸ hk
theorem den_obLe {a b : IE} (h : a.den ε ≤ b.den ε) (hk : k.den G Λ ε wx ws X) : (VC.ob (.le a b) k).den G Λ ε wx ws X := ⟨decide_eq_true h, hk⟩
/-- an addition that stays in the numbers of 64 bits -/
theorem den_ob64 {a : IE} (h : -9223372036854775808 ≤ a.den ε ∧ a.den ε ≤ 9223372036854775807) (hk : k.den G Λ ε wx ws X) : (VC.ob (.le (.lit (-9223372036854775808)) a) (VC.ob (.le a (.lit 9223372036854775807)) k)).den G Λ ε wx ws X :=
  den_obLe h.1 (den_obLe h.2 hk)
theorem den_splitLe {a b : IE} (h : a.den ε ≤ b.den ε → k.den G Λ ε wx ws X) (h' : b.den ε < a.den ε → k'.den G Λ ε wx ws X) : (VC.split (.le a b) k k').den G Λ ε wx ws X :=
  ⟨fun e => h (of_decide_eq_true e), fun e => h' (by have := of_decide_eq_false e; omega)⟩
theorem den_splitLt {a b : IE} (h : a.den ε < b.den ε → k.den G Λ ε wx ws X) (h' : b.den ε ≤ a.den ε → k'.den G Λ ε wx ws X) : (VC.split (.lt a b) k k').den G Λ ε wx ws X :=
  ⟨fun e => h (of_decide_eq_true e), fun e => h' (by have := of_decide_eq_false e; omega)⟩
theorem den_splitEq {a b : IE} (h : a.den ε = b.den ε → k.den G Λ ε wx ws X) (h' : a.den ε ≠ b.den ε → k'.den G Λ ε wx ws X) : (VC.split (.eq a b) k k').den G Λ ε wx ws X :=
  ⟨fun e => h (of_decide_eq_true e), fun e => h' (of_decide_eq_false e)⟩
theorem den_splitNot {b : BE} (h : b.den ε = false → k.den G Λ ε wx ws X) (h' : b.den ε = true → k'.den G Λ ε wx ws X) : (VC.split (.not b) k k').den G Λ ε wx ws X :=
  ⟨fun e => h (by simpa [BE.den] using e), fun e => h' (by simpa [BE.den] using e)⟩
theorem den_leaf_eq {i : Nat} {A : List Value → World → Prop} {vs : List SV} {t : List Nat} {fs : Facts} (h : ∀ w, Shown G ε t fs wx w → A (denL ε vs) w) : (VC.leaf i vs t fs).den G (LoopΛ i A Λ) ε wx ws X :=
  fun w hw => (if_pos rfl).mpr (h w hw)
theorem den_leaf_ne {i j : Nat} {A : List Value → World → Prop} {vs : List SV} {t : List Nat} {fs : Facts} (hne : j ≠ i) (h : (VC.leaf j vs t fs).den G Λ ε wx ws X) : (VC.leaf j vs t fs).den G (LoopΛ i A Λ) ε wx ws X :=
  fun w hw => (if_neg hne).mpr (h w hw)
/-- the same in a region of drawn order -/
theorem den_idxD {i sz off2 : Nat} {e : IE} {bs : List Base} {α : Type} {E : Enc α} {L : List α} (x : α) (j : Nat) (l : List Value) (hsz : E.sz = sz) (hpos : 0 < E.sz) (he : e.den ε = j) (hx : L[j]? = some x) (hl : Fits bs l) (hlc : ∀ (m : Nat) v, l[m]? = some v → (E.enc x)[off2 + m]? = some v)
    (hR : Arr E ws (nth ε i) L) (hX : ∀ ad, vaddr (nth ε i) = some ad → ¬ X ad.block)
    (hk : k.den G Λ (ε ++ l) wx ws X) :
    (VC.ob (.le (.lit 0) e) (VC.ob (.lt e (.len i)) (VC.ob (.not (.nil i)) (VC.load (.elt i 0 e sz off2) bs k)))).den G Λ ε wx ws X := by
  have hj : j < L.length := (List.getElem?_eq_some_iff.1 hx).1
  obtain ⟨a, c, hs⟩ := hR.slice
  obtain ⟨ad, had, hc⟩ := hR.elem hx hpos
  refine ⟨by simp [BE.den, IE.den, he], by simp [BE.den, IE.den, he, hs, vlen]; exact hj, ?_, ?_⟩
  · rw [hs] at had; simp only [vaddr] at had; subst had; simp [BE.den, hs, vnil]
  · refine ⟨l, hl, ⟨(ad.add (j * E.sz)).add off2, ?_, by rw [add_block, add_block]; exact hX ad had, fun m v hv => by rw [add_add]; exact hc _ v (hlc m v hv)⟩, hk⟩
    simp only [SV.den, had, addO, Option.map_some, he, hsz, Int.toNat_natCast]
    simp [Addr.add]
theorem whole (l : List Value) : ∀ (m : Nat) v, l[m]? = some v → l[0 + m]? = some v := fun m v h => by rw [Nat.zero_add]; exact h

/-- the end of a round of a loop that counts up to n -/
def ForA (n : Nat) (Inv : Nat → World → Prop) (j : Nat) : List Value → World → Prop := fun vs w =>
  (∃ j' : Nat, vs = [.int .i64 j'] ∧ j' ≤ n ∧ Inv j' w) ∧ n - (vint (nth vs 0)).toNat < n - (vint (nth [.int .i64 (j : Int)] 0)).toNat
/-- a loop that counts up to n -/
theorem den_for {i : Nat} {vs : List SV} {t t' : List Nat} {fs fs' : Facts} (n : Nat) (Inv : Nat → World → Prop) (h0 : denL ε vs = [.int .i64 ((0 : Nat) : Int)] ∧ ∀ w, Shown G ε t fs wx w → Inv 0 w)
    (hk : ∀ (j : Nat) w', j ≤ n → Inv j w' → Kept G.M G.W0 w' → FactsAt (ε ++ [.int .i64 j]) w' fs' →
      k.den G (LoopΛ i (ForA n Inv j) Λ) (ε ++ [.int .i64 j]) w' w' (BlkIn (ε ++ [.int .i64 j]) t')) :
    (VC.loop i vs [.int .i64] t t' fs fs' k).den G Λ ε wx ws X := by
  refine den_loop (fun ls w' => ∃ j : Nat, ls = [.int .i64 j] ∧ j ≤ n ∧ Inv j w') (fun ls _ => n - (vint (nth ls 0)).toNat) (fun w hw => ⟨0, h0.1, by omega, h0.2 w hw⟩) ?_
  rintro w l w' hw hf ⟨j, rfl, hj, hI⟩ hkept hfa
  exact hk j w' hj hI hkept hfa
theorem den_next {i n j : Nat} {Inv : Nat → World → Prop} {vs : List SV} {t : List Nat} {fs : Facts} (h : denL ε vs = [.int .i64 ((j : Int) + 1)]) (hj : j < n) (hI : ∀ w, Shown G ε t fs wx w → Inv (j + 1) w) : (VC.leaf i vs t fs).den G (LoopΛ i (ForA n Inv j) Λ) ε wx ws X := by
  refine den_leaf_eq fun w hw => ⟨⟨j + 1, by rw [h]; simp, by omega, hI w hw⟩, ?_⟩
  rw [h]
  simp only [nth, vint]
  omega

/-- a call of a function value -/
theorem den_callF {fo : Operand} {argTypes : Array TypeId} {cl : Call} {type : TypeId} {fsv : SV} {vals : List (Operand × SV)} {bs : List Base} {rv : SV} {drawn : Bool} {t t' un : List Nat} {fs : Facts}
    (hcl : cl = { callee := .value fo, args := (vals.map (·.1)).toArray, argTypes := argTypes }) {g : Nat} {caps : List Value} (hf : fsv.den ε = .func (.func g) #[] caps.toArray) (hg : goFunc G.P g = true) (M' : World → Nat → Prop) (R : World → List Value → World → Prop)
    (hF : ∀ w, Shown G ε t fs wx w → ∀ b, M' w b → b < w.heap.size → FpOk G drawn X ε un w b)
    (hc : ∀ w, Shown G ε t fs wx w → Runs G.P g (vals.map (fun p => p.2.den ε) ++ caps) w (M' w) (fun v w' => ∃ l, Fits bs l ∧ v = rv.den (ε ++ l) ∧ R w l w'))
    (hk : ∀ w l w', Shown G ε t fs wx w → Fits bs l → R w l w' → Kept (M' w) w w' → k.den G Λ (ε ++ l) w' (if drawn then ws else w') (if drawn then X else BlkIn ε t')) :
    (VC.gen (.call cl) type ((fo, fsv) :: vals) bs rv [] drawn t t' un fs k).den G Λ ε wx ws X := by
  subst hcl
  intro w hw
  refine ⟨R w, M' w, fun ρ hρ => .inr (.inr ⟨g, ((vals.map (fun p => p.2.den ε)) ++ caps).toArray, w, ?_, Calls.mono (hc w hw).run ?_⟩), hF w hw, allB_intro ?_⟩
  · have h1 : ρ fo = .func (.func g) #[] caps.toArray := by rw [hρ.1, hf]
    have h2 : (vals.map (·.1)).toArray.map ρ = (vals.map (fun p => p.2.den ε)).toArray := by
      have : ∀ l : List (Operand × SV), ValsAt ε ρ l → l.map (fun p => ρ p.1) = l.map (fun p => p.2.den ε) := by
        intro l
        induction l with
        | nil => intro _; rfl
        | cons p l ih => intro h; simp only [List.map_cons]; rw [h.1, ih h.2]
      apply Array.ext'
      simp only [Array.toList_map, List.map_map]
      exact this vals hρ.2
    have hrun := goFunc_run hg ((vals.map (fun p => p.2.den ε)).toArray ++ caps.toArray) w
    simp only [execOp, bare, resolve, h1, Sem.run_bind]
    simp [Deferred.ofValue, h2, invoke]
    simpa using hrun
  · rintro e w' ⟨v, rfl, ⟨l, hl, rfl, hR⟩, h2⟩
    exact ⟨_, rfl, l, hl, rfl, hR, h2, trivial⟩
  · intro l hl w' hR hsame
    have := hk w l w' hw hl hR hsame
    cases drawn <;> exact this
end

/-! lists of conditions -/
section
variable {G : Ctx} {Λ : Nat → List Value → World → Prop} {ε : List Value} {wx ws : World} {X : Nat → Prop} {k k' : VC}
end
end Go.Sx

/- Part X of a symbolic run of Go code by computation: its states, conditions and the proof that a condition that holds says what the function returns. No conditions of its own. -/
set_option linter.unusedVariables false
set_option linter.unusedSimpArgs false
namespace Go.Sx
open Go.RowKit

/-- the slice holds these elements in a block of its own -/
def Mine {α : Type} (E : Enc α) (T : TypeId) (w : World) (s : Value) (L : List α) : Prop :=
  w.ownsRow 0 T E.sz s L.length (L.flatMap E.enc) ∨ (L = [] ∧ ∃ g cur ty, s = .slice (some ⟨g, 0, none⟩) 0 0 ∧ w.heap[g]? = some (.cells cur ty (0, 0)))

theorem Mine.nil {α : Type} {E : Enc α} {T : TypeId} {w : World} : Mine E T w (.slice none 0 0) ([] : List α) := .inl ⟨by simp, .inl ⟨rfl, rfl⟩⟩
theorem Mine.forms {α : Type} {E : Enc α} {T : TypeId} {w : World} {s : Value} {L : List α} (h : Mine E T w s L) : (s = .slice none 0 0 ∧ L = []) ∨ ∃ g c cur ty, s = .slice (some ⟨g, 0, none⟩) L.length c ∧ w.heap[g]? = some (.cells cur ty (0, 0)) ∧ ∀ (j : Nat) u, (L.flatMap E.enc)[j]? = some u → (cur : Array Value)[j]? = some u := by
  rcases h with ⟨hl, ⟨rfl, hn⟩ | ⟨g, cap, cur, rfl, _, hh, _, _, hcs, ht⟩⟩ | ⟨rfl, g, cur, ty, rfl, hh⟩
  · exact .inl ⟨rfl, List.eq_nil_of_length_eq_zero hn⟩
  · refine .inr ⟨g, cap, cur, T, rfl, hh, fun j u hu => ?_⟩
    rw [← ht, List.getElem?_take] at hu
    split at hu
    · rw [Array.getElem?_toList] at hu; exact hu
    · cases hu
  · exact .inr ⟨g, 0, cur, ty, rfl, hh, fun j u hu => by simp at hu⟩
theorem Mine.slice {α : Type} {E : Enc α} {T : TypeId} {w : World} {s : Value} {L : List α} (h : Mine E T w s L) : ∃ a c, s = .slice a L.length c := by
  rcases h.forms with ⟨rfl, rfl⟩ | ⟨g, c, cur, ty, rfl, _⟩
  · exact ⟨none, 0, rfl⟩
  · exact ⟨_, _, rfl⟩
theorem Mine.arr {α : Type} {E : Enc α} {T : TypeId} {w : World} {s : Value} {L : List α} (h : Mine E T w s L) : Arr E w s L := by
  refine ⟨h.slice, flatMap_length E L, fun j x hx => ?_⟩
  rcases h.forms with ⟨rfl, rfl⟩ | ⟨g, c, cur, ty, rfl, hh, hc⟩
  · simp at hx
  · refine ⟨_, rfl, ?_⟩
    rw [addr_add, Nat.zero_add]
    simp [World.cell?, hh, hc j x hx]
theorem Mine.cap {α : Type} {E : Enc α} {T : TypeId} {w : World} {s : Value} {L : List α} (h : Mine E T w s L) : L.length ≤ vcap s := by
  rcases h with ⟨hl, ⟨rfl, hn⟩ | ⟨g, cap, cur, rfl, _, hh, hc, _⟩⟩ | ⟨rfl, g, cur, ty, rfl, hh⟩
  · rw [hn]; exact Nat.zero_le _
  · exact hc
  · exact Nat.zero_le _
theorem Mine.lt {α : Type} {E : Enc α} {T : TypeId} {w : World} {s : Value} {L : List α} (h : Mine E T w s L) {g : Nat} (hg : s.ownBlock = some g) : g < w.heap.size := by
  rcases h.forms with ⟨rfl, rfl⟩ | ⟨g', c, cur, ty, rfl, hh, _⟩
  · cases hg
  · cases hg; exact (Array.getElem?_eq_some_iff.1 hh).1
theorem ownBlock_addr {s : Value} {ad : Addr} (h : vaddr s = some ad) (hs : ∃ a n c, s = .slice a n c) : s.ownBlock = some ad.block := by
  obtain ⟨a, n, c, rfl⟩ := hs
  simp only [vaddr] at h
  subst h
  rfl
theorem Mine.kept {α : Type} {E : Enc α} {T : TypeId} {w w' : World} {s : Value} {L : List α} {M : Nat → Prop} (h : Mine E T w s L) (hk : Kept M w w') (hM : ∀ g, s.ownBlock = some g → ¬ M g) : Mine E T w' s L := by
  rcases h with h | ⟨rfl, g, cur, ty, rfl, hh⟩
  · exact .inl (Kept.owns hk h hM)
  · exact .inr ⟨rfl, g, cur, ty, rfl, (hk.block g (Array.getElem?_eq_some_iff.1 hh).1 (hM g rfl)).trans hh⟩
theorem Mine.same {α : Type} {E : Enc α} {T : TypeId} {w w' : World} {s : Value} {L : List α} (h : Mine E T w s L) (hk : Same w w') : Mine E T w' s L := h.kept hk fun _ _ h => h
theorem Mine.notRec {α : Type} {E : Enc α} {T : TypeId} {w : World} {s : Value} {L : List α} (h : Mine E T w s L) {g : Nat} (hg : s.ownBlock = some g) : ¬ IsRec w g := by
  rintro ⟨o, ho, hi⟩
  rcases h.forms with ⟨rfl, rfl⟩ | ⟨g', c, cur, ty, rfl, hh, _⟩
  · cases hg
  · cases hg
    rw [hh] at ho
    cases ho
    cases hi
/-- append of a list of elements to a slice of one's own -/
theorem run_appendL {P : Program} {α : Type} {E : Enc α} {t₀ ty T : TypeId} {i : TypeInfo} {z : Value} (ht : P.underlying t₀ = some (.slice T)) (hi : P.info? T = some i) (hz : i.zero = some z) (hsize : i.size = E.sz) (hzs : z.cells.size = E.sz) (hsz : 0 < E.sz) (hbs : i.bytes ≤ 1000)
    (h1 : ∀ x, ∀ u ∈ E.enc x, u.oneCell' = true) (w : World) (s : Value) (L : List α) (src : Value) (M : List α) (ho : Mine E T w s L) (hs : Arr E w src M) (hb : L.length + M.length ≤ 65000000000) (hsn : ∀ n c, src = .slice none n c → n = 0 ∧ c = 0) :
    ∃ v' w', (Builtin.append_ #[t₀, t₀] ty #[s, src]).run P w = .ok v' w' ∧ Mine E T w' v' (L ++ M) ∧ Kept (fun b => s.ownBlock = some b ∧ 0 < vcap s) w w' ∧ ((v'.ownBlock = s.ownBlock ∧ vcap v' = vcap s) ∨ ∃ b, v'.ownBlock = some b ∧ w.heap.size ≤ b ∧ vcap s < L.length + M.length) := by
  have hbytes : (L.length + M.length) * i.bytes ≤ 140737488355328 := by have := Nat.mul_le_mul_left (L.length + M.length) hbs; omega
  have h63 : L.length + M.length ≤ maxLen := by simp only [maxLen]; omega
  obtain ⟨a, c, rfl⟩ := hs.slice
  cases a with
  | none =>
    obtain ⟨hm, rfl⟩ := hsn _ _ rfl
    obtain rfl : M = [] := List.eq_nil_of_length_eq_zero hm
    refine ⟨s, w, ?_, by simpa using ho, Kept.refl _ _, .inl ⟨rfl, rfl⟩⟩
    rcases ho with ho | ⟨rfl, g, cur, ty', rfl, hh⟩
    · exact run_append_owned_none w 0 t₀ ty T i E.sz ht hi s _ _ ho
    · simp [Builtin.append_, run_underlying ht, sizeOf, typeInfo, hi, Builtin.lenOf, Builtin.firstCells, storeCells]
  | some a =>
    have hnews : ∀ (j : Nat) u, (M.flatMap E.enc)[j]? = some u → w.cell? (a.add j) = some u := fun j u hu => by
      obtain ⟨ad, had, hc⟩ := Reads.cell hs j u hu
      cases had
      exact hc
    have hlen : (M.flatMap E.enc).length = M.length * E.sz := flatMap_length E M
    have hone : ∀ u ∈ M.flatMap E.enc, u.oneCell' = true := fun u hu => by
      obtain ⟨x, _, hx⟩ := List.mem_flatMap.1 hu
      exact h1 x u hx
    have toOwn : ∀ {w' v'}, w'.ownsRow 0 T E.sz v' (L.length + M.length) (L.flatMap E.enc ++ M.flatMap E.enc) → Mine E T w' v' (L ++ M) := fun h => .inl (by simpa using h)
    have ho2 : (w.ownsRow 0 T E.sz s L.length (L.flatMap E.enc) ∧ ((s = .slice none 0 0) ∨ 0 < vcap s)) ∨ (L = [] ∧ ∃ g cur ty, s = .slice (some ⟨g, 0, none⟩) 0 0 ∧ w.heap[g]? = some (.cells cur ty (0, 0))) := by
      rcases ho with ho | ho
      · rcases ho.2 with ⟨hs', _⟩ | ⟨g, cap, cur, rfl, _, hh, hnc, _⟩
        · exact .inl ⟨ho, .inl hs'⟩
        · by_cases hc : cap = 0
          · subst hc
            obtain rfl : L = [] := List.eq_nil_of_length_eq_zero (by omega)
            exact .inr ⟨rfl, g, cur, T, rfl, hh⟩
          · exact .inl ⟨ho, .inr (by simp only [vcap]; omega)⟩
      · exact .inr ho
    rcases ho2 with ⟨ho, hcap⟩ | ⟨rfl, g, cur, ty', rfl, hh⟩
    · obtain ⟨v', w', hr, ho', hg, _⟩ := run_append_own (P := P) w 0 t₀ ty T i z E.sz i.bytes ht hi hz hsize rfl hzs hsz s L.length _ ho a M.length c _ hlen hnews hone h63 hbytes (Nat.zero_le _)
      refine ⟨v', w', hr, toOwn ho', Kept.of_grownBy hg |>.mono fun b _ h => ⟨h, by rcases hcap with rfl | hcap; cases h; exact hcap⟩, ?_⟩
      rcases ho.2 with ⟨rfl, hL⟩ | ⟨g, cap, cur, rfl, hbg, hgg, hnc, hcm, hcs, htake⟩
      · have hL0 : L = [] := List.eq_nil_of_length_eq_zero hL
        subst hL0
        obtain ⟨v2, w2, hr2, ho2, _, _⟩ := run_append_own (P := P) w w.heap.size t₀ ty T i z E.sz i.bytes ht hi hz hsize rfl hzs hsz (.slice none 0 0) 0 [] (World.ownsRow_nil w _ T E.sz) a M.length c _ hlen hnews hone (by simpa using h63) (by simpa using hbytes) (Nat.le_refl _)
        rw [hr] at hr2
        cases hr2
        rcases ho2.2 with ⟨rfl, _⟩ | ⟨g', _, _, rfl, hge, _⟩
        · exact .inl ⟨rfl, rfl⟩
        · refine .inr ⟨g', rfl, hge, ?_⟩
          rcases Nat.eq_zero_or_pos M.length with h0 | h0
          · have hM0 : M = [] := List.eq_nil_of_length_eq_zero h0
            subst hM0
            have hf := run_firstCells_some (P := P) w i.size 0 a 0 c [] (by simp) (fun j u hu => by simp at hu)
            have hr9 : (Builtin.append_ #[t₀, t₀] ty #[.slice none 0 0, .slice (some a) ([] : List α).length c]).run P w = .ok (.slice none 0 0) w := by
              simp [Builtin.append_, run_underlying ht, sizeOf, typeInfo, hi, Builtin.lenOf, hf, storeCells]
            rw [hr] at hr9
            cases hr9
          · simp only [vcap, List.length_nil]; omega
      · by_cases hroom : L.length + M.length ≤ cap
        · obtain ⟨w2, hr2, _, _⟩ := run_append_fits (P := P) w 0 t₀ ty T i E.sz ht hi hsize g L.length cap _ ho a M.length c _ hlen hnews hone hroom
          rw [hr] at hr2
          cases hr2
          exact .inl ⟨rfl, rfl⟩
        · have hr2 := run_append_grow (P := P) w t₀ ty T i z ht hi hz ⟨g, 0, none⟩ L.length cap (L.flatMap E.enc) (by rw [hsize]; exact flatMap_length E L) (ho.cells (g := g) rfl) a M.length c _ (by rw [hsize]; exact hlen) hnews (by omega) (by simp only [maxLen] at h63; omega) (growslice_fits (by omega) hbytes)
          rw [hr] at hr2
          cases hr2
          exact .inr ⟨_, rfl, Nat.le_refl _, by simp only [vcap]; omega⟩
    · by_cases hM : M = []
      · subst hM
        refine ⟨_, w, ?_, .inr ⟨rfl, g, cur, ty', rfl, hh⟩, Kept.refl _ _, .inl ⟨rfl, rfl⟩⟩
        have hf := run_firstCells_some (P := P) w i.size 0 a 0 c [] (by simp) (fun j u hu => by simp at hu)
        simp [Builtin.append_, run_underlying ht, sizeOf, typeInfo, hi, Builtin.lenOf, hf, storeCells]
      · have hMp : 0 < M.length := List.length_pos_iff.2 hM
        have hr := run_append_grow (P := P) w t₀ ty T i z ht hi hz ⟨g, 0, none⟩ 0 0 [] (by simp) (fun j u hu => by simp at hu) a M.length c _ (by rw [hsize]; exact hlen) hnews (by omega) (by simp only [maxLen, List.length_nil] at h63; omega) (growslice_fits (by omega) (by simpa using hbytes))
        simp only [Nat.zero_add] at hr
        refine ⟨_, _, hr, ?_, (Kept.refl _ w).drew.alloc _, .inr ⟨_, rfl, Nat.le_refl _, by simp only [vcap, List.length_nil]; omega⟩⟩
        obtain ⟨v2, w2, hr2, ho2, _, _⟩ := run_append_own (P := P) w w.heap.size t₀ ty T i z E.sz i.bytes ht hi hz hsize rfl hzs hsz (.slice none 0 0) 0 [] (World.ownsRow_nil w _ T E.sz) a M.length c _ hlen hnews hone (by simpa using h63) (by simpa using hbytes) (Nat.le_refl _)
        have hr3 := run_append_nil (P := P) w t₀ ty T i z ht hi hz a M.length c _ (by rw [hsize]; exact hlen) hnews hMp (by simp only [maxLen, List.length_nil] at h63; omega) (by have := hbytes; simp at this; omega)
        rw [hr3] at hr2
        simp only [Result.ok.injEq] at hr2
        obtain ⟨rfl, rfl⟩ := hr2
        refine .inl ?_
        obtain ⟨e1, e2⟩ := ho2
        refine ⟨by simpa using e1, ?_⟩
        rcases e2 with ⟨e, _⟩ | ⟨g', cap', cur', e, hge, hh', hn, hc, hcs, htk⟩
        · cases e
        · simp only [Value.slice.injEq, Option.some.injEq, Addr.mk.injEq] at e
          obtain ⟨⟨rfl, _⟩, hn', rfl⟩ := e
          refine .inr ⟨_, _, cur', rfl, Nat.zero_le _, ?_, by simpa using hn, hc, hcs, by simpa using htk⟩
          simpa using hh'

/-- no block of these variables is the slice's own -/
def Apart (ε : List Value) (un : List Nat) (s : Value) : Prop := ∀ g, s.ownBlock = some g → 0 < vcap s → ¬ BlkIn ε un g

section
variable {G : Ctx} {Λ : Nat → List Value → World → Prop} {ε : List Value} {wx ws : World} {X : Nat → Prop} {k k' : VC}

theorem Shown.lt {t : List Nat} {fs : Facts} {w : World} (h : Shown G ε t fs wx w) {i b : Nat} (hi : i ∈ keys fs) (hb : blkOf (nth ε i) = some b) : b < w.heap.size := by
  obtain ⟨b', hb', hlt⟩ := facts_lt h.facts i hi
  rw [hb] at hb'
  cases hb'
  exact hlt
theorem Apart.fresh {w : World} {t un : List Nat} {fs : Facts} {s : Value} (h : Shown G ε t fs wx w) (hun : ∀ i ∈ un, i ∈ keys fs) (hs : ∀ g, s.ownBlock = some g → w.heap.size ≤ g) : Apart ε un s := by
  rintro g hg _ ⟨i, hi, hb⟩
  have := h.lt (hun i hi) hb
  have := hs g hg
  omega

/-- append of a slice of elements to a slice of one's own -/
theorem den_appendL {α : Type} {E : Enc α} {t₀ type T : TypeId} {i : TypeInfo} {z : Value} {x y : Operand} {sx sy : SV} {drawn : Bool} {j : Nat} {t t' un : List Nat} {fs : Facts} {cl : Call}
    (hcl : cl = { callee := .builtin .append, args := #[x, y], argTypes := #[t₀, t₀] })
    (ht : G.P.underlying t₀ = some (.slice T)) (hi : G.P.info? T = some i) (hz : i.zero = some z) (hsize : i.size = E.sz) (hzs : z.cells.size = E.sz) (hsz : 0 < E.sz) (hbs : i.bytes ≤ 1000) (h1 : ∀ x, ∀ u ∈ E.enc x, u.oneCell' = true)
    (s src : Value) (L M : List α) (hx : sx.den ε = s) (hy : sy.den ε = src) (hsn : ∀ n c, src = .slice none n c → n = 0 ∧ c = 0)
    (hb : L.length + M.length ≤ 65000000000) (hM : ∀ g, s.ownBlock = some g → 0 < vcap s → G.W0.heap.size ≤ g ∨ G.M g) (hun : ∀ i ∈ un, i ∈ keys fs)
    (hown : ∀ w, Shown G ε t fs wx w → Mine E T w s L ∧ Arr E w src M) (hap : Apart ε un s) (hX : drawn = true → ∀ g, s.ownBlock = some g → 0 < vcap s → X g)
    (hj : ∀ v, nth (ε ++ [v]) j = v)
    (hk : ∀ w s' w', Shown G ε t fs wx w → Mine E T w' s' (L ++ M) → Kept (fun b => s.ownBlock = some b ∧ 0 < vcap s) w w' → ((s'.ownBlock = s.ownBlock ∧ vcap s' = vcap s) ∨ ∃ b, s'.ownBlock = some b ∧ w.heap.size ≤ b ∧ vcap s < L.length + M.length) → Apart ε un s' →
      k.den G Λ (ε ++ [s']) w' (if drawn then ws else w') (if drawn then X else BlkIn ε t')) :
    (VC.gen (.call cl) type [(x, sx), (y, sy)] [Base.slice] (.var j) [] drawn t t' un fs k).den G Λ ε wx ws X := by
  subst hcl
  refine den_genF (fun b => s.ownBlock = some b ∧ 0 < vcap s) (fun w l w' => ∃ v', l = [v'] ∧ Mine E T w' v' (L ++ M) ∧ Kept (fun b => s.ownBlock = some b ∧ 0 < vcap s) w w' ∧ ((v'.ownBlock = s.ownBlock ∧ vcap v' = vcap s) ∨ ∃ b, v'.ownBlock = some b ∧ w.heap.size ≤ b ∧ vcap s < L.length + M.length)) ?_ ?_ ?_
  · rintro w hw g ⟨hg, hcp⟩ hlt
    exact ⟨fun hd => hX hd g hg hcp, fun hl => (hM g hg hcp).resolve_left (by omega), hap g hg hcp, fun _ => (hown w hw).1.notRec hg⟩
  · intro w hw ρ hρ
    have e1 : ρ x = s := by have := hρ (x, sx.den ε) (by simp); rw [this, hx]
    have e2 : ρ y = src := by have := hρ (y, sy.den ε) (by simp); rw [this, hy]
    obtain ⟨v', w', hr, ho', hg, hb'⟩ := run_appendL (P := G.P) (ty := type) ht hi hz hsize hzs hsz hbs h1 w s L src M (hown w hw).1 (hown w hw).2 hb hsn
    obtain ⟨a, c, hsl⟩ := ho'.slice
    refine .inl ⟨v', w', .inl ?_, ⟨[v'], ⟨⟨_, _, _, hsl⟩, trivial⟩, ?_, v', rfl, ho', hg, hb'⟩, hg⟩
    · simp [execOp, bare, resolve, invoke, builtin, e1, e2, hr]
    · simp only [SV.den]; exact (hj _).symm
  · rintro w l w' hw hl' ⟨v', rfl, h2, h3, h4⟩ hs
    refine hk w v' w' hw h2 h3 h4 ?_
    rcases h4 with ⟨hb, hcp⟩ | ⟨b', hb', hle, _⟩
    · intro g hg' hc'; rw [hb] at hg'; rw [hcp] at hc'; exact hap g hg' hc'
    · exact Apart.fresh hw hun fun g hg' => by rw [hb'] at hg'; cases hg'; exact hle
/-- append(s, x): one element more in a slice of one's own -/
theorem den_push {α : Type} {E : Enc α} {t₀ type T : TypeId} {i : TypeInfo} {z : Value} {x y : Operand} {sx : SV} {kb : Nat} {cs : List SV} {drawn : Bool} {j : Nat} {t t' un : List Nat} {fs : Facts} {cl : Call}
    (hcl : cl = { callee := .builtin .append, args := #[x, y], argTypes := #[t₀, t₀] })
    (ht : G.P.underlying t₀ = some (.slice T)) (hi : G.P.info? T = some i) (hz : i.zero = some z) (hsize : i.size = E.sz) (hzs : z.cells.size = E.sz) (hsz : 0 < E.sz) (hbs : i.bytes ≤ 1000) (h1 : ∀ x, ∀ u ∈ E.enc x, u.oneCell' = true)
    (s : Value) (L : List α) (a : α) (hx : sx.den ε = s) (hf : findH fs kb = some cs) (hcs : denL ε cs = E.enc a)
    (hb : L.length + 1 ≤ 65000000000) (hM : ∀ g, s.ownBlock = some g → 0 < vcap s → G.W0.heap.size ≤ g ∨ G.M g) (hun : ∀ i ∈ un, i ∈ keys fs)
    (hown : ∀ w, Shown G ε t fs wx w → Mine E T w s L) (hap : Apart ε un s) (hX : drawn = true → ∀ g, s.ownBlock = some g → 0 < vcap s → X g)
    (hj : ∀ v, nth (ε ++ [v]) j = v)
    (hk : ∀ w s' w', Shown G ε t fs wx w → Mine E T w' s' (L ++ [a]) → Kept (fun b => s.ownBlock = some b ∧ 0 < vcap s) w w' → ((s'.ownBlock = s.ownBlock ∧ vcap s' = vcap s) ∨ ∃ b, s'.ownBlock = some b ∧ w.heap.size ≤ b ∧ vcap s < L.length + 1) → Apart ε un s' →
      k.den G Λ (ε ++ [s']) w' (if drawn then ws else w') (if drawn then X else BlkIn ε t')) :
    (VC.gen (.call cl) type [(x, sx), (y, SV.slc kb 0 1 1)] [Base.slice] (.var j) [] drawn t t' un fs k).den G Λ ε wx ws X := by
  intro w0 hw0
  obtain ⟨b, ty, hb', hh⟩ := findH_facts hw0.facts hf
  refine den_appendL (G := G) (Λ := Λ) (ε := ε) (wx := wx) (ws := ws) (X := X) hcl ht hi hz hsize hzs hsz hbs h1 s (.slice (some ⟨b, 0, none⟩) 1 1) L [a] hx (by simp only [SV.den, hb', vaddr, addO, Option.map_some, addr_add, Nat.zero_add]) (fun n c e => by cases e) hb hM hun ?_ hap hX hj hk w0 hw0
  intro w hw
  refine ⟨hown w hw, ?_⟩
  have hr := (findH_facts hw.facts hf).reads 0 1 1 E.sz (by rw [hcs, E.len]; omega)
  rw [hcs, hb'] at hr
  simp only [vaddr, addO, Option.map_some, addr_add, Nat.zero_add, List.drop_zero, Nat.one_mul] at hr
  rw [List.take_of_length_le (by rw [E.len]; exact Nat.le_refl _)] at hr
  show Reads w _ E.sz 1 _
  simpa using hr
end

/-- the pointer's block holds these cells (and no more is said of it) -/
structure PtsTo (w : World) (p : Value) (l : List Value) : Prop where
  at_ : ∃ b, p = .pointer (some ⟨b, 0, none⟩) ∧ ∀ (m : Nat) v, l[m]? = some v → w.cell? ⟨b, m, none⟩ = some v
theorem HasBlk.pts {w : World} {p : Value} {l : List Value} (h : HasBlk w p l) : PtsTo w p l := by
  obtain ⟨b, hb, hc⟩ := hasBlk_cell h
  exact ⟨b, hb, fun m v hv => by rw [hc]; exact hv⟩
section
variable {G : Ctx} {Λ : Nat → List Value → World → Prop} {ε : List Value} {wx ws : World} {X : Nat → Prop} {k k' : VC}
/-- a read of what an untracked pointer points to -/
theorem den_ldp {i off : Nat} {bs : List Base} {t t' : List Nat} {fs : Facts} (l cells : List Value) (hl : Fits bs l) (hc : ∀ (m : Nat) v, l[m]? = some v → cells[off + m]? = some v)
    (hR : ∀ w, Shown G ε t fs wx w → PtsTo w (nth ε i) cells) (hX : ∀ b, blkOf (nth ε i) = some b → ¬ BlkIn ε t' b)
    (hk : ∀ w, Shown G ε t fs wx w → k.den G Λ (ε ++ l) w w (BlkIn ε t')) :
    (VC.start false t t' fs (VC.load (.ptr i off) bs k)).den G Λ ε wx ws X := by
  intro w hw
  obtain ⟨b, hb, hcell⟩ := (hR w hw).at_
  refine ⟨l, hl, ⟨⟨b, off, none⟩, ?_, hX b (by rw [hb]; rfl), fun m v hv => ?_⟩, hk w hw⟩
  · simp only [SV.den, hb, vaddr, addO, Option.map_some, addr_add, Nat.zero_add]
  · rw [addr_add]; exact hcell _ _ (hc m v hv)
theorem den_ldpD {i off : Nat} {bs : List Base} (l cells : List Value) (hl : Fits bs l) (hc : ∀ (m : Nat) v, l[m]? = some v → cells[off + m]? = some v)
    (hR : PtsTo ws (nth ε i) cells) (hX : ∀ b, blkOf (nth ε i) = some b → ¬ X b)
    (hk : k.den G Λ (ε ++ l) wx ws X) : (VC.load (.ptr i off) bs k).den G Λ ε wx ws X := by
  obtain ⟨b, hb, hcell⟩ := hR.at_
  refine ⟨l, hl, ⟨⟨b, off, none⟩, ?_, hX b (by rw [hb]; rfl), fun m v hv => ?_⟩, hk⟩
  · simp only [SV.den, hb, vaddr, addO, Option.map_some, addr_add, Nat.zero_add]
  · rw [addr_add]; exact hcell _ _ (hc m v hv)
theorem den_notnil {i : Nat} {w : World} {cells : List Value} (h : PtsTo w (nth ε i) cells) (hk : k.den G Λ ε wx ws X) : (VC.ob (.not (.nil i)) k).den G Λ ε wx ws X := by
  obtain ⟨b, hb, _⟩ := h.at_
  exact ⟨by simp [BE.den, hb, vnil], hk⟩
end
end Go.Sx

/- Part Y of a symbolic run of Go code by computation: its states, conditions and the proof that a condition that holds says what the function returns. No conditions of its own. -/
set_option linter.unusedVariables false
set_option linter.unusedSimpArgs false
namespace Go.Sx
open Go.RowKit

theorem run_sliceB {P : Program} (n c : Nat) (lo hi mx : Option Int) (l h m : Nat) (hm : (mx = none ∧ m = c) ∨ (mx = some (m : Int) ∧ m ≤ c)) (hh : (hi = none ∧ mx = none ∧ h = n) ∨ (hi = some (h : Int) ∧ h ≤ m)) (hl : (lo = none ∧ l = 0) ∨ (lo = some (l : Int) ∧ l ≤ h)) (w : World) :
    (Instr.sliceBounds true n c (lo.map (.int .i64)) (hi.map (.int .i64)) (mx.map (.int .i64))).run P w = .ok (l, h, m) w := by
  unfold Instr.sliceBounds
  rcases hm with ⟨rfl, rfl⟩ | ⟨rfl, hm⟩
  · rcases hh with ⟨rfl, _, rfl⟩ | ⟨rfl, hh⟩
    · rcases hl with ⟨rfl, rfl⟩ | ⟨rfl, hl⟩
      · simp
      · simp [run_sliceBound, hl]
    · rcases hl with ⟨rfl, rfl⟩ | ⟨rfl, hl⟩
      · simp [run_sliceBound, hh]
      · simp [run_sliceBound, hl, hh]
  · rcases hh with ⟨rfl, h0, rfl⟩ | ⟨rfl, hh⟩
    · cases h0
    · rcases hl with ⟨rfl, rfl⟩ | ⟨rfl, hl⟩
      · simp [run_sliceBound, hh, hm]
      · simp [run_sliceBound, hl, hh, hm]
theorem run_sliceL {P : Program} {t T : TypeId} (ht : P.underlying t = some (.slice T)) {sz : Nat} (hsz : sizeT P T = some sz) (a : Option Addr) (n c : Nat) (lo hi mx : Option Int) (l h m : Nat) (hm : (mx = none ∧ m = c) ∨ (mx = some (m : Int) ∧ m ≤ c)) (hh : (hi = none ∧ mx = none ∧ h = n) ∨ (hi = some (h : Int) ∧ h ≤ m)) (hl : (lo = none ∧ l = 0) ∨ (lo = some (l : Int) ∧ l ≤ h)) (w : World) :
    (Instr.sliceAt t (.slice a n c) (lo.map (.int .i64)) (hi.map (.int .i64)) (mx.map (.int .i64))).run P w = .ok (sliced a l h m sz) w := by
  have hb := run_sliceB (P := P) n c lo hi mx l h m hm hh hl w
  have hs := run_size (P := P) hsz w
  simp [Instr.sliceAt, run_underlying ht, Instr.slice, hb, hs, sliced]

theorem Arr.sub {α : Type} {E : Enc α} {w : World} {a : Option Addr} {n c : Nat} {L : List α} (h : Arr E w (.slice a n c) L) {l k m : Nat} (hl : l ≤ k) (hk : k ≤ n) (hm : k ≤ m) : Arr E w (sliced a l k m E.sz) ((L.take k).drop l) := by
  obtain ⟨a', c', e⟩ := h.slice
  have hn : n = L.length := by cases e; rfl
  subst hn
  refine ⟨⟨_, _, by simp only [sliced, List.length_drop, List.length_take]; rw [Nat.min_eq_left hk]⟩, flatMap_length E _, fun j x hx => ?_⟩
  have hget : ∀ (L : List α) (j : Nat), ((L.take k).drop l).flatMap E.enc = ((L.flatMap E.enc).take (k * E.sz)).drop (l * E.sz) := by
    intro L j
    have ht : ∀ (k : Nat) (L : List α), (L.take k).flatMap E.enc = (L.flatMap E.enc).take (k * E.sz) := by
      intro k
      induction k with
      | zero => intro L; simp
      | succ k ih =>
        intro L
        cases L with
        | nil => simp
        | cons y L =>
          rw [List.take_succ_cons, List.flatMap_cons, List.flatMap_cons, ih, List.take_append, E.len, Nat.succ_mul]
          rw [List.take_of_length_le (l := E.enc y) (by rw [E.len]; omega)]
          congr 2
          omega
    have hd : ∀ (k : Nat) (L : List α), (L.drop k).flatMap E.enc = (L.flatMap E.enc).drop (k * E.sz) := by
      intro k
      induction k with
      | zero => intro L; simp
      | succ k ih =>
        intro L
        cases L with
        | nil => simp
        | cons y L =>
          rw [List.drop_succ_cons, List.flatMap_cons, ih, List.drop_append, E.len, Nat.succ_mul]
          rw [List.drop_of_length_le (l := E.enc y) (by rw [E.len]; omega)]
          simp
    rw [hd, ht]
  rw [hget L j, List.getElem?_drop] at hx
  rw [List.getElem?_take] at hx
  split at hx
  · rename_i hlt
    obtain ⟨ad, had, hc⟩ := Reads.cell h _ _ hx
    cases had
    have hml : m ≠ l := by
      intro e
      have hkl : k = l := by omega
      subst hkl
      omega
    refine ⟨ad.add (l * E.sz), by simp [sliced, hml, vaddr], ?_⟩
    rw [add_add]
    exact hc
  · cases hx

theorem sliced0 (g h m sz : Nat) : sliced (some ⟨g, 0, none⟩) 0 h m sz = .slice (some ⟨g, 0, none⟩) h m := by simp [sliced, Addr.add]

theorem PtsTo.lt {w : World} {p : Value} {l : List Value} (h : PtsTo w p l) (hl : l ≠ []) : ∀ b, blkOf p = some b → b < w.heap.size := by
  obtain ⟨b, rfl, hc⟩ := h.at_
  intro b' hb'
  cases l with
  | nil => exact absurd rfl hl
  | cons v l =>
    have := World.block_lt_of_cell? w _ (hc 0 v rfl)
    simp only [blkOf, vaddr, Option.map_some, Option.some.injEq] at hb'
    simp only at this
    omega
theorem Arr.lt {α : Type} {E : Enc α} {w : World} {s : Value} {L : List α} (h : Arr E w s L) {j : Nat} {x : α} (hx : L[j]? = some x) (hsz : 0 < E.sz) : ∀ ad, vaddr s = some ad → ad.block < w.heap.size := by
  intro ad had
  obtain ⟨ad', had', hc⟩ := h.elem hx hsz
  rw [had] at had'
  cases had'
  have := World.block_lt_of_cell? w _ (hc 0 ((E.enc x)[0]'(by rw [E.len]; exact hsz)) (by simp))
  rwa [add_block, add_block] at this

section
variable {G : Ctx} {Λ : Nat → List Value → World → Prop} {ε : List Value} {wx ws : World} {X : Nat → Prop} {k k' : VC}
/-- s[lo:hi:mx] -/
theorem den_slice {t₀ T type : TypeId} {x : Operand} {lo hi mx : Option Operand} {vals : List (Operand × SV)} {j : Nat} (a : Option Addr) (n c : Nat) (lo' hi' mx' : Option Int) (l h m sz : Nat)
    (ht : G.P.underlying t₀ = some (.slice T)) (hsz : sizeT G.P T = some sz) (hx : ∀ ρ, ValsAt ε ρ vals → ρ x = .slice a n c) (hlo : ∀ ρ, ValsAt ε ρ vals → lo.map ρ = lo'.map (.int .i64)) (hhi : ∀ ρ, ValsAt ε ρ vals → hi.map ρ = hi'.map (.int .i64)) (hmx : ∀ ρ, ValsAt ε ρ vals → mx.map ρ = mx'.map (.int .i64))
    (hm : (mx' = none ∧ m = c) ∨ (mx' = some (m : Int) ∧ m ≤ c)) (hh : (hi' = none ∧ mx' = none ∧ h = n) ∨ (hi' = some (h : Int) ∧ h ≤ m)) (hl : (lo' = none ∧ l = 0) ∨ (lo' = some (l : Int) ∧ l ≤ h))
    (hj : ∀ v, nth (ε ++ [v]) j = v) (hk : k.den G Λ (ε ++ [sliced a l h m sz]) wx ws X) :
    (VC.pur (.slice t₀ x lo hi mx) type vals [Base.slice] (.var j) k).den G Λ ε wx ws X := by
  refine ⟨[sliced a l h m sz], ⟨⟨_, _, _, rfl⟩, trivial⟩, fun ρ hρ w' _ => ?_, hk⟩
  have hr := run_sliceL (P := G.P) ht hsz a n c lo' hi' mx' l h m hm hh hl w'
  simp only [SV.den, hj]
  simp [execOp, bare, hx ρ hρ, hlo ρ hρ, hhi ρ hρ, hmx ρ hρ, hr]
end
end Go.Sx

/- Part Z of a symbolic run of Go code by computation: its states, conditions and the proof that a condition that holds says what the function returns. No conditions of its own. -/
set_option linter.unusedVariables false
set_option linter.unusedSimpArgs false
namespace Go.Sx
open Go.RowKit

section
variable {G : Ctx} {Λ : Nat → List Value → World → Prop} {ε : List Value} {wx ws : World} {X : Nat → Prop} {k k' : VC}
end

/-! comparison of structs of plain cells -/
def eqV : Value → Value → Bool
  | .int _ a, .int _ b => decide (a = b)
  | .bool a, .bool b => a == b
  | _, _ => false
theorem eqV_int (k k' : IntKind) (a b : Int) : eqV (.int k a) (.int k' b) = decide (a = b) := rfl
theorem eqV_bool (a b : Bool) : eqV (.bool a) (.bool b) = (a == b) := rfl
structure FlatField (P : Program) (xs ys : Array Value) (f : Field) : Prop where
  name : f.name ≠ "_"
  plain : isAggT P f.type = some false
  kind : (∃ k a b, P.underlying f.type = some (.int k) ∧ xs[f.offset]? = some (.int k a) ∧ ys[f.offset]? = some (.int k b)) ∨ (∃ a b, P.underlying f.type = some .bool ∧ xs[f.offset]? = some (.bool a) ∧ ys[f.offset]? = some (.bool b))
theorem run_part1 {P : Program} {t : TypeId} (ha : isAggT P t = some false) {xs : Array Value} {i : Nat} {v : Value} (h : xs[i]? = some v) (w : World) : (part t xs i).run P w = .ok v w := by
  have h1 := run_isAgg (P := P) ha w
  simp [part, h1, h]
theorem run_eqFlat {P : Program} (d : Nat) (xs ys : Array Value) (w : World) : ∀ fs : List Field, (∀ f ∈ fs, FlatField P xs ys f) → (Op.eqFields (d + 1) xs ys fs).run P w = .ok (fs.all fun f => eqV (xs[f.offset]?.getD undef) (ys[f.offset]?.getD undef)) w
  | [], _ => by simp [Op.eqFields]
  | f :: fs, h => by
    have hf := h f (by simp)
    have ih := run_eqFlat d xs ys w fs (fun g hg => h g (by simp [hg]))
    simp only [Op.eqFields]
    rw [if_pos hf.name]
    rcases hf.kind with ⟨k, a, b, hu, hx, hy⟩ | ⟨a, b, hu, hx, hy⟩
    · have e := run_equalIn_int (P := P) w d f.type k k a b hu
      simp only [Sem.run_bind, run_part1 hf.plain hx, run_part1 hf.plain hy, Result.andThen_ok, e, List.all_cons, hx, hy, Option.getD_some, eqV_int, eqV_bool]
      by_cases hab : a = b
      · subst hab; simp [ih]
      · simp [hab]
    · have e := run_equalIn_bool' (P := P) w d f.type a b hu
      simp only [Sem.run_bind, run_part1 hf.plain hx, run_part1 hf.plain hy, Result.andThen_ok, e, List.all_cons, hx, hy, Option.getD_some, eqV_int, eqV_bool]
      cases a <;> cases b <;> simp [ih]
theorem run_neqFlat {P : Program} {t : TypeId} (ht : P.underlying t = some (.struct (P.fieldsOf t))) (hp : P.stoodInHeld t = false) (hg : P.eqGuardType P.depth t = false) (xs ys : Array Value) (h : ∀ f ∈ (P.fieldsOf t).toList, FlatField P xs ys f) (ρ : Operand → Value) (x y : Operand) (p : Nat) (type : TypeId) (hx : ρ x = .agg xs) (hy : ρ y = .agg ys) (w : World) :
    (execOp ρ (bare (.binOp .neq t x y p) type)).run P w = .ok (.value (.bool !((P.fieldsOf t).toList.all fun f => eqV (xs[f.offset]?.getD undef) (ys[f.offset]?.getD undef)))) w := by
  have h1 := run_eqFlat (P := P) 9998 xs ys w _ h
  have h2 := run_equalIn_struct w 9999 t xs ys ht hp
  have h3 := run_eqGuard_agg w .neq t x y xs ys hg
  have h4 := run_neq_struct (P := P) w t xs ys
  rw [h2, h1] at h4
  simp [execOp, bare, hx, hy, h3, h4, Result.andThen]
end Go.Sx
