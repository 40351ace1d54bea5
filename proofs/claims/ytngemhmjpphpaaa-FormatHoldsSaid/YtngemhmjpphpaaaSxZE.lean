/- Part ZD of a symbolic run of Go code by computation: its states, conditions and the proof that a condition that holds says what the function returns. No conditions of its own. -/
import Derived.Test.YtngemhmjpphpaaaSxZC
import Derived.Carry
import Derived.OpenShut
import Derived.ProofKit
set_option linter.unusedVariables false
set_option linter.unusedSimpArgs false
namespace Go.Sx
open Go.RowKit Go.ChangeShapes Go.WideShapes Go.ChangeAt

theorem list_of_each {α : Type} {p : Nat → α → Prop} : ∀ (n : Nat), (∀ i, i < n → ∃ x, p i x) → ∃ L : List α, L.length = n ∧ ∀ (i : Nat) x, L[i]? = some x → p i x
  | 0, _ => ⟨[], rfl, fun i x h => by simp at h⟩
  | n + 1, h => by
    obtain ⟨L, hl, hL⟩ := list_of_each n fun i hi => h i (by omega)
    obtain ⟨x, hx⟩ := h n (by omega)
    refine ⟨L ++ [x], by simp [hl], fun i y hy => ?_⟩
    by_cases hi : i < L.length
    · exact hL i y (by rwa [List.getElem?_append_left hi] at hy)
    · rw [List.getElem?_append_right (by omega)] at hy
      have : i - L.length = 0 := by
        have := (List.getElem?_eq_some_iff.1 hy).1
        simp at this
        omega
      rw [this] at hy
      cases hy
      rw [show i = n by omega]
      exact hx
theorem flatMap_at {α : Type} (E : Enc α) : ∀ (L : List α) (k : Nat) (v : Value), (L.flatMap E.enc)[k]? = some v → ∃ (i : Nat) (x : α) (m : Nat), L[i]? = some x ∧ (E.enc x)[m]? = some v ∧ k = i * E.sz + m
  | [], k, v, h => by simp at h
  | y :: L, k, v, h => by
    rw [List.flatMap_cons] at h
    by_cases hk : k < (E.enc y).length
    · rw [List.getElem?_append_left hk] at h
      exact ⟨0, y, k, rfl, h, by simp⟩
    · rw [List.getElem?_append_right (by omega)] at h
      obtain ⟨i, x, m, h1, h2, h3⟩ := flatMap_at E L _ v h
      refine ⟨i + 1, x, m, by simpa using h1, h2, ?_⟩
      rw [E.len] at h3 hk
      rw [Nat.succ_mul]
      omega

section
variable {H : Type} {enc : TypeId × Value → H} {P : Program} {w : World} {base : Nat} {spare : Nat → Bool} {held : Bool}

/-- a slice that is read as data holds a list of elements -/
theorem trod_arr {α : Type} {E : Enc α} {t e : TypeId} {fuel : Nat} {cs : List Value} {x : DataW H × List MemPlace} (ht : P.underlying t = some (.slice e)) (hc : P.cellsOf e = E.sz)
    (dec : ∀ n cs y, DataW.trod enc P w base spare held n e cs = some y → ∃ a, cs = E.enc a) (h : DataW.trod enc P w base spare held fuel t cs = some x) :
    ∃ (v : Value) (L : List α), cs = [v] ∧ Arr E w v L ∧ (∀ n c, v = .slice none n c → n = 0 ∧ c = 0) ∧ L.length ≤ vcap v ∧ vcap v ≤ maxLen := by
  rcases DataW.trod_slice ht h with ⟨rfl, _⟩ | ⟨a, len, cap, elems, rest, n, _, rfl, _, hb, hl, hm, hlen, hel, _⟩
  · exact ⟨_, [], rfl, ⟨⟨none, 0, rfl⟩, by simp, fun j x hx => by simp at hx⟩, fun n c e => by cases e; exact ⟨rfl, rfl⟩, Nat.zero_le _, Nat.zero_le _⟩
  · have each : ∀ i, i < len → ∃ x : α, w.cells? base (a.add (i * P.cellsOf e)) (P.cellsOf e) = some (E.enc x) := by
      intro i hi
      have h1 := hel i hi
      have h2 : elems[i]? = some (elems[i]'(by omega)) := by simp [hlen, hi]
      rw [h2, Option.bind_eq_some_iff] at h1
      obtain ⟨c1, hc1, hy⟩ := h1
      obtain ⟨x, rfl⟩ := dec _ _ _ hy
      exact ⟨x, hc1⟩
    obtain ⟨L, hL, hp⟩ := list_of_each len each
    refine ⟨_, L, rfl, ⟨⟨some a, cap, by rw [hL]⟩, flatMap_length E L, fun k v hv => ⟨a, rfl, ?_⟩⟩, fun n c e => (by cases e), by simp only [vcap]; omega, hm⟩
    obtain ⟨i, x, m, h1, h2, rfl⟩ := flatMap_at E L k v hv
    have h3 := World.cells?_some (hp i x h1)
    have h4 := h3.2.2 m (by rw [hc, ← E.len x]; exact (List.getElem?_eq_some_iff.1 h2).1)
    rw [add_add, hc] at h4
    rw [h4, h2]
/-- a struct whose fields are a cell each -/
theorem trod_cells {t : TypeId} {fs : Array Field} {ts : List TypeId} {fuel : Nat} {cs : List Value} {x : DataW H × List MemPlace} (ht : P.underlying t = some (.struct fs)) (hfs : fs.toList.map (fun f => (f.offset, f.type)) = (List.range ts.length).zip ts)
    (hone : ∀ u ∈ ts, P.cellsOf u = 1) (hn : P.cellsOf t = ts.length) (h : DataW.trod enc P w base spare held fuel t cs = some x) :
    cs.length = ts.length ∧ ∀ (i : Nat) u, ts[i]? = some u → ∃ n c y, cs[i]? = some c ∧ DataW.trod enc P w base spare held n u [c] = some y := by
  obtain ⟨xs, n, _, _, hl, hxl, hf⟩ := DataW.trod_struct ht h
  refine ⟨by rw [hl, hn], fun i u hu => ?_⟩
  have hi := (List.getElem?_eq_some_iff.1 hu).1
  have h1 : (fs.toList.map (fun f => (f.offset, f.type)))[i]? = some (i, u) := by
    rw [hfs, List.getElem?_zip_eq_some]
    exact ⟨by simp [hi], hu⟩
  rw [List.getElem?_map, Option.map_eq_some_iff] at h1
  obtain ⟨f, hff, he⟩ := h1
  simp only [Prod.mk.injEq] at he
  obtain ⟨ho, hu'⟩ := he
  subst hu'
  have h2 := hf i f (by rw [← Array.getElem?_toList, hff])
  have h3 : xs[i]? = some (xs[i]'(by rw [hxl, ← Array.length_toList]; exact (List.getElem?_eq_some_iff.1 hff).1)) := by simp
  rw [hone f.type (List.mem_of_getElem? hu), h3, ho] at h2
  have hlt : i < cs.length := by rw [hl, hn]; exact hi
  have e : (cs.drop i).take 1 = [cs[i]] := by
    rw [List.drop_eq_getElem_cons hlt]
    rfl
  rw [e] at h2
  exact ⟨n, cs[i], _, by simp [hlt], h2⟩
end
end Go.Sx

/- Part ZE of a symbolic run of Go code by computation: its states, conditions and the proof that a condition that holds says what the function returns. No conditions of its own. -/
set_option linter.unusedVariables false
set_option linter.unusedSimpArgs false
namespace Go.Sx
open Go.RowKit

theorem Arr.none {α : Type} {E : Enc α} {w : World} {n c : Nat} {L : List α} (hsz : 0 < E.sz) (h : Arr E w (.slice none n c) L) : L = [] ∧ n = 0 := by
  obtain ⟨a, c', e⟩ := h.slice
  cases L with
  | nil => cases e; exact ⟨rfl, rfl⟩
  | cons x L =>
    obtain ⟨ad, had, _⟩ := h.elem (j := 0) (x := x) rfl hsz
    cases had
/-- a slice that is given: nil has no length -/
def Given {α : Type} (E : Enc α) (w : World) (s : Value) (L : List α) : Prop := Arr E w s L ∧ (∀ n c, s = .slice none n c → n = 0 ∧ c = 0) ∧ L.length ≤ vcap s ∧ ∀ ad, vaddr s = some ad → ad.block < w.heap.size
theorem Given.same {α : Type} {E : Enc α} {w w' : World} {s : Value} {L : List α} (h : Given E w s L) (hk : Same w w') : Given E w' s L := ⟨h.1.same hk, h.2.1, h.2.2.1, fun ad had => Nat.lt_of_lt_of_le (h.2.2.2 ad had) hk.size⟩
theorem Given.kept {α : Type} {E : Enc α} {w w' : World} {s : Value} {L : List α} {M : Nat → Prop} (h : Given E w s L) (hk : Kept M w w') (hM : ∀ ad, vaddr s = some ad → ¬ M ad.block) : Given E w' s L :=
  ⟨h.1.kept hk fun ad had _ => hM ad had, h.2.1, h.2.2.1, fun ad had => Nat.lt_of_lt_of_le (h.2.2.2 ad had) hk.size⟩
theorem Mine.own {α : Type} {E : Enc α} {T : TypeId} {w : World} {s : Value} {L : List α} (h : Mine E T w s L) {ad : Addr} (had : vaddr s = some ad) : s.ownBlock = some ad.block :=
  ownBlock_addr had (let ⟨a, c, e⟩ := h.slice; ⟨a, _, c, e⟩)
theorem Mine.given {α : Type} {E : Enc α} {T : TypeId} {w : World} {s : Value} {L : List α} (h : Mine E T w s L) : Given E w s L := by
  refine ⟨h.arr, fun n c e => ?_, h.cap, fun ad had => h.lt (h.own had)⟩
  rcases h.forms with ⟨rfl, rfl⟩ | ⟨g, c', cur, ty, rfl, _⟩
  · cases e; exact ⟨rfl, rfl⟩
  · cases e
theorem given_nil {α : Type} {E : Enc α} {w : World} : Given E w (.slice none 0 0) ([] : List α) :=
  ⟨⟨⟨none, 0, rfl⟩, by simp, fun j x hx => by simp at hx⟩, fun n c e => by cases e; exact ⟨rfl, rfl⟩, Nat.zero_le _, fun ad had => by cases had⟩

section
variable {G : Ctx} {Λ : Nat → List Value → World → Prop} {ε : List Value} {wx ws : World} {X : Nat → Prop} {k k' : VC}
/-- a read of an element of a slice, its bounds known -/
theorem den_ldi {i sz off2 : Nat} {e : IE} {bs : List Base} {t t' : List Nat} {fs : Facts} {α : Type} {E : Enc α} {L : List α} (x : α) (j : Nat) (l : List Value) (hsz : E.sz = sz) (hpos : 0 < E.sz) (he : e.den ε = j) (hx : L[j]? = some x) (hl : Fits bs l) (hlc : ∀ (m : Nat) v, l[m]? = some v → (E.enc x)[off2 + m]? = some v)
    (hR : ∀ w, Shown G ε t fs wx w → Arr E w (nth ε i) L) (hX : ∀ ad, vaddr (nth ε i) = some ad → ¬ BlkIn ε t' ad.block)
    (hk : ∀ w, Shown G ε t fs wx w → k.den G Λ (ε ++ l) w w (BlkIn ε t')) :
    (VC.start false t t' fs (VC.load (.elt i 0 e sz off2) bs k)).den G Λ ε wx ws X := by
  intro w hw
  obtain ⟨ad, had, hc⟩ := (hR w hw).elem hx hpos
  refine ⟨l, hl, ⟨(ad.add (j * E.sz)).add off2, ?_, ?_, fun m v hv => by rw [add_add]; exact hc _ v (hlc m v hv)⟩, hk w hw⟩
  · simp only [SV.den, had, addO, Option.map_some, he, hsz, Int.toNat_natCast]
    simp [Addr.add]
  · rw [add_block, add_block]
    exact hX ad had
end

/-- slices.Clone -/
theorem clone_slice {P : Program} (hmix : P.follows .mixedOrders = true) {α : Type} {E : Enc α} {f ty T : Nat} {i : TypeInfo} {z : Value}
    (t : exFn { P := P } f [.var 0] [.slice] [] = VC.split (BE.nil 0) (VC.leaf 0 [SV.cst (Value.slice none 0 0)] [] [])
      (VC.blk
        (VC.gen (Op.call { callee := Callee.builtin Builtin.append, args := { toList := [Operand.tmp 5, Operand.tmp 6] }, argTypes := { toList := [ty, ty] } }) ty
          [(Operand.tmp 5, SV.slc 1 0 0 0), (Operand.tmp 6, SV.var 0)] [Base.slice] (SV.var 2) [] false [] [] [1] [(1, [])] (VC.leaf 0 [SV.var 2] [] [(1, [])]))))
    (ht : P.underlying ty = some (.slice T)) (hi : P.info? T = some i) (hz : i.zero = some z) (hsize : i.size = E.sz) (hzs : z.cells.size = E.sz) (hsz : 0 < E.sz) (hbs : i.bytes ≤ 1000) (h1 : ∀ x, ∀ u ∈ E.enc x, u.oneCell' = true)
    (s : Value) (L : List α) (w : World) (hs : Arr E w s L) (hm : L.length ≤ 60000000000) : GivesR P f [s] w (fun v w' => Mine E T w' v L ∧ (∀ g, v.ownBlock = some g → w.heap.size ≤ g) ∧ (vnil v = true → L = [])) := by
  obtain ⟨a, cp, rfl⟩ := hs.slice
  refine givesR hmix t rfl rfl (ε := [.slice a L.length cp]) ⟨⟨_, _, _, rfl⟩, trivial⟩ (den_split (fun h => ?_) (fun h => den_blk fun b hb _ _ => ?_))
  · have ha : a = none := by simpa [BE.den, nth, vnil] using h
    subst ha
    obtain ⟨rfl, _⟩ := hs.none hsz
    exact den_leafR _ rfl fun w' hw => ⟨Mine.nil, (fun g hg => by cases hg), fun _ => rfl⟩
  · have ha : ∃ ad, a = some ad := by cases a with | none => simp [BE.den, nth, vnil] at h | some ad => exact ⟨ad, rfl⟩
    obtain ⟨ad, rfl⟩ := ha
    refine den_norm (by simp only [List.cons_append, List.nil_append]; rfl) ?_
    refine den_appendL (E := E) (T := T) rfl ht hi hz hsize hzs hsz hbs h1 (.slice (some ⟨b, 0, none⟩) 0 0) (.slice (some ad) L.length cp) [] L (by simp [SV.den, nth, vaddr, addO, addr_add]) rfl (fun n c e => by cases e) (by simp; omega) (fun g hg hc => by simp [vcap] at hc) (by simp [keys]) ?_ (fun g hg hc => by simp [vcap] at hc) (fun hd => by cases hd) (fun _ => rfl) ?_
    · intro w1 h1
      refine ⟨?_, hs.same h1.base⟩
      obtain ⟨b', ty, hb', hh⟩ := h1.facts.1
      cases hb'
      exact .inr ⟨rfl, b, _, ty, rfl, hh⟩
    · intro w1 s' w2 h1 ho hk hfr hap
      rw [List.nil_append] at ho
      refine den_norm (by simp only [List.cons_append, List.nil_append]; rfl) (den_leafR s' rfl fun w3 h3 => ⟨ho.same (shown_same h3), fun g hg => ?_, fun hn => ?_⟩)
      · rcases hfr with ⟨e, _⟩ | ⟨b', e, hle, _⟩
        · rw [e] at hg; cases hg; exact hb
        · rw [e] at hg; cases hg; exact Nat.le_trans h1.base.size hle
      · rcases ho.forms with ⟨rfl, e⟩ | ⟨g, c, cur, ty, rfl, _⟩
        · exact e
        · simp [vnil] at hn

/-- slices.IndexFunc at plain elements: the loop's own search -/
theorem contains_idx {α : Type} (p : α → Bool) (L : List α) : decide (0 ≤ idxFrom (fun _ x => p x) 0 L) = L.any p := by
  have key : ∀ (L : List α) (k : Nat), (0 ≤ idxFrom (fun _ x => p x) k L ↔ L.any p = true) := by
    intro L
    induction L with
    | nil => intro k; simp [idxFrom]
    | cons x L ih =>
      intro k
      by_cases h : p x = true
      · rw [idxFrom, if_pos h]; simp [h]
      · rw [idxFrom, if_neg h, ih]; simp [h]
  by_cases h : L.any p = true
  · rw [h]; exact decide_eq_true ((key L 0).2 h)
  · have h' : L.any p = false := by simpa using h
    rw [h']; exact decide_eq_false fun e => h ((key L 0).1 e)

def intE : Enc Int := ⟨fun n => [.int .i64 n], 1, fun _ => rfl⟩

/-- the place of the element that is wanted and before all others, in the first n -/
def bstN {α : Type} (p : α → Bool) (lt : α → α → Bool) (L : List α) : Nat → Int
  | 0 => -1
  | n + 1 => match L[n]? with
    | some x => if p x && (decide (bstN p lt L n < 0) || (match L[(bstN p lt L n).toNat]? with | some y => lt x y | none => false)) then n else bstN p lt L n
    | none => bstN p lt L n
theorem bstN_bounds {α : Type} (p : α → Bool) (lt : α → α → Bool) (L : List α) : ∀ n, bstN p lt L n = -1 ∨ ∃ (i : Nat) (x : α), i < n ∧ bstN p lt L n = i ∧ L[i]? = some x ∧ p x = true
  | 0 => .inl rfl
  | n + 1 => by
    have hd : (bstN p lt L (n + 1) = n ∧ ∃ x, L[n]? = some x ∧ p x = true) ∨ bstN p lt L (n + 1) = bstN p lt L n := by
      simp only [bstN]
      cases hx : L[n]? with
      | none => exact .inr rfl
      | some x =>
        simp only
        generalize hb : (p x && (decide (bstN p lt L n < 0) || (match L[(bstN p lt L n).toNat]? with | some y => lt x y | none => false))) = q
        cases q with
        | true => exact .inl ⟨by simp, x, rfl, (Bool.and_eq_true_iff.1 hb).1⟩
        | false => exact .inr (by simp)
    rcases hd with ⟨h1, x, h2, h3⟩ | h
    · exact .inr ⟨n, x, by omega, h1, h2, h3⟩
    · rw [h]
      rcases bstN_bounds p lt L n with h | ⟨i, y, h1, h2, h3, h4⟩
      · exact .inl h
      · exact .inr ⟨i, y, by omega, h2, h3, h4⟩
theorem bstN_no {α : Type} {p : α → Bool} {lt : α → α → Bool} {L : List α} {n : Nat} {x : α} (hx : L[n]? = some x) (hp : p x = false) : bstN p lt L (n + 1) = bstN p lt L n := by simp [bstN, hx, hp]
theorem bstN_first {α : Type} {p : α → Bool} {lt : α → α → Bool} {L : List α} {n : Nat} {x : α} (hx : L[n]? = some x) (hp : p x = true) (hn : bstN p lt L n < 0) : bstN p lt L (n + 1) = n := by simp [bstN, hx, hp, hn]
theorem bstN_cmp {α : Type} {p : α → Bool} {lt : α → α → Bool} {L : List α} {n i : Nat} {x y : α} (hx : L[n]? = some x) (hp : p x = true) (hn : bstN p lt L n = i) (hy : L[i]? = some y) : bstN p lt L (n + 1) = if lt x y then (n : Int) else (i : Int) := by
  have : ¬ ((i : Nat) : Int) < 0 := by omega
  simp [bstN, hx, hp, hn, hy, this]
def bst {α : Type} (p : α → Bool) (lt : α → α → Bool) (L : List α) : Int := bstN p lt L L.length
end Go.Sx
