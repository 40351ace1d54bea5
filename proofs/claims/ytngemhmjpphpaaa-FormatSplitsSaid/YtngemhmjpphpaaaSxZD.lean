/- Part ZD of a symbolic run of Go code by computation: its states, conditions and the proof that a condition that holds says what the function returns. No conditions of its own. -/
import Derived.Test.YtngemhmjpphpaaaSxZC
import Derived.Carry
import Derived.OpenShut
import Derived.ProofKit
set_option linter.unusedVariables false
set_option linter.unusedSimpArgs false
namespace Go.Sx
open Go.RowKit Go.ChangeShapes Go.WideShapes Go.ChangeAt

theorem list_of_each {α : Type} {p : Nat → α → Prop} : ∀ (n : Nat), (∀ i, i < n → ∃ x, p i x) → ∃ L : List α, L.length = n ∧ ∀ (i : Nat) x, L[i]? = some x → p i x
  | 0, _ => ⟨[], rfl, fun i x h => by simp at h⟩
  | n + 1, h => by
    obtain ⟨L, hl, hL⟩ := list_of_each n fun i hi => h i (by omega)
    obtain ⟨x, hx⟩ := h n (by omega)
    refine ⟨L ++ [x], by simp [hl], fun i y hy => ?_⟩
    by_cases hi : i < L.length
    · exact hL i y (by rwa [List.getElem?_append_left hi] at hy)
    · rw [List.getElem?_append_right (by omega)] at hy
      have : i - L.length = 0 := by
        have := (List.getElem?_eq_some_iff.1 hy).1
        simp at this
        omega
      rw [this] at hy
      cases hy
      rw [show i = n by omega]
      exact hx
theorem flatMap_at {α : Type} (E : Enc α) : ∀ (L : List α) (k : Nat) (v : Value), (L.flatMap E.enc)[k]? = some v → ∃ (i : Nat) (x : α) (m : Nat), L[i]? = some x ∧ (E.enc x)[m]? = some v ∧ k = i * E.sz + m
  | [], k, v, h => by simp at h
  | y :: L, k, v, h => by
    rw [List.flatMap_cons] at h
    by_cases hk : k < (E.enc y).length
    · rw [List.getElem?_append_left hk] at h
      exact ⟨0, y, k, rfl, h, by simp⟩
    · rw [List.getElem?_append_right (by omega)] at h
      obtain ⟨i, x, m, h1, h2, h3⟩ := flatMap_at E L _ v h
      refine ⟨i + 1, x, m, by simpa using h1, h2, ?_⟩
      rw [E.len] at h3 hk
      rw [Nat.succ_mul]
      omega

section
variable {H : Type} {enc : TypeId × Value → H} {P : Program} {w : World} {base : Nat} {spare : Nat → Bool} {held : Bool}

/-- a slice that is read as data holds a list of elements -/
theorem trod_arr {α : Type} {E : Enc α} {t e : TypeId} {fuel : Nat} {cs : List Value} {x : DataW H × List MemPlace} (ht : P.underlying t = some (.slice e)) (hc : P.cellsOf e = E.sz)
    (dec : ∀ n cs y, DataW.trod enc P w base spare held n e cs = some y → ∃ a, cs = E.enc a) (h : DataW.trod enc P w base spare held fuel t cs = some x) :
    ∃ (v : Value) (L : List α), cs = [v] ∧ Arr E w v L ∧ (∀ n c, v = .slice none n c → n = 0 ∧ c = 0) ∧ L.length ≤ vcap v ∧ vcap v ≤ maxLen := by
  rcases DataW.trod_slice ht h with ⟨rfl, _⟩ | ⟨a, len, cap, elems, rest, n, _, rfl, _, hb, hl, hm, hlen, hel, _⟩
  · exact ⟨_, [], rfl, ⟨⟨none, 0, rfl⟩, by simp, fun j x hx => by simp at hx⟩, fun n c e => by cases e; exact ⟨rfl, rfl⟩, Nat.zero_le _, Nat.zero_le _⟩
  · have each : ∀ i, i < len → ∃ x : α, w.cells? base (a.add (i * P.cellsOf e)) (P.cellsOf e) = some (E.enc x) := by
      intro i hi
      have h1 := hel i hi
      have h2 : elems[i]? = some (elems[i]'(by omega)) := by simp [hlen, hi]
      rw [h2, Option.bind_eq_some_iff] at h1
      obtain ⟨c1, hc1, hy⟩ := h1
      obtain ⟨x, rfl⟩ := dec _ _ _ hy
      exact ⟨x, hc1⟩
    obtain ⟨L, hL, hp⟩ := list_of_each len each
    refine ⟨_, L, rfl, ⟨⟨some a, cap, by rw [hL]⟩, flatMap_length E L, fun k v hv => ⟨a, rfl, ?_⟩⟩, fun n c e => (by cases e), by simp only [vcap]; omega, hm⟩
    obtain ⟨i, x, m, h1, h2, rfl⟩ := flatMap_at E L k v hv
    have h3 := World.cells?_some (hp i x h1)
    have h4 := h3.2.2 m (by rw [hc, ← E.len x]; exact (List.getElem?_eq_some_iff.1 h2).1)
    rw [add_add, hc] at h4
    rw [h4, h2]
/-- a struct whose fields are a cell each -/
theorem trod_cells {t : TypeId} {fs : Array Field} {ts : List TypeId} {fuel : Nat} {cs : List Value} {x : DataW H × List MemPlace} (ht : P.underlying t = some (.struct fs)) (hfs : fs.toList.map (fun f => (f.offset, f.type)) = (List.range ts.length).zip ts)
    (hone : ∀ u ∈ ts, P.cellsOf u = 1) (hn : P.cellsOf t = ts.length) (h : DataW.trod enc P w base spare held fuel t cs = some x) :
    cs.length = ts.length ∧ ∀ (i : Nat) u, ts[i]? = some u → ∃ n c y, cs[i]? = some c ∧ DataW.trod enc P w base spare held n u [c] = some y := by
  obtain ⟨xs, n, _, _, hl, hxl, hf⟩ := DataW.trod_struct ht h
  refine ⟨by rw [hl, hn], fun i u hu => ?_⟩
  have hi := (List.getElem?_eq_some_iff.1 hu).1
  have h1 : (fs.toList.map (fun f => (f.offset, f.type)))[i]? = some (i, u) := by
    rw [hfs, List.getElem?_zip_eq_some]
    exact ⟨by simp [hi], hu⟩
  rw [List.getElem?_map, Option.map_eq_some_iff] at h1
  obtain ⟨f, hff, he⟩ := h1
  simp only [Prod.mk.injEq] at he
  obtain ⟨ho, hu'⟩ := he
  subst hu'
  have h2 := hf i f (by rw [← Array.getElem?_toList, hff])
  have h3 : xs[i]? = some (xs[i]'(by rw [hxl, ← Array.length_toList]; exact (List.getElem?_eq_some_iff.1 hff).1)) := by simp
  rw [hone f.type (List.mem_of_getElem? hu), h3, ho] at h2
  have hlt : i < cs.length := by rw [hl, hn]; exact hi
  have e : (cs.drop i).take 1 = [cs[i]] := by
    rw [List.drop_eq_getElem_cons hlt]
    rfl
  rw [e] at h2
  exact ⟨n, cs[i], _, by simp [hlt], h2⟩
end
end Go.Sx
