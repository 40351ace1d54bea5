/- The arguments of the chapter's laws opened. No conditions beyond those that each theorem names. -/
import Derived.Test.YtppbapnibpeolaaR
import Derived.Test.YtppbapnibpeolaaRows
import Derived.WalkKit
import Derived.ProofKit
import Derived.OpenShut
set_option maxRecDepth 100000
set_option linter.unusedVariables false
set_option linter.unusedSimpArgs false
namespace Go.Proofs.Ytppbapnibpeolaa
open Go.Sx Go.ChangeShapes Go.WideShapes Go.ChangeAt Go.RowKit

theorem own : ownKnob Try.prog.godebug = none := by kernel_rfl
theorem laidOut : laidOutB Try.prog = true := by kernel_rfl
theorem slice_lt {W : World} {r : Reach} {base : Nat} {t e : TypeId} {a : Addr} {n c : Nat} (ht : Try.prog.underlying t = some (.slice e)) (h : Value.okWide Try.prog W r base t (.slice (some a) n c)) : a.block < W.heap.size := by
  simp only [Value.okWide, ht, Cell.okWide, Cell.ok] at h
  obtain ⟨_, _, _, _, row, cells, hs, _⟩ := h
  unfold World.shape? at hs
  rcases Nat.lt_or_ge a.block W.heap.size with h' | h'
  · exact h'
  · simp [Array.getElem?_eq_none h'] at hs
section
variable {H : Type} {enc : TypeId × Value → H} {w : World} {base : Nat} {sp : Nat → Bool} {held : Bool}
theorem byte_dec (n : Nat) (cs : List Value) (y : DataW H × List MemPlace) (h : DataW.trod enc Try.prog w base sp held n 5 cs = some y) : ∃ a : Int, cs = byteE.enc a := by
  obtain ⟨z, hz, _⟩ := DataW.trod_int Try.underlying5 h
  exact ⟨z, hz⟩
theorem int_dec (n : Nat) (cs : List Value) (y : DataW H × List MemPlace) (h : DataW.trod enc Try.prog w base sp held n 3 cs = some y) : ∃ a : Int, cs = intE.enc a := by
  obtain ⟨z, hz, _⟩ := DataW.trod_int Try.underlying3 h
  exact ⟨z, hz⟩
theorem src_dec (n : Nat) (cs : List Value) (y : DataW H × List MemPlace) (h : DataW.trod enc Try.prog w base sp held n 26 cs = some y) : ∃ (v : Value) (D : List Int), cs = [v] ∧ Gv w.heap.size w v D ∧ D.length ≤ maxLen := by
  obtain ⟨v, L, e, hA, h1, h2, h3⟩ := trod_arr (E := byteE) Try.underlying26 (by kernel_rfl) byte_dec h
  refine ⟨v, L, e, ⟨⟨hA, h1⟩, fun hne ad had => ?_⟩, Nat.le_trans h2 h3⟩
  exact hA.lt (List.getElem?_eq_getElem (List.length_pos_iff.2 hne)) (by decide) ad had
theorem act_dec (n : Nat) (cs : List Value) (y : DataW H × List MemPlace) (h : DataW.trod enc Try.prog w base sp held n 28 cs = some y) : ∃ v : Av, cs = avE.enc v ∧ ∃ a : Ac, AvAt w.heap.size w v a := by
  obtain ⟨hl, hf⟩ := trod_cells (ts := [3, 3, 3, 26, 26]) Try.underlying28 (by kernel_rfl) (by intro u hu; simp only [List.mem_cons, List.not_mem_nil, or_false] at hu; rcases hu with rfl | rfl | rfl | rfl | rfl <;> kernel_rfl) (by kernel_rfl) h
  obtain ⟨_, c0, _, e0, h0⟩ := hf 0 3 rfl
  obtain ⟨_, c1, _, e1, h1⟩ := hf 1 3 rfl
  obtain ⟨_, c2, _, e2, h2⟩ := hf 2 3 rfl
  obtain ⟨_, c3, _, e3, h3⟩ := hf 3 26 rfl
  obtain ⟨_, c4, _, e4, h4⟩ := hf 4 26 rfl
  obtain ⟨z0, hz0, _⟩ := DataW.trod_int Try.underlying3 h0
  obtain ⟨z1, hz1, _⟩ := DataW.trod_int Try.underlying3 h1
  obtain ⟨z2, hz2, _⟩ := DataW.trod_int Try.underlying3 h2
  obtain ⟨v3, D, hv3, g3, _⟩ := src_dec _ _ _ h3
  obtain ⟨v4, Sp, hv4, g4, _⟩ := src_dec _ _ _ h4
  cases hz0; cases hz1; cases hz2; cases hv3; cases hv4
  refine ⟨⟨z0, z1, z2, c3, c4⟩, ?_, ⟨z0, z1, z2, D, Sp⟩, ⟨rfl, rfl, rfl, g3, g4⟩⟩
  match cs, hl, e0, e1, e2, e3, e4 with
  | [a0, a1, a2, a3, a4], _, e0, e1, e2, e3, e4 =>
    simp only [List.getElem?_cons_zero, List.getElem?_cons_succ, Option.some.injEq] at e0 e1 e2 e3 e4
    rw [e0, e1, e2, e3, e4]
    rfl
end
theorem trod_arrQ {H : Type} {enc : TypeId × Value → H} {P : Program} {w : World} {base : Nat} {spare : Nat → Bool} {held : Bool} {α : Type} {E : Enc α} {Q : α → Prop} {t e : TypeId} {fuel : Nat} {cs : List Value} {x : DataW H × List MemPlace} (ht : P.underlying t = some (.slice e)) (hc : P.cellsOf e = E.sz)
    (dec : ∀ n cs y, DataW.trod enc P w base spare held n e cs = some y → ∃ a, cs = E.enc a ∧ Q a) (h : DataW.trod enc P w base spare held fuel t cs = some x) :
    ∃ (v : Value) (L : List α), cs = [v] ∧ Arr E w v L ∧ (∀ n c, v = .slice none n c → n = 0 ∧ c = 0) ∧ L.length ≤ vcap v ∧ vcap v ≤ maxLen ∧ ∀ x ∈ L, Q x := by
  let E' : Enc {a : α // Q a} := ⟨fun a => E.enc a.1, E.sz, fun a => E.len a.1⟩
  obtain ⟨v, L, h0, hA, h1, h2, h3⟩ := trod_arr (E := E') ht hc (fun n cs y hy => by
    obtain ⟨a, ha, hq⟩ := dec n cs y hy
    exact ⟨⟨a, hq⟩, ha⟩) h
  refine ⟨v, L.map (·.1), h0, ?_, h1, by simpa using h2, h3, fun x hx => ?_⟩
  · have e1 : (L.map (·.1)).flatMap E.enc = L.flatMap E'.enc := by rw [List.flatMap_map]
    unfold Arr at hA ⊢
    rw [e1, List.length_map]
    exact hA
  · obtain ⟨y, _, rfl⟩ := List.mem_map.1 hx
    exact y.2
theorem list_of {α β : Type} {Q : α → β → Prop} : ∀ {L : List α}, (∀ x ∈ L, ∃ y, Q x y) → ∃ M : List β, L.length = M.length ∧ ∀ (i : Nat) x y, L[i]? = some x → M[i]? = some y → Q x y
  | [], _ => ⟨[], rfl, fun i x y hx => by simp at hx⟩
  | a :: L, h => by
    obtain ⟨M, hl, hM⟩ := list_of (L := L) fun x hx => h x (by simp [hx])
    obtain ⟨y, hy⟩ := h a (by simp)
    refine ⟨y :: M, by simp [hl], fun i x z hx hz => ?_⟩
    cases i with
    | zero => cases hx; cases hz; exact hy
    | succ i => exact hM i x z (by simpa using hx) (by simpa using hz)
section
variable {H : Type} {enc : TypeId × Value → H} {W : World} {base b0 : Nat} {sp : Nat → Bool} {held : Bool} {r : Reach} {v : Value} {d : DataW H} {ps : List MemPlace}
theorem geo_open (h : Value.okWide Try.prog W r b0 23 v) : ∃ g : Geo, v = g.v := by
  unfold Value.okWide at h
  rw [Try.underlying23] at h
  obtain ⟨cs, rfl, hsz, ts, hts, _, hc⟩ := h
  have e1 : Try.prog.cellTypes Try.prog.depth 23 = some [3, 3, 3, 3] := by kernel_rfl
  rw [e1] at hts
  cases hts
  have e2 : Try.prog.cellsOf 23 = 4 := by kernel_rfl
  rw [e2] at hsz
  have hi : ∀ v, Cell.okWide Try.prog W r b0 3 v → ∃ n, v = .int .i64 n := fun v h => okWide_int Try.underlying3 (by unfold Value.okWide; rw [Try.underlying3]; exact h)
  obtain ⟨l⟩ := cs
  match l, hsz with
  | [a, b, c, d], _ =>
    obtain ⟨u0, h0, k0⟩ := hc 0 a rfl
    obtain ⟨u1, h1, k1⟩ := hc 1 b rfl
    obtain ⟨u2, h2, k2⟩ := hc 2 c rfl
    obtain ⟨u3, h3, k3⟩ := hc 3 d rfl
    cases h0; cases h1; cases h2; cases h3
    obtain ⟨z, rfl⟩ := hi _ k0
    obtain ⟨m, rfl⟩ := hi _ k1
    obtain ⟨x, rfl⟩ := hi _ k2
    obtain ⟨t, rfl⟩ := hi _ k3
    exact ⟨⟨z, m, x, t⟩, rfl⟩
theorem ints_open (hval : Value.okWide Try.prog W r b0 24 v) (h : DataW.Trod enc Try.prog W base sp held 24 v d ps) : ∃ A : List Int, Given intE W v A ∧ A.length < 9223372036854775808 := by
  obtain ⟨a, n, c, rfl⟩ := okWide_slice Try.underlying24 hval
  obtain ⟨fuel, h⟩ := h
  obtain ⟨v, L, e, hA, h1, h2, h3⟩ := trod_arr (E := intE) Try.underlying24 (by kernel_rfl) int_dec h
  have : v = .slice a n c := by simpa [Value.cells] using e.symm
  subst this
  refine ⟨L, ⟨hA, h1, h2, fun ad had => ?_⟩, Nat.lt_of_le_of_lt (Nat.le_trans h2 h3) (by decide)⟩
  simp only [vaddr] at had
  subst had
  exact slice_lt Try.underlying24 hval
theorem acts_open (hval : Value.okWide Try.prog W r b0 25 v) (h : DataW.Trod enc Try.prog W base sp held 25 v d ps) : ∃ (L : List Av) (A : List Ac), Given avE W v L ∧ AvsAt W.heap.size W L A ∧ A.length < 9223372036854775808 := by
  obtain ⟨a, n, c, rfl⟩ := okWide_slice Try.underlying25 hval
  obtain ⟨fuel, h⟩ := h
  obtain ⟨v, L, e, hA, h1, h2, h3, h4⟩ := trod_arrQ (E := avE) Try.underlying25 (by kernel_rfl) act_dec h
  have : v = .slice a n c := by simpa [Value.cells] using e.symm
  subst this
  obtain ⟨A, hl, hQ⟩ := list_of h4
  refine ⟨L, A, ⟨hA, h1, h2, fun ad had => ?_⟩, ⟨hl, hQ⟩, ?_⟩
  · simp only [vaddr] at had
    subst had
    exact slice_lt Try.underlying25 hval
  · rw [← hl]
    exact Nat.lt_of_le_of_lt (Nat.le_trans h2 h3) (by decide)
end
end Go.Proofs.Ytppbapnibpeolaa
