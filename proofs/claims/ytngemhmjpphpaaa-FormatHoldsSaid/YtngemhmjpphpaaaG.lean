/- How the arguments of the laws are read. No conditions beyond those that each theorem names. -/
import Derived.Test.YtngemhmjpphpaaaC
import Derived.Test.YtngemhmjpphpaaaE
import Derived.Test.YtngemhmjpphpaaaSxU
import Derived.Test.YtngemhmjpphpaaaSxZE
import Derived.Test.YtngemhmjpphpaaaRows
import Derived.WalkKit
import Derived.ProofKit
import Derived.OpenShut
set_option maxRecDepth 100000
set_option linter.unusedVariables false
set_option linter.unusedSimpArgs false
namespace Go.Proofs.Ytngemhmjpphpaaa
open Go.Sx Go.ChangeShapes Go.WideShapes Go.ChangeAt Go.RowKit

theorem own : ownKnob Try.prog.godebug = none := by kernel_rfl
theorem laidOut : laidOutB Try.prog = true := by kernel_rfl

theorem fmt_open {W : World} {r : Reach} {base : Nat} {v : Value} (h : Value.okWide Try.prog W r base 25 v) : ∃ z m x t fi, v = fmtV z m x t fi := by
  unfold Value.okWide at h
  rw [Try.underlying25] at h
  obtain ⟨cs, rfl, hsz, ts, hts, _, hc⟩ := h
  have e1 : Try.prog.cellTypes Try.prog.depth 25 = some [3, 3, 4, 3, 4] := by kernel_rfl
  rw [e1] at hts
  cases hts
  have e2 : Try.prog.cellsOf 25 = 5 := by kernel_rfl
  rw [e2] at hsz
  have hi : ∀ v, Cell.okWide Try.prog W r base 3 v → ∃ n, v = .int .i64 n := fun v h => okWide_int Try.underlying3 (by unfold Value.okWide; rw [Try.underlying3]; exact h)
  have hb : ∀ v, Cell.okWide Try.prog W r base 4 v → ∃ n, v = .bool n := fun v h => okWide_bool Try.underlying4 (by unfold Value.okWide; rw [Try.underlying4]; exact h)
  obtain ⟨l⟩ := cs
  match l, hsz with
  | [a, b, c, d, e], _ =>
    obtain ⟨u0, h0, k0⟩ := hc 0 a rfl
    obtain ⟨u1, h1, k1⟩ := hc 1 b rfl
    obtain ⟨u2, h2, k2⟩ := hc 2 c rfl
    obtain ⟨u3, h3, k3⟩ := hc 3 d rfl
    obtain ⟨u4, h4, k4⟩ := hc 4 e rfl
    cases h0; cases h1; cases h2; cases h3; cases h4
    obtain ⟨z, rfl⟩ := hi _ k0
    obtain ⟨m, rfl⟩ := hi _ k1
    obtain ⟨x, rfl⟩ := hb _ k2
    obtain ⟨t, rfl⟩ := hi _ k3
    obtain ⟨fi, rfl⟩ := hb _ k4
    exact ⟨z, m, x, t, fi, rfl⟩

theorem wf64 {n : Int} (h : (Lit.int .i64 n).wf = true) : -9223372036854775808 ≤ n ∧ n ≤ 9223372036854775807 := by
  simpa [Lit.wf, IntKind.min, IntKind.max, IntKind.signed, IntKind.bits] using h

theorem slice_lt {W : World} {r : Reach} {base : Nat} {t e : TypeId} {a : Addr} {n c : Nat} (ht : Try.prog.underlying t = some (.slice e)) (h : Value.okWide Try.prog W r base t (.slice (some a) n c)) : a.block < W.heap.size := by
  simp only [Value.okWide, ht, Cell.okWide, Cell.ok] at h
  obtain ⟨_, _, _, _, row, cells, hs, _⟩ := h
  unfold World.shape? at hs
  rcases Nat.lt_or_ge a.block W.heap.size with h' | h'
  · exact h'
  · simp [Array.getElem?_eq_none h'] at hs
theorem byte_dec {H : Type} {enc : TypeId × Value → H} {w : World} {base : Nat} {sp : Nat → Bool} {held : Bool} (n : Nat) (cs : List Value) (y : DataW H × List MemPlace) (h : DataW.trod enc Try.prog w base sp held n 5 cs = some y) : ∃ a : Int, cs = byteE.enc a := by
  obtain ⟨z, hz, _⟩ := DataW.trod_int Try.underlying5 h
  exact ⟨z, hz⟩
theorem bytes_open {H : Type} {enc : TypeId × Value → H} {W : World} {base b0 : Nat} {sp : Nat → Bool} {held : Bool} {r : Reach} {v : Value} {d : DataW H} {ps : List MemPlace} (hval : Value.okWide Try.prog W r b0 40 v) (h : DataW.Trod enc Try.prog W base sp held 40 v d ps) : ∃ A : List Int, Given byteE W v A ∧ A.length < 9223372036854775808 := by
  obtain ⟨a, n, c, rfl⟩ := okWide_slice Try.underlying40 hval
  obtain ⟨fuel, h⟩ := h
  obtain ⟨v, L, e, hA, h1, h2, h3⟩ := trod_arr (E := byteE) Try.underlying40 (by kernel_rfl) byte_dec h
  have : v = .slice a n c := by simpa [Value.cells] using e.symm
  subst this
  refine ⟨L, ⟨hA, h1, h2, fun ad had => ?_⟩, Nat.lt_of_le_of_lt (Nat.le_trans h2 h3) (by decide)⟩
  simp only [vaddr] at had
  subst had
  exact slice_lt Try.underlying40 hval
theorem trod_arrQ {H : Type} {enc : TypeId × Value → H} {P : Program} {w : World} {base : Nat} {spare : Nat → Bool} {held : Bool} {α : Type} {E : Enc α} {Q : α → Prop} {t e : TypeId} {fuel : Nat} {cs : List Value} {x : DataW H × List MemPlace} (ht : P.underlying t = some (.slice e)) (hc : P.cellsOf e = E.sz)
    (dec : ∀ n cs y, DataW.trod enc P w base spare held n e cs = some y → ∃ a, cs = E.enc a ∧ Q a) (h : DataW.trod enc P w base spare held fuel t cs = some x) :
    ∃ (v : Value) (L : List α), cs = [v] ∧ Arr E w v L ∧ (∀ n c, v = .slice none n c → n = 0 ∧ c = 0) ∧ L.length ≤ vcap v ∧ vcap v ≤ maxLen ∧ ∀ x ∈ L, Q x := by
  let E' : Enc {a : α // Q a} := ⟨fun a => E.enc a.1, E.sz, fun a => E.len a.1⟩
  obtain ⟨v, L, h0, hA, h1, h2, h3⟩ := trod_arr (E := E') ht hc (fun n cs y hy => by
    obtain ⟨a, ha, hq⟩ := dec n cs y hy
    exact ⟨⟨a, hq⟩, ha⟩) h
  refine ⟨v, L.map (·.1), h0, ?_, h1, by simpa using h2, h3, fun x hx => ?_⟩
  · have e1 : (L.map (·.1)).flatMap E.enc = L.flatMap E'.enc := by rw [List.flatMap_map]
    unfold Arr at hA ⊢
    rw [e1, List.length_map]
    exact hA
  · obtain ⟨y, _, rfl⟩ := List.mem_map.1 hx
    exact y.2
theorem blk_dec {H : Type} {enc : TypeId × Value → H} {w : World} {base : Nat} {sp : Nat → Bool} {held : Bool} (n : Nat) (cs : List Value) (y : DataW H × List MemPlace) (h : DataW.trod enc Try.prog w base sp held n 70 cs = some y) :
    ∃ p : Sl × Sl, cs = bvE.enc p ∧ ((∃ A, Givn byteE w p.1.v A) ∧ ∃ A, Givn byteE w p.2.v A) := by
  obtain ⟨hl, hf⟩ := trod_cells (ts := [40, 40]) Try.underlying70 (by kernel_rfl) (by intro u hu; simp at hu; subst hu; kernel_rfl) (by kernel_rfl) h
  have one : ∀ i, i < 2 → ∃ (s : Sl) (A : List Int), cs[i]? = some s.v ∧ Givn byteE w s.v A := by
    intro i hi
    obtain ⟨n, c, y, hc, ht⟩ := hf i 40 (by match i, hi with | 0, _ => rfl | 1, _ => rfl)
    obtain ⟨v, L, e, hA, h1, h2, h3⟩ := trod_arr (E := byteE) Try.underlying40 (by kernel_rfl) byte_dec ht
    cases e
    obtain ⟨a, k, rfl⟩ := hA.slice
    exact ⟨⟨a, _, k⟩, L, hc, hA, h1, h2, trivial⟩
  obtain ⟨s1, A1, e1, g1⟩ := one 0 (by decide)
  obtain ⟨s2, A2, e2, g2⟩ := one 1 (by decide)
  match cs, hl with
  | [a, b], _ =>
    cases e1; cases e2
    exact ⟨(s1, s2), rfl, ⟨A1, g1⟩, ⟨A2, g2⟩⟩
theorem list_of {α β : Type} {Q : α → β → Prop} : ∀ {L : List α}, (∀ x ∈ L, ∃ y, Q x y) → ∃ M : List β, L.length = M.length ∧ ∀ (i : Nat) x y, L[i]? = some x → M[i]? = some y → Q x y
  | [], _ => ⟨[], rfl, fun i x y hx => by simp at hx⟩
  | a :: L, h => by
    obtain ⟨M, hl, hM⟩ := list_of (L := L) fun x hx => h x (by simp [hx])
    obtain ⟨y, hy⟩ := h a (by simp)
    refine ⟨y :: M, by simp [hl], fun i x z hx hz => ?_⟩
    cases i with
    | zero => cases hx; cases hz; exact hy
    | succ i => exact hM i x z (by simpa using hx) (by simpa using hz)
theorem blks_open {H : Type} {enc : TypeId × Value → H} {W : World} {base b0 : Nat} {sp : Nat → Bool} {held : Bool} {r : Reach} {v : Value} {d : DataW H} {ps : List MemPlace} (hval : Value.okWide Try.prog W r b0 42 v) (h : DataW.Trod enc Try.prog W base sp held 42 v d ps) :
    ∃ (LV : List (Sl × Sl)) (L : List Bl), Blks 0 W v LV L ∧ L.length < 9223372036854775808 := by
  obtain ⟨a, n, c, rfl⟩ := okWide_slice Try.underlying42 hval
  obtain ⟨fuel, h⟩ := h
  obtain ⟨v, LV, e, hA, h1, h2, h3, h4⟩ := trod_arrQ (E := bvE) Try.underlying42 (by kernel_rfl) blk_dec h
  have : v = .slice a n c := by simpa [Value.cells] using e.symm
  subst this
  obtain ⟨L, hl, hL⟩ := list_of (β := Bl) (Q := fun (p : Sl × Sl) (q : Bl) => Givn byteE W p.1.v q.1 ∧ Givn byteE W p.2.v q.2) fun x hx => by
    obtain ⟨⟨A, hA⟩, ⟨B, hB⟩⟩ := h4 x hx
    exact ⟨(A, B), hA, hB⟩
  refine ⟨LV, L, ⟨hA, hl, fun _ _ => Nat.zero_le _, fun i p q hp hq => ⟨(hL i p q hp hq).1, (hL i p q hp hq).2, fun _ _ => Nat.zero_le _, fun _ _ => Nat.zero_le _⟩⟩, ?_⟩
  have : maxLen < 9223372036854775808 := by decide
  omega
end Go.Proofs.Ytngemhmjpphpaaa
