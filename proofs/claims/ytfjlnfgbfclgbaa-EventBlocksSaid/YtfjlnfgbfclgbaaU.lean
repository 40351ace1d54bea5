/- The arguments of the chapter's laws opened. No conditions beyond those that each theorem names. -/
import Derived.Test.YtfjlnfgbfclgbaaS
import Derived.Test.YtfjlnfgbfclgbaaSxV
import Derived.Test.YtfjlnfgbfclgbaaSxZE
import Derived.Test.YtfjlnfgbfclgbaaRows
import Derived.WalkKit
import Derived.ProofKit
import Derived.OpenShut
set_option maxRecDepth 100000
set_option linter.unusedVariables false
set_option linter.unusedSimpArgs false
namespace Go.Proofs.Ytfjlnfgbfclgbaa
open Go.Sx Go.ChangeShapes Go.WideShapes Go.ChangeAt Go.RowKit

theorem own : ownKnob Try.prog.godebug = none := by kernel_rfl
theorem laidOut : laidOutB Try.prog = true := by kernel_rfl
section
variable {H : Type} {enc : TypeId × Value → H} {w : World} {base : Nat} {sp : Nat → Bool} {held : Bool}
theorem wf8 {x : Int} (h : (Lit.int .u8 x).wf = true) : 0 ≤ x ∧ x ≤ 255 := by
  simpa [Lit.wf, IntKind.min, IntKind.max, IntKind.signed, IntKind.bits] using h
theorem wf32 {x : Int} (h : (Lit.int .u32 x).wf = true) : 0 ≤ x ∧ x < 4294967296 := by
  have := by simpa [Lit.wf, IntKind.min, IntKind.max, IntKind.signed, IntKind.bits] using h
  omega
theorem wf64 {n : Int} (h : (Lit.int .i64 n).wf = true) : -9223372036854775808 ≤ n ∧ n ≤ 9223372036854775807 := by
  simpa [Lit.wf, IntKind.min, IntKind.max, IntKind.signed, IntKind.bits] using h
theorem ntc_dec (n : Nat) (cs : List Value) (y : DataW H × List MemPlace) (h : DataW.trod enc Try.prog w base sp held n 23 cs = some y) : ∃ a : Ntc, cs = a.cells ∧ a.Ok := by
  obtain ⟨hl, hc⟩ := trod_cells (ts := [5, 5, 5]) Try.underlying23 (by kernel_rfl) (by intro u hu; simp only [List.mem_cons, List.not_mem_nil, or_false] at hu; rcases hu with rfl | rfl | rfl <;> kernel_rfl) (by kernel_rfl) h
  obtain ⟨_, c0, _, e0, h0⟩ := hc 0 5 rfl
  obtain ⟨_, c1, _, e1, h1⟩ := hc 1 5 rfl
  obtain ⟨_, c2, _, e2, h2⟩ := hc 2 5 rfl
  obtain ⟨z0, hz0, w0⟩ := DataW.trod_int Try.underlying5 h0
  obtain ⟨z1, hz1, w1⟩ := DataW.trod_int Try.underlying5 h1
  obtain ⟨z2, hz2, w2⟩ := DataW.trod_int Try.underlying5 h2
  cases hz0; cases hz1; cases hz2
  refine ⟨⟨z0, z1, z2⟩, ?_, ⟨wf8 w0.2, wf8 w1.2, wf8 w2.2⟩⟩
  match cs, hl, e0, e1, e2 with
  | [a0, a1, a2], _, e0, e1, e2 =>
    simp only [List.getElem?_cons_zero, List.getElem?_cons_succ, Option.some.injEq] at e0 e1 e2
    rw [e0, e1, e2]
    rfl
theorem act_dec (n : Nat) (cs : List Value) (y : DataW H × List MemPlace) (h : DataW.trod enc Try.prog w base sp held n 39 cs = some y) : ∃ a : Cl, cs = a.cells ∧ a.Ok := by
  obtain ⟨xs, m, _, _, hl, hxl, hf⟩ := DataW.trod_struct Try.underlying39 h
  have hn : Try.prog.cellsOf 39 = 6 := by kernel_rfl
  rw [hn] at hl
  match cs, hl with
  | [a0, a1, a2, a3, a4, a5], _ =>
    have hx : xs.length = 4 := hxl
    match xs, hx with
    | [x0, x1, x2, x3], _ =>
      have f0 := hf 0 _ rfl
      have f1 := hf 1 _ rfl
      have f2 := hf 2 _ rfl
      have f3 := hf 3 _ rfl
      have n0 : Try.prog.cellsOf 3 = 1 := by kernel_rfl
      have n1 : Try.prog.cellsOf 37 = 1 := by kernel_rfl
      have n2 : Try.prog.cellsOf 23 = 3 := by kernel_rfl
      have n3 : Try.prog.cellsOf 24 = 1 := by kernel_rfl
      simp only [n0, n1, n2, n3, List.drop_zero, List.take_succ_cons, List.take_zero, List.drop_succ_cons, List.getElem?_cons_zero, List.getElem?_cons_succ] at f0 f1 f2 f3
      obtain ⟨k, hk, _⟩ := DataW.trod_int Try.underlying3 f0
      obtain ⟨id, hid, _⟩ := DataW.trod_int Try.underlying37 f1
      obtain ⟨nt, hnt, hok⟩ := ntc_dec _ _ _ f2
      obtain ⟨c, hcc, wc⟩ := DataW.trod_int Try.underlying24 f3
      cases hk; cases hid; cases hcc
      simp only [Ntc.cells, List.cons.injEq, and_true] at hnt
      obtain ⟨rfl, rfl, rfl⟩ := hnt
      exact ⟨⟨k, id, nt, c⟩, rfl, ⟨hok, wf32 wc.2⟩⟩
end
def clE : Enc Cl := ⟨Cl.cells, 6, fun _ => rfl⟩
theorem trod_arrQ {H : Type} {enc : TypeId × Value → H} {P : Program} {w : World} {base : Nat} {spare : Nat → Bool} {held : Bool} {α : Type} {E : Enc α} {Q : α → Prop} {t e : TypeId} {fuel : Nat} {cs : List Value} {x : DataW H × List MemPlace} (ht : P.underlying t = some (.slice e)) (hc : P.cellsOf e = E.sz)
    (dec : ∀ n cs y, DataW.trod enc P w base spare held n e cs = some y → ∃ a, cs = E.enc a ∧ Q a) (h : DataW.trod enc P w base spare held fuel t cs = some x) :
    ∃ (v : Value) (L : List α), cs = [v] ∧ Arr E w v L ∧ (∀ n c, v = .slice none n c → n = 0 ∧ c = 0) ∧ L.length ≤ vcap v ∧ vcap v ≤ maxLen ∧ ∀ x ∈ L, Q x := by
  let E' : Enc {a : α // Q a} := ⟨fun a => E.enc a.1, E.sz, fun a => E.len a.1⟩
  obtain ⟨v, L, h0, hA, h1, h2, h3⟩ := trod_arr (E := E') ht hc (fun n cs y hy => by
    obtain ⟨a, ha, hq⟩ := dec n cs y hy
    exact ⟨⟨a, hq⟩, ha⟩) h
  refine ⟨v, L.map (·.1), h0, ?_, h1, by simpa using h2, h3, fun x hx => ?_⟩
  · have e1 : (L.map (·.1)).flatMap E.enc = L.flatMap E'.enc := by rw [List.flatMap_map]
    unfold Arr at hA ⊢
    rw [e1, List.length_map]
    exact hA
  · obtain ⟨y, _, rfl⟩ := List.mem_map.1 hx
    exact y.2
theorem slice_lt {W : World} {r : Reach} {base : Nat} {t e : TypeId} {a : Addr} {n c : Nat} (ht : Try.prog.underlying t = some (.slice e)) (h : Value.okWide Try.prog W r base t (.slice (some a) n c)) : a.block < W.heap.size := by
  simp only [Value.okWide, ht, Cell.okWide, Cell.ok] at h
  obtain ⟨_, _, _, _, row, cells, hs, _⟩ := h
  unfold World.shape? at hs
  rcases Nat.lt_or_ge a.block W.heap.size with h' | h'
  · exact h'
  · simp [Array.getElem?_eq_none h'] at hs
theorem acts_open {H : Type} {enc : TypeId × Value → H} {W : World} {base b0 : Nat} {sp : Nat → Bool} {held : Bool} {r : Reach} {v : Value} {d : DataW H} {ps : List MemPlace} (hval : Value.okWide Try.prog W r b0 29 v) (h : DataW.Trod enc Try.prog W base sp held 29 v d ps) :
    ∃ A : List Cl, Given clE W v A ∧ A.length < 9223372036854775808 ∧ ∀ a ∈ A, a.Ok := by
  obtain ⟨a, n, c, rfl⟩ := okWide_slice Try.underlying29 hval
  obtain ⟨fuel, h⟩ := h
  obtain ⟨v, L, e, hA, h1, h2, h3, h4⟩ := trod_arrQ (E := clE) Try.underlying29 (by kernel_rfl) act_dec h
  have : v = .slice a n c := by simpa [Value.cells] using e.symm
  subst this
  refine ⟨L, ⟨hA, h1, h2, fun ad had => ?_⟩, Nat.lt_of_le_of_lt (Nat.le_trans h2 h3) (by decide), h4⟩
  simp only [vaddr] at had
  subst had
  exact slice_lt Try.underlying29 hval
theorem ntc_open {H : Type} {enc : TypeId × Value → H} {W : World} {base b0 : Nat} {sp : Nat → Bool} {held : Bool} {r : Reach} {v : Value} {d : DataW H} {ps : List MemPlace} (hval : Value.okWide Try.prog W r b0 23 v) (h : DataW.Trod enc Try.prog W base sp held 23 v d ps) :
    ∃ n : Ntc, v = n.v ∧ n.Ok := by
  unfold Value.okWide at hval
  rw [Try.underlying23] at hval
  obtain ⟨cs, rfl, _⟩ := hval
  obtain ⟨fuel, h⟩ := h
  obtain ⟨n, hn, hok⟩ := ntc_dec _ _ _ h
  refine ⟨n, ?_, hok⟩
  have e : cs.toList = n.cells := hn
  show Value.agg cs = .agg n.cells.toArray
  rw [← e, Array.toArray_toList]
theorem act_open {H : Type} {enc : TypeId × Value → H} {W : World} {base b0 : Nat} {sp : Nat → Bool} {held : Bool} {r : Reach} {v : Value} {d : DataW H} {ps : List MemPlace} (hval : Value.okWide Try.prog W r b0 39 v) (h : DataW.Trod enc Try.prog W base sp held 39 v d ps) :
    ∃ a : Cl, v = a.v ∧ a.Ok := by
  unfold Value.okWide at hval
  rw [Try.underlying39] at hval
  obtain ⟨cs, rfl, _⟩ := hval
  obtain ⟨fuel, h⟩ := h
  obtain ⟨n, hn, hok⟩ := act_dec _ _ _ h
  refine ⟨n, ?_, hok⟩
  have e : cs.toList = n.cells := hn
  show Value.agg cs = .agg n.cells.toArray
  rw [← e, Array.toArray_toList]
end Go.Proofs.Ytfjlnfgbfclgbaa
