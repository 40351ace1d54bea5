/- Part Y of a symbolic run of Go code by computation: its states, conditions and the proof that a condition that holds says what the function returns. No conditions of its own. -/
import Derived.Test.YtngemhmjpphpaaaSxX
import Derived.Laws.Slices
set_option linter.unusedVariables false
set_option linter.unusedSimpArgs false
namespace Go.Sx
open Go.RowKit

theorem run_sliceB {P : Program} (n c : Nat) (lo hi mx : Option Int) (l h m : Nat) (hm : (mx = none ∧ m = c) ∨ (mx = some (m : Int) ∧ m ≤ c)) (hh : (hi = none ∧ mx = none ∧ h = n) ∨ (hi = some (h : Int) ∧ h ≤ m)) (hl : (lo = none ∧ l = 0) ∨ (lo = some (l : Int) ∧ l ≤ h)) (w : World) :
    (Instr.sliceBounds true n c (lo.map (.int .i64)) (hi.map (.int .i64)) (mx.map (.int .i64))).run P w = .ok (l, h, m) w := by
  unfold Instr.sliceBounds
  rcases hm with ⟨rfl, rfl⟩ | ⟨rfl, hm⟩
  · rcases hh with ⟨rfl, _, rfl⟩ | ⟨rfl, hh⟩
    · rcases hl with ⟨rfl, rfl⟩ | ⟨rfl, hl⟩
      · simp
      · simp [run_sliceBound, hl]
    · rcases hl with ⟨rfl, rfl⟩ | ⟨rfl, hl⟩
      · simp [run_sliceBound, hh]
      · simp [run_sliceBound, hl, hh]
  · rcases hh with ⟨rfl, h0, rfl⟩ | ⟨rfl, hh⟩
    · cases h0
    · rcases hl with ⟨rfl, rfl⟩ | ⟨rfl, hl⟩
      · simp [run_sliceBound, hh, hm]
      · simp [run_sliceBound, hl, hh, hm]
theorem run_sliceL {P : Program} {t T : TypeId} (ht : P.underlying t = some (.slice T)) {sz : Nat} (hsz : sizeT P T = some sz) (a : Option Addr) (n c : Nat) (lo hi mx : Option Int) (l h m : Nat) (hm : (mx = none ∧ m = c) ∨ (mx = some (m : Int) ∧ m ≤ c)) (hh : (hi = none ∧ mx = none ∧ h = n) ∨ (hi = some (h : Int) ∧ h ≤ m)) (hl : (lo = none ∧ l = 0) ∨ (lo = some (l : Int) ∧ l ≤ h)) (w : World) :
    (Instr.sliceAt t (.slice a n c) (lo.map (.int .i64)) (hi.map (.int .i64)) (mx.map (.int .i64))).run P w = .ok (sliced a l h m sz) w := by
  have hb := run_sliceB (P := P) n c lo hi mx l h m hm hh hl w
  have hs := run_size (P := P) hsz w
  simp [Instr.sliceAt, run_underlying ht, Instr.slice, hb, hs, sliced]

theorem Arr.sub {α : Type} {E : Enc α} {w : World} {a : Option Addr} {n c : Nat} {L : List α} (h : Arr E w (.slice a n c) L) {l k m : Nat} (hl : l ≤ k) (hk : k ≤ n) (hm : k ≤ m) : Arr E w (sliced a l k m E.sz) ((L.take k).drop l) := by
  obtain ⟨a', c', e⟩ := h.slice
  have hn : n = L.length := by cases e; rfl
  subst hn
  refine ⟨⟨_, _, by simp only [sliced, List.length_drop, List.length_take]; rw [Nat.min_eq_left hk]⟩, flatMap_length E _, fun j x hx => ?_⟩
  have hget : ∀ (L : List α) (j : Nat), ((L.take k).drop l).flatMap E.enc = ((L.flatMap E.enc).take (k * E.sz)).drop (l * E.sz) := by
    intro L j
    have ht : ∀ (k : Nat) (L : List α), (L.take k).flatMap E.enc = (L.flatMap E.enc).take (k * E.sz) := by
      intro k
      induction k with
      | zero => intro L; simp
      | succ k ih =>
        intro L
        cases L with
        | nil => simp
        | cons y L =>
          rw [List.take_succ_cons, List.flatMap_cons, List.flatMap_cons, ih, List.take_append, E.len, Nat.succ_mul]
          rw [List.take_of_length_le (l := E.enc y) (by rw [E.len]; omega)]
          congr 2
          omega
    have hd : ∀ (k : Nat) (L : List α), (L.drop k).flatMap E.enc = (L.flatMap E.enc).drop (k * E.sz) := by
      intro k
      induction k with
      | zero => intro L; simp
      | succ k ih =>
        intro L
        cases L with
        | nil => simp
        | cons y L =>
          rw [List.drop_succ_cons, List.flatMap_cons, ih, List.drop_append, E.len, Nat.succ_mul]
          rw [List.drop_of_length_le (l := E.enc y) (by rw [E.len]; omega)]
          simp
    rw [hd, ht]
  rw [hget L j, List.getElem?_drop] at hx
  rw [List.getElem?_take] at hx
  split at hx
  · rename_i hlt
    obtain ⟨ad, had, hc⟩ := Reads.cell h _ _ hx
    cases had
    have hml : m ≠ l := by
      intro e
      have hkl : k = l := by omega
      subst hkl
      omega
    refine ⟨ad.add (l * E.sz), by simp [sliced, hml, vaddr], ?_⟩
    rw [add_add]
    exact hc
  · cases hx

theorem sliced0 (g h m sz : Nat) : sliced (some ⟨g, 0, none⟩) 0 h m sz = .slice (some ⟨g, 0, none⟩) h m := by simp [sliced, Addr.add]

theorem PtsTo.lt {w : World} {p : Value} {l : List Value} (h : PtsTo w p l) (hl : l ≠ []) : ∀ b, blkOf p = some b → b < w.heap.size := by
  obtain ⟨b, rfl, hc⟩ := h.at_
  intro b' hb'
  cases l with
  | nil => exact absurd rfl hl
  | cons v l =>
    have := World.block_lt_of_cell? w _ (hc 0 v rfl)
    simp only [blkOf, vaddr, Option.map_some, Option.some.injEq] at hb'
    simp only at this
    omega
theorem PtsTo.fits {w : World} {p : Value} {l : List Value} (h : PtsTo w p l) : Base.ptr.fits p := by obtain ⟨b, rfl, _⟩ := h.at_; exact ⟨_, rfl⟩
theorem PtsTo.self {w : World} {p : Value} {l : List Value} (h : PtsTo w p l) : Value.pointer (addO (vaddr p) 0) = p := by obtain ⟨b, rfl, _⟩ := h.at_; simp [vaddr, addO, addr_add]
theorem Arr.lt {α : Type} {E : Enc α} {w : World} {s : Value} {L : List α} (h : Arr E w s L) {j : Nat} {x : α} (hx : L[j]? = some x) (hsz : 0 < E.sz) : ∀ ad, vaddr s = some ad → ad.block < w.heap.size := by
  intro ad had
  obtain ⟨ad', had', hc⟩ := h.elem hx hsz
  rw [had] at had'
  cases had'
  have := World.block_lt_of_cell? w _ (hc 0 ((E.enc x)[0]'(by rw [E.len]; exact hsz)) (by simp))
  rwa [add_block, add_block] at this

section
variable {G : Ctx} {Λ : Nat → List Value → World → Prop} {ε : List Value} {wx ws : World} {X : Nat → Prop} {k k' : VC}
/-- s[lo:hi:mx] -/
theorem den_slice {t₀ T type : TypeId} {x : Operand} {lo hi mx : Option Operand} {vals : List (Operand × SV)} {j : Nat} (a : Option Addr) (n c : Nat) (lo' hi' mx' : Option Int) (l h m sz : Nat)
    (ht : G.P.underlying t₀ = some (.slice T)) (hsz : sizeT G.P T = some sz) (hx : ∀ ρ, ValsAt ε ρ vals → ρ x = .slice a n c) (hlo : ∀ ρ, ValsAt ε ρ vals → lo.map ρ = lo'.map (.int .i64)) (hhi : ∀ ρ, ValsAt ε ρ vals → hi.map ρ = hi'.map (.int .i64)) (hmx : ∀ ρ, ValsAt ε ρ vals → mx.map ρ = mx'.map (.int .i64))
    (hm : (mx' = none ∧ m = c) ∨ (mx' = some (m : Int) ∧ m ≤ c)) (hh : (hi' = none ∧ mx' = none ∧ h = n) ∨ (hi' = some (h : Int) ∧ h ≤ m)) (hl : (lo' = none ∧ l = 0) ∨ (lo' = some (l : Int) ∧ l ≤ h))
    (hj : ∀ v, nth (ε ++ [v]) j = v) (hk : k.den G Λ (ε ++ [sliced a l h m sz]) wx ws X) :
    (VC.pur (.slice t₀ x lo hi mx) type vals [Base.slice] (.var j) k).den G Λ ε wx ws X := by
  refine ⟨[sliced a l h m sz], ⟨⟨_, _, _, rfl⟩, trivial⟩, fun ρ hρ w' _ => ?_, hk⟩
  have hr := run_sliceL (P := G.P) ht hsz a n c lo' hi' mx' l h m hm hh hl w'
  simp only [SV.den, hj]
  simp [execOp, bare, hx ρ hρ, hlo ρ hρ, hhi ρ hρ, hmx ρ hρ, hr]
end
end Go.Sx
