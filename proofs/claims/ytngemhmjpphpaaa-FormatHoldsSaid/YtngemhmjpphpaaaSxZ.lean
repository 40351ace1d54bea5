/- Part Z of a symbolic run of Go code by computation: its states, conditions and the proof that a condition that holds says what the function returns. No conditions of its own. -/
import Derived.Test.YtngemhmjpphpaaaSxY
import Derived.Laws.StructEq
import Derived.ChangeKeysEq
set_option linter.unusedVariables false
set_option linter.unusedSimpArgs false
namespace Go.Sx
open Go.RowKit

theorem flatMap_take {α : Type} (E : Enc α) : ∀ (k : Nat) (L : List α), (L.take k).flatMap E.enc = (L.flatMap E.enc).take (k * E.sz) := by
  intro k
  induction k with
  | zero => intro L; simp
  | succ k ih =>
    intro L
    cases L with
    | nil => simp
    | cons y L =>
      rw [List.take_succ_cons, List.flatMap_cons, List.flatMap_cons, ih, List.take_append, E.len, Nat.succ_mul]
      rw [List.take_of_length_le (l := E.enc y) (by rw [E.len]; omega)]
      congr 2
      omega
/-- the first k elements of a slice of one's own -/
theorem Mine.take {α : Type} {E : Enc α} {T : TypeId} {w : World} {g n c : Nat} {L : List α} (h : Mine E T w (.slice (some ⟨g, 0, none⟩) n c) L) {k : Nat} (hk : k ≤ n) : Mine E T w (.slice (some ⟨g, 0, none⟩) k c) (L.take k) := by
  rcases h with ⟨hl, ⟨e, _⟩ | ⟨g', cap, cur, e, _, hh, hnc, hcm, hcs, ht⟩⟩ | ⟨rfl, g', cur, ty, e, hh⟩
  · cases e
  · simp only [Value.slice.injEq, Option.some.injEq, Addr.mk.injEq] at e
    obtain ⟨⟨rfl, _⟩, hn, rfl⟩ := e
    have hmin : min k L.length = k := Nat.min_eq_left (by omega)
    refine .inl ⟨flatMap_length E _, .inr ⟨g, c, cur, by rw [List.length_take, hmin], Nat.zero_le _, hh, by rw [List.length_take, hmin]; omega, hcm, hcs, ?_⟩⟩
    rw [List.length_take, hmin, flatMap_take, ← ht, List.take_take, ← hn, Nat.min_eq_left (Nat.mul_le_mul_right _ hk)]
  · simp only [Value.slice.injEq, Option.some.injEq, Addr.mk.injEq] at e
    obtain ⟨⟨rfl, _⟩, rfl, rfl⟩ := e
    obtain rfl : k = 0 := by omega
    exact .inr ⟨by simp, g, cur, ty, rfl, hh⟩

/-- clear of what lies behind a slice of one's own -/
theorem run_clearL {P : Program} {t₀ ty T : TypeId} {z : Value} {sz : Nat} (ht : P.underlying t₀ = some (.slice T)) (hz : zeroT P T = some z) (hzs : z.cells.size = sz) (h1 : ∀ u ∈ z.cells.toList, u.oneCell' = true) (w : World) (g n cap : Nat) (xs : List Value) (ho : w.ownsRow 0 T sz (.slice (some ⟨g, 0, none⟩) n cap) n xs) (k : Nat) (hn : n ≤ k) (hk : k ≤ cap) :
    ∃ w', (Builtin.clear_ #[t₀] ty #[sliced (some ⟨g, 0, none⟩) n k cap sz]).run P w = .ok (.tuple #[]) w' ∧ w'.ownsRow 0 T sz (.slice (some ⟨g, 0, none⟩) n cap) n xs ∧ Kept (fun b => b = g) w w' := by
  obtain ⟨hl, ⟨e, _⟩ | ⟨g', cap', cur, e, _, hh, hnc, hcm, hcs, htk⟩⟩ := ho
  · cases e
  · simp only [Value.slice.injEq, Option.some.injEq, Addr.mk.injEq] at e
    obtain ⟨⟨rfl, _⟩, _, rfl⟩ := e
    by_cases hkn : k = n
    · subst hkn
      refine ⟨w, ?_, ⟨hl, .inr ⟨g, cap, cur, rfl, Nat.zero_le _, hh, hnc, hcm, hcs, htk⟩⟩, Kept.refl _ _⟩
      simp only [sliced, Nat.sub_self]
      split <;> simp [Builtin.clear_, run_underlying ht]
    · have hcn : cap ≠ n := by omega
      obtain ⟨m, hm⟩ : ∃ m, k - n = m + 1 := ⟨k - n - 1, by omega⟩
      have had : (⟨g, 0, none⟩ : Addr).add (n * sz) = ⟨g, n * sz, none⟩ := by rw [addr_add, Nat.zero_add]
      have hzz := run_zero (P := P) hz w
      have hzl : (Builtin.zeroCells z.cells (k - n)).toList.length = (k - n) * sz := by simp [Builtin.zeroCells, hzs]
      have hle : n * sz + (k - n) * sz ≤ cap * sz := by rw [← Nat.add_mul]; exact Nat.mul_le_mul_right _ (by omega)
      have hz1 : ∀ v ∈ (Builtin.zeroCells z.cells (k - n)).toList, v.oneCell' = true := by
        intro v hv
        simp only [Builtin.zeroCells, Array.toList_map, List.mem_map, Array.toList_range, List.mem_range] at hv
        obtain ⟨i, hi, rfl⟩ := hv
        have hpos : 0 < z.cells.size := by
          rcases Nat.eq_zero_or_pos z.cells.size with h0 | h0
          · rw [h0] at hi; simp at hi
          · exact h0
        have hlt := Nat.mod_lt i hpos
        refine h1 _ ?_
        rw [getElem!_pos z.cells _ hlt]
        simp
      have hst := run_storeCells_at P g (n * sz) T (Builtin.zeroCells z.cells (k - n)).toList 0 cur w hh (by rw [hzl, hcs]; simpa using hle) hz1
      simp only [Nat.add_zero] at hst
      have hmin : min (n * sz) (cap * sz) = n * sz := Nat.min_eq_left (Nat.mul_le_mul_right _ hnc)
      refine ⟨w.setRow g (cur.toList.take (n * sz) ++ (Builtin.zeroCells z.cells (k - n)).toList ++ cur.toList.drop (n * sz + (Builtin.zeroCells z.cells (k - n)).toList.length)).toArray, ?_, ⟨hl, .inr ⟨g, cap, _, rfl, Nat.zero_le _, setRow_heap w g cur _ T (0, 0) hh, hnc, hcm, ?_, ?_⟩⟩, ?_⟩
      · simp only [sliced, if_neg hcn, Option.map_some, had, hm]
        rw [hm] at hst
        simp [Builtin.clear_, run_underlying ht, hzz, hst]
      · simp only [List.size_toArray, List.length_append, List.length_take, List.length_drop, Array.length_toList, hcs, hzl, hmin]
        omega
      · simp only [List.take_append, List.length_take, Array.length_toList, hcs, hmin, Nat.sub_self, List.take_zero, List.append_nil, List.append_assoc, List.take_take, Nat.min_self]
        simpa using htk
      · exact ⟨rfl, rfl, rfl, by rw [setRow_size]; exact Nat.le_refl _, fun b hb hne => setRow_other _ _ _ _ hne⟩
theorem Mine.clear {P : Program} {α : Type} {E : Enc α} {t₀ ty T : TypeId} {z : Value} (ht : P.underlying t₀ = some (.slice T)) (hz : zeroT P T = some z) (hzs : z.cells.size = E.sz) (h1 : ∀ u ∈ z.cells.toList, u.oneCell' = true) {w : World} {g n cap : Nat} {L : List α} (ho : Mine E T w (.slice (some ⟨g, 0, none⟩) n cap) L) (k : Nat) (hn : n ≤ k) (hk : k ≤ cap) :
    ∃ w', (Builtin.clear_ #[t₀] ty #[sliced (some ⟨g, 0, none⟩) n k cap E.sz]).run P w = .ok (.tuple #[]) w' ∧ Mine E T w' (.slice (some ⟨g, 0, none⟩) n cap) L ∧ Kept (fun b => b = g) w w' := by
  obtain ⟨a, c, e⟩ := ho.slice
  have hnl : n = L.length := by cases e; rfl
  rcases ho with ho | ⟨rfl, g', cur, ty', e, hh⟩
  · rw [← hnl] at ho
    obtain ⟨w', h1', h2, h3⟩ := run_clearL (ty := ty) ht hz hzs h1 w g n cap _ ho k hn hk
    exact ⟨w', h1', .inl (by rw [← hnl]; exact h2), h3⟩
  · simp only [Value.slice.injEq, Option.some.injEq, Addr.mk.injEq] at e
    obtain ⟨⟨rfl, _⟩, rfl, rfl⟩ := e
    obtain rfl : k = 0 := by omega
    refine ⟨w, ?_, .inr ⟨rfl, g, cur, ty', rfl, hh⟩, Kept.refl _ _⟩
    simp [sliced, Builtin.clear_, run_underlying ht]

section
variable {G : Ctx} {Λ : Nat → List Value → World → Prop} {ε : List Value} {wx ws : World} {X : Nat → Prop} {k k' : VC}
/-- clear(s[len(r):n]) where r is a slice of one's own -/
theorem den_clear {α : Type} {E : Enc α} {t₀ T type : TypeId} {z : Value} {y : Operand} {sy : SV} {cl : Call} {drawn : Bool} {t t' un : List Nat} {fs : Facts} (hcl : cl = { callee := .builtin .clear, args := #[y], argTypes := #[t₀] })
    (ht : G.P.underlying t₀ = some (.slice T)) (hz : zeroT G.P T = some z) (hzs : z.cells.size = E.sz) (h1 : ∀ u ∈ z.cells.toList, u.oneCell' = true)
    (g n cap m : Nat) (L : List α) (hy : sy.den ε = sliced (some ⟨g, 0, none⟩) n m cap E.sz) (hn : n ≤ m) (hm : m ≤ cap) (hown : ∀ w, Shown G ε t fs wx w → Mine E T w (.slice (some ⟨g, 0, none⟩) n cap) L)
    (hF : (drawn = true → X g) ∧ (g < G.W0.heap.size → G.M g) ∧ ¬ BlkIn ε un g)
    (hk : ∀ w w', Shown G ε t fs wx w → Mine E T w' (.slice (some ⟨g, 0, none⟩) n cap) L → Kept (fun b => b = g) w w' → k.den G Λ ε w' (if drawn then ws else w') (if drawn then X else BlkIn ε t')) :
    (VC.gen (.call cl) type [(y, sy)] [] (.tuple []) [] drawn t t' un fs k).den G Λ ε wx ws X := by
  subst hcl
  refine den_genF (fun b => b = g) (fun w l w' => l = [] ∧ Mine E T w' (.slice (some ⟨g, 0, none⟩) n cap) L) (fun w hw b hb _ => by subst hb; exact ⟨hF.1, hF.2.1, hF.2.2, fun _ => (hown w hw).notRec rfl⟩) ?_ ?_
  · intro w hw ρ hρ
    have e2 : ρ y = sliced (some ⟨g, 0, none⟩) n m cap E.sz := by have := hρ (y, sy.den ε) (by simp); rw [this, hy]
    obtain ⟨w', hr, ho', hk'⟩ := (hown w hw).clear (ty := type) ht hz hzs h1 m hn hm
    refine .inl ⟨.tuple #[], w', .inl ?_, ⟨[], trivial, rfl, rfl, ho'⟩, hk'⟩
    simp [execOp, bare, resolve, invoke, builtin, e2, hr]
  · rintro w l w' hw hl ⟨rfl, ho'⟩ hs
    have := hk w w' hw ho' hs
    rw [List.append_nil]
    exact this
end

/-! comparison of structs of plain cells -/
def eqV : Value → Value → Bool
  | .int _ a, .int _ b => decide (a = b)
  | .bool a, .bool b => a == b
  | _, _ => false
theorem eqV_int (k k' : IntKind) (a b : Int) : eqV (.int k a) (.int k' b) = decide (a = b) := rfl
theorem eqV_bool (a b : Bool) : eqV (.bool a) (.bool b) = (a == b) := rfl
structure FlatField (P : Program) (xs ys : Array Value) (f : Field) : Prop where
  name : f.name ≠ "_"
  plain : isAggT P f.type = some false
  kind : (∃ k a b, P.underlying f.type = some (.int k) ∧ xs[f.offset]? = some (.int k a) ∧ ys[f.offset]? = some (.int k b)) ∨ (∃ a b, P.underlying f.type = some .bool ∧ xs[f.offset]? = some (.bool a) ∧ ys[f.offset]? = some (.bool b))
theorem run_part1 {P : Program} {t : TypeId} (ha : isAggT P t = some false) {xs : Array Value} {i : Nat} {v : Value} (h : xs[i]? = some v) (w : World) : (part t xs i).run P w = .ok v w := by
  have h1 := run_isAgg (P := P) ha w
  simp [part, h1, h]
theorem run_eqFlat {P : Program} (d : Nat) (xs ys : Array Value) (w : World) : ∀ fs : List Field, (∀ f ∈ fs, FlatField P xs ys f) → (Op.eqFields (d + 1) xs ys fs).run P w = .ok (fs.all fun f => eqV (xs[f.offset]?.getD undef) (ys[f.offset]?.getD undef)) w
  | [], _ => by simp [Op.eqFields]
  | f :: fs, h => by
    have hf := h f (by simp)
    have ih := run_eqFlat d xs ys w fs (fun g hg => h g (by simp [hg]))
    simp only [Op.eqFields]
    rw [if_pos hf.name]
    rcases hf.kind with ⟨k, a, b, hu, hx, hy⟩ | ⟨a, b, hu, hx, hy⟩
    · have e := run_equalIn_int (P := P) w d f.type k k a b hu
      simp only [Sem.run_bind, run_part1 hf.plain hx, run_part1 hf.plain hy, Result.andThen_ok, e, List.all_cons, hx, hy, Option.getD_some, eqV_int, eqV_bool]
      by_cases hab : a = b
      · subst hab; simp [ih]
      · simp [hab]
    · have e := run_equalIn_bool' (P := P) w d f.type a b hu
      simp only [Sem.run_bind, run_part1 hf.plain hx, run_part1 hf.plain hy, Result.andThen_ok, e, List.all_cons, hx, hy, Option.getD_some, eqV_int, eqV_bool]
      cases a <;> cases b <;> simp [ih]
theorem run_neqFlat {P : Program} {t : TypeId} (ht : P.underlying t = some (.struct (P.fieldsOf t))) (hp : P.stoodInHeld t = false) (hg : P.eqGuardType P.depth t = false) (xs ys : Array Value) (h : ∀ f ∈ (P.fieldsOf t).toList, FlatField P xs ys f) (ρ : Operand → Value) (x y : Operand) (p : Nat) (type : TypeId) (hx : ρ x = .agg xs) (hy : ρ y = .agg ys) (w : World) :
    (execOp ρ (bare (.binOp .neq t x y p) type)).run P w = .ok (.value (.bool !((P.fieldsOf t).toList.all fun f => eqV (xs[f.offset]?.getD undef) (ys[f.offset]?.getD undef)))) w := by
  have h1 := run_eqFlat (P := P) 9998 xs ys w _ h
  have h2 := run_equalIn_struct w 9999 t xs ys ht hp
  have h3 := run_eqGuard_agg w .neq t x y xs ys hg
  have h4 := run_neq_struct (P := P) w t xs ys
  rw [h2, h1] at h4
  simp [execOp, bare, hx, hy, h3, h4, Result.andThen]
theorem run_eqlFlat {P : Program} {t : TypeId} (ht : P.underlying t = some (.struct (P.fieldsOf t))) (hp : P.stoodInHeld t = false) (hg : P.eqGuardType P.depth t = false) (xs ys : Array Value) (h : ∀ f ∈ (P.fieldsOf t).toList, FlatField P xs ys f) (ρ : Operand → Value) (x y : Operand) (p : Nat) (type : TypeId) (hx : ρ x = .agg xs) (hy : ρ y = .agg ys) (w : World) :
    (execOp ρ (bare (.binOp .eql t x y p) type)).run P w = .ok (.value (.bool ((P.fieldsOf t).toList.all fun f => eqV (xs[f.offset]?.getD undef) (ys[f.offset]?.getD undef)))) w := by
  have h1 := run_eqFlat (P := P) 9998 xs ys w _ h
  have h2 := run_equalIn_struct w 9999 t xs ys ht hp
  have h3 := run_eqGuard_agg w .eql t x y xs ys hg
  have h4 := run_eql_struct (P := P) w t xs ys
  rw [h2, h1] at h4
  simp [execOp, bare, hx, hy, h3, h4, Result.andThen]
end Go.Sx
