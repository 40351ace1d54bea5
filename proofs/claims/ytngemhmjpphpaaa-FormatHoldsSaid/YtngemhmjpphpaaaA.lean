/- What the functions of the law FormatPlaces return, each for every argument that its theorem names. No conditions beyond those. -/
import Derived.Test.YtngemhmjpphpaaaT
import Derived.Test.YtngemhmjpphpaaaProg
import Derived.KernelRfl
set_option maxRecDepth 100000
set_option linter.unusedVariables false
set_option linter.unusedSimpArgs false
namespace Go.Proofs.Ytngemhmjpphpaaa
open Go.Sx

theorem mix : Try.prog.follows .mixedOrders = true := by kernel_rfl
def pOk (t : Int) (fi : Bool) : Bool := decide (0 ≤ t) && decide (t ≤ 3) && (decide (0 < t) || !fi)
def fOk (z m : Int) (x : Bool) (t : Int) (fi : Bool) : Bool :=
  (decide (z = 512) || decide (z = 4096)) && (decide (m = 0) || decide (m = 8) || decide (m = 16) || decide (m = 64)) && pOk t fi && (decide (0 < m) || (decide (t = 0) && !x))
def per (z m : Int) (x : Bool) (t : Int) (fi : Bool) : Int := if fOk z m x t fi then (4160 : Int).tdiv (z + m) else 0

theorem c36 (t : Int) (fi : Bool) (w : World) : Gives Try.prog 36 [.agg #[.int .i64 t, .bool fi]] w (.bool (pOk t fi)) := by
  refine gives mix t36 rfl rfl (ε := [.int .i64 t, .bool fi]) ⟨⟨_, rfl⟩, ⟨_, rfl⟩, trivial⟩ ?_
  refine den_blk fun b _ _ _ => ?_
  repeat' (first | refine den_leaf ?_ | refine den_split (fun _ => ?_) (fun _ => ?_))
  all_goals simp_all [denL, SV.den, BE.den, IE.den, nth, vint, vbool, pOk, IntKind.bits, Int.fdiv_eq_ediv]
  all_goals first | omega | (cases fi <;> simp_all <;> omega)
theorem c37 (t : Int) (fi : Bool) (w : World) : Gives Try.prog 37 [.agg #[.int .i64 t, .bool fi]] w (.bool (pOk t fi)) := by
  refine gives mix t37 rfl rfl (ε := [.int .i64 t, .bool fi]) ⟨⟨_, rfl⟩, ⟨_, rfl⟩, trivial⟩ ?_
  refine den_blk fun b _ _ _ => ?_
  repeat' (first | refine den_leaf ?_ | refine den_split (fun _ => ?_) (fun _ => ?_))
  all_goals simp_all [denL, SV.den, BE.den, IE.den, nth, vint, vbool, pOk, IntKind.bits]
  all_goals first | omega | (cases fi <;> simp_all <;> omega)
theorem c15 (z m : Int) (x : Bool) (t : Int) (fi : Bool) (w : World) : Gives Try.prog 15 [.agg #[.int .i64 z, .int .i64 m, .bool x, .int .i64 t, .bool fi]] w (.bool (fOk z m x t fi)) := by
  refine gives mix t15 rfl rfl (ε := [.int .i64 z, .int .i64 m, .bool x, .int .i64 t, .bool fi]) ⟨⟨_, rfl⟩, ⟨_, rfl⟩, ⟨_, rfl⟩, ⟨_, rfl⟩, ⟨_, rfl⟩, trivial⟩ ?_
  refine den_blk fun b _ _ _ => ?_
  repeat' (first | refine den_leaf ?_ | refine den_split (fun _ => ?_) (fun _ => ?_) | refine den_call_bool (fun w _ => c37 _ _ w) rfl (fun w w' _ _ => ?_))
  all_goals simp_all [denL, SV.den, BE.den, IE.den, nth, vint, vbool, fOk, IntKind.bits]
  all_goals first | omega | (cases fi <;> simp_all <;> omega)

def idxFrom {α : Type} [DecidableEq α] (v : α) : Nat → List α → Int
  | _, [] => -1
  | k, x :: l => if x = v then k else idxFrom v (k + 1) l
def idx {α : Type} [DecidableEq α] (m : List α) (v : α) : Int := idxFrom v 0 m
theorem idxFrom_found {α : Type} [DecidableEq α] (v : α) : ∀ (m : List α) (k i : Nat), m[i]? = some v → (∀ j : Nat, j < i → m[j]? ≠ some v) → idxFrom v k m = (k + i : Nat)
  | [], _, _, h, _ => by simp at h
  | x :: l, k, 0, h, _ => by simp only [List.getElem?_cons_zero, Option.some.injEq] at h; simp [idxFrom, h]
  | x :: l, k, i + 1, h, hn => by
    have h0 := hn 0 (by omega)
    simp only [List.getElem?_cons_zero, ne_eq, Option.some.injEq] at h0
    rw [idxFrom, if_neg h0, idxFrom_found v l (k + 1) i (by simpa using h) (fun j hj => by have := hn (j + 1) (by omega); simpa using this)]
    congr 1; omega
theorem idxFrom_none {α : Type} [DecidableEq α] (v : α) : ∀ (m : List α) (k : Nat), (∀ j : Nat, m[j]? ≠ some v) → idxFrom v k m = -1
  | [], _, _ => rfl
  | x :: l, k, h => by
    have h0 := h 0
    simp only [List.getElem?_cons_zero, ne_eq, Option.some.injEq] at h0
    rw [idxFrom, if_neg h0, idxFrom_none v l (k + 1) (fun j => by have := h (j + 1); simpa using this)]
theorem idx_found {α : Type} [DecidableEq α] (m : List α) (v : α) (i : Nat) (h : m[i]? = some v) (hn : ∀ j : Nat, j < i → m[j]? ≠ some v) : idx m v = (i : Int) := by
  unfold idx; rw [idxFrom_found v m 0 i h hn]; simp
theorem idx_none {α : Type} [DecidableEq α] (m : List α) (v : α) (h : ∀ j : Nat, m[j]? ≠ some v) : idx m v = -1 := idxFrom_none v m 0 h


theorem c52 (s : Value) (m : List Int) (v : Int) (w : World) (hm : m.length < 4611686018427387904) (hs : Reads w s 1 m.length (m.map (.int .i64))) :
    Gives Try.prog 52 [s, .int .i64 v] w (.int .i64 (idx m v)) := by
  obtain ⟨a, c, rfl⟩ := hs.slice
  refine gives mix t52 rfl rfl (ε := [.slice a m.length c, .int .i64 v]) ⟨⟨_, _, _, rfl⟩, ⟨_, rfl⟩, trivial⟩ ?_
  refine den_loop (fun ls w' => ∃ i : Nat, ls = [.int .i64 i] ∧ i ≤ m.length ∧ ∀ j : Nat, j < i → m[j]? ≠ some v) (fun ls _ => m.length - (vint (nth ls 0)).toNat) ?_ ?_
  · intro w1 h1; exact ⟨0, rfl, by omega, by omega⟩
  · rintro w1 l w2 h1 hf ⟨i, rfl, hi, hne⟩ hk hfa
    refine den_split (fun hlt0 => ?_) (fun hge0 => ?_)
    · have hlt : i < m.length := by simpa [BE.den, IE.den, nth, vint, vlen] using hlt0
      obtain ⟨ad, had, hcell⟩ := hs.cell i (.int .i64 m[i]) (by simp [hlt])
      simp only [vaddr] at had
      subst had
      refine den_ob (by simp [BE.den, IE.den, nth, vint]) (den_ob (by simp [BE.den, IE.den, nth, vint, vlen]; exact hlt) (den_ob (by simp [BE.den, nth, vnil]) (den_start0 fun w3 h3 => ?_)))
      refine den_load [.int .i64 m[i]] (ad.add i) ⟨⟨_, rfl⟩, trivial⟩ ?_ (by simp [BlkIn]) ?_ ?_
      · simp [SV.den, IE.den, nth, vint, vaddr, addO, add_add]
      · intro j x hj
        match j, hj with
        | 0, hj =>
          simp only [List.getElem?_cons_zero, Option.some.injEq] at hj
          subst hj
          rw [add_add, Nat.add_zero]
          exact Kept.cell h3.base hcell (fun h => h)
        | j + 1, hj => simp at hj
      · refine den_split (fun he => ?_) (fun he => ?_)
        · have he : v = m[i] := by simpa [BE.den, IE.den, nth, vint, vbool] using he
          refine den_leaf' fun w4 h4 => ?_
          refine (if_neg (by decide)).mpr ⟨?_, h4.base⟩
          rw [idx_found m v i (by simp [hlt, he]) hne]
          rfl
        · have he : ¬ v = m[i] := by simpa [BE.den, IE.den, nth, vint, vbool] using he
          refine den_ob (by simp [BE.den, IE.den, nth, vint]; omega) (den_ob (by simp [BE.den, IE.den, nth, vint]; omega) (den_leaf' fun w4 h4 => ?_))
          refine (if_pos rfl).mpr ⟨⟨i + 1, rfl, by omega, fun j hj => ?_⟩, ?_⟩
          · by_cases hji : j = i
            · subst hji; simp only [List.getElem?_eq_getElem hlt, ne_eq, Option.some.injEq]; exact fun e => he e.symm
            · exact hne j (by omega)
          · show m.length - (vint (nth [.int .i64 ((i : Int) + 1)] 0)).toNat < m.length - (vint (nth [.int .i64 (i : Int)] 0)).toNat
            simp only [nth, vint]; omega
    · have hge : m.length ≤ i := by simpa [BE.den, IE.den, nth, vint, vlen] using hge0
      refine den_leaf' fun w4 h4 => ?_
      refine (if_neg (by decide)).mpr ⟨?_, h4.base⟩
      rw [idx_none m v (fun j => by
        by_cases hj : j < i
        · exact hne j hj
        · rw [List.getElem?_eq_none (by omega)]; simp)]
      rfl


theorem c56 (s : Value) (m : List Bool) (v : Bool) (w : World) (hm : m.length < 4611686018427387904) (hs : Reads w s 1 m.length (m.map (.bool))) :
    Gives Try.prog 56 [s, .bool v] w (.int .i64 (idx m v)) := by
  obtain ⟨a, c, rfl⟩ := hs.slice
  refine gives mix t56 rfl rfl (ε := [.slice a m.length c, .bool v]) ⟨⟨_, _, _, rfl⟩, ⟨_, rfl⟩, trivial⟩ ?_
  refine den_loop (fun ls w' => ∃ i : Nat, ls = [.int .i64 i] ∧ i ≤ m.length ∧ ∀ j : Nat, j < i → m[j]? ≠ some v) (fun ls _ => m.length - (vint (nth ls 0)).toNat) ?_ ?_
  · intro w1 h1; exact ⟨0, rfl, by omega, by omega⟩
  · rintro w1 l w2 h1 hf ⟨i, rfl, hi, hne⟩ hk hfa
    refine den_split (fun hlt0 => ?_) (fun hge0 => ?_)
    · have hlt : i < m.length := by simpa [BE.den, IE.den, nth, vint, vlen] using hlt0
      obtain ⟨ad, had, hcell⟩ := hs.cell i (.bool m[i]) (by simp [hlt])
      simp only [vaddr] at had
      subst had
      refine den_ob (by simp [BE.den, IE.den, nth, vint]) (den_ob (by simp [BE.den, IE.den, nth, vint, vlen]; exact hlt) (den_ob (by simp [BE.den, nth, vnil]) (den_start0 fun w3 h3 => ?_)))
      refine den_load [.bool m[i]] (ad.add i) ⟨⟨_, rfl⟩, trivial⟩ ?_ (by simp [BlkIn]) ?_ ?_
      · simp [SV.den, IE.den, nth, vint, vaddr, addO, add_add]
      · intro j x hj
        match j, hj with
        | 0, hj =>
          simp only [List.getElem?_cons_zero, Option.some.injEq] at hj
          subst hj
          rw [add_add, Nat.add_zero]
          exact Kept.cell h3.base hcell (fun h => h)
        | j + 1, hj => simp at hj
      · refine den_split (fun he => ?_) (fun he => ?_)
        · have he : v = m[i] := by simpa [BE.den, IE.den, nth, vint, vbool] using he
          refine den_leaf' fun w4 h4 => ?_
          refine (if_neg (by decide)).mpr ⟨?_, h4.base⟩
          rw [idx_found m v i (by simp [hlt, he]) hne]
          rfl
        · have he : ¬ v = m[i] := by simpa [BE.den, IE.den, nth, vint, vbool] using he
          refine den_ob (by simp [BE.den, IE.den, nth, vint]; omega) (den_ob (by simp [BE.den, IE.den, nth, vint]; omega) (den_leaf' fun w4 h4 => ?_))
          refine (if_pos rfl).mpr ⟨⟨i + 1, rfl, by omega, fun j hj => ?_⟩, ?_⟩
          · by_cases hji : j = i
            · subst hji; simp only [List.getElem?_eq_getElem hlt, ne_eq, Option.some.injEq]; exact fun e => he e.symm
            · exact hne j (by omega)
          · show m.length - (vint (nth [.int .i64 ((i : Int) + 1)] 0)).toNat < m.length - (vint (nth [.int .i64 (i : Int)] 0)).toNat
            simp only [nth, vint]; omega
    · have hge : m.length ≤ i := by simpa [BE.den, IE.den, nth, vint, vlen] using hge0
      refine den_leaf' fun w4 h4 => ?_
      refine (if_neg (by decide)).mpr ⟨?_, h4.base⟩
      rw [idx_none m v (fun j => by
        by_cases hj : j < i
        · exact hne j hj
        · rw [List.getElem?_eq_none (by omega)]; simp)]
      rfl

theorem idxFrom_mem {α : Type} [DecidableEq α] (v : α) : ∀ (m : List α) (k : Nat), 0 ≤ idxFrom v k m ↔ v ∈ m
  | [], k => by simp [idxFrom]
  | x :: l, k => by
    unfold idxFrom
    split
    · rename_i h; simp [h]
    · rename_i h; rw [idxFrom_mem v l (k + 1)]; simp only [List.mem_cons]; exact ⟨.inr, fun h' => h'.resolve_left (fun e => h e.symm)⟩
theorem idx_mem {α : Type} [DecidableEq α] (v : α) (m : List α) : 0 ≤ idx m v ↔ v ∈ m := idxFrom_mem v m 0
def has {α : Type} [DecidableEq α] (m : List α) (v : α) : Bool := decide (0 ≤ idx m v)
theorem has_iff {α : Type} [DecidableEq α] (m : List α) (v : α) : has m v = true ↔ v ∈ m := by simp [has, idx_mem]
theorem c35 (s : Value) (m : List Int) (v : Int) (w : World) (hm : m.length < 4611686018427387904) (hs : Reads w s 1 m.length (m.map (.int .i64))) :
    Gives Try.prog 35 [s, .int .i64 v] w (.bool (has m v)) := by
  obtain ⟨a, c, rfl⟩ := hs.slice
  refine gives mix t35 rfl rfl (ε := [.slice a m.length c, .int .i64 v]) ⟨⟨_, _, _, rfl⟩, ⟨_, rfl⟩, trivial⟩ ?_
  exact den_call_int (fun w h => c52 _ m v w hm (hs.same h.base)) rfl (fun w w' _ _ => den_leaf rfl)
theorem c51 (s : Value) (m : List Bool) (v : Bool) (w : World) (hm : m.length < 4611686018427387904) (hs : Reads w s 1 m.length (m.map .bool)) :
    Gives Try.prog 51 [s, .bool v] w (.bool (has m v)) := by
  obtain ⟨a, c, rfl⟩ := hs.slice
  refine gives mix t51 rfl rfl (ε := [.slice a m.length c, .bool v]) ⟨⟨_, _, _, rfl⟩, ⟨_, rfl⟩, trivial⟩ ?_
  exact den_call_int (fun w h => c56 _ m v w hm (hs.same h.base)) rfl (fun w w' _ _ => den_leaf rfl)
theorem c34 (s : Value) (m : List Bool) (w : World) (hm : m.length < 4611686018427387904) (hs : Reads w s 1 m.length (m.map .bool)) :
    Gives Try.prog 34 [s] w (.bool (!has m false)) := by
  obtain ⟨a, c, rfl⟩ := hs.slice
  refine gives mix t34 rfl rfl (ε := [.slice a m.length c]) ⟨⟨_, _, _, rfl⟩, trivial⟩ ?_
  exact den_call_bool (fun w h => c51 _ m false w hm (hs.same h.base)) rfl (fun w w' _ _ => den_leaf rfl)
theorem c14 (z m : Int) (x : Bool) (t : Int) (fi : Bool) (w : World) : Gives Try.prog 14 [.agg #[.int .i64 z, .int .i64 m, .bool x, .int .i64 t, .bool fi]] w (.bool (fOk z m x t fi)) := by
  refine gives mix t14 rfl rfl (ε := [.int .i64 z, .int .i64 m, .bool x, .int .i64 t, .bool fi]) ⟨⟨_, rfl⟩, ⟨_, rfl⟩, ⟨_, rfl⟩, ⟨_, rfl⟩, ⟨_, rfl⟩, trivial⟩ ?_
  refine den_blk fun b1 _ _ _ => den_blk fun b2 _ _ _ => den_blk fun b3 _ _ _ => den_start1 fun w1 h1 => ?_
  refine den_call_bool (fun w h => c35 _ [512, 4096] z w (by decide) (HasBlk.reads h.facts.2.1 0 2 2 1 (by simp [denL]))) rfl (fun w2 w2' _ _ => ?_)
  refine den_call_bool (fun w h => c35 _ [0, 8, 16, 64] m w (by decide) (HasBlk.reads h.facts.1 0 4 4 1 (by simp [denL]))) rfl (fun w3 w3' _ _ => ?_)
  refine den_call_bool (fun w h => c36 t fi w) rfl (fun w4 w4' _ _ => ?_)
  have fin : ∀ (p q r s : Bool), (p = (decide (z = 512) || decide (z = 4096))) → (q = (decide (m = 0) || decide (m = 8) || decide (m = 16) || decide (m = 64))) → (s = (decide (0 < m) || (decide (t = 0) && !x))) →
      (!has [p, q, pOk t fi, s] false) = fOk z m x t fi := by
    rintro p q r s rfl rfl rfl
    unfold fOk
    generalize (decide (z = 512) || decide (z = 4096)) = p
    generalize (decide (m = 0) || decide (m = 8) || decide (m = 16) || decide (m = 64)) = q
    generalize (decide (0 < m) || (decide (t = 0) && !x)) = s
    generalize pOk t fi = r
    cases p <;> cases q <;> cases r <;> cases s <;> rfl
  have h2 : has [512, 4096] z = (decide (z = 512) || decide (z = 4096)) := by
    rw [Bool.eq_iff_iff]; simp [has_iff]
  have h4 : has [0, 8, 16, 64] m = (decide (m = 0) || decide (m = 8) || decide (m = 16) || decide (m = 64)) := by
    rw [Bool.eq_iff_iff]; simp [has_iff, or_assoc]
  have fin2 : ∀ s, (s = (decide (0 < m) || (decide (t = 0) && !x))) → Value.bool (!has [has [512, 4096] z, has [0, 8, 16, 64] m, pOk t fi, s] false) = .bool (fOk z m x t fi) := fun s hs => by rw [fin _ _ true s h2 h4 hs]
  refine den_split (fun h5 => ?_) (fun h5 => ?_)
  · have h5 : 0 < m := by simpa [BE.den, IE.den, nth, vint] using h5
    exact den_blk fun b _ _ _ => den_call_bool (fun w h => c34 _ [has [512, 4096] z, has [0, 8, 16, 64] m, pOk t fi, true] w (by simp) (HasBlk.reads h.facts.1 0 4 4 1 (by simp [denL]))) rfl
      (fun w5 w5' _ _ => den_leaf (congrArg (fun v => [v]) (fin2 true (by simp [h5]))))
  · have h5 : ¬ 0 < m := by simpa [BE.den, IE.den, nth, vint] using h5
    refine den_split (fun h6 => ?_) (fun h6 => ?_)
    · have h6 : t = 0 := by simpa [BE.den, IE.den, nth, vint] using h6
      exact den_blk fun b _ _ _ => den_call_bool (fun w h => c34 _ [has [512, 4096] z, has [0, 8, 16, 64] m, pOk t fi, !x] w (by simp) (HasBlk.reads h.facts.1 0 4 4 1 (by simp [denL]))) rfl
        (fun w5 w5' _ _ => den_leaf (congrArg (fun v => [v]) (fin2 (!x) (by simp [h5, h6]))))
    · have h6 : ¬ t = 0 := by simpa [BE.den, IE.den, nth, vint] using h6
      exact den_blk fun b _ _ _ => den_call_bool (fun w h => c34 _ [has [512, 4096] z, has [0, 8, 16, 64] m, pOk t fi, false] w (by simp) (HasBlk.reads h.facts.1 0 4 4 1 (by simp [denL]))) rfl
        (fun w5 w5' _ _ => den_leaf (congrArg (fun v => [v]) (fin2 false (by simp [h5, h6]))))
theorem fOk_parts {z m : Int} {x : Bool} {t : Int} {fi : Bool} (h : fOk z m x t fi = true) : (z = 512 ∨ z = 4096) ∧ (m = 0 ∨ m = 8 ∨ m = 16 ∨ m = 64) := by
  simp only [fOk, Bool.and_eq_true, Bool.or_eq_true, decide_eq_true_eq] at h
  obtain ⟨⟨⟨h1, h2⟩, _⟩, _⟩ := h
  exact ⟨h1, by omega⟩
theorem per_eq {z m : Int} {x : Bool} {t : Int} {fi : Bool} (h : fOk z m x t fi = true) : per z m x t fi = (4160 : Int).tdiv (z + m) := by simp [per, h]
theorem per_range {z m : Int} {x : Bool} {t : Int} {fi : Bool} (h : fOk z m x t fi = true) : 1 ≤ per z m x t fi ∧ per z m x t fi ≤ 8 := by
  rw [per_eq h]
  obtain ⟨h1, h2⟩ := fOk_parts h
  rcases h1 with rfl | rfl <;> rcases h2 with rfl | rfl | rfl | rfl <;> decide
abbrev fmtV (z m : Int) (x : Bool) (t : Int) (fi : Bool) : Value := .agg #[.int .i64 z, .int .i64 m, .bool x, .int .i64 t, .bool fi]
theorem fitsF (z m : Int) (x : Bool) (t : Int) (fi : Bool) {bs : List Base} {l : List Value} (h : Fits bs l) : Fits (.int .i64 :: .int .i64 :: .bool :: .int .i64 :: .bool :: bs) (.int .i64 z :: .int .i64 m :: .bool x :: .int .i64 t :: .bool fi :: l) :=
  ⟨⟨_, rfl⟩, ⟨_, rfl⟩, ⟨_, rfl⟩, ⟨_, rfl⟩, ⟨_, rfl⟩, h⟩
theorem c16 (z m : Int) (x : Bool) (t : Int) (fi : Bool) (w : World) : Gives Try.prog 16 [fmtV z m x t fi] w (.int .i64 (per z m x t fi)) := by
  refine gives mix t16 rfl rfl (ε := [.int .i64 z, .int .i64 m, .bool x, .int .i64 t, .bool fi]) (fitsF _ _ _ _ _ trivial) ?_
  refine den_blk fun b _ _ _ => den_call_bool (fun w _ => c14 z m x t fi w) rfl (fun w w' _ _ => den_split (fun h => ?_) (fun h => ?_))
  · have h : fOk z m x t fi = false := by simpa [BE.den, nth, vbool] using h
    exact den_leaf (by simp [denL, SV.den, IE.den, per, h])
  · have h : fOk z m x t fi = true := by simpa [BE.den, nth, vbool] using h
    have h1 := fOk_parts h
    have h2 := per_range h
    rw [per_eq h] at h2
    refine den_ob ?_ (den_ob ?_ (den_ob ?_ (den_ob ?_ (den_ob ?_ (den_leaf ?_)))))
    · simp [BE.den, IE.den, nth, vint]; omega
    · simp [BE.den, IE.den, nth, vint]; omega
    · simp [BE.den, IE.den, nth, vint]; omega
    · simp [BE.den, IE.den, nth, vint]; omega
    · simp [BE.den, IE.den, nth, vint]; omega
    · rw [per_eq h]; rfl
theorem c17 (z m : Int) (x : Bool) (t : Int) (fi : Bool) (w : World) : Gives Try.prog 17 [fmtV z m x t fi] w (.int .i64 (per z m x t fi)) := by
  refine gives mix t17 rfl rfl (ε := [.int .i64 z, .int .i64 m, .bool x, .int .i64 t, .bool fi]) (fitsF _ _ _ _ _ trivial) ?_
  refine den_blk fun b _ _ _ => den_call_bool (fun w _ => c15 z m x t fi w) rfl (fun w w' _ _ => den_split (fun h => ?_) (fun h => ?_))
  · have h : fOk z m x t fi = false := by simpa [BE.den, nth, vbool] using h
    exact den_leaf (by simp [denL, SV.den, IE.den, per, h])
  · have h : fOk z m x t fi = true := by simpa [BE.den, nth, vbool] using h
    have h1 := fOk_parts h
    have h2 := per_range h
    rw [per_eq h] at h2
    refine den_ob ?_ (den_ob ?_ (den_ob ?_ (den_ob ?_ (den_ob ?_ (den_leaf ?_)))))
    · simp [BE.den, IE.den, nth, vint]; omega
    · simp [BE.den, IE.den, nth, vint]; omega
    · simp [BE.den, IE.den, nth, vint]; omega
    · simp [BE.den, IE.den, nth, vint]; omega
    · simp [BE.den, IE.den, nth, vint]; omega
    · rw [per_eq h]; rfl

def plOk (z m : Int) (x : Bool) (t : Int) (fi : Bool) (n : Int) : Bool := fOk z m x t fi && decide (0 ≤ n)
def plS (z m : Int) (x : Bool) (t : Int) (fi : Bool) (n : Int) : Int := if plOk z m x t fi n then n.tdiv (per z m x t fi) else 0
def plI (z m : Int) (x : Bool) (t : Int) (fi : Bool) (n : Int) : Int := if plOk z m x t fi n then n.tmod (per z m x t fi) else 0
def plE (z m : Int) (x : Bool) (t : Int) (fi : Bool) (n : Int) : Int := if plOk z m x t fi n then 0 else 2
def scN (z m : Int) (x : Bool) (t : Int) (fi : Bool) (n : Int) : Int := if plOk z m x t fi n then (if 0 < n.tmod (per z m x t fi) then n.tdiv (per z m x t fi) + 1 else n.tdiv (per z m x t fi)) else 0
theorem tdiv_range {n p : Int} (h0 : 0 ≤ n) (hp : 1 ≤ p) : 0 ≤ n.tdiv p ∧ n.tdiv p ≤ n := by
  rw [Int.tdiv_eq_ediv_of_nonneg h0]
  exact ⟨Int.ediv_nonneg h0 (by omega), Int.ediv_le_self _ h0⟩
theorem tmod_div {n p : Int} (h0 : 0 ≤ n) (hp : 1 ≤ p) (h : 0 < n.tmod p) : n.tdiv p + 1 ≤ n := by
  rw [Int.tdiv_eq_ediv_of_nonneg h0]
  rw [Int.tmod_eq_emod_of_nonneg h0] at h
  have h1 := Int.mul_ediv_add_emod n p
  have h2 : 0 ≤ n / p := Int.ediv_nonneg h0 (by omega)
  have h3 : n / p ≤ p * (n / p) := by
    have := Int.mul_le_mul_of_nonneg_right hp h2
    omega
  omega
theorem c10 (z m : Int) (x : Bool) (t : Int) (fi : Bool) (n : Int) (hn : n ≤ 9223372036854775807) (w : World) :
    Gives Try.prog 10 [fmtV z m x t fi, .int .i64 n] w (.tuple #[.int .i64 (plS z m x t fi n), .int .i64 (plI z m x t fi n), .int .i64 (plE z m x t fi n)]) := by
  refine gives mix t10 rfl rfl (ε := [.int .i64 z, .int .i64 m, .bool x, .int .i64 t, .bool fi, .int .i64 n]) (fitsF _ _ _ _ _ ⟨⟨_, rfl⟩, trivial⟩) ?_
  refine den_blk fun b _ _ _ => den_call_bool (fun w _ => c14 z m x t fi w) rfl (fun w1 w1' _ _ => den_blk fun b2 _ _ _ => ?_)
  refine den_call_bool (fun w h => c34 _ [fOk z m x t fi, decide (0 ≤ n)] w (by simp) (HasBlk.reads h.facts.1 0 2 2 1 (by simp [denL]))) rfl (fun w2 w2' _ _ => ?_)
  have hk : (!has [fOk z m x t fi, decide (0 ≤ n)] false) = plOk z m x t fi n := by
    unfold plOk
    generalize fOk z m x t fi = p
    generalize decide (0 ≤ n) = q
    cases p <;> cases q <;> rfl
  refine den_split (fun h => ?_) (fun h => ?_)
  · have h : plOk z m x t fi n = false := by rw [← hk]; simpa [BE.den, nth, vbool] using h
    exact den_leaf (by simp [denL, SV.den, IE.den, plS, plI, plE, h])
  · have h : plOk z m x t fi n = true := by rw [← hk]; simpa [BE.den, nth, vbool] using h
    have h0 : fOk z m x t fi = true ∧ 0 ≤ n := by simpa [plOk] using h
    have h2 := per_range h0.1
    have h3 := tdiv_range h0.2 h2.1
    refine den_call_int (fun w _ => c16 z m x t fi w) rfl (fun w3 w3' _ _ => den_start1 fun w4 _ => ?_)
    refine den_ob ?_ (den_ob ?_ (den_ob ?_ (den_ob ?_ (den_leaf ?_))))
    · simp [BE.den, IE.den, nth, vint]; omega
    · simp [BE.den, IE.den, nth, vint]; omega
    · simp [BE.den, IE.den, nth, vint]; omega
    · simp [BE.den, IE.den, nth, vint]; omega
    · simp [denL, SV.den, IE.den, nth, vint, plS, plI, plE, h]
theorem c11 (z m : Int) (x : Bool) (t : Int) (fi : Bool) (n : Int) (hn : n ≤ 9223372036854775807) (w : World) :
    Gives Try.prog 11 [fmtV z m x t fi, .int .i64 n] w (.tuple #[.int .i64 (plS z m x t fi n), .int .i64 (plI z m x t fi n), .int .i64 (plE z m x t fi n)]) := by
  refine gives mix t11 rfl rfl (ε := [.int .i64 z, .int .i64 m, .bool x, .int .i64 t, .bool fi, .int .i64 n]) (fitsF _ _ _ _ _ ⟨⟨_, rfl⟩, trivial⟩) ?_
  refine den_blk fun b _ _ _ => den_call_bool (fun w _ => c15 z m x t fi w) rfl (fun w1 w1' _ _ => den_split (fun h => ?_) (fun h => den_split (fun h' => ?_) (fun h' => ?_)))
  · have h : fOk z m x t fi = false := by simpa [BE.den, nth, vbool] using h
    exact den_leaf (by simp [denL, SV.den, IE.den, plS, plI, plE, plOk, h])
  · have h' : n < 0 := by simpa [BE.den, IE.den, nth, vint] using h'
    have : ¬ 0 ≤ n := by omega
    exact den_leaf (by simp [denL, SV.den, IE.den, plS, plI, plE, plOk, this])
  · have h : fOk z m x t fi = true := by simpa [BE.den, nth, vbool] using h
    have h' : 0 ≤ n := by simpa [BE.den, IE.den, nth, vint] using h'
    have hk : plOk z m x t fi n = true := by simp [plOk, h, h']
    have h2 := per_range h
    have h3 := tdiv_range h' h2.1
    repeat' (first | refine den_start1 (fun w4 _ => ?_) | refine den_call_int (fun w _ => c17 z m x t fi w) rfl (fun w3 w3' _ _ => ?_) | refine den_ob ?_ ?_ | refine den_leaf ?_)
    all_goals first
      | (simp [denL, SV.den, IE.den, nth, vint, plS, plI, plE, hk]; done)
      | (simp [BE.den, IE.den, nth, vint]; omega)
theorem c12 (z m : Int) (x : Bool) (t : Int) (fi : Bool) (n : Int) (hn : n ≤ 9223372036854775807) (w : World) :
    Gives Try.prog 12 [fmtV z m x t fi, .int .i64 n] w (.tuple #[.int .i64 (scN z m x t fi n), .int .i64 (plE z m x t fi n)]) := by
  refine gives mix t12 rfl rfl (ε := [.int .i64 z, .int .i64 m, .bool x, .int .i64 t, .bool fi, .int .i64 n]) (fitsF _ _ _ _ _ ⟨⟨_, rfl⟩, trivial⟩) ?_
  refine den_blk fun b _ _ _ => den_call [.int .i64 (plS z m x t fi n), .int .i64 (plI z m x t fi n), .int .i64 (plE z m x t fi n)] ⟨⟨_, rfl⟩, ⟨_, rfl⟩, ⟨_, rfl⟩, trivial⟩ rfl (fun w _ => c10 z m x t fi n hn w) (fun w1 w1' _ _ => ?_)
  by_cases hk : plOk z m x t fi n = true
  · have h0 : fOk z m x t fi = true ∧ 0 ≤ n := by simpa [plOk] using hk
    have h2 := per_range h0.1
    have h3 := tdiv_range h0.2 h2.1
    have h4 := tmod_div h0.2 h2.1
    refine den_split (fun h => den_split (fun h' => den_ob ?_ (den_ob ?_ (den_leaf ?_))) (fun h' => den_leaf ?_)) (fun h => ?_)
    all_goals simp_all [denL, SV.den, BE.den, IE.den, nth, vint, plS, plI, plE, scN]
    all_goals omega
  · refine den_split (fun h => ?_) (fun h => ?_)
    · simp [BE.den, IE.den, nth, vint, plE, hk] at h
    · exact den_leaf (by simp [denL, SV.den, IE.den, nth, vint, plS, plI, plE, scN, hk])
theorem c13 (z m : Int) (x : Bool) (t : Int) (fi : Bool) (n : Int) (hn : n ≤ 9223372036854775807) (w : World) :
    Gives Try.prog 13 [fmtV z m x t fi, .int .i64 n] w (.tuple #[.int .i64 (scN z m x t fi n), .int .i64 (plE z m x t fi n)]) := by
  refine gives mix t13 rfl rfl (ε := [.int .i64 z, .int .i64 m, .bool x, .int .i64 t, .bool fi, .int .i64 n]) (fitsF _ _ _ _ _ ⟨⟨_, rfl⟩, trivial⟩) ?_
  refine den_blk fun b _ _ _ => den_call_bool (fun w _ => c15 z m x t fi w) rfl (fun w1 w1' _ _ => den_split (fun h => ?_) (fun h => den_split (fun h' => ?_) (fun h' => ?_)))
  · have h : fOk z m x t fi = false := by simpa [BE.den, nth, vbool] using h
    exact den_leaf (by simp [denL, SV.den, IE.den, scN, plE, plOk, h])
  · have h' : n < 0 := by simpa [BE.den, IE.den, nth, vint] using h'
    have : ¬ 0 ≤ n := by omega
    exact den_leaf (by simp [denL, SV.den, IE.den, scN, plE, plOk, this])
  · have h : fOk z m x t fi = true := by simpa [BE.den, nth, vbool] using h
    have h' : 0 ≤ n := by simpa [BE.den, IE.den, nth, vint] using h'
    have hk : plOk z m x t fi n = true := by simp [plOk, h, h']
    have h2 := per_range h
    have h3 := tdiv_range h' h2.1
    have h4 := tmod_div h' h2.1
    repeat' (first | refine den_start1 (fun w4 _ => ?_) | refine den_call_int (fun w _ => c17 z m x t fi w) rfl (fun w3 w3' _ _ => ?_) | refine den_ob ?_ ?_ | refine den_leaf ?_ | refine den_split (fun h => ?_) (fun h => ?_))
    all_goals simp_all [denL, SV.den, BE.den, IE.den, nth, vint, scN, plE]
    all_goals omega
theorem c18 (n : Int) (w : World) : Gives Try.prog 18 [.int .i64 n] w (.int .i64 n) :=
  gives mix t18 rfl rfl (ε := [.int .i64 n]) ⟨⟨_, rfl⟩, trivial⟩ (den_leaf rfl)
end Go.Proofs.Ytngemhmjpphpaaa
