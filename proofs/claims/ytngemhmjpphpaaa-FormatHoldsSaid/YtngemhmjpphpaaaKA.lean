/- Blocks packed into a sector. No conditions beyond those that each theorem names. -/
import Derived.Test.YtngemhmjpphpaaaH
import Derived.Test.YtngemhmjpphpaaaSxZH
set_option maxRecDepth 100000
set_option maxHeartbeats 4000000
set_option linter.unusedVariables false
set_option linter.unusedSimpArgs false
namespace Go.Proofs.Ytngemhmjpphpaaa
open Go.Sx

def catB (L : List Bl) : List Int := L.flatMap fun q => q.1 ++ q.2
def pkOk (z m : Int) (x : Bool) (t : Int) (fi : Bool) (L : List Bl) : Bool := fOk z m x t fi && decide ((L.length : Int) ≤ per z m x t fi) && fitsB z m L
/-- a sector of blocks, in memory at lo or behind, or none -/
def PR (lo : Nat) (z m : Int) (x : Bool) (t : Int) (fi : Bool) (L : List Bl) (v : Value) (w : World) : Prop :=
  ∃ s, v = .tuple #[s, .int .i64 (if pkOk z m x t fi L then 0 else 2)] ∧ Mine byteE 5 w s (if pkOk z m x t fi L then pad 4160 (catB L) else []) ∧ ∀ g, s.ownBlock = some g → lo ≤ g
theorem pr_no {lo : Nat} {z m : Int} {x : Bool} {t : Int} {fi : Bool} {L : List Bl} {w : World} (h : pkOk z m x t fi L = false) : PR lo z m x t fi L (.tuple #[.slice none 0 0, .int .i64 2]) w := by
  refine ⟨.slice none 0 0, by simp [h], ?_, fun g hg => by cases hg⟩
  rw [h]
  exact Mine.nil
theorem fits_each {z m : Nat} {L : List Bl} (h : fitsB (z : Int) (m : Int) L = true) {q : Bl} (hq : q ∈ L) : q.1.length = z ∧ q.2.length = m := by
  have := List.all_eq_true.1 h q hq
  simp only [Bool.and_eq_true, decide_eq_true_eq] at this
  omega
theorem catB_take {L : List Bl} {j : Nat} {q : Bl} (h : L[j]? = some q) : catB (L.take (j + 1)) = catB (L.take j) ++ q.1 ++ q.2 := by
  rw [take_succ h]
  simp [catB]
theorem catB_length {z m : Nat} : ∀ {L : List Bl}, (∀ q ∈ L, q.1.length = z ∧ q.2.length = m) → (catB L).length = L.length * (z + m)
  | [], _ => by simp [catB]
  | q :: L, h => by
    have h1 := h q (by simp)
    have ih := catB_length (z := z) (m := m) (L := L) fun q hq => h q (by simp [hq])
    simp only [catB, List.flatMap_cons, List.length_append, List.length_cons] at ih ⊢
    rw [ih, h1.1, h1.2, Nat.succ_mul]
    omega
theorem pad_put {N : Nat} {A B : List Int} (h : A.length + B.length ≤ N) : (pad N A).take A.length ++ B ++ (pad N A).drop (A.length + B.length) = pad N (A ++ B) := by
  unfold pad
  rw [List.take_left', List.append_assoc, List.append_assoc]
  · congr 1
    congr 1
    rw [List.drop_append, List.drop_eq_nil_of_le (by omega), List.nil_append, List.drop_replicate, List.length_append]
    congr 1
    omega
  · rfl
theorem pad_len {N : Nat} {A : List Int} (h : A.length ≤ N) : (pad N A).length = N := by
  unfold pad
  simp
  omega
theorem i5s : Try.t5.size = 1 := s5
/-- where the blocks lie: within the sector -/
theorem per_fit {z m : Nat} {x : Bool} {t : Int} {fi : Bool} (hf : fOk (z : Int) (m : Int) x t fi = true) {j : Nat} (hj : (j : Int) < per z m x t fi) : j * (z + m) + (z + m) ≤ 4160 := by
  have h1 := fOk_parts hf
  rw [per_eq hf] at hj
  have e : (4160 : Int).tdiv ((z : Int) + m) = ((4160 / (z + m) : Nat) : Int) := by
    rw [Int.tdiv_eq_ediv_of_nonneg (by omega)]
    push_cast
    rfl
  rw [e] at hj
  have hj' : j + 1 ≤ 4160 / (z + m) := by omega
  have := Nat.mul_le_of_le_div _ _ _ hj'
  rw [Nat.succ_mul] at this
  exact this

theorem sl_at {b at0 N : Nat} (h : at0 ≤ N) : sliced (some ⟨b, 0, none⟩) at0 N N 1 = .slice (some ⟨b, at0, none⟩) (N - at0) (N - at0) ∨ (N - at0 = 0 ∧ ∃ a, sliced (some ⟨b, 0, none⟩) at0 N N 1 = .slice a (N - at0) (N - at0)) := by
  by_cases he : N = at0
  · exact .inr ⟨by omega, _, by unfold sliced; rfl⟩
  · refine .inl ?_
    unfold sliced
    rw [if_neg he]
    simp [Addr.add]
    exact fun h9 => h9.symm

theorem c31 (z m : Int) (x : Bool) (t : Int) (fi : Bool) (s : Value) (LV : List (Sl × Sl)) (L : List Bl) (w : World) (h : Blks 0 w s LV L) (hm : L.length < 9223372036854775808) :
    GivesR Try.prog 31 [fmtV z m x t fi, s] w (fun v w' => PR w.heap.size z m x t fi L v w') := by
  obtain ⟨a, c, rfl⟩ := h.slice
  have hl := h.len
  refine givesR mix t31 rfl rfl (ε := [.int .i64 z, .int .i64 m, .bool x, .int .i64 t, .bool fi, .slice a LV.length c]) ⟨⟨_, rfl⟩, ⟨_, rfl⟩, ⟨_, rfl⟩, ⟨_, rfl⟩, ⟨_, rfl⟩, ⟨_, _, _, rfl⟩, trivial⟩ (den_blk fun b6 k6 _ _ => den_norm (by simp only [List.cons_append, List.nil_append]; rfl) ?_)
  have z6 : w.heap.size ≤ b6 := k6
  refine den_call_bool (b := fOk z m x t fi) (fun w1 h1 => c15 z m x t fi w1) rfl (fun w1 w2 h1 h2 => den_norm (by simp only [List.cons_append, List.nil_append]; rfl) (den_splitNot (fun hf => ?_) (fun hf => ?_)))
  · have hf' : fOk z m x t fi = false := by simpa [BE.den, nth, vbool] using hf
    exact den_leafR _ rfl fun w3 h3 => pr_no (by simp [pkOk, hf'])
  have hf' : fOk z m x t fi = true := by simpa [BE.den, nth, vbool] using hf
  have hp := fOk_parts hf'
  refine den_call_int (x := per z m x t fi) (fun w3 h3 => c17 z m x t fi w3) rfl (fun w3 w4 h3 h4 => den_norm (by simp only [List.cons_append, List.nil_append]; rfl) (den_splitLt (fun hn => ?_) (fun hn => ?_)))
  · have hn' : per z m x t fi < (LV.length : Int) := hn
    have : decide ((L.length : Int) ≤ per z m x t fi) = false := decide_eq_false (by omega)
    exact den_leafR _ rfl fun w3 h3 => pr_no (by simp [pkOk, this])
  have hn' : (LV.length : Int) ≤ per z m x t fi := hn
  refine den_call_bool (b := fitsB z m L) (fun w5 h5 => c49 z m x t fi _ LV L w5 (h.same h5.base) hm) rfl (fun w5 w6 h5 h6 => den_norm (by simp only [List.cons_append, List.nil_append]; rfl) (den_splitNot (fun hb => ?_) (fun hb => ?_)))
  · have hb' : fitsB z m L = false := by simpa [BE.den, nth, vbool] using hb
    exact den_leafR _ rfl fun w3 h3 => pr_no (by simp [pkOk, hb'])
  have hb' : fitsB z m L = true := by simpa [BE.den, nth, vbool] using hb
  have hpk : pkOk z m x t fi L = true := by simp [pkOk, hf', hb']; omega
  clear hf hn hb
  obtain ⟨zz, rfl⟩ : ∃ k : Nat, z = k := ⟨z.toNat, by omega⟩
  obtain ⟨mm, rfl⟩ : ∃ k : Nat, m = k := ⟨m.toNat, by omega⟩
  have hq := fun q (hq : q ∈ L) => fits_each hb' hq
  refine den_make (n := 4160) u40 i5 z5 rfl rfl (by have := by5; omega) (by omega) (fun v => rfl) (fun w7 bm w8 h7 hbm hhm h78 => den_norm (by simp only [List.cons_append, List.nil_append]; rfl) ?_)
  have hM8 := mine_zeros (m := 4160) (by omega) hhm
  have zb : w.heap.size ≤ bm := Nat.le_trans h7.base.size hbm
  have l6 : b6 < w7.heap.size := h7.lt (i := 6) (by simp [keys]) rfl
  have nb : bm ≠ b6 := by omega
  refine den_loop (fun ls w' => ∃ j : Nat, ls = [.int .i64 j] ∧ j ≤ LV.length ∧ Mine byteE 5 w' (.slice (some ⟨bm, 0, none⟩) 4160 4160) (pad 4160 (catB (L.take j)))) (fun ls _ => LV.length - (vint (nth ls 0)).toNat) (fun w9 h9 => ⟨0, rfl, Nat.zero_le _, by simpa [pad, catB] using hM8.same (shown_same h9)⟩) ?_
  clear hM8 hhm
  rintro w9 l w10 h9 hfl ⟨j, rfl, hj, hM10⟩ hk10 hfa10
  refine den_norm (by simp only [List.cons_append, List.nil_append]; rfl) (den_splitLt (fun hlt => ?_) (fun hge => ?_))
  · have hlt' : j < LV.length := by simpa [IE.den, nth, vint, vlen] using hlt
    obtain ⟨p, q, hp1, hq1, g1, g2, n1, n2⟩ := h.pick hlt'
    have hqm := hq q (List.mem_of_getElem? hq1)
    have hcl : (catB (L.take j)).length = j * (zz + mm) := by
      rw [catB_length (z := zz) (m := mm) fun q hq' => hq q (List.mem_of_mem_take hq'), List.length_take]
      congr 1
      omega
    have hfit := per_fit hf' (j := j) (by omega)
    have eat : (j : Int) * ((zz : Int) + (mm : Int)) = ((j * (zz + mm) : Nat) : Int) := by push_cast; rfl
    have hst : catB (L.take (j + 1)) = catB (L.take j) ++ q.1 ++ q.2 := catB_take hq1
    generalize catB (L.take j) = A at hcl hM10 hst
    generalize j * (zz + mm) = at0 at hcl hfit eat
    subst hcl
    refine den_ob64 (by simp only [IE.den, nth, vint]; omega) (den_ob64 (by simp only [IE.den, nth, vint]; rw [eat]; omega) ?_)
    intro w11 h11
    refine ⟨fun b => b = bm ∨ b = b6, fun b hin => (by simp [BlkIn, nth, blkOf, vaddr] at hin; exact .inr hin.symm), ?_⟩
    have old : ∀ ad, vaddr (.slice a LV.length c) = some ad → ¬ (ad.block = bm ∨ ad.block = b6) := fun ad had hin => by
      have := h.arr.lt hp1 (by decide) ad had
      omega
    refine den_slice (some ⟨bm, 0, none⟩) 4160 4160 (some (A.length : Int)) none none A.length 4160 4160 1 u40 st5 (fun ρ h => h.1) (fun ρ h => congrArg some (h.2.1.trans (by simp only [SV.den, IE.den, nth, vint]; rw [eat]))) (fun _ _ => rfl) (fun _ _ => rfl) (.inl ⟨rfl, rfl⟩) (.inl ⟨rfl, rfl, rfl⟩) (.inr ⟨rfl, by omega⟩) (fun _ => rfl) (den_norm (by simp only [List.cons_append, List.nil_append]; rfl) ?_)
    refine den_idxD (E := bvE) (L := LV) p j [p.1.v] rfl (by decide) rfl hp1 ⟨⟨_, _, _, rfl⟩, trivial⟩ (fun m v hv => by cases m with | zero => exact hv | succ m => simp at hv) (h.same h11.base).arr old (den_norm (by simp only [List.cons_append, List.nil_append]; rfl) ?_)
    refine den_copyM (T := 5) rfl u40 st5 bm 4160 4160 _ (sliced (some ⟨bm, 0, none⟩) A.length 4160 4160 1) A.length (4160 - A.length) (4160 - A.length) rfl (sl_at (by omega)) (by omega) p.1.v q.1 rfl (fun w13 h13 => ⟨(hM10.same (shown_same h11)).same (shown_same h13), (g1.same h13.base).1⟩) (fun w13 h13 => ?_) (fun _ => rfl) (fun w13 w14 h13 hM14 k14 => den_norm (by simp only [List.cons_append, List.nil_append]; rfl) ?_)
    · exact ⟨fun _ => .inl rfl, fun hlt => absurd (show bm < w.heap.size from hlt) (by omega), fun hin => (by simp [BlkIn, nth, blkOf, vaddr] at hin; omega), fun hx => (by cases hx)⟩
    rw [Nat.min_eq_left (by omega), List.take_length, pad_put (by omega)] at hM14
    have n14 : min q.1.length (4160 - A.length) = q.1.length := Nat.min_eq_left (by omega)
    intro w15 h15
    refine ⟨fun b => b = bm ∨ b = b6, fun b hin => (by simp [BlkIn, nth, blkOf, vaddr] at hin; exact .inr hin.symm), ?_⟩
    refine den_ob64 (by simp only [IE.den, nth, vint]; rw [eat]; omega) ?_
    refine den_slice (some ⟨bm, 0, none⟩) 4160 4160 (some ((A.length + zz : Nat) : Int)) none none (A.length + zz) 4160 4160 1 u40 st5 (fun ρ h => h.1) (fun ρ h => congrArg some (h.2.1.trans (by simp only [SV.den, IE.den, nth, vint]; rw [eat]; push_cast; rfl))) (fun _ _ => rfl) (fun _ _ => rfl) (.inl ⟨rfl, rfl⟩) (.inl ⟨rfl, rfl, rfl⟩) (.inr ⟨rfl, by omega⟩) (fun _ => rfl) (den_norm (by simp only [List.cons_append, List.nil_append]; rfl) ?_)
    refine den_idxD2 (E := bvE) (L := LV) p j [p.2.v] rfl (by decide) rfl hp1 ⟨⟨_, _, _, rfl⟩, trivial⟩ (fun m v hv => by cases m with | zero => exact hv | succ m => simp at hv) (h.same h15.base).arr old (den_norm (by simp only [List.cons_append, List.nil_append]; rfl) ?_)
    refine den_copyM (T := 5) rfl u40 st5 bm 4160 4160 _ (sliced (some ⟨bm, 0, none⟩) (A.length + zz) 4160 4160 1) (A.length + zz) (4160 - (A.length + zz)) (4160 - (A.length + zz)) rfl (sl_at (by omega)) (by omega) p.2.v q.2 rfl (fun w17 h17 => ⟨(hM14.same (shown_same h15)).same (shown_same h17), (g2.same h17.base).1⟩) (fun w17 h17 => ?_) (fun _ => rfl) (fun w17 w18 h17 hM18 k18 => den_norm (by simp only [List.cons_append, List.nil_append]; rfl) ?_)
    · exact ⟨fun _ => .inl rfl, fun hlt => absurd (show bm < w.heap.size from hlt) (by omega), fun hin => (by simp [BlkIn, nth, blkOf, vaddr] at hin; omega), fun hx => (by cases hx)⟩
    have eal : A.length + zz = (A ++ q.1).length := by rw [List.length_append]; omega
    rw [Nat.min_eq_left (by omega), List.take_length, eal, pad_put (by rw [← eal]; omega), ← hst] at hM18
    refine den_ob64 (by simp only [IE.den, nth, vint]; omega) (den_leaf' fun w19 h19 => (if_pos rfl).mpr ⟨⟨j + 1, by simp [SV.den, denL, IE.den, BE.den, nth, vint, vbool, vaddr, addO, addr_add], by omega, hM18.same (shown_same h19)⟩, ?_⟩)
    simp [SV.den, denL, IE.den, BE.den, nth, vint, vbool, vaddr, addO, addr_add]
    omega
  · have hge' : LV.length ≤ j := by simpa [IE.den, nth, vint, vlen] using hge
    have hjl : L.take j = L := List.take_of_length_le (by omega)
    rw [hjl] at hM10
    refine den_leaf' fun w11 h11 => (if_neg (by decide)).mpr ⟨_, rfl, ⟨.slice (some ⟨bm, 0, none⟩) 4160 4160, by simp [SV.den, denL, IE.den, BE.den, nth, vint, vbool, vaddr, addO, addr_add, hpk], ?_, fun g hg => by cases hg; exact zb⟩, h11.base⟩
    rw [if_pos hpk]
    exact hM10.same (shown_same h11)
end Go.Proofs.Ytngemhmjpphpaaa

/- What Pack returns. No conditions beyond those that each theorem names. -/
set_option maxRecDepth 100000
set_option maxHeartbeats 4000000
set_option linter.unusedVariables false
set_option linter.unusedSimpArgs false
namespace Go.Proofs.Ytngemhmjpphpaaa
open Go.Sx

theorem has3 (p q r : Bool) : (!has [p, q, r] false) = (p && q && r) := by cases p <;> cases q <;> cases r <;> rfl

theorem c30 (z m : Int) (x : Bool) (t : Int) (fi : Bool) (s : Value) (LV : List (Sl × Sl)) (L : List Bl) (w : World) (h : Blks 0 w s LV L) (hm : L.length < 9223372036854775808) :
    GivesR Try.prog 30 [fmtV z m x t fi, s] w (fun v w' => PR w.heap.size z m x t fi L v w') := by
  obtain ⟨a, c, rfl⟩ := h.slice
  have hl := h.len
  refine givesR mix t30 rfl rfl (ε := [.int .i64 z, .int .i64 m, .bool x, .int .i64 t, .bool fi, .slice a LV.length c]) ⟨⟨_, rfl⟩, ⟨_, rfl⟩, ⟨_, rfl⟩, ⟨_, rfl⟩, ⟨_, rfl⟩, ⟨_, _, _, rfl⟩, trivial⟩ (den_blk fun b6 k6 _ _ => den_norm (by simp only [List.cons_append, List.nil_append]; rfl) ?_)
  have z6 : w.heap.size ≤ b6 := k6
  refine den_start1 fun w0 h0 => ?_
  refine den_call_bool (b := fOk z m x t fi) (fun w1 h1 => c14 z m x t fi w1) rfl (fun w1 w2 h1 h2 => den_norm (by simp only [List.cons_append, List.nil_append]; rfl) ?_)
  refine den_call_int (x := per z m x t fi) (fun w3 h3 => c16 z m x t fi w3) rfl (fun w3 w4 h3 h4 => den_norm (by simp only [List.cons_append, List.nil_append]; rfl) ?_)
  refine den_call_bool (b := fitsB z m L) (fun w5 h5 => c48 z m x t fi _ LV L w5 (h.same h5.base) hm) rfl (fun w5 w6 h5 h6 => den_norm (by simp only [List.cons_append, List.nil_append]; rfl) ?_)
  refine den_blk fun b10 k10 _ k100 => den_norm (by simp only [List.cons_append, List.nil_append]; rfl) ?_
  have z10 : w.heap.size ≤ b10 := k100
  refine den_call_bool (b := pkOk z m x t fi L) (fun w7 h7 => ?_) rfl (fun w7 w8 h7 h8 => den_norm (by simp only [List.cons_append, List.nil_append]; rfl) ?_)
  · have := c34 _ [fOk z m x t fi, Sx.leB (LV.length : Int) (per z m x t fi), fitsB z m L] w7 (by simp) (HasBlk.reads h7.facts.1 0 3 3 1 (by simp [denL]))
    rw [has3, Sx.leB_eq, hl] at this
    exact this
  refine den_splitNot (fun hf => ?_) (fun hf => ?_)
  · have hf' : pkOk z m x t fi L = false := by simpa [BE.den, nth, vbool] using hf
    exact den_leafR _ rfl fun w3 h3 => pr_no hf'
  have hpk : pkOk z m x t fi L = true := by simpa [BE.den, nth, vbool] using hf
  clear hf
  have hpk2 := hpk
  simp only [pkOk, Bool.and_eq_true, decide_eq_true_eq] at hpk2
  obtain ⟨⟨hf', hn'⟩, hb'⟩ := hpk2
  have hp := fOk_parts hf'
  obtain ⟨zz, rfl⟩ : ∃ k : Nat, z = k := ⟨z.toNat, by omega⟩
  obtain ⟨mm, rfl⟩ : ∃ k : Nat, m = k := ⟨m.toNat, by omega⟩
  have hq := fun q (hq : q ∈ L) => fits_each hb' hq
  refine den_makeC (n := 0) (c := 4160) u40 i5 z5 rfl rfl (by omega) (by have := by5; omega) (by omega) (fun v => rfl) (fun w9 bm w10 h9 hbm hhm h910 => den_norm (by simp only [List.cons_append, List.nil_append]; rfl) ?_)
  have hM8 := mine_zeros (m := 4160) (by omega) hhm
  have zb : w.heap.size ≤ bm := Nat.le_trans h9.base.size hbm
  have l6 : b6 < w9.heap.size := h9.lt (i := 6) (by simp [keys]) rfl
  have l10 : b10 < w9.heap.size := h9.lt (i := 10) (by simp [keys]) rfl
  have nb : bm ≠ b6 ∧ bm ≠ b10 := by omega
  refine den_loop (fun ls w' => ∃ j : Nat, ls = [.int .i64 j, .slice (some ⟨bm, 0, none⟩) (catB (L.take j)).length 4160] ∧ j ≤ LV.length ∧ bm < w'.heap.size ∧ Mine byteE 5 w' (.slice (some ⟨bm, 0, none⟩) 4160 4160) (pad 4160 (catB (L.take j)))) (fun ls _ => LV.length - (vint (nth ls 0)).toNat) (fun w11 h11 => ⟨0, rfl, Nat.zero_le _, (hM8.same (shown_same h11)).lt rfl, by simpa [pad, catB] using hM8.same (shown_same h11)⟩) ?_
  clear hM8 hhm
  rintro w11 l w12 h11 hfl ⟨j, rfl, hj, lm12, hM12⟩ hk12 hfa12
  refine den_norm (by simp only [List.cons_append, List.nil_append]; rfl) (den_splitLt (fun hlt => ?_) (fun hge => ?_))
  · have hlt' : j < LV.length := by simpa [IE.den, nth, vint, vlen] using hlt
    obtain ⟨p, q, hp1, hq1, g1, g2, n1, n2⟩ := h.pick hlt'
    have hqm := hq q (List.mem_of_getElem? hq1)
    have hcl : (catB (L.take j)).length = j * (zz + mm) := by
      rw [catB_length (z := zz) (m := mm) fun q hq' => hq q (List.mem_of_mem_take hq'), List.length_take]
      congr 1
      omega
    have hfit := per_fit hf' (j := j) (by omega)
    have hst : catB (L.take (j + 1)) = catB (L.take j) ++ q.1 ++ q.2 := catB_take hq1
    generalize catB (L.take j) = A at hcl hM12 hst
    rw [← hcl] at hfit
    refine den_idx2 (E := bvE) (L := LV) p j [p.1.v, p.2.v] ((h.same hk12).arr) rfl (by decide) rfl hp1 ⟨⟨_, _, _, rfl⟩, ⟨_, _, _, rfl⟩, trivial⟩ (whole _) (fun w13 h13 => (h.same h13.base).arr) (fun ad had hin => by simp [BlkIn, nth, blkOf, vaddr] at hin) (fun w13 h13 => den_norm (by simp only [List.cons_append, List.nil_append]; rfl) ?_)
    refine den_blk fun b17 k17 k17' _ => den_norm (by simp only [List.cons_append, List.nil_append]; rfl) ?_
    have n17 : bm ≠ b17 := by
      have : w13.heap.size ≤ b17 := k17'
      have q1 : w12.heap.size ≤ w13.heap.size := h13.kept.size
      omega
    intro w15 h15
    refine ⟨fun b => b = bm ∨ b = b17 ∨ b = b10 ∨ b = b6, fun b hin => (by simp [BlkIn, nth, blkOf, vaddr] at hin; omega), ?_⟩
    refine den_appendIn (T := 5) rfl u40 i5 i5s bm 4160 A.length (pad 4160 A) (by decide) rfl p.1.v q.1 rfl (by omega) g1.2.1 (fun w17 h17 => ⟨((hM12.same (shown_same h13)).same (shown_new h15 fun b hin => ?_)).same (shown_same h17), (g1.same h17.base).1⟩) (fun w17 h17 => ?_) (fun _ => rfl) (fun w17 w18 h17 hM18 k18 => den_norm (by simp only [List.cons_append, List.nil_append]; rfl) ?_)
    · simp [BlkIn, nth, blkOf, vaddr] at hin; omega
    · exact ⟨fun _ => .inl rfl, fun hlt => absurd (show bm < w.heap.size from hlt) (by omega), fun hin => (by simp [BlkIn, nth, blkOf, vaddr] at hin; omega), fun hx => (by cases hx)⟩
    rw [pad_put (by omega)] at hM18
    have eal : A.length + q.1.length = (A ++ q.1).length := by rw [List.length_append]
    rw [eal]
    refine den_appendIn (T := 5) rfl u40 i5 i5s bm 4160 (A ++ q.1).length (pad 4160 (A ++ q.1)) (by decide) rfl p.2.v q.2 rfl (by omega) g2.2.1 (fun w19 h19 => ⟨hM18.same (shown_same h19), (g2.same h19.base).1⟩) (fun w19 h19 => ?_) (fun _ => rfl) (fun w19 w20 h19 hM20 k20 => den_norm (by simp only [List.cons_append, List.nil_append]; rfl) ?_)
    · exact ⟨fun _ => .inl rfl, fun hlt => absurd (show bm < w.heap.size from hlt) (by omega), fun hin => (by simp [BlkIn, nth, blkOf, vaddr] at hin; omega), fun hx => (by cases hx)⟩
    rw [pad_put (by omega), ← hst] at hM20
    have eal2 : (A ++ q.1).length + q.2.length = (catB (L.take (j + 1))).length := by rw [hst]; exact List.length_append.symm
    rw [eal2]
    refine den_ob64 (by simp only [IE.den, nth, vint]; omega) (den_leaf' fun w21 h21 => (if_pos rfl).mpr ⟨⟨j + 1, by simp [SV.den, denL, IE.den, BE.den, nth, vint, vbool, vaddr, addO, addr_add], by omega, (hM20.same (shown_same h21)).lt rfl, hM20.same (shown_same h21)⟩, ?_⟩)
    simp [SV.den, denL, IE.den, BE.den, nth, vint, vbool, vaddr, addO, addr_add]
    omega
  · have hge' : LV.length ≤ j := by simpa [IE.den, nth, vint, vlen] using hge
    have hjl : L.take j = L := List.take_of_length_le (by omega)
    rw [hjl] at hM12 ⊢
    refine den_start0 fun w13 h13 => ?_
    refine den_slice (some ⟨bm, 0, none⟩) (catB L).length 4160 none (some (4160 : Int)) none 0 4160 4160 1 u40 st5 (fun ρ h => h.1) (fun _ _ => rfl) (fun ρ h => congrArg some h.2.1) (fun _ _ => rfl) (.inl ⟨rfl, rfl⟩) (.inr ⟨rfl, by omega⟩) (.inl ⟨rfl, rfl⟩) (fun _ => rfl) ?_
    rw [sliced0]
    refine den_norm (by simp only [List.cons_append, List.nil_append]; rfl) (den_leaf' fun w15 h15 => (if_neg (by decide)).mpr ⟨_, rfl, ⟨.slice (some ⟨bm, 0, none⟩) 4160 4160, by simp [SV.den, denL, IE.den, BE.den, nth, vint, vbool, vaddr, addO, addr_add, hpk], ?_, fun g hg => by cases hg; exact zb⟩, h15.base⟩)
    rw [if_pos hpk]
    exact (hM12.same (shown_same h13)).same (shown_same h15)
end Go.Proofs.Ytngemhmjpphpaaa
