/- What both sides' New return, and a call on a pool and on its specification. No conditions beyond those that each theorem names. -/
import Derived.Test.YtdinjabnfjoojaaG
set_option maxRecDepth 100000
set_option maxHeartbeats 1000000
set_option linter.unusedVariables false
set_option linter.unusedSimpArgs false
namespace Go.Proofs.Ytdinjabnfjoojaa
open Go.Sx

def newL (A : List Int) : List Bk := A.map fun e => ⟨e, 1⟩
def newE (A : List Int) : Int := if 1 ≤ A.length ∧ A.length ≤ 4096 ∧ A.all cnt = true then 0 else 2
theorem newE_or (A : List Int) : newE A = 0 ∨ newE A = 2 := by unfold newE; split <;> simp
theorem newL_ok {A : List Int} (h : newE A = 0) : OkL (newL A) := by
  unfold newE at h
  split at h
  · rename_i h1
    have hc : ∀ e ∈ A, cnt e = true := fun e he => List.all_eq_true.1 h1.2.2 e he
    refine ⟨fun x hx => ?_, fun x hx => ?_, fun e => ?_, by simp [newL]; exact h1.2.1⟩
    · obtain ⟨e, he, rfl⟩ := List.mem_map.1 hx
      exact ⟨by simp, by simp⟩
    · obtain ⟨e, he, rfl⟩ := List.mem_map.1 hx
      have := hc e he
      simp only [cnt, Bool.and_eq_true, decide_eq_true_eq] at this
      exact this
    · have := congrArg List.length e
      simp [newL] at this
      rw [this] at h1
      simp at h1
  · cases h
theorem cn_new (A : List Int) (t : Int) : cn (newL A) t = if t = 1 then (A.length : Int) else 0 := by
  unfold cn newL
  induction A with
  | nil => simp
  | cons e A ih =>
    simp only [List.map_cons, List.filter_cons, isSt]
    by_cases h : t = 1
    · subst h
      simp at ih ⊢
      simpa [isSt] using ih
    · have : ¬ (1 = t) := fun e => h e.symm
      simp [h, this, isSt]

theorem c14 (t : Value) (A : List Int) (w : World) (ht : Arr intE w t A) (hm : A.length ≤ 60000000000) :
    GivesR Try.prog 14 [t] w (fun v w' => ∃ t', v = .tuple #[t', .int .i64 (newE A)] ∧ (newE A ≠ 0 → t' = .slice none 0 0) ∧ (newE A = 0 → Given refE w' t' (newL A) ∧ ∀ ad, vaddr t' = some ad → w.heap.size ≤ ad.block)) := by
  obtain ⟨a, c, rfl⟩ := ht.slice
  have bad : ∀ {w' : World}, newE A = 2 → ∃ t', (Value.tuple #[.slice none 0 0, .int .i64 2]) = .tuple #[t', .int .i64 (newE A)] ∧ (newE A ≠ 0 → t' = .slice none 0 0) ∧ (newE A = 0 → Given refE w' t' (newL A) ∧ ∀ ad, vaddr t' = some ad → w.heap.size ≤ ad.block) := fun h =>
    ⟨_, by rw [h], fun _ => rfl, fun h0 => by rw [h] at h0; cases h0⟩
  refine givesR mix t14 rfl rfl (ε := [.slice a A.length c]) ⟨⟨_, _, _, rfl⟩, trivial⟩ (den_splitLt (fun e => den_leafR _ rfl fun w1 h1 => bad ?_) (fun e1 => den_splitLt (fun e => den_leafR _ rfl fun w1 h1 => bad ?_) (fun e2 => ?_)))
  · have e' : (A.length : Int) < 1 := e
    unfold newE; rw [if_neg]; omega
  · have e' : (4096 : Int) < A.length := e
    unfold newE; rw [if_neg]; omega
  have e1' : (1 : Int) ≤ A.length := e1
  have e2' : (A.length : Int) ≤ 4096 := e2
  have inv : ∀ {j : Nat} {x : Int}, A[j]? = some x → cnt x = false → newE A = 2 := fun hx hc => by
    unfold newE; rw [if_neg]
    intro h
    have := List.all_eq_true.1 h.2.2 _ (List.mem_of_getElem? hx)
    rw [hc] at this; cases this
  refine den_loop (fun ls w' => ∃ (j : Nat) (s : Value), ls = [.int .i64 j, s] ∧ j ≤ A.length ∧ Mine refE 77 w' s ((newL A).take j) ∧ (∀ g, s.ownBlock = some g → w.heap.size ≤ g) ∧ ∀ (i : Nat) x, i < j → A[i]? = some x → cnt x = true) (fun ls _ => A.length - (vint (nth ls 0)).toNat) (fun w1 h1 => ⟨0, .slice none 0 0, rfl, Nat.zero_le _, Mine.nil, (fun g hg => by cases hg), fun i x hi => by omega⟩) ?_
  rintro w1 l w2 h1 hf ⟨j, s, rfl, hj, hs, hown, hcs⟩ hk hfa
  refine den_norm (by simp only [List.cons_append, List.nil_append]; rfl) (den_splitLt (fun h => ?_) (fun h => ?_))
  · have hlt' : j < A.length := by simpa [IE.den, nth, vint, vlen] using h
    have hx : A[j]? = some A[j] := by simp [hlt']
    generalize A[j] = x at hx
    refine den_idx2 (E := intE) (L := A) x j [.int .i64 x] (ht.same hk) rfl (by decide) rfl hx ⟨⟨_, rfl⟩, trivial⟩ (whole _) (fun w h => ht.same h.base) (fun _ _ => by simp [BlkIn]) (fun w3 h3 => den_norm (by simp only [List.cons_append, List.nil_append]; rfl) (den_splitLt (fun e => ?_) (fun e3 => ?_)))
    · have e' : x < 0 := e
      refine den_leaf' fun w4 h4 => (if_neg (by decide)).mpr ⟨_, rfl, bad (inv hx ?_), h4.base⟩
      have : ¬ 0 ≤ x := by omega
      simp [cnt, this]
    have e3' : 0 ≤ x := e3
    refine den_obLe (show (0 : Int) ≤ (j : Int) by omega) (den_obLt (show (j : Int) < (A.length : Int) by omega) ?_)
    refine den_ldi (E := intE) (L := A) x j [.int .i64 x] rfl (by decide) rfl hx ⟨⟨_, rfl⟩, trivial⟩ (whole _) (fun w h => ht.same h.base) (fun _ _ => by simp [BlkIn]) (fun w4 h4 => den_norm (by simp only [List.cons_append, List.nil_append]; rfl) (den_splitLt (fun e => ?_) (fun e4 => ?_)))
    · have e' : 1099511627776 < x := e
      refine den_leaf' fun w4 h4 => (if_neg (by decide)).mpr ⟨_, rfl, bad (inv hx ?_), h4.base⟩
      have : ¬ x ≤ 1099511627776 := by omega
      simp [cnt, this]
    have e4' : x ≤ 1099511627776 := e4
    refine den_obLe (show (0 : Int) ≤ (j : Int) by omega) (den_obLt (show (j : Int) < (A.length : Int) by omega) ?_)
    refine den_ldi (E := intE) (L := A) x j [.int .i64 x] rfl (by decide) rfl hx ⟨⟨_, rfl⟩, trivial⟩ (whole _) (fun w h => ht.same h.base) (fun _ _ => by simp [BlkIn]) (fun w5 h5 => den_norm (by simp only [List.cons_append, List.nil_append]; rfl) (den_blk fun b6 k6 _ k60 => den_norm (by simp only [List.cons_append, List.nil_append]; rfl) ?_))
    have z6 : w.heap.size ≤ b6 := k60
    have hs5 := ((hs.same (shown_same h3)).same (shown_same h4)).same (shown_same h5)
    refine den_push (E := refE) (T := 77) rfl underlying37 info77 zero77 (by kernel_rfl) (by kernel_rfl) (by decide) bytes77 oneR s ((newL A).take j) ⟨x, 1⟩ rfl rfl rfl (by simp; omega) (fun g hg _ => .inl (hown g hg)) (by simp [keys]) (fun w6 h6 => hs5.same (shown_same h6)) (fun g hg _ hin => ?_) (fun hd => by cases hd) (fun _ => rfl) ?_
    · have := hs5.lt hg
      simp [BlkIn, nth, blkOf, vaddr] at hin
      omega
    · intro w6 s2 w7 h6 ho hk7 hfr hap
      have z6 : w.heap.size ≤ w6.heap.size := h6.base.size
      refine den_norm (by simp only [List.cons_append, List.nil_append]; rfl) (den_ob64 (by simp only [IE.den, nth, vint]; omega) (den_leaf' fun w8 h8 => (if_pos rfl).mpr ⟨⟨j + 1, s2, by simp [SV.den, denL, IE.den, BE.den, nth, vint, vbool, vaddr, addO, addr_add], by omega, ?_, fun g hg => ?_, fun i y hi hy => ?_⟩, by simp [SV.den, denL, IE.den, BE.den, nth, vint, vbool, vaddr, addO, addr_add]; omega⟩))
      · have : (newL A).take (j + 1) = (newL A).take j ++ [⟨x, 1⟩] := by rw [List.take_add_one]; simp [newL, hx]
        rw [this]
        exact ho.same (shown_same h8)
      · rcases hfr with ⟨e3, _⟩ | ⟨b', e3, hle, _⟩
        · rw [e3] at hg; exact hown g hg
        · rw [e3] at hg; cases hg; omega
      · by_cases hij : i = j
        · subst hij; rw [hx] at hy; cases hy; simp [cnt, e3', e4']
        · exact hcs i y (by omega) hy
  · have hge : A.length ≤ j := by simpa [IE.den, nth, vint, vlen] using h
    obtain rfl : j = A.length := by omega
    have he : newE A = 0 := by
      unfold newE; rw [if_pos]
      refine ⟨by omega, by omega, List.all_eq_true.2 fun x hx => ?_⟩
      obtain ⟨i, hi⟩ := List.getElem?_of_mem hx
      exact hcs i x (List.getElem?_eq_some_iff.1 hi).1 hi
    rw [List.take_of_length_le (by simp [newL])] at hs
    exact den_leaf' fun w3 h3 => (if_neg (by decide)).mpr ⟨_, rfl, ⟨s, by rw [he]; rfl, fun h => absurd he h, fun _ => ⟨(hs.same (shown_same h3)).given, fun ad had => hown _ (hs.own had)⟩⟩, h3.base⟩

theorem c9 (t : Value) (A : List Int) (w : World) (ht : Arr intE w t A) (hm : A.length ≤ 60000000000) :
    GivesR Try.prog 9 [t] w (fun v w' => ∃ p, v = .tuple #[p, .int .i64 (newE A)] ∧ (newE A ≠ 0 → p = .pointer none) ∧ (newE A = 0 → ∃ b s, p = pt b ∧ PoolAt w' b s (newL A) ∧ w.heap.size ≤ b ∧ ∀ g, s.ownBlock = some g → w.heap.size ≤ g)) := by
  obtain ⟨a, c, rfl⟩ := ht.slice
  have bad : ∀ {w' : World}, newE A = 2 → ∃ p, (Value.tuple #[.pointer none, .int .i64 2]) = .tuple #[p, .int .i64 (newE A)] ∧ (newE A ≠ 0 → p = .pointer none) ∧ (newE A = 0 → ∃ b s, p = pt b ∧ PoolAt w' b s (newL A) ∧ w.heap.size ≤ b ∧ ∀ g, s.ownBlock = some g → w.heap.size ≤ g) := fun h =>
    ⟨_, by rw [h], fun _ => rfl, fun h0 => by rw [h] at h0; cases h0⟩
  refine givesR mix t9 rfl rfl (ε := [.slice a A.length c]) ⟨⟨_, _, _, rfl⟩, trivial⟩ (den_splitLt (fun e => den_leafR _ rfl fun w1 h1 => bad ?_) (fun e1 => den_splitLt (fun e => den_leafR _ rfl fun w1 h1 => bad ?_) (fun e2 => ?_)))
  · have e' : (A.length : Int) < 1 := e
    unfold newE; rw [if_neg]; omega
  · have e' : (4096 : Int) < A.length := e
    unfold newE; rw [if_neg]; omega
  have e1' : (1 : Int) ≤ A.length := e1
  have e2' : (A.length : Int) ≤ 4096 := e2
  refine den_call_bool (b := A.any fun n => !cnt n) (fun w1 h1 => ?_) rfl (fun w1 w2 h1 h2 => den_norm (by simp only [List.cons_append, List.nil_append]; rfl) (den_split (fun e => den_leafR _ rfl fun w1 h1 => bad ?_) (fun e => ?_)))
  · exact c27 _ A (fun n => !cnt n) 28 w1 (by omega) (ht.same h1.base) go28 c28
  · have e' : (A.any fun n => !cnt n) = true := e
    unfold newE; rw [if_neg]
    intro h
    obtain ⟨x, hx, hc⟩ := List.any_eq_true.1 e'
    have := List.all_eq_true.1 h.2.2 x hx
    rw [this] at hc; cases hc
  have he : newE A = 0 := by
    have e' : (A.any fun n => !cnt n) = false := e
    unfold newE; rw [if_pos]
    refine ⟨by omega, by omega, List.all_eq_true.2 fun x hx => ?_⟩
    have := List.any_eq_false.1 e' x hx
    simpa using this
  refine den_blk fun b2 k2 _ k20 => den_norm (by simp only [List.cons_append, List.nil_append]; rfl) ?_
  have z2 : w.heap.size ≤ b2 := k20
  refine den_loop (fun ls w' => ∃ (j : Nat) (s : Value), ls = [.int .i64 j, s, .int .i64 0, .int .i64 0, .int .i64 0, .int .i64 0, .int .i64 0] ∧ j ≤ A.length ∧ Mine blkE 70 w' s ((newL A).take j) ∧ (∀ g, s.ownBlock = some g → w.heap.size ≤ g ∧ g ≠ b2)) (fun ls _ => A.length - (vint (nth ls 0)).toNat) (fun w1 h1 => ⟨0, .slice none 0 0, rfl, Nat.zero_le _, Mine.nil, (fun g hg => by cases hg)⟩) ?_
  rintro w3 l w4 h3 hf ⟨j, s, rfl, hj, hs, hown⟩ hk hfa
  refine den_norm (by simp only [List.cons_append, List.nil_append]; rfl) (den_splitLt (fun h => ?_) (fun h => ?_))
  · have hlt' : j < A.length := by simpa [IE.den, nth, vint, vlen] using h
    have hx : A[j]? = some A[j] := by simp [hlt']
    generalize A[j] = x at hx
    refine den_idx2 (E := intE) (L := A) x j [.int .i64 x] (ht.same hk) rfl (by decide) rfl hx ⟨⟨_, rfl⟩, trivial⟩ (whole _) (fun w h => ht.same h.base) (fun _ _ => by simp [BlkIn]) (fun w5 h5 => den_norm (by simp only [List.cons_append, List.nil_append]; rfl) (den_blk fun b11 k11 _ k110 => den_norm (by simp only [List.cons_append, List.nil_append]; rfl) ?_))
    have z11 : w.heap.size ≤ b11 := k110
    have hs5 := hs.same (shown_same h5)
    refine den_push (E := blkE) (T := 70) rfl underlying54 info70 zero70 (by kernel_rfl) (by kernel_rfl) (by decide) bytes70 one2 s ((newL A).take j) ⟨x, 1⟩ rfl rfl rfl (by simp; omega) (fun g hg _ => .inl (hown g hg).1) (by simp [keys]) (fun w6 h6 => hs5.same (shown_same h6)) (fun g hg _ hin => ?_) (fun hd => by cases hd) (fun _ => rfl) ?_
    · have := hs5.lt hg
      have := (hown g hg).2
      simp [BlkIn, nth, blkOf, vaddr] at hin
      omega
    · intro w6 s2 w7 h6 ho hk7 hfr hap
      have z6 : w.heap.size ≤ w6.heap.size := h6.base.size
      have l2 := h6.lt (i := 2) (b := b2) (by simp [keys]) rfl
      have own2 : ∀ g, s2.ownBlock = some g → w.heap.size ≤ g ∧ g ≠ b2 := fun g hg => by
        rcases hfr with ⟨e3, _⟩ | ⟨b', e3, hle, _⟩
        · rw [e3] at hg; exact hown g hg
        · rw [e3] at hg; cases hg; exact ⟨by omega, by omega⟩
      refine den_norm (by simp only [List.cons_append, List.nil_append]; rfl) (den_ob64 (by simp only [IE.den, nth, vint]; omega) (den_leaf' fun w8 h8 => (if_pos rfl).mpr ⟨⟨j + 1, s2, by simp [SV.den, denL, IE.den, BE.den, nth, vint, vbool, vaddr, addO, addr_add], by omega, ?_, own2⟩, by simp [SV.den, denL, IE.den, BE.den, nth, vint, vbool, vaddr, addO, addr_add]; omega⟩))
      have : (newL A).take (j + 1) = (newL A).take j ++ [⟨x, 1⟩] := by rw [List.take_add_one]; simp [newL, hx]
      rw [this]
      refine ho.kept h8.kept fun g hg hin => ?_
      have := (own2 g hg).2
      simp [BlkIn, nth, blkOf, vaddr] at hin
      omega
  · have hge : A.length ≤ j := by simpa [IE.den, nth, vint, vlen] using h
    obtain rfl : j = A.length := by omega
    rw [List.take_of_length_le (by simp [newL])] at hs
    refine den_leaf' fun w5 h5 => (if_neg (by decide)).mpr ⟨_, rfl, ⟨pt b2, by rw [he]; simp [SV.den, denL, IE.den, BE.den, nth, vint, vbool, vaddr, addO, addr_add], fun h => absurd he h, fun _ => ⟨b2, s, rfl, ⟨?_, hs.kept h5.kept fun g hg hin => ?_, fun e => (hown b2 e).2 rfl⟩, z2, fun g hg => (hown g hg).1⟩⟩, h5.base⟩
    · have := h5.facts.1
      unfold cnV
      rw [cn_new, cn_new, cn_new, cn_new]
      simpa [SV.den, denL, IE.den, BE.den, nth, vint, vbool, vaddr, addO, addr_add, vlen] using this
    · have := (hown g hg).2
      simp [BlkIn, nth, blkOf, vaddr] at hin
      omega
end Go.Proofs.Ytdinjabnfjoojaa
