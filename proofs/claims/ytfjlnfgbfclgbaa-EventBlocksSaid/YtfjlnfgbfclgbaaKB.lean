/- The specification's Abort. No conditions beyond those that each theorem names. -/
import Derived.Test.YtfjlnfgbfclgbaaKA
set_option maxRecDepth 100000
set_option maxHeartbeats 4000000
set_option linter.unusedVariables false
set_option linter.unusedSimpArgs false
namespace Go.Proofs.Ytfjlnfgbfclgbaa
open Go.Sx


theorem erase_first : ∀ (R : List Int) (i : Nat) (id : Int), R[i]? = some id → (∀ (j : Nat) y, j < i → R[j]? = some y → decide (y = id) = false) → R.eraseIdx i = R.erase id ∧ id ∈ R
  | [], i, id, h, _ => by simp at h
  | x :: R, 0, id, h, _ => by cases h; simp
  | x :: R, i + 1, id, h, hf => by
    have h0 := hf 0 x (by omega) rfl
    have hne : x ≠ id := of_decide_eq_false h0
    obtain ⟨q1, q2⟩ := erase_first R i id (by simpa using h) fun j y hj hy => hf (j + 1) y (by omega) (by simpa using hy)
    refine ⟨?_, List.mem_cons_of_mem _ q2⟩
    rw [List.eraseIdx_cons_succ, q1, List.erase_cons_tail (by simpa using hne)]
theorem not_mem_of {R : List Int} {id : Int} (h : ∀ (i : Nat) y, R[i]? = some y → decide (y = id) = false) : id ∉ R := fun hm => by
  obtain ⟨i, hi⟩ := List.getElem?_of_mem hm
  have := h i id hi
  simp at this
def abC (e : Ev) (id : Int) : Int := if id ∈ e.R then 0 else 9
def abE (e : Ev) (id : Int) : Ev := { e with R := e.R.erase id }
theorem given_sub {w : World} {a : Option Addr} {n c : Nat} {L : List Int} (h : Given hE w (.slice a n c) L) {l k : Nat} (hl : l ≤ k) (hk : k ≤ n) (hn : 0 < n) : Arr hE w (sliced a l k c 1) ((L.take k).drop l) ∧ (∀ n' c', sliced a l k c 1 = .slice none n' c' → n' = 0 ∧ c' = 0) := by
  have hnn : n = L.length := by obtain ⟨a', c', e⟩ := h.1.slice; cases e; rfl
  have hc := h.2.2.1
  have hc' : L.length ≤ c := hc
  refine ⟨Arr.sub (E := hE) h.1 hl hk (by omega), fun n' c' e => ?_⟩
  obtain ⟨x, hx⟩ : ∃ x, L[0]? = some x := ⟨L[0]'(by omega), by simp⟩
  obtain ⟨ad, had, _⟩ := h.1.elem hx (by decide)
  have hadv : a = some ad := had
  rw [hadv] at e
  unfold sliced at e
  simp only [Option.map_some] at e
  split at e <;> cases e

theorem c54 (e : Ev) (s1 s2 : Value) (Bl : Nat → Bool) (Pg : Nat → Int) (id : Int) (w : World) (h1 : Given hE w s1 e.R) (h2 : ∃ a n c, s2 = .slice a n c) (hm : e.R.length ≤ 60000) :
    GivesR Try.prog 54 [refV e.lim e.cfg s1 s2 Bl Pg, .int .u16 id] w (fun v w' => ∃ s1', v = .tuple #[refV e.lim e.cfg s1' s2 Bl Pg, .int .i64 (abC e id)] ∧ Given hE w' s1' (abE e id).R ∧ Fr w s1 s1') := by
  obtain ⟨a, c, rfl⟩ := h1.1.slice
  obtain ⟨a2, n2, c2, rfl⟩ := h2
  obtain ⟨lim, cfg, R, L, B⟩ := e
  dsimp only at h1 hm
  have hr := givesR (w := w) (R := fun v w' => ∃ s1', v = .tuple #[refV lim cfg s1' (.slice a2 n2 c2) Bl Pg, .int .i64 (abC ⟨lim, cfg, R, L, B⟩ id)] ∧ Given hE w' s1' (abE ⟨lim, cfg, R, L, B⟩ id).R ∧ Fr w (.slice a R.length c) s1') mix t54 rfl rfl (ε := [.int .i64 lim, .int .u32 cfg, .slice a R.length c, .slice a2 n2 c2, .bool (Bl 0), .bool (Bl 1), .bool (Bl 2), .bool (Bl 3), .bool (Bl 4), .bool (Bl 5), .bool (Bl 6), .bool (Bl 7), .int .u8 (Pg 0), .int .u8 (Pg 1), .int .u8 (Pg 2), .int .u8 (Pg 3), .int .u8 (Pg 4), .int .u8 (Pg 5), .int .u8 (Pg 6), .int .u8 (Pg 7), .int .u16 id]) ⟨⟨_, rfl⟩, ⟨_, rfl⟩, ⟨_, _, _, rfl⟩, ⟨_, _, _, rfl⟩, ⟨_, rfl⟩, ⟨_, rfl⟩, ⟨_, rfl⟩, ⟨_, rfl⟩, ⟨_, rfl⟩, ⟨_, rfl⟩, ⟨_, rfl⟩, ⟨_, rfl⟩, ⟨_, rfl⟩, ⟨_, rfl⟩, ⟨_, rfl⟩, ⟨_, rfl⟩, ⟨_, rfl⟩, ⟨_, rfl⟩, ⟨_, rfl⟩, ⟨_, rfl⟩, ⟨_, rfl⟩, trivial⟩ ?_
  · exact hr
  refine den_blk fun b1 k1 _ _ => den_norm (by simp only [List.cons_append, List.nil_append]; rfl) (den_blk fun b2 k2 _ _ => den_norm (by simp only [List.cons_append, List.nil_append]; rfl) ?_)
  have z1 : w.heap.size ≤ b1 := k1
  have z2 : w.heap.size ≤ b2 := k2
  refine den_for R.length (fun j w' => ∀ (i : Nat) y, i < j → R[i]? = some y → decide (y = id) = false) ⟨rfl, fun w _ i x hi => by omega⟩ ?_
  intro j w3 hj hno hk hfa
  have hA := h1.same hk
  have zW : w.heap.size ≤ w3.heap.size := hk.size
  have f1 : b2 < w3.heap.size ∧ b1 < w3.heap.size := by
    obtain ⟨x1, q1, l1⟩ := hfa.1.lt
    obtain ⟨x2, q2, l2⟩ := hfa.2.1.lt
    cases q1
    cases q2
    exact ⟨l1, l2⟩
  refine den_norm (by simp only [List.cons_append, List.nil_append]; rfl) (den_splitLt (fun hlt => ?_) (fun hge => ?_))
  rotate_left
  · have hge' : R.length ≤ j := by simpa [IE.den, nth, vint, vlen] using hge
    have hnm : id ∉ R := not_mem_of fun i y hi => hno i y (Nat.lt_of_lt_of_le (List.getElem?_eq_some_iff.1 hi).1 hge') hi
    have eC : abC ⟨lim, cfg, R, L, B⟩ id = 9 := if_neg hnm
    refine den_leaf_ne (by decide) (den_leafR _ rfl fun w5 h5 => ⟨.slice a R.length c, by rw [eC]; rfl, ?_⟩)
    show Given hE w5 _ (R.erase id) ∧ _
    rw [List.erase_of_not_mem hnm]
    exact ⟨h1.kept h5.base fun ad had hx => hx, Fr.refl _ _⟩
  have hjl : j < R.length := by simpa [IE.den, nth, vint, vlen] using hlt
  have hn0 : 0 < R.length := by omega
  have hx : R[j]? = some (R[j]'hjl) := by simp
  generalize R[j]'hjl = x at hx
  refine den_idx2 (E := hE) (L := R) x j [.int .u16 x] hA.1 rfl (by decide) rfl hx ⟨⟨_, rfl⟩, trivial⟩ (whole _) (fun w4 h4 => (hA.same (shown_same h4)).1) (fun ad had hin => by simp [BlkIn, nth, blkOf, vaddr] at hin) (fun w4 h4 => den_norm (by simp only [List.cons_append, List.nil_append]; rfl) ?_)
  have hA4 := hA.same (shown_same h4)
  have z4 : w3.heap.size ≤ w4.heap.size := h4.kept.size
  refine den_splitEq (fun h6 => ?_) (fun h6 => ?_)
  rotate_left
  · have h6' : x ≠ id := h6
    refine den_ob64 (by simp only [IE.den, nth, vint]; omega) (den_next rfl hjl fun w5 _ i y hi hy => ?_)
    by_cases hij : i = j
    · subst hij
      rw [hx] at hy
      cases hy
      exact decide_eq_false h6'
    · exact hno i y (by omega) hy
  have h6' : x = id := h6
  subst h6'
  obtain ⟨q1, q2⟩ := erase_first R j x hx hno
  have eC : abC ⟨lim, cfg, R, L, B⟩ x = 0 := if_pos q2
  have hcap : R.length ≤ c := h1.2.2.1
  refine den_startF fun w5 h5 => ?_
  have E5 := hA4.same (shown_same h5)
  have z5 : w4.heap.size ≤ w5.heap.size := h5.kept.size
  have nlo := (given_sub h1 (Nat.zero_le j) (Nat.le_of_lt hjl) hn0).2
  have nhi := (given_sub h1 (l := j + 1) (k := R.length) (by omega) (Nat.le_refl _) hn0).2
  refine den_ob64 (by simp only [IE.den, nth, vint]; omega) (den_both ?_ ?_)
  · refine den_slice a R.length c none (some (j : Int)) none 0 j c 1 u35 st37 (fun ρ h => h.1) (fun _ _ => rfl) (fun ρ h => congrArg some h.2.1) (fun _ _ => rfl) (.inl ⟨rfl, rfl⟩) (.inr ⟨rfl, by omega⟩) (.inl ⟨rfl, rfl⟩) (fun _ => rfl) (den_norm (by simp only [List.cons_append, List.nil_append]; rfl) (den_both ?_ ?_))
    · refine den_appendL (E := hE) (T := 37) rfl u35 i37 z37 s37 rfl (by decide) by37 h_one (.slice none 0 0) (sliced a 0 j c 1) [] (R.take j) rfl rfl nlo (by rw [List.length_nil, List.length_take]; omega) (fun g hg _ => by cases hg) (by simp [keys]) (fun wa ha => ⟨Mine.nil, (given_sub (E5.same (shown_same ha)) (Nat.zero_le j) (Nat.le_of_lt hjl) hn0).1⟩) (fun g hg _ => by cases hg) (fun _ g hg => by cases hg) (fun _ => rfl) (fun wa v wb ha hv kab hfr hap => den_norm (by simp only [List.cons_append, List.nil_append]; rfl) ?_)
      rw [List.nil_append] at hv
      have hlo : ∀ g, v.ownBlock = some g → wa.heap.size ≤ g := fun g hg => by
        rcases hfr with ⟨e1, _⟩ | ⟨b', e1, hb', _⟩
        · rw [e1] at hg; cases hg
        · rw [e1] at hg; cases hg; exact hb'
      have za : w5.heap.size ≤ wa.heap.size := ha.kept.size
      have zb : wa.heap.size ≤ wb.heap.size := kab.size
      have Ea := (E5.same (shown_same ha)).kept kab fun ad had hx => by cases hx.1
      refine den_slice a R.length c (some ((j + 1 : Nat) : Int)) none none (j + 1) R.length c 1 u35 st37 (fun ρ h => h.1) (fun ρ h => congrArg some h.2.1) (fun _ _ => rfl) (fun _ _ => rfl) (.inl ⟨rfl, rfl⟩) (.inl ⟨rfl, rfl, rfl⟩) (.inr ⟨rfl, by omega⟩) (fun _ => rfl) (den_norm (by simp only [List.cons_append, List.nil_append]; rfl) ?_)
      refine den_appendL (E := hE) (T := 37) rfl u35 i37 z37 s37 rfl (by decide) by37 h_one v (sliced a (j + 1) R.length c 1) (R.take j) ((R.take R.length).drop (j + 1)) rfl rfl nhi (by rw [List.length_drop, List.length_take, List.length_take]; omega) (fun g hg _ => .inl (by have := hlo g hg; show w.heap.size ≤ g; omega)) (by simp [keys]) (fun wc hc => ⟨hv.same (shown_same hc), (given_sub (Ea.same (shown_same hc)) (by omega) (Nat.le_refl _) hn0).1⟩) ?_ (fun _ g hg _ => .inl (by have := hlo g hg; omega)) (fun _ => rfl) (fun wc v' wd hc hv' kcd hfr' hap' => den_norm (by simp only [List.cons_append, List.nil_append]; rfl) ?_)
      · intro g hg _ hin2
        have q1 := hlo g hg
        have q2 := hv.lt hg
        simp [BlkIn, nth, blkOf, vaddr] at hin2
        try omega
      refine den_leaf_ne (by decide) (den_leafR _ rfl fun we he => ⟨v', by rw [eC]; rfl, ?_⟩)
      rw [List.take_length] at hv'
      show Given hE we v' (R.erase x) ∧ _
      rw [← q1, List.eraseIdx_eq_take_drop_succ]
      refine ⟨(hv'.kept he.kept fun g hg hin2 => ?_).given, Fr.new fun ad had => ?_⟩
      rotate_left
      · have zc : wb.heap.size ≤ wc.heap.size := hc.kept.size
        have hg := hv'.own had
        rcases hfr' with ⟨q1, _⟩ | ⟨b', q1, hb', _⟩
        · rw [q1] at hg
          have q1 := hlo _ hg
          omega
        · rw [q1] at hg
          have q4 : b' = ad.block := Option.some.inj hg
          omega
      have zc : wb.heap.size ≤ wc.heap.size := hc.kept.size
      rcases hfr' with ⟨q1, _⟩ | ⟨b', q1, hb', _⟩
      · rw [q1] at hg
        have q1 := hlo g hg
        have q2 := hv.lt hg
        simp [BlkIn, nth, blkOf, vaddr] at hin2
        omega
      · rw [q1] at hg
        have q4 : b' = g := Option.some.inj hg
        simp [BlkIn, nth, blkOf, vaddr] at hin2
        omega
    · refine den_slice a R.length c (some ((j + 1 : Nat) : Int)) none none (j + 1) R.length c 1 u35 st37 (fun ρ h => h.1) (fun ρ h => congrArg some h.2.1) (fun _ _ => rfl) (fun _ _ => rfl) (.inl ⟨rfl, rfl⟩) (.inl ⟨rfl, rfl, rfl⟩) (.inr ⟨rfl, by omega⟩) (fun _ => rfl) (den_norm (by simp only [List.cons_append, List.nil_append]; rfl) ?_)
      refine den_appendL (E := hE) (T := 37) rfl u35 i37 z37 s37 rfl (by decide) by37 h_one (.slice none 0 0) (sliced a 0 j c 1) [] (R.take j) rfl rfl nlo (by rw [List.length_nil, List.length_take]; omega) (fun g hg _ => by cases hg) (by simp [keys]) (fun wa ha => ⟨Mine.nil, (given_sub (E5.same (shown_same ha)) (Nat.zero_le j) (Nat.le_of_lt hjl) hn0).1⟩) (fun g hg _ => by cases hg) (fun _ g hg => by cases hg) (fun _ => rfl) (fun wa v wb ha hv kab hfr hap => den_norm (by simp only [List.cons_append, List.nil_append]; rfl) ?_)
      rw [List.nil_append] at hv
      have hlo : ∀ g, v.ownBlock = some g → wa.heap.size ≤ g := fun g hg => by
        rcases hfr with ⟨e1, _⟩ | ⟨b', e1, hb', _⟩
        · rw [e1] at hg; cases hg
        · rw [e1] at hg; cases hg; exact hb'
      have za : w5.heap.size ≤ wa.heap.size := ha.kept.size
      have zb : wa.heap.size ≤ wb.heap.size := kab.size
      have Ea := (E5.same (shown_same ha)).kept kab fun ad had hx => by cases hx.1
      refine den_appendL (E := hE) (T := 37) rfl u35 i37 z37 s37 rfl (by decide) by37 h_one v (sliced a (j + 1) R.length c 1) (R.take j) ((R.take R.length).drop (j + 1)) rfl rfl nhi (by rw [List.length_drop, List.length_take, List.length_take]; omega) (fun g hg _ => .inl (by have := hlo g hg; show w.heap.size ≤ g; omega)) (by simp [keys]) (fun wc hc => ⟨hv.same (shown_same hc), (given_sub (Ea.same (shown_same hc)) (by omega) (Nat.le_refl _) hn0).1⟩) ?_ (fun _ g hg _ => .inl (by have := hlo g hg; omega)) (fun _ => rfl) (fun wc v' wd hc hv' kcd hfr' hap' => den_norm (by simp only [List.cons_append, List.nil_append]; rfl) ?_)
      · intro g hg _ hin2
        have q1 := hlo g hg
        have q2 := hv.lt hg
        simp [BlkIn, nth, blkOf, vaddr] at hin2
        try omega
      refine den_leaf_ne (by decide) (den_leafR _ rfl fun we he => ⟨v', by rw [eC]; rfl, ?_⟩)
      rw [List.take_length] at hv'
      show Given hE we v' (R.erase x) ∧ _
      rw [← q1, List.eraseIdx_eq_take_drop_succ]
      refine ⟨(hv'.kept he.kept fun g hg hin2 => ?_).given, Fr.new fun ad had => ?_⟩
      rotate_left
      · have zc : wb.heap.size ≤ wc.heap.size := hc.kept.size
        have hg := hv'.own had
        rcases hfr' with ⟨q1, _⟩ | ⟨b', q1, hb', _⟩
        · rw [q1] at hg
          have q1 := hlo _ hg
          omega
        · rw [q1] at hg
          have q4 : b' = ad.block := Option.some.inj hg
          omega
      have zc : wb.heap.size ≤ wc.heap.size := hc.kept.size
      rcases hfr' with ⟨q1, _⟩ | ⟨b', q1, hb', _⟩
      · rw [q1] at hg
        have q1 := hlo g hg
        have q2 := hv.lt hg
        simp [BlkIn, nth, blkOf, vaddr] at hin2
        omega
      · rw [q1] at hg
        have q4 : b' = g := Option.some.inj hg
        simp [BlkIn, nth, blkOf, vaddr] at hin2
        omega
  · refine den_slice a R.length c (some ((j + 1 : Nat) : Int)) none none (j + 1) R.length c 1 u35 st37 (fun ρ h => h.1) (fun ρ h => congrArg some h.2.1) (fun _ _ => rfl) (fun _ _ => rfl) (.inl ⟨rfl, rfl⟩) (.inl ⟨rfl, rfl, rfl⟩) (.inr ⟨rfl, by omega⟩) (fun _ => rfl) (den_norm (by simp only [List.cons_append, List.nil_append]; rfl) ?_)
    refine den_slice a R.length c none (some (j : Int)) none 0 j c 1 u35 st37 (fun ρ h => h.1) (fun _ _ => rfl) (fun ρ h => congrArg some h.2.1) (fun _ _ => rfl) (.inl ⟨rfl, rfl⟩) (.inr ⟨rfl, by omega⟩) (.inl ⟨rfl, rfl⟩) (fun _ => rfl) (den_norm (by simp only [List.cons_append, List.nil_append]; rfl) ?_)
    refine den_appendL (E := hE) (T := 37) rfl u35 i37 z37 s37 rfl (by decide) by37 h_one (.slice none 0 0) (sliced a 0 j c 1) [] (R.take j) rfl rfl nlo (by rw [List.length_nil, List.length_take]; omega) (fun g hg _ => by cases hg) (by simp [keys]) (fun wa ha => ⟨Mine.nil, (given_sub (E5.same (shown_same ha)) (Nat.zero_le j) (Nat.le_of_lt hjl) hn0).1⟩) (fun g hg _ => by cases hg) (fun _ g hg => by cases hg) (fun _ => rfl) (fun wa v wb ha hv kab hfr hap => den_norm (by simp only [List.cons_append, List.nil_append]; rfl) ?_)
    rw [List.nil_append] at hv
    have hlo : ∀ g, v.ownBlock = some g → wa.heap.size ≤ g := fun g hg => by
      rcases hfr with ⟨e1, _⟩ | ⟨b', e1, hb', _⟩
      · rw [e1] at hg; cases hg
      · rw [e1] at hg; cases hg; exact hb'
    have za : w5.heap.size ≤ wa.heap.size := ha.kept.size
    have zb : wa.heap.size ≤ wb.heap.size := kab.size
    have Ea := (E5.same (shown_same ha)).kept kab fun ad had hx => by cases hx.1
    refine den_appendL (E := hE) (T := 37) rfl u35 i37 z37 s37 rfl (by decide) by37 h_one v (sliced a (j + 1) R.length c 1) (R.take j) ((R.take R.length).drop (j + 1)) rfl rfl nhi (by rw [List.length_drop, List.length_take, List.length_take]; omega) (fun g hg _ => .inl (by have := hlo g hg; show w.heap.size ≤ g; omega)) (by simp [keys]) (fun wc hc => ⟨hv.same (shown_same hc), (given_sub (Ea.same (shown_same hc)) (by omega) (Nat.le_refl _) hn0).1⟩) ?_ (fun _ g hg _ => .inl (by have := hlo g hg; omega)) (fun _ => rfl) (fun wc v' wd hc hv' kcd hfr' hap' => den_norm (by simp only [List.cons_append, List.nil_append]; rfl) ?_)
    · intro g hg _ hin2
      have q1 := hlo g hg
      have q2 := hv.lt hg
      simp [BlkIn, nth, blkOf, vaddr] at hin2
      try omega
    refine den_leaf_ne (by decide) (den_leafR _ rfl fun we he => ⟨v', by rw [eC]; rfl, ?_⟩)
    rw [List.take_length] at hv'
    show Given hE we v' (R.erase x) ∧ _
    rw [← q1, List.eraseIdx_eq_take_drop_succ]
    refine ⟨(hv'.kept he.kept fun g hg hin2 => ?_).given, Fr.new fun ad had => ?_⟩
    rotate_left
    · have zc : wb.heap.size ≤ wc.heap.size := hc.kept.size
      have hg := hv'.own had
      rcases hfr' with ⟨q1, _⟩ | ⟨b', q1, hb', _⟩
      · rw [q1] at hg
        have q1 := hlo _ hg
        omega
      · rw [q1] at hg
        have q4 : b' = ad.block := Option.some.inj hg
        omega
    have zc : wb.heap.size ≤ wc.heap.size := hc.kept.size
    rcases hfr' with ⟨q1, _⟩ | ⟨b', q1, hb', _⟩
    · rw [q1] at hg
      have q1 := hlo g hg
      have q2 := hv.lt hg
      simp [BlkIn, nth, blkOf, vaddr] at hin2
      omega
    · rw [q1] at hg
      have q4 : b' = g := Option.some.inj hg
      simp [BlkIn, nth, blkOf, vaddr] at hin2
      omega
end Go.Proofs.Ytfjlnfgbfclgbaa
