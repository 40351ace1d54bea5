/- What the specification's functions over orders return. No conditions beyond those that each theorem names. -/
import Derived.Test.YtfjimghpjopgoaaI
import Derived.Test.YtfjimghpjopgoaaSxZC
set_option maxRecDepth 100000
set_option linter.unusedVariables false
set_option linter.unusedSimpArgs false
namespace Go.Proofs.Ytfjimghpjopgoaa
open Go.Sx

theorem underlying60 : Try.prog.underlying 60 = some (.slice 71) := by kernel_rfl
theorem info71 : Try.prog.info? 71 = some Try.t71 := by kernel_rfl
theorem zero71 : Try.t71.zero = some z82 := by kernel_rfl
theorem bytes71 : Try.t71.bytes ≤ 1000 := by decide +kernel
theorem size71 : sizeT Try.prog 71 = some 4 := by kernel_rfl
theorem c47 (s : Value) (L : List Cmd) (id : Int) (w : World) (hs : Arr cmdE w s L) (hm : L.length < 4611686018427387904) : Gives Try.prog 47 [.agg #[s], .int .i64 id] w (.int .i64 (fnd L id)) := by
  obtain ⟨a, cp, rfl⟩ := hs.slice
  refine gives mix t47 rfl rfl (ε := [.slice a L.length cp, .int .i64 id]) ⟨⟨_, _, _, rfl⟩, ⟨_, rfl⟩, trivial⟩ (den_blk fun b hb _ _ => den_norm (by simp only [List.cons_append, List.nil_append]; rfl) ?_)
  refine den_for L.length (fun j _ => ∀ (i : Nat) y, i < j → L[i]? = some y → decide (y.id = id) = false) ⟨rfl, fun w _ i y hi => by omega⟩ ?_
  intro j w1 hj hI hk hfa
  refine den_norm (by simp only [List.cons_append, List.nil_append]; rfl) (den_splitLt (fun hlt => ?_) (fun hge => ?_))
  · have hlt' : j < L.length := by simpa [IE.den, nth, vint, vlen] using hlt
    have hx : L[j]? = some L[j] := by simp [hlt']
    refine den_idx (E := cmdE) (L := L) L[j] j [.int .i64 L[j].id] rfl (by decide) rfl hx ⟨⟨_, rfl⟩, trivial⟩ (fun m v hv => by cases m with | zero => exact hv | succ m => simp at hv) (fun w h => ⟨hs.same h.base, fun ad had => by simp [BlkIn, nth, blkOf, vaddr]⟩) (fun w2 h2 => ?_) ⟨w1, Kept.refl _ _, hk, hfa, fun i j hi hj hn => by simp [keys] at hi hj <;> omega⟩
    refine den_norm (by simp only [List.cons_append, List.nil_append]; rfl) (den_splitEq (fun he => ?_) (fun he => ?_))
    · refine den_leaf_ne (by decide) (den_leaf ?_)
      simp only [denL, SV.den, IE.den, nth, vint]
      unfold fnd
      rw [idxFrom_found (fun _ (x : Cmd) => decide (x.id = id)) L 0 j L[j] hx (by simpa [IE.den, nth, vint] using he) (fun i y hi hy => hI i y hi hy)]
      simp
    · refine den_ob64 (by simp only [IE.den, nth, vint]; omega) (den_next rfl hlt' fun w _ i y hi hy => ?_)
      by_cases hij : i = j
      · subst hij
        rw [hx] at hy
        cases hy
        simpa [IE.den, nth, vint] using he
      · exact hI i y (by omega) hy
  · have hge' : L.length ≤ j := by simpa [IE.den, nth, vint, vlen] using hge
    refine den_leaf_ne (by decide) (den_leaf ?_)
    simp only [denL, SV.den, IE.den]
    unfold fnd
    rw [idxFrom_none (fun _ (x : Cmd) => decide (x.id = id)) L 0 (fun i y hy => hI i y (Nat.lt_of_lt_of_le (List.getElem?_eq_some_iff.1 hy).1 hge') hy)]

theorem c27 (s : Value) (L : List Cmd) (i : Nat) (w : World) (hs : Arr cmdE w s L) (hi : i < L.length) (hm : L.length < 4611686018427387904) : Gives Try.prog 27 [.agg #[s], .int .i64 i] w (.bool (rdy L i)) := by
  obtain ⟨a, cp, rfl⟩ := hs.slice
  obtain ⟨c, hc⟩ : ∃ c, L[i]? = some c := ⟨L[i], by simp [hi]⟩
  refine gives mix t27 rfl rfl (ε := [.slice a L.length cp, .int .i64 i]) ⟨⟨_, _, _, rfl⟩, ⟨_, rfl⟩, trivial⟩ (den_blk fun b hb _ _ => den_norm (by simp only [List.cons_append, List.nil_append]; rfl) ?_)
  refine den_for i (fun j _ => ∀ (m : Nat) y, m < j → L[m]? = some y → conf y c = false) ⟨rfl, fun w _ m y hm => by omega⟩ ?_
  intro j w1 hj hI hk hfa
  refine den_norm (by simp only [List.cons_append, List.nil_append]; rfl) (den_splitLt (fun hlt => ?_) (fun hge => ?_))
  · have hlt' : j < i := by simpa [IE.den, nth, vint, vlen] using hlt
    have hx : L[j]? = some (L[j]'(by omega)) := by simp
    generalize L[j]'(by omega) = x at hx
    refine den_start1 fun w2 h2 => ?_
    have no : ∀ ad, vaddr (.slice a L.length cp) = some ad → ¬ BlkIn [.slice a L.length cp, .int .i64 i, .pointer (some ⟨b, 0, none⟩), .int .i64 j] [2] ad.block := fun ad had => by have := hs.lt hx (by decide) ad had; simp [BlkIn, nth, blkOf, vaddr]; omega
    refine den_idxD (E := cmdE) (L := L) x j (cmdE.enc x) rfl (by decide) rfl hx (fit4 _ _ _ _) (whole _) (hs.same h2.base) no (den_norm (by simp only [List.cons_append, List.nil_append]; rfl) ?_)
    refine den_idxD2 (E := cmdE) (L := L) c i (cmdE.enc c) rfl (by decide) rfl hc (fit4 _ _ _ _) (whole _) (hs.same h2.base) no ?_
    refine den_norm (by simp only [List.cons_append, List.nil_append, cmdE]; rfl) ?_
    refine den_call_bool (b := conf x c) (fun w3 _ => c46 x c w3) rfl (fun w3 w4 _ _ => den_norm (by simp only [List.cons_append, List.nil_append]; rfl) (den_split (fun he => ?_) (fun he => ?_)))
    · refine den_leaf_ne (by decide) (den_leaf ?_)
      have he' : conf x c = true := he
      have : rdy L i = false := by
        unfold rdy
        rw [hc]
        simp only [List.all_eq_false, Bool.not_eq_true', Bool.not_eq_false]
        exact ⟨x, List.mem_of_getElem? (by rw [List.getElem?_take, if_pos hlt']; exact hx), by rw [he']⟩
      rw [this]
      rfl
    · have he' : conf x c = false := he
      refine den_ob64 (by simp only [IE.den, nth, vint]; omega) (den_next rfl hlt' fun w _ m y hm hy => ?_)
      by_cases hij : m = j
      · subst hij
        rw [hx] at hy
        cases hy
        exact he'
      · exact hI m y (by omega) hy
  · have hge' : i ≤ j := by simpa [IE.den, nth, vint, vlen] using hge
    refine den_leaf_ne (by decide) (den_leaf ?_)
    have : rdy L i = true := by
      unfold rdy
      rw [hc]
      simp only [List.all_eq_true, Bool.not_eq_true']
      intro x hx
      obtain ⟨m, hm⟩ := List.getElem?_of_mem hx
      rw [List.getElem?_take] at hm
      split at hm
      · exact hI m x (by omega) hm
      · cases hm
    rw [this]
    rfl

theorem c28 (s : Value) (L : List Cmd) (id : Int) (w : World) (hs : Arr cmdE w s L) (hm : L.length < 4611686018427387904) : Gives Try.prog 28 [.agg #[s], .int .i64 id] w (.tuple #[.bool (rdB L id), .int .i64 (atE L id)]) := by
  obtain ⟨a, cp, rfl⟩ := hs.slice
  refine gives mix t28 rfl rfl (ε := [.slice a L.length cp, .int .i64 id]) ⟨⟨_, _, _, rfl⟩, ⟨_, rfl⟩, trivial⟩ (den_blk fun b hb _ _ => den_norm (by simp only [List.cons_append, List.nil_append]; rfl) ?_)
  refine den_splitLt (fun h => den_leaf ?_) (fun h => ?_)
  · have h' : id < 0 := h
    simp only [denL, SV.den, BE.den, IE.den, rdB, atE, if_pos h']
    rfl
  have h' : ¬ id < 0 := by have : (0 : Int) ≤ id := h; omega
  refine den_call_int (x := fnd L id) (fun w1 h1 => c47 _ L id w1 (hs.same h1.base) hm) rfl (fun w1 w2 h1 h2 => den_norm (by simp only [List.cons_append, List.nil_append]; rfl) (den_splitLt (fun h3 => den_leaf ?_) (fun h3 => ?_)))
  · have h3' : ¬ 0 ≤ fnd L id := by have : fnd L id < 0 := h3; omega
    simp only [denL, SV.den, BE.den, IE.den, rdB, atE, if_neg h', if_neg h3']
    rfl
  · have h3' : 0 ≤ fnd L id := h3
    have e0 : atE L id = 0 := by simp only [atE, if_neg h', if_pos h3']
    obtain ⟨i, hi, hil⟩ := atI_lt e0
    have hI : atI L id = fnd L id := by unfold atI; rw [if_pos e0]
    have hf : fnd L id = (i : Nat) := by rw [← hI, hi]
    rw [hf]
    refine den_call_bool (b := rdy L i) (fun w3 h5 => c27 _ L i w3 (hs.same h5.base) hil hm) rfl (fun w3 w4 h5 h6 => den_leaf ?_)
    · simp [denL, SV.den, BE.den, IE.den, nth, vbool, rdB, e0, hi]

theorem c43 (s : Value) (L : List Cmd) (w : World) (hs : Arr cmdE w s L) (hm : L.length < 4611686018427387904) : Gives Try.prog 43 [.agg #[s]] w (.tuple #[.int .i64 (nxI L), .int .i64 (nxE L)]) := by
  obtain ⟨a, cp, rfl⟩ := hs.slice
  refine gives mix t43 rfl rfl (ε := [.slice a L.length cp]) ⟨⟨_, _, _, rfl⟩, trivial⟩ (den_blk fun b hb _ _ => den_norm (by simp only [List.cons_append, List.nil_append]; rfl) ?_)
  refine den_for L.length (fun j _ => ∀ (i : Nat) y, i < j → L[i]? = some y → rdy L i = false) ⟨rfl, fun w _ i y hi => by omega⟩ ?_
  intro j w1 hj hI hk hfa
  refine den_norm (by simp only [List.cons_append, List.nil_append]; rfl) (den_splitLt (fun hlt => ?_) (fun hge => ?_))
  · have hlt' : j < L.length := by simpa [IE.den, nth, vint, vlen] using hlt
    have hx : L[j]? = some L[j] := by simp [hlt']
    refine den_call_bool (b := rdy L j) (fun w2 h2 => c27 _ L j w2 (hs.same h2.base) hlt' hm) rfl (fun w2 w3 h2 h3 => den_norm (by simp only [List.cons_append, List.nil_append]; rfl) (den_split (fun he => ?_) (fun he => ?_)))
    · refine den_idx (E := cmdE) (L := L) L[j] j [.int .i64 L[j].id] rfl (by decide) rfl hx ⟨⟨_, rfl⟩, trivial⟩ (fun m v hv => by cases m with | zero => exact hv | succ m => simp at hv) (fun w h => ⟨hs.same h.base, fun ad had => by simp [BlkIn, nth, blkOf, vaddr]⟩) (fun w4 h4 => ?_) ⟨w3, Kept.refl _ _, h2.base.trans h3, FactsAt.kept0 h2.facts h3, fun i j hi hj hn => by simp [keys] at hi hj <;> omega⟩
      refine den_leaf_ne (by decide) (den_leaf ?_)
      have hn : nx L = (j : Nat) := by
        unfold nx
        rw [idxFrom_found (fun i (_ : Cmd) => rdy L i) L 0 j L[j] hx (by rw [Nat.zero_add]; exact he) (fun i y hi hy => by rw [Nat.zero_add]; exact hI i y hi hy)]
        simp
      have hnn : ¬ ((j : Nat) : Int) < 0 := by omega
      simp only [denL, SV.den, IE.den, nth, vint, List.cons_append, List.nil_append, nxE, nxI, hn, Int.toNat_natCast, hx, if_neg hnn]
    · refine den_ob64 (by simp only [IE.den, nth, vint]; omega) (den_next rfl hlt' fun w _ i y hi hy => ?_)
      by_cases hij : i = j
      · subst hij; exact he
      · exact hI i y (by omega) hy
  · have hge' : L.length ≤ j := by simpa [IE.den, nth, vint, vlen] using hge
    refine den_leaf_ne (by decide) (den_leaf ?_)
    have hn : nx L = -1 := by
      unfold nx
      rw [idxFrom_none (fun i (_ : Cmd) => rdy L i) L 0 (fun i y hy => by rw [Nat.zero_add]; exact hI i y (Nat.lt_of_lt_of_le (List.getElem?_eq_some_iff.1 hy).1 hge') hy)]
    simp only [denL, SV.den, IE.den, nxE, nxI, hn]
    cases L[(-1 : Int).toNat]? <;> rfl

/-- a slice of the specification that holds these commands -/
def RefL (w : World) (t : Value) (L : List Cmd) : Prop := Arr cmdE w t L ∧ (∀ n c, t = .slice none n c → n = 0 ∧ c = 0) ∧ L.length ≤ vcap t ∧ ∀ ad, vaddr t = some ad → ad.block < w.heap.size
theorem RefL.same {w w' : World} {t : Value} {L : List Cmd} (h : RefL w t L) (hk : Same w w') : RefL w' t L := ⟨h.1.same hk, h.2.1, h.2.2.1, fun ad had => Nat.lt_of_lt_of_le (h.2.2.2 ad had) hk.size⟩
theorem RefL.kept {w w' : World} {t : Value} {L : List Cmd} {M : Nat → Prop} (h : RefL w t L) (hk : Kept M w w') (hM : ∀ ad, vaddr t = some ad → ¬ M ad.block) : RefL w' t L := ⟨h.1.kept hk (fun ad had _ => hM ad had), h.2.1, h.2.2.1, fun ad had => Nat.lt_of_lt_of_le (h.2.2.2 ad had) hk.size⟩
theorem refl_mine {w : World} {s : Value} {L : List Cmd} (h : Mine cmdE 71 w s L) : RefL w s L := by
  refine ⟨h.arr, fun n c e => ?_, h.cap, fun ad had => h.lt (ownBlock_addr had (let ⟨a, c, e⟩ := h.slice; ⟨a, _, c, e⟩))⟩
  rcases h.forms with ⟨rfl, rfl⟩ | ⟨g, c', cur, ty, rfl, _⟩
  · cases e; exact ⟨rfl, rfl⟩
  · cases e
/-- the slice is the old one, or one that was made since -/
def OldNew (w : World) (t t' : Value) : Prop := t' = t ∨ ∀ ad, vaddr t' = some ad → w.heap.size ≤ ad.block
theorem oldNew_own {w : World} {t s : Value} {L : List Cmd} {w' : World} (h : Mine cmdE 71 w' s L) (hb : ∀ g, s.ownBlock = some g → w.heap.size ≤ g) : OldNew w t s :=
  .inr fun ad had => hb _ (ownBlock_addr had (let ⟨a, c, e⟩ := h.slice; ⟨a, _, c, e⟩))
theorem c41 (t : Value) (L : List Cmd) (c : Cmd) (w : World) (ht : RefL w t L) (hm : L.length ≤ 60000000000) :
    GivesR Try.prog 41 [.agg #[t], .int .i64 c.id, .int .i64 c.lba, .int .i64 c.n, .bool c.wr] w (fun v w' => ∃ t', v = .tuple #[.agg #[t'], .int .i64 (begE L c)] ∧ RefL w' t' (begL L c) ∧ OldNew w t t') := by
  obtain ⟨a, cp, rfl⟩ := ht.1.slice
  refine givesR mix t41 rfl rfl (ε := [.slice a L.length cp, .int .i64 c.id, .int .i64 c.lba, .int .i64 c.n, .bool c.wr]) ⟨⟨_, _, _, rfl⟩, ⟨_, rfl⟩, ⟨_, rfl⟩, ⟨_, rfl⟩, ⟨_, rfl⟩, trivial⟩ (den_blk fun b5 h5 _ _ => den_blk fun b6 h6 _ _ => den_norm (by simp only [List.cons_append, List.nil_append]; rfl) ?_)
  have old : ∀ w', Same w w' → begE L c ≠ 0 → ∃ t', (Value.tuple #[.agg #[.slice a L.length cp], .int .i64 (begE L c)]) = .tuple #[.agg #[t'], .int .i64 (begE L c)] ∧ RefL w' t' (begL L c) ∧ OldNew w (.slice a L.length cp) t' := by
    intro w' hk he
    refine ⟨_, rfl, ?_, .inl rfl⟩
    unfold begL
    rw [if_neg he]
    exact ht.same hk
  refine den_splitLt (fun h => ?_) (fun h => ?_)
  · have h' : c.id < 0 := h
    have e : begE L c = 2 := by unfold begE; rw [if_pos (by simp; intro; omega)]
    exact den_leafR _ rfl fun w' hw => by have := old w' hw.base (by rw [e]; decide); rw [e] at this ⊢; exact this
  have h0 : 0 ≤ c.id := h
  refine den_call_bool (b := okBlk c.lba c.n) (fun w1 h1 => c30 _ _ w1) rfl (fun w1 w2 h1 h2 => den_norm (by simp only [List.cons_append, List.nil_append]; rfl) (den_splitNot (fun h3 => ?_) (fun h3 => ?_)))
  · have h3' : okBlk c.lba c.n = false := h3
    have e : begE L c = 2 := by unfold begE; rw [if_pos (by rw [h3', Bool.and_false])]
    exact den_leafR _ rfl fun w' hw => by have := old w' hw.base (by rw [e]; decide); rw [e] at this ⊢; exact this
  have h3' : ¬ (decide (0 ≤ c.id) && okBlk c.lba c.n) = false := by have : okBlk c.lba c.n = true := h3; simp [this, h0]
  refine den_call_int (x := fnd L c.id) (fun w3 h4 => c47 _ L c.id w3 (ht.1.same h4.base) (by omega)) rfl (fun w3 w4 h4 h7 => den_norm (by simp only [List.cons_append, List.nil_append]; rfl) (den_splitLe (fun h8 => ?_) (fun h8 => ?_)))
  · have h8' : 0 ≤ fnd L c.id := h8
    have e : begE L c = 11 := by unfold begE; rw [if_neg h3', if_pos h8']
    exact den_leafR _ rfl fun w' hw => by have := old w' hw.base (by rw [e]; decide); rw [e] at this ⊢; exact this
  have h8' : ¬ 0 ≤ fnd L c.id := by have : fnd L c.id < 0 := h8; omega
  refine den_splitLe (fun h9 => ?_) (fun h9 => den_blk fun b9 k9 _ k90 => den_norm (by simp only [List.cons_append, List.nil_append]; rfl) ?_)
  · have h9' : 1024 ≤ L.length := by have h : (1024 : Int) ≤ L.length := h9
                                     omega
    have e : begE L c = 7 := by unfold begE; rw [if_neg h3', if_neg h8', if_pos h9']
    exact den_leafR _ rfl fun w' hw => by have := old w' hw.base (by rw [e]; decide); rw [e] at this ⊢; exact this
  have h9' : ¬ 1024 ≤ L.length := by have h : (L.length : Int) < 1024 := h9
                                     omega
  have e : begE L c = 0 := by unfold begE; rw [if_neg h3', if_neg h8', if_neg h9']
  have e2 : begL L c = L ++ [c] := by unfold begL; rw [if_pos e]
  rw [e, e2]
  refine den_appendL (E := cmdE) (T := 71) rfl underlying60 info71 zero71 (by kernel_rfl) (by kernel_rfl) (by decide) bytes71 one4 (.slice (some ⟨b9, 0, none⟩) 0 0) (.slice a L.length cp) [] L (by simp [SV.den, nth, vaddr, addO, addr_add]) rfl (fun n c e => ht.2.1 n c e) (by simp; omega) (fun g hg hc => by simp [vcap] at hc) (by simp [keys]) ?_ (fun g hg hc => by simp [vcap] at hc) (fun hd => by cases hd) (fun _ => rfl) ?_
  · intro w5 k5
    refine ⟨?_, ht.1.same k5.base⟩
    obtain ⟨b', ty, hb', hh⟩ := k5.facts.1
    cases hb'
    exact .inr ⟨rfl, b9, _, ty, rfl, hh⟩
  · intro w5 s' w6 k5 ho hk hfr hap
    rw [List.nil_append] at ho
    have hown : ∀ g, s'.ownBlock = some g → w.heap.size ≤ g ∧ (0 < vcap s' → w5.heap.size ≤ g) := by
      intro g hg
      have : w.heap.size ≤ w5.heap.size := k5.base.size
      rcases hfr with ⟨e3, e4⟩ | ⟨b', e3, hle, _⟩
      · rw [hg] at e3; cases e3; exact ⟨k90, fun h => by rw [e4] at h; simp [vcap] at h⟩
      · rw [hg] at e3; cases e3; exact ⟨by omega, fun _ => hle⟩
    have l9 := k5.lt (i := 9) (b := b9) (by simp [keys]) rfl
    have l5 := k5.lt (i := 5) (b := b5) (by simp [keys]) rfl
    have l6 := k5.lt (i := 6) (b := b6) (by simp [keys]) rfl
    have h56 : w5.heap.size ≤ w6.heap.size := hk.size
    refine den_norm (by simp only [List.cons_append, List.nil_append]; rfl) (den_blk fun b11 k11 _ _ => den_norm (by simp only [List.cons_append, List.nil_append]; rfl) ?_)
    refine den_push (E := cmdE) (T := 71) rfl underlying60 info71 zero71 (by kernel_rfl) (by kernel_rfl) (by decide) bytes71 one4 s' L c rfl rfl rfl (by omega) (fun g hg _ => .inl (hown g hg).1) (by simp [keys]) (fun w7 k7 => ?_) (fun g hg hc hin => ?_) (fun hd => by cases hd) (fun _ => rfl) ?_
    · exact ho.same (shown_same k7)
    · have := (hown g hg).2 hc
      have := ho.lt hg
      simp [BlkIn, nth, blkOf, vaddr] at hin
      omega
    · intro w7 s2 w8 k7 ho2 hk2 hfr2 hap2
      refine den_norm (by simp only [List.cons_append, List.nil_append]; rfl) (den_leafR _ rfl fun w9 k10 => ⟨s2, rfl, refl_mine (ho2.shown k10 (by simp [keys]) fun g hg hc hin => ?_), oldNew_own ho2 fun g hg => ?_⟩)
      · rcases hfr2 with ⟨e3, e4⟩ | ⟨b', e3, hle, _⟩
        · rw [hg] at e3
          rw [e4] at hc
          have := (hown g e3.symm).2 hc
          simp [BlkIn, nth, blkOf, vaddr] at hin
          omega
        · rw [hg] at e3; cases e3
          have := k7.base.size
          have h67 : w6.heap.size ≤ w7.heap.size := k7.kept.size
          simp [BlkIn, nth, blkOf, vaddr] at hin
          omega
      · rcases hfr2 with ⟨e3, e4⟩ | ⟨b', e3, hle, _⟩
        · rw [hg] at e3; exact (hown g e3.symm).1
        · rw [hg] at e3; cases e3
          have : w.heap.size ≤ w7.heap.size := k7.base.size
          omega

/-- End(id, cancel) of the specification -/
def endCE (L : List Cmd) (id : Int) (cancel : Bool) : Int := if cancel then atE L id else endE L id
def endCL (L : List Cmd) (id : Int) (cancel : Bool) : List Cmd := if cancel then cancelL L id else endL L id
theorem c42 (t : Value) (L : List Cmd) (id : Int) (cancel : Bool) (w : World) (ht : RefL w t L) (hm : L.length ≤ 60000000000) :
    GivesR Try.prog 42 [.agg #[t], .int .i64 id, .bool cancel] w (fun v w' => ∃ t', v = .tuple #[.agg #[t'], .int .i64 (endCE L id cancel)] ∧ RefL w' t' (endCL L id cancel) ∧ OldNew w t t') := by
  obtain ⟨a, cp, rfl⟩ := ht.1.slice
  refine givesR mix t42 rfl rfl (ε := [.slice a L.length cp, .int .i64 id, .bool cancel]) ⟨⟨_, _, _, rfl⟩, ⟨_, rfl⟩, ⟨_, rfl⟩, trivial⟩ (den_blk fun b3 h3 _ _ => den_blk fun b4 h4 _ _ => den_norm (by simp only [List.cons_append, List.nil_append]; rfl) ?_)
  have old : ∀ w' e, Same w w' → endCE L id cancel = e → endCL L id cancel = L → ∃ t', (Value.tuple #[.agg #[.slice a L.length cp], .int .i64 e]) = .tuple #[.agg #[t'], .int .i64 (endCE L id cancel)] ∧ RefL w' t' (endCL L id cancel) ∧ OldNew w (.slice a L.length cp) t' := by
    intro w' e hk he hl
    rw [he, hl]
    exact ⟨_, rfl, ht.same hk, .inl rfl⟩
  refine den_call [.bool (rdB L id), .int .i64 (atE L id)] ⟨⟨_, rfl⟩, ⟨_, rfl⟩, trivial⟩ rfl (fun w1 h1 => c28 _ L id w1 (ht.1.same h1.base) (by omega)) (fun w1 w2 h1 h2 => den_norm (by simp only [List.cons_append, List.nil_append]; rfl) (den_splitNot (fun h5 => ?_) (fun h5 => ?_)))
  · have h5' : atE L id ≠ 0 := by simpa [BE.den, IE.den, nth, vint] using h5
    refine den_leafR _ rfl fun w' hw => old w' (atE L id) hw.base ?_ ?_
    · cases cancel <;> simp [endCE, endE, h5']
    · cases cancel <;> simp [endCL, cancelL, endL, endE, h5']
  have h5' : atE L id = 0 := by simpa [BE.den, IE.den, nth, vint] using h5
  obtain ⟨i, hi, hil⟩ := atI_lt h5'
  have hI : atI L id = fnd L id := by unfold atI; rw [if_pos h5']
  have hf : fnd L id = (i : Nat) := by rw [← hI, hi]
  have hr : rdB L id = rdy L i := by simp [rdB, h5', hi]
  have fin : (cancel || rdy L i) = true → endCE L id cancel = 0 ∧ endCL L id cancel = L.eraseIdx i := by
    intro h
    cases cancel with
    | true => simp [endCE, endCL, cancelL, h5', hi]
    | false => have h' : rdy L i = true := by simpa using h
               simp [endCE, endCL, endL, endE, h5', hi, h']
  rw [hr]
  refine den_splitNot (fun h6 => den_splitNot (fun h7 => ?_) (fun h7 => ?_)) (fun h6 => ?_)
  · have h6' : rdy L i = false := h6
    have h7' : cancel = false := h7
    subst h7'
    refine den_leafR _ rfl fun w' hw => old w' 8 hw.base ?_ ?_
    · simp [endCE, endE, h5', hi, h6']
    · simp [endCL, endL, endE, h5', hi, h6']
  all_goals
    obtain ⟨e1, e2⟩ := fin (by first | (have h7' : cancel = true := h7; rw [h7']; rfl) | (have h6' : rdy L i = true := h6; rw [h6', Bool.or_true]))
    rw [e1, e2]
    refine den_call_int (x := (i : Nat)) (fun w3 k3 => hf ▸ c47 _ L id w3 (ht.1.same k3.base) (by omega)) rfl (fun w3 w4 k3 k4 => den_norm (by simp only [List.cons_append, List.nil_append]; rfl) (den_startF fun w5 k5 => ?_))
    obtain ⟨ad, rfl⟩ : ∃ ad, a = some ad := by
      cases a with
      | none => have := ht.2.1 _ _ rfl; omega
      | some ad => exact ⟨ad, rfl⟩
    have hcp : L.length ≤ cp := ht.2.2.1
    have ei : ((i : Int) + 1) = ((i + 1 : Nat) : Int) := by simp
    refine den_slice (some ad) L.length cp none (some i) none 0 i cp 4 underlying60 size71 (fun ρ h => h.1) (fun _ _ => rfl) (fun ρ h => congrArg some h.2.1) (fun _ _ => rfl) (.inl ⟨rfl, rfl⟩) (.inr ⟨rfl, by omega⟩) (.inl ⟨rfl, rfl⟩) (fun _ => rfl) (den_norm (by simp only [List.cons_append, List.nil_append]; rfl) ?_)
    refine den_ob64 (by simp only [IE.den, nth, vint]; omega) ?_
    refine den_slice (some ad) L.length cp (some ((i + 1 : Nat) : Int)) none none (i + 1) L.length cp 4 underlying60 size71 (fun ρ h => h.1) (fun ρ h => congrArg some (h.2.1.trans (by simp only [SV.den, IE.den, nth, vint]; rw [ei]))) (fun _ _ => rfl) (fun _ _ => rfl) (.inl ⟨rfl, rfl⟩) (.inl ⟨rfl, rfl, rfl⟩) (.inr ⟨rfl, by omega⟩) (fun _ => rfl) (den_norm (by simp only [List.cons_append, List.nil_append]; rfl) (den_blk fun b10 k10 _ k100 => den_norm (by simp only [List.cons_append, List.nil_append]; rfl) ?_))
    have sn : ∀ (l h m : Nat) n c, sliced (some ad) l h m 4 = .slice none n c → n = 0 ∧ c = 0 := fun l h m n c e => by simp only [sliced, Option.map_some] at e; split at e <;> cases e
    have a1 : ∀ w', Same w w' → Arr cmdE w' (sliced (some ad) 0 i cp 4) (L.take i) := fun w' hk => by
      have := (ht.1.same hk).sub (l := 0) (k := i) (m := cp) (Nat.zero_le _) (by omega) (by omega)
      rwa [List.drop_zero] at this
    have a2 : ∀ w', Same w w' → Arr cmdE w' (sliced (some ad) (i + 1) L.length cp 4) (L.drop (i + 1)) := fun w' hk => by
      have := (ht.1.same hk).sub (l := i + 1) (k := L.length) (m := cp) (by omega) (Nat.le_refl _) hcp
      rwa [List.take_of_length_le (Nat.le_refl _)] at this
    refine den_appendL (E := cmdE) (T := 71) rfl underlying60 info71 zero71 (by kernel_rfl) (by kernel_rfl) (by decide) bytes71 one4 (.slice (some ⟨b10, 0, none⟩) 0 0) (sliced (some ad) 0 i cp 4) [] (L.take i) (by simp [SV.den, nth, vaddr, addO, addr_add]) rfl (sn _ _ _) (by simp; omega) (fun g hg hc => by simp [vcap] at hc) (by simp [keys]) ?_ (fun g hg hc => by simp [vcap] at hc) (fun _ g hg hc => by simp [vcap] at hc) (fun _ => rfl) ?_
    · intro w6 k6
      refine ⟨?_, a1 w6 k6.base⟩
      obtain ⟨b', ty, hb', hh⟩ := k6.facts.1
      cases hb'
      exact .inr ⟨rfl, b10, _, ty, rfl, hh⟩
    intro w6 s' w7 k6 ho hk hfr hap
    rw [List.nil_append] at ho
    have h56 : w5.heap.size ≤ w6.heap.size := k6.kept.size
    have hown : ∀ g, s'.ownBlock = some g → w.heap.size ≤ g ∧ (0 < vcap s' → w6.heap.size ≤ g) := by
      intro g hg
      have : w.heap.size ≤ w6.heap.size := k6.base.size
      rcases hfr with ⟨e3, e4⟩ | ⟨b', e3, hle, _⟩
      · rw [hg] at e3; cases e3; exact ⟨k100, fun h => by rw [e4] at h; simp [vcap] at h⟩
      · rw [hg] at e3; cases e3; exact ⟨by omega, fun _ => hle⟩
    have l10 := k6.lt (i := 10) (b := b10) (by simp [keys]) rfl
    have l3 := k6.lt (i := 3) (b := b3) (by simp [keys]) rfl
    have l4 := k6.lt (i := 4) (b := b4) (by simp [keys]) rfl
    refine den_norm (by simp only [List.cons_append, List.nil_append]; rfl) ?_
    refine den_appendL (E := cmdE) (T := 71) rfl underlying60 info71 zero71 (by kernel_rfl) (by kernel_rfl) (by decide) bytes71 one4 s' (sliced (some ad) (i + 1) L.length cp 4) (L.take i) (L.drop (i + 1)) rfl rfl (sn _ _ _) (by simp; omega) (fun g hg _ => .inl (hown g hg).1) (by simp [keys]) (fun w8 k8 => ⟨?_, a2 w8 k8.base⟩) (fun g hg hc hin => ?_) (fun _ g hg hc => .inl (by have := (hown g hg).2 hc; omega)) (fun _ => rfl) ?_
    · exact ho.same (shown_same k8)
    · have := (hown g hg).2 hc
      simp [BlkIn, nth, blkOf, vaddr] at hin
      omega
    intro w8 s2 w9 k8 ho2 hk2 hfr2 hap2
    have h78 : w7.heap.size ≤ w8.heap.size := k8.kept.size
    have h67 : w6.heap.size ≤ w7.heap.size := hk.size
    rw [← List.eraseIdx_eq_take_drop_succ] at ho2
    refine den_norm (by simp only [List.cons_append, List.nil_append]; rfl) (den_leafR _ rfl fun w10 k10 => ⟨s2, rfl, refl_mine (ho2.shown k10 (by simp [keys]) fun g hg hc hin => ?_), oldNew_own ho2 fun g hg => ?_⟩)
    · rcases hfr2 with ⟨e3, e4⟩ | ⟨b', e3, hle, _⟩
      · rw [hg] at e3
        rw [e4] at hc
        have := (hown g e3.symm).2 hc
        simp [BlkIn, nth, blkOf, vaddr] at hin
        omega
      · rw [hg] at e3; cases e3
        simp [BlkIn, nth, blkOf, vaddr] at hin
        omega
    · rcases hfr2 with ⟨e3, e4⟩ | ⟨b', e3, hle, _⟩
      · rw [hg] at e3; exact (hown g e3.symm).1
      · rw [hg] at e3; cases e3
        have : w.heap.size ≤ w8.heap.size := k8.base.size
        omega
end Go.Proofs.Ytfjimghpjopgoaa
