/- A call on an order and on its specification: the results agree, and the two stay the same. No conditions beyond those that each theorem names. -/
import Derived.Test.YtfjimghpjopgoaaQ
set_option maxRecDepth 100000
set_option maxHeartbeats 1000000
set_option linter.unusedVariables false
set_option linter.unusedSimpArgs false
namespace Go.Proofs.Ytfjimghpjopgoaa
open Go.Sx

/-- an order and its specification, apart from each other -/
structure Pair (w : World) (b : Nat) (s t : Value) (L : List Cmd) : Prop where
  ord : OrdAt w b s L
  ref : RefL w t L
  sep : ∀ ad, vaddr t = some ad → ad.block ≠ b ∧ s.ownBlock ≠ some ad.block
/-- their blocks -/
def Foot (b : Nat) (s t : Value) (x : Nat) : Prop := x = b ∨ s.ownBlock = some x ∨ ∃ ad, vaddr t = some ad ∧ ad.block = x
theorem Pair.kept {w w' : World} {b : Nat} {s t : Value} {L : List Cmd} {M : Nat → Prop} (h : Pair w b s t L) (hk : Kept M w w') (hM : ∀ x, Foot b s t x → ¬ M x) : Pair w' b s t L :=
  ⟨h.ord.kept hk (hM _ (.inl rfl)) fun g hg => hM _ (.inr (.inl hg)), h.ref.kept hk fun ad had => hM _ (.inr (.inr ⟨ad, had, rfl⟩)), h.sep⟩
theorem Pair.same {w w' : World} {b : Nat} {s t : Value} {L : List Cmd} (h : Pair w b s t L) (hk : Same w w') : Pair w' b s t L := h.kept hk fun _ _ h => h
theorem Pair.lt {w : World} {b : Nat} {s t : Value} {L : List Cmd} (h : Pair w b s t L) : ∀ x, Foot b s t x → x < w.heap.size := by
  rintro x (rfl | hx | ⟨ad, had, rfl⟩)
  · exact h.ord.lt
  · exact h.ord.mine.lt hx
  · exact h.ref.2.2.2 ad had

def actL (L : List Cmd) (wh : Int) (c : Cmd) : List Cmd :=
  if wh = 0 ∨ wh = 1 ∨ wh = 2 ∨ wh = 3 then begL L c else if wh = 4 ∨ wh = 5 then endL L c.id else if wh = 6 then cancelL L c.id else L

theorem pair_fin {w : World} {b : Nat} {s t : Value} {L : List Cmd} (h : Pair w b s t L) {b10 : Nat} {W1 W2 W4 W5 W9 : World} {s' t' : Value} {L' : List Cmd} (h1 : w.heap.size ≤ W1.heap.size) (h2 : b10 < W1.heap.size) (h3 : w.heap.size ≤ b10) (h4 : W1.heap.size ≤ W2.heap.size)
    (hr : RefL W2 t' L') (ho : OldNew W1 t t') (hs : Same W2 W4) (hk : Kept (fun x => x = b ∨ s.ownBlock = some x) W4 W5) (hO : OrdAt W5 b s' L') (hn : s'.ownBlock = s.ownBlock ∨ ∀ g, s'.ownBlock = some g → W4.heap.size ≤ g) (hk9 : Kept (fun x => x = b10) W5 W9) :
    Pair W9 b s' t' L' ∧ ∀ x, Foot b s' t' x → Foot b s t x ∨ w.heap.size ≤ x := by
  have hb := h.lt b (.inl rfl)
  have hown : ∀ g, s.ownBlock = some g → g < w.heap.size := fun g hg => h.lt g (.inr (.inl hg))
  have z24 := hs.size
  have ht' : ∀ ad, vaddr t' = some ad → (vaddr t = some ad ∧ ad.block < w.heap.size) ∨ W1.heap.size ≤ ad.block := by
    intro ad had
    rcases ho with rfl | ho
    · exact .inl ⟨had, h.lt _ (.inr (.inr ⟨ad, had, rfl⟩))⟩
    · exact .inr (ho ad had)
  have hs' : ∀ g, s'.ownBlock = some g → (s.ownBlock = some g ∧ g < w.heap.size) ∨ W4.heap.size ≤ g := by
    intro g hg
    rcases hn with e | hn
    · rw [hg] at e; exact .inl ⟨e.symm, hown g e.symm⟩
    · exact .inr (hn g hg)
  refine ⟨⟨hO.kept hk9 (by omega) fun g hg e => ?_, ((hr.same hs).kept hk fun ad had e => ?_).kept hk9 fun ad had e => ?_, fun ad had => ⟨fun e => ?_, fun e => ?_⟩⟩, ?_⟩
  · rcases hs' g hg with ⟨_, h⟩ | h <;> omega
  · rcases ht' ad had with ⟨ha, hl⟩ | hl
    · rcases e with e | e
      · exact (h.sep ad ha).1 e
      · exact (h.sep ad ha).2 e
    · rcases e with e | e
      · omega
      · have := hown _ e; omega
  · rcases ht' ad had with ⟨ha, hl⟩ | hl <;> omega
  · rcases ht' ad had with ⟨ha, hl⟩ | hl
    · exact (h.sep ad ha).1 e
    · omega
  · have hv : ad.block < W2.heap.size := hr.2.2.2 ad had
    rcases hs' _ e with ⟨e', hl'⟩ | hl'
    · rcases ht' ad had with ⟨ha, hl⟩ | hl
      · exact (h.sep ad ha).2 e'
      · omega
    · omega
  · rintro x (rfl | hx | ⟨ad, had, rfl⟩)
    · exact .inl (.inl rfl)
    · rcases hs' x hx with ⟨e, _⟩ | hl
      · exact .inl (.inr (.inl e))
      · exact .inr (by omega)
    · rcases ht' ad had with ⟨ha, hl⟩ | hl
      · exact .inl (.inr (.inr ⟨ad, ha, rfl⟩))
      · exact .inr (by omega)

theorem c23 (b : Nat) (s t : Value) (L : List Cmd) (wh : Int) (c : Cmd) (w : World) (h : Pair w b s t L) (hm : L.length ≤ 1000000) :
    Runs Try.prog 23 [pt b, .agg #[t], .agg #[.int .i64 wh, .int .i64 c.id, .int .i64 c.lba, .int .i64 c.n, .bool c.wr]] w (fun x => x = b ∨ s.ownBlock = some x)
      (fun v w' => ∃ b' s' t', v = .tuple #[pt b', .agg #[t'], .bool true] ∧ Pair w' b' s' t' (actL L wh c) ∧ ∀ x, Foot b' s' t' x → Foot b s t x ∨ w.heap.size ≤ x) := by
  obtain ⟨as_, cs, rfl⟩ := h.ord.mine.slice
  obtain ⟨at_, ct, rfl⟩ := h.ref.1.slice
  have hb := h.lt b (.inl rfl)
  have hown : ∀ g, (Value.slice as_ L.length cs).ownBlock = some g → g < w.heap.size := fun g hg => h.lt g (.inr (.inl hg))
  have h0 := runs mix t23 rfl rfl (ε := [pt b, .slice as_ L.length cs, .slice at_ L.length ct, .int .i64 wh, .int .i64 c.id, .int .i64 c.lba, .int .i64 c.n, .bool c.wr]) (w := w) (M := fun x => x = b ∨ (Value.slice as_ L.length cs).ownBlock = some x)
    (R := fun v w' => ∃ b' s' t', v = .tuple #[pt b', .agg #[t'], .bool true] ∧ Pair w' b' s' t' (actL L wh c) ∧ ∀ x, Foot b' s' t' x → Foot b (.slice as_ L.length cs) (.slice at_ L.length ct) x ∨ w.heap.size ≤ x) ⟨⟨_, rfl⟩, ⟨_, _, _, rfl⟩, ⟨_, _, _, rfl⟩, ⟨_, rfl⟩, ⟨_, rfl⟩, ⟨_, rfl⟩, ⟨_, rfl⟩, ⟨_, rfl⟩, trivial⟩ ⟨h.ord.blk, trivial⟩ (by simp [keys]) (by simp [keys]) (by simp [keys, nth, blkOf, vaddr]) ?_
  · simpa [SV.den, denL, IE.den, BE.den, nth, vint, vbool, vaddr, addO, addr_add] using h0
  refine den_blk fun b8 k8 _ k80 => den_blk fun b9 k9 _ k90 => den_blk fun b10 k10 _ k100 => den_norm (by simp only [List.cons_append, List.nil_append]; rfl) ?_
  have z10 : w.heap.size ≤ b10 := k100
  have z9 : w.heap.size ≤ b9 := k90
  have z8 : w.heap.size ≤ b8 := k80
  have hF : ∀ (e : List Value) (un : List Nat) (W : World) (x : Nat), (∀ z, BlkIn e un z → w.heap.size ≤ z) → (x = b ∨ (Value.slice as_ L.length cs).ownBlock = some x) →
      FpOk (GM Try.prog w (fun x => x = b ∨ (Value.slice as_ L.length cs).ownBlock = some x) false) true (fun _ => True) e un W x := by
    intro e un W x hun hx
    refine ⟨fun _ => trivial, fun _ => hx, fun hin => ?_, fun hx => by cases hx⟩
    have := hun x hin
    rcases hx with rfl | hx
    · omega
    · have := hown x hx; omega
  refine den_splitEq (fun e => ?b0) (fun e0 => den_splitEq (fun e => ?b1) (fun e1 => den_splitEq (fun e => ?b2) (fun e2 => den_splitEq (fun e => ?b3) (fun e3 => den_splitEq (fun e => ?b4) (fun e4 => den_splitEq (fun e => ?b5) (fun e5 => den_splitEq (fun e => ?b6) (fun e6 => den_splitEq (fun e => ?b7) (fun e7 => ?b8))))))))
  case b0 | b1 | b2 | b3 =>
    have hL : actL L wh c = begL L c := by
      simp only [IE.den, nth, vint] at e
      simp [actL, e]
    rw [hL]
    refine den_callR (fun w1 l w2 => ∃ t', l = [t', .int .i64 (begE L c)] ∧ RefL w2 t' (begL L c) ∧ OldNew w1 (.slice at_ L.length ct) t') (fun w1 h1 => ?_) (fun w1 l w2 h1 hf hR hs12 => ?_)
    · refine (c41 _ L c w1 (h.ref.same (shown_same h1)) (by omega)).mono fun v w' ⟨t', h2, h3, h4⟩ => ?_
      obtain ⟨a, cc, e⟩ := h3.1.slice
      exact ⟨[t', .int .i64 (begE L c)], ⟨⟨_, _, _, e⟩, ⟨_, rfl⟩, trivial⟩, h2, t', rfl, h3, h4⟩
    obtain ⟨t', rfl, hr, ho⟩ := hR
    have z1 : w.heap.size ≤ w1.heap.size := h1.kept.size
    have l10 := h1.lt (i := 10) (b := b10) (by simp [keys]) rfl
    refine den_norm (by simp only [List.cons_append, List.nil_append]; rfl) (den_blk fun b13 k13 _ k130 => den_norm (by simp only [List.cons_append, List.nil_append]; rfl) ?_)
    have z13 : w.heap.size ≤ b13 := k130
    intro w3 h3
    have n3 := shown_new h3 fun x hx => by simp [BlkIn, nth, blkOf, vaddr] at hx; omega
    refine ⟨fun _ => True, fun _ _ => trivial, ?_⟩
    refine den_callM (fun _ x => x = b ∨ (Value.slice as_ L.length cs).ownBlock = some x) (fun w4 l w5 => ∃ s', l = [.int .i64 (begE L c), s'] ∧ OrdAt w5 b s' (begL L c) ∧ (s'.ownBlock = (Value.slice as_ L.length cs).ownBlock ∨ ∀ g, s'.ownBlock = some g → w4.heap.size ≤ g)) (fun w4 h4 x hx _ => hF _ _ _ x (fun z hz => by simp [BlkIn, nth, blkOf, vaddr] at hz; omega) hx) (fun w4 h4 => ?_) (fun w4 l w5 h4 hf' hR hk5 => ?_)
    · have hO4 : OrdAt w4 b (.slice as_ L.length cs) L := h.ord.same ((((shown_same h1).trans hs12).trans n3).trans (shown_same h4))
      refine Runs.mono (M := fun x => x = b ∨ (Value.slice as_ L.length cs).ownBlock = some x) (R := fun v w' => v = .int .i64 (begE L c) ∧ NewAt w4 w' b (.slice as_ L.length cs) (begL L c)) (by simpa [SV.den, denL, IE.den, BE.den, nth, vint, vbool, vaddr, addO, addr_add] using c16 b _ L c w4 hO4 (by omega)) (fun v w' hv _ => ?_) (fun _ _ h => h)
      obtain ⟨rfl, s', hO', hfr⟩ := hv
      obtain ⟨a', c', hs'⟩ := hO'.mine.slice
      exact ⟨[.int .i64 (begE L c), s'], ⟨⟨_, rfl⟩, ⟨_, _, _, hs'⟩, trivial⟩, rfl, ⟨s', rfl, hO', hfr⟩, hO'.blk, trivial⟩
    obtain ⟨s', rfl, hO', hfr⟩ := hR
    refine den_norm (by simp only [List.cons_append, List.nil_append]; rfl) (den_call_int (x := begE L c) (fun w6 _ => ?_) rfl fun w6 w7 h6 h7 => den_norm (by simp only [List.cons_append, List.nil_append]; rfl) (den_leafA _ rfl fun w9 h9 => ?_))
    · exact c15 (begE L c) w6
    have k59 : Kept (fun x => x = b10) w5 w9 := (((shown_same h6).trans h7).mono fun _ _ h => h.elim).then h9.kept fun x _ hx => by simp [BlkIn, nth, blkOf, vaddr] at hx; exact hx.symm
    obtain ⟨hp, hfoot⟩ := pair_fin h z1 l10 z10 hs12.size hr ho (n3.trans (shown_same h4)) hk5 hO' hfr k59
    refine ⟨b, s', t', ?_, hp, hfoot⟩
    simp [SV.den, denL, IE.den, BE.den, nth, vint, vbool, vaddr, addO, addr_add, eqB_eq]
  case b4 | b5 =>
    have hL : actL L wh c = endL L c.id := by
      simp only [IE.den, nth, vint] at e
      simp [actL, e]
    rw [hL]
    refine den_callR (fun w1 l w2 => ∃ t', l = [t', .int .i64 (endE L c.id)] ∧ RefL w2 t' (endL L c.id) ∧ OldNew w1 (.slice at_ L.length ct) t') (fun w1 h1 => ?_) (fun w1 l w2 h1 hf hR hs12 => ?_)
    · refine (c42 _ L c.id false w1 (h.ref.same (shown_same h1)) (by omega)).mono fun v w' ⟨t', h2, h3, h4⟩ => ?_
      obtain ⟨a, cc, e⟩ := h3.1.slice
      exact ⟨[t', .int .i64 (endE L c.id)], ⟨⟨_, _, _, e⟩, ⟨_, rfl⟩, trivial⟩, h2, t', rfl, h3, h4⟩
    obtain ⟨t', rfl, hr, ho⟩ := hR
    have z1 : w.heap.size ≤ w1.heap.size := h1.kept.size
    have l10 := h1.lt (i := 10) (b := b10) (by simp [keys]) rfl
    refine den_norm (by simp only [List.cons_append, List.nil_append]; rfl) (den_blk fun b13 k13 _ k130 => den_norm (by simp only [List.cons_append, List.nil_append]; rfl) ?_)
    have z13 : w.heap.size ≤ b13 := k130
    intro w3 h3
    have n3 := shown_new h3 fun x hx => by simp [BlkIn, nth, blkOf, vaddr] at hx; omega
    refine ⟨fun _ => True, fun _ _ => trivial, ?_⟩
    refine den_callM (fun _ x => x = b ∨ (Value.slice as_ L.length cs).ownBlock = some x) (fun w4 l w5 => ∃ s', l = [.int .i64 (endE L c.id), s'] ∧ OrdAt w5 b s' (endL L c.id) ∧ (s'.ownBlock = (Value.slice as_ L.length cs).ownBlock ∨ ∀ g, s'.ownBlock = some g → w4.heap.size ≤ g)) (fun w4 h4 x hx _ => hF _ _ _ x (fun z hz => by simp [BlkIn, nth, blkOf, vaddr] at hz; omega) hx) (fun w4 h4 => ?_) (fun w4 l w5 h4 hf' hR hk5 => ?_)
    · have hO4 : OrdAt w4 b (.slice as_ L.length cs) L := h.ord.same ((((shown_same h1).trans hs12).trans n3).trans (shown_same h4))
      refine Runs.mono (M := fun x => x = b ∨ (Value.slice as_ L.length cs).ownBlock = some x) (R := fun v w' => v = .int .i64 (endE L c.id) ∧ NewAt w4 w' b (.slice as_ L.length cs) (endL L c.id)) (by simpa [SV.den, denL, IE.den, BE.den, nth, vint, vbool, vaddr, addO, addr_add] using (c19 b _ L c.id w4 hO4 (by omega)).mono (M' := fun x => x = b ∨ (Value.slice as_ L.length cs).ownBlock = some x) (fun _ _ h _ => h) (fun _ _ h => .inl h)) (fun v w' hv _ => ?_) (fun _ _ h => h)
      obtain ⟨rfl, s', hO', hfr⟩ := hv
      obtain ⟨a', c', hs'⟩ := hO'.mine.slice
      exact ⟨[.int .i64 (endE L c.id), s'], ⟨⟨_, rfl⟩, ⟨_, _, _, hs'⟩, trivial⟩, rfl, ⟨s', rfl, hO', hfr⟩, hO'.blk, trivial⟩
    obtain ⟨s', rfl, hO', hfr⟩ := hR
    refine den_norm (by simp only [List.cons_append, List.nil_append]; rfl) (den_call_int (x := endE L c.id) (fun w6 _ => ?_) rfl fun w6 w7 h6 h7 => den_norm (by simp only [List.cons_append, List.nil_append]; rfl) (den_leafA _ rfl fun w9 h9 => ?_))
    · exact c15 (endE L c.id) w6
    have k59 : Kept (fun x => x = b10) w5 w9 := (((shown_same h6).trans h7).mono fun _ _ h => h.elim).then h9.kept fun x _ hx => by simp [BlkIn, nth, blkOf, vaddr] at hx; exact hx.symm
    obtain ⟨hp, hfoot⟩ := pair_fin h z1 l10 z10 hs12.size hr ho (n3.trans (shown_same h4)) hk5 hO' hfr k59
    refine ⟨b, s', t', ?_, hp, hfoot⟩
    simp [SV.den, denL, IE.den, BE.den, nth, vint, vbool, vaddr, addO, addr_add, eqB_eq]
  case b6 =>
    have hL : actL L wh c = cancelL L c.id := by
      simp only [IE.den, nth, vint] at e
      simp [actL, e]
    rw [hL]
    refine den_callR (fun w1 l w2 => ∃ t', l = [t', .int .i64 (atE L c.id)] ∧ RefL w2 t' (cancelL L c.id) ∧ OldNew w1 (.slice at_ L.length ct) t') (fun w1 h1 => ?_) (fun w1 l w2 h1 hf hR hs12 => ?_)
    · refine (c42 _ L c.id true w1 (h.ref.same (shown_same h1)) (by omega)).mono fun v w' ⟨t', h2, h3, h4⟩ => ?_
      obtain ⟨a, cc, e⟩ := h3.1.slice
      exact ⟨[t', .int .i64 (atE L c.id)], ⟨⟨_, _, _, e⟩, ⟨_, rfl⟩, trivial⟩, h2, t', rfl, h3, h4⟩
    obtain ⟨t', rfl, hr, ho⟩ := hR
    have z1 : w.heap.size ≤ w1.heap.size := h1.kept.size
    have l10 := h1.lt (i := 10) (b := b10) (by simp [keys]) rfl
    refine den_norm (by simp only [List.cons_append, List.nil_append]; rfl) (den_blk fun b13 k13 _ k130 => den_norm (by simp only [List.cons_append, List.nil_append]; rfl) ?_)
    have z13 : w.heap.size ≤ b13 := k130
    intro w3 h3
    have n3 := shown_new h3 fun x hx => by simp [BlkIn, nth, blkOf, vaddr] at hx; omega
    refine ⟨fun _ => True, fun _ _ => trivial, ?_⟩
    refine den_callM (fun _ x => x = b ∨ (Value.slice as_ L.length cs).ownBlock = some x) (fun w4 l w5 => ∃ s', l = [.int .i64 (atE L c.id), s'] ∧ OrdAt w5 b s' (cancelL L c.id) ∧ (s'.ownBlock = (Value.slice as_ L.length cs).ownBlock ∨ ∀ g, s'.ownBlock = some g → w4.heap.size ≤ g)) (fun w4 h4 x hx _ => hF _ _ _ x (fun z hz => by simp [BlkIn, nth, blkOf, vaddr] at hz; omega) hx) (fun w4 h4 => ?_) (fun w4 l w5 h4 hf' hR hk5 => ?_)
    · have hO4 : OrdAt w4 b (.slice as_ L.length cs) L := h.ord.same ((((shown_same h1).trans hs12).trans n3).trans (shown_same h4))
      refine Runs.mono (M := fun x => x = b ∨ (Value.slice as_ L.length cs).ownBlock = some x) (R := fun v w' => v = .int .i64 (atE L c.id) ∧ NewAt w4 w' b (.slice as_ L.length cs) (cancelL L c.id)) (by simpa [SV.den, denL, IE.den, BE.den, nth, vint, vbool, vaddr, addO, addr_add] using (c29 b _ L c.id w4 hO4 (by omega)).mono (M' := fun x => x = b ∨ (Value.slice as_ L.length cs).ownBlock = some x) (fun _ _ h _ => h) (fun _ _ h => .inl h)) (fun v w' hv _ => ?_) (fun _ _ h => h)
      obtain ⟨rfl, s', hO', hfr⟩ := hv
      obtain ⟨a', c', hs'⟩ := hO'.mine.slice
      exact ⟨[.int .i64 (atE L c.id), s'], ⟨⟨_, rfl⟩, ⟨_, _, _, hs'⟩, trivial⟩, rfl, ⟨s', rfl, hO', hfr⟩, hO'.blk, trivial⟩
    obtain ⟨s', rfl, hO', hfr⟩ := hR
    refine den_norm (by simp only [List.cons_append, List.nil_append]; rfl) (den_call_int (x := atE L c.id) (fun w6 _ => ?_) rfl fun w6 w7 h6 h7 => den_norm (by simp only [List.cons_append, List.nil_append]; rfl) (den_leafA _ rfl fun w9 h9 => ?_))
    · exact c15 (atE L c.id) w6
    have k59 : Kept (fun x => x = b10) w5 w9 := (((shown_same h6).trans h7).mono fun _ _ h => h.elim).then h9.kept fun x _ hx => by simp [BlkIn, nth, blkOf, vaddr] at hx; exact hx.symm
    obtain ⟨hp, hfoot⟩ := pair_fin h z1 l10 z10 hs12.size hr ho (n3.trans (shown_same h4)) hk5 hO' hfr k59
    refine ⟨b, s', t', ?_, hp, hfoot⟩
    simp [SV.den, denL, IE.den, BE.den, nth, vint, vbool, vaddr, addO, addr_add, eqB_eq]
  case b7 =>
    have hL : actL L wh c = L := by
      simp only [IE.den, nth, vint] at e
      simp [actL, e]
    rw [hL]
    refine den_call [.int .i64 (nxI L), .int .i64 (nxE L)] ⟨⟨_, rfl⟩, ⟨_, rfl⟩, trivial⟩ rfl (fun w1 h1 => ?_) (fun w1 w2 h1 h2 => den_norm (by simp only [List.cons_append, List.nil_append]; rfl) ?_)
    · exact c43 _ L w1 (h.ref.same (shown_same h1)).1 (by omega)
    refine den_call [.int .i64 (nxI L), .int .i64 (nxE L)] ⟨⟨_, rfl⟩, ⟨_, rfl⟩, trivial⟩ rfl (fun w3 h3 => ?_) (fun w3 w4 h3 h4 => den_norm (by simp only [List.cons_append, List.nil_append]; rfl) ?_)
    · have := c21 (pt b) L w3 (h.ord.same (((shown_same h1).trans h2).trans (shown_same h3))).r (by omega)
      simpa [SV.den, denL, IE.den, BE.den, nth, vint, vbool, vaddr, addO, addr_add] using this
    intro w5 h5
    refine ⟨fun _ => True, fun _ _ => trivial, ?_⟩
    refine den_splitEq (fun _ => ?_) (fun hne => absurd rfl hne)
    refine den_call_int (x := nxE L) (fun w6 _ => ?_) rfl fun w6 w7 h6 h7 => den_norm (by simp only [List.cons_append, List.nil_append]; rfl) (den_leafA _ rfl fun w9 h9 => ?_)
    · exact c15 (nxE L) w6
    have hs : Same w w7 := (((((shown_same h1).trans h2).trans (shown_same h3)).trans h4).trans ((shown_same h5).trans (shown_same h6))).trans h7
    refine ⟨b, .slice as_ L.length cs, .slice at_ L.length ct, ?_, (h.same hs).kept h9.kept fun x hx hin => ?_, fun x hx => .inl hx⟩
    · simp [SV.den, denL, IE.den, BE.den, nth, vint, vbool, vaddr, addO, addr_add, eqB_eq]
    · have := h.lt x hx
      simp [BlkIn, nth, blkOf, vaddr] at hin
      omega
  case b8 =>
    have hL : actL L wh c = L := by
      simp only [IE.den, nth, vint] at e0 e1 e2 e3 e4 e5 e6
      simp [actL, e0, e1, e2, e3, e4, e5, e6]
    rw [hL]
    intro w1 h1
    refine ⟨fun _ => True, fun _ _ => trivial, ?_⟩
    refine den_callR (fun w l w' => ∃ b' s', l = [pt b'] ∧ OrdAt w' b' s' L ∧ w.heap.size ≤ b' ∧ ∀ g, s'.ownBlock = some g → w.heap.size ≤ g) (fun w2 h2 => ?_) (fun w2 l w3 h2 hf hR hs23 => ?_)
    · refine (c24 (pt b) L w2 (h.ord.same ((shown_same h1).trans (shown_same h2))).r (by omega)).mono (R' := fun v w' => ∃ l, Fits [Base.ptr] l ∧ v = (SV.var 11).den ([pt b, .slice as_ L.length cs, .slice at_ L.length ct, .int .i64 wh, .int .i64 c.id, .int .i64 c.lba, .int .i64 c.n, .bool c.wr, pt b8, pt b9, pt b10] ++ l) ∧ ∃ b' s', l = [pt b'] ∧ OrdAt w' b' s' L ∧ w2.heap.size ≤ b' ∧ ∀ g, s'.ownBlock = some g → w2.heap.size ≤ g) (fun v w' ⟨b', s', hv, h3, h4, h5⟩ => ⟨[pt b'], ⟨⟨_, rfl⟩, trivial⟩, hv, b', s', rfl, h3, h4, h5⟩) |> fun hx => by simpa [SV.den, denL, IE.den, BE.den, nth, vint, vbool, vaddr, addO, addr_add] using hx
    obtain ⟨b', s', rfl, hO', hb', hs'⟩ := hR
    have z1 : w.heap.size ≤ w1.heap.size := h1.kept.size
    have z2 : w1.heap.size ≤ w2.heap.size := h2.kept.size
    have l10 := h2.lt (i := 10) (b := b10) (by simp [keys]) rfl
    refine den_norm (by simp only [List.cons_append, List.nil_append]; rfl) (den_leafA _ rfl fun w9 h9 => ?_)
    have hs : Same w w3 := ((shown_same h1).trans (shown_same h2)).trans hs23
    have hv := h.ref.2.2.2
    refine ⟨b', s', .slice at_ L.length ct, ?_, ⟨hO'.kept h9.kept (fun hin => ?_) fun g hg hin => ?_, (h.ref.same hs).kept h9.kept fun ad had hin => ?_, fun ad had => ⟨fun e => ?_, fun e => ?_⟩⟩, ?_⟩
    · simp [SV.den, denL, IE.den, BE.den, nth, vint, vbool, vaddr, addO, addr_add]
    · simp [BlkIn, nth, blkOf, vaddr] at hin; omega
    · have := hs' g hg; simp [BlkIn, nth, blkOf, vaddr] at hin; omega
    · have := hv ad had; simp [BlkIn, nth, blkOf, vaddr] at hin; omega
    · have := hv ad had; omega
    · have := hv ad had; have := hs' _ e; omega
    · rintro x (rfl | hx | hx)
      · exact .inr (by omega)
      · have := hs' x hx; exact .inr (by omega)
      · exact .inl (.inr (.inr hx))
end Go.Proofs.Ytfjimghpjopgoaa
