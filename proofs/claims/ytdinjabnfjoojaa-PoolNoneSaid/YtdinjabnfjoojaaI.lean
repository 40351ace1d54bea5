/- A call on a pool and on its specification: the results agree, and the two stay the same. No conditions beyond those that each theorem names. -/
import Derived.Test.YtdinjabnfjoojaaH
set_option maxRecDepth 100000
set_option maxHeartbeats 1000000
set_option linter.unusedVariables false
set_option linter.unusedSimpArgs false
namespace Go.Proofs.Ytdinjabnfjoojaa
open Go.Sx

structure Pair (w : World) (b : Nat) (s t : Value) (L : List Bk) : Prop where
  ord : PoolAt w b s L
  ref : Given refE w t L
  ok : OkL L
  sep : ∀ ad, vaddr t = some ad → ad.block ≠ b ∧ s.ownBlock ≠ some ad.block
/-- their blocks -/
def Foot (b : Nat) (s t : Value) (x : Nat) : Prop := MP b s x ∨ ∃ ad, vaddr t = some ad ∧ ad.block = x
theorem Pair.kept {w w' : World} {b : Nat} {s t : Value} {L : List Bk} {M : Nat → Prop} (h : Pair w b s t L) (hk : Kept M w w') (hM : ∀ x, Foot b s t x → ¬ M x) : Pair w' b s t L :=
  ⟨h.ord.kept hk (hM _ (.inl (.inl rfl))) fun g hg => hM _ (.inl (.inr hg)), h.ref.kept hk fun ad had => hM _ (.inr ⟨ad, had, rfl⟩), h.ok, h.sep⟩
theorem Pair.same {w w' : World} {b : Nat} {s t : Value} {L : List Bk} (h : Pair w b s t L) (hk : Same w w') : Pair w' b s t L := h.kept hk fun _ _ h => h
theorem PoolAt.foot {w : World} {b : Nat} {s : Value} {L : List Bk} (h : PoolAt w b s L) : ∀ x, MP b s x → x < w.heap.size := by
  rintro x (rfl | hx)
  · exact h.lt
  · exact h.mine.lt hx
theorem Pair.lt {w : World} {b : Nat} {s t : Value} {L : List Bk} (h : Pair w b s t L) : ∀ x, Foot b s t x → x < w.heap.size := by
  rintro x (hx | ⟨ad, had, rfl⟩)
  · exact h.ord.foot x hx
  · exact h.ref.2.2.2 ad had
/-- the parts anew -/
theorem Pair.mk' {w w1 : World} {b : Nat} {s t t' : Value} {L L' : List Bk} (h : Pair w b s t L) (h1 : PoolAt w1 b s L') (h2 : Given refE w1 t' L') (hok : OkL L') (ho : OldNew w t t') : Pair w1 b s t' L' ∧ ∀ x, Foot b s t' x → Foot b s t x ∨ w.heap.size ≤ x := by
  refine ⟨⟨h1, h2, hok, fun ad had => ?_⟩, ?_⟩
  · rcases ho with rfl | ho
    · exact h.sep ad had
    · have := ho ad had
      exact ⟨fun e => by have := h.ord.foot b (.inl rfl); omega, fun e => by have := h.ord.foot _ (.inr e); omega⟩
  · rintro x (hx | ⟨ad, had, rfl⟩)
    · exact .inl (.inl hx)
    · rcases ho with rfl | ho
      · exact .inl (.inr ⟨ad, had, rfl⟩)
      · exact .inr (ho ad had)

theorem takL_ok {L : List Bk} (h : OkL L) : OkL (takL L) := by
  by_cases e : coldest 1 L < 0
  · unfold takL; rw [if_pos e]; exact h
  · obtain ⟨j, x, hj, hx, _⟩ := coldest_some e
    unfold takL
    rw [if_neg e, hj, bkAt_some hx]
    exact h.set _ _ ⟨by simp, by simp⟩ (h.er x (List.mem_of_getElem? hx))
theorem turnL_ok {L : List Bk} {i : Int} {p : Bk → Bool} {st : Int} (h : OkL L) (hst : 1 ≤ st ∧ st ≤ 4) : OkL (turnL L i p st) := by
  unfold turnL
  split
  · rename_i e
    obtain ⟨j, x, rfl, hx, hb, _⟩ := chk_ok e
    rw [hb]
    exact h.set _ _ hst (h.er x (List.mem_of_getElem? hx))
  · exact h
theorem relL_ok {L : List Bk} {i : Int} (h : OkL L) : OkL (relL L i) := by
  unfold relL
  split
  · rename_i e
    obtain ⟨j, x, rfl, hx, hb, hp⟩ := chk_ok e
    rw [hb]
    have := h.er x (List.mem_of_getElem? hx)
    have hr : x.er < 1099511627776 := by simp [rels] at hp; exact hp.2
    exact h.set _ _ ⟨by simp, by simp⟩ ⟨by simp; omega, by simp; omega⟩
  · exact h
theorem setL_ok {L : List Bk} {i st er : Int} (h : OkL L) : OkL (setL L i st er) := by
  unfold setL
  split
  · rename_i e
    unfold setE at e
    split at e
    · cases e
    · rename_i h1
      simp only [cnt, Bool.not_eq_false, Bool.and_eq_true, decide_eq_true_eq] at h1
      exact h.set _ _ ⟨h1.1.1, h1.1.2⟩ h1.2
  · exact h

/-- a call: what, the block, the state, the erase count -/
structure ActT where
  wh : Int
  i : Int
  st : Int
  er : Int
def actL (L : List Bk) (a : ActT) : List Bk :=
  if a.wh = 0 ∨ a.wh = 1 then takL L else if a.wh = 2 ∨ a.wh = 3 then turnL L a.i (isSt 2) 3 else if a.wh = 4 ∨ a.wh = 5 then relL L a.i else if a.wh = 6 then turnL L a.i good 4 else setL L a.i a.st a.er
theorem actL_ok {L : List Bk} {a : ActT} (h : OkL L) : OkL (actL L a) := by
  unfold actL
  repeat' split
  · exact takL_ok h
  · exact turnL_ok h ⟨by decide, by decide⟩
  · exact relL_ok h
  · exact turnL_ok h ⟨by decide, by decide⟩
  · exact setL_ok h
theorem actL_length {L : List Bk} {a : ActT} : (actL L a).length = L.length := by
  unfold actL takL turnL relL setL
  repeat' split
  all_goals simp

theorem c15 (b : Nat) (s t : Value) (L : List Bk) (a : ActT) (w : World) (h : Pair w b s t L) :
    Runs Try.prog 15 [pt b, t, .agg #[.int .i64 a.wh, .int .i64 a.i, .int .i64 a.st, .int .i64 a.er]] w (MP b s)
      (fun v w' => ∃ t', v = .tuple #[t', .bool true] ∧ Pair w' b s t' (actL L a) ∧ ∀ x, Foot b s t' x → Foot b s t x ∨ w.heap.size ≤ x) := by
  obtain ⟨at_, ct, rfl⟩ := h.ref.1.slice
  have h0 := runs mix t15 rfl rfl (ε := [pt b, .slice at_ L.length ct, .int .i64 a.wh, .int .i64 a.i, .int .i64 a.st, .int .i64 a.er]) (w := w) (M := MP b s)
    (R := fun v w' => ∃ t', v = .tuple #[t', .bool true] ∧ Pair w' b s t' (actL L a) ∧ ∀ x, Foot b s t' x → Foot b s (.slice at_ L.length ct) x ∨ w.heap.size ≤ x) ⟨⟨_, rfl⟩, ⟨_, _, _, rfl⟩, ⟨_, rfl⟩, ⟨_, rfl⟩, ⟨_, rfl⟩, ⟨_, rfl⟩, trivial⟩ trivial (by simp [keys]) (by simp [keys]) (by simp [keys]) ?_
  · simpa [SV.den, denL, IE.den, BE.den, nth, vint, vbool, vaddr, addO, addr_add] using h0
  refine den_blk fun b6 k6 _ k60 => den_norm (by simp only [List.cons_append, List.nil_append]; rfl) ?_
  have z6 : w.heap.size ≤ b6 := k60
  have hF : ∀ (e : List Value) (W : World) (X : Nat → Prop) (x : Nat), (∀ z, BlkIn e [6] z → w.heap.size ≤ z) → MP b s x → FpOk (GM Try.prog w (MP b s) false) false X e [6] W x := by
    intro e W X x hun hx
    refine ⟨fun hd => (by cases hd), fun _ => hx, fun hin => ?_, fun hx => (by cases hx)⟩
    have := hun x hin
    have := h.ord.foot x hx
    omega
  have hok := actL_ok (a := a) h.ok
  refine den_splitEq (fun e => ?b0) (fun e0 => den_splitEq (fun e => ?b1) (fun e1 => den_splitEq (fun e => ?b2) (fun e2 => den_splitEq (fun e => ?b3) (fun e3 => den_splitEq (fun e => ?b4) (fun e4 => den_splitEq (fun e => ?b5) (fun e5 => den_splitEq (fun e => ?b6) (fun e6 => ?b7)))))))
  case b0 | b1 =>
    have hL : actL L a = takL L := by
      simp only [IE.den, nth, vint] at e
      simp [actL, e]
    rw [hL] at hok ⊢
    refine den_callM (fun _ => MP b s) (fun w1 l w2 => l = [.int .i64 (takI L), .int .i64 (takE L)] ∧ PoolAt w2 b s (takL L)) (fun w1 h1 x hx _ => hF _ _ _ x (fun z hz => by simp [BlkIn, nth, blkOf, vaddr] at hz; omega) hx) (fun w1 h1 => ?_) (fun w1 l w2 h1 hf hR hk2 => ?_)
    · refine (c11 b s L w1 (h.ord.same (shown_same h1)) h.ok).mono (fun v w' ⟨hv, hP⟩ _ => ?_) (fun _ _ h => h)
      exact ⟨[.int .i64 (takI L), .int .i64 (takE L)], ⟨⟨_, rfl⟩, ⟨_, rfl⟩, trivial⟩, hv, ⟨rfl, hP⟩, trivial⟩
    obtain ⟨rfl, hP2⟩ := hR
    have ht2 : Given refE w2 (.slice at_ L.length ct) L := (h.ref.same (shown_same h1)).kept hk2 fun ad had e => by
      rcases e with e | e
      · exact (h.sep ad had).1 e
      · exact (h.sep ad had).2 e
    have z12 : w.heap.size ≤ w2.heap.size := Nat.le_trans h1.kept.size hk2.size
    refine den_norm (by simp only [List.cons_append, List.nil_append]; rfl) (den_callR (fun w3 l w4 => ∃ t', l = [t', .int .i64 (takI L), .int .i64 (takE L)] ∧ Given refE w4 t' (takL L) ∧ OldNew w3 (.slice at_ L.length ct) t') (fun w3 h3 => ?_) (fun w3 l w4 h3 hf hR hs34 => ?_))
    · refine (c39 _ L w3 (ht2.same (shown_same h3)) h.ok).mono fun v w' ⟨t', hv, h4, h5⟩ => ?_
      obtain ⟨a', c', e'⟩ := h4.1.slice
      exact ⟨[t', .int .i64 (takI L), .int .i64 (takE L)], ⟨⟨_, _, _, e'⟩, ⟨_, rfl⟩, ⟨_, rfl⟩, trivial⟩, hv, t', rfl, h4, h5⟩
    obtain ⟨t', rfl, hg4, ho⟩ := hR
    have z3 : w2.heap.size ≤ w3.heap.size := h3.kept.size
    have hP4 := (hP2.same (shown_same h3)).same hs34
    refine den_norm (by simp only [List.cons_append, List.nil_append]; rfl) (den_splitEq (fun _ => ?_) (fun hne => absurd rfl hne))
    refine den_call_int (x := takE L) (fun w5 h5 => ?_) rfl fun w5 w6 h5 h6 => den_norm (by simp only [List.cons_append, List.nil_append]; rfl) (den_leafA _ rfl fun w7 h7 => ?_)
    · exact c10 _ w5
    have s7 := ((shown_same h5).trans h6).trans (shown_same h7)
    obtain ⟨hp, hfo⟩ := h.mk' (hP4.same s7) (hg4.same s7) hok (ho.elim .inl fun ho => .inr fun ad had => by have := ho ad had; omega)
    exact ⟨t', by simp [SV.den, denL, IE.den, BE.den, nth, vint, vbool, vaddr, addO, addr_add, eqB_eq], hp, hfo⟩
  case b2 | b3 =>
    have hL : actL L a = turnL L a.i (isSt 2) 3 := by
      simp only [IE.den, nth, vint] at e
      simp [actL, e]
    rw [hL] at hok ⊢
    refine den_callR (fun w1 l w2 => ∃ t', l = [t', .int .i64 (chk L a.i (isSt 2))] ∧ Given refE w2 t' (turnL L a.i (isSt 2) 3) ∧ OldNew w1 (.slice at_ L.length ct) t') (fun w1 h1 => ?_) (fun w1 l w2 h1 hf hR hs12 => ?_)
    · refine (c40 _ L a.i w1 (h.ref.same (shown_same h1)) h.ok).mono fun v w' ⟨t', hv, h4, h5⟩ => ?_
      obtain ⟨a', c', e'⟩ := h4.1.slice
      exact ⟨[t', .int .i64 (chk L a.i (isSt 2))], ⟨⟨_, _, _, e'⟩, ⟨_, rfl⟩, trivial⟩, hv, t', rfl, h4, h5⟩
    obtain ⟨t', rfl, hg2, ho⟩ := hR
    have z1 : w.heap.size ≤ w1.heap.size := h1.kept.size
    have sp : ∀ ad, vaddr t' = some ad → ¬ MP b s ad.block := fun ad had hm => by
      rcases ho with rfl | ho
      · rcases hm with e | e
        · exact (h.sep ad had).1 e
        · exact (h.sep ad had).2 e
      · have := ho ad had
        have := h.ord.foot _ hm
        omega
    refine den_norm (by simp only [List.cons_append, List.nil_append]; rfl) ?_
    refine den_callM (fun _ => MP b s) (fun w3 l w4 => l = [.int .i64 (chk L a.i (isSt 2))] ∧ PoolAt w4 b s (turnL L a.i (isSt 2) 3)) (fun w3 h3 x hx _ => hF _ _ _ x (fun z hz => by simp [BlkIn, nth, blkOf, vaddr] at hz; omega) hx) (fun w3 h3 => ?_) (fun w3 l w4 h3 hf hR hk4 => ?_)
    · refine (c21 b s L a.i w3 (h.ord.same (((shown_same h1).trans hs12).trans (shown_same h3))) h.ok).mono (fun v w' ⟨hv, hP⟩ _ => ?_) (fun _ _ h => h)
      exact ⟨[.int .i64 (chk L a.i (isSt 2))], ⟨⟨_, rfl⟩, trivial⟩, hv, ⟨rfl, hP⟩, trivial⟩
    obtain ⟨rfl, hP4⟩ := hR
    have hg4 := (hg2.same (shown_same h3)).kept hk4 sp
    refine den_norm (by simp only [List.cons_append, List.nil_append]; rfl) (den_call_int (x := chk L a.i (isSt 2)) (fun w5 h5 => ?_) rfl fun w5 w6 h5 h6 => den_norm (by simp only [List.cons_append, List.nil_append]; rfl) (den_leafA _ rfl fun w7 h7 => ?_))
    · exact c10 _ w5
    have s7 := ((shown_same h5).trans h6).trans (shown_same h7)
    obtain ⟨hp, hfo⟩ := h.mk' (hP4.same s7) (hg4.same s7) hok (ho.elim .inl fun ho => .inr fun ad had => by have := ho ad had; omega)
    exact ⟨t', by simp [SV.den, denL, IE.den, BE.den, nth, vint, vbool, vaddr, addO, addr_add, eqB_eq], hp, hfo⟩
  case b4 | b5 =>
    have hL : actL L a = relL L a.i := by
      simp only [IE.den, nth, vint] at e
      simp [actL, e]
    rw [hL] at hok ⊢
    refine den_callR (fun w1 l w2 => ∃ t', l = [t', .int .i64 (chk L a.i rels)] ∧ Given refE w2 t' (relL L a.i) ∧ OldNew w1 (.slice at_ L.length ct) t') (fun w1 h1 => ?_) (fun w1 l w2 h1 hf hR hs12 => ?_)
    · refine (c41 _ L a.i w1 (h.ref.same (shown_same h1)) h.ok).mono fun v w' ⟨t', hv, h4, h5⟩ => ?_
      obtain ⟨a', c', e'⟩ := h4.1.slice
      exact ⟨[t', .int .i64 (chk L a.i rels)], ⟨⟨_, _, _, e'⟩, ⟨_, rfl⟩, trivial⟩, hv, t', rfl, h4, h5⟩
    obtain ⟨t', rfl, hg2, ho⟩ := hR
    have z1 : w.heap.size ≤ w1.heap.size := h1.kept.size
    have sp : ∀ ad, vaddr t' = some ad → ¬ MP b s ad.block := fun ad had hm => by
      rcases ho with rfl | ho
      · rcases hm with e | e
        · exact (h.sep ad had).1 e
        · exact (h.sep ad had).2 e
      · have := ho ad had
        have := h.ord.foot _ hm
        omega
    refine den_norm (by simp only [List.cons_append, List.nil_append]; rfl) ?_
    refine den_callM (fun _ => MP b s) (fun w3 l w4 => l = [.int .i64 (chk L a.i rels)] ∧ PoolAt w4 b s (relL L a.i)) (fun w3 h3 x hx _ => hF _ _ _ x (fun z hz => by simp [BlkIn, nth, blkOf, vaddr] at hz; omega) hx) (fun w3 h3 => ?_) (fun w3 l w4 h3 hf hR hk4 => ?_)
    · refine (c12 b s L a.i w3 (h.ord.same (((shown_same h1).trans hs12).trans (shown_same h3))) h.ok).mono (fun v w' ⟨hv, hP⟩ _ => ?_) (fun _ _ h => h)
      exact ⟨[.int .i64 (chk L a.i rels)], ⟨⟨_, rfl⟩, trivial⟩, hv, ⟨rfl, hP⟩, trivial⟩
    obtain ⟨rfl, hP4⟩ := hR
    have hg4 := (hg2.same (shown_same h3)).kept hk4 sp
    refine den_norm (by simp only [List.cons_append, List.nil_append]; rfl) (den_call_int (x := chk L a.i rels) (fun w5 h5 => ?_) rfl fun w5 w6 h5 h6 => den_norm (by simp only [List.cons_append, List.nil_append]; rfl) (den_leafA _ rfl fun w7 h7 => ?_))
    · exact c10 _ w5
    have s7 := ((shown_same h5).trans h6).trans (shown_same h7)
    obtain ⟨hp, hfo⟩ := h.mk' (hP4.same s7) (hg4.same s7) hok (ho.elim .inl fun ho => .inr fun ad had => by have := ho ad had; omega)
    exact ⟨t', by simp [SV.den, denL, IE.den, BE.den, nth, vint, vbool, vaddr, addO, addr_add, eqB_eq], hp, hfo⟩
  case b6 =>
    have hL : actL L a = turnL L a.i good 4 := by
      simp only [IE.den, nth, vint] at e
      simp [actL, e]
    rw [hL] at hok ⊢
    refine den_callR (fun w1 l w2 => ∃ t', l = [t', .int .i64 (chk L a.i good)] ∧ Given refE w2 t' (turnL L a.i good 4) ∧ OldNew w1 (.slice at_ L.length ct) t') (fun w1 h1 => ?_) (fun w1 l w2 h1 hf hR hs12 => ?_)
    · refine (c42 _ L a.i w1 (h.ref.same (shown_same h1)) h.ok).mono fun v w' ⟨t', hv, h4, h5⟩ => ?_
      obtain ⟨a', c', e'⟩ := h4.1.slice
      exact ⟨[t', .int .i64 (chk L a.i good)], ⟨⟨_, _, _, e'⟩, ⟨_, rfl⟩, trivial⟩, hv, t', rfl, h4, h5⟩
    obtain ⟨t', rfl, hg2, ho⟩ := hR
    have z1 : w.heap.size ≤ w1.heap.size := h1.kept.size
    have sp : ∀ ad, vaddr t' = some ad → ¬ MP b s ad.block := fun ad had hm => by
      rcases ho with rfl | ho
      · rcases hm with e | e
        · exact (h.sep ad had).1 e
        · exact (h.sep ad had).2 e
      · have := ho ad had
        have := h.ord.foot _ hm
        omega
    refine den_norm (by simp only [List.cons_append, List.nil_append]; rfl) ?_
    refine den_callM (fun _ => MP b s) (fun w3 l w4 => l = [.int .i64 (chk L a.i good)] ∧ PoolAt w4 b s (turnL L a.i good 4)) (fun w3 h3 x hx _ => hF _ _ _ x (fun z hz => by simp [BlkIn, nth, blkOf, vaddr] at hz; omega) hx) (fun w3 h3 => ?_) (fun w3 l w4 h3 hf hR hk4 => ?_)
    · refine (c22 b s L a.i w3 (h.ord.same (((shown_same h1).trans hs12).trans (shown_same h3))) h.ok).mono (fun v w' ⟨hv, hP⟩ _ => ?_) (fun _ _ h => h)
      exact ⟨[.int .i64 (chk L a.i good)], ⟨⟨_, rfl⟩, trivial⟩, hv, ⟨rfl, hP⟩, trivial⟩
    obtain ⟨rfl, hP4⟩ := hR
    have hg4 := (hg2.same (shown_same h3)).kept hk4 sp
    refine den_norm (by simp only [List.cons_append, List.nil_append]; rfl) (den_call_int (x := chk L a.i good) (fun w5 h5 => ?_) rfl fun w5 w6 h5 h6 => den_norm (by simp only [List.cons_append, List.nil_append]; rfl) (den_leafA _ rfl fun w7 h7 => ?_))
    · exact c10 _ w5
    have s7 := ((shown_same h5).trans h6).trans (shown_same h7)
    obtain ⟨hp, hfo⟩ := h.mk' (hP4.same s7) (hg4.same s7) hok (ho.elim .inl fun ho => .inr fun ad had => by have := ho ad had; omega)
    exact ⟨t', by simp [SV.den, denL, IE.den, BE.den, nth, vint, vbool, vaddr, addO, addr_add, eqB_eq], hp, hfo⟩
  case b7 =>
    have hL : actL L a = setL L a.i a.st a.er := by
      simp only [IE.den, nth, vint] at e0 e1 e2 e3 e4 e5 e6
      simp [actL, e0, e1, e2, e3, e4, e5, e6]
    rw [hL] at hok ⊢
    refine den_callR (fun w1 l w2 => ∃ t', l = [t', .int .i64 (setE L a.i a.st a.er)] ∧ Given refE w2 t' (setL L a.i a.st a.er) ∧ OldNew w1 (.slice at_ L.length ct) t') (fun w1 h1 => ?_) (fun w1 l w2 h1 hf hR hs12 => ?_)
    · refine (c43 _ L a.i a.st a.er w1 (h.ref.same (shown_same h1)) h.ok).mono fun v w' ⟨t', hv, h4, h5⟩ => ?_
      obtain ⟨a', c', e'⟩ := h4.1.slice
      exact ⟨[t', .int .i64 (setE L a.i a.st a.er)], ⟨⟨_, _, _, e'⟩, ⟨_, rfl⟩, trivial⟩, hv, t', rfl, h4, h5⟩
    obtain ⟨t', rfl, hg2, ho⟩ := hR
    have z1 : w.heap.size ≤ w1.heap.size := h1.kept.size
    have sp : ∀ ad, vaddr t' = some ad → ¬ MP b s ad.block := fun ad had hm => by
      rcases ho with rfl | ho
      · rcases hm with e | e
        · exact (h.sep ad had).1 e
        · exact (h.sep ad had).2 e
      · have := ho ad had
        have := h.ord.foot _ hm
        omega
    refine den_norm (by simp only [List.cons_append, List.nil_append]; rfl) ?_
    refine den_callM (fun _ => MP b s) (fun w3 l w4 => l = [.int .i64 (setE L a.i a.st a.er)] ∧ PoolAt w4 b s (setL L a.i a.st a.er)) (fun w3 h3 x hx _ => hF _ _ _ x (fun z hz => by simp [BlkIn, nth, blkOf, vaddr] at hz; omega) hx) (fun w3 h3 => ?_) (fun w3 l w4 h3 hf hR hk4 => ?_)
    · refine (c23 b s L a.i a.st a.er w3 (h.ord.same (((shown_same h1).trans hs12).trans (shown_same h3))) h.ok).mono (fun v w' ⟨hv, hP⟩ _ => ?_) (fun _ _ h => h)
      exact ⟨[.int .i64 (setE L a.i a.st a.er)], ⟨⟨_, rfl⟩, trivial⟩, hv, ⟨rfl, hP⟩, trivial⟩
    obtain ⟨rfl, hP4⟩ := hR
    have hg4 := (hg2.same (shown_same h3)).kept hk4 sp
    refine den_norm (by simp only [List.cons_append, List.nil_append]; rfl) (den_call_int (x := setE L a.i a.st a.er) (fun w5 h5 => ?_) rfl fun w5 w6 h5 h6 => den_norm (by simp only [List.cons_append, List.nil_append]; rfl) (den_leafA _ rfl fun w7 h7 => ?_))
    · exact c10 _ w5
    have s7 := ((shown_same h5).trans h6).trans (shown_same h7)
    obtain ⟨hp, hfo⟩ := h.mk' (hP4.same s7) (hg4.same s7) hok (ho.elim .inl fun ho => .inr fun ad had => by have := ho ad had; omega)
    exact ⟨t', by simp [SV.den, denL, IE.den, BE.den, nth, vint, vbool, vaddr, addO, addr_add, eqB_eq], hp, hfo⟩
end Go.Proofs.Ytdinjabnfjoojaa
