/- The law AtomicPlays returns true for every list of calls and every number of iterations. No conditions beyond those that each theorem names. -/
import Derived.Test.YtfjimghpjopgoaaR
set_option maxRecDepth 100000
set_option maxHeartbeats 1000000
set_option linter.unusedVariables false
set_option linter.unusedSimpArgs false
namespace Go.Proofs.Ytfjimghpjopgoaa
open Go.Sx

structure ActT where
  wh : Int
  c : Cmd
def actE : Enc ActT := ⟨fun a => [.int .i64 a.wh, .int .i64 a.c.id, .int .i64 a.c.lba, .int .i64 a.c.n, .bool a.c.wr], 5, fun _ => rfl⟩
theorem arr_nil {α : Type} {E : Enc α} {w : World} {n c : Nat} (h : n = 0) : Arr E w (.slice none n c) ([] : List α) := ⟨⟨none, c, by rw [h]; rfl⟩, by simp, fun j x hx => by simp at hx⟩
theorem pair_nil {w : World} {b : Nat} (hb : HasBlk w (pt b) [.slice none 0 0]) : Pair w b (.slice none 0 0) (.slice none 0 0) [] :=
  ⟨⟨hb, Mine.nil, by simp [Value.ownBlock]⟩, ⟨arr_nil rfl, fun n c e => by cases e; exact ⟨rfl, rfl⟩, Nat.zero_le _, fun ad had => by cases had⟩, fun ad had => by cases had⟩
theorem actL_length (L : List Cmd) (wh : Int) (c : Cmd) : (actL L wh c).length ≤ L.length + 1 := by
  have h1 : ∀ i, (L.eraseIdx i).length ≤ L.length := fun i => List.length_eraseIdx_le ..
  unfold actL
  split
  · unfold begL; split <;> simp
  · split
    · unfold endL; split
      · have := h1 (atI L c.id).toNat; omega
      · omega
    · split
      · unfold cancelL; split
        · have := h1 (atI L c.id).toNat; omega
        · omega
      · omega

/-- between two rounds -/
def PlayI (w : World) (b3 : Nat) (n : Nat) (ls : List Value) (w' : World) : Prop := ∃ (j b : Nat) (s t : Value) (L : List Cmd), ls = [.int .i64 j, pt b, t] ∧ j ≤ n ∧ Pair w' b s t L ∧ L.length ≤ j ∧ ∀ x, Foot b s t x → w.heap.size ≤ x ∧ x ≠ b3

theorem c7 (s0 : Value) (A : List ActT) (many : Int) (w : World) (hs : Arr actE w s0 A) : Gives Try.prog 7 [s0, .int .i64 many] w (.bool true) := by
  obtain ⟨a0, c0, rfl⟩ := hs.slice
  refine gives mix t7 rfl rfl (ε := [.slice a0 A.length c0, .int .i64 many]) ⟨⟨_, _, _, rfl⟩, ⟨_, rfl⟩, trivial⟩ (den_splitLt (fun h => ?_) (fun h => ?_))
  · exact den_call_bool (b := true) (fun w1 _ => c9 w1) rfl fun _ _ _ _ => den_leaf rfl
  have hA : A.length ≤ 50 := by have h' : (A.length : Int) ≤ 50 := h
                                omega
  refine den_blk fun b2 k2 _ k20 => den_blk fun b3 k3 _ k30 => den_norm (by simp only [List.cons_append, List.nil_append]; rfl) ?_
  have z2 : w.heap.size ≤ b2 := k20
  have z3 : w.heap.size ≤ b3 := k30
  refine den_loop (PlayI w b3 A.length) (fun ls _ => A.length - (vint (nth ls 0)).toNat) (fun w1 h1 => ?_) ?_
  · have hne := h1.facts.2.1
    have hne3 := h1.facts.1
    refine ⟨0, b2, .slice none 0 0, .slice none 0 0, [], by simp [SV.den, denL, IE.den, BE.den, nth, vint, vbool, vaddr, addO, addr_add], by omega, pair_nil h1.facts.2.1, by simp, fun x hx => ?_⟩
    rcases hx with rfl | hx | ⟨ad, had, _⟩
    · exact ⟨z2, fun e => h1.dj 3 2 (by simp [keys]) (by simp [keys]) (by decide) (by simp [nth, blkOf, vaddr, e])⟩
    · cases hx
    · cases had
  rintro w1 l w2 h1 hf ⟨j, b, s, t, L, rfl, hj, hP, hLj, hfo⟩ hk hfa
  obtain ⟨at_, ct, ht⟩ := hP.ref.1.slice
  have hPl := hP.lt
  refine den_norm (by simp only [List.cons_append, List.nil_append]; rfl) (den_splitLt (fun h => ?_) (fun h => ?_))
  · have hlt : j < A.length := by simpa [IE.den, nth, vint, vlen] using h
    have hx : A[j]? = some A[j] := by simp [hlt]
    generalize A[j] = x at hx
    intro w3 h3
    refine ⟨fun x => w.heap.size ≤ x, fun x hx => by simp [BlkIn, nth, blkOf, vaddr] at hx; omega, ?_⟩
    have old : ∀ ad, vaddr (.slice a0 A.length c0) = some ad → ¬ w.heap.size ≤ ad.block := fun ad had => by have := hs.lt hx (by decide) ad had; omega
    refine den_idxD (E := actE) (L := A) x j (actE.enc x) rfl (by decide) rfl hx ⟨⟨_, rfl⟩, ⟨_, rfl⟩, ⟨_, rfl⟩, ⟨_, rfl⟩, ⟨_, rfl⟩, trivial⟩ (whole _) (hs.same h3.base) old ?_
    refine den_norm (by simp only [List.cons_append, List.nil_append, actE]; rfl) (den_both ?_ ?_)
    · have z23 : w2.heap.size ≤ w3.heap.size := h3.kept.size
      have sP : ∀ {ε : List Value} {w4 : World} {fs : Facts}, Shown (G0 Try.prog w) ε [] fs w3 w4 → Same w2 w4 := fun h4 => (shown_same h3).trans (shown_same h4)
      refine den_callM (fun _ y => y = b ∨ s.ownBlock = some y) (fun w4 l w5 => ∃ b' s' t', l = [pt b', t', .bool true] ∧ Pair w5 b' s' t' (actL L x.wh x.c) ∧ ∀ y, Foot b' s' t' y → Foot b s t y ∨ w4.heap.size ≤ y) (fun w4 h4 y hy _ => ?_) (fun w4 h4 => ?_) (fun w4 l w5 h4 hf' hR hk5 => ?_)
      · have hfy := hfo y (by rcases hy with hy | hy; exact .inl hy; exact .inr (.inl hy))
        refine ⟨fun _ => hfy.1, fun hlt => absurd (show y < w.heap.size from hlt) (by omega), fun hin => ?_, fun hx => by cases hx⟩
        have hly := hPl y (by rcases hy with hy | hy; exact .inl hy; exact .inr (.inl hy))
        simp [BlkIn, nth, blkOf, vaddr] at hin
        omega
      · refine (c23 b s t L x.wh x.c w4 (hP.same (sP h4)) (by omega)).mono (fun v w' ⟨b', s', t', hv, h5, h6⟩ _ => ?_) (fun _ _ h => h)
        obtain ⟨a', c', e'⟩ := h5.ref.1.slice
        exact ⟨[pt b', t', .bool true], ⟨⟨_, rfl⟩, ⟨_, _, _, e'⟩, ⟨_, rfl⟩, trivial⟩, hv, ⟨b', s', t', rfl, h5, h6⟩, trivial⟩
      obtain ⟨b', s', t', rfl, hP5, hfo5⟩ := hR
      have z45 : w4.heap.size ≤ w5.heap.size := hk5.size
      have l3 := h4.lt (i := 3) (b := b3) (by simp [keys]) rfl
      have z04 : w.heap.size ≤ w4.heap.size := h4.base.size
      have fo5 : ∀ y, Foot b' s' t' y → w.heap.size ≤ y ∧ y ≠ b3 := fun y hy => by
        rcases hfo5 y hy with h | h
        · exact hfo y h
        · exact ⟨by omega, by omega⟩
      refine den_norm (by simp only [List.cons_append, List.nil_append]; rfl) (den_blk fun b15 k15 _ k150 => den_norm (by simp only [List.cons_append, List.nil_append]; rfl) ?_)
      have z15 : w.heap.size ≤ b15 := k150
      have ne15 : ∀ y, Foot b' s' t' y → y ≠ b15 := fun y hy => by have := hP5.lt y hy; omega
      intro w6 h6
      have hP6 := hP5.kept h6.kept fun y hy hin => by simp [BlkIn, nth, blkOf, vaddr] at hin; exact ne15 y hy hin.symm
      refine ⟨fun y => w.heap.size ≤ y, fun y hy => by simp [BlkIn, nth, blkOf, vaddr] at hy; omega, ?_⟩
      intro w7 h7
      have hP7 := hP6.kept h7.kept fun y hy hin => by simp [BlkIn, nth, blkOf, vaddr] at hin; exact (fo5 y hy).2 hin.symm
      refine ⟨fun y => w.heap.size ≤ y, fun y hy => by simp [BlkIn, nth, blkOf, vaddr] at hy; omega, ?_⟩
      obtain ⟨a', ct', ht'⟩ := hP7.ref.1.slice
      have hL' : (actL L x.wh x.c).length ≤ 60 := by have := actL_length L x.wh x.c; omega
      refine den_idxD2 (E := actE) (L := A) x j [.int .i64 x.c.id] rfl (by decide) rfl hx ⟨⟨_, rfl⟩, trivial⟩ (fun m v hv => by cases m with | zero => exact hv | succ m => simp at hv) (hs.same h7.base) old (den_norm (by simp only [List.cons_append, List.nil_append]; rfl) ?_)
      refine den_call [.bool (rdB (actL L x.wh x.c) x.c.id), .int .i64 (atE (actL L x.wh x.c) x.c.id)] ⟨⟨_, rfl⟩, ⟨_, rfl⟩, trivial⟩ rfl (fun w8 h8 => ?_) (fun w8 w9 h8 h9 => den_norm (by simp only [List.cons_append, List.nil_append]; rfl) ?_)
      · exact c28 _ _ x.c.id w8 (hP7.same (shown_same h8)).ref.1 (by omega)
      have hP9 := (hP7.same (shown_same h8)).same h9
      intro w10 h10
      have hP10 := hP9.same (shown_same h10)
      refine ⟨fun y => w.heap.size ≤ y, fun y hy => by simp [BlkIn, nth, blkOf, vaddr] at hy; omega, ?_⟩
      refine den_splitNot (fun hg => by cases hg) (fun _ => ?_)
      refine den_idxD2 (E := actE) (L := A) x j [.int .i64 x.c.id] rfl (by decide) rfl hx ⟨⟨_, rfl⟩, trivial⟩ (fun m v hv => by cases m with | zero => exact hv | succ m => simp at hv) (hs.same h10.base) old (den_norm (by simp only [List.cons_append, List.nil_append]; rfl) ?_)
      refine den_call_bool (b := true) (fun w11 h11 => ?_) rfl (fun w11 w12 h11 h12 => den_norm (by simp only [List.cons_append, List.nil_append]; rfl) (den_splitNot (fun hg => by cases hg) (fun _ => ?_)))
      · exact (c18 (pt b') _ x.c.id (atE (actL L x.wh x.c) x.c.id) (rdB (actL L x.wh x.c) x.c.id) w11 (hP10.same (shown_same h11)).ord.r (by omega)).to (by simp)
      have hP12 := (hP10.same (shown_same h11)).same h12
      refine den_call_int (x := (actL L x.wh x.c).length) (fun w13 h13 => ?_) rfl (fun w13 w14 h13 h14 => den_norm (by simp only [List.cons_append, List.nil_append]; rfl) (den_splitNot (fun hg => ?_) (fun _ => ?_)))
      · exact c17 (pt b') _ w13 (hP12.same (shown_same h13)).ord.r
      · simp [BE.den, IE.den, nth, vint, ht', vlen] at hg
      have hP14 := (hP12.same (shown_same h13)).same h14
      refine den_call_bool (b := true) (fun w15 h15 => ?_) rfl (fun w15 w16 h15 h16 => den_norm (by simp only [List.cons_append, List.nil_append]; rfl) (den_splitNot (fun hg => by cases hg) (fun _ => ?_)))
      · exact c26 (pt b') _ _ many w15 (hP14.same (shown_same h15)).ord.r (hP14.same (shown_same h15)).ref.1 (by omega)
      have hP16 := (hP14.same (shown_same h15)).same h16
      refine den_ob64 (by simp only [IE.den, nth, vint]; omega) (den_leaf' fun w17 h17 => (if_pos rfl).mpr ⟨⟨j + 1, b', s', t', actL L x.wh x.c, by simp [SV.den, denL, IE.den, BE.den, nth, vint, vbool, vaddr, addO, addr_add], by omega, hP16.same (shown_same h17), by have := actL_length L x.wh x.c; omega, fo5⟩, ?_⟩)
      simp [SV.den, denL, IE.den, BE.den, nth, vint, vbool, vaddr, addO, addr_add]
      omega
    · refine den_blk fun b15 k15 _ k150 => den_norm (by simp only [List.cons_append, List.nil_append]; rfl) ?_
      have z15 : w.heap.size ≤ b15 := k150
      have z23 : w2.heap.size ≤ w3.heap.size := h3.kept.size
      have sP : ∀ {ε : List Value} {w4 : World} {fs : Facts}, Shown (G0 Try.prog w) ε [] fs w3 w4 → Same w2 w4 := fun h4 => (shown_same h3).trans (shown_same h4)
      refine den_callM (fun _ y => y = b ∨ s.ownBlock = some y) (fun w4 l w5 => ∃ b' s' t', l = [pt b', t', .bool true] ∧ Pair w5 b' s' t' (actL L x.wh x.c) ∧ ∀ y, Foot b' s' t' y → Foot b s t y ∨ w4.heap.size ≤ y) (fun w4 h4 y hy _ => ?_) (fun w4 h4 => ?_) (fun w4 l w5 h4 hf' hR hk5 => ?_)
      · have hfy := hfo y (by rcases hy with hy | hy; exact .inl hy; exact .inr (.inl hy))
        refine ⟨fun _ => hfy.1, fun hlt => absurd (show y < w.heap.size from hlt) (by omega), fun hin => ?_, fun hx => by cases hx⟩
        have hly := hPl y (by rcases hy with hy | hy; exact .inl hy; exact .inr (.inl hy))
        simp [BlkIn, nth, blkOf, vaddr] at hin
        omega
      · refine (c23 b s t L x.wh x.c w4 (hP.same (sP h4)) (by omega)).mono (fun v w' ⟨b', s', t', hv, h5, h6⟩ _ => ?_) (fun _ _ h => h)
        obtain ⟨a', c', e'⟩ := h5.ref.1.slice
        exact ⟨[pt b', t', .bool true], ⟨⟨_, rfl⟩, ⟨_, _, _, e'⟩, ⟨_, rfl⟩, trivial⟩, hv, ⟨b', s', t', rfl, h5, h6⟩, trivial⟩
      obtain ⟨b', s', t', rfl, hP5, hfo5⟩ := hR
      have z45 : w4.heap.size ≤ w5.heap.size := hk5.size
      have l3 := h4.lt (i := 3) (b := b3) (by simp [keys]) rfl
      have z04 : w.heap.size ≤ w4.heap.size := h4.base.size
      have fo5 : ∀ y, Foot b' s' t' y → w.heap.size ≤ y ∧ y ≠ b3 := fun y hy => by
        rcases hfo5 y hy with h | h
        · exact hfo y h
        · exact ⟨by omega, by omega⟩
      refine den_norm (by simp only [List.cons_append, List.nil_append]; rfl) ?_
      have l15 := h4.lt (i := 12) (b := b15) (by simp [keys]) rfl
      have ne15 : ∀ y, Foot b' s' t' y → y ≠ b15 := fun y hy => by
        rcases hfo5 y hy with h | h
        · have := hPl y h; omega
        · omega
      intro w6 h6
      have hP6 := hP5.kept h6.kept fun y hy hin => by simp [BlkIn, nth, blkOf, vaddr] at hin; exact ne15 y hy hin.symm
      refine ⟨fun y => w.heap.size ≤ y, fun y hy => by simp [BlkIn, nth, blkOf, vaddr] at hy; omega, ?_⟩
      intro w7 h7
      have hP7 := hP6.kept h7.kept fun y hy hin => by simp [BlkIn, nth, blkOf, vaddr] at hin; exact (fo5 y hy).2 hin.symm
      refine ⟨fun y => w.heap.size ≤ y, fun y hy => by simp [BlkIn, nth, blkOf, vaddr] at hy; omega, ?_⟩
      obtain ⟨a', ct', ht'⟩ := hP7.ref.1.slice
      have hL' : (actL L x.wh x.c).length ≤ 60 := by have := actL_length L x.wh x.c; omega
      refine den_idxD2 (E := actE) (L := A) x j [.int .i64 x.c.id] rfl (by decide) rfl hx ⟨⟨_, rfl⟩, trivial⟩ (fun m v hv => by cases m with | zero => exact hv | succ m => simp at hv) (hs.same h7.base) old (den_norm (by simp only [List.cons_append, List.nil_append]; rfl) ?_)
      refine den_call [.bool (rdB (actL L x.wh x.c) x.c.id), .int .i64 (atE (actL L x.wh x.c) x.c.id)] ⟨⟨_, rfl⟩, ⟨_, rfl⟩, trivial⟩ rfl (fun w8 h8 => ?_) (fun w8 w9 h8 h9 => den_norm (by simp only [List.cons_append, List.nil_append]; rfl) ?_)
      · exact c28 _ _ x.c.id w8 (hP7.same (shown_same h8)).ref.1 (by omega)
      have hP9 := (hP7.same (shown_same h8)).same h9
      intro w10 h10
      have hP10 := hP9.same (shown_same h10)
      refine ⟨fun y => w.heap.size ≤ y, fun y hy => by simp [BlkIn, nth, blkOf, vaddr] at hy; omega, ?_⟩
      refine den_splitNot (fun hg => by cases hg) (fun _ => ?_)
      refine den_idxD2 (E := actE) (L := A) x j [.int .i64 x.c.id] rfl (by decide) rfl hx ⟨⟨_, rfl⟩, trivial⟩ (fun m v hv => by cases m with | zero => exact hv | succ m => simp at hv) (hs.same h10.base) old (den_norm (by simp only [List.cons_append, List.nil_append]; rfl) ?_)
      refine den_call_bool (b := true) (fun w11 h11 => ?_) rfl (fun w11 w12 h11 h12 => den_norm (by simp only [List.cons_append, List.nil_append]; rfl) (den_splitNot (fun hg => by cases hg) (fun _ => ?_)))
      · exact (c18 (pt b') _ x.c.id (atE (actL L x.wh x.c) x.c.id) (rdB (actL L x.wh x.c) x.c.id) w11 (hP10.same (shown_same h11)).ord.r (by omega)).to (by simp)
      have hP12 := (hP10.same (shown_same h11)).same h12
      refine den_call_int (x := (actL L x.wh x.c).length) (fun w13 h13 => ?_) rfl (fun w13 w14 h13 h14 => den_norm (by simp only [List.cons_append, List.nil_append]; rfl) (den_splitNot (fun hg => ?_) (fun _ => ?_)))
      · exact c17 (pt b') _ w13 (hP12.same (shown_same h13)).ord.r
      · simp [BE.den, IE.den, nth, vint, ht', vlen] at hg
      have hP14 := (hP12.same (shown_same h13)).same h14
      refine den_call_bool (b := true) (fun w15 h15 => ?_) rfl (fun w15 w16 h15 h16 => den_norm (by simp only [List.cons_append, List.nil_append]; rfl) (den_splitNot (fun hg => by cases hg) (fun _ => ?_)))
      · exact c26 (pt b') _ _ many w15 (hP14.same (shown_same h15)).ord.r (hP14.same (shown_same h15)).ref.1 (by omega)
      have hP16 := (hP14.same (shown_same h15)).same h16
      refine den_ob64 (by simp only [IE.den, nth, vint]; omega) (den_leaf' fun w17 h17 => (if_pos rfl).mpr ⟨⟨j + 1, b', s', t', actL L x.wh x.c, by simp [SV.den, denL, IE.den, BE.den, nth, vint, vbool, vaddr, addO, addr_add], by omega, hP16.same (shown_same h17), by have := actL_length L x.wh x.c; omega, fo5⟩, ?_⟩)
      simp [SV.den, denL, IE.den, BE.den, nth, vint, vbool, vaddr, addO, addr_add]
      omega
  · exact den_call_bool (b := true) (fun w3 _ => c9 w3) rfl fun _ _ _ _ => den_leaf' fun w4 h4 => (if_neg (by decide)).mpr ⟨by simp [SV.den, denL, IE.den, BE.den, nth, vint, vbool, vaddr, addO, addr_add], h4.base⟩
end Go.Proofs.Ytfjimghpjopgoaa
