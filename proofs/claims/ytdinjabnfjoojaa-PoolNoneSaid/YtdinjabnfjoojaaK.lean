/- The examples of the chapter hold. No conditions. -/
import Derived.Test.YtdinjabnfjoojaaJ
import Derived.Test.YtdinjabnfjoojaaU
set_option maxRecDepth 100000
set_option maxHeartbeats 2000000
set_option linter.unusedVariables false
set_option linter.unusedSimpArgs false
namespace Go.Proofs.Ytdinjabnfjoojaa
open Go.Sx

theorem arr_lit {α : Type} {E : Enc α} {w : World} {p : Value} {cells : List Value} {L : List α} (h : HasBlk w p cells) (hc : cells = L.flatMap E.enc) : Arr E w (.slice (addO (vaddr p) 0) L.length L.length) L := by
  have := h.reads 0 L.length L.length E.sz (by rw [hc, flatMap_length]; omega)
  rw [List.drop_zero, hc, List.take_of_length_le (by rw [flatMap_length]; exact Nat.le_refl _)] at this
  exact this
theorem arr_none {α : Type} {E : Enc α} {w : World} : Arr E w (.slice none 0 0) ([] : List α) := ⟨⟨none, 0, rfl⟩, by simp, fun j x hx => by simp at hx⟩
theorem okB {L : List Bk} (h : (L.all fun x => decide (1 ≤ x.st) && decide (x.st ≤ 4) && decide (0 ≤ x.er) && decide (x.er ≤ 1099511627776)) = true) (hn : L.length ≠ 0) (hl : L.length ≤ 4096) : OkL L := by
  have := List.all_eq_true.1 h
  refine ⟨fun x hx => ?_, fun x hx => ?_, fun e => hn (by rw [e]; rfl), hl⟩
  · have := this x hx
    simp only [Bool.and_eq_true, decide_eq_true_eq] at this
    exact ⟨this.1.1.1, this.1.1.2⟩
  · have := this x hx
    simp only [Bool.and_eq_true, decide_eq_true_eq] at this
    exact ⟨this.1.2, this.2⟩

def S0 : List Bk := [⟨3, 1⟩, ⟨1, 1⟩, ⟨1, 1⟩]
theorem okS0 : OkL S0 := okB (by kernel_rfl) (by decide) (by decide)
def S1 : List Bk := [⟨3, 1⟩, ⟨1, 2⟩, ⟨1, 1⟩]
theorem okS1 : OkL S1 := okB (by kernel_rfl) (by decide) (by decide)
def S2 : List Bk := [⟨3, 1⟩, ⟨1, 2⟩, ⟨1, 2⟩]
theorem okS2 : OkL S2 := okB (by kernel_rfl) (by decide) (by decide)
def S3 : List Bk := [⟨3, 1⟩, ⟨1, 3⟩, ⟨1, 2⟩]
theorem okS3 : OkL S3 := okB (by kernel_rfl) (by decide) (by decide)
def S4 : List Bk := [⟨3, 1⟩, ⟨2, 1⟩, ⟨1, 2⟩]
theorem okS4 : OkL S4 := okB (by kernel_rfl) (by decide) (by decide)
def S5 : List Bk := [⟨3, 1⟩, ⟨2, 2⟩, ⟨1, 2⟩]
theorem okS5 : OkL S5 := okB (by kernel_rfl) (by decide) (by decide)
def S6 : List Bk := [⟨3, 4⟩, ⟨2, 2⟩, ⟨1, 2⟩]
theorem okS6 : OkL S6 := okB (by kernel_rfl) (by decide) (by decide)
def S7 : List Bk := [⟨9, 1⟩, ⟨2, 2⟩, ⟨1, 2⟩]
theorem okS7 : OkL S7 := okB (by kernel_rfl) (by decide) (by decide)
def S8 : List Bk := [⟨9, 2⟩, ⟨2, 2⟩, ⟨1, 2⟩]
theorem okS8 : OkL S8 := okB (by kernel_rfl) (by decide) (by decide)
theorem c8 (w : World) : Gives Try.prog 8 [] w (.bool true) := by
  refine gives mix t8 rfl rfl (ε := []) trivial (den_blk fun b0 k0 _ k00 => den_norm (by simp only [List.cons_append, List.nil_append]; rfl) ?_)
  have z0 : w.heap.size ≤ b0 := k00
  refine den_callR (fun w1 l w2 => ∃ b s, l = [pt b, .int .i64 0] ∧ PoolAt w2 b s S0 ∧ w1.heap.size ≤ b ∧ ∀ g, s.ownBlock = some g → w1.heap.size ≤ g) (fun w1 h1 => ?_) (fun w1 l w2 h1 hf hR hs => ?_)
  · refine (c9 _ [3, 1, 1] w1 (arr_lit (E := intE) (L := [3, 1, 1]) h1.facts.1 rfl) (by decide)).mono fun v w' ⟨p, hv, _, h3⟩ => ?_
    obtain ⟨b, s, rfl, hP, h4, h5⟩ := h3 (by kernel_rfl)
    exact ⟨[pt b, .int .i64 0], ⟨⟨_, rfl⟩, ⟨_, rfl⟩, trivial⟩, by rw [hv, show newE [3, 1, 1] = 0 by kernel_rfl]; rfl, b, s, rfl, hP, h4, h5⟩
  obtain ⟨b, s, rfl, hP, hb, hg⟩ := hR
  have l0 := h1.lt (i := 0) (b := b0) (by simp [keys]) rfl
  have z1 : w.heap.size ≤ w1.heap.size := h1.base.size
  have hfo : ∀ y, MP b s y → w.heap.size ≤ y ∧ y ≠ b0 := fun y hy => by
    rcases hy with rfl | hy
    · exact ⟨by omega, by omega⟩
    · have := hg y hy; exact ⟨by omega, by omega⟩
  clear h1 hs hf l0
  refine den_norm (by simp only [List.cons_append, List.nil_append]; rfl) (den_call_int (x := 0) (fun w1 h1 => ?_) rfl fun w1 w2 h1 h2 => den_norm (by simp only [List.cons_append, List.nil_append]; rfl) ?_)
  · exact c10 _ w1
  have hP := (hP.same (shown_same h1)).same h2
  clear h1 h2
  refine den_splitNot (fun e => absurd e (by simp [BE.den, IE.den, nth, vint])) (fun _ => den_split_false rfl ?_)
  refine den_callM (fun _ => MP b s) (fun _ l w' => l = [.int .i64 1, .int .i64 0] ∧ PoolAt w' b s S1) (fun w1 h1 y hy _ => ?_) (fun w1 h1 => ?_) (fun w1 l w2 h1 hf hR hk => ?_)
  · have l0 := h1.lt (i := 0) (b := b0) (by simp [keys]) rfl
    have := hfo y hy
    refine ⟨fun hd => (by cases hd), fun hlt => absurd (show y < w.heap.size from hlt) (by omega), fun hin => ?_, fun hx => (by cases hx)⟩
    simp [BlkIn, nth, blkOf, vaddr] at hin
    omega
  · have h5 := c11 b s S0  w1 (hP.same (shown_same h1)) okS0
    refine Runs.mono (M := MP b s) (R := fun v w' => v = .tuple #[.int .i64 1, .int .i64 0] ∧ PoolAt w' b s S1) ?_ (fun v w' ⟨hv, hP⟩ _ => ⟨[.int .i64 1, .int .i64 0], ⟨⟨_, rfl⟩, ⟨_, rfl⟩, trivial⟩, hv, ⟨rfl, hP⟩, trivial⟩) (fun _ _ h => h)
    rw [show takI S0 = 1 by kernel_rfl, show takE S0 = 0 by kernel_rfl, show takL S0 = S1 by kernel_rfl] at h5
    simpa [SV.den, denL, IE.den, BE.den, nth, vint, vbool, vaddr, addO, addr_add] using h5
  clear hP
  obtain ⟨rfl, hP⟩ := hR
  clear hk hf
  refine den_norm (by simp only [List.cons_append, List.nil_append]; rfl) ?_
  refine den_callM (fun _ => MP b s) (fun _ l w' => l = [.int .i64 2, .int .i64 0] ∧ PoolAt w' b s S2) (fun w1 h1 y hy _ => ?_) (fun w1 h1 => ?_) (fun w1 l w2 h1 hf hR hk => ?_)
  · have l0 := h1.lt (i := 0) (b := b0) (by simp [keys]) rfl
    have := hfo y hy
    refine ⟨fun hd => (by cases hd), fun hlt => absurd (show y < w.heap.size from hlt) (by omega), fun hin => ?_, fun hx => (by cases hx)⟩
    simp [BlkIn, nth, blkOf, vaddr] at hin
    omega
  · have h5 := c11 b s S1  w1 (hP.same (shown_same h1)) okS1
    refine Runs.mono (M := MP b s) (R := fun v w' => v = .tuple #[.int .i64 2, .int .i64 0] ∧ PoolAt w' b s S2) ?_ (fun v w' ⟨hv, hP⟩ _ => ⟨[.int .i64 2, .int .i64 0], ⟨⟨_, rfl⟩, ⟨_, rfl⟩, trivial⟩, hv, ⟨rfl, hP⟩, trivial⟩) (fun _ _ h => h)
    rw [show takI S1 = 2 by kernel_rfl, show takE S1 = 0 by kernel_rfl, show takL S1 = S2 by kernel_rfl] at h5
    simpa [SV.den, denL, IE.den, BE.den, nth, vint, vbool, vaddr, addO, addr_add] using h5
  clear hP
  obtain ⟨rfl, hP⟩ := hR
  clear hk hf
  refine den_norm (by simp only [List.cons_append, List.nil_append]; rfl) ?_
  refine den_callM (fun _ => MP b s) (fun _ l w' => l = [.int .i64 0] ∧ PoolAt w' b s S3) (fun w1 h1 y hy _ => ?_) (fun w1 h1 => ?_) (fun w1 l w2 h1 hf hR hk => ?_)
  · have l0 := h1.lt (i := 0) (b := b0) (by simp [keys]) rfl
    have := hfo y hy
    refine ⟨fun hd => (by cases hd), fun hlt => absurd (show y < w.heap.size from hlt) (by omega), fun hin => ?_, fun hx => (by cases hx)⟩
    simp [BlkIn, nth, blkOf, vaddr] at hin
    omega
  · have h5 := c21 b s S2 1 w1 (hP.same (shown_same h1)) okS2
    refine Runs.mono (M := MP b s) (R := fun v w' => v = .int .i64 0 ∧ PoolAt w' b s S3) ?_ (fun v w' ⟨hv, hP⟩ _ => ⟨[.int .i64 0], ⟨⟨_, rfl⟩, trivial⟩, hv, ⟨rfl, hP⟩, trivial⟩) (fun _ _ h => h)
    rw [show chk S2 1 (isSt 2) = 0 by kernel_rfl, show turnL S2 1 (isSt 2) 3 = S3 by kernel_rfl] at h5
    simpa [SV.den, denL, IE.den, BE.den, nth, vint, vbool, vaddr, addO, addr_add] using h5
  clear hP
  obtain ⟨rfl, hP⟩ := hR
  clear hk hf
  refine den_norm (by simp only [List.cons_append, List.nil_append]; rfl) ?_
  refine den_callM (fun _ => MP b s) (fun _ l w' => l = [.int .i64 8] ∧ PoolAt w' b s S3) (fun w1 h1 y hy _ => ?_) (fun w1 h1 => ?_) (fun w1 l w2 h1 hf hR hk => ?_)
  · have l0 := h1.lt (i := 0) (b := b0) (by simp [keys]) rfl
    have := hfo y hy
    refine ⟨fun hd => (by cases hd), fun hlt => absurd (show y < w.heap.size from hlt) (by omega), fun hin => ?_, fun hx => (by cases hx)⟩
    simp [BlkIn, nth, blkOf, vaddr] at hin
    omega
  · have h5 := c21 b s S3 1 w1 (hP.same (shown_same h1)) okS3
    refine Runs.mono (M := MP b s) (R := fun v w' => v = .int .i64 8 ∧ PoolAt w' b s S3) ?_ (fun v w' ⟨hv, hP⟩ _ => ⟨[.int .i64 8], ⟨⟨_, rfl⟩, trivial⟩, hv, ⟨rfl, hP⟩, trivial⟩) (fun _ _ h => h)
    rw [show chk S3 1 (isSt 2) = 8 by kernel_rfl, show turnL S3 1 (isSt 2) 3 = S3 by kernel_rfl] at h5
    simpa [SV.den, denL, IE.den, BE.den, nth, vint, vbool, vaddr, addO, addr_add] using h5
  clear hP
  obtain ⟨rfl, hP⟩ := hR
  clear hk hf
  refine den_norm (by simp only [List.cons_append, List.nil_append]; rfl) ?_
  refine den_call [.int .i64 1, .bool true] ⟨⟨_, rfl⟩, ⟨_, rfl⟩, trivial⟩ rfl (fun w1 h1 => ?_) fun w1 w2 h1 h2 => den_norm (by simp only [List.cons_append, List.nil_append]; rfl) ?_
  · exact (c20 (pt b) S3 w1 (hP.same (shown_same h1)).r okS3.ne (by decide)).to (by kernel_rfl)
  have hP := (hP.same (shown_same h1)).same h2
  clear h1 h2
  refine den_splitNot (fun e => absurd e (by simp [BE.den, IE.den, nth, vint, vbool])) (fun _ => ?_)
  refine den_splitNot (fun e => absurd e (by simp [BE.den, IE.den, nth, vint, vbool])) (fun _ => ?_)
  refine den_call_int (x := 0) (fun w1 h1 => ?_) rfl fun w1 w2 h1 h2 => den_norm (by simp only [List.cons_append, List.nil_append]; rfl) ?_
  · exact c10 _ w1
  have hP := (hP.same (shown_same h1)).same h2
  clear h1 h2
  refine den_call_int (x := 0) (fun w1 h1 => ?_) rfl fun w1 w2 h1 h2 => den_norm (by simp only [List.cons_append, List.nil_append]; rfl) ?_
  · exact c10 _ w1
  have hP := (hP.same (shown_same h1)).same h2
  clear h1 h2
  refine den_ob64 (by simp [IE.den, nth, vint]) ?_
  refine den_call_int (x := 0) (fun w1 h1 => ?_) rfl fun w1 w2 h1 h2 => den_norm (by simp only [List.cons_append, List.nil_append]; rfl) ?_
  · exact c10 _ w1
  have hP := (hP.same (shown_same h1)).same h2
  clear h1 h2
  refine den_ob64 (by simp [IE.den, nth, vint]) ?_
  refine den_splitNot (fun e => absurd e (by simp [BE.den, IE.den, nth, vint, vbool])) (fun _ => ?_)
  refine den_splitNot (fun e => absurd e (by simp [BE.den, IE.den, nth, vint, vbool])) (fun _ => ?_)
  refine den_splitNot (fun e => absurd e (by simp [BE.den, IE.den, nth, vint, vbool])) (fun _ => ?_)
  refine den_splitNot (fun e => absurd e (by simp [BE.den, IE.den, nth, vint, vbool])) (fun _ => ?_)
  refine den_call [.int .i64 1] ⟨⟨_, rfl⟩, trivial⟩ rfl (fun w1 h1 => ?_) fun w1 w2 h1 h2 => den_norm (by simp only [List.cons_append, List.nil_append]; rfl) ?_
  · exact (c26 b s S3 1 w1 (hP.same (shown_same h1)) okS3.ne).to (by kernel_rfl)
  have hP := (hP.same (shown_same h1)).same h2
  clear h1 h2
  refine den_splitNot (fun e => absurd e (by simp [BE.den, IE.den, nth, vint, vbool])) (fun _ => ?_)
  refine den_callM (fun _ => MP b s) (fun _ l w' => l = [.int .i64 0] ∧ PoolAt w' b s S4) (fun w1 h1 y hy _ => ?_) (fun w1 h1 => ?_) (fun w1 l w2 h1 hf hR hk => ?_)
  · have l0 := h1.lt (i := 0) (b := b0) (by simp [keys]) rfl
    have := hfo y hy
    refine ⟨fun hd => (by cases hd), fun hlt => absurd (show y < w.heap.size from hlt) (by omega), fun hin => ?_, fun hx => (by cases hx)⟩
    simp [BlkIn, nth, blkOf, vaddr] at hin
    omega
  · have h5 := c12 b s S3 1 w1 (hP.same (shown_same h1)) okS3
    refine Runs.mono (M := MP b s) (R := fun v w' => v = .int .i64 0 ∧ PoolAt w' b s S4) ?_ (fun v w' ⟨hv, hP⟩ _ => ⟨[.int .i64 0], ⟨⟨_, rfl⟩, trivial⟩, hv, ⟨rfl, hP⟩, trivial⟩) (fun _ _ h => h)
    rw [show chk S3 1 rels = 0 by kernel_rfl, show relL S3 1 = S4 by kernel_rfl] at h5
    simpa [SV.den, denL, IE.den, BE.den, nth, vint, vbool, vaddr, addO, addr_add] using h5
  clear hP
  obtain ⟨rfl, hP⟩ := hR
  clear hk hf
  refine den_norm (by simp only [List.cons_append, List.nil_append]; rfl) ?_
  refine den_call_int (x := 0) (fun w1 h1 => ?_) rfl fun w1 w2 h1 h2 => den_norm (by simp only [List.cons_append, List.nil_append]; rfl) ?_
  · exact c10 _ w1
  have hP := (hP.same (shown_same h1)).same h2
  clear h1 h2
  refine den_splitNot (fun e => absurd e (by simp [BE.den, IE.den, nth, vint, vbool])) (fun _ => ?_)
  refine den_callM (fun _ => MP b s) (fun _ l w' => l = [.int .i64 1, .int .i64 0] ∧ PoolAt w' b s S5) (fun w1 h1 y hy _ => ?_) (fun w1 h1 => ?_) (fun w1 l w2 h1 hf hR hk => ?_)
  · have l0 := h1.lt (i := 0) (b := b0) (by simp [keys]) rfl
    have := hfo y hy
    refine ⟨fun hd => (by cases hd), fun hlt => absurd (show y < w.heap.size from hlt) (by omega), fun hin => ?_, fun hx => (by cases hx)⟩
    simp [BlkIn, nth, blkOf, vaddr] at hin
    omega
  · have h5 := c11 b s S4  w1 (hP.same (shown_same h1)) okS4
    refine Runs.mono (M := MP b s) (R := fun v w' => v = .tuple #[.int .i64 1, .int .i64 0] ∧ PoolAt w' b s S5) ?_ (fun v w' ⟨hv, hP⟩ _ => ⟨[.int .i64 1, .int .i64 0], ⟨⟨_, rfl⟩, ⟨_, rfl⟩, trivial⟩, hv, ⟨rfl, hP⟩, trivial⟩) (fun _ _ h => h)
    rw [show takI S4 = 1 by kernel_rfl, show takE S4 = 0 by kernel_rfl, show takL S4 = S5 by kernel_rfl] at h5
    simpa [SV.den, denL, IE.den, BE.den, nth, vint, vbool, vaddr, addO, addr_add] using h5
  clear hP
  obtain ⟨rfl, hP⟩ := hR
  clear hk hf
  refine den_norm (by simp only [List.cons_append, List.nil_append]; rfl) ?_
  refine den_call [.int .i64 1, .int .i64 3] ⟨⟨_, rfl⟩, ⟨_, rfl⟩, trivial⟩ rfl (fun w1 h1 => ?_) fun w1 w2 h1 h2 => den_norm (by simp only [List.cons_append, List.nil_append]; rfl) ?_
  · exact (c13 (pt b) S5 w1 (hP.same (shown_same h1)).r okS5.ne (by decide)).to (by kernel_rfl)
  have hP := (hP.same (shown_same h1)).same h2
  clear h1 h2
  refine den_splitNot (fun e => absurd e (by simp [BE.den, IE.den, nth, vint, vbool])) (fun _ => ?_)
  refine den_call_int (x := 0) (fun w1 h1 => ?_) rfl fun w1 w2 h1 h2 => den_norm (by simp only [List.cons_append, List.nil_append]; rfl) ?_
  · exact c10 _ w1
  have hP := (hP.same (shown_same h1)).same h2
  clear h1 h2
  refine den_splitNot (fun e => absurd e (by simp [BE.den, IE.den, nth, vint, vbool])) (fun _ => ?_)
  refine den_call [.int .i64 2] ⟨⟨_, rfl⟩, trivial⟩ rfl (fun w1 h1 => ?_) fun w1 w2 h1 h2 => den_norm (by simp only [List.cons_append, List.nil_append]; rfl) ?_
  · exact (c25 (pt b) S5 1 w1 (hP.same (shown_same h1)).r).to (by kernel_rfl)
  have hP := (hP.same (shown_same h1)).same h2
  clear h1 h2
  refine den_splitNot (fun e => absurd e (by simp [BE.den, IE.den, nth, vint, vbool])) (fun _ => ?_)
  refine den_splitNot (fun e => absurd e (by simp [BE.den, IE.den, nth, vint, vbool])) (fun _ => ?_)
  refine den_splitNot (fun e => absurd e (by simp [BE.den, IE.den, nth, vint, vbool])) (fun _ => ?_)
  refine den_callM (fun _ => MP b s) (fun _ l w' => l = [.int .i64 0] ∧ PoolAt w' b s S6) (fun w1 h1 y hy _ => ?_) (fun w1 h1 => ?_) (fun w1 l w2 h1 hf hR hk => ?_)
  · have l0 := h1.lt (i := 0) (b := b0) (by simp [keys]) rfl
    have := hfo y hy
    refine ⟨fun hd => (by cases hd), fun hlt => absurd (show y < w.heap.size from hlt) (by omega), fun hin => ?_, fun hx => (by cases hx)⟩
    simp [BlkIn, nth, blkOf, vaddr] at hin
    omega
  · have h5 := c22 b s S5 0 w1 (hP.same (shown_same h1)) okS5
    refine Runs.mono (M := MP b s) (R := fun v w' => v = .int .i64 0 ∧ PoolAt w' b s S6) ?_ (fun v w' ⟨hv, hP⟩ _ => ⟨[.int .i64 0], ⟨⟨_, rfl⟩, trivial⟩, hv, ⟨rfl, hP⟩, trivial⟩) (fun _ _ h => h)
    rw [show chk S5 0 good = 0 by kernel_rfl, show turnL S5 0 good 4 = S6 by kernel_rfl] at h5
    simpa [SV.den, denL, IE.den, BE.den, nth, vint, vbool, vaddr, addO, addr_add] using h5
  clear hP
  obtain ⟨rfl, hP⟩ := hR
  clear hk hf
  refine den_norm (by simp only [List.cons_append, List.nil_append]; rfl) ?_
  refine den_call_int (x := 0) (fun w1 h1 => ?_) rfl fun w1 w2 h1 h2 => den_norm (by simp only [List.cons_append, List.nil_append]; rfl) ?_
  · exact c10 _ w1
  have hP := (hP.same (shown_same h1)).same h2
  clear h1 h2
  refine den_splitNot (fun e => absurd e (by simp [BE.den, IE.den, nth, vint, vbool])) (fun _ => ?_)
  refine den_callM (fun _ => MP b s) (fun _ l w' => l = [.int .i64 8] ∧ PoolAt w' b s S6) (fun w1 h1 y hy _ => ?_) (fun w1 h1 => ?_) (fun w1 l w2 h1 hf hR hk => ?_)
  · have l0 := h1.lt (i := 0) (b := b0) (by simp [keys]) rfl
    have := hfo y hy
    refine ⟨fun hd => (by cases hd), fun hlt => absurd (show y < w.heap.size from hlt) (by omega), fun hin => ?_, fun hx => (by cases hx)⟩
    simp [BlkIn, nth, blkOf, vaddr] at hin
    omega
  · have h5 := c22 b s S6 0 w1 (hP.same (shown_same h1)) okS6
    refine Runs.mono (M := MP b s) (R := fun v w' => v = .int .i64 8 ∧ PoolAt w' b s S6) ?_ (fun v w' ⟨hv, hP⟩ _ => ⟨[.int .i64 8], ⟨⟨_, rfl⟩, trivial⟩, hv, ⟨rfl, hP⟩, trivial⟩) (fun _ _ h => h)
    rw [show chk S6 0 good = 8 by kernel_rfl, show turnL S6 0 good 4 = S6 by kernel_rfl] at h5
    simpa [SV.den, denL, IE.den, BE.den, nth, vint, vbool, vaddr, addO, addr_add] using h5
  clear hP
  obtain ⟨rfl, hP⟩ := hR
  clear hk hf
  refine den_norm (by simp only [List.cons_append, List.nil_append]; rfl) ?_
  refine den_splitNot (fun e => absurd e (by simp [BE.den, IE.den, nth, vint, vbool])) (fun _ => ?_)
  refine den_callM (fun _ => MP b s) (fun _ l w' => l = [.int .i64 0, .int .i64 9] ∧ PoolAt w' b s S6) (fun w1 h1 y hy _ => ?_) (fun w1 h1 => ?_) (fun w1 l w2 h1 hf hR hk => ?_)
  · have l0 := h1.lt (i := 0) (b := b0) (by simp [keys]) rfl
    have := hfo y hy
    refine ⟨fun hd => (by cases hd), fun hlt => absurd (show y < w.heap.size from hlt) (by omega), fun hin => ?_, fun hx => (by cases hx)⟩
    simp [BlkIn, nth, blkOf, vaddr] at hin
    omega
  · have h5 := c11 b s S6  w1 (hP.same (shown_same h1)) okS6
    refine Runs.mono (M := MP b s) (R := fun v w' => v = .tuple #[.int .i64 0, .int .i64 9] ∧ PoolAt w' b s S6) ?_ (fun v w' ⟨hv, hP⟩ _ => ⟨[.int .i64 0, .int .i64 9], ⟨⟨_, rfl⟩, ⟨_, rfl⟩, trivial⟩, hv, ⟨rfl, hP⟩, trivial⟩) (fun _ _ h => h)
    rw [show takI S6 = 0 by kernel_rfl, show takE S6 = 9 by kernel_rfl, show takL S6 = S6 by kernel_rfl] at h5
    simpa [SV.den, denL, IE.den, BE.den, nth, vint, vbool, vaddr, addO, addr_add] using h5
  clear hP
  obtain ⟨rfl, hP⟩ := hR
  clear hk hf
  refine den_norm (by simp only [List.cons_append, List.nil_append]; rfl) ?_
  refine den_callM (fun _ => MP b s) (fun _ l w' => l = [.int .i64 8] ∧ PoolAt w' b s S6) (fun w1 h1 y hy _ => ?_) (fun w1 h1 => ?_) (fun w1 l w2 h1 hf hR hk => ?_)
  · have l0 := h1.lt (i := 0) (b := b0) (by simp [keys]) rfl
    have := hfo y hy
    refine ⟨fun hd => (by cases hd), fun hlt => absurd (show y < w.heap.size from hlt) (by omega), fun hin => ?_, fun hx => (by cases hx)⟩
    simp [BlkIn, nth, blkOf, vaddr] at hin
    omega
  · have h5 := c12 b s S6 0 w1 (hP.same (shown_same h1)) okS6
    refine Runs.mono (M := MP b s) (R := fun v w' => v = .int .i64 8 ∧ PoolAt w' b s S6) ?_ (fun v w' ⟨hv, hP⟩ _ => ⟨[.int .i64 8], ⟨⟨_, rfl⟩, trivial⟩, hv, ⟨rfl, hP⟩, trivial⟩) (fun _ _ h => h)
    rw [show chk S6 0 rels = 8 by kernel_rfl, show relL S6 0 = S6 by kernel_rfl] at h5
    simpa [SV.den, denL, IE.den, BE.den, nth, vint, vbool, vaddr, addO, addr_add] using h5
  clear hP
  obtain ⟨rfl, hP⟩ := hR
  clear hk hf
  refine den_norm (by simp only [List.cons_append, List.nil_append]; rfl) ?_
  refine den_callM (fun _ => MP b s) (fun _ l w' => l = [.int .i64 3] ∧ PoolAt w' b s S6) (fun w1 h1 y hy _ => ?_) (fun w1 h1 => ?_) (fun w1 l w2 h1 hf hR hk => ?_)
  · have l0 := h1.lt (i := 0) (b := b0) (by simp [keys]) rfl
    have := hfo y hy
    refine ⟨fun hd => (by cases hd), fun hlt => absurd (show y < w.heap.size from hlt) (by omega), fun hin => ?_, fun hx => (by cases hx)⟩
    simp [BlkIn, nth, blkOf, vaddr] at hin
    omega
  · have h5 := c12 b s S6 3 w1 (hP.same (shown_same h1)) okS6
    refine Runs.mono (M := MP b s) (R := fun v w' => v = .int .i64 3 ∧ PoolAt w' b s S6) ?_ (fun v w' ⟨hv, hP⟩ _ => ⟨[.int .i64 3], ⟨⟨_, rfl⟩, trivial⟩, hv, ⟨rfl, hP⟩, trivial⟩) (fun _ _ h => h)
    rw [show chk S6 3 rels = 3 by kernel_rfl, show relL S6 3 = S6 by kernel_rfl] at h5
    simpa [SV.den, denL, IE.den, BE.den, nth, vint, vbool, vaddr, addO, addr_add] using h5
  clear hP
  obtain ⟨rfl, hP⟩ := hR
  clear hk hf
  refine den_norm (by simp only [List.cons_append, List.nil_append]; rfl) ?_
  refine den_callM (fun _ => MP b s) (fun _ l w' => l = [.int .i64 0] ∧ PoolAt w' b s S7) (fun w1 h1 y hy _ => ?_) (fun w1 h1 => ?_) (fun w1 l w2 h1 hf hR hk => ?_)
  · have l0 := h1.lt (i := 0) (b := b0) (by simp [keys]) rfl
    have := hfo y hy
    refine ⟨fun hd => (by cases hd), fun hlt => absurd (show y < w.heap.size from hlt) (by omega), fun hin => ?_, fun hx => (by cases hx)⟩
    simp [BlkIn, nth, blkOf, vaddr] at hin
    omega
  · have h5 := c23 b s S6 0 1 9 w1 (hP.same (shown_same h1)) okS6
    refine Runs.mono (M := MP b s) (R := fun v w' => v = .int .i64 0 ∧ PoolAt w' b s S7) ?_ (fun v w' ⟨hv, hP⟩ _ => ⟨[.int .i64 0], ⟨⟨_, rfl⟩, trivial⟩, hv, ⟨rfl, hP⟩, trivial⟩) (fun _ _ h => h)
    rw [show setE S6 0 1 9 = 0 by kernel_rfl, show setL S6 0 1 9 = S7 by kernel_rfl] at h5
    simpa [SV.den, denL, IE.den, BE.den, nth, vint, vbool, vaddr, addO, addr_add] using h5
  clear hP
  obtain ⟨rfl, hP⟩ := hR
  clear hk hf
  refine den_norm (by simp only [List.cons_append, List.nil_append]; rfl) ?_
  refine den_callM (fun _ => MP b s) (fun _ l w' => l = [.int .i64 0, .int .i64 0] ∧ PoolAt w' b s S8) (fun w1 h1 y hy _ => ?_) (fun w1 h1 => ?_) (fun w1 l w2 h1 hf hR hk => ?_)
  · have l0 := h1.lt (i := 0) (b := b0) (by simp [keys]) rfl
    have := hfo y hy
    refine ⟨fun hd => (by cases hd), fun hlt => absurd (show y < w.heap.size from hlt) (by omega), fun hin => ?_, fun hx => (by cases hx)⟩
    simp [BlkIn, nth, blkOf, vaddr] at hin
    omega
  · have h5 := c11 b s S7  w1 (hP.same (shown_same h1)) okS7
    refine Runs.mono (M := MP b s) (R := fun v w' => v = .tuple #[.int .i64 0, .int .i64 0] ∧ PoolAt w' b s S8) ?_ (fun v w' ⟨hv, hP⟩ _ => ⟨[.int .i64 0, .int .i64 0], ⟨⟨_, rfl⟩, ⟨_, rfl⟩, trivial⟩, hv, ⟨rfl, hP⟩, trivial⟩) (fun _ _ h => h)
    rw [show takI S7 = 0 by kernel_rfl, show takE S7 = 0 by kernel_rfl, show takL S7 = S8 by kernel_rfl] at h5
    simpa [SV.den, denL, IE.den, BE.den, nth, vint, vbool, vaddr, addO, addr_add] using h5
  clear hP
  obtain ⟨rfl, hP⟩ := hR
  clear hk hf
  refine den_norm (by simp only [List.cons_append, List.nil_append]; rfl) ?_
  refine den_callR (fun w1 l w2 => ∃ p, l = [p, .int .i64 2]) (fun w1 h1 => ?_) (fun w1 l w2 h1 hf hR hs => ?_)
  · refine (c9 _ [] w1 arr_none (by decide)).mono fun v w' ⟨p, hv, h3, _⟩ => ?_
    have hp := h3 (by decide +kernel)
    subst hp
    exact ⟨[.pointer none, .int .i64 2], ⟨⟨_, rfl⟩, ⟨_, rfl⟩, trivial⟩, hv, _, rfl⟩
  obtain ⟨p, rfl⟩ := hR
  refine den_norm (by simp only [List.cons_append, List.nil_append]; rfl) (den_split_true (by simp [BE.den, IE.den, nth, vint]) (den_split_true (by simp [BE.den, IE.den, nth, vint]) (den_split_true (by simp [BE.den, IE.den, nth, vint]) ?_)))
  refine den_call_int (x := 0) (fun w1 h1 => ?_) rfl fun w1 w2 h1 h2 => den_norm (by simp only [List.cons_append, List.nil_append]; rfl) ?_
  · exact c10 _ w1
  refine den_call_int (x := 0) (fun w1 h1 => ?_) rfl fun w1 w2 h1 h2 => den_norm (by simp only [List.cons_append, List.nil_append]; rfl) ?_
  · exact c10 _ w1
  exact den_ob64 (by simp [IE.den, nth, vint]) (den_split_true (by simp [BE.den, IE.den, nth, vint]) (den_split_true (by simp [BE.den, IE.den, nth, vint]) (den_leaf (by simp [SV.den, denL, IE.den, BE.den, nth, vint, vbool, vaddr, addO, addr_add, eqB_eq]))))
end Go.Proofs.Ytdinjabnfjoojaa
