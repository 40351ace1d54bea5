/- What the methods that change a pool do. No conditions beyond those that each theorem names. -/
import Derived.Test.YtdinjabnfjoojaaD
set_option maxRecDepth 100000
set_option maxHeartbeats 1000000
set_option linter.unusedVariables false
set_option linter.unusedSimpArgs false
namespace Go.Proofs.Ytdinjabnfjoojaa
open Go.Sx

def chk (L : List Bk) (i : Int) (p : Bk → Bool) : Int := if hasB L i = false then 3 else if p (bkAt L i) = false then 8 else 0
theorem chk_ok {L : List Bk} {i : Int} {p : Bk → Bool} (h : chk L i p = 0) : ∃ (j : Nat) (x : Bk), i = j ∧ L[j]? = some x ∧ bkAt L i = x ∧ p x = true := by
  unfold chk at h
  split at h
  · cases h
  · rename_i h1
    split at h
    · cases h
    · rename_i h2
      obtain ⟨j, x, rfl, hx⟩ := hasB_some (show hasB L i = true by simpa using h1)
      have := bkAt_some hx
      rw [this] at h2
      exact ⟨j, x, rfl, hx, this, by simpa using h2⟩
theorem c33 (p : Value) (L : List Bk) (i : Int) (q : Bk → Bool) (g : Nat) (w : World) (hO : PoolR w p L) (hL : L ≠ []) (hg : goFunc Try.prog g = true) (hq : ∀ x w', Gives Try.prog g [bkV x] w' (.bool (q x))) :
    Gives Try.prog 33 [p, .int .i64 i, .func (.func g) #[] #[]] w (.int .i64 (chk L i q)) := by
  obtain ⟨s, ho, hs⟩ := id hO
  obtain ⟨a, c, rfl⟩ := hs.slice
  obtain ⟨bo, rfl, hbo⟩ := ho.at_
  refine gives mix t33 rfl rfl (ε := [pt bo, .int .i64 i, .func (.func g) #[] #[]]) ⟨⟨_, rfl⟩, ⟨_, rfl⟩, rfl, trivial⟩ ?_
  refine den_call_bool (b := false) (fun w1 h1 => c30no (pt bo) L w1 (hO.same h1.base) hL) rfl fun w1 w2 h1 h2 => den_norm (by simp only [List.cons_append, List.nil_append]; rfl) (den_split_false rfl ?_)
  refine den_call_bool (b := hasB L i) (fun w1 h1 => c50 (pt bo) L i w1 (hO.same h1.base)) rfl fun w3 w4 h3 h4 => den_norm (by simp only [List.cons_append, List.nil_append]; rfl) (den_splitNot (fun h5 => den_leaf ?_) (fun h5 => ?_))
  · have h5' : hasB L i = false := h5
    simp [SV.den, denL, IE.den, BE.den, nth, vint, vbool, vaddr, addO, addr_add, chk, h5']
  have h5' : hasB L i = true := h5
  obtain ⟨j, x, rfl, hx⟩ := hasB_some h5'
  have hbk := bkAt_some hx
  refine den_notnil (i := 0) ho ?_
  refine den_ldp [.slice a L.length c] (.slice a L.length c :: cnV L) ⟨⟨_, _, _, rfl⟩, trivial⟩ (fun m v hv => by cases m with | zero => exact hv | succ m => simp at hv) (fun w1 h1 => ho.same h1.base) (fun _ _ => by simp [BlkIn]) fun w5 h6 => den_norm (by simp only [List.cons_append, List.nil_append]; rfl) ?_
  refine den_idx2 (E := blkE) (L := L) x j (blkE.enc x) hs rfl (by decide) rfl hx ⟨⟨_, rfl⟩, ⟨_, rfl⟩, trivial⟩ (whole _) (fun w h => hs.same h.base) (fun _ _ => by simp [BlkIn]) (fun w6 h7 => den_norm (by simp only [List.cons_append, List.nil_append, blkE]; rfl) ?_)
  refine den_callF (caps := []) rfl rfl hg (fun _ _ => False) (fun _ l _ => l = [.bool (q x)]) (fun _ _ _ h => h.elim) (fun w7 h8 => ?_) (fun w7 l w8 h8 _ hl hk8 => ?_)
  · refine ((hq x w7).toR.runs).mono (fun v w' hv _ => ⟨[.bool (q x)], ⟨⟨_, rfl⟩, trivial⟩, ?_, rfl⟩) (fun _ _ h => h)
    rw [hv]; rfl
  subst hl
  refine den_norm (by simp only [List.cons_append, List.nil_append]; rfl) (den_splitNot (fun h9 => den_leaf ?_) (fun h9 => den_leaf ?_))
  · have h9' : q x = false := h9
    simp [SV.den, denL, IE.den, BE.den, nth, vint, vbool, vaddr, addO, addr_add, chk, h5', hbk, h9']
  · have h9' : q x = true := h9
    simp [SV.den, denL, IE.den, BE.den, nth, vint, vbool, vaddr, addO, addr_add, chk, h5', hbk, h9']

abbrev MP (b : Nat) (s : Value) : Nat → Prop := fun y => y = b ∨ s.ownBlock = some y
theorem fpP {w w' : World} {b : Nat} {s : Value} {X : Nat → Prop} {ε : List Value} {y : Nat} (hy : MP b s y) : FpOk (GM Try.prog w (MP b s) false) false X ε [] w' y :=
  ⟨fun hd => (by cases hd), fun _ => hy, fun hin => by simp [BlkIn] at hin, fun hx => (by cases hx)⟩
theorem pfacts {w : World} {b : Nat} {s : Value} {L : List Bk} (h : PoolAt w b s L) : ∃ a c, s = .slice a L.length c := h.mine.slice
def turnL (L : List Bk) (i : Int) (p : Bk → Bool) (st : Int) : List Bk := if chk L i p = 0 then L.set i.toNat ⟨(bkAt L i).er, st⟩ else L

theorem c21 (b : Nat) (s : Value) (L : List Bk) (i : Int) (w : World) (h : PoolAt w b s L) (hok : OkL L) :
    Runs Try.prog 21 [pt b, .int .i64 i] w (MP b s) (fun v w' => v = .int .i64 (chk L i (isSt 2)) ∧ PoolAt w' b s (turnL L i (isSt 2) 3)) := by
  have h0 := runs mix t21 rfl rfl (ε := [pt b, s, .int .i64 0, .int .i64 (cn L 1), .int .i64 (cn L 2), .int .i64 (cn L 3), .int .i64 (cn L 4), .int .i64 i]) (w := w) (M := MP b s) (R := fun v w' => v = .int .i64 (chk L i (isSt 2)) ∧ PoolAt w' b s (turnL L i (isSt 2) 3)) (h.fits (l := [.int .i64 i]) ⟨⟨_, rfl⟩, trivial⟩) ⟨h.blk, trivial⟩ (by simp [keys]) (by simp [keys]) (by simp [keys, nth, blkOf, vaddr, MP]) ?_
  · simpa [SV.den, denL, IE.den, BE.den, nth, vint, vbool, vaddr, addO, addr_add] using h0
  refine den_call_int (x := chk L i (isSt 2)) (fun w1 h1 => ?_) rfl (fun w1 w2 h1 h2 => den_norm (by simp only [List.cons_append, List.nil_append]; rfl) (den_splitEq (fun e => ?_) (fun e => den_leafA _ rfl fun w3 h3 => ⟨rfl, ?_⟩)))
  · have := c33 (pt b) L i (isSt 2) 49 w1 (h.same (shown_same h1)).r hok.ne go49 c49
    simpa [SV.den, denL, IE.den, BE.den, nth, vint, vbool, vaddr, addO, addr_add] using this
  · have e' : chk L i (isSt 2) = 0 := e
    obtain ⟨j, x, rfl, hx, hbk, hp⟩ := chk_ok e'
    have s2 : Same w w2 := (shown_same h1).trans h2
    have hL : turnL L j (isSt 2) 3 = L.set j ⟨x.er, 3⟩ := by simp [turnL, e', hbk]
    rw [hL]
    refine den_callM (fun _ => MP b s) (fun w3 l w4 => l = s :: cnV (L.set j ⟨x.er, 3⟩) ∧ PoolAt w4 b s (L.set j ⟨x.er, 3⟩)) (fun w3 h3 y hy _ => fpP hy) (fun w3 h3 => ?_) (fun w3 l w4 h3 hf hR hk4 => ?_)
    · refine Runs.mono (M := MP b s) (R := fun v w' => v = .tuple #[] ∧ PoolAt w' b s (L.set j ⟨x.er, 3⟩)) (by simpa [SV.den, denL, IE.den, BE.den, nth, vint, vbool, vaddr, addO, addr_add] using c32 b s L j x 3 w3 (h.same (s2.trans (shown_same h3))) hok hx ⟨by decide, by decide⟩) (fun v w' ⟨hv, hP⟩ _ => ?_) (fun _ _ h => h)
      obtain ⟨a, c, hsl⟩ := hP.mine.slice
      exact ⟨s :: cnV (L.set j ⟨x.er, 3⟩), ⟨⟨_, _, _, hsl⟩, ⟨_, rfl⟩, ⟨_, rfl⟩, ⟨_, rfl⟩, ⟨_, rfl⟩, ⟨_, rfl⟩, trivial⟩, hv, ⟨rfl, hP⟩, by simpa [cnV, SV.den, denL, IE.den, BE.den, nth, vint, vbool, vaddr, addO, addr_add] using hP.blk, trivial⟩
    · obtain ⟨rfl, hP⟩ := hR
      exact den_norm (by simp only [List.cons_append, List.nil_append, cnV]; rfl) (den_leafA _ rfl fun w5 h5 => ⟨rfl, hP.same (shown_same h5)⟩)
  · have e' : chk L i (isSt 2) ≠ 0 := e
    have hL : turnL L i (isSt 2) 3 = L := by simp [turnL, e']
    rw [hL]
    exact h.same (((shown_same h1).trans h2).trans (shown_same h3))

theorem c22 (b : Nat) (s : Value) (L : List Bk) (i : Int) (w : World) (h : PoolAt w b s L) (hok : OkL L) :
    Runs Try.prog 22 [pt b, .int .i64 i] w (MP b s) (fun v w' => v = .int .i64 (chk L i (good)) ∧ PoolAt w' b s (turnL L i (good) 4)) := by
  have h0 := runs mix t22 rfl rfl (ε := [pt b, s, .int .i64 0, .int .i64 (cn L 1), .int .i64 (cn L 2), .int .i64 (cn L 3), .int .i64 (cn L 4), .int .i64 i]) (w := w) (M := MP b s) (R := fun v w' => v = .int .i64 (chk L i (good)) ∧ PoolAt w' b s (turnL L i (good) 4)) (h.fits (l := [.int .i64 i]) ⟨⟨_, rfl⟩, trivial⟩) ⟨h.blk, trivial⟩ (by simp [keys]) (by simp [keys]) (by simp [keys, nth, blkOf, vaddr, MP]) ?_
  · simpa [SV.den, denL, IE.den, BE.den, nth, vint, vbool, vaddr, addO, addr_add] using h0
  refine den_call_int (x := chk L i (good)) (fun w1 h1 => ?_) rfl (fun w1 w2 h1 h2 => den_norm (by simp only [List.cons_append, List.nil_append]; rfl) (den_splitEq (fun e => ?_) (fun e => den_leafA _ rfl fun w3 h3 => ⟨rfl, ?_⟩)))
  · have := c33 (pt b) L i (good) 36 w1 (h.same (shown_same h1)).r hok.ne go36 c36
    simpa [SV.den, denL, IE.den, BE.den, nth, vint, vbool, vaddr, addO, addr_add] using this
  · have e' : chk L i (good) = 0 := e
    obtain ⟨j, x, rfl, hx, hbk, hp⟩ := chk_ok e'
    have s2 : Same w w2 := (shown_same h1).trans h2
    have hL : turnL L j (good) 4 = L.set j ⟨x.er, 4⟩ := by simp [turnL, e', hbk]
    rw [hL]
    refine den_callM (fun _ => MP b s) (fun w3 l w4 => l = s :: cnV (L.set j ⟨x.er, 4⟩) ∧ PoolAt w4 b s (L.set j ⟨x.er, 4⟩)) (fun w3 h3 y hy _ => fpP hy) (fun w3 h3 => ?_) (fun w3 l w4 h3 hf hR hk4 => ?_)
    · refine Runs.mono (M := MP b s) (R := fun v w' => v = .tuple #[] ∧ PoolAt w' b s (L.set j ⟨x.er, 4⟩)) (by simpa [SV.den, denL, IE.den, BE.den, nth, vint, vbool, vaddr, addO, addr_add] using c32 b s L j x 4 w3 (h.same (s2.trans (shown_same h3))) hok hx ⟨by decide, by decide⟩) (fun v w' ⟨hv, hP⟩ _ => ?_) (fun _ _ h => h)
      obtain ⟨a, c, hsl⟩ := hP.mine.slice
      exact ⟨s :: cnV (L.set j ⟨x.er, 4⟩), ⟨⟨_, _, _, hsl⟩, ⟨_, rfl⟩, ⟨_, rfl⟩, ⟨_, rfl⟩, ⟨_, rfl⟩, ⟨_, rfl⟩, trivial⟩, hv, ⟨rfl, hP⟩, by simpa [cnV, SV.den, denL, IE.den, BE.den, nth, vint, vbool, vaddr, addO, addr_add] using hP.blk, trivial⟩
    · obtain ⟨rfl, hP⟩ := hR
      exact den_norm (by simp only [List.cons_append, List.nil_append, cnV]; rfl) (den_leafA _ rfl fun w5 h5 => ⟨rfl, hP.same (shown_same h5)⟩)
  · have e' : chk L i (good) ≠ 0 := e
    have hL : turnL L i (good) 4 = L := by simp [turnL, e']
    rw [hL]
    exact h.same (((shown_same h1).trans h2).trans (shown_same h3))

/-- Release(i) -/
def relL (L : List Bk) (i : Int) : List Bk := if chk L i rels = 0 then L.set i.toNat ⟨(bkAt L i).er + 1, 1⟩ else L
theorem c12 (b : Nat) (s : Value) (L : List Bk) (i : Int) (w : World) (h : PoolAt w b s L) (hok : OkL L) :
    Runs Try.prog 12 [pt b, .int .i64 i] w (MP b s) (fun v w' => v = .int .i64 (chk L i rels) ∧ PoolAt w' b s (relL L i)) := by
  have h0 := runs mix t12 rfl rfl (ε := [pt b, s, .int .i64 0, .int .i64 (cn L 1), .int .i64 (cn L 2), .int .i64 (cn L 3), .int .i64 (cn L 4), .int .i64 i]) (w := w) (M := MP b s) (R := fun v w' => v = .int .i64 (chk L i rels) ∧ PoolAt w' b s (relL L i)) (h.fits (l := [.int .i64 i]) ⟨⟨_, rfl⟩, trivial⟩) ⟨h.blk, trivial⟩ (by simp [keys]) (by simp [keys]) (by simp [keys, nth, blkOf, vaddr, MP]) ?_
  · simpa [SV.den, denL, IE.den, BE.den, nth, vint, vbool, vaddr, addO, addr_add] using h0
  refine den_call_int (x := chk L i rels) (fun w1 h1 => ?_) rfl (fun w1 w2 h1 h2 => den_norm (by simp only [List.cons_append, List.nil_append]; rfl) (den_splitEq (fun e => ?_) (fun e => den_leafA _ rfl fun w3 h3 => ⟨rfl, ?_⟩)))
  · have := c33 (pt b) L i rels 34 w1 (h.same (shown_same h1)).r hok.ne go34 c34
    simpa [SV.den, denL, IE.den, BE.den, nth, vint, vbool, vaddr, addO, addr_add] using this
  · have e' : chk L i rels = 0 := e
    obtain ⟨j, x, rfl, hx, hbk, hp⟩ := chk_ok e'
    have s2 : Same w w2 := (shown_same h1).trans h2
    have hL : relL L j = (L.set j ⟨x.er, 1⟩).set j ⟨x.er + 1, 1⟩ := by simp [relL, e', hbk]
    have hx2 : (L.set j ⟨x.er, 1⟩)[j]? = some ⟨x.er, 1⟩ := by simp [(List.getElem?_eq_some_iff.1 hx).1]
    have hxe := hok.er x (List.mem_of_getElem? hx)
    have hxr : x.er < 1099511627776 := by simp [rels] at hp; exact hp.2
    have hil := (List.getElem?_eq_some_iff.1 hx).1
    rw [hL]
    refine den_callM (fun _ => MP b s) (fun w3 l w4 => l = s :: cnV (L.set j ⟨x.er, 1⟩) ∧ PoolAt w4 b s (L.set j ⟨x.er, 1⟩)) (fun w3 h3 y hy _ => fpP hy) (fun w3 h3 => ?_) (fun w3 l w4 h3 hf hR hk4 => ?_)
    · refine Runs.mono (M := MP b s) (R := fun v w' => v = .tuple #[] ∧ PoolAt w' b s (L.set j ⟨x.er, 1⟩)) (by simpa [SV.den, denL, IE.den, BE.den, nth, vint, vbool, vaddr, addO, addr_add] using c32 b s L j x 1 w3 (h.same (s2.trans (shown_same h3))) hok hx ⟨by decide, by decide⟩) (fun v w' ⟨hv, hP⟩ _ => ?_) (fun _ _ h => h)
      obtain ⟨a, c, hsl⟩ := hP.mine.slice
      exact ⟨s :: cnV (L.set j ⟨x.er, 1⟩), ⟨⟨_, _, _, hsl⟩, ⟨_, rfl⟩, ⟨_, rfl⟩, ⟨_, rfl⟩, ⟨_, rfl⟩, ⟨_, rfl⟩, trivial⟩, hv, ⟨rfl, hP⟩, by simpa [cnV, SV.den, denL, IE.den, BE.den, nth, vint, vbool, vaddr, addO, addr_add] using hP.blk, trivial⟩
    · obtain ⟨rfl, hP⟩ := hR
      obtain ⟨a, c, hsl⟩ := hP.mine.slice
      refine den_norm (by simp only [List.cons_append, List.nil_append, cnV]; rfl) ?_
      refine den_idx2 (E := blkE) (L := L.set j ⟨x.er, 1⟩) ⟨x.er, 1⟩ j [.int .i64 x.er] hP.mine.arr rfl (by decide) rfl hx2 ⟨⟨_, rfl⟩, trivial⟩ (fun m v hv => by cases m with | zero => exact hv | succ m => simp at hv) (fun w5 h5 => hP.mine.arr.same (shown_same h5)) (fun _ _ => by simp [BlkIn]) (fun w5 h5 => den_norm (by simp only [List.cons_append, List.nil_append]; rfl) ?_)
      refine den_ob64 (by simp only [IE.den, nth, vint]; omega) (den_obLe (show (0 : Int) ≤ (j : Int) by omega) (den_obLt (by simp [IE.den, nth, vint, vlen, hsl]; exact hil) ?_))
      have hP5 := hP.same (shown_same h5)
      refine den_storeM (E := blkE) (T := 70) s _ j ⟨x.er, 1⟩ ⟨x.er + 1, 1⟩ (.int .i64 (x.er + 1)) [.int .i64 (x.er + 1)] (by kernel_rfl) rfl rfl rfl hx2 rfl rfl rfl (by intro u hu; simp at hu; subst hu; rfl) (by simp [blkE]) (by decide) rfl (fun w6 h6 => hP5.mine.same (shown_same h6)) (fun w6 h6 g hg => ?_) ⟨w5, hP5.mine⟩ (fun w6 w7 h6 hm hk => den_leafA _ rfl fun w8 h8 => ⟨by simp [SV.den, denL, IE.den, BE.den, nth, vint, vbool, vaddr, addO, addr_add], ⟨?_, hm.same (shown_same h8), h.apart⟩⟩)
      · refine ⟨fun hd => (by cases hd), fun _ => .inr hg, fun hin => ?_, fun hx => (by cases hx)⟩
        simp [BlkIn, nth, blkOf, vaddr] at hin
        exact h.apart (by rw [hg, hin])
      · have := h8.facts.1
        have hs := fun t => cn_set (L := L.set j ⟨x.er, 1⟩) (i := j) (x := ⟨x.er, 1⟩) ⟨x.er + 1, 1⟩ t hx2
        unfold cnV
        rw [hs 1, hs 2, hs 3, hs 4]
        simpa [SV.den, denL, IE.den, BE.den, nth, vint, vbool, vaddr, addO, addr_add] using this
  · have e' : chk L i rels ≠ 0 := e
    have hL : relL L i = L := by simp [relL, e']
    rw [hL]
    exact h.same (((shown_same h1).trans h2).trans (shown_same h3))

/-- Set(i, st, er) -/
def setE (L : List Bk) (i st er : Int) : Int := if (decide (1 ≤ st) && decide (st ≤ 4) && cnt er) = false then 2 else if hasB L i = false then 3 else 0
def setL (L : List Bk) (i st er : Int) : List Bk := if setE L i st er = 0 then L.set i.toNat ⟨er, st⟩ else L
theorem c23 (b : Nat) (s : Value) (L : List Bk) (i st er : Int) (w : World) (h : PoolAt w b s L) (hok : OkL L) :
    Runs Try.prog 23 [pt b, .int .i64 i, .int .i64 st, .int .i64 er] w (MP b s) (fun v w' => v = .int .i64 (setE L i st er) ∧ PoolAt w' b s (setL L i st er)) := by
  have h0 := runs mix t23 rfl rfl (ε := [pt b, s, .int .i64 0, .int .i64 (cn L 1), .int .i64 (cn L 2), .int .i64 (cn L 3), .int .i64 (cn L 4), .int .i64 i, .int .i64 st, .int .i64 er]) (w := w) (M := MP b s) (R := fun v w' => v = .int .i64 (setE L i st er) ∧ PoolAt w' b s (setL L i st er)) (h.fits (l := [.int .i64 i, .int .i64 st, .int .i64 er]) ⟨⟨_, rfl⟩, ⟨_, rfl⟩, ⟨_, rfl⟩, trivial⟩) ⟨h.blk, trivial⟩ (by simp [keys]) (by simp [keys]) (by simp [keys, nth, blkOf, vaddr, MP]) ?_
  · simpa [SV.den, denL, IE.den, BE.den, nth, vint, vbool, vaddr, addO, addr_add] using h0
  have bad : ∀ {e : Int} {w' : World}, Same w w' → setE L i st er = e → e ≠ 0 → PoolAt w' b s (setL L i st er) := fun hs he hne => by
    rw [show setL L i st er = L by simp [setL, he, hne]]
    exact h.same hs
  refine den_call_bool (b := false) (fun w1 h1 => ?_) rfl fun w1 w2 h1 h2 => den_norm (by simp only [List.cons_append, List.nil_append]; rfl) (den_split_false rfl ?_)
  · simpa [SV.den, denL, IE.den, BE.den, nth, vint, vbool, vaddr, addO, addr_add] using c30no (pt b) L w1 (h.same (shown_same h1)).r hok.ne
  have s2 : Same w w2 := (shown_same h1).trans h2
  refine den_splitLt (fun e1 => den_leafA _ rfl fun w3 h3 => ?_) (fun e1 => den_splitLt (fun e2 => den_leafA _ rfl fun w3 h3 => ?_) (fun e2 => ?_))
  · have e1' : ¬ 1 ≤ st := by have : st < 1 := e1; omega
    have he : setE L i st er = 2 := by simp [setE, e1']
    exact ⟨by simp [SV.den, denL, IE.den, BE.den, nth, vint, vbool, vaddr, addO, addr_add, he], bad (s2.trans (shown_same h3)) he (by decide)⟩
  · have e2' : ¬ st ≤ 4 := by have : 4 < st := e2; omega
    have he : setE L i st er = 2 := by simp [setE, e2']
    exact ⟨by simp [SV.den, denL, IE.den, BE.den, nth, vint, vbool, vaddr, addO, addr_add, he], bad (s2.trans (shown_same h3)) he (by decide)⟩
  have e1' : 1 ≤ st := e1
  have e2' : st ≤ 4 := e2
  refine den_call_bool (b := cnt er) (fun w1 h1 => c29 er w1) rfl fun w3 w4 h3 h4 => den_norm (by simp only [List.cons_append, List.nil_append]; rfl) (den_splitNot (fun e3 => den_leafA _ rfl fun w5 h5 => ?_) (fun e3 => ?_))
  · have e3' : cnt er = false := e3
    have he : setE L i st er = 2 := by simp [setE, e3']
    exact ⟨by simp [SV.den, denL, IE.den, BE.den, nth, vint, vbool, vaddr, addO, addr_add, he], bad (((s2.trans (shown_same h3)).trans h4).trans (shown_same h5)) he (by decide)⟩
  have e3' : cnt er = true := e3
  have s4 : Same w w4 := (s2.trans (shown_same h3)).trans h4
  refine den_call_bool (b := hasB L i) (fun w5 h5 => ?_) rfl fun w5 w6 h5 h6 => den_norm (by simp only [List.cons_append, List.nil_append]; rfl) (den_splitNot (fun e4 => den_leafA _ rfl fun w7 h7 => ?_) (fun e4 => ?_))
  · simpa [SV.den, denL, IE.den, BE.den, nth, vint, vbool, vaddr, addO, addr_add] using c50 (pt b) L i w5 (h.same (s4.trans (shown_same h5))).r
  · have e4' : hasB L i = false := e4
    have he : setE L i st er = 3 := by simp [setE, e1', e2', e3', e4']
    exact ⟨by simp [SV.den, denL, IE.den, BE.den, nth, vint, vbool, vaddr, addO, addr_add, he], bad (((s4.trans (shown_same h5)).trans h6).trans (shown_same h7)) he (by decide)⟩
  have e4' : hasB L i = true := e4
  have s6 : Same w w6 := (s4.trans (shown_same h5)).trans h6
  have he : setE L i st er = 0 := by simp [setE, e1', e2', e3', e4']
  obtain ⟨j, x, rfl, hx⟩ := hasB_some e4'
  have hL : setL L j st er = (L.set j ⟨x.er, st⟩).set j ⟨er, st⟩ := by simp [setL, he]
  have hx2 : (L.set j ⟨x.er, st⟩)[j]? = some ⟨x.er, st⟩ := by simp [(List.getElem?_eq_some_iff.1 hx).1]
  have hil := (List.getElem?_eq_some_iff.1 hx).1
  rw [hL, he]
  refine den_callM (fun _ => MP b s) (fun w3 l w4 => l = s :: cnV (L.set j ⟨x.er, st⟩) ∧ PoolAt w4 b s (L.set j ⟨x.er, st⟩)) (fun w3 h3 y hy _ => fpP hy) (fun w7 h7 => ?_) (fun w7 l w8 h7 hf hR hk4 => ?_)
  · refine Runs.mono (M := MP b s) (R := fun v w' => v = .tuple #[] ∧ PoolAt w' b s (L.set j ⟨x.er, st⟩)) (by simpa [SV.den, denL, IE.den, BE.den, nth, vint, vbool, vaddr, addO, addr_add] using c32 b s L j x st w7 (h.same (s6.trans (shown_same h7))) hok hx ⟨e1', e2'⟩) (fun v w' ⟨hv, hP⟩ _ => ?_) (fun _ _ h => h)
    obtain ⟨a, c, hsl⟩ := hP.mine.slice
    exact ⟨s :: cnV (L.set j ⟨x.er, st⟩), ⟨⟨_, _, _, hsl⟩, ⟨_, rfl⟩, ⟨_, rfl⟩, ⟨_, rfl⟩, ⟨_, rfl⟩, ⟨_, rfl⟩, trivial⟩, hv, ⟨rfl, hP⟩, by simpa [cnV, SV.den, denL, IE.den, BE.den, nth, vint, vbool, vaddr, addO, addr_add] using hP.blk, trivial⟩
  · obtain ⟨rfl, hP⟩ := hR
    obtain ⟨a, c, hsl⟩ := hP.mine.slice
    refine den_norm (by simp only [List.cons_append, List.nil_append, cnV]; rfl) ?_
    refine den_obs (E := blkE) (L := L.set j ⟨x.er, st⟩) j hP.mine.arr (by decide) rfl (by simpa using hil) ?_
    refine den_storeM (E := blkE) (T := 70) s _ j ⟨x.er, st⟩ ⟨er, st⟩ (.int .i64 er) [.int .i64 er] (by kernel_rfl) rfl rfl rfl hx2 rfl rfl rfl (by intro u hu; simp at hu; subst hu; rfl) (by simp [blkE]) (by decide) rfl (fun w9 h9 => hP.mine.same (shown_same h9)) (fun w9 h9 g hg => ?_) ⟨w8, hP.mine⟩ (fun w9 w10 h9 hm hk => den_leafA _ rfl fun w11 h11 => ⟨rfl, ⟨?_, hm.same (shown_same h11), h.apart⟩⟩)
    · refine ⟨fun hd => (by cases hd), fun _ => .inr hg, fun hin => ?_, fun hx => (by cases hx)⟩
      simp [BlkIn, nth, blkOf, vaddr] at hin
      exact h.apart (by rw [hg, hin])
    · have := h11.facts.1
      have hs := fun t => cn_set (L := L.set j ⟨x.er, st⟩) (i := j) (x := ⟨x.er, st⟩) ⟨er, st⟩ t hx2
      unfold cnV
      rw [hs 1, hs 2, hs 3, hs 4]
      simpa [SV.den, denL, IE.den, BE.den, nth, vint, vbool, vaddr, addO, addr_add] using this

/-- Take() -/
def takE (L : List Bk) : Int := if coldest 1 L < 0 then 9 else 0
def takI (L : List Bk) : Int := if coldest 1 L < 0 then 0 else coldest 1 L
def takL (L : List Bk) : List Bk := if coldest 1 L < 0 then L else L.set (coldest 1 L).toNat ⟨(bkAt L (coldest 1 L)).er, 2⟩
theorem coldest_some {s : Int} {L : List Bk} (h : ¬ coldest s L < 0) : ∃ (j : Nat) (x : Bk), coldest s L = j ∧ L[j]? = some x ∧ x.st = s := by
  rcases bstN_bounds (isSt s) ltE L L.length with h8 | ⟨i, x, _, hi, hx, hp⟩
  · exact absurd (show coldest s L < 0 by rw [show coldest s L = -1 from h8]; decide) h
  · exact ⟨i, x, hi, hx, by simpa [isSt] using hp⟩
theorem c11 (b : Nat) (s : Value) (L : List Bk) (w : World) (h : PoolAt w b s L) (hok : OkL L) :
    Runs Try.prog 11 [pt b] w (MP b s) (fun v w' => v = .tuple #[.int .i64 (takI L), .int .i64 (takE L)] ∧ PoolAt w' b s (takL L)) := by
  have h0 := runs mix t11 rfl rfl (ε := [pt b, s, .int .i64 0, .int .i64 (cn L 1), .int .i64 (cn L 2), .int .i64 (cn L 3), .int .i64 (cn L 4)]) (w := w) (M := MP b s) (R := fun v w' => v = .tuple #[.int .i64 (takI L), .int .i64 (takE L)] ∧ PoolAt w' b s (takL L)) (h.fits (l := []) trivial) ⟨h.blk, trivial⟩ (by simp [keys]) (by simp [keys]) (by simp [keys, nth, blkOf, vaddr, MP]) ?_
  · simpa [SV.den, denL, IE.den, BE.den, nth, vint, vbool, vaddr, addO, addr_add] using h0
  have hlen := hok.len
  refine den_call_bool (b := false) (fun w1 h1 => ?_) rfl fun w1 w2 h1 h2 => den_norm (by simp only [List.cons_append, List.nil_append]; rfl) (den_split_false rfl ?_)
  · simpa [SV.den, denL, IE.den, BE.den, nth, vint, vbool, vaddr, addO, addr_add] using c30no (pt b) L w1 (h.same (shown_same h1)).r hok.ne
  have s2 : Same w w2 := (shown_same h1).trans h2
  refine den_call_int (x := coldest 1 L) (fun w3 h3 => ?_) rfl fun w3 w4 h3 h4 => den_norm (by simp only [List.cons_append, List.nil_append]; rfl) (den_splitLt (fun e => den_leafA _ rfl fun w5 h5 => ?_) (fun e => ?_))
  · simpa [SV.den, denL, IE.den, BE.den, nth, vint, vbool, vaddr, addO, addr_add] using c31 (pt b) L 1 w3 (h.same (s2.trans (shown_same h3))).r hok.ne (by omega)
  · have e' : coldest 1 L < 0 := e
    rw [show takL L = L by simp [takL, e']]
    exact ⟨by rw [show takI L = 0 by simp only [takI, if_pos e'], show takE L = 9 by simp only [takE, if_pos e']]; rfl, h.same (((s2.trans (shown_same h3)).trans h4).trans (shown_same h5))⟩
  have s4 : Same w w4 := (s2.trans (shown_same h3)).trans h4
  have e' : ¬ coldest 1 L < 0 := by have : 0 ≤ coldest 1 L := e; omega
  obtain ⟨j, x, hj, hx, _⟩ := coldest_some e'
  have hL : takL L = L.set j ⟨x.er, 2⟩ := by unfold takL; rw [if_neg e', hj, bkAt_some hx]; rfl
  rw [hL, show takI L = j by unfold takI; rw [if_neg e', hj], show takE L = 0 by simp only [takE, if_neg e']]
  refine den_callM (fun _ => MP b s) (fun w3 l w4 => l = s :: cnV (L.set j ⟨x.er, 2⟩) ∧ PoolAt w4 b s (L.set j ⟨x.er, 2⟩)) (fun w3 h3 y hy _ => fpP hy) (fun w7 h7 => ?_) (fun w7 l w8 h7 hf hR hk4 => ?_)
  · refine Runs.mono (M := MP b s) (R := fun v w' => v = .tuple #[] ∧ PoolAt w' b s (L.set j ⟨x.er, 2⟩)) (by simpa [SV.den, denL, IE.den, BE.den, nth, vint, vbool, vaddr, addO, addr_add, hj] using c32 b s L j x 2 w7 (h.same (s4.trans (shown_same h7))) hok hx ⟨by decide, by decide⟩) (fun v w' ⟨hv, hP⟩ _ => ?_) (fun _ _ h => h)
    obtain ⟨a, c, hsl⟩ := hP.mine.slice
    exact ⟨s :: cnV (L.set j ⟨x.er, 2⟩), ⟨⟨_, _, _, hsl⟩, ⟨_, rfl⟩, ⟨_, rfl⟩, ⟨_, rfl⟩, ⟨_, rfl⟩, ⟨_, rfl⟩, trivial⟩, hv, ⟨rfl, hP⟩, by simpa [cnV, SV.den, denL, IE.den, BE.den, nth, vint, vbool, vaddr, addO, addr_add] using hP.blk, trivial⟩
  · obtain ⟨rfl, hP⟩ := hR
    exact den_norm (by simp only [List.cons_append, List.nil_append, cnV]; rfl) (den_leafA _ rfl fun w9 h9 => ⟨by simp [SV.den, denL, IE.den, BE.den, nth, vint, vbool, vaddr, addO, addr_add, hj], hP.same (shown_same h9)⟩)
end Go.Proofs.Ytdinjabnfjoojaa
