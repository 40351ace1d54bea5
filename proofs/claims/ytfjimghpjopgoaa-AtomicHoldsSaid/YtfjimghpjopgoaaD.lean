/- What the methods that change an order do. No conditions beyond those that each theorem names. -/
import Derived.Test.YtfjimghpjopgoaaC
set_option maxRecDepth 100000
set_option linter.unusedVariables false
set_option linter.unusedSimpArgs false
namespace Go.Proofs.Ytfjimghpjopgoaa
open Go.Sx

/-- the block b holds an order, whose slice s holds these commands in a block of its own -/
structure OrdAt (w : World) (b : Nat) (s : Value) (L : List Cmd) : Prop where
  blk : HasBlk w (.pointer (some ⟨b, 0, none⟩)) [s]
  mine : Mine cmdE 82 w s L
  apart : s.ownBlock ≠ some b
theorem OrdAt.r {w : World} {b : Nat} {s : Value} {L : List Cmd} (h : OrdAt w b s L) : OrdR w (.pointer (some ⟨b, 0, none⟩)) L := ⟨s, h.blk.pts, h.mine.arr, h.mine.cap⟩
theorem OrdAt.lt {w : World} {b : Nat} {s : Value} {L : List Cmd} (h : OrdAt w b s L) : b < w.heap.size := by
  obtain ⟨b', hb', hlt⟩ := h.blk.lt
  cases hb'
  exact hlt
theorem HasBlk.kept' {w w' : World} {b : Nat} {l : List Value} {M : Nat → Prop} (h : HasBlk w (.pointer (some ⟨b, 0, none⟩)) l) (hk : Kept M w w') (hM : ¬ M b) : HasBlk w' (.pointer (some ⟨b, 0, none⟩)) l := by
  obtain ⟨b', ty, hb', hh⟩ := h
  cases hb'
  exact ⟨b, ty, rfl, (hk.block b (Array.getElem?_eq_some_iff.1 hh).1 hM).trans hh⟩
theorem OrdAt.kept {w w' : World} {b : Nat} {s : Value} {L : List Cmd} {M : Nat → Prop} (h : OrdAt w b s L) (hk : Kept M w w') (hb : ¬ M b) (hs : ∀ g, s.ownBlock = some g → ¬ M g) : OrdAt w' b s L :=
  ⟨HasBlk.kept' h.blk hk hb, h.mine.kept hk hs, h.apart⟩
theorem OrdAt.same {w w' : World} {b : Nat} {s : Value} {L : List Cmd} (h : OrdAt w b s L) (hk : Same w w') : OrdAt w' b s L := h.kept hk (fun h => h) (fun _ _ h => h)
/-- what a method leaves: the order in the same block, its slice where it was, or anew -/
def NewAt (w w' : World) (b : Nat) (s : Value) (L : List Cmd) : Prop := ∃ s', OrdAt w' b s' L ∧ (s'.ownBlock = s.ownBlock ∨ ∀ g, s'.ownBlock = some g → w.heap.size ≤ g)

theorem c37 (b : Nat) (s : Value) (L : List Cmd) (i : Nat) (w : World) (hO : OrdAt w b s L) (hi : i < L.length) (hm : L.length ≤ 60000000000) :
    Runs Try.prog 37 [.pointer (some ⟨b, 0, none⟩), .int .i64 i] w (fun x => x = b) (fun v w' => v = .tuple #[] ∧ ∃ s', OrdAt w' b s' (L.eraseIdx i) ∧ ∀ g, s'.ownBlock = some g → w.heap.size ≤ g) := by
  have hlt := hO.lt
  obtain ⟨a, cp, hsl⟩ := hO.mine.slice
  have h := runs mix t37 rfl rfl (ε := [.pointer (some ⟨b, 0, none⟩), s, .int .i64 i]) (w := w) (M := fun x => x = b) (R := fun v w' => v = .tuple #[] ∧ ∃ s', OrdAt w' b s' (L.eraseIdx i) ∧ ∀ g, s'.ownBlock = some g → w.heap.size ≤ g) ⟨⟨_, rfl⟩, ⟨_, _, _, hsl⟩, ⟨_, rfl⟩, trivial⟩ ⟨hO.blk, trivial⟩ (by simp [keys]) (by simp [keys]) (by simp [keys, nth, blkOf, vaddr]) ?_
  · simpa [denL, SV.den, IE.den, nth, vint, vaddr, addO, addr_add] using h
  · refine den_callR (fun w l w' => ∃ v, l = [v] ∧ Mine cmdE 82 w' v L ∧ ∀ g, v.ownBlock = some g → w.heap.size ≤ g) (fun w1 h1 => ?_) (fun w1 l w2 h1 hf hR hs12 => ?_)
    · refine (c44 s L w1 ?_ hm).mono fun v w' hv => ?_
      · exact (hO.mine.kept h1.base (fun g hg e => hO.apart (by rw [hg, e]))).arr
      · obtain ⟨av, cv, hv'⟩ := hv.1.slice
        exact ⟨[v], ⟨⟨_, _, _, hv'⟩, trivial⟩, rfl, v, rfl, hv⟩
    obtain ⟨v, rfl, hv, hfr⟩ := hR
    refine den_norm (by simp only [List.cons_append, List.nil_append]; rfl) (den_ob64 (by simp only [IE.den, nth, vint]; omega) ?_)
    obtain ⟨g, cv, rfl⟩ : ∃ g cv, v = .slice (some ⟨g, 0, none⟩) L.length cv := by
      rcases hv.forms with ⟨rfl, rfl⟩ | ⟨g, c, cur, ty, rfl, _⟩
      · simp at hi
      · exact ⟨g, c, rfl⟩
    have hg0 : w.heap.size ≤ g := Nat.le_trans h1.base.size (hfr g rfl)
    refine den_callM (fun _ x => x = g) (fun _ l w' => ∃ v', l = [v'] ∧ Mine cmdE 82 w' v' (L.eraseIdx i) ∧ v'.ownBlock = some g) (fun w3 h3 x hx _ => ?_) (fun w3 h3 => ?_) (fun w3 l w4 h3 hf' hR hk4 => ?_)
    · subst hx
      exact ⟨fun hd => (by cases hd), fun hx => absurd (show x < w.heap.size from hx) (by omega), (by simp [BlkIn, nth, blkOf, vaddr] <;> omega), fun hx => (by cases hx)⟩
    · have hv3 : Mine cmdE 82 w3 (.slice (some ⟨g, 0, none⟩) L.length cv) L := hv.kept h3.kept fun x hx hin => by
        cases hx
        simp [BlkIn, nth, blkOf, vaddr] at hin
        all_goals
          omega
      refine (c52 g L.length cv L i w3 hv3 hi hm).mono (fun v' w' hv' _ => ?_) (fun _ _ h => h)
      obtain ⟨av, cv', hv2⟩ := hv'.1.slice
      exact ⟨[v'], ⟨⟨_, _, _, hv2⟩, trivial⟩, rfl, ⟨v', rfl, hv'⟩, trivial⟩
    · obtain ⟨v', rfl, hv', hvb⟩ := hR
      refine den_norm (by simp only [List.cons_append, List.nil_append]; rfl) (den_leafA _ rfl fun w5 h5 => ⟨rfl, v', ⟨?_, ?_, ?_⟩, ?_⟩)
      · exact h5.facts.1
      · exact hv'.kept h5.kept fun x hx hin => by
          rw [hvb] at hx
          cases hx
          simp [BlkIn, nth, blkOf, vaddr] at hin
          all_goals
            omega
      · rw [hvb]; intro e; cases e; omega
      · intro x hx; rw [hvb] at hx; cases hx; exact hg0

/-- the commands behind Cancel -/
def cancelL (L : List Cmd) (id : Int) : List Cmd := if atE L id = 0 then L.eraseIdx (atI L id).toNat else L
theorem c29 (b : Nat) (s : Value) (L : List Cmd) (id : Int) (w : World) (hO : OrdAt w b s L) (hm : L.length ≤ 60000000000) :
    Runs Try.prog 29 [.pointer (some ⟨b, 0, none⟩), .int .i64 id] w (fun x => x = b) (fun v w' => v = .int .i64 (atE L id) ∧ NewAt w w' b s (cancelL L id)) := by
  have hlt := hO.lt
  obtain ⟨a, cp, hsl⟩ := hO.mine.slice
  have h := runs mix t29 rfl rfl (ε := [.pointer (some ⟨b, 0, none⟩), s, .int .i64 id]) (w := w) (M := fun x => x = b) (R := fun v w' => v = .int .i64 (atE L id) ∧ NewAt w w' b s (cancelL L id)) ⟨⟨_, rfl⟩, ⟨_, _, _, hsl⟩, ⟨_, rfl⟩, trivial⟩ ⟨hO.blk, trivial⟩ (by simp [keys]) (by simp [keys]) (by simp [keys, nth, blkOf, vaddr]) ?_
  · simpa [denL, SV.den, IE.den, nth, vint, vaddr, addO, addr_add] using h
  · have at_ : ∀ {w1 : World} {t : List Nat} {l : List Value}, Shown (GM Try.prog w (fun x => x = b) false) ([.pointer (some ⟨b, 0, none⟩), s, .int .i64 id] ++ l) t [(0, [SV.var 1])] w w1 → OrdAt w1 b s L := fun h1 =>
      ⟨h1.facts.1, hO.mine.kept h1.base (fun g hg e => hO.apart (by rw [hg, e])), hO.apart⟩
    refine den_call [.int .i64 (atI L id), .int .i64 (atE L id)] ⟨⟨_, rfl⟩, ⟨_, rfl⟩, trivial⟩ rfl (fun w1 h1 => ?_) (fun w1 w2 h1 h2 => ?_)
    · have := c35 (.pointer (some ⟨b, 0, none⟩)) L id w1 (at_ (l := []) (by simpa using h1)).r (by omega)
      simpa [denL, SV.den, IE.den, nth, vint, vaddr, addO, addr_add] using this
    have hO2 : OrdAt w2 b s L := (at_ (l := []) (by simpa using h1)).same h2
    refine den_norm (by simp only [List.cons_append, List.nil_append]; rfl) (den_splitEq (fun h3 => ?_) (fun h3 => den_leafA _ rfl (fun w3 h5 => ?_)))
    · simp only [IE.den, nth, vint] at h3
      obtain ⟨i, hi, hil⟩ := atI_lt h3
      refine den_callM (fun _ x => x = b) (fun w3 l w' => ∃ s', l = [s'] ∧ OrdAt w' b s' (L.eraseIdx i) ∧ ∀ g, s'.ownBlock = some g → w3.heap.size ≤ g) (fun w3 h3 x hx _ => ?_) (fun w3 h3 => ?_) (fun w3 l w4 h3 hf' hR hk4 => ?_)
      · subst hx
        exact ⟨fun hd => (by cases hd), fun _ => rfl, (by simp [BlkIn]), fun hx => (by cases hx)⟩
      · have hO3 : OrdAt w3 b s L := ⟨h3.facts.1, hO.mine.kept h3.base (fun g hg e => hO.apart (by rw [hg, e])), hO.apart⟩
        have := c37 b s L i w3 hO3 hil hm
        rw [← hi] at this
        refine Runs.mono (R := fun v w' => v = .tuple #[] ∧ ∃ s', OrdAt w' b s' (L.eraseIdx i) ∧ ∀ g, s'.ownBlock = some g → w3.heap.size ≤ g) (M := fun x => x = b) (by simpa [denL, SV.den, IE.den, nth, vint, vaddr, addO, addr_add] using this) (fun v w' hv _ => ?_) (fun _ _ h => h)
        obtain ⟨rfl, s', hO', hfr⟩ := hv
        obtain ⟨a', c', hs'⟩ := hO'.mine.slice
        exact ⟨[s'], ⟨⟨_, _, _, hs'⟩, trivial⟩, rfl, ⟨s', rfl, hO', hfr⟩, hO'.blk, trivial⟩
      · obtain ⟨s', rfl, hO', hfr⟩ := hR
        refine den_norm (by simp only [List.cons_append, List.nil_append]; rfl) (den_leafA _ rfl (fun w5 h5 => ?_))
        refine ⟨rfl, s', ⟨h5.facts.1, ?_, hO'.apart⟩, .inr fun g hg => Nat.le_trans h3.base.size (hfr g hg)⟩
        have hL : cancelL L id = L.eraseIdx i := by unfold cancelL; rw [if_pos ‹_›, hi]; rfl
        rw [hL]
        refine hO'.mine.kept h5.kept fun x hx hin => ?_
        have := hfr x hx
        have hs3 : w.heap.size ≤ w3.heap.size := h3.base.size
        simp [BlkIn, nth, blkOf, vaddr] at hin
        all_goals
          omega
    · simp only [IE.den, nth, vint] at h3
      have hL : cancelL L id = L := by unfold cancelL; rw [if_neg h3]
      rw [hL]
      refine ⟨rfl, s, ⟨h5.facts.1, ?_, hO.apart⟩, .inl rfl⟩
      exact hO.mine.kept h5.base (fun g hg e => hO.apart (by rw [hg, e]))

/-- End(id): the error; the commands behind it -/
def endE (L : List Cmd) (id : Int) : Int := if atE L id = 0 then (if rdy L (atI L id).toNat = true then 0 else 8) else atE L id
def endL (L : List Cmd) (id : Int) : List Cmd := if endE L id = 0 then L.eraseIdx (atI L id).toNat else L
theorem c19 (b : Nat) (s : Value) (L : List Cmd) (id : Int) (w : World) (hO : OrdAt w b s L) (hm : L.length ≤ 60000000000) :
    Runs Try.prog 19 [.pointer (some ⟨b, 0, none⟩), .int .i64 id] w (fun x => x = b) (fun v w' => v = .int .i64 (endE L id) ∧ NewAt w w' b s (endL L id)) := by
  have hlt := hO.lt
  obtain ⟨a, cp, hsl⟩ := hO.mine.slice
  have h := runs mix t19 rfl rfl (ε := [.pointer (some ⟨b, 0, none⟩), s, .int .i64 id]) (w := w) (M := fun x => x = b) (R := fun v w' => v = .int .i64 (endE L id) ∧ NewAt w w' b s (endL L id)) ⟨⟨_, rfl⟩, ⟨_, _, _, hsl⟩, ⟨_, rfl⟩, trivial⟩ ⟨hO.blk, trivial⟩ (by simp [keys]) (by simp [keys]) (by simp [keys, nth, blkOf, vaddr]) ?_
  · simpa [denL, SV.den, IE.den, nth, vint, vaddr, addO, addr_add] using h
  · have keep : ∀ {w1 : World}, Kept (fun x => x = b) w w1 → HasBlk w1 (.pointer (some ⟨b, 0, none⟩)) [s] → OrdAt w1 b s L := fun h1 h2 =>
      ⟨h2, hO.mine.kept h1 (fun g hg e => hO.apart (by rw [hg, e])), hO.apart⟩
    refine den_call [.int .i64 (atI L id), .int .i64 (atE L id)] ⟨⟨_, rfl⟩, ⟨_, rfl⟩, trivial⟩ rfl (fun w1 h1 => ?_) (fun w1 w2 h1 h2 => ?_)
    · have := c35 (.pointer (some ⟨b, 0, none⟩)) L id w1 (keep h1.base h1.facts.1).r (by omega)
      simpa [denL, SV.den, IE.den, nth, vint, vaddr, addO, addr_add] using this
    refine den_norm (by simp only [List.cons_append, List.nil_append]; rfl) (den_splitNot (fun h3 => ?_) (fun h3 => ?_))
    · refine den_leafA _ rfl (fun w3 h5 => ?_)
      have h3' : atE L id ≠ 0 := by simpa [BE.den, IE.den, nth, vint] using h3
      have e : endE L id = atE L id := by unfold endE; rw [if_neg h3']
      have e2 : endL L id = L := by unfold endL; rw [e, if_neg h3']
      rw [e, e2]
      exact ⟨rfl, s, keep h5.base h5.facts.1, .inl rfl⟩
    · have h3' : atE L id = 0 := by simpa [BE.den, IE.den, nth, vint] using h3
      obtain ⟨i, hi, hil⟩ := atI_lt h3'
      refine den_call_bool (b := rdy L i) (fun w3 h5 => ?_) rfl (fun w3 w4 h5 h6 => den_norm (by simp only [List.cons_append, List.nil_append]; rfl) (den_splitNot (fun h7 => ?_) (fun h7 => ?_)))
      · have := c36 (.pointer (some ⟨b, 0, none⟩)) L i w3 (keep h5.base h5.facts.1).r hil (by omega)
        rw [← hi] at this
        simpa [denL, SV.den, IE.den, nth, vint, vaddr, addO, addr_add] using this
      · refine den_leafA _ rfl (fun w5 h8 => ?_)
        have h7' : rdy L i = false := h7
        have e : endE L id = 8 := by unfold endE; rw [if_pos h3', hi, Int.toNat_natCast, h7']; rfl
        have e2 : endL L id = L := by unfold endL; rw [e, if_neg (by decide)]
        rw [e, e2]
        exact ⟨rfl, s, keep h8.base h8.facts.1, .inl rfl⟩
      · have h7' : rdy L i = true := h7
        have e : endE L id = 0 := by unfold endE; rw [if_pos h3', hi, Int.toNat_natCast, h7']; rfl
        have e2 : endL L id = L.eraseIdx i := by unfold endL; rw [if_pos e, hi]; rfl
        rw [e, e2]
        refine den_callM (fun _ x => x = b) (fun w3 l w' => ∃ s', l = [s'] ∧ OrdAt w' b s' (L.eraseIdx i) ∧ ∀ g, s'.ownBlock = some g → w3.heap.size ≤ g) (fun w3 h3 x hx _ => ?_) (fun w3 h3 => ?_) (fun w3 l w4 h3 hf' hR hk4 => ?_)
        · subst hx
          exact ⟨fun hd => (by cases hd), fun _ => rfl, (by simp [BlkIn]), fun hx => (by cases hx)⟩
        · have := c37 b s L i w3 (keep h3.base h3.facts.1) hil hm
          rw [← hi] at this
          refine Runs.mono (R := fun v w' => v = .tuple #[] ∧ ∃ s', OrdAt w' b s' (L.eraseIdx i) ∧ ∀ g, s'.ownBlock = some g → w3.heap.size ≤ g) (M := fun x => x = b) (by simpa [denL, SV.den, IE.den, nth, vint, vaddr, addO, addr_add] using this) (fun v w' hv _ => ?_) (fun _ _ h => h)
          obtain ⟨rfl, s', hO', hfr⟩ := hv
          obtain ⟨a', c', hs'⟩ := hO'.mine.slice
          exact ⟨[s'], ⟨⟨_, _, _, hs'⟩, trivial⟩, rfl, ⟨s', rfl, hO', hfr⟩, hO'.blk, trivial⟩
        · obtain ⟨s', rfl, hO', hfr⟩ := hR
          refine den_norm (by simp only [List.cons_append, List.nil_append]; rfl) (den_leafA _ rfl (fun w5 h5 => ?_))
          refine ⟨rfl, s', ⟨h5.facts.1, ?_, hO'.apart⟩, .inr fun g hg => Nat.le_trans h3.base.size (hfr g hg)⟩
          refine hO'.mine.kept h5.kept fun x hx hin => ?_
          have := hfr x hx
          have hs3 : w.heap.size ≤ w3.heap.size := h3.base.size
          simp [BlkIn, nth, blkOf, vaddr] at hin
          all_goals
            omega

/-- Begin(c): the error; the commands behind it -/
def begE (L : List Cmd) (c : Cmd) : Int := if (decide (0 ≤ c.id) && okBlk c.lba c.n) = false then 2 else if 0 ≤ fnd L c.id then 11 else if 1024 ≤ L.length then 7 else 0
def begL (L : List Cmd) (c : Cmd) : List Cmd := if begE L c = 0 then L ++ [c] else L
theorem c16 (b : Nat) (s : Value) (L : List Cmd) (c : Cmd) (w : World) (hO : OrdAt w b s L) (hm : L.length ≤ 60000000000) :
    Runs Try.prog 16 [.pointer (some ⟨b, 0, none⟩), .int .i64 c.id, .int .i64 c.lba, .int .i64 c.n, .bool c.wr] w (fun x => x = b ∨ s.ownBlock = some x) (fun v w' => v = .int .i64 (begE L c) ∧ NewAt w w' b s (begL L c)) := by
  have hlt := hO.lt
  obtain ⟨a, cp, rfl⟩ := hO.mine.slice
  have h := runs mix t16 rfl rfl (ε := [.pointer (some ⟨b, 0, none⟩), .slice a L.length cp, .int .i64 c.id, .int .i64 c.lba, .int .i64 c.n, .bool c.wr]) (w := w) (M := fun x => x = b ∨ (Value.slice a L.length cp).ownBlock = some x) (R := fun v w' => v = .int .i64 (begE L c) ∧ NewAt w w' b (.slice a L.length cp) (begL L c)) ⟨⟨_, rfl⟩, ⟨_, _, _, rfl⟩, ⟨_, rfl⟩, ⟨_, rfl⟩, ⟨_, rfl⟩, ⟨_, rfl⟩, trivial⟩ ⟨hO.blk, trivial⟩ (by simp [keys]) (by simp [keys]) (by simp [keys, nth, blkOf, vaddr]) ?_
  · simpa [denL, SV.den, IE.den, BE.den, nth, vint, vbool, vaddr, addO, addr_add] using h
  · refine den_call_bool (b := okBlk c.lba c.n) (fun w1 h1 => c33 _ _ w1) rfl (fun w1 w2 h1 h2 => den_norm (by simp only [List.cons_append, List.nil_append]; rfl) (den_blk fun b7 hb7 _ _ => ?_))
    have hb7' : w.heap.size ≤ b7 := Nat.le_trans (Nat.le_trans h1.base.size h2.size) hb7
    have hne : ∀ g, (Value.slice a L.length cp).ownBlock = some g → g ≠ b ∧ g < w.heap.size := fun g hg => ⟨fun e => hO.apart (by rw [hg, e]), hO.mine.lt hg⟩
    have m1 := hO.mine.kept h1.kept fun g hg hin => by
      simp [BlkIn, nth, blkOf, vaddr] at hin
      all_goals
        exact (hne g hg).1 hin.symm
    have m2 := m1.same h2
    refine den_norm (by simp only [List.cons_append, List.nil_append]; rfl) (den_all _ c31 rfl rfl rfl (by decide) (fun _ => rfl) (fun w3 w4 h3 h4 => ?_))
    have m4 := (m2.kept h3.kept fun g hg hin => by
      simp [BlkIn, nth, blkOf, vaddr] at hin
      all_goals
        exact (hne g hg).1 hin.symm).same h4
    have f3 : HasBlk w4 (.pointer (some ⟨b, 0, none⟩)) [.slice a L.length cp] := HasBlk.kept' h3.facts.2.1 h4 fun h => h
    have e0 : ([Value.pointer (some ⟨b, 0, none⟩), .slice a L.length cp, .int .i64 c.id, .int .i64 c.lba, .int .i64 c.n, .bool c.wr, .bool (okBlk c.lba c.n), .pointer (some ⟨b7, 0, none⟩)] ++ [.bool ((boolsOf [Value.pointer (some ⟨b, 0, none⟩), .slice a L.length cp, .int .i64 c.id, .int .i64 c.lba, .int .i64 c.n, .bool c.wr, .bool (okBlk c.lba c.n), .pointer (some ⟨b7, 0, none⟩)] [SV.bool (BE.le (IE.lit 0) (IE.var 2)), SV.bool (BE.var 6)]).all id)]) =
        [Value.pointer (some ⟨b, 0, none⟩), .slice a L.length cp, .int .i64 c.id, .int .i64 c.lba, .int .i64 c.n, .bool c.wr, .bool (okBlk c.lba c.n), .pointer (some ⟨b7, 0, none⟩), .bool (decide (0 ≤ c.id) && okBlk c.lba c.n)] := by
      simp [boolsOf, sBE, BE.den, IE.den, nth, vint, vbool]
    refine den_norm e0 (den_splitNot (fun h5 => den_leafA _ rfl (fun w5 h6 => ?_)) (fun h5 => ?_))
    · have h5' : (decide (0 ≤ c.id) && okBlk c.lba c.n) = false := h5
      have e : begE L c = 2 := by unfold begE; rw [if_pos h5']
      have e2 : begL L c = L := by unfold begL; rw [e, if_neg (by decide)]
      rw [e, e2]
      refine ⟨rfl, _, ⟨h6.facts.2.1, m4.kept h6.kept fun g hg hin => ?_, hO.apart⟩, .inl rfl⟩
      simp [BlkIn, nth, blkOf, vaddr] at hin
      all_goals
        have := hne g hg
        omega
    have h5' : ¬ (decide (0 ≤ c.id) && okBlk c.lba c.n) = false := by
      have : (decide (0 ≤ c.id) && okBlk c.lba c.n) = true := h5
      rw [this]; simp
    refine den_call_int (x := fnd L c.id) (fun w5 h6 => ?_) rfl (fun w5 w6 h6 h7 => ?_)
    · have m5 := m4.kept h6.kept fun g hg hin => by
        simp [BlkIn, nth, blkOf, vaddr] at hin
        all_goals
          have := hne g hg
          omega
      have := c34 (.pointer (some ⟨b, 0, none⟩)) L c.id w5 (OrdAt.mk h6.facts.2.1 m5 hO.apart).r (by omega)
      simpa [denL, SV.den, IE.den, nth, vint, vaddr, addO, addr_add] using this
    have m6 := (m4.kept h6.kept fun g hg hin => by
        simp [BlkIn, nth, blkOf, vaddr] at hin
        all_goals
          have := hne g hg
          omega).same h7
    refine den_norm (by simp only [List.cons_append, List.nil_append]; rfl) (den_splitLe (fun h8 => den_leafA _ rfl (fun w7 h9 => ?_)) (fun h8 => den_splitLe (fun h9 => den_leafA _ rfl (fun w7 h10 => ?_)) (fun h9 => den_blk fun b10 hb10 _ _ => ?_)))
    · have h8' : 0 ≤ fnd L c.id := h8
      have e : begE L c = 11 := by unfold begE; rw [if_neg h5', if_pos h8']
      have e2 : begL L c = L := by unfold begL; rw [e, if_neg (by decide)]
      rw [e, e2]
      refine ⟨rfl, _, ⟨h9.facts.2.1, m6.kept h9.kept fun g hg hin => ?_, hO.apart⟩, .inl rfl⟩
      simp [BlkIn, nth, blkOf, vaddr] at hin
      all_goals
        have := hne g hg
        omega
    · have h8' : ¬ 0 ≤ fnd L c.id := by have : fnd L c.id < 0 := h8; omega
      have h9' : 1024 ≤ L.length := by have h : (1024 : Int) ≤ L.length := h9
                                       omega
      have e : begE L c = 7 := by unfold begE; rw [if_neg h5', if_neg h8', if_pos h9']
      have e2 : begL L c = L := by unfold begL; rw [e, if_neg (by decide)]
      rw [e, e2]
      refine ⟨rfl, _, ⟨h10.facts.2.1, m6.kept h10.kept fun g hg hin => ?_, hO.apart⟩, .inl rfl⟩
      simp [BlkIn, nth, blkOf, vaddr] at hin
      all_goals
        have := hne g hg
        omega
    · have h8' : ¬ 0 ≤ fnd L c.id := by have : fnd L c.id < 0 := h8; omega
      have h9' : ¬ 1024 ≤ L.length := by have h : (L.length : Int) < 1024 := h9
                                         omega
      have e : begE L c = 0 := by unfold begE; rw [if_neg h5', if_neg h8', if_neg h9']
      have e2 : begL L c = L ++ [c] := by unfold begL; rw [if_pos e]
      rw [e, e2]
      have hs6 : w.heap.size ≤ w6.heap.size := Nat.le_trans h6.base.size h7.size
      have hb10' : w.heap.size ≤ b10 := Nat.le_trans hs6 hb10
      refine den_norm (by simp only [List.cons_append, List.nil_append]; rfl) ?_
      refine den_push (E := cmdE) (T := 82) rfl underlying38 info82 zero82 (by kernel_rfl) (by kernel_rfl) (by decide) bytes82 one4 (.slice a L.length cp) L c rfl rfl rfl (by omega) (fun g hg _ => .inr (.inr hg)) (by simp [keys]) (fun w7 h10 => m6.kept h10.kept fun g hg hin => ?_) (fun g hg _ hin => ?_) (fun hd => by cases hd) (fun _ => rfl) ?_
      · simp [BlkIn, nth, blkOf, vaddr] at hin
        all_goals
          have := hne g hg
          omega
      · simp [BlkIn, nth, blkOf, vaddr] at hin
        all_goals
          have := hne g hg
          omega
      · intro w7 s' w8 h10 ho hk hfr hap
        refine den_norm (by simp only [List.cons_append, List.nil_append]; rfl) (den_leafA _ rfl (fun w9 h11 => ?_))
        have hown : ∀ g, s'.ownBlock = some g → g ≠ b ∧ g ≠ b7 ∧ g ≠ b10 ∧ (s'.ownBlock = (Value.slice a L.length cp).ownBlock ∨ ∀ g, s'.ownBlock = some g → w.heap.size ≤ g) := by
          intro g hg
          rcases hfr with ⟨e3, _⟩ | ⟨b', e3, hle, _⟩
          · have := hne g (by rw [← e3]; exact hg)
            exact ⟨this.1, by omega, by omega, .inl e3⟩
          · rw [e3] at hg
            cases hg
            have l0 := h10.lt (i := 0) (b := b) (by simp [keys]) rfl
            have l7 := h10.lt (i := 7) (b := b7) (by simp [keys]) rfl
            have l10 := h10.lt (i := 10) (b := b10) (by simp [keys]) rfl
            exact ⟨by omega, by omega, by omega, .inr fun g hg => by rw [e3] at hg; cases hg; have : w.heap.size ≤ w7.heap.size := h10.base.size; omega⟩
        refine ⟨rfl, s', ⟨h11.facts.2.2.1, ho.kept h11.kept fun g hg hin => ?_, fun e => (hown b e).1 rfl⟩, ?_⟩
        · simp [BlkIn, nth, blkOf, vaddr] at hin
          all_goals
            have := hown g hg
            omega
        · cases hs : s'.ownBlock with
          | none => exact .inr fun g hg => by cases hg
          | some g =>
            have := (hown g hs).2.2.2
            rw [hs] at this
            exact this

/-- Copy() -/
theorem c24 (o : Value) (L : List Cmd) (w : World) (hO : OrdR w o L) (hm : L.length ≤ 60000000000) :
    GivesR Try.prog 24 [o] w (fun v w' => ∃ b s, v = .pointer (some ⟨b, 0, none⟩) ∧ OrdAt w' b s L ∧ w.heap.size ≤ b ∧ ∀ g, s.ownBlock = some g → w.heap.size ≤ g) := by
  obtain ⟨s, ho, hs, hcap⟩ := hO.ex
  obtain ⟨a, cp, rfl⟩ := hs.slice
  obtain ⟨bo, rfl, hbo⟩ := ho.at_
  refine givesR mix t24 rfl rfl (ε := [.pointer (some ⟨bo, 0, none⟩)]) ⟨⟨_, rfl⟩, trivial⟩ (den_split_false (by simp [BE.den, nth, vnil]) ?_)
  refine den_ldp [.slice a L.length cp] [.slice a L.length cp] ⟨⟨_, _, _, rfl⟩, trivial⟩ (whole _) (fun w1 h1 => ho.same h1.base) (fun g hg => by simp [BlkIn]) (fun w1 h1 => den_norm (by simp only [List.cons_append, List.nil_append]; rfl) ?_)
  refine den_callR (fun w l w' => ∃ v, l = [v] ∧ Mine cmdE 82 w' v L ∧ ∀ g, v.ownBlock = some g → w.heap.size ≤ g) (fun w1 h1 => ?_) (fun w1 l w2 h1 hf hR hs12 => ?_)
  · refine (c44 _ L w1 (hs.same h1.base) hm).mono fun v w' hv => ?_
    obtain ⟨av, cv, hv'⟩ := hv.1.slice
    exact ⟨[v], ⟨⟨_, _, _, hv'⟩, trivial⟩, rfl, v, rfl, hv⟩
  · obtain ⟨v, rfl, hv, hfr⟩ := hR
    refine den_norm (by simp only [List.cons_append, List.nil_append]; rfl) (den_blk fun b hb _ hb0 => ?_)
    refine den_norm (by simp only [List.cons_append, List.nil_append]; rfl) (den_leafR _ rfl (fun w3 h3 => ?_))
    refine ⟨b, v, by simp [SV.den, nth, vaddr, addO, addr_add], ⟨h3.facts.1, hv.same (h3.kept.mono fun x _ hx => by simp [BlkIn] at hx), fun e => ?_⟩, hb0, fun g hg => Nat.le_trans h1.base.size (hfr g hg)⟩
    have := hv.lt e
    omega
end Go.Proofs.Ytfjimghpjopgoaa
