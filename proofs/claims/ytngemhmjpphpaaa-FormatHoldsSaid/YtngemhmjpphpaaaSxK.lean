/- Part K of a symbolic run of Go code by computation: its states, conditions and the proof that a condition that holds says what the function returns. No conditions of its own. -/
import Derived.Test.YtngemhmjpphpaaaSxJ
set_option linter.unusedVariables false
set_option linter.unusedSimpArgs false
namespace Go.Sx
open Go.RowKit

section
variable {G : Ctx} {D : List Deferred} {s : St} {ε : List Value} {wx ws : World} {X : Nat → Prop} {a : Act} {w : World} {o : Oper}

/-! a new block -/
theorem HasBlk.alloc {w : World} {q : Value} {l : List Value} (h : HasBlk w q l) (ob : Obj) : HasBlk (w.alloc ob) q l := by
  obtain ⟨b, ty, hb, hh⟩ := h
  exact ⟨b, ty, hb, (Below.heap_alloc w ob b (Array.getElem?_eq_some_iff.1 hh).1).trans hh⟩
theorem FactsAt.alloc {w : World} (ob : Obj) : ∀ {fs : Facts}, FactsAt ε w fs → FactsAt ε (w.alloc ob) fs
  | [], h => h
  | (i, l) :: fs, h => ⟨h.1.alloc ob, FactsAt.alloc ob h.2⟩
theorem HasBlk.lt {w : World} {q : Value} {l : List Value} (h : HasBlk w q l) : ∃ b, blkOf q = some b ∧ b < w.heap.size := by
  obtain ⟨b, ty, hb, hh⟩ := h
  exact ⟨b, by rw [hb]; rfl, (Array.getElem?_eq_some_iff.1 hh).1⟩
theorem facts_lt {w : World} : ∀ {fs : Facts}, FactsAt ε w fs → ∀ i ∈ keys fs, ∃ b, blkOf (nth ε i) = some b ∧ b < w.heap.size
  | [], _, i, h => by simp [keys] at h
  | (j, l) :: fs, h, i, hi => by
    simp only [keys, List.mem_cons] at hi
    rcases hi with rfl | hi
    · exact h.1.lt
    · exact facts_lt h.2 i hi

theorem nth_last (ε : List Value) (v : Value) : nth (ε ++ [v]) ε.length = v := by
  induction ε with
  | nil => rfl
  | cons x ε ih => exact ih

theorem Ok.alloc (hok : Ok G D s ε wx ws X a w) (hw : wfS s = true) {cells : List SV} (hc : wfL s.ks.length cells = true) (ty : TypeId) :
    Ok G D { s with ks := s.ks ++ [Base.ptr], heap := (s.ks.length, cells) :: s.heap } (ε ++ [.pointer (some ⟨w.heap.size, 0, none⟩)]) wx ws X a (w.alloc (.cells (denL ε cells).toArray ty (0, 0))) := by
  have hlen : ε.length = s.ks.length := hok.ks.length
  have h := hok.ext hw (bs := [Base.ptr]) (l := [.pointer (some ⟨w.heap.size, 0, none⟩)]) ⟨⟨_, rfl⟩, trivial⟩
  have hlast : nth (ε ++ [.pointer (some ⟨w.heap.size, 0, none⟩)]) s.ks.length = .pointer (some ⟨w.heap.size, 0, none⟩) := by rw [← hlen]; exact nth_last _ _
  have hb : blkOf (nth (ε ++ [.pointer (some ⟨w.heap.size, 0, none⟩)]) s.ks.length) = some w.heap.size := by rw [hlast]; rfl
  have hnew : s.ks.length ∉ keys s.heap := fun hm => by
    have := blt_true (wfF_keys (wfS_parts hw).2.1 _ hm)
    omega
  have hold : ∀ i ∈ keys s.heap, ∃ b, blkOf (nth (ε ++ [.pointer (some ⟨w.heap.size, 0, none⟩)]) i) = some b ∧ b < w.heap.size := facts_lt h.hp
  exact {
    defers := h.defers.to fun _ b hb => Below.heap_alloc w _ b (by obtain ⟨o, ho, _⟩ := hb; exact (Array.getElem?_eq_some_iff.1 ho).1)
    ltm := h.ltm
    tm := h.tm
    ks := h.ks
    hp := by
      refine ⟨?_, h.hp.alloc _⟩
      rw [hlast]
      refine ⟨w.heap.size, ty, rfl, ?_⟩
      rw [denL_append _ _ _ (by rw [hlen]; exact hc)]
      exact heap_alloc_new w _
    nd := by simp only [keys, List.nodup_cons]; exact ⟨hnew, h.nd⟩
    dj := by
      intro i j hi hj hne
      simp only [keys, List.mem_cons] at hi hj
      rcases hi with rfl | hi <;> rcases hj with rfl | hj
      · exact absurd rfl hne
      · obtain ⟨b, hb', hlt⟩ := hold j hj
        rw [hb, hb']; intro e; cases e; omega
      · obtain ⟨b, hb', hlt⟩ := hold i hi
        rw [hb, hb']; intro e; cases e; omega
      · exact h.dj i j hi hj hne
    base := h.base.alloc _
    kx := h.kx.alloc _
    kws := fun hd => (h.kws hd).alloc _
    kwz := Nat.le_trans h.kwz (by simp)
    kX := by
      intro hd i hi b hb' hlt
      simp only [keys, List.mem_cons] at hi
      rcases hi with rfl | hi
      · rw [hb] at hb'; cases hb'; have := hok.kwz; omega
      · exact h.kX hd i hi b hb' hlt
    kM := by
      intro i hi b hb' hlt
      simp only [keys, List.mem_cons] at hi
      rcases hi with rfl | hi
      · rw [hb] at hb'; cases hb'; have := hok.base.size; omega
      · exact h.kM i hi b hb' hlt
    path := h.path }

/-! a store into a tracked block -/
theorem findH_setH_same : ∀ (fs : Facts) (i : Nat) (l : List SV), i ∈ keys fs → findH (setH fs i l) i = some l
  | [], _, _, h => by simp [keys] at h
  | (j, m) :: fs, i, l, h => by
    simp only [setH]
    split
    · rename_i hj; simp [findH, hj]
    · rename_i hj
      simp only [findH]
      rw [if_neg hj]
      simp only [keys, List.mem_cons] at h
      rcases h with h | h
      · subst h; exact absurd (Nat.beq_refl _) hj
      · exact findH_setH_same fs i l h

theorem addN_mem {i : Nat} {l : List Nat} : i ∈ addN i l := by
  unfold addN
  split
  · exact memN_iff.1 ‹_›
  · exact List.mem_cons_self ..
theorem addN_sub {i j : Nat} {l : List Nat} (h : j ∈ l) : j ∈ addN i l := by
  unfold addN
  split
  · exact h
  · exact List.mem_cons_of_mem _ h
theorem Ok.store (hok : Ok G D s ε wx ws X a w) {key : Nat} {cells cells' : List SV} (hk : findH s.heap key = some cells) {b : Nat} {ty : TypeId} (hb : nth ε key = .pointer (some ⟨b, 0, none⟩))
    (hh : w.heap[b]? = some (.cells (denL ε cells).toArray ty (0, 0))) : Ok G D { s with heap := setH s.heap key cells', t0 := addN key s.t0 } ε wx ws X a (w.setRow b (denL ε cells').toArray) := by
  have hmem := findH_mem hk
  have hbk : blkOf (nth ε key) = some b := by rw [hb]; rfl
  have hlt : b < w.heap.size := (Array.getElem?_eq_some_iff.1 hh).1
  have kept : ∀ {M : Nat → Prop} {w0 : World}, Kept M w0 w → (b < w0.heap.size → M b) → Kept M w0 (w.setRow b (denL ε cells').toArray) := fun {M w0} h hm =>
    ⟨h.os, h.tape, h.output, by rw [setRow_size]; exact h.size, fun k hk' hn => by
      rw [setRow_other _ _ _ _ (fun e => hn (by subst e; exact hm hk'))]; exact h.block k hk' hn⟩
  exact {
    defers := hok.defers.to fun _ k hk => setRow_other _ _ _ _ (fun e => by
      obtain ⟨o, ho, hi⟩ := hk
      rw [e, hh] at ho
      cases ho
      cases hi)
    ltm := hok.ltm
    tm := hok.tm
    ks := hok.ks
    hp := by
      rw [factsAt_iff (by rw [keys_setH]; exact hok.nd)]
      intro i l hl
      by_cases hi : i = key
      · subst hi
        have : findH (setH s.heap i cells') i = some cells' := findH_setH_same _ _ _ hmem
        rw [this] at hl
        cases hl
        exact ⟨b, ty, hb, setRow_heap w b _ _ ty _ hh⟩
      · rw [findH_setH _ _ _ _ (fun e => hi e.symm)] at hl
        obtain ⟨b', ty', hb', hh'⟩ := findH_facts hok.hp hl
        refine ⟨b', ty', hb', ?_⟩
        have hne : b' ≠ b := fun e => by
          subst e
          exact hok.dj i key (findH_mem hl) hmem hi (by rw [hbk, hb']; rfl)
        rw [setRow_other _ _ _ _ hne]
        exact hh'
    nd := by rw [keys_setH]; exact hok.nd
    dj := by rw [keys_setH]; exact hok.dj
    base := kept hok.base (hok.kM key hmem b hbk)
    kx := kept (hok.kx.mono fun k _ ⟨i, hi, hb⟩ => ⟨i, addN_sub hi, hb⟩) (fun _ => ⟨key, addN_mem, hbk⟩)
    kws := fun hd => kept (hok.kws hd) (hok.kX hd key hmem b hbk)
    kwz := by rw [setRow_size]; exact hok.kwz
    kX := by rw [keys_setH]; exact hok.kX
    kM := by rw [keys_setH]; exact hok.kM
    path := hok.path }

/-! behind a call or another operation of which only its law is known -/
theorem setAll_keys : ∀ (fs h : Facts), keys (setAll h fs) = keys h
  | [], h => rfl
  | (i, l) :: fs, h => by simp only [setAll]; rw [setAll_keys fs, keys_setH]
theorem findH_setAll : ∀ (fs h : Facts) (i : Nat) (l : List SV), findH (setAll h fs) i = some l → (i, l) ∈ fs ∨ (i ∉ keys fs ∧ findH h i = some l)
  | [], h, i, l, hf => .inr ⟨by simp [keys], hf⟩
  | (j, m) :: fs, h, i, l, hf => by
    simp only [setAll] at hf
    rcases findH_setAll fs _ i l hf with h1 | ⟨h1, h2⟩
    · exact .inl (List.mem_cons_of_mem _ h1)
    · by_cases hij : j = i
      · subst hij
        have hm := findH_mem h2
        rw [keys_setH] at hm
        rw [findH_setH_same _ _ _ hm] at h2
        cases h2
        exact .inl (List.mem_cons_self ..)
      · rw [findH_setH _ _ _ _ hij] at h2
        exact .inr ⟨by simp only [keys, List.mem_cons]; rintro (h | h); exact hij h.symm; exact h1 h, h2⟩
theorem findH_setAll_other : ∀ (fs h : Facts) (i : Nat), i ∉ keys fs → findH (setAll h fs) i = findH h i
  | [], h, i, _ => rfl
  | (j, m) :: fs, h, i, hn => by
    simp only [keys, List.mem_cons, not_or] at hn
    simp only [setAll]
    rw [findH_setAll_other fs _ i hn.2, findH_setH _ _ _ _ (fun e => hn.1 e.symm)]
theorem factsAt_mem {w : World} : ∀ {fs : Facts}, FactsAt ε w fs → ∀ i l, (i, l) ∈ fs → HasBlk w (nth ε i) (denL ε l)
  | [], _, i, l, h => by simp at h
  | (j, m) :: fs, h, i, l, hi => by
    simp only [List.mem_cons, Prod.mk.injEq] at hi
    rcases hi with ⟨rfl, rfl⟩ | hi
    · exact h.1
    · exact factsAt_mem h.2 i l hi
theorem without_mem {l : List Nat} : ∀ {k : List Nat} {i : Nat}, i ∈ k → i ∉ l → i ∈ without l k
  | [], i, h, _ => by simp at h
  | j :: k, i, h, hn => by
    simp only [without]
    split
    · rename_i hm
      simp only [List.mem_cons] at h
      rcases h with rfl | h
      · exact absurd (memN_iff.1 hm) hn
      · exact without_mem h hn
    · simp only [List.mem_cons] at h ⊢
      rcases h with rfl | h
      · exact .inl rfl
      · exact .inr (without_mem h hn)

theorem Ok.shown (hok : Ok G D s ε wx ws X a w) : Shown G ε s.t0 s.heap wx w := ⟨hok.kx, hok.base, hok.hp, hok.dj⟩

theorem Ok.after (hok : Ok G D s ε wx ws X a w) (hw : wfS s = true) {bs tbs : List Base} {tf : Facts} {l : List Value} (hf : Fits (bs ++ tbs) l) {w' : World} {Fp : Nat → Prop} (hk : Kept Fp w w')
    (htf : FactsAt (ε ++ l) w' tf)
    (hFp : ∀ b, Fp b → b < w.heap.size → FpOk G s.drawn X ε (without (keys tf) (keys s.heap)) w b) :
    Ok G D (afterS s bs tbs tf) (ε ++ l) w' (if s.drawn then ws else w') (if s.drawn then X else BlkIn ε []) a w' := by
  have h := hok.ext hw hf
  obtain ⟨h1, h2, h3, h4⟩ := wfS_parts hw
  have hlen : ε.length = s.ks.length := hok.ks.length
  rw [← hlen] at h2
  have hn : ∀ i ∈ keys s.heap, nth (ε ++ l) i = nth ε i := fun i hi => nth_append _ _ _ (wfF_keys h2 i hi)
  have hblk : ∀ i ∈ keys s.heap, ∀ b, blkOf (nth (ε ++ l) i) = some b → BlkIn (ε ++ l) (keys s.heap) b := fun i hi b hb => ⟨i, hi, hb⟩
  exact {
    defers := h.defers.to fun hr b hb => hk.block b (by obtain ⟨o, ho, _⟩ := hb; exact (Array.getElem?_eq_some_iff.1 ho).1) (fun hfp => (hFp b hfp (by obtain ⟨o, ho, _⟩ := hb; exact (Array.getElem?_eq_some_iff.1 ho).1)).2.2.2 hr hb)
    ltm := h.ltm
    tm := h.tm
    ks := h.ks
    hp := by
      show FactsAt (ε ++ l) w' (setAll s.heap tf)
      rw [factsAt_iff (by rw [setAll_keys]; exact hok.nd)]
      intro i c hc
      rcases findH_setAll _ _ _ _ hc with hm | ⟨hm, hc⟩
      · exact factsAt_mem htf i c hm
      · obtain ⟨b, ty, hb, hh⟩ := findH_facts h.hp hc
        have hlt := (Array.getElem?_eq_some_iff.1 hh).1
        refine ⟨b, ty, hb, ?_⟩
        rw [hk.block b hlt (fun hfp => (hFp b hfp hlt).2.2.1 ⟨i, without_mem (findH_mem hc) hm, by rw [← hn i (findH_mem hc), hb]; rfl⟩)]
        exact hh
    nd := by show (keys (setAll s.heap tf)).Nodup; rw [setAll_keys]; exact hok.nd
    dj := by show ∀ i j, i ∈ keys (setAll s.heap tf) → j ∈ keys (setAll s.heap tf) → _; rw [setAll_keys]; exact h.dj
    base := hok.base.then hk fun i hi hfp => (hFp i hfp (Nat.lt_of_lt_of_le hi hok.base.size)).2.1 hi
    kx := Kept.refl _ _
    kws := fun hd => by
      have hd' : s.drawn = true := hd
      rw [if_pos hd', if_pos hd']
      exact (hok.kws hd').then hk fun i hi hfp => (hFp i hfp (Nat.lt_of_lt_of_le hi hok.kwz)).1 hd'
    kwz := by
      split
      · exact Nat.le_trans hok.kwz hk.size
      · exact Nat.le_refl _
    kX := fun hd => by
      have hd' : s.drawn = true := hd
      show ∀ i ∈ keys (setAll s.heap tf), _
      rw [setAll_keys]
      intro i hi b hb hlt
      rw [if_pos hd'] at hlt ⊢
      exact h.kX hd' i hi b hb hlt
    kM := by show ∀ i ∈ keys (setAll s.heap tf), _; rw [setAll_keys]; exact h.kM
    path := h.path }
end
end Go.Sx
