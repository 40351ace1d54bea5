/- Part J of a symbolic run of Go code by computation: its states, conditions and the proof that a condition that holds says what the function returns. No conditions of its own. -/
import Derived.Test.YtngemhmjpphpaaaSxI
set_option linter.unusedVariables false
set_option linter.unusedSimpArgs false
namespace Go.Sx
open Go.RowKit

/-! ### the environment grows -/
theorem blt_true {i n : Nat} (h : Nat.blt i n = true) : i < n := Nat.le_of_ble_eq_true h
theorem blt_of {i n : Nat} (h : i < n) : Nat.blt i n = true := Nat.ble_eq_true_of_le h

theorem wfF_keys {n : Nat} : ∀ {fs : Facts}, wfF n fs = true → ∀ i ∈ keys fs, Nat.blt i n = true
  | [], _, i, h => by simp [keys] at h
  | (j, l) :: fs, h, i, hi => by
    simp only [wfF, Bool.and_eq_true] at h
    simp only [keys, List.mem_cons] at hi
    rcases hi with rfl | hi
    · exact h.1.1
    · exact wfF_keys h.2 i hi
theorem wfN_mem {n : Nat} : ∀ {l : List Nat}, wfN n l = true → ∀ i ∈ l, Nat.blt i n = true
  | [], _, i, h => by simp at h
  | j :: l, h, i, hi => by
    simp only [wfN, Bool.and_eq_true] at h
    simp only [List.mem_cons] at hi
    rcases hi with rfl | hi
    · exact h.1
    · exact wfN_mem h.2 i hi
theorem wfPath_mem {n : Nat} : ∀ {l : List (BE × Bool)}, wfPath n l = true → ∀ b r, (b, r) ∈ l → b.wf n = true
  | [], _, b, r, h => by simp at h
  | (c, q) :: l, h, b, r, hi => by
    simp only [wfPath, Bool.and_eq_true] at h
    simp only [List.mem_cons, Prod.mk.injEq] at hi
    rcases hi with ⟨rfl, rfl⟩ | hi
    · exact h.1
    · exact wfPath_mem h.2 b r hi
theorem wfT_get {n : Nat} : ∀ {l : List (Option SV)} {i : Nat} {v : SV}, wfT n l = true → getL l i = some v → v.wf n = true
  | [], i, v, _, h => by cases h
  | none :: l, 0, v, _, h => by cases h
  | none :: l, i + 1, v, hw, h => wfT_get (l := l) (i := i) (by simpa [wfT] using hw) h
  | some s :: l, 0, v, hw, h => by simp only [wfT, Bool.and_eq_true] at hw; simp only [getL, Option.some.injEq] at h; subst h; exact hw.1
  | some s :: l, i + 1, v, hw, h => wfT_get (l := l) (i := i) (by simp only [wfT, Bool.and_eq_true] at hw; exact hw.2) h

theorem factsAt_append {ε δ : List Value} {w : World} : ∀ {fs : Facts}, wfF ε.length fs = true → (FactsAt (ε ++ δ) w fs ↔ FactsAt ε w fs)
  | [], _ => Iff.rfl
  | (i, l) :: fs, h => by
    simp only [wfF, Bool.and_eq_true] at h
    simp only [FactsAt]
    rw [nth_append _ _ _ h.1.1, denL_append _ _ _ h.1.2, factsAt_append h.2]
theorem blkIn_append {ε δ : List Value} {t : List Nat} (h : wfN ε.length t = true) (b : Nat) : BlkIn (ε ++ δ) t b ↔ BlkIn ε t b := by
  constructor
  · rintro ⟨i, hi, hb⟩; rw [nth_append _ _ _ (wfN_mem h i hi)] at hb; exact ⟨i, hi, hb⟩
  · rintro ⟨i, hi, hb⟩; exact ⟨i, hi, by rw [nth_append _ _ _ (wfN_mem h i hi)]; exact hb⟩
theorem blkIn_append_keys {ε δ : List Value} {fs : Facts} (h : wfF ε.length fs = true) (b : Nat) : BlkIn (ε ++ δ) (keys fs) b ↔ BlkIn ε (keys fs) b := by
  constructor
  · rintro ⟨i, hi, hb⟩; rw [nth_append _ _ _ (wfF_keys h i hi)] at hb; exact ⟨i, hi, hb⟩
  · rintro ⟨i, hi, hb⟩; exact ⟨i, hi, by rw [nth_append _ _ _ (wfF_keys h i hi)]; exact hb⟩

theorem Fits.append : ∀ {bs bs' : List Base} {l l' : List Value}, Fits bs l → Fits bs' l' → Fits (bs ++ bs') (l ++ l')
  | [], _, [], _, _, h => h
  | _ :: bs, _, _ :: l, _, h, h' => ⟨h.1, Fits.append h.2 h'⟩
  | [], _, _ :: _, _, h, _ => h.elim
  | _ :: _, _, [], _, h, _ => h.elim

theorem Kept.blkIn_append {ε δ : List Value} {t : List Nat} (h : wfN ε.length t = true) {w w' : World} (hk : Kept (BlkIn ε t) w w') : Kept (BlkIn (ε ++ δ) t) w w' :=
  hk.mono fun k _ hb => (Sx.blkIn_append h k).2 hb

section
variable {G : Ctx} {D : List Deferred} {s : St} {ε : List Value} {wx ws : World} {X : Nat → Prop} {a : Act} {w : World} {o : Oper}

theorem wfS_parts (h : wfS s = true) : wfT s.ks.length s.tmps = true ∧ wfF s.ks.length s.heap = true ∧ wfN s.ks.length s.t0 = true ∧ wfPath s.ks.length s.path = true := by
  simp only [wfS, Bool.and_eq_true] at h
  exact ⟨h.1.1.1, h.1.1.2, h.1.2, h.2⟩

/-- more variables -/
theorem Ok.ext (hok : Ok G D s ε wx ws X a w) (hw : wfS s = true) {bs : List Base} {l : List Value} (hf : Fits bs l) : Ok G D { s with ks := s.ks ++ bs } (ε ++ l) wx ws X a w := by
  obtain ⟨h1, h2, h3, h4⟩ := wfS_parts hw
  have hlen : ε.length = s.ks.length := hok.ks.length
  rw [← hlen] at h1 h2 h3 h4
  have hn : ∀ i ∈ keys s.heap, nth (ε ++ l) i = nth ε i := fun i hi => nth_append _ _ _ (wfF_keys h2 i hi)
  exact {
    defers := hok.defers
    ltm := hok.ltm
    tm := fun i v hv => by rw [SV.den_append _ _ _ (wfT_get h1 hv)]; exact hok.tm i v hv
    ks := hok.ks.append hf
    hp := (factsAt_append h2).2 hok.hp
    nd := hok.nd
    dj := fun i j hi hj hne => by rw [hn i hi, hn j hj]; exact hok.dj i j hi hj hne
    base := hok.base
    kx := hok.kx.blkIn_append h3
    kws := hok.kws
    kwz := hok.kwz
    kX := fun hd i hi b hb => by rw [hn i hi] at hb; exact hok.kX hd i hi b hb
    kM := fun i hi b hb => by rw [hn i hi] at hb; exact hok.kM i hi b hb
    path := fun b r hb => by rw [BE.den_append _ _ _ (wfPath_mem h4 b r hb)]; exact hok.path b r hb }

theorem Ok.put (hok : Ok G D s ε wx ws X a w) (dst : Option Tmp) (v : SV) : Ok G D (s.put dst v) ε wx ws X (a.put dst (v.den ε)) w := by
  cases dst with
  | none => exact hok
  | some d => exact {
    defers := hok.defers
    ltm := by simp [Act.put, St.put, length_setL, hok.ltm]
    tm := fun i u hu => by
      simp only [St.put] at hu
      rcases getL_setL _ _ _ _ _ hu with ⟨h1, h2, h3⟩ | ⟨h1, h2⟩
      · subst h1
        cases h2
        have : i < a.tmps.size := by rw [hok.ltm]; exact h3
        simp [Act.put, this]
      · have := hok.tm i u h2
        simp only [Act.put]
        rw [Array.getElem?_setIfInBounds_ne (by omega)]
        exact this
    ks := hok.ks
    hp := hok.hp
    nd := hok.nd
    dj := hok.dj
    base := hok.base
    kx := hok.kx
    kws := hok.kws
    kwz := hok.kwz
    kX := hok.kX
    kM := hok.kM
    path := hok.path }

theorem Ok.addPath (hok : Ok G D s ε wx ws X a w) (p : List (BE × Bool)) (hp : ∀ b r, (b, r) ∈ p → b.den ε = r) : Ok G D { s with path := p } ε wx ws X a w :=
  { hok with path := hp }

theorem nilPath_ok {p : List BE} {l : List (BE × Bool)} (hl : ∀ b r, (b, r) ∈ l → b.den ε = r) (hp : ∀ q ∈ p, q.den ε = true) : ∀ b r, (b, r) ∈ nilPath p l → b.den ε = r := by
  induction p with
  | nil => exact hl
  | cons q p ih =>
    have ih' := ih (fun q hq => hp q (List.mem_cons_of_mem _ hq))
    have hq := hp q (List.mem_cons_self ..)
    cases q with
    | not c =>
      cases c with
      | nil i =>
        intro b r hb
        simp only [nilPath, List.mem_cons, Prod.mk.injEq] at hb
        rcases hb with ⟨rfl, rfl⟩ | hb
        · simpa [BE.den] using hq
        · exact ih' b r hb
      | _ => exact ih'
    | _ => exact ih'

theorem mkSVs_den : ∀ {bs : List Base} {l : List Value} (ε : List Value), Fits bs l → ∀ δ, denL (ε ++ l ++ δ) (mkSVs ε.length bs) = l
  | [], [], ε, _, δ => rfl
  | b :: bs, v :: l, ε, h, δ => by
    have hv : nth (ε ++ v :: l ++ δ) ε.length = v := by
      clear h
      induction ε with
      | nil => rfl
      | cons x ε ih => exact ih
    have h1 : (mkSV ε.length b).den (ε ++ v :: l ++ δ) = v := by
      have hb := h.1
      cases b with
      | int k => obtain ⟨n, rfl⟩ := hb; simp only [mkSV, SV.den, IE.den]; rw [hv]; rfl
      | bool => obtain ⟨n, rfl⟩ := hb; simp only [mkSV, SV.den, BE.den]; rw [hv]; rfl
      | _ => exact hv
    have h2 := mkSVs_den (bs := bs) (l := l) (ε ++ [v]) h.2 δ
    simp only [mkSVs, denL, h1]
    congr 1
    simpa using h2
  | [], _ :: _, _, h, _ => h.elim
  | _ :: _, [], _, h, _ => h.elim

/-- what a later state has to do with an earlier one -/
structure Nx (H : Option (List Nat)) (s s' : St) (ε ε' : List Value) (ws ws' : World) (X X' : Nat → Prop) : Prop where
  drawn : s'.drawn = s.drawn
  env : ∃ δ, ε' = ε ++ δ
  same : s.drawn = true → ws' = ws ∧ X' = X
  held : ∀ h, H = some h → ∀ i ∈ h, i < ε.length → findH s'.heap i = findH s.heap i

theorem Nx.trans {H : Option (List Nat)} {s s' s'' : St} {ε ε' ε'' : List Value} {ws ws' ws'' : World} {X X' X'' : Nat → Prop} (h : Nx H s s' ε ε' ws ws' X X') (k : Nx H s' s'' ε' ε'' ws' ws'' X' X'') : Nx H s s'' ε ε'' ws ws'' X X'' := by
  obtain ⟨δ, rfl⟩ := h.env
  obtain ⟨δ', rfl⟩ := k.env
  refine ⟨k.drawn.trans h.drawn, ⟨δ ++ δ', by simp⟩, fun hd => ?_, fun l hl i hi hlt => ?_⟩
  · obtain ⟨h1, h2⟩ := h.same hd
    obtain ⟨h3, h4⟩ := k.same (h.drawn.trans hd)
    exact ⟨h3.trans h1, h4.trans h2⟩
  · exact (k.held l hl i hi (by simp; omega)).trans (h.held l hl i hi hlt)

theorem Nx.refl (H : Option (List Nat)) (s : St) (ε : List Value) (ws : World) (X : Nat → Prop) : Nx H s s ε ε ws ws X X := ⟨rfl, ⟨[], by simp⟩, fun _ => ⟨rfl, rfl⟩, fun _ _ _ _ _ => rfl⟩

end
end Go.Sx
