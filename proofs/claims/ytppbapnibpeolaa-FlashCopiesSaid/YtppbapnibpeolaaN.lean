/- A literal row of bytes. No conditions beyond those that each theorem names. -/
import Derived.Test.YtppbapnibpeolaaL
set_option maxRecDepth 100000
set_option maxHeartbeats 2000000
set_option linter.unusedVariables false
set_option linter.unusedSimpArgs false
namespace Go.Proofs.Ytppbapnibpeolaa
open Go.Sx Go.RowKit

theorem lit_arr {α : Type} {E : Enc α} {w : World} {b n : Nat} {L : List α} (hn : L.length = n) (h : HasBlk w (pt b) (L.flatMap E.enc)) : Arr E w (slc0 b n n) L := by
  subst hn
  have hr := h.reads 0 L.length L.length E.sz (by rw [flatMap_length]; omega)
  simp only [vaddr, addO, Option.map_some, addr_add, Nat.zero_add, List.drop_zero] at hr
  rw [List.take_of_length_le (by rw [flatMap_length]; exact Nat.le_refl _)] at hr
  exact hr
theorem lit_given {α : Type} {E : Enc α} {w : World} {b n : Nat} {L : List α} (hn : L.length = n) (hpos : L ≠ []) (hsz : 0 < E.sz) (h : HasBlk w (pt b) (L.flatMap E.enc)) : Given E w (slc0 b n n) L := by
  refine ⟨lit_arr hn h, fun _ _ e => by (cases e), by show L.length ≤ n; omega, fun ad had => ?_⟩
  cases had
  exact h.pts.lt (by intro e; have h1 := congrArg List.length e; rw [flatMap_length] at h1; have h2 := Nat.mul_pos (List.length_pos_iff.2 hpos) hsz; have h3 : L.length * E.sz = 0 := h1; omega) b rfl
/-- the mark of a literal's row -/
theorem run_mark {P : Program} {t e : TypeId} (ht : P.underlying t = some (.slice e)) (he : P.underlying e = some (.int .u8)) {w : World} {b n : Nat} {D : List Int} (hn : D.length = n) (h : HasBlk w (pt b) (D.flatMap byteE.enc)) :
    ∃ w', (convert t t (slc0 b n n)).run P w = .ok (slc0 b n n) w' ∧ Arr byteE w' (slc0 b n n) D ∧ Kept (fun y => y = b) w w' := by
  have hA := lit_arr hn h
  obtain ⟨b', ty, e1, hh⟩ := h
  cases e1
  have hsh : w.shape? b = some (ty, (D.flatMap byteE.enc).toArray.size) := by
    unfold World.shape?
    rw [hh]
  have hfz : (w.freeze ⟨b, (D.flatMap byteE.enc).toArray.size, none⟩ 1).heap = w.heap.modify b fun
      | .cells c elem (lo, hi) => .cells c elem (if lo == hi then ((D.flatMap byteE.enc).toArray.size, (D.flatMap byteE.enc).toArray.size + 1) else (min lo (D.flatMap byteE.enc).toArray.size, max hi ((D.flatMap byteE.enc).toArray.size + 1)))
      | o => o := by
    unfold World.freeze
    rw [if_neg (by decide)]
    rfl
  have hb : (w.freeze ⟨b, (D.flatMap byteE.enc).toArray.size, none⟩ 1).heap[b]? = some (.cells (D.flatMap byteE.enc).toArray ty ((D.flatMap byteE.enc).toArray.size, (D.flatMap byteE.enc).toArray.size + 1)) := by
    rw [hfz, Array.getElem?_modify, if_pos rfl, hh]
    simp
  have hk : Kept (fun y => y = b) w (w.freeze ⟨b, (D.flatMap byteE.enc).toArray.size, none⟩ 1) := by
    refine ⟨?_, ?_, ?_, ?_, fun r hr hne => ?_⟩
    · unfold World.freeze; rw [if_neg (by decide)]
    · unfold World.freeze; rw [if_neg (by decide)]
    · unfold World.freeze; rw [if_neg (by decide)]
    · rw [hfz]; simp
    · rw [hfz, Array.getElem?_modify, if_neg (fun e => hne e.symm)]
  refine ⟨_, ?_, ⟨hA.1, hA.2, fun j x hx => ?_⟩, hk⟩
  · simp [convert, run_underlying ht, run_underlying he, markStringish, hsh]
  · obtain ⟨ad, had, hc⟩ := hA.3 j x hx
    refine ⟨ad, had, ?_⟩
    cases had
    rw [← hc]
    simp only [World.cell?, addr_add, hb, hh]
section
variable {G : Ctx} {Λ : Nat → List Value → World → Prop} {ε : List Value} {wx ws : World} {X : Nat → Prop} {k : VC}
theorem den_lit {t₀ e type : TypeId} {x : Operand} {kb n j : Nat} {t t' un : List Nat} {fs : Facts} {cs : List SV} (ht : G.P.underlying t₀ = some (.slice e)) (he : G.P.underlying e = some (.int .u8)) (D : List Int) (hD : D ≠ []) (hn : D.length = n) (hf : findH fs kb = some cs) (hcs : denL ε cs = D.flatMap byteE.enc)
    (hun : ∀ i ∈ un, i ∈ keys fs ∧ i ≠ kb) (hkb : kb ∈ keys fs) (hj : ∀ v, nth (ε ++ [v]) j = v) (hM : ∀ w b, Shown G ε t fs wx w → nth ε kb = pt b → b < G.W0.heap.size → G.M b)
    (hk : ∀ w w' b, Shown G ε t fs wx w → nth ε kb = pt b → Given byteE w' (slc0 b n n) D → Kept (fun y => y = b) w w' → k.den G Λ (ε ++ [slc0 b n n]) w' w' (BlkIn ε t')) :
    (VC.gen (.convert t₀ t₀ x) type [(x, .slc kb 0 n n)] [.slice] (.var j) [] false t t' un fs k).den G Λ ε wx ws X := by
  refine den_genF (fun y => blkOf (nth ε kb) = some y) (fun w l w' => ∃ b, nth ε kb = pt b ∧ l = [slc0 b n n] ∧ Given byteE w' (slc0 b n n) D ∧ Kept (fun y => y = b) w w') (fun w hw y hy hlt => ⟨fun h => (by cases h), fun hl => ?_, fun hin => ?_, fun hrc => ?_⟩) ?_ ?_
  · obtain ⟨b, ty, hp, hh⟩ := findH_facts hw.facts hf
    rw [hp] at hy
    cases hy
    exact hM w b hw hp hl
  · obtain ⟨i, hi, e⟩ := hin
    exact hw.dj i kb (hun i hi).1 hkb (hun i hi).2 (by rw [e, hy])
  · obtain ⟨b, ty, hp, hh⟩ := findH_facts hw.facts hf
    rw [hp] at hy
    cases hy
    rintro ⟨o, ho, hr⟩
    rw [hh] at ho
    cases ho
    cases hr
  · intro w hw ρ hρ
    have hb := findH_facts hw.facts hf
    rw [hcs] at hb
    obtain ⟨b, ty, hp, hh⟩ := id hb
    rw [hp] at hb
    obtain ⟨w', hr, hA, hk'⟩ := run_mark ht he hn hb
    have e1 : ρ x = slc0 b n n := by
      have := hρ (x, (SV.slc kb 0 n n).den ε) (by simp)
      rw [this]
      simp only [SV.den, hp, vaddr, addO, Option.map_some, addr_add, Nat.zero_add]
    have hG : Given byteE w' (slc0 b n n) D := by
      refine ⟨hA, fun _ _ e => by (cases e), by show D.length ≤ n; omega, fun ad had => ?_⟩
      cases had
      exact Nat.lt_of_lt_of_le (Array.getElem?_eq_some_iff.1 hh).1 hk'.size
    refine .inl ⟨slc0 b n n, w', .inl ?_, ⟨[slc0 b n n], ⟨⟨_, _, _, rfl⟩, trivial⟩, ?_, b, hp, rfl, hG, hk'⟩, hk'.mono fun y _ e => by rw [hp, e]; rfl⟩
    · simp [execOp, bare, e1, hr]
    · simp only [SV.den]; exact (hj _).symm
  · rintro w l w' hw hl ⟨b, hp, rfl, hG, hk'⟩ hs
    exact hk w w' b hw hp hG hk'
end
end Go.Proofs.Ytppbapnibpeolaa
