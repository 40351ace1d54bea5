/- Part ZC of a symbolic run of Go code by computation: its states, conditions and the proof that a condition that holds says what the function returns. No conditions of its own. -/
import Derived.Test.YtngemhmjpphpaaaSxZB
set_option linter.unusedVariables false
set_option linter.unusedSimpArgs false
namespace Go.Sx
open Go.RowKit

/-! what is read stays what it is where its blocks stay -/
theorem HasBlk.of_eq {w w' : World} {p : Value} {l : List Value} (h : HasBlk w p l) (he : ∀ b, blkOf p = some b → w'.heap[b]? = w.heap[b]?) : HasBlk w' p l := by
  obtain ⟨b, ty, rfl, hh⟩ := h
  exact ⟨b, ty, rfl, (he b rfl).trans hh⟩
theorem Mine.of_eq {α : Type} {E : Enc α} {T : TypeId} {w w' : World} {s : Value} {L : List α} (h : Mine E T w s L) (he : ∀ b, s.ownBlock = some b → w'.heap[b]? = w.heap[b]?) : Mine E T w' s L := by
  rcases h with ⟨hl, ⟨rfl, hn⟩ | ⟨g, cap, cur, rfl, hb, hh, h1, h2, h3, h4⟩⟩ | ⟨rfl, g, cur, ty, rfl, hh⟩
  · exact .inl ⟨hl, .inl ⟨rfl, hn⟩⟩
  · exact .inl ⟨hl, .inr ⟨g, cap, cur, rfl, hb, (he g rfl).trans hh, h1, h2, h3, h4⟩⟩
  · exact .inr ⟨rfl, g, cur, ty, rfl, (he g rfl).trans hh⟩
theorem PtsTo.of_eq {w w' : World} {p : Value} {l : List Value} (h : PtsTo w p l) (he : ∀ b, blkOf p = some b → w'.heap[b]? = w.heap[b]?) : PtsTo w' p l := by
  obtain ⟨b, rfl, hc⟩ := h.at_
  exact ⟨b, rfl, fun m v hv => (World.cell?_of_block (he b rfl)).trans (hc m v hv)⟩
theorem Arr.of_eq {α : Type} {E : Enc α} {w w' : World} {s : Value} {L : List α} (h : Arr E w s L) (he : ∀ ad, vaddr s = some ad → w'.heap[ad.block]? = w.heap[ad.block]?) : Arr E w' s L :=
  ⟨h.1, h.2, fun j x hx => let ⟨ad, h1, h2⟩ := h.3 j x hx; ⟨ad, h1, (World.cell?_of_block (by rw [add_block]; exact he ad h1)).trans h2⟩⟩

section
variable {G : Ctx} {Λ : Nat → List Value → World → Prop} {ε : List Value} {wx ws : World} {X : Nat → Prop} {k k' : VC}
theorem shown_same {fs : Facts} {w : World} (h : Shown G ε [] fs wx w) : Same wx w := h.kept.mono fun _ _ ⟨i, hi, _⟩ => by simp at hi
theorem shown_new {t : List Nat} {fs : Facts} {w : World} (h : Shown G ε t fs wx w) (hn : ∀ b, BlkIn ε t b → wx.heap.size ≤ b) : Same wx w := h.kept.mono fun k hk hb => absurd (hn k hb) (by omega)
/-- a call of yield -/
theorem den_yield {fo : Operand} {argTypes : Array TypeId} {cl : Call} {type : TypeId} {fsv : SV} {vals : List (Operand × SV)} {n : Nat} {drawn : Bool} {t t' un : List Nat} {fs : Facts}
    (hcl : cl = { callee := .value fo, args := (vals.map (·.1)).toArray, argTypes := argTypes }) {l : Nat} (hf : fsv.den ε = .func (.yield l) #[] #[]) (Fp : World → Nat → Prop) (R : World → Bool → World → Prop)
    (hn : ∀ v, nth (ε ++ [.bool v]) n = .bool v)
    (hF : ∀ w, Shown G ε t fs wx w → ∀ b, Fp w b → b < w.heap.size → FpOk G drawn X ε un w b)
    (hc : ∀ w, Shown G ε t fs wx w → YieldAt Fence.wide 0 G.P l (vals.map (fun p => p.2.den ε)).toArray w (fun e w' => ∃ v, e = .returned (.bool v) ∧ R w v w' ∧ Kept (Fp w) w w'))
    (hk : ∀ w v w', Shown G ε t fs wx w → R w v w' → Kept (Fp w) w w' → k.den G Λ (ε ++ [.bool v]) w' (if drawn then ws else w') (if drawn then X else BlkIn ε t')) :
    (VC.gen (.call cl) type ((fo, fsv) :: vals) [Base.bool] (.bool (.var n)) [] drawn t t' un fs k).den G Λ ε wx ws X := by
  subst hcl
  intro w hw
  refine ⟨fun l w' => ∃ v, l = [.bool v] ∧ R w v w', Fp w, fun ρ hρ => ?_, hF w hw, allB_intro ?_⟩
  · have h1 : ρ fo = .func (.yield l) #[] #[] := by rw [hρ.1, hf]
    have h2 : (vals.map (·.1)).toArray.map ρ = (vals.map (fun p => p.2.den ε)).toArray := by
      have : ∀ l : List (Operand × SV), ValsAt ε ρ l → l.map (fun p => ρ p.1) = l.map (fun p => p.2.den ε) := by
        intro l
        induction l with
        | nil => intro _; rfl
        | cons p l ih => intro h; simp only [List.map_cons]; rw [h.1, ih h.2]
      apply Array.ext'
      simp only [Array.toList_map, List.map_map]
      exact this vals hρ.2
    obtain ⟨fn, tmps, assign, body, hr, hround⟩ := hc w hw
    refine .inr (.inl ⟨l, fn, tmps, assign, body, w, ?_, hround.mono ?_⟩)
    · simp only [execOp, bare, resolve, h1, Sem.run_bind]
      simp [Deferred.ofValue, h2, invoke]
      simpa using hr
    · rintro e w' ⟨v, rfl, hR, hk'⟩
      exact ⟨_, rfl, [.bool v], ⟨⟨_, rfl⟩, trivial⟩, by simp only [SV.den, BE.den, hn]; rfl, ⟨v, rfl, hR⟩, hk', trivial⟩
  · rintro l hl w' ⟨v, rfl, hR⟩ hsame
    have := hk w v w' hw hR hsame
    cases drawn <;> exact this
end
end Go.Sx
