/- Part ZA of a symbolic run of Go code by computation: its states, conditions and the proof that a condition that holds says what the function returns. No conditions of its own. -/
import Derived.Test.YtngemhmjpphpaaaSxZ
set_option linter.unusedVariables false
set_option linter.unusedSimpArgs false
namespace Go.Sx
open Go.RowKit

section
variable {G : Ctx} {Λ : Nat → List Value → World → Prop} {ε : List Value} {wx ws : World} {X : Nat → Prop} {k k' : VC}

theorem SeqOk.same {P : Program} {g : Nat} {caps : Array Value} {w w' : World} {Ft : Nat → Prop} {ys : List (Array Value)} (h : SeqOk P g caps w Ft ys) (hs : ∀ b, Ft b → w'.heap[b]? = w.heap[b]?) : SeqOk P g caps w' Ft ys :=
  fun l J Jx W h1 h2 h3 => h l J Jx W (fun k W1 hJ b hb => (h1 k W1 hJ b hb).trans (hs b hb)) h2 h3

/-- v is an iterator that reads no more than blocks from lo to hi, and hands out these -/
structure SeqAt (P : Program) (lo hi : Nat) (w : World) (v : Value) (ys : List (Array Value)) : Prop where
  ex : ∃ (g : Nat) (caps : Array Value) (Ft : Nat → Prop), v = .func (.func g) #[] caps ∧ goFunc P g = true ∧ SeqOk P g caps w Ft ys ∧ ∀ b, Ft b → lo ≤ b ∧ b < hi ∧ b < w.heap.size ∧ ¬ IsRec w b
theorem SeqAt.kept {P : Program} {lo hi : Nat} {w w2 : World} {v : Value} {ys : List (Array Value)} {M : Nat → Prop} (h : SeqAt P lo hi w v ys) (hk : Kept M w w2) (hM : ∀ b, lo ≤ b → b < hi → ¬ IsRec w b → ¬ M b) : SeqAt P lo hi w2 v ys := by
  obtain ⟨g, caps, Ft, rfl, hg, hs, hf⟩ := h.ex
  have hb : ∀ b, Ft b → w2.heap[b]? = w.heap[b]? := fun b hb => hk.block b (hf b hb).2.2.1 (hM b (hf b hb).1 (hf b hb).2.1 (hf b hb).2.2.2)
  refine ⟨g, caps, Ft, rfl, hg, hs.same hb, fun b hb' => ⟨(hf b hb').1, (hf b hb').2.1, Nat.lt_of_lt_of_le (hf b hb').2.2.1 hk.size, ?_⟩⟩
  rintro ⟨o, ho, hr⟩
  rw [hb b hb'] at ho
  exact (hf b hb').2.2.2 ⟨o, ho, hr⟩

/-- what holds behind a round's code -/
abbrev RoundΛ (i : Nat) (J : List Value → World → Prop) (Λ : Nat → List Value → World → Prop) (Ft : Nat → Prop) (w : World) : Nat → List Value → World → Prop :=
  fun j vs' w'' => if j = i then J vs' w'' ∧ ∀ b, Ft b → w''.heap[b]? = w.heap[b]? else Λ j vs' w''
theorem den_leaf_round {i : Nat} {J : List Value → World → Prop} {Ft : Nat → Prop} {w w0 w' : World} {vs : List SV} {t : List Nat} {fs : Facts} (hFt : ∀ b, Ft b → w'.heap[b]? = w.heap[b]? ∧ b < w'.heap.size)
    (h : ∀ w2, Shown (G.round w0 w' Ft) ε t fs wx w2 → J (denL ε vs) w2) : (VC.leaf i vs t fs).den (G.round w0 w' Ft) (RoundΛ i J Λ Ft w) ε wx ws X := by
  intro w2 hw2
  refine (if_pos rfl).mpr ⟨h w2 hw2, fun b hb => ?_⟩
  have hk : Kept (fun b => b < w0.heap.size ∧ (b < G.W0.heap.size → G.M b) ∧ ¬ Ft b) w' w2 := hw2.base
  exact (hk.block b (hFt b hb).2 fun hm => hm.2.2 hb).trans (hFt b hb).1
/-- the code behind a jump out of a round -/
theorem den_resume {i : Nat} {J : List Value → World → Prop} {Ft : Nat → Prop} {w w0 w' : World} {t t' : List Nat} {fs : Facts}
    (h : ∀ w2, Shown (G.round w0 w' Ft) ε t fs wx w2 → ∀ w3, Quiet w2 w3 → Kept G.M G.W0 w3 → k.den (G.round w0 w' Ft).out (RoundΛ i J Λ Ft w) ε w3 w3 (BlkIn ε t')) : (VC.resume t t' fs k).den (G.round w0 w' Ft) (RoundΛ i J Λ Ft w) ε wx ws X :=
  fun w2 hw2 w3 hq hk => h w2 hw2 w3 hq hk
/-- a range over a function -/
theorem den_range {i : Nat} {fv : SV} {ybs : List Base} {tys : List TypeId} {vs : List SV} {cbs : List Base} {t t' : List Nat} {fs fsa : Facts} {kb ka : VC}
    (xs : List (List Value)) (J : Nat → List Value → World → Prop) (lo hi : Nat)
    (hxs : ∀ x ∈ xs, Fits ybs x) (hblk : ∀ b, BlkIn ε t' b → b < lo ∨ hi ≤ b)
    (hseq : ∀ w, Shown G ε t fs wx w → SeqAt G.P lo hi w (fv.den ε) (xs.map fun x => (yvals G.P tys x).toArray))
    (h0 : ∀ w, Shown G ε t fs wx w → J 0 (denL ε vs) w)
    (hround : ∀ w Ft, Shown G ε t fs wx w → ∀ k x, xs[k]? = some x → ∀ l, Fits cbs l → ∀ w0 w', J k l w0 → Quiet w0 w' → Kept G.M G.W0 w' → FactsAt (ε ++ l ++ x) w' fsa → (∀ b, Ft b → w'.heap[b]? = w.heap[b]? ∧ b < w'.heap.size) →
      kb.den (G.round w0 w' Ft) (RoundΛ i (J (k + 1)) Λ Ft w) (ε ++ l ++ x) w' w' (BlkIn (ε ++ l ++ x) t'))
    (hafter : ∀ w, Shown G ε t fs wx w → ∀ l, Fits cbs l → ∀ w0 w', J xs.length l w0 → Quiet w0 w' → Kept G.M G.W0 w' → FactsAt (ε ++ l) w' fsa → ka.den G Λ (ε ++ l) w' w' (BlkIn (ε ++ l) t')) :
    (VC.range i fv ybs tys vs cbs t t' fs fsa kb ka).den G Λ ε wx ws X := by
  intro w hw
  obtain ⟨g, caps, Ft, hv, hg, hs, hf⟩ := (hseq w hw).ex
  refine ⟨g, caps.toList, xs, fun k l w' => J k l w' ∧ ∀ b, Ft b → w'.heap[b]? = w.heap[b]?, Ft, by rw [hv], hg, hxs, hs, fun _ _ _ h => h.2, fun b hb => ⟨(hf b hb).2.2.1, (hf b hb).2.2.2, fun hin => ?_⟩, ⟨h0 w hw, fun _ _ => rfl⟩, fun k x hx => allB_intro fun l hl w0 w' hJ hq hk hfa => ?_, allB_intro fun l hl w0 w' hJ hq hk hfa => ?_⟩
  · have := (hf b hb).1
    have := (hf b hb).2.1
    rcases hblk b hin with h | h <;> omega
  · refine hround w Ft hw k x hx l hl w0 w' hJ.1 hq hk hfa fun b hb => ?_
    have hlt := (hf b hb).2.2.1
    have h1 := hJ.2 b hb
    have hlt0 : b < w0.heap.size := by
      rw [Array.getElem?_eq_getElem hlt] at h1
      exact (Array.getElem?_eq_some_iff.1 h1).1
    have h2 : w'.heap[b]? = w0.heap[b]? := hq.block b hlt0 fun ⟨o, ho, hr⟩ => (hf b hb).2.2.2 ⟨o, by rw [← h1]; exact ho, hr⟩
    exact ⟨h2.trans h1, Nat.lt_of_lt_of_le hlt0 hq.size⟩
  · exact hafter w hw l hl w0 w' hJ.1 hq hk hfa
end
end Go.Sx
