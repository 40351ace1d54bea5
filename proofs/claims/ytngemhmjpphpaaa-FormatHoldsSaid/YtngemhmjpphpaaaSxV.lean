/- Part V of a symbolic run of Go code by computation: its states, conditions and the proof that a condition that holds says what the function returns. No conditions of its own. -/
import Derived.Test.YtngemhmjpphpaaaSxU
import Derived.Laws.AppendOwn
import Derived.Laws.OwnMore
set_option linter.unusedVariables false
set_option linter.unusedSimpArgs false
namespace Go.Sx
open Go.RowKit

theorem Kept.of_grownBy {w w' : World} {row : Option Nat} (h : w.grownBy w' row) : Kept (fun b => row = some b) w w' :=
  ⟨h.os, h.tape, h.output, h.size, fun k hk hm => h.block k hk (fun e => hm e.symm)⟩
theorem Kept.owns {M : Nat → Prop} {w w' : World} (h : Kept M w w') {base : Nat} {e : TypeId} {size : Nat} {v : Value} {n : Nat} {xs : List Value} (ho : w.ownsRow base e size v n xs) (hm : ∀ k, v.ownBlock = some k → ¬ M k) : w'.ownsRow base e size v n xs := by
  refine ⟨ho.1, ?_⟩
  rcases ho.2 with hn | ⟨g, cap, cur, rfl, hb, hgg, rest⟩
  · exact .inl hn
  · refine .inr ⟨g, cap, cur, rfl, hb, ?_, rest⟩
    rw [h.block g (Array.getElem?_eq_some_iff.1 hgg).1 (hm g rfl)]
    exact hgg

section
variable {G : Ctx} {Λ : Nat → List Value → World → Prop} {ε : List Value} {wx ws : World} {X : Nat → Prop} {k k' : VC}

/-- an operation that may change the blocks Fp -/
theorem den_genF {op : Op} {type : TypeId} {vals : List (Operand × SV)} {bs : List Base} {rv : SV} {drawn : Bool} {t t' un : List Nat} {fs : Facts} (Fp : Nat → Prop) (R : World → List Value → World → Prop)
    (hF : ∀ w, Shown G ε t fs wx w → ∀ b, Fp b → b < w.heap.size → FpOk G drawn X ε un w b)
    (hc : ∀ w, Shown G ε t fs wx w → ∀ ρ : Operand → Value, (∀ p ∈ vals.map (fun p => (p.1, p.2.den ε)), ρ p.1 = p.2) →
      RunsTo G.P (execOp ρ (bare op type)) w (fun v w' => (∃ l, Fits bs l ∧ v = rv.den (ε ++ l) ∧ R w l w') ∧ Kept Fp w w'))
    (hk : ∀ w l w', Shown G ε t fs wx w → Fits bs l → R w l w' → Kept Fp w w' → k.den G Λ (ε ++ l) w' (if drawn then ws else w') (if drawn then X else BlkIn ε t')) :
    (VC.gen op type vals bs rv [] drawn t t' un fs k).den G Λ ε wx ws X := by
  intro w hw
  refine ⟨R w, Fp, ?_, hF w hw, allB_intro ?_⟩
  · intro ρ hρ
    exact (hc w hw ρ (valsAt_mem hρ)).mono fun v w' ⟨⟨l, hl, hv, hR⟩, hs⟩ => ⟨l, hl, hv, hR, hs, trivial⟩
  · intro l hl w' hR hs
    have := hk w l w' hw hl hR hs
    cases drawn <;> exact this

/-- append of a slice to a slice of one's own -/
theorem den_append {t₀ ty type e : TypeId} {i : TypeInfo} {z : Value} {size bytes base : Nat} {x y : Operand} {sx sy : SV} {drawn : Bool} {j : Nat} {t t' un : List Nat} {fs : Facts} {cl : Call}
    (hcl : cl = { callee := .builtin .append, args := #[x, y], argTypes := #[t₀, t₀] })
    (ht : G.P.underlying t₀ = some (.slice e)) (hi : G.P.info? e = some i) (hz : i.zero = some z) (hsize : i.size = size) (hby : i.bytes = bytes) (hzs : z.cells.size = size) (hsz : 0 < size)
    (v : Value) (n : Nat) (xs : List Value) (a : Addr) (m c : Nat) (news : List Value) (hx : sx.den ε = v) (hy : sy.den ε = .slice (some a) m c) (hl : news.length = m * size) (h1 : ∀ u ∈ news, u.oneCell' = true)
    (h63 : n + m ≤ maxLen) (hbytes : (n + m) * bytes ≤ 140737488355328)
    (hown : ∀ w, Shown G ε t fs wx w → base ≤ w.heap.size ∧ w.ownsRow base e size v n xs ∧ ∀ j u, news[j]? = some u → w.cell? (a.add j) = some u)
    (hF : ∀ w, Shown G ε t fs wx w → ∀ b, v.ownBlock = some b → b < w.heap.size → FpOk G drawn X ε un w b)
    (hj : ∀ v, nth (ε ++ [v]) j = v)
    (hk : ∀ w v' w', Shown G ε t fs wx w → w'.ownsRow base e size v' (n + m) (xs ++ news) → w.grownBy w' v.ownBlock → (v'.ownBlock = v.ownBlock ∨ ∃ b, v'.ownBlock = some b ∧ w.heap.size ≤ b) →
      k.den G Λ (ε ++ [v']) w' (if drawn then ws else w') (if drawn then X else BlkIn ε t')) :
    (VC.gen (.call cl) type [(x, sx), (y, sy)] [Base.slice] (.var j) [] drawn t t' un fs k).den G Λ ε wx ws X := by
  subst hcl
  refine den_genF (fun b => v.ownBlock = some b) (fun w l w' => ∃ v', l = [v'] ∧ w'.ownsRow base e size v' (n + m) (xs ++ news) ∧ w.grownBy w' v.ownBlock ∧ (v'.ownBlock = v.ownBlock ∨ ∃ b, v'.ownBlock = some b ∧ w.heap.size ≤ b)) hF ?_ ?_
  · intro w hw ρ hρ
    obtain ⟨hb, ho, hnews⟩ := hown w hw
    have e1 : ρ x = v := by have := hρ (x, sx.den ε) (by simp); rw [this, hx]
    have e2 : ρ y = .slice (some a) m c := by have := hρ (y, sy.den ε) (by simp); rw [this, hy]
    obtain ⟨v', w', hr, ho', hg, _⟩ := run_append_own (P := G.P) w base t₀ type e i z size bytes ht hi hz hsize hby hzs hsz v n xs ho a m c news hl hnews h1 h63 hbytes hb
    have hsl : ∃ a n c, v' = .slice a n c := by
      rcases ho'.2 with ⟨rfl, _⟩ | ⟨g, cap, cur, rfl, _⟩ <;> exact ⟨_, _, _, rfl⟩
    refine .inl ⟨v', w', .inl ?_, ⟨[v'], ⟨hsl, trivial⟩, ?_, v', rfl, ho', hg, ?_⟩, Kept.of_grownBy hg⟩
    · simp [execOp, bare, resolve, invoke, builtin, e1, e2, hr]
    · simp only [SV.den]; exact (hj _).symm
    · subst hsize
      subst hby
      rcases ho.2 with ⟨rfl, rfl⟩ | ⟨g, cap, cur, rfl, hbg, hgg, hnc, hcm, hcs, htake⟩
      · have hx0 : xs = [] := List.eq_nil_of_length_eq_zero (by simpa using ho.1)
        subst hx0
        obtain ⟨v2, w2, hr2, ho2, _, _⟩ := run_append_own (P := G.P) w w.heap.size t₀ type e i z i.size i.bytes ht hi hz rfl rfl hzs hsz (.slice none 0 0) 0 [] (World.ownsRow_nil w _ e i.size) a m c news hl hnews h1 h63 hbytes (Nat.le_refl _)
        rw [hr] at hr2
        cases hr2
        rcases ho2.2 with ⟨rfl, _⟩ | ⟨g', _, _, rfl, hge, _⟩
        · exact .inl rfl
        · exact .inr ⟨g', rfl, hge⟩
      · by_cases hroom : n + m ≤ cap
        · obtain ⟨w2, hr2, _, _⟩ := run_append_fits (P := G.P) w base t₀ type e i i.size ht hi rfl g n cap xs ho a m c news hl hnews h1 hroom
          rw [hr] at hr2
          cases hr2
          exact .inl rfl
        · have hr2 := run_append_grow (P := G.P) w t₀ type e i z ht hi hz ⟨g, 0, none⟩ n cap xs ho.1 (ho.cells (g := g) rfl) a m c news hl hnews (by omega) (by simp only [maxLen] at h63; omega) (growslice_fits (by omega) hbytes)
          rw [hr] at hr2
          cases hr2
          exact .inr ⟨_, rfl, Nat.le_refl _⟩
  · rintro w l w' hw hl' ⟨v', rfl, h2, h3, h4⟩ hs
    exact hk w v' w' hw h2 h3 h4
end
end Go.Sx
