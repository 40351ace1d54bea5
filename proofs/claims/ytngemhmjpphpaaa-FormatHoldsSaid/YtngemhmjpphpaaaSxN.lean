/- Part N of a symbolic run of Go code by computation: its states, conditions and the proof that a condition that holds says what the function returns. No conditions of its own. -/
import Derived.Test.YtngemhmjpphpaaaSxM
set_option linter.unusedVariables false
set_option linter.unusedSimpArgs false
namespace Go.Sx
open Go.RowKit

section
variable {G : Ctx} {D : List Deferred} {s : St} {ε : List Value} {wx ws : World} {X : Nat → Prop} {a : Act} {w : World} {o : Oper}
variable {c : Cfg} {H : Option (List Nat)} {K : St → VC} {KK : Act → World → Prop} {Λ : Nat → List Value → World → Prop} {ops : Array Oper}

theorem Nx.path {H : Option (List Nat)} {s s' : St} {ε ε' : List Value} {ws ws' : World} {X X' : Nat → Prop} (p : List (BE × Bool)) (h : Nx H { s with path := p } s' ε ε' ws ws' X X') : Nx H s s' ε ε' ws ws' X X' :=
  ⟨h.drawn, h.env, h.same, h.held⟩
theorem Cont.path (h : Cont G Λ D H s ε ws X K KK) (p : List (BE × Bool)) : Cont G Λ D H { s with path := p } ε ws X K KK :=
  fun s' ε' wx' ws' X' a' w' hn => h s' ε' wx' ws' X' a' w' (hn.path p)

theorem guard_val (hok : Ok G D s ε wx ws X a w) {j : Nat} {v : SV} (h : ((ops[j]?).bind (·.dst)).bind (getL s.tmps) = some v) : ((ops[j]?).bind (·.dst)).bind (a.tmps[·]?) = some (v.den ε) := by
  cases hd : (ops[j]?).bind (·.dst) with
  | none => rw [hd] at h; cases h
  | some d =>
    rw [hd] at h
    simp only [Option.bind_some] at h ⊢
    exact hok.tm d v h
theorem yielded_bool (hok : Ok G D s ε wx ws X a w) {j : Nat} {b : BE} (h : ((ops[j]?).bind (·.dst)).bind (getL s.tmps) = some (.bool b)) : yielded ops a.tmps j = some (b.den ε) := by
  unfold yielded
  rw [guard_val hok h]
  rfl
theorem yielded_none (hok : Ok G D s ε wx ws X a w) {j : Nat} {v : Value} (h : ((ops[j]?).bind (·.dst)).bind (getL s.tmps) = some (.cst v)) (hv : notBool v = true) : yielded ops a.tmps j = none := by
  unfold yielded
  rw [guard_val hok h]
  simp only [SV.den]
  cases v <;> first | rfl | cases hv

theorem exOp_sound (hP : c.P = G.P) (hok : Ok G D s ε wx ws X a w) {i : Nat} (ho : ops[i]? = some o) (h : (exOp c H ops o K s).den G Λ ε wx ws X) (hK : Cont G Λ D H s ε ws X K KK) : opG G.P ops i KK a w := by
  unfold opG
  rw [ho]
  simp only
  have skip : ∀ p, (∀ b r, (b, r) ∈ p → b.den ε = r) → (K ({ s with path := p }.put o.dst undefS)).den G Λ ε wx ws X → KK (a.put o.dst undef) w := fun p hp hd => by
    refine hK _ _ _ _ _ _ _ ?_ ((hok.addPath p hp).put o.dst undefS) hd
    refine Nx.of_put ?_ _ _
    exact ⟨rfl, ⟨[], by simp⟩, fun _ => ⟨rfl, rfl⟩, fun _ _ _ _ _ => rfl⟩
  unfold exOp at h
  split at h
  · rename_i hg
    have hw : Region.wanted o (yielded ops a.tmps) = true := by simp [Region.wanted, hg]
    rw [if_pos hw]
    exact exDo_sound hP hok h hK
  · rename_i j want hg
    have hwant : Region.wanted o (yielded ops a.tmps) = (yielded ops a.tmps j == some want) := by simp [Region.wanted, hg]
    split at h
    · rename_i b hb
      have hy := yielded_bool hok hb
      split at h
      · rename_i r hr
        have hrr := known_sound hok.path hr
        rw [hrr] at hy
        split at h
        · rename_i hrw
          have hw : Region.wanted o (yielded ops a.tmps) = true := by rw [hwant, hy]; simpa using hrw
          rw [if_pos hw]
          exact exDo_sound hP hok h hK
        · rename_i hrw
          have hw : ¬ Region.wanted o (yielded ops a.tmps) = true := by rw [hwant, hy]; simpa using hrw
          rw [if_neg hw]
          exact skip s.path hok.path h
      · rename_i hr
        have go : ∀ r, b.den ε = r → (if r == want then exDo c H o K { s with path := (b, r) :: s.path } else K ({ s with path := (b, r) :: s.path }.put o.dst undefS)).den G Λ ε wx ws X →
            if Region.wanted o (yielded ops a.tmps) = true then OpGood G.P o a w KK else KK (a.put o.dst undef) w := by
          intro r hbr hd
          have hp : ∀ b' r', (b', r') ∈ (b, r) :: s.path → b'.den ε = r' := by
            intro b' r' hm
            simp only [List.mem_cons, Prod.mk.injEq] at hm
            rcases hm with ⟨rfl, rfl⟩ | hm
            · exact hbr
            · exact hok.path b' r' hm
          rw [hbr] at hy
          by_cases hrw : (r == want) = true
          · rw [if_pos hrw] at hd
            have hw : Region.wanted o (yielded ops a.tmps) = true := by rw [hwant, hy]; simpa using hrw
            rw [if_pos hw]
            exact exDo_sound hP (hok.addPath _ hp) hd (hK.path _)
          · rw [if_neg hrw] at hd
            have hw : ¬ Region.wanted o (yielded ops a.tmps) = true := by rw [hwant, hy]; simpa using hrw
            rw [if_neg hw]
            exact skip _ hp hd
        cases hbv : b.den ε with
        | true =>
          refine go true hbv ?_
          have := h.1 hbv
          cases want <;> simpa using this
        | false =>
          refine go false hbv ?_
          have := h.2 hbv
          cases want <;> simpa using this
    · rename_i v hv
      split at h
      · rename_i hnb
        have hy := yielded_none hok hv hnb
        have hw : ¬ Region.wanted o (yielded ops a.tmps) = true := by rw [hwant, hy]; simp
        rw [if_neg hw]
        exact skip s.path hok.path h
      · exact h.elim
    · exact h.elim

/-! in the order of the text -/
theorem exSeq_sound (hP : c.P = G.P) : ∀ (l : List Oper) (m : Nat), (∀ k, ops[m + k]? = l[k]?) → ∀ {s : St} {ε : List Value} {wx ws : World} {X : Nat → Prop} {a : Act} {w : World}, Ok G D s ε wx ws X a w →
    (exSeq c ops l K s).den G Λ ε wx ws X → Cont G Λ D none s ε ws X K KK → seqG G.P ops KK ((List.range l.length).map (m + ·)) a w
  | [], m, _, s, ε, wx, ws, X, a, w, hok, h, hK => by
    exact hK _ _ _ _ _ _ _ (Nx.refl _ _ _ _ _) hok h
  | o :: r, m, hm, s, ε, wx, ws, X, a, w, hok, h, hK => by
    have ho : ops[m]? = some o := by have := hm 0; simpa using this
    have hrange : (List.range (o :: r).length).map (m + ·) = m :: (List.range r.length).map (m + 1 + ·) := by
      simp only [List.length_cons, List.range_succ_eq_map, List.map_cons, List.map_map, Nat.add_zero]
      congr 1
      apply List.map_congr_left
      intro x _
      simp only [Function.comp_apply]
      omega
    rw [hrange]
    refine exOp_sound hP hok ho h ?_
    intro s' ε' wx' ws' X' a' w' hn hok' hd
    refine exSeq_sound hP r (m + 1) (fun k => ?_) hok' hd ?_
    · have := hm (k + 1)
      rw [show m + 1 + k = m + (k + 1) by omega, this]
      rfl
    · intro s'' ε'' wx'' ws'' X'' a'' w'' hn' hok'' hd'
      exact hK _ _ _ _ _ _ _ (hn.trans hn') hok'' hd'

end
end Go.Sx
