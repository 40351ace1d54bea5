/- Part O of a symbolic run of Go code by computation: its states, conditions and the proof that a condition that holds says what the function returns. No conditions of its own. -/
import Derived.Test.YtdinjabnfjoojaaSxN
set_option linter.unusedVariables false
set_option linter.unusedSimpArgs false
namespace Go.Sx
open Go.RowKit

section
variable {G : Ctx} {D : List Deferred} {s : St} {ε : List Value} {wx ws : World} {X : Nat → Prop} {a : Act} {w : World} {o : Oper}
variable {c : Cfg} {K : St → VC} {KK : Act → World → Prop} {Λ : Nat → List Value → World → Prop} {ops : Array Oper}

/-! in whatever order -/
/-- what every operation of the region leaves as it was -/
def Sreg (X : Nat → Prop) (ws : World) (h : List Nat) (ε0 : List Value) (hp0 : Facts) (w : World) : Prop :=
  Kept X ws w ∧ ∀ i l, i ∈ h → findH hp0 i = some l → HasBlk w (nth ε0 i) (denL ε0 l)

theorem wfF_find {n : Nat} : ∀ {fs : Facts} {i : Nat} {l : List SV}, wfF n fs = true → findH fs i = some l → wfL n l = true
  | [], _, _, _, h => by cases h
  | (j, m) :: fs, i, l, hw, h => by
    simp only [wfF, Bool.and_eq_true] at hw
    simp only [findH] at h
    split at h
    · cases h; exact hw.1.2
    · exact wfF_find hw.2 h

/-- where the region is, as to its entry -/
structure InReg (s0 : St) (ε0 : List Value) (ws : World) (X : Nat → Prop) (h : List Nat) (s : St) (ε : List Value) : Prop where
  nx : Nx (some h) s0 s ε0 ε ws ws X X
  wf : wfF ε0.length s0.heap = true
  low : ∀ i ∈ h, i < ε0.length
  drawn : s0.drawn = true

theorem InReg.S {s0 : St} {ε0 : List Value} {h : List Nat} (hi : InReg s0 ε0 ws X h s ε) (hok : Ok G D s ε wx ws X a w) : Sreg X ws h ε0 s0.heap w := by
  refine ⟨hok.kws (hi.nx.drawn.trans hi.drawn), fun i l hm hf => ?_⟩
  have he := hi.nx.held h rfl i hm (hi.low i hm)
  obtain ⟨δ, hδ⟩ := hi.nx.env
  have := findH_facts hok.hp (he.trans hf)
  rw [hδ, nth_append _ _ _ (blt_of (hi.low i hm)), denL_append _ _ _ (wfF_find hi.wf hf)] at this
  exact this

theorem InReg.load {s0 : St} {ε0 : List Value} {h : List Nat} (hi : InReg s0 ε0 ws X h s ε) {w' : World} (hS : Sreg X ws h ε0 s0.heap w') {i : Nat} (hm : i ∈ h) {l : List SV} (hf : findH s.heap i = some l) : HasBlk w' (nth ε i) (denL ε l) := by
  have he := hi.nx.held h rfl i hm (hi.low i hm)
  obtain ⟨δ, hδ⟩ := hi.nx.env
  rw [he] at hf
  rw [hδ, nth_append _ _ _ (blt_of (hi.low i hm)), denL_append _ _ _ (wfF_find hi.wf hf)]
  exact hS.2 i l hm hf

theorem InReg.step {s0 s' : St} {ε0 ε' : List Value} {h : List Nat} (hi : InReg s0 ε0 ws X h s ε) {ws' : World} {X' : Nat → Prop} (hn : Nx (some h) s s' ε ε' ws ws' X X') : ws' = ws ∧ X' = X ∧ InReg s0 ε0 ws X h s' ε' := by
  have hd : s.drawn = true := hi.nx.drawn.trans hi.drawn
  obtain ⟨rfl, rfl⟩ := hn.same hd
  exact ⟨rfl, rfl, hi.nx.trans hn, hi.wf, hi.low, hi.drawn⟩

theorem InReg.path {s0 : St} {ε0 : List Value} {h : List Nat} (hi : InReg s0 ε0 ws X h s ε) (p : List (BE × Bool)) : InReg s0 ε0 ws X h { s with path := p } ε :=
  ⟨⟨hi.nx.drawn, hi.nx.env, hi.nx.same, hi.nx.held⟩, hi.wf, hi.low, hi.drawn⟩

/-- what a quiet operation does -/
theorem exDo_quiet (hP : c.P = G.P) {s0 : St} {ε0 : List Value} {h : List Nat} (hi : InReg s0 ε0 ws X h s ε) (hok : Ok G D s ε wx ws X a w) (hw : Region.wanted o (yielded ops a.tmps) = true)
    (hq : (match stepS c.P s o.op with
    | .val _ _ => (match o.op with
      | .load _ x => (match s.ev x with
        | some (.ptr i _) => !(findH s.heap i).isSome || memN i h
        | _ => true)
      | _ => true)
    | .load .. => true
    | .pur .. => true
    | _ => false) = true) (hd : (exDo c (some h) o K s).den G Λ ε wx ws X) :
    ∃ v s' ε', Yld G.P ops (Sreg X ws h ε0 s0.heap) o v a ∧ Nx (some h) s s' ε ε' ws ws X X ∧ Ok G D s' ε' wx ws X (a.put o.dst v) w ∧ (K s').den G Λ ε' wx ws X := by
  unfold exDo at hd
  rw [hP] at hd hq
  split at hd
  · rename_i p v hs
    rw [hs] at hq
    simp only at hq
    obtain ⟨h1, h2⟩ := obs_den hd
    obtain ⟨v', pp, hv', hpp, h2⟩ := valK_sound (nilPath_ok hok.path h1) h2
    have hyy : ∀ w', Sreg X ws h ε0 s0.heap w' → (execOp a.eval o).run G.P w' = .ok (.value (v.den ε)) w' := fun w' hS => stepS_val hok hs h1 w' (fun t x i off cells ho hx hf => by
      rw [ho] at hq
      simp only [hx, hf, Option.isSome_some, Bool.not_true, Bool.false_or] at hq
      exact hi.load hS (memN_iff.1 hq) hf)
    rw [← hv'] at hyy
    refine ⟨v'.den ε, _, ε, .inl ⟨hw, hyy⟩, ?_, (hok.addPath pp hpp).put o.dst v', h2⟩
    · refine Nx.of_put ?_ _ _
      exact ⟨rfl, ⟨[], by simp⟩, fun _ => ⟨rfl, rfl⟩, fun _ _ _ _ _ => rfl⟩
  · rename_i u bs v hs
    split at hd
    · rename_i hwf
      have hdr : s.drawn = true := hi.nx.drawn.trans hi.drawn
      rw [if_pos hdr] at hd
      obtain ⟨l, hf, ⟨ad, had, hX, hc⟩, hk⟩ := hd
      refine ⟨v.den (ε ++ l), _, ε ++ l, .inl ⟨hw, fun w' hS => stepS_load hok hs hf had w' (fun j x hj => ?_)⟩, ?_, (hok.ext hwf hf).put o.dst v, hk⟩
      · have := hc j x hj
        exact Kept.cell hS.1 this (by rw [add_block]; exact hX)
      · refine Nx.of_put ?_ _ _
        exact ⟨rfl, ⟨l, rfl⟩, fun _ => ⟨rfl, rfl⟩, fun _ _ _ _ _ => rfl⟩
    · exact hd.elim
  · rename_i cells v hs; rw [hs] at hq; cases hq
  · rename_i k off vs hs; rw [hs] at hq; cases hq
  · rename_i f args hs; rw [hs] at hq; cases hq
  · rename_i vals hs
    have hva := stepS_pur hok hs
    split at hd
    · rename_i hwf
      simp only [Bool.and_eq_true] at hwf
      split at hd
      · exact hd.elim
      · rename_i bs rv hfr
        have hdr : s.drawn = true := hi.nx.drawn.trans hi.drawn
        rw [if_pos hdr] at hd
        obtain ⟨l, hf, hrun, hk⟩ := hd
        refine ⟨rv.den (ε ++ l), _, ε ++ l, .inl ⟨hw, fun w' hS => ?_⟩, ?_, (hok.ext hwf.1 hf).put o.dst rv, hk⟩
        · have hy := hrun a.eval hva w' hS.1
          rw [execOp_bare] at hy
          exact hy
        · refine Nx.of_put ?_ _ _
          exact ⟨rfl, ⟨l, rfl⟩, fun _ => ⟨rfl, rfl⟩, fun _ _ _ _ _ => rfl⟩
    · exact hd.elim
  · rename_i vals hs; rw [hs] at hq; cases hq
  · rename_i why hs; rw [hs] at hq; cases hq

theorem exOp_quiet (hP : c.P = G.P) {s0 : St} {ε0 : List Value} {h : List Nat} (hi : InReg s0 ε0 ws X h s ε) (hok : Ok G D s ε wx ws X a w)
    (hq : quiet c h ops o s = true) (hu : ∀ b, guardS ops o s ≠ (none, some b)) (hd : (exOp c (some h) ops o K s).den G Λ ε wx ws X) :
    ∃ v s' ε', Yld G.P ops (Sreg X ws h ε0 s0.heap) o v a ∧ Nx (some h) s s' ε ε' ws ws X X ∧ Ok G D s' ε' wx ws X (a.put o.dst v) w ∧ (K s').den G Λ ε' wx ws X := by
  have skip : Region.wanted o (yielded ops a.tmps) = false → (K (s.put o.dst undefS)).den G Λ ε wx ws X →
      ∃ v s' ε', Yld G.P ops (Sreg X ws h ε0 s0.heap) o v a ∧ Nx (some h) s s' ε ε' ws ws X X ∧ Ok G D s' ε' wx ws X (a.put o.dst v) w ∧ (K s').den G Λ ε' wx ws X := by
    intro hw hk
    refine ⟨undef, _, ε, .inr ⟨hw, rfl⟩, ?_, hok.put o.dst undefS, hk⟩
    refine Nx.of_put ?_ _ _
    exact ⟨rfl, ⟨[], by simp⟩, fun _ => ⟨rfl, rfl⟩, fun _ _ _ _ _ => rfl⟩
  unfold exOp at hd
  unfold quiet at hq
  split at hd
  · rename_i hg
    have hw : Region.wanted o (yielded ops a.tmps) = true := by simp [Region.wanted, hg]
    have hgs : guardS ops o s = (some true, none) := by unfold guardS; rw [hg]
    rw [hgs] at hq
    exact exDo_quiet hP hi hok hw hq hd
  · rename_i j want hg
    have hwant : Region.wanted o (yielded ops a.tmps) = (yielded ops a.tmps j == some want) := by simp [Region.wanted, hg]
    split at hd
    · rename_i b hb
      have hy := yielded_bool hok hb
      split at hd
      · rename_i r hr
        have hgs : guardS ops o s = (some (r == want), none) := by unfold guardS; rw [hg]; simp only [hb, hr]
        rw [known_sound hok.path hr] at hy
        split at hd
        · rename_i hrw
          rw [hgs, hrw] at hq
          exact exDo_quiet hP hi hok (by rw [hwant, hy]; simpa using hrw) hq hd
        · rename_i hrw
          exact skip (by rw [hwant, hy]; simpa using hrw) hd
      · rename_i hr
        exact absurd (by unfold guardS; rw [hg]; simp only [hb, hr]) (hu b)
    · rename_i v hv
      split at hd
      · rename_i hnb
        exact skip (by rw [hwant, yielded_none hok hv hnb]; rfl) hd
      · exact hd.elim
    · exact hd.elim

theorem bothAll_den {f : Nat → VC} : ∀ {l : List Nat}, (bothAll f l).den G Λ ε wx ws X → ∀ i ∈ l, (f i).den G Λ ε wx ws X
  | [], _, i, hi => by simp at hi
  | [j], h, i, hi => by simp only [List.mem_singleton] at hi; subst hi; exact h
  | j :: k :: l, h, i, hi => by
    rcases List.mem_cons.1 hi with rfl | hi
    · exact h.1
    · exact bothAll_den (l := k :: l) h.2 i hi

theorem guardS_some (hok : Ok G D s ε wx ws X a w) {b : BE} : True := trivial

theorem ready_count {listed : Array Bool} {i : Nat} (h : i ∈ Region.ready .any ops listed) : (listed.setIfInBounds i true).toList.count false + 1 = listed.toList.count false := by
  have h0 := (mem_ready.1 h).1
  have hlt : i < listed.size := by
    rcases Nat.lt_or_ge i listed.size with h' | h'
    · exact h'
    · simp [Array.getElem?_eq_none h'] at h0
  have hv : listed.toList[i]'(by simpa using hlt) = false := by simpa [hlt] using h0
  rw [Array.toList_setIfInBounds, List.count_set (h := by simpa using hlt)]
  have hpos : 0 < listed.toList.count false := List.count_pos_iff.2 (hv ▸ List.getElem_mem _)
  rw [hv]
  show List.count false listed.toList - 1 + 0 + 1 = List.count false listed.toList
  omega

theorem exDraw_sound (hP : c.P = G.P) (hns : Region.noSelect ops = true) {s0 : St} {ε0 : List Value} {h : List Nat}
    (hK : ∀ s' ε' wx' a' w', InReg s0 ε0 ws X h s' ε' → Ok G D s' ε' wx' ws X a' w' → (K { s' with drawn := false }).den G Λ ε' wx' ws X → KK a' w') :
    ∀ (m : Nat) (n : Nat) (listed : Array Bool) (s : St) (ε : List Value) (wx : World) (a : Act) (w : World), listed.toList.count false ≤ n → InReg s0 ε0 ws X h s ε → Ok G D s ε wx ws X a w →
      (exDraw c h ops m listed K s).den G Λ ε wx ws X → anyG G.P ops KK (Sreg X ws h ε0 s0.heap) n listed a w := by
  intro m
  induction m with
  | zero => intro n listed s ε wx a w _ _ _ hd; exact hd.elim
  | succ m ih =>
    intro n listed s ε wx a w hn hi hok hd
    unfold exDraw at hd
    split at hd
    · rename_i hr
      exact anyG_done hr (hK _ _ _ _ _ hi hok hd) n
    · rename_i r rs hr
      have hmem : ∀ i ∈ r :: rs, i ∈ Region.ready .any ops listed := fun i h' => by rw [hr]; exact h'
      obtain ⟨n, rfl⟩ : ∃ k, n = k + 1 := by
        have := ready_count (hmem r (by simp))
        exact ⟨n - 1, by omega⟩
      have hcnt : ∀ i ∈ r :: rs, (listed.setIfInBounds i true).toList.count false ≤ n := fun i h' => by have := ready_count (hmem i h'); omega
      split at hd
      · rename_i i hf
        have him := List.mem_of_find?_eq_some hf
        have hqa := List.find?_some hf
        unfold quietAt at hqa
        simp only [Bool.and_eq_true] at hqa
        split at hd
        · rename_i o ho
          have hq : quiet c h ops o s = true := by have := hqa.2; rw [ho] at this; exact this
          split at hd
          · rename_i b hg
            have key : ∀ r', b.den ε = r' → (exDraw c h ops m listed K { s with path := (b, r') :: s.path }).den G Λ ε wx ws X → anyG G.P ops KK (Sreg X ws h ε0 s0.heap) (n + 1) listed a w := by
              intro r' hb hd'
              refine ih (n + 1) listed _ ε wx a w hn (hi.path _) (hok.addPath _ ?_) hd'
              intro b' q hm
              simp only [List.mem_cons, Prod.mk.injEq] at hm
              rcases hm with ⟨rfl, rfl⟩ | hm
              · exact hb
              · exact hok.path b' q hm
            cases hb : b.den ε with
            | true => exact key true hb (hd.1 hb)
            | false => exact key false hb (hd.2 hb)
          · rename_i hg
            obtain ⟨v, s', ε', hy, hn', hok', hk⟩ := exOp_quiet hP hi hok hq (fun b hb => hg b hb) hd
            obtain ⟨_, _, hi'⟩ := hi.step hn'
            exact anyG_take ho hns hqa.1 (hmem i him) hy (hi.S hok) (ih n _ s' ε' wx _ w (hcnt i him) hi' hok' hk)
        · exact hd.elim
      · rename_i hf
        have hall := bothAll_den hd
        refine ⟨fun he => (by rw [hr] at he; cases he), fun i him => ?_⟩
        rw [hr] at him
        have hd' := hall i him
        split at hd'
        · rename_i o ho
          refine exOp_sound hP hok ho hd' ?_
          intro s' ε' wx' ws' X' a' w' hn' hok' hk
          obtain ⟨rfl, rfl, hi'⟩ := hi.step hn'
          exact ⟨hi'.S hok', ih n _ s' ε' wx' a' w' (hcnt i him) hi' hok' hk⟩
        · exact hd'.elim
end
end Go.Sx
