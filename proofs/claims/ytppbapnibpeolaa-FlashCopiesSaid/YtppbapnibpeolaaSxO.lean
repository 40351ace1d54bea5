/- Part M of a symbolic run of Go code by computation: its states, conditions and the proof that a condition that holds says what the function returns. No conditions of its own. -/
import Derived.Test.YtppbapnibpeolaaSxL
set_option linter.unusedVariables false
set_option linter.unusedSimpArgs false
namespace Go.Sx
open Go.RowKit

section
variable {G : Ctx} {D : List Deferred} {s : St} {ε : List Value} {wx ws : World} {X : Nat → Prop} {a : Act} {w : World} {o : Oper}

theorem add_block (ad : Addr) (j : Nat) : (ad.add j).block = ad.block := by
  obtain ⟨b, o, p⟩ := ad; unfold Addr.add; repeat' (first | rfl | split)

theorem gen_vals (hok : Ok G D s ε wx ws X a w) {op : Op} {vals : List (Operand × SV)} (h : genRes s op = .gen vals) : ValsAt ε a.eval vals := by
  unfold genRes at h
  split at h
  · rename_i vs hv
    split at h
    · cases h
    · cases h
      exact (vals_den hok hv).1
  · cases h
theorem pur_vals (hok : Ok G D s ε wx ws X a w) {op : Op} {vals : List (Operand × SV)} (h : genRes s op = .pur vals) : ValsAt ε a.eval vals := by
  unfold genRes at h
  split at h
  · rename_i vs hv
    split at h
    · cases h
      exact (vals_den hok hv).1
    · cases h
  · cases h

theorem stepS_gen (hok : Ok G D s ε wx ws X a w) {vals : List (Operand × SV)} (h : stepS G.P s o.op = .gen vals) : ValsAt ε a.eval vals := by
  cases ho : o.op <;> rw [ho] at h
  case call c =>
    obtain ⟨callee, cargs, argTypes⟩ := c
    cases callee with
    | builtin b => cases b <;> (simp only [stepS] at h; repeat' (first | (cases h; done) | exact gen_vals hok h | split at h))
    | _ => simp only [stepS] at h; repeat' (first | (cases h; done) | exact gen_vals hok h | split at h)
  case unOp u t x => cases u <;> (simp only [stepS] at h; repeat' (first | (cases h; done) | exact gen_vals hok h | split at h))
  case makeFunc f x y => cases f <;> (simp only [stepS] at h; repeat' (first | (cases h; done) | exact gen_vals hok h | split at h))
  all_goals (simp only [stepS] at h; repeat' (first | (cases h; done) | exact gen_vals hok h | split at h))

theorem stepS_pur (hok : Ok G D s ε wx ws X a w) {vals : List (Operand × SV)} (h : stepS G.P s o.op = .pur vals) : ValsAt ε a.eval vals := by
  cases ho : o.op <;> rw [ho] at h
  case call c =>
    obtain ⟨callee, cargs, argTypes⟩ := c
    cases callee with
    | builtin b => cases b <;> (simp only [stepS] at h; repeat' (first | (cases h; done) | exact pur_vals hok h | split at h))
    | _ => simp only [stepS] at h; repeat' (first | (cases h; done) | exact pur_vals hok h | split at h)
  case unOp u t x => cases u <;> (simp only [stepS] at h; repeat' (first | (cases h; done) | exact pur_vals hok h | split at h))
  case makeFunc f x y => cases f <;> (simp only [stepS] at h; repeat' (first | (cases h; done) | exact pur_vals hok h | split at h))
  all_goals (simp only [stepS] at h; repeat' (first | (cases h; done) | exact pur_vals hok h | split at h))

theorem execOp_bare (ρ : Operand → Value) (o : Oper) : execOp ρ (bare o.op o.type) = execOp ρ o := by
  obtain ⟨dst, op, type, pos, after, guard⟩ := o
  cases op <;> rfl

/-- the world is shown anew -/
theorem Ok.restart (hok : Ok G D s ε wx ws X a w) (hd : s.drawn = false) : Ok G D { s with t0 := [] } ε w w (BlkIn ε []) a w :=
  { hok with
    kx := Kept.refl _ _
    kws := fun h => by rw [hd] at h; cases h
    kwz := Nat.le_refl _
    kX := fun h => by rw [hd] at h; cases h }

/-- what the rest of the run needs -/
def Cont (G : Ctx) (Λ : Nat → List Value → World → Prop) (D : List Deferred) (H : Option (List Nat)) (s : St) (ε : List Value) (ws : World) (X : Nat → Prop) (K : St → VC) (KK : Act → World → Prop) : Prop :=
  ∀ s' ε' wx' ws' X' a' w', Nx H s s' ε ε' ws ws' X X' → Ok G D s' ε' wx' ws' X' a' w' → (K s').den G Λ ε' wx' ws' X' → KK a' w'

theorem St.put_drawn (s : St) (d : Option Tmp) (v : SV) : (s.put d v).drawn = s.drawn := by cases d <;> rfl
theorem St.put_heap (s : St) (d : Option Tmp) (v : SV) : (s.put d v).heap = s.heap := by cases d <;> rfl
theorem Nx.of_put {H : Option (List Nat)} {s s' : St} {ε ε' : List Value} {ws ws' : World} {X X' : Nat → Prop} (h : Nx H s s' ε ε' ws ws' X X') (d : Option Tmp) (v : SV) : Nx H s (s'.put d v) ε ε' ws ws' X X' :=
  ⟨by rw [St.put_drawn]; exact h.drawn, h.env, h.same, by rw [St.put_heap]; exact h.held⟩

theorem findH_skip {fs : Facts} {i j : Nat} {l : List SV} (h : i ≠ j) : findH ((i, l) :: fs) j = findH fs j := by
  simp only [findH]
  rw [if_neg (by simpa using h)]

variable {c : Cfg} {H : Option (List Nat)} {K : St → VC} {KK : Act → World → Prop} {Λ : Nat → List Value → World → Prop}

theorem idxK_sound {wx ws : World} {X : Nat → Prop} {i lo n : Nat} {e : IE} {K : St → SV → VC} : ∀ (r j : Nat) (s : St), (∀ b q, (b, q) ∈ s.path → b.den ε = q) → (idxK i lo e n K j r s).den G Λ ε wx ws X →
    ∃ (k : Nat) (p : List (BE × Bool)), e.den ε = k ∧ (∀ b q, (b, q) ∈ p → b.den ε = q) ∧ (K { s with path := p } (.ptr i (lo + k * n))).den G Λ ε wx ws X
  | 0, _, _, _, h => h.elim
  | r + 1, j, s, hp, h => by
    simp only [idxK] at h
    split at h
    · rename_i hk
      have := known_sound hp hk
      exact ⟨j, s.path, by simpa [BE.den, IE.den] using this, hp, h⟩
    · exact idxK_sound r (j + 1) s hp h
    · have hp' : ∀ q, (BE.eq e (.lit (Int.ofNat j))).den ε = q → ∀ b' q', (b', q') ∈ (BE.eq e (.lit (Int.ofNat j)), q) :: s.path → b'.den ε = q' := by
        intro q hq b' q' hm
        simp only [List.mem_cons, Prod.mk.injEq] at hm
        rcases hm with ⟨rfl, rfl⟩ | hm
        · exact hq
        · exact hp b' q' hm
      cases hq : (BE.eq e (.lit (Int.ofNat j))).den ε with
      | true => exact ⟨j, _, by simpa [BE.den, IE.den] using hq, hp' true hq, h.1 hq⟩
      | false => exact idxK_sound r (j + 1) { s with path := (.eq e (.lit (Int.ofNat j)), false) :: s.path } (hp' false hq) (h.2 hq)
/-- the value by the way taken is the value -/
theorem valK_sound {P : Program} {wx ws : World} {X : Nat → Prop} {op : Op} {v : SV} {K : St → SV → VC} {s : St} (hp : ∀ b q, (b, q) ∈ s.path → b.den ε = q) (h : (valK P op v K s).den G Λ ε wx ws X) :
    ∃ (v' : SV) (p : List (BE × Bool)), v'.den ε = v.den ε ∧ (∀ b q, (b, q) ∈ p → b.den ε = q) ∧ (K { s with path := p } v').den G Λ ε wx ws X := by
  unfold valK at h
  split at h
  · rename_i i lo e n m hi
    obtain ⟨k, p, hk, hpp, hd⟩ := idxK_sound m 0 s hp h
    refine ⟨_, p, ?_, hpp, hd⟩
    unfold idxOf at hi
    split at hi
    · split at hi
      · split at hi
        · split at hi
          · cases hi
            simp only [SV.den, hk, Int.toNat_natCast]
            cases vaddr (nth ε i) <;> simp [addO, add_add]
          · cases hi
        · cases hi
      · cases hi
    · cases hi
  · exact ⟨v, s.path, rfl, hp, h⟩

/-! blocks that are tracked no longer -/
theorem dropF_keys (ks : List Nat) : ∀ fs : Facts, (keys (dropF ks fs)).Sublist (keys fs)
  | [] => List.Sublist.slnil
  | (i, l) :: fs => by
    simp only [dropF, keys]
    split
    · exact (dropF_keys ks fs).cons _
    · exact (dropF_keys ks fs).cons_cons _
theorem dropF_facts {ε : List Value} {w : World} (ks : List Nat) : ∀ {fs : Facts}, FactsAt ε w fs → FactsAt ε w (dropF ks fs)
  | [], h => h
  | (i, l) :: fs, h => by
    simp only [dropF]
    split
    · exact dropF_facts ks h.2
    · exact ⟨h.1, dropF_facts ks h.2⟩
theorem Ok.dropL {G : Ctx} {D : List Deferred} {s : St} {ε : List Value} {wx ws : World} {X : Nat → Prop} {a : Act} {w : World} (hok : Ok G D s ε wx ws X a w) (l : List Nat) : Ok G D { s with heap := dropF l s.heap } ε wx ws X a w :=
  have hsub : ∀ i, i ∈ keys (dropF l s.heap) → i ∈ keys s.heap := fun i hi => (dropF_keys _ _).subset hi
  { hok with
    hp := dropF_facts _ hok.hp
    nd := hok.nd.sublist (dropF_keys _ _)
    dj := fun i j hi hj => hok.dj i j (hsub i hi) (hsub j hj)
    kX := fun hd i hi => hok.kX hd i (hsub i hi)
    kM := fun i hi => hok.kM i (hsub i hi) }
theorem dropC_or (H : Option (List Nat)) (o : Op) (s : St) : dropC H o s = s ∨ (H = none ∧ ∃ l, dropC H o s = { s with heap := dropF l s.heap }) := by
  unfold Go.Sx.dropC
  split
  · split
    · split
      · exact .inr ⟨rfl, _, rfl⟩
      · exact .inl rfl
    · exact .inl rfl
  · exact .inl rfl
theorem dropF_wf (n : Nat) (l : List Nat) : ∀ fs : Facts, wfF n fs = true → wfF n (dropF l fs) = true
  | [], _ => rfl
  | (i, m) :: fs, h => by
    simp only [wfF, Bool.and_eq_true] at h
    simp only [dropF]
    split
    · exact dropF_wf n l fs h.2
    · simp only [wfF, Bool.and_eq_true]
      exact ⟨h.1, dropF_wf n l fs h.2⟩
theorem exDo_sound (hP : c.P = G.P) (hok : Ok G D s ε wx ws X a w) (h : (exDo c H o K s).den G Λ ε wx ws X) (hK : Cont G Λ D H s ε ws X K KK) : OpGood G.P o a w KK := by
  have hlen : ε.length = s.ks.length := hok.ks.length
  unfold exDo at h
  rw [hP] at h
  split at h
  · rename_i p v hs
    obtain ⟨h1, h2⟩ := obs_den h
    have hy := stepS_val hok hs h1 w (fun t x i off cells _ _ hf => findH_facts hok.hp hf)
    obtain ⟨v', pp, hv', hpp, h2⟩ := valK_sound (nilPath_ok hok.path h1) h2
    rw [← hv'] at hy
    refine .inl ⟨v'.den ε, w, .inl hy, hK _ _ _ _ _ _ _ ?_ ((hok.addPath pp hpp).put o.dst v') h2⟩
    refine Nx.of_put ?_ _ _
    exact ⟨rfl, ⟨[], by simp⟩, fun _ => ⟨rfl, rfl⟩, fun _ _ _ _ _ => rfl⟩
  · rename_i u bs v hs
    split at h
    · rename_i hwf
      split at h
      · rename_i hd
        obtain ⟨l, hf, ⟨ad, had, hX, hc⟩, hk⟩ := h
        have hy := stepS_load hok hs hf had w (fun j x hj => by
          have := hc j x hj
          exact Kept.cell (hok.kws hd) this (by rw [add_block]; exact hX))
        refine .inl ⟨v.den (ε ++ l), w, .inl hy, hK _ _ _ _ _ _ _ ?_ ((hok.ext hwf hf).put o.dst v) hk⟩
        refine Nx.of_put ?_ _ _
        exact ⟨rfl, ⟨l, rfl⟩, fun _ => ⟨rfl, rfl⟩, fun _ _ _ _ _ => rfl⟩
      · rename_i hd
        have hd' : s.drawn = false := by simpa using hd
        have h := h w hok.shown
        simp only [Bool.false_eq_true, if_false] at h
        obtain ⟨l, hf, ⟨ad, had, hX, hc⟩, hk⟩ := h
        have hy := stepS_load hok hs hf had w hc
        have hok' := (hok.restart hd').ext (s := { s with t0 := [] }) (by
          obtain ⟨h1, h2, h3, h4⟩ := wfS_parts hwf
          have hkeys : ∀ (n : Nat) (fs : Facts), wfF n fs = true → wfN n (keys fs) = true := by
            intro n fs
            induction fs with
            | nil => intro _; rfl
            | cons p fs ih =>
              intro hh
              simp only [wfF, Bool.and_eq_true] at hh
              simp only [keys, wfN, Bool.and_eq_true]
              exact ⟨hh.1.1, ih hh.2⟩
          simp only [wfS, Bool.and_eq_true]
          exact ⟨⟨⟨h1, h2⟩, rfl⟩, h4⟩) hf
        refine .inl ⟨v.den (ε ++ l), w, .inl hy, hK _ _ _ _ _ _ _ ?_ (hok'.put o.dst v) hk⟩
        refine Nx.of_put ?_ _ _
        exact ⟨rfl, ⟨l, rfl⟩, fun hx => (by rw [hd'] at hx; cases hx), fun _ _ _ _ _ => rfl⟩
    · exact h.elim
  · rename_i cells v hs
    split at h
    · rename_i hwf
      simp only [Bool.and_eq_true] at hwf
      obtain ⟨⟨hwf, hwl⟩, _⟩ := hwf
      obtain ⟨ty, hy⟩ := stepS_alloc hok hs
      have hk := h w.heap.size hok.kx.size hok.kwz hok.base.size
      refine .inl ⟨_, _, .inl (hy w), hK _ _ _ _ _ _ _ ?_ ((hok.alloc hwf hwl ty).put o.dst v) hk⟩
      refine Nx.of_put ?_ _ _
      refine ⟨rfl, ⟨_, rfl⟩, fun _ => ⟨rfl, rfl⟩, fun _ _ i _ hi => ?_⟩
      exact findH_skip (by omega)
    · exact h.elim
  · rename_i key off vs hs
    split at h
    · rename_i cells hc
      split at h
      · exact h.elim
      · rename_i hH
        obtain ⟨cells', b, ty, hc', hb, hh, hr⟩ := stepS_store hok hs
        rw [hc] at hc'
        cases hc'
        refine .inl ⟨undef, _, .inr ⟨hr, rfl⟩, hK _ _ _ _ _ _ _ ?_ ((hok.store hc hb hh).put o.dst undefS) h⟩
        refine Nx.of_put ?_ _ _
        refine ⟨rfl, ⟨[], by simp⟩, fun _ => ⟨rfl, rfl⟩, fun l hl i hi _ => ?_⟩
        refine findH_setH _ _ _ _ fun e => ?_
        subst e
        rw [hl] at hH
        exact hH (memN_iff.2 hi)
    · exact h.elim
  · rename_i f args hs
    split at h
    · exact h.elim
    · rename_i fn hfn
      split at h
      · exact h.elim
      · rename_i bs rv hr
        simp only at h
        split at h
        · rename_i hwf
          simp only [Bool.and_eq_true] at hwf
          obtain ⟨⟨hwf, hwl⟩, hHc⟩ := hwf
          obtain ⟨R, Fp, hcalls, hFp, hall⟩ := h w hok.shown
          refine .inr (.inl ⟨f, (denL ε args).toArray, w, stepS_call hok hs w, hcalls.mono ?_⟩)
          rintro e w' ⟨l, hf, rfl, hR, hk, htf⟩
          refine ⟨_, rfl, ?_⟩
          have hall' := allB_elim hall hf w' hR hk
          have hok' := hok.after hwf hf hk htf hFp
          refine hK _ _ _ _ _ _ _ ?_ (hok'.put o.dst rv) ?_
          · refine Nx.of_put ?_ _ _
            refine ⟨rfl, ⟨l, rfl⟩, fun hd => ?_, fun hl hhl i hi _ => ?_⟩
            · rw [if_pos hd, if_pos hd]; exact ⟨rfl, rfl⟩
            · refine findH_setAll_other _ _ _ fun hm => ?_
              rw [hhl] at hHc
              have := List.all_eq_true.1 hHc i hm
              simp [memN_iff.2 hi] at this
          · by_cases hd : s.drawn = true
            · rw [if_pos hd] at hall'; rw [if_pos hd, if_pos hd]; exact hall'
            · rw [if_neg hd] at hall'; rw [if_neg hd, if_neg hd]; exact hall'
        · exact h.elim
  · rename_i vals hs
    have hva := stepS_pur hok hs
    split at h
    · rename_i hwf
      simp only [Bool.and_eq_true] at hwf
      split at h
      · exact h.elim
      · rename_i bs rv hfr
        split at h
        · rename_i hd
          obtain ⟨l, hf, hrun, hk⟩ := h
          have hy := hrun a.eval hva w (hok.kws hd)
          rw [execOp_bare] at hy
          refine .inl ⟨_, w, .inl hy, hK _ _ _ _ _ _ _ ?_ ((hok.ext hwf.1 hf).put o.dst rv) hk⟩
          refine Nx.of_put ?_ _ _
          exact ⟨rfl, ⟨l, rfl⟩, fun _ => ⟨rfl, rfl⟩, fun _ _ _ _ _ => rfl⟩
        · rename_i hd
          have hd' : s.drawn = false := by simpa using hd
          have h := h w hok.shown
          simp only [Bool.false_eq_true, if_false] at h
          obtain ⟨l, hf, hrun, hk⟩ := h
          have hy := hrun a.eval hva w (Kept.refl _ _)
          rw [execOp_bare] at hy
          have hok' := (hok.restart hd').ext (s := { s with t0 := [] }) (by
            obtain ⟨h1, h2, h3, h4⟩ := wfS_parts hwf.1
            have hkeys : ∀ (n : Nat) (fs : Facts), wfF n fs = true → wfN n (keys fs) = true := by
              intro n fs
              induction fs with
              | nil => intro _; rfl
              | cons p fs ih =>
                intro hh
                simp only [wfF, Bool.and_eq_true] at hh
                simp only [keys, wfN, Bool.and_eq_true]
                exact ⟨hh.1.1, ih hh.2⟩
            simp only [wfS, Bool.and_eq_true]
            exact ⟨⟨⟨h1, h2⟩, rfl⟩, h4⟩) hf
          refine .inl ⟨_, w, .inl hy, hK _ _ _ _ _ _ _ ?_ (hok'.put o.dst rv) hk⟩
          refine Nx.of_put ?_ _ _
          exact ⟨rfl, ⟨l, rfl⟩, fun hx => (by rw [hd'] at hx; cases hx), fun _ _ _ _ _ => rfl⟩
    · exact h.elim
  · rename_i vals hs
    have hva := stepS_gen hok hs
    have fin : ∀ (bs : List Base) (rv : SV), wfS s = true →
        (VC.gen o.op o.type vals bs rv [] s.drawn s.t0 [] (keys s.heap) s.heap (K ((afterS s bs [] []).put o.dst rv))).den G Λ ε wx ws X → OpGood G.P o a w KK := by
      intro bs rv hwf h
      obtain ⟨R, Fp, hrun, hFp, hall⟩ := h w hok.shown
      have fin2 : ∀ v w', (∃ l, Fits bs l ∧ v = rv.den (ε ++ l) ∧ R l w' ∧ Kept Fp w w' ∧ FactsAt (ε ++ l) w' []) → KK (a.put o.dst v) w' := by
       rintro v w' ⟨l, hf, rfl, hR, hk, htf⟩
       have hall' := allB_elim hall hf w' hR hk
       have hwn : ∀ (k : List Nat), without [] k = k := by
         intro k
         induction k with
         | nil => rfl
         | cons x k ih => simp [without, memN, ih]
       have hok' := hok.after (bs := bs) (tbs := []) (tf := []) hwf (by simpa using hf) hk htf (fun b hb hlt => by
         have := hFp b hb hlt
         show FpOk G s.drawn X ε (without [] (keys s.heap)) w b
         rw [hwn]
         exact this)
       refine hK _ _ _ _ _ _ _ ?_ (hok'.put o.dst rv) ?_
       · refine Nx.of_put ?_ _ _
         refine ⟨rfl, ⟨l, rfl⟩, fun hd => ?_, fun _ _ _ _ _ => rfl⟩
         rw [if_pos hd, if_pos hd]; exact ⟨rfl, rfl⟩
       · by_cases hd : s.drawn = true
         · rw [if_pos hd] at hall'; rw [if_pos hd, if_pos hd]; exact hall'
         · rw [if_neg hd] at hall'; rw [if_neg hd, if_neg hd]; exact hall'
      have hr0 := hrun a.eval hva
      unfold RunsTo at hr0
      rw [execOp_bare] at hr0
      rcases hr0 with ⟨v, w', hr, h2⟩ | ⟨l, f, tmps, assign, body, w', hr, h2⟩ | ⟨f, args, w', hr, h2⟩
      · exact .inl ⟨v, w', hr, fin2 _ _ h2⟩
      · exact .inr (.inr ⟨l, f, tmps, assign, body, w', hr, h2.mono fun e w'' ⟨v, he, h3⟩ => ⟨v, he, fin2 _ _ h3⟩⟩)
      · exact .inr (.inl ⟨f, args, w', hr, h2.mono fun e w'' ⟨v, he, h3⟩ => ⟨v, he, fin2 _ _ h3⟩⟩)
    have finD : ∀ (l0 : List Nat) (bs : List Base) (rv : SV), H = none → wfS s = true →
        (VC.gen o.op o.type vals bs rv [] s.drawn s.t0 [] (keys (dropF l0 s.heap)) s.heap (K ((afterS { s with heap := dropF l0 s.heap } bs [] []).put o.dst rv))).den G Λ ε wx ws X → OpGood G.P o a w KK := by
      intro l0 bs rv hH hwf hg
      subst hH
      have hok1 := hok.dropL l0
      have hwf1 : wfS { s with heap := dropF l0 s.heap } = true := by
        obtain ⟨h1, h2, h3, h4⟩ := wfS_parts hwf
        simp only [wfS, Bool.and_eq_true]
        exact ⟨⟨⟨h1, dropF_wf _ _ _ h2⟩, h3⟩, h4⟩
      obtain ⟨R, Fp, hrun, hFp, hall⟩ := hg w hok.shown
      have fin2 : ∀ v w', (∃ l, Fits bs l ∧ v = rv.den (ε ++ l) ∧ R l w' ∧ Kept Fp w w' ∧ FactsAt (ε ++ l) w' []) → KK (a.put o.dst v) w' := by
       rintro v w' ⟨l, hf, rfl, hR, hk, htf⟩
       have hall' := allB_elim hall hf w' hR hk
       have hwn : ∀ (k : List Nat), without [] k = k := by
         intro k
         induction k with
         | nil => rfl
         | cons x k ih => simp [without, memN, ih]
       have hok' := hok1.after (bs := bs) (tbs := []) (tf := []) hwf1 (by simpa using hf) hk htf (fun b hb hlt => by
         have := hFp b hb hlt
         show FpOk G s.drawn X ε (without [] (keys (dropF l0 s.heap))) w b
         rw [hwn]
         exact this)
       refine hK _ _ _ _ _ _ _ ?_ (hok'.put o.dst rv) ?_
       · refine Nx.of_put ?_ _ _
         refine ⟨rfl, ⟨l, rfl⟩, fun hd => ?_, fun h hh => by cases hh⟩
         rw [if_pos hd, if_pos hd]; exact ⟨rfl, rfl⟩
       · by_cases hd : s.drawn = true
         · rw [if_pos hd] at hall'; rw [if_pos hd, if_pos hd]; exact hall'
         · rw [if_neg hd] at hall'; rw [if_neg hd, if_neg hd]; exact hall'
      have hr0 := hrun a.eval hva
      unfold RunsTo at hr0
      rw [execOp_bare] at hr0
      rcases hr0 with ⟨v, w', hr, h2⟩ | ⟨l, f, tmps, assign, body, w', hr, h2⟩ | ⟨f, args, w', hr, h2⟩
      · exact .inl ⟨v, w', hr, fin2 _ _ h2⟩
      · exact .inr (.inr ⟨l, f, tmps, assign, body, w', hr, h2.mono fun e w'' ⟨v, he, h3⟩ => ⟨v, he, fin2 _ _ h3⟩⟩)
      · exact .inr (.inl ⟨f, args, w', hr, h2.mono fun e w'' ⟨v, he, h3⟩ => ⟨v, he, fin2 _ _ h3⟩⟩)
    split at h
    · rename_i hwf
      simp only [Bool.and_eq_true] at hwf
      split at h
      · exact fin _ _ hwf.1 h
      · split at h
        · exact h.elim
        · rcases dropC_or H o.op s with e | ⟨e, l0, e1⟩
          · rw [e] at h
            exact fin _ _ hwf.1 h
          · rw [e1] at h
            exact finD l0 _ _ e hwf.1 h
    · exact h.elim
  · exact h.elim
end
end Go.Sx

/- Part N of a symbolic run of Go code by computation: its states, conditions and the proof that a condition that holds says what the function returns. No conditions of its own. -/
set_option linter.unusedVariables false
set_option linter.unusedSimpArgs false
namespace Go.Sx
open Go.RowKit

section
variable {G : Ctx} {D : List Deferred} {s : St} {ε : List Value} {wx ws : World} {X : Nat → Prop} {a : Act} {w : World} {o : Oper}
variable {c : Cfg} {H : Option (List Nat)} {K : St → VC} {KK : Act → World → Prop} {Λ : Nat → List Value → World → Prop} {ops : Array Oper}

theorem Nx.path {H : Option (List Nat)} {s s' : St} {ε ε' : List Value} {ws ws' : World} {X X' : Nat → Prop} (p : List (BE × Bool)) (h : Nx H { s with path := p } s' ε ε' ws ws' X X') : Nx H s s' ε ε' ws ws' X X' :=
  ⟨h.drawn, h.env, h.same, h.held⟩
theorem Cont.path (h : Cont G Λ D H s ε ws X K KK) (p : List (BE × Bool)) : Cont G Λ D H { s with path := p } ε ws X K KK :=
  fun s' ε' wx' ws' X' a' w' hn => h s' ε' wx' ws' X' a' w' (hn.path p)

theorem guard_val (hok : Ok G D s ε wx ws X a w) {j : Nat} {v : SV} (h : ((ops[j]?).bind (·.dst)).bind (getL s.tmps) = some v) : ((ops[j]?).bind (·.dst)).bind (a.tmps[·]?) = some (v.den ε) := by
  cases hd : (ops[j]?).bind (·.dst) with
  | none => rw [hd] at h; cases h
  | some d =>
    rw [hd] at h
    simp only [Option.bind_some] at h ⊢
    exact hok.tm d v h
theorem yielded_bool (hok : Ok G D s ε wx ws X a w) {j : Nat} {b : BE} (h : ((ops[j]?).bind (·.dst)).bind (getL s.tmps) = some (.bool b)) : yielded ops a.tmps j = some (b.den ε) := by
  unfold yielded
  rw [guard_val hok h]
  rfl
theorem yielded_none (hok : Ok G D s ε wx ws X a w) {j : Nat} {v : Value} (h : ((ops[j]?).bind (·.dst)).bind (getL s.tmps) = some (.cst v)) (hv : notBool v = true) : yielded ops a.tmps j = none := by
  unfold yielded
  rw [guard_val hok h]
  simp only [SV.den]
  cases v <;> first | rfl | cases hv

theorem exOp_sound (hP : c.P = G.P) (hok : Ok G D s ε wx ws X a w) {i : Nat} (ho : ops[i]? = some o) (h : (exOp c H ops o K s).den G Λ ε wx ws X) (hK : Cont G Λ D H s ε ws X K KK) : opG G.P ops i KK a w := by
  unfold opG
  rw [ho]
  simp only
  have skip : ∀ p, (∀ b r, (b, r) ∈ p → b.den ε = r) → (K ({ s with path := p }.put o.dst undefS)).den G Λ ε wx ws X → KK (a.put o.dst undef) w := fun p hp hd => by
    refine hK _ _ _ _ _ _ _ ?_ ((hok.addPath p hp).put o.dst undefS) hd
    refine Nx.of_put ?_ _ _
    exact ⟨rfl, ⟨[], by simp⟩, fun _ => ⟨rfl, rfl⟩, fun _ _ _ _ _ => rfl⟩
  unfold exOp at h
  split at h
  · rename_i hg
    have hw : Region.wanted o (yielded ops a.tmps) = true := by simp [Region.wanted, hg]
    rw [if_pos hw]
    exact exDo_sound hP hok h hK
  · rename_i j want hg
    have hwant : Region.wanted o (yielded ops a.tmps) = (yielded ops a.tmps j == some want) := by simp [Region.wanted, hg]
    split at h
    · rename_i b hb
      have hy := yielded_bool hok hb
      split at h
      · rename_i r hr
        have hrr := known_sound hok.path hr
        rw [hrr] at hy
        split at h
        · rename_i hrw
          have hw : Region.wanted o (yielded ops a.tmps) = true := by rw [hwant, hy]; simpa using hrw
          rw [if_pos hw]
          exact exDo_sound hP hok h hK
        · rename_i hrw
          have hw : ¬ Region.wanted o (yielded ops a.tmps) = true := by rw [hwant, hy]; simpa using hrw
          rw [if_neg hw]
          exact skip s.path hok.path h
      · rename_i hr
        have go : ∀ r, b.den ε = r → (if r == want then exDo c H o K { s with path := (b, r) :: s.path } else K ({ s with path := (b, r) :: s.path }.put o.dst undefS)).den G Λ ε wx ws X →
            if Region.wanted o (yielded ops a.tmps) = true then OpGood G.P o a w KK else KK (a.put o.dst undef) w := by
          intro r hbr hd
          have hp : ∀ b' r', (b', r') ∈ (b, r) :: s.path → b'.den ε = r' := by
            intro b' r' hm
            simp only [List.mem_cons, Prod.mk.injEq] at hm
            rcases hm with ⟨rfl, rfl⟩ | hm
            · exact hbr
            · exact hok.path b' r' hm
          rw [hbr] at hy
          by_cases hrw : (r == want) = true
          · rw [if_pos hrw] at hd
            have hw : Region.wanted o (yielded ops a.tmps) = true := by rw [hwant, hy]; simpa using hrw
            rw [if_pos hw]
            exact exDo_sound hP (hok.addPath _ hp) hd (hK.path _)
          · rw [if_neg hrw] at hd
            have hw : ¬ Region.wanted o (yielded ops a.tmps) = true := by rw [hwant, hy]; simpa using hrw
            rw [if_neg hw]
            exact skip _ hp hd
        cases hbv : b.den ε with
        | true =>
          refine go true hbv ?_
          have := h.1 hbv
          cases want <;> simpa using this
        | false =>
          refine go false hbv ?_
          have := h.2 hbv
          cases want <;> simpa using this
    · rename_i v hv
      split at h
      · rename_i hnb
        have hy := yielded_none hok hv hnb
        have hw : ¬ Region.wanted o (yielded ops a.tmps) = true := by rw [hwant, hy]; simp
        rw [if_neg hw]
        exact skip s.path hok.path h
      · exact h.elim
    · exact h.elim

/-! in the order of the text -/
theorem exSeq_sound (hP : c.P = G.P) : ∀ (l : List Oper) (m : Nat), (∀ k, ops[m + k]? = l[k]?) → ∀ {s : St} {ε : List Value} {wx ws : World} {X : Nat → Prop} {a : Act} {w : World}, Ok G D s ε wx ws X a w →
    (exSeq c ops l K s).den G Λ ε wx ws X → Cont G Λ D none s ε ws X K KK → seqG G.P ops KK ((List.range l.length).map (m + ·)) a w
  | [], m, _, s, ε, wx, ws, X, a, w, hok, h, hK => by
    exact hK _ _ _ _ _ _ _ (Nx.refl _ _ _ _ _) hok h
  | o :: r, m, hm, s, ε, wx, ws, X, a, w, hok, h, hK => by
    have ho : ops[m]? = some o := by have := hm 0; simpa using this
    have hrange : (List.range (o :: r).length).map (m + ·) = m :: (List.range r.length).map (m + 1 + ·) := by
      simp only [List.length_cons, List.range_succ_eq_map, List.map_cons, List.map_map, Nat.add_zero]
      congr 1
      apply List.map_congr_left
      intro x _
      simp only [Function.comp_apply]
      omega
    rw [hrange]
    refine exOp_sound hP hok ho h ?_
    intro s' ε' wx' ws' X' a' w' hn hok' hd
    refine exSeq_sound hP r (m + 1) (fun k => ?_) hok' hd ?_
    · have := hm (k + 1)
      rw [show m + 1 + k = m + (k + 1) by omega, this]
      rfl
    · intro s'' ε'' wx'' ws'' X'' a'' w'' hn' hok'' hd'
      exact hK _ _ _ _ _ _ _ (hn.trans hn') hok'' hd'

end
end Go.Sx

/- Part O of a symbolic run of Go code by computation: its states, conditions and the proof that a condition that holds says what the function returns. No conditions of its own. -/
set_option linter.unusedVariables false
set_option linter.unusedSimpArgs false
namespace Go.Sx
open Go.RowKit

section
variable {G : Ctx} {D : List Deferred} {s : St} {ε : List Value} {wx ws : World} {X : Nat → Prop} {a : Act} {w : World} {o : Oper}
variable {c : Cfg} {K : St → VC} {KK : Act → World → Prop} {Λ : Nat → List Value → World → Prop} {ops : Array Oper}

/-! in whatever order -/
/-- what every operation of the region leaves as it was -/
def Sreg (X : Nat → Prop) (ws : World) (h : List Nat) (ε0 : List Value) (hp0 : Facts) (w : World) : Prop :=
  Kept X ws w ∧ ∀ i l, i ∈ h → findH hp0 i = some l → HasBlk w (nth ε0 i) (denL ε0 l)

theorem wfF_find {n : Nat} : ∀ {fs : Facts} {i : Nat} {l : List SV}, wfF n fs = true → findH fs i = some l → wfL n l = true
  | [], _, _, _, h => by cases h
  | (j, m) :: fs, i, l, hw, h => by
    simp only [wfF, Bool.and_eq_true] at hw
    simp only [findH] at h
    split at h
    · cases h; exact hw.1.2
    · exact wfF_find hw.2 h

/-- where the region is, as to its entry -/
structure InReg (s0 : St) (ε0 : List Value) (ws : World) (X : Nat → Prop) (h : List Nat) (s : St) (ε : List Value) : Prop where
  nx : Nx (some h) s0 s ε0 ε ws ws X X
  wf : wfF ε0.length s0.heap = true
  low : ∀ i ∈ h, i < ε0.length
  drawn : s0.drawn = true

theorem InReg.S {s0 : St} {ε0 : List Value} {h : List Nat} (hi : InReg s0 ε0 ws X h s ε) (hok : Ok G D s ε wx ws X a w) : Sreg X ws h ε0 s0.heap w := by
  refine ⟨hok.kws (hi.nx.drawn.trans hi.drawn), fun i l hm hf => ?_⟩
  have he := hi.nx.held h rfl i hm (hi.low i hm)
  obtain ⟨δ, hδ⟩ := hi.nx.env
  have := findH_facts hok.hp (he.trans hf)
  rw [hδ, nth_append _ _ _ (blt_of (hi.low i hm)), denL_append _ _ _ (wfF_find hi.wf hf)] at this
  exact this

theorem InReg.load {s0 : St} {ε0 : List Value} {h : List Nat} (hi : InReg s0 ε0 ws X h s ε) {w' : World} (hS : Sreg X ws h ε0 s0.heap w') {i : Nat} (hm : i ∈ h) {l : List SV} (hf : findH s.heap i = some l) : HasBlk w' (nth ε i) (denL ε l) := by
  have he := hi.nx.held h rfl i hm (hi.low i hm)
  obtain ⟨δ, hδ⟩ := hi.nx.env
  rw [he] at hf
  rw [hδ, nth_append _ _ _ (blt_of (hi.low i hm)), denL_append _ _ _ (wfF_find hi.wf hf)]
  exact hS.2 i l hm hf

theorem InReg.step {s0 s' : St} {ε0 ε' : List Value} {h : List Nat} (hi : InReg s0 ε0 ws X h s ε) {ws' : World} {X' : Nat → Prop} (hn : Nx (some h) s s' ε ε' ws ws' X X') : ws' = ws ∧ X' = X ∧ InReg s0 ε0 ws X h s' ε' := by
  have hd : s.drawn = true := hi.nx.drawn.trans hi.drawn
  obtain ⟨rfl, rfl⟩ := hn.same hd
  exact ⟨rfl, rfl, hi.nx.trans hn, hi.wf, hi.low, hi.drawn⟩

theorem InReg.path {s0 : St} {ε0 : List Value} {h : List Nat} (hi : InReg s0 ε0 ws X h s ε) (p : List (BE × Bool)) : InReg s0 ε0 ws X h { s with path := p } ε :=
  ⟨⟨hi.nx.drawn, hi.nx.env, hi.nx.same, hi.nx.held⟩, hi.wf, hi.low, hi.drawn⟩

/-- what a quiet operation does -/
theorem exDo_quiet (hP : c.P = G.P) {s0 : St} {ε0 : List Value} {h : List Nat} (hi : InReg s0 ε0 ws X h s ε) (hok : Ok G D s ε wx ws X a w) (hw : Region.wanted o (yielded ops a.tmps) = true)
    (hq : (match stepS c.P s o.op with
    | .val _ _ => (match o.op with
      | .load _ x => (match s.ev x with
        | some (.ptr i _) => !(findH s.heap i).isSome || memN i h
        | _ => true)
      | _ => true)
    | .load .. => true
    | .pur .. => true
    | _ => false) = true) (hd : (exDo c (some h) o K s).den G Λ ε wx ws X) :
    ∃ v s' ε', Yld G.P ops (Sreg X ws h ε0 s0.heap) o v a ∧ Nx (some h) s s' ε ε' ws ws X X ∧ Ok G D s' ε' wx ws X (a.put o.dst v) w ∧ (K s').den G Λ ε' wx ws X := by
  unfold exDo at hd
  rw [hP] at hd hq
  split at hd
  · rename_i p v hs
    rw [hs] at hq
    simp only at hq
    obtain ⟨h1, h2⟩ := obs_den hd
    obtain ⟨v', pp, hv', hpp, h2⟩ := valK_sound (nilPath_ok hok.path h1) h2
    have hyy : ∀ w', Sreg X ws h ε0 s0.heap w' → (execOp a.eval o).run G.P w' = .ok (.value (v.den ε)) w' := fun w' hS => stepS_val hok hs h1 w' (fun t x i off cells ho hx hf => by
      rw [ho] at hq
      simp only [hx, hf, Option.isSome_some, Bool.not_true, Bool.false_or] at hq
      exact hi.load hS (memN_iff.1 hq) hf)
    rw [← hv'] at hyy
    refine ⟨v'.den ε, _, ε, .inl ⟨hw, hyy⟩, ?_, (hok.addPath pp hpp).put o.dst v', h2⟩
    · refine Nx.of_put ?_ _ _
      exact ⟨rfl, ⟨[], by simp⟩, fun _ => ⟨rfl, rfl⟩, fun _ _ _ _ _ => rfl⟩
  · rename_i u bs v hs
    split at hd
    · rename_i hwf
      have hdr : s.drawn = true := hi.nx.drawn.trans hi.drawn
      rw [if_pos hdr] at hd
      obtain ⟨l, hf, ⟨ad, had, hX, hc⟩, hk⟩ := hd
      refine ⟨v.den (ε ++ l), _, ε ++ l, .inl ⟨hw, fun w' hS => stepS_load hok hs hf had w' (fun j x hj => ?_)⟩, ?_, (hok.ext hwf hf).put o.dst v, hk⟩
      · have := hc j x hj
        exact Kept.cell hS.1 this (by rw [add_block]; exact hX)
      · refine Nx.of_put ?_ _ _
        exact ⟨rfl, ⟨l, rfl⟩, fun _ => ⟨rfl, rfl⟩, fun _ _ _ _ _ => rfl⟩
    · exact hd.elim
  · rename_i cells v hs; rw [hs] at hq; cases hq
  · rename_i k off vs hs; rw [hs] at hq; cases hq
  · rename_i f args hs; rw [hs] at hq; cases hq
  · rename_i vals hs
    have hva := stepS_pur hok hs
    split at hd
    · rename_i hwf
      simp only [Bool.and_eq_true] at hwf
      split at hd
      · exact hd.elim
      · rename_i bs rv hfr
        have hdr : s.drawn = true := hi.nx.drawn.trans hi.drawn
        rw [if_pos hdr] at hd
        obtain ⟨l, hf, hrun, hk⟩ := hd
        refine ⟨rv.den (ε ++ l), _, ε ++ l, .inl ⟨hw, fun w' hS => ?_⟩, ?_, (hok.ext hwf.1 hf).put o.dst rv, hk⟩
        · have hy := hrun a.eval hva w' hS.1
          rw [execOp_bare] at hy
          exact hy
        · refine Nx.of_put ?_ _ _
          exact ⟨rfl, ⟨l, rfl⟩, fun _ => ⟨rfl, rfl⟩, fun _ _ _ _ _ => rfl⟩
    · exact hd.elim
  · rename_i vals hs; rw [hs] at hq; cases hq
  · rename_i why hs; rw [hs] at hq; cases hq

theorem exOp_quiet (hP : c.P = G.P) {s0 : St} {ε0 : List Value} {h : List Nat} (hi : InReg s0 ε0 ws X h s ε) (hok : Ok G D s ε wx ws X a w)
    (hq : quiet c h ops o s = true) (hu : ∀ b, guardS ops o s ≠ (none, some b)) (hd : (exOp c (some h) ops o K s).den G Λ ε wx ws X) :
    ∃ v s' ε', Yld G.P ops (Sreg X ws h ε0 s0.heap) o v a ∧ Nx (some h) s s' ε ε' ws ws X X ∧ Ok G D s' ε' wx ws X (a.put o.dst v) w ∧ (K s').den G Λ ε' wx ws X := by
  have skip : Region.wanted o (yielded ops a.tmps) = false → (K (s.put o.dst undefS)).den G Λ ε wx ws X →
      ∃ v s' ε', Yld G.P ops (Sreg X ws h ε0 s0.heap) o v a ∧ Nx (some h) s s' ε ε' ws ws X X ∧ Ok G D s' ε' wx ws X (a.put o.dst v) w ∧ (K s').den G Λ ε' wx ws X := by
    intro hw hk
    refine ⟨undef, _, ε, .inr ⟨hw, rfl⟩, ?_, hok.put o.dst undefS, hk⟩
    refine Nx.of_put ?_ _ _
    exact ⟨rfl, ⟨[], by simp⟩, fun _ => ⟨rfl, rfl⟩, fun _ _ _ _ _ => rfl⟩
  unfold exOp at hd
  unfold quiet at hq
  split at hd
  · rename_i hg
    have hw : Region.wanted o (yielded ops a.tmps) = true := by simp [Region.wanted, hg]
    have hgs : guardS ops o s = (some true, none) := by unfold guardS; rw [hg]
    rw [hgs] at hq
    exact exDo_quiet hP hi hok hw hq hd
  · rename_i j want hg
    have hwant : Region.wanted o (yielded ops a.tmps) = (yielded ops a.tmps j == some want) := by simp [Region.wanted, hg]
    split at hd
    · rename_i b hb
      have hy := yielded_bool hok hb
      split at hd
      · rename_i r hr
        have hgs : guardS ops o s = (some (r == want), none) := by unfold guardS; rw [hg]; simp only [hb, hr]
        rw [known_sound hok.path hr] at hy
        split at hd
        · rename_i hrw
          rw [hgs, hrw] at hq
          exact exDo_quiet hP hi hok (by rw [hwant, hy]; simpa using hrw) hq hd
        · rename_i hrw
          exact skip (by rw [hwant, hy]; simpa using hrw) hd
      · rename_i hr
        exact absurd (by unfold guardS; rw [hg]; simp only [hb, hr]) (hu b)
    · rename_i v hv
      split at hd
      · rename_i hnb
        exact skip (by rw [hwant, yielded_none hok hv hnb]; rfl) hd
      · exact hd.elim
    · exact hd.elim

theorem bothAll_den {f : Nat → VC} : ∀ {l : List Nat}, (bothAll f l).den G Λ ε wx ws X → ∀ i ∈ l, (f i).den G Λ ε wx ws X
  | [], _, i, hi => by simp at hi
  | [j], h, i, hi => by simp only [List.mem_singleton] at hi; subst hi; exact h
  | j :: k :: l, h, i, hi => by
    rcases List.mem_cons.1 hi with rfl | hi
    · exact h.1
    · exact bothAll_den (l := k :: l) h.2 i hi

theorem ready_count {listed : Array Bool} {i : Nat} (h : i ∈ Region.ready .any ops listed) : (listed.setIfInBounds i true).toList.count false + 1 = listed.toList.count false := by
  have h0 := (mem_ready.1 h).1
  have hlt : i < listed.size := by
    rcases Nat.lt_or_ge i listed.size with h' | h'
    · exact h'
    · simp [Array.getElem?_eq_none h'] at h0
  have hv : listed.toList[i]'(by simpa using hlt) = false := by simpa [hlt] using h0
  rw [Array.toList_setIfInBounds, List.count_set (h := by simpa using hlt)]
  have hpos : 0 < listed.toList.count false := List.count_pos_iff.2 (hv ▸ List.getElem_mem _)
  rw [hv]
  show List.count false listed.toList - 1 + 0 + 1 = List.count false listed.toList
  omega

/-- the list of marks says of the operations what p and ex say -/
structure Rep (n p : Nat) (ex : List Nat) (listed : Array Bool) : Prop where
  size : listed.size = n
  get : ∀ i, i < n → listed.getD i true = isL p ex i
  le : p ≤ n
  lt : ∀ x, memN x ex = true → x < n
theorem Rep.getF {n p : Nat} {ex : List Nat} {listed : Array Bool} (h : Rep n p ex listed) (i : Nat) : listed.getD i false = isL p ex i := by
  by_cases hi : i < n
  · rw [← h.get i hi]
    have : i < listed.size := by rw [h.size]; exact hi
    simp [this]
  · have h1 : isL p ex i = false := by
      unfold isL
      rw [Bool.or_eq_false_iff]
      refine ⟨?_, ?_⟩
      · have := h.le
        cases hb : Nat.blt i p with
        | false => rfl
        | true => have := blt_true hb; omega
      · cases hb : memN i ex with
        | false => rfl
        | true => exact absurd (h.lt i hb) hi
    rw [h1]
    have : listed.size ≤ i := by rw [h.size]; omega
    simp [Array.getElem?_eq_none this]
theorem Rep.start (ops : Array Oper) : Rep ops.size 0 [] (Array.replicate ops.size false) :=
  ⟨by simp, fun i hi => by rw [show isL 0 [] i = false by cases i <;> rfl]; simp [hi], Nat.zero_le _, fun x hx => by cases hx⟩
theorem mem_rangeFrom : ∀ {k p i : Nat}, i ∈ rangeFrom p k ↔ p ≤ i ∧ i < p + k
  | 0, p, i => by simp [rangeFrom]
  | k + 1, p, i => by
    simp only [rangeFrom, List.mem_cons]
    rw [mem_rangeFrom]
    omega
theorem Rep.ready {n p : Nat} {ex : List Nat} {listed : Array Bool} (h : Rep n p ex listed) (hn : n = ops.size) {i : Nat} : i ∈ Region.ready .any ops listed ↔ (isL p ex i = false ∧ readyA ops p ex i = true) := by
  rw [mem_ready]
  unfold readyA
  constructor
  · rintro ⟨h0, o, ho, hall⟩
    have hlt : i < n := by rw [hn]; exact (Array.getElem?_eq_some_iff.1 ho).1
    refine ⟨by rw [← h.get i hlt]; exact h0, ?_⟩
    rw [ho]
    simp only [List.all_eq_true, Bool.or_eq_true, Bool.not_eq_true']
    intro e he
    by_cases hb : Region.binds .any e = true
    · exact .inr (by rw [← h.getF]; exact hall e (by simpa using he) hb)
    · exact .inl (by simpa using hb)
  · rintro ⟨h0, h1⟩
    split at h1
    · rename_i o ho
      have hlt : i < n := by rw [hn]; exact (Array.getElem?_eq_some_iff.1 ho).1
      refine ⟨by rw [h.get i hlt]; exact h0, o, ho, fun e he hb => ?_⟩
      simp only [List.all_eq_true, Bool.or_eq_true, Bool.not_eq_true'] at h1
      rcases h1 e (by simpa using he) with h2 | h2
      · rw [hb] at h2; cases h2
      · rw [h.getF]; exact h2
    · cases h1
theorem Rep.readyL {n p : Nat} {ex : List Nat} {listed : Array Bool} (h : Rep n p ex listed) (hn : n = ops.size) {i : Nat} : i ∈ readyL ops p ex ↔ i ∈ Region.ready .any ops listed := by
  rw [h.ready hn]
  unfold Sx.readyL
  simp only [List.mem_filter, mem_rangeFrom, Bool.and_eq_true, Bool.not_eq_true']
  constructor
  · rintro ⟨⟨h1, h2⟩, h3, h4⟩
    refine ⟨?_, h4⟩
    unfold isL
    rw [Bool.or_eq_false_iff]
    refine ⟨?_, h3⟩
    cases hb : Nat.blt i p with
    | false => rfl
    | true => have := blt_true hb; omega
  · rintro ⟨h1, h2⟩
    unfold isL at h1
    rw [Bool.or_eq_false_iff] at h1
    have hlt : i < ops.size := by
      unfold readyA at h2
      split at h2
      · rename_i o ho; exact (Array.getElem?_eq_some_iff.1 ho).1
      · cases h2
    have hp : p ≤ i := by
      rcases Nat.lt_or_ge i p with hl | hl
      · have : Nat.blt i p = true := by simpa using hl
        rw [this] at h1; cases h1.1
      · exact hl
    exact ⟨⟨hp, by omega⟩, h1.2, h2⟩
theorem advL_spec : ∀ (k p : Nat) (ex : List Nat), p ≤ advL k p ex ∧ ∀ j, p ≤ j → j < advL k p ex → memN j ex = true
  | 0, p, ex => ⟨Nat.le_refl _, fun j h1 h2 => by simp only [advL] at h2; omega⟩
  | k + 1, p, ex => by
    simp only [advL]
    split
    · rename_i hm
      obtain ⟨h1, h2⟩ := advL_spec k (p + 1) ex
      refine ⟨by omega, fun j hj1 hj2 => ?_⟩
      by_cases hjp : j = p
      · subst hjp; exact hm
      · exact h2 j (by omega) hj2
    · exact ⟨Nat.le_refl _, fun j h1 h2 => by omega⟩
theorem isL_put {p : Nat} {ex : List Nat} {i : Nat} (j : Nat) : isL (putP p ex i) (putE p ex i) j = (isL p ex j || decide (j = i)) := by
  unfold putE putP
  by_cases hip : i = p
  · subst hip
    rw [if_pos (by simp), if_pos (by simp)]
    obtain ⟨h1, h2⟩ := advL_spec ex.length (i + 1) ex
    generalize hq : advL ex.length (i + 1) ex = q at h1 h2
    rw [Bool.eq_iff_iff]
    unfold isL
    simp only [Bool.or_eq_true, decide_eq_true_eq, memN_iff, List.mem_filter, if_pos, Nat.beq_refl, if_true, hq]
    constructor
    · rintro (h | ⟨h, _⟩)
      · have h := blt_true h
        by_cases hj : j < i
        · exact .inl (.inl (by simpa using hj))
        · by_cases hji : j = i
          · exact .inr hji
          · exact .inl (.inr (memN_iff.1 (h2 j (by omega) h)))
      · exact .inl (.inr h)
    · rintro ((h | h) | h)
      · have h := blt_true h
        exact .inl (by simp; omega)
      · by_cases hj : j < q
        · exact .inl (by simpa using hj)
        · exact .inr ⟨h, by simp; omega⟩
      · subst h; exact .inl (by simp; omega)
  · have hb : Nat.beq i p = false := by
      cases h : Nat.beq i p with
      | false => rfl
      | true => exact absurd (Nat.eq_of_beq_eq_true h) hip
    simp only [hb]
    rw [Bool.eq_iff_iff]
    unfold isL
    simp only [Bool.or_eq_true, decide_eq_true_eq, memN_iff, List.mem_cons, Bool.false_eq_true, if_false]
    constructor
    · rintro (h | h | h)
      · exact .inl (.inl h)
      · exact .inr h
      · exact .inl (.inr h)
    · rintro ((h | h) | h)
      · exact .inl h
      · exact .inr (.inr h)
      · exact .inr (.inl h)
theorem Rep.put {n p : Nat} {ex : List Nat} {listed : Array Bool} (h : Rep n p ex listed) {i : Nat} (hi : i < n) : Rep n (putP p ex i) (putE p ex i) (listed.setIfInBounds i true) := by
  have hget : ∀ j, j < n → (listed.setIfInBounds i true).getD j true = isL (putP p ex i) (putE p ex i) j := by
    intro j hj
    rw [isL_put]
    by_cases hji : j = i
    · subst hji
      have : j < listed.size := by rw [h.size]; exact hj
      simp [this]
    · rw [getD_set_ne true (fun e => hji e.symm), h.get j hj]
      simp [hji]
  have hall : ∀ j, isL (putP p ex i) (putE p ex i) j = true → j < n := by
    intro j hj
    rw [isL_put] at hj
    simp only [Bool.or_eq_true, decide_eq_true_eq] at hj
    rcases hj with hj | rfl
    · unfold isL at hj
      simp only [Bool.or_eq_true] at hj
      rcases hj with hj | hj
      · have := blt_true hj; have := h.le; omega
      · exact h.lt j hj
    · exact hi
  refine ⟨by simp [h.size], hget, ?_, fun x hx => hall x (by unfold isL; rw [hx]; simp)⟩
  rcases Nat.lt_or_ge n (putP p ex i) with hl | hl
  · have := hall n (by unfold isL; rw [Bool.or_eq_true]; exact .inl (by simpa using hl))
    omega
  · exact hl
theorem pairOk_spec {oi oj : Oper} {i j : Nat} (h : pairOk ops oi i j = true) (hj : ops[j]? = some oj) (hno : ∀ e ∈ oj.after, Region.binds .any e = true → e.on ≠ i) : oi.apart ops oj = true := by
  unfold pairOk at h
  rw [hj] at h
  simp only [Bool.or_eq_true] at h
  rcases h with h | h
  · obtain ⟨e, he, hb⟩ := List.any_eq_true.1 h
    simp only [Bool.and_eq_true] at hb
    exact absurd (Nat.eq_of_beq_eq_true hb.2) (hno e (by simpa using he) hb.1)
  · exact h
theorem Rep.free {n p : Nat} {ex : List Nat} {listed : Array Bool} (h : Rep n p ex listed) (hn : n = ops.size) {st : Bool} (hst : st = true → regOk ops = true) {i : Nat} {oi : Oper} (hi : ops[i]? = some oi)
    (hf : (st && Nat.beq i p || freeA ops p ex i) = true) : ∀ j oj, ops[j]? = some oj → j ≠ i → listed.getD j true = false → (∀ e ∈ oj.after, Region.binds .any e = true → e.on ≠ i) → oi.apart ops oj = true := by
  intro j oj hj hji hun hno
  have hjn : j < n := by rw [hn]; exact (Array.getElem?_eq_some_iff.1 hj).1
  rw [h.get j hjn] at hun
  unfold isL at hun
  rw [Bool.or_eq_false_iff] at hun
  have hpj : p ≤ j := by
    rcases Nat.lt_or_ge j p with hl | hl
    · have : Nat.blt j p = true := by simpa using hl
      rw [this] at hun; cases hun.1
    · exact hl
  simp only [Bool.or_eq_true, Bool.and_eq_true] at hf
  rcases hf with ⟨h1, h2⟩ | hf
  · have hip := Nat.eq_of_beq_eq_true h2
    subst hip
    have hr := hst h1
    unfold regOk at hr
    have hin : i < ops.size := (Array.getElem?_eq_some_iff.1 hi).1
    have hr1 := List.all_eq_true.1 hr i (mem_rangeFrom.2 ⟨by omega, by omega⟩)
    rw [hi] at hr1
    have hr2 := List.all_eq_true.1 hr1 j (mem_rangeFrom.2 ⟨by omega, by omega⟩)
    exact pairOk_spec hr2 hj hno
  · unfold freeA at hf
    rw [hi] at hf
    have h2 := List.all_eq_true.1 hf j (mem_rangeFrom.2 ⟨hpj, by omega⟩)
    simp only [Bool.or_eq_true] at h2
    rcases h2 with (h2 | h2) | h2
    · exact absurd (Nat.eq_of_beq_eq_true h2) hji
    · rw [hun.2] at h2; cases h2
    · exact pairOk_spec h2 hj hno
theorem pickQ_spec {h : List Nat} {st : Bool} {p : Nat} {ex : List Nat} {i : Nat} : ∀ {l : List Nat}, pickQ c h ops st p ex s l = some i → i ∈ l ∧ quietI c h ops s i = true ∧ (st && Nat.beq i p || freeA ops p ex i) = true
  | [], hp => by cases hp
  | j :: l, hp => by
    simp only [pickQ] at hp
    split at hp
    · rename_i hq
      cases hp
      simp only [Bool.and_eq_true] at hq
      exact ⟨by simp, hq.1, hq.2⟩
    · obtain ⟨h1, h2, h3⟩ := pickQ_spec hp
      exact ⟨by simp [h1], h2, h3⟩

theorem lastA_spec {i : Nat} (h : lastA ops i = true) : Lst ops i := by
  intro oj hoj j hj hji
  unfold lastA at h
  rw [hoj] at h
  have h1 := List.all_eq_true.1 h j (mem_rangeFrom.2 ⟨Nat.zero_le _, by omega⟩)
  simp only [Bool.or_eq_true] at h1
  rcases h1 with h1 | h1
  · exact absurd (Nat.eq_of_beq_eq_true h1) hji
  · obtain ⟨e, he, hb⟩ := List.any_eq_true.1 h1
    simp only [Bool.and_eq_true] at hb
    exact ⟨e, by simpa using he, hb.1, Nat.eq_of_beq_eq_true hb.2⟩
theorem last_ready {i : Nat} {o : Oper} {listed : Array Bool} (h : Lst ops i) (ho : ops[i]? = some o) (hr : i ∈ Region.ready .any ops listed) : Region.ready .any ops (listed.setIfInBounds i true) = [] := by
  obtain ⟨hun, oi, hoi, hall⟩ := mem_ready.1 hr
  cases hq : Region.ready .any ops (listed.setIfInBounds i true) with
  | nil => rfl
  | cons j l =>
    exfalso
    have hj : j ∈ Region.ready .any ops (listed.setIfInBounds i true) := by rw [hq]; simp
    obtain ⟨hjun, oj, hoj, _⟩ := mem_ready.1 hj
    by_cases hji : j = i
    · subst hji
      rcases Nat.lt_or_ge j listed.size with h' | h'
      · simp [h'] at hjun
      · simp [Array.getElem?_eq_none h'] at hun
    · obtain ⟨e, he, hb, heq⟩ := h oi hoi j (Array.getElem?_eq_some_iff.1 hoj).1 hji
      have h1 := hall e he hb
      rw [heq] at h1
      rw [getD_set_ne true (Ne.symm hji)] at hjun
      rcases Nat.lt_or_ge j listed.size with h' | h'
      · simp [h'] at h1 hjun; rw [h1] at hjun; cases hjun
      · simp [Array.getElem?_eq_none h'] at h1
theorem exDraw_sound (hP : c.P = G.P) (hns : Region.noSelect ops = true) {st : Bool} (hst : st = true → regOk ops = true) {s0 : St} {ε0 : List Value} {h : List Nat}
    (hK : ∀ s' ε' wx' a' w', InReg s0 ε0 ws X h s' ε' → Ok G D s' ε' wx' ws X a' w' → (K { s' with drawn := false }).den G Λ ε' wx' ws X → KK a' w') (hK2 : ∀ s' δ wx' ws' X' a' w', s'.drawn = false → Ok G D s' (ε0 ++ δ) wx' ws' X' a' w' → (K s').den G Λ (ε0 ++ δ) wx' ws' X' → KK a' w') :
    ∀ (m : Nat) (n : Nat) (p : Nat) (ex : List Nat) (listed : Array Bool) (s : St) (ε : List Value) (wx : World) (a : Act) (w : World), Rep ops.size p ex listed → listed.toList.count false ≤ n → InReg s0 ε0 ws X h s ε → Ok G D s ε wx ws X a w →
      (exDraw c h ops st m p ex K s).den G Λ ε wx ws X → anyG G.P ops KK (Sreg X ws h ε0 s0.heap) n listed a w := by
  intro m
  induction m with
  | zero => intro n p ex listed s ε wx a w _ _ _ _ hd; exact hd.elim
  | succ m ih =>
    intro n p ex listed s ε wx a w hrep hn hi hok hd
    -- one operation taken ahead of all
    have take : ∀ (i : Nat) (o : Oper), ops[i]? = some o → i ∈ Region.ready .any ops listed → quietI c h ops s i = true → (st && Nat.beq i p || freeA ops p ex i) = true →
        (match guardS ops o s with
          | (none, some b) => VC.split b (exDraw c h ops st m p ex K { s with path := (b, true) :: s.path }) (exDraw c h ops st m p ex K { s with path := (b, false) :: s.path })
          | _ => exOp c (some h) ops o (exDraw c h ops st m (putP p ex i) (putE p ex i) K) s).den G Λ ε wx ws X →
        anyG G.P ops KK (Sreg X ws h ε0 s0.heap) n listed a w := by
      intro i o ho him hqi hfi hd
      obtain ⟨n, rfl⟩ : ∃ k, n = k + 1 := by
        have := ready_count him
        exact ⟨n - 1, by omega⟩
      have hcnt : (listed.setIfInBounds i true).toList.count false ≤ n := by have := ready_count him; omega
      have hq : quiet c h ops o s = true := by unfold quietI at hqi; rw [ho] at hqi; exact hqi
      have hlt : i < ops.size := (Array.getElem?_eq_some_iff.1 ho).1
      split at hd
      · rename_i b hg
        have key : ∀ r', b.den ε = r' → (exDraw c h ops st m p ex K { s with path := (b, r') :: s.path }).den G Λ ε wx ws X → anyG G.P ops KK (Sreg X ws h ε0 s0.heap) (n + 1) listed a w := by
          intro r' hb hd'
          refine ih (n + 1) p ex listed _ ε wx a w hrep hn (hi.path _) (hok.addPath _ ?_) hd'
          intro b' q hm
          simp only [List.mem_cons, Prod.mk.injEq] at hm
          rcases hm with ⟨rfl, rfl⟩ | hm
          · exact hb
          · exact hok.path b' q hm
        cases hb : b.den ε with
        | true => exact key true hb (hd.1 hb)
        | false => exact key false hb (hd.2 hb)
      · rename_i hg
        obtain ⟨v, s', ε', hy, hn', hok', hk⟩ := exOp_quiet hP hi hok hq (fun b hb => hg b hb) hd
        obtain ⟨_, _, hi'⟩ := hi.step hn'
        exact anyG_first ho (Region.noSelect_spec hns) n listed a w (hrep.free rfl hst ho hfi) him hy (hi.S hok) (ih n _ _ _ s' ε' wx _ w (hrep.put hlt) hcnt hi' hok' hk)
    unfold exDraw at hd
    split at hd
    · rename_i hfast
      simp only [Bool.and_eq_true] at hfast
      obtain ⟨hst1, hex, hra, hqi⟩ := hfast
      split at hd
      · rename_i o ho
        have hlt : p < ops.size := (Array.getElem?_eq_some_iff.1 ho).1
        have him : p ∈ Region.ready .any ops listed := (hrep.ready rfl).2 ⟨by
          unfold isL
          rw [Bool.or_eq_false_iff]
          refine ⟨?_, by simpa using hex⟩
          cases hb : Nat.blt p p with
          | false => rfl
          | true => have := blt_true hb; omega, hra⟩
        exact take p o ho him hqi (by rw [hst1]; simp) hd
      · exact hd.elim
    · split at hd
      · rename_i hr
        have hr' : Region.ready .any ops listed = [] := by
          cases hq : Region.ready .any ops listed with
          | nil => rfl
          | cons x l =>
            have := (hrep.readyL rfl (i := x)).2 (by rw [hq]; simp)
            rw [hr] at this
            cases this
        exact anyG_done hr' (hK _ _ _ _ _ hi hok hd) n
      · rename_i r rs hr
        have hmem : ∀ i ∈ r :: rs, i ∈ Region.ready .any ops listed := fun i h' => (hrep.readyL rfl).1 (by rw [hr]; exact h')
        split at hd
        · rename_i i hf
          obtain ⟨him, hqi, hfi⟩ := pickQ_spec hf
          split at hd
          · rename_i o ho
            exact take i o ho (hmem i him) hqi hfi hd
          · exact hd.elim
        · rename_i hf
          obtain ⟨n, rfl⟩ : ∃ k, n = k + 1 := by
            have := ready_count (hmem r (by simp))
            exact ⟨n - 1, by omega⟩
          have hcnt : ∀ i ∈ r :: rs, (listed.setIfInBounds i true).toList.count false ≤ n := fun i h' => by have := ready_count (hmem i h'); omega
          have hall := bothAll_den hd
          refine ⟨fun he => (by have := hmem r (by simp); rw [he] at this; cases this), fun i him => ?_⟩
          have him' : i ∈ r :: rs := by rw [← hr]; exact (hrep.readyL rfl).2 him
          have hd' := hall i him'
          split at hd'
          · rename_i o ho
            have hlt : i < ops.size := (Array.getElem?_eq_some_iff.1 ho).1
            split at hd'
            · rename_i hl
              simp only [Bool.and_eq_true] at hl
              have hls := lastA_spec hl.2
              have hok2 : Ok G D { s with drawn := false } ε wx ws X a w := { hok with kws := fun h => (by cases h), kX := fun h => (by cases h) }
              refine exOp_sound hP hok2 ho hd' ?_
              intro s' ε' wx' ws' X' a' w' hn' hok' hk
              obtain ⟨δ0, hδ0⟩ := hi.nx.env
              obtain ⟨δ1, hδ1⟩ := hn'.env
              subst hδ0
              subst hδ1
              rw [List.append_assoc] at hok' hk
              exact ⟨.inr hls, anyG_done (last_ready hls ho him) (hK2 s' _ wx' ws' X' a' w' hn'.drawn hok' hk) n⟩
            · refine exOp_sound hP hok ho hd' ?_
              intro s' ε' wx' ws' X' a' w' hn' hok' hk
              obtain ⟨rfl, rfl, hi'⟩ := hi.step hn'
              exact ⟨.inl (hi'.S hok'), ih n _ _ _ s' ε' wx' a' w' (hrep.put hlt) (hcnt i him') hi' hok' hk⟩
          · exact hd'.elim
theorem exDrawR_sound (hP : c.P = G.P) (hns : Region.noSelect ops = true) {s0 : St} {ε0 : List Value} {h : List Nat}
    (hK : ∀ s' ε' wx' a' w', InReg s0 ε0 ws X h s' ε' → Ok G D s' ε' wx' ws X a' w' → (K { s' with drawn := false }).den G Λ ε' wx' ws X → KK a' w') (hK2 : ∀ s' δ wx' ws' X' a' w', s'.drawn = false → Ok G D s' (ε0 ++ δ) wx' ws' X' a' w' → (K s').den G Λ (ε0 ++ δ) wx' ws' X' → KK a' w')
    (s : St) (ε : List Value) (wx : World) (a : Act) (w : World) (hi : InReg s0 ε0 ws X h s ε) (hok : Ok G D s ε wx ws X a w)
    (hd : (exDrawR c h ops K s).den G Λ ε wx ws X) : anyG G.P ops KK (Sreg X ws h ε0 s0.heap) ops.size (Array.replicate ops.size false) a w := by
  unfold exDrawR at hd
  split at hd
  · rename_i hr
    exact exDraw_sound hP hns (fun _ => hr) hK hK2 _ _ 0 [] _ s ε wx a w (Rep.start ops) (by simp) hi hok hd
  · exact exDraw_sound hP hns (fun h => by cases h) hK hK2 _ _ 0 [] _ s ε wx a w (Rep.start ops) (by simp) hi hok hd
end
end Go.Sx
