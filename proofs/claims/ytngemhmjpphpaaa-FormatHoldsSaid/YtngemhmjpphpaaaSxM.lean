/- Part M of a symbolic run of Go code by computation: its states, conditions and the proof that a condition that holds says what the function returns. No conditions of its own. -/
import Derived.Test.YtngemhmjpphpaaaSxL
set_option linter.unusedVariables false
set_option linter.unusedSimpArgs false
namespace Go.Sx
open Go.RowKit

section
variable {G : Ctx} {D : List Deferred} {s : St} {ε : List Value} {wx ws : World} {X : Nat → Prop} {a : Act} {w : World} {o : Oper}

theorem add_block (ad : Addr) (j : Nat) : (ad.add j).block = ad.block := by
  obtain ⟨b, o, p⟩ := ad; unfold Addr.add; repeat' (first | rfl | split)

theorem gen_vals (hok : Ok G D s ε wx ws X a w) {op : Op} {vals : List (Operand × SV)} (h : genRes s op = .gen vals) : ValsAt ε a.eval vals := by
  unfold genRes at h
  split at h
  · rename_i vs hv
    split at h
    · cases h
    · cases h
      exact (vals_den hok hv).1
  · cases h
theorem pur_vals (hok : Ok G D s ε wx ws X a w) {op : Op} {vals : List (Operand × SV)} (h : genRes s op = .pur vals) : ValsAt ε a.eval vals := by
  unfold genRes at h
  split at h
  · rename_i vs hv
    split at h
    · cases h
      exact (vals_den hok hv).1
    · cases h
  · cases h

theorem stepS_gen (hok : Ok G D s ε wx ws X a w) {vals : List (Operand × SV)} (h : stepS G.P s o.op = .gen vals) : ValsAt ε a.eval vals := by
  cases ho : o.op <;> rw [ho] at h
  case call c =>
    obtain ⟨callee, cargs, argTypes⟩ := c
    cases callee with
    | builtin b => cases b <;> (simp only [stepS] at h; repeat' (first | (cases h; done) | exact gen_vals hok h | split at h))
    | _ => simp only [stepS] at h; repeat' (first | (cases h; done) | exact gen_vals hok h | split at h)
  case unOp u t x => cases u <;> (simp only [stepS] at h; repeat' (first | (cases h; done) | exact gen_vals hok h | split at h))
  case makeFunc f x y => cases f <;> (simp only [stepS] at h; repeat' (first | (cases h; done) | exact gen_vals hok h | split at h))
  all_goals (simp only [stepS] at h; repeat' (first | (cases h; done) | exact gen_vals hok h | split at h))

theorem stepS_pur (hok : Ok G D s ε wx ws X a w) {vals : List (Operand × SV)} (h : stepS G.P s o.op = .pur vals) : ValsAt ε a.eval vals := by
  cases ho : o.op <;> rw [ho] at h
  case call c =>
    obtain ⟨callee, cargs, argTypes⟩ := c
    cases callee with
    | builtin b => cases b <;> (simp only [stepS] at h; repeat' (first | (cases h; done) | exact pur_vals hok h | split at h))
    | _ => simp only [stepS] at h; repeat' (first | (cases h; done) | exact pur_vals hok h | split at h)
  case unOp u t x => cases u <;> (simp only [stepS] at h; repeat' (first | (cases h; done) | exact pur_vals hok h | split at h))
  case makeFunc f x y => cases f <;> (simp only [stepS] at h; repeat' (first | (cases h; done) | exact pur_vals hok h | split at h))
  all_goals (simp only [stepS] at h; repeat' (first | (cases h; done) | exact pur_vals hok h | split at h))

theorem execOp_bare (ρ : Operand → Value) (o : Oper) : execOp ρ (bare o.op o.type) = execOp ρ o := by
  obtain ⟨dst, op, type, pos, after, guard⟩ := o
  cases op <;> rfl

/-- the world is shown anew -/
theorem Ok.restart (hok : Ok G D s ε wx ws X a w) (hd : s.drawn = false) : Ok G D { s with t0 := [] } ε w w (BlkIn ε []) a w :=
  { hok with
    kx := Kept.refl _ _
    kws := fun h => by rw [hd] at h; cases h
    kwz := Nat.le_refl _
    kX := fun h => by rw [hd] at h; cases h }

/-- what the rest of the run needs -/
def Cont (G : Ctx) (Λ : Nat → List Value → World → Prop) (D : List Deferred) (H : Option (List Nat)) (s : St) (ε : List Value) (ws : World) (X : Nat → Prop) (K : St → VC) (KK : Act → World → Prop) : Prop :=
  ∀ s' ε' wx' ws' X' a' w', Nx H s s' ε ε' ws ws' X X' → Ok G D s' ε' wx' ws' X' a' w' → (K s').den G Λ ε' wx' ws' X' → KK a' w'

theorem St.put_drawn (s : St) (d : Option Tmp) (v : SV) : (s.put d v).drawn = s.drawn := by cases d <;> rfl
theorem St.put_heap (s : St) (d : Option Tmp) (v : SV) : (s.put d v).heap = s.heap := by cases d <;> rfl
theorem St.put_ks (s : St) (d : Option Tmp) (v : SV) : (s.put d v).ks = s.ks := by cases d <;> rfl

theorem Nx.of_put {H : Option (List Nat)} {s s' : St} {ε ε' : List Value} {ws ws' : World} {X X' : Nat → Prop} (h : Nx H s s' ε ε' ws ws' X X') (d : Option Tmp) (v : SV) : Nx H s (s'.put d v) ε ε' ws ws' X X' :=
  ⟨by rw [St.put_drawn]; exact h.drawn, h.env, h.same, by rw [St.put_heap]; exact h.held⟩

theorem findH_skip {fs : Facts} {i j : Nat} {l : List SV} (h : i ≠ j) : findH ((i, l) :: fs) j = findH fs j := by
  simp only [findH]
  rw [if_neg (by simpa using h)]

variable {c : Cfg} {H : Option (List Nat)} {K : St → VC} {KK : Act → World → Prop} {Λ : Nat → List Value → World → Prop}

theorem idxK_sound {wx ws : World} {X : Nat → Prop} {i lo n : Nat} {e : IE} {K : St → SV → VC} : ∀ (r j : Nat) (s : St), (∀ b q, (b, q) ∈ s.path → b.den ε = q) → (idxK i lo e n K j r s).den G Λ ε wx ws X →
    ∃ (k : Nat) (p : List (BE × Bool)), e.den ε = k ∧ (∀ b q, (b, q) ∈ p → b.den ε = q) ∧ (K { s with path := p } (.ptr i (lo + k * n))).den G Λ ε wx ws X
  | 0, _, _, _, h => h.elim
  | r + 1, j, s, hp, h => by
    simp only [idxK] at h
    split at h
    · rename_i hk
      have := known_sound hp hk
      exact ⟨j, s.path, by simpa [BE.den, IE.den] using this, hp, h⟩
    · exact idxK_sound r (j + 1) s hp h
    · have hp' : ∀ q, (BE.eq e (.lit (Int.ofNat j))).den ε = q → ∀ b' q', (b', q') ∈ (BE.eq e (.lit (Int.ofNat j)), q) :: s.path → b'.den ε = q' := by
        intro q hq b' q' hm
        simp only [List.mem_cons, Prod.mk.injEq] at hm
        rcases hm with ⟨rfl, rfl⟩ | hm
        · exact hq
        · exact hp b' q' hm
      cases hq : (BE.eq e (.lit (Int.ofNat j))).den ε with
      | true => exact ⟨j, _, by simpa [BE.den, IE.den] using hq, hp' true hq, h.1 hq⟩
      | false => exact idxK_sound r (j + 1) { s with path := (.eq e (.lit (Int.ofNat j)), false) :: s.path } (hp' false hq) (h.2 hq)
/-- the value by the way taken is the value -/
theorem valK_sound {P : Program} {wx ws : World} {X : Nat → Prop} {op : Op} {v : SV} {K : St → SV → VC} {s : St} (hp : ∀ b q, (b, q) ∈ s.path → b.den ε = q) (h : (valK P op v K s).den G Λ ε wx ws X) :
    ∃ (v' : SV) (p : List (BE × Bool)), v'.den ε = v.den ε ∧ (∀ b q, (b, q) ∈ p → b.den ε = q) ∧ (K { s with path := p } v').den G Λ ε wx ws X := by
  unfold valK at h
  split at h
  · rename_i i lo e n m hi
    obtain ⟨k, p, hk, hpp, hd⟩ := idxK_sound m 0 s hp h
    refine ⟨_, p, ?_, hpp, hd⟩
    unfold idxOf at hi
    split at hi
    · split at hi
      · split at hi
        · split at hi
          · cases hi
            simp only [SV.den, hk, Int.toNat_natCast]
            cases vaddr (nth ε i) <;> simp [addO, add_add]
          · cases hi
        · cases hi
      · cases hi
    · cases hi
  · exact ⟨v, s.path, rfl, hp, h⟩

theorem exDo_sound (hP : c.P = G.P) (hok : Ok G D s ε wx ws X a w) (h : (exDo c H o K s).den G Λ ε wx ws X) (hK : Cont G Λ D H s ε ws X K KK) : OpGood G.P o a w KK := by
  have hlen : ε.length = s.ks.length := hok.ks.length
  unfold exDo at h
  rw [hP] at h
  split at h
  · rename_i p v hs
    obtain ⟨h1, h2⟩ := obs_den h
    have hy := stepS_val hok hs h1 w (fun t x i off cells _ _ hf => findH_facts hok.hp hf)
    obtain ⟨v', pp, hv', hpp, h2⟩ := valK_sound (nilPath_ok hok.path h1) h2
    rw [← hv'] at hy
    refine .inl ⟨v'.den ε, w, .inl hy, hK _ _ _ _ _ _ _ ?_ ((hok.addPath pp hpp).put o.dst v') h2⟩
    refine Nx.of_put ?_ _ _
    exact ⟨rfl, ⟨[], by simp⟩, fun _ => ⟨rfl, rfl⟩, fun _ _ _ _ _ => rfl⟩
  · rename_i u bs v hs
    split at h
    · rename_i hwf
      split at h
      · rename_i hd
        obtain ⟨l, hf, ⟨ad, had, hX, hc⟩, hk⟩ := h
        have hy := stepS_load hok hs hf had w (fun j x hj => by
          have := hc j x hj
          exact Kept.cell (hok.kws hd) this (by rw [add_block]; exact hX))
        refine .inl ⟨v.den (ε ++ l), w, .inl hy, hK _ _ _ _ _ _ _ ?_ ((hok.ext hwf hf).put o.dst v) hk⟩
        refine Nx.of_put ?_ _ _
        exact ⟨rfl, ⟨l, rfl⟩, fun _ => ⟨rfl, rfl⟩, fun _ _ _ _ _ => rfl⟩
      · rename_i hd
        have hd' : s.drawn = false := by simpa using hd
        have h := h w hok.shown
        simp only [Bool.false_eq_true, if_false] at h
        obtain ⟨l, hf, ⟨ad, had, hX, hc⟩, hk⟩ := h
        have hy := stepS_load hok hs hf had w hc
        have hok' := (hok.restart hd').ext (s := { s with t0 := [] }) (by
          obtain ⟨h1, h2, h3, h4⟩ := wfS_parts hwf
          have hkeys : ∀ (n : Nat) (fs : Facts), wfF n fs = true → wfN n (keys fs) = true := by
            intro n fs
            induction fs with
            | nil => intro _; rfl
            | cons p fs ih =>
              intro hh
              simp only [wfF, Bool.and_eq_true] at hh
              simp only [keys, wfN, Bool.and_eq_true]
              exact ⟨hh.1.1, ih hh.2⟩
          simp only [wfS, Bool.and_eq_true]
          exact ⟨⟨⟨h1, h2⟩, rfl⟩, h4⟩) hf
        refine .inl ⟨v.den (ε ++ l), w, .inl hy, hK _ _ _ _ _ _ _ ?_ (hok'.put o.dst v) hk⟩
        refine Nx.of_put ?_ _ _
        exact ⟨rfl, ⟨l, rfl⟩, fun hx => (by rw [hd'] at hx; cases hx), fun _ _ _ _ _ => rfl⟩
    · exact h.elim
  · rename_i cells v hs
    split at h
    · rename_i hwf
      simp only [Bool.and_eq_true] at hwf
      obtain ⟨⟨hwf, hwl⟩, _⟩ := hwf
      obtain ⟨ty, hy⟩ := stepS_alloc hok hs
      have hk := h w.heap.size hok.kx.size hok.kwz hok.base.size
      refine .inl ⟨_, _, .inl (hy w), hK _ _ _ _ _ _ _ ?_ ((hok.alloc hwf hwl ty).put o.dst v) hk⟩
      refine Nx.of_put ?_ _ _
      refine ⟨rfl, ⟨_, rfl⟩, fun _ => ⟨rfl, rfl⟩, fun _ _ i _ hi => ?_⟩
      exact findH_skip (by omega)
    · exact h.elim
  · rename_i key off vs hs
    split at h
    · rename_i cells hc
      split at h
      · exact h.elim
      · rename_i hH
        obtain ⟨cells', b, ty, hc', hb, hh, hr⟩ := stepS_store hok hs
        rw [hc] at hc'
        cases hc'
        refine .inl ⟨undef, _, .inr ⟨hr, rfl⟩, hK _ _ _ _ _ _ _ ?_ ((hok.store hc hb hh).put o.dst undefS) h⟩
        refine Nx.of_put ?_ _ _
        refine ⟨rfl, ⟨[], by simp⟩, fun _ => ⟨rfl, rfl⟩, fun l hl i hi _ => ?_⟩
        refine findH_setH _ _ _ _ fun e => ?_
        subst e
        rw [hl] at hH
        exact hH (memN_iff.2 hi)
    · exact h.elim
  · rename_i f args hs
    split at h
    · exact h.elim
    · rename_i fn hfn
      split at h
      · exact h.elim
      · rename_i bs rv hr
        simp only at h
        split at h
        · rename_i hwf
          simp only [Bool.and_eq_true] at hwf
          obtain ⟨⟨hwf, hwl⟩, hHc⟩ := hwf
          obtain ⟨R, Fp, hcalls, hFp, hall⟩ := h w hok.shown
          refine .inr (.inl ⟨f, (denL ε args).toArray, w, stepS_call hok hs w, hcalls.mono ?_⟩)
          rintro e w' ⟨l, hf, rfl, hR, hk, htf⟩
          refine ⟨_, rfl, ?_⟩
          have hall' := allB_elim hall hf w' hR hk
          have hok' := hok.after hwf hf hk htf hFp
          refine hK _ _ _ _ _ _ _ ?_ (hok'.put o.dst rv) ?_
          · refine Nx.of_put ?_ _ _
            refine ⟨rfl, ⟨l, rfl⟩, fun hd => ?_, fun hl hhl i hi _ => ?_⟩
            · rw [if_pos hd, if_pos hd]; exact ⟨rfl, rfl⟩
            · refine findH_setAll_other _ _ _ fun hm => ?_
              rw [hhl] at hHc
              have := List.all_eq_true.1 hHc i hm
              simp [memN_iff.2 hi] at this
          · by_cases hd : s.drawn = true
            · rw [if_pos hd] at hall'; rw [if_pos hd, if_pos hd]; exact hall'
            · rw [if_neg hd] at hall'; rw [if_neg hd, if_neg hd]; exact hall'
        · exact h.elim
  · rename_i vals hs
    have hva := stepS_pur hok hs
    split at h
    · rename_i hwf
      simp only [Bool.and_eq_true] at hwf
      split at h
      · exact h.elim
      · rename_i bs rv hfr
        split at h
        · rename_i hd
          obtain ⟨l, hf, hrun, hk⟩ := h
          have hy := hrun a.eval hva w (hok.kws hd)
          rw [execOp_bare] at hy
          refine .inl ⟨_, w, .inl hy, hK _ _ _ _ _ _ _ ?_ ((hok.ext hwf.1 hf).put o.dst rv) hk⟩
          refine Nx.of_put ?_ _ _
          exact ⟨rfl, ⟨l, rfl⟩, fun _ => ⟨rfl, rfl⟩, fun _ _ _ _ _ => rfl⟩
        · rename_i hd
          have hd' : s.drawn = false := by simpa using hd
          have h := h w hok.shown
          simp only [Bool.false_eq_true, if_false] at h
          obtain ⟨l, hf, hrun, hk⟩ := h
          have hy := hrun a.eval hva w (Kept.refl _ _)
          rw [execOp_bare] at hy
          have hok' := (hok.restart hd').ext (s := { s with t0 := [] }) (by
            obtain ⟨h1, h2, h3, h4⟩ := wfS_parts hwf.1
            have hkeys : ∀ (n : Nat) (fs : Facts), wfF n fs = true → wfN n (keys fs) = true := by
              intro n fs
              induction fs with
              | nil => intro _; rfl
              | cons p fs ih =>
                intro hh
                simp only [wfF, Bool.and_eq_true] at hh
                simp only [keys, wfN, Bool.and_eq_true]
                exact ⟨hh.1.1, ih hh.2⟩
            simp only [wfS, Bool.and_eq_true]
            exact ⟨⟨⟨h1, h2⟩, rfl⟩, h4⟩) hf
          refine .inl ⟨_, w, .inl hy, hK _ _ _ _ _ _ _ ?_ (hok'.put o.dst rv) hk⟩
          refine Nx.of_put ?_ _ _
          exact ⟨rfl, ⟨l, rfl⟩, fun hx => (by rw [hd'] at hx; cases hx), fun _ _ _ _ _ => rfl⟩
    · exact h.elim
  · rename_i vals hs
    have hva := stepS_gen hok hs
    have fin : ∀ (bs : List Base) (rv : SV), wfS s = true →
        (VC.gen o.op o.type vals bs rv [] s.drawn s.t0 [] (keys s.heap) s.heap (K ((afterS s bs [] []).put o.dst rv))).den G Λ ε wx ws X → OpGood G.P o a w KK := by
      intro bs rv hwf h
      obtain ⟨R, Fp, hrun, hFp, hall⟩ := h w hok.shown
      have fin2 : ∀ v w', (∃ l, Fits bs l ∧ v = rv.den (ε ++ l) ∧ R l w' ∧ Kept Fp w w' ∧ FactsAt (ε ++ l) w' []) → KK (a.put o.dst v) w' := by
       rintro v w' ⟨l, hf, rfl, hR, hk, htf⟩
       have hall' := allB_elim hall hf w' hR hk
       have hwn : ∀ (k : List Nat), without [] k = k := by
         intro k
         induction k with
         | nil => rfl
         | cons x k ih => simp [without, memN, ih]
       have hok' := hok.after (bs := bs) (tbs := []) (tf := []) hwf (by simpa using hf) hk htf (fun b hb hlt => by
         have := hFp b hb hlt
         show FpOk G s.drawn X ε (without [] (keys s.heap)) w b
         rw [hwn]
         exact this)
       refine hK _ _ _ _ _ _ _ ?_ (hok'.put o.dst rv) ?_
       · refine Nx.of_put ?_ _ _
         refine ⟨rfl, ⟨l, rfl⟩, fun hd => ?_, fun _ _ _ _ _ => rfl⟩
         rw [if_pos hd, if_pos hd]; exact ⟨rfl, rfl⟩
       · by_cases hd : s.drawn = true
         · rw [if_pos hd] at hall'; rw [if_pos hd, if_pos hd]; exact hall'
         · rw [if_neg hd] at hall'; rw [if_neg hd, if_neg hd]; exact hall'
      have hr0 := hrun a.eval hva
      unfold RunsTo at hr0
      rw [execOp_bare] at hr0
      rcases hr0 with ⟨v, w', hr, h2⟩ | ⟨l, f, tmps, assign, body, w', hr, h2⟩ | ⟨f, args, w', hr, h2⟩
      · exact .inl ⟨v, w', hr, fin2 _ _ h2⟩
      · exact .inr (.inr ⟨l, f, tmps, assign, body, w', hr, h2.mono fun e w'' ⟨v, he, h3⟩ => ⟨v, he, fin2 _ _ h3⟩⟩)
      · exact .inr (.inl ⟨f, args, w', hr, h2.mono fun e w'' ⟨v, he, h3⟩ => ⟨v, he, fin2 _ _ h3⟩⟩)
    split at h
    · rename_i hwf
      simp only [Bool.and_eq_true] at hwf
      split at h
      · exact fin _ _ hwf.1 h
      · split at h
        · exact h.elim
        · exact fin _ _ hwf.1 h
    · exact h.elim
  · exact h.elim
end
end Go.Sx
