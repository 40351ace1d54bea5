/- Part S of a symbolic run of Go code by computation: its states, conditions and the proof that a condition that holds says what the function returns. No conditions of its own. -/
import Derived.Test.YtngemhmjpphpaaaSxR
set_option linter.unusedVariables false
set_option linter.unusedSimpArgs false
namespace Go.Sx
open Go.RowKit

section
variable {G : Ctx} {D : List Deferred} {s : St} {ε : List Value} {wx ws : World} {X : Nat → Prop} {a : Act} {w : World}

def resOne (tmps : Array Value) : ResultVar → Sem Value
  | .tmp t => pure (tmps.getD t undef)
  | .cell a t => do loadVar t (← asAddr (tmps.getD a undef))
theorem results_eq (fn : Func) (tmps : Array Value) : results fn tmps = (do
    let vs ← fn.results.mapM (resOne tmps)
    pure (if h : vs.size = 1 then vs[0] else .tuple vs)) := by
  have : (fun x : ResultVar => match x with
    | .tmp t => (pure (tmps.getD t undef) : Sem Value)
    | .cell a t => do loadVar t (← asAddr (tmps.getD a undef))) = resOne tmps := by
    funext x; cases x <;> rfl
  unfold results
  rw [← this]
  rfl

theorem resS_run (hok : Ok G D s ε wx ws X a w) : ∀ {l : List ResultVar} {vs : List SV}, resS G.P s l = some vs →
    (l.mapM (resOne a.tmps)).run G.P w = .ok (denL ε vs) w
  | [], vs, h => by simp only [resS, Option.some.injEq] at h; subst h; simp [denL]
  | .tmp t :: l, vs, h => by
    simp only [resS] at h
    split at h
    · rename_i v vs' h1 h2
      cases h
      have ih := resS_run hok h2
      have hv : a.tmps.getD t undef = v.den ε := by simp [Array.getD_eq_getD_getElem?, hok.tm t v h1]
      simp only [List.mapM_cons, resOne, Sem.run_bind, Sem.run_pure, Result.andThen, ih, hv, denL]
    · cases h
  | .cell x t :: l, vs, h => by
    simp only [resS] at h
    split at h
    · rename_i i off vs' n h1 h2 h3
      have ih := resS_run hok h2
      have hv : a.tmps.getD x undef = .pointer (addO (vaddr (nth ε i)) off) := by simp [Array.getD_eq_getD_getElem?, hok.tm x _ h1, SV.den]
      split at h
      · rename_i cells hc
        obtain ⟨b, hb, hcell⟩ := hasBlk_cell (findH_facts hok.hp hc)
        have hs := fun w'' => run_size (P := G.P) h3 w''
        have had : a.tmps.getD x undef = .pointer (some ⟨b, off, none⟩) := by rw [hv, hb]; show Value.pointer (some ((Addr.mk b 0 none).add off)) = _; rw [addr_add, Nat.zero_add]
        split at h
        · rename_i hag
          have hi := fun w'' => run_isAgg (P := G.P) hag w''
          split at h
          · rename_i hle
            cases h
            have hle' := Nat.le_of_ble_eq_true hle
            have hl : ∀ j v, ((denL ε cells).drop off |>.take n)[j]? = some v → w.cell? ((Addr.mk b off none).add j) = some v := by
              intro j v hj
              rw [addr_add, hcell]
              rw [List.getElem?_take] at hj
              split at hj
              · rw [List.getElem?_drop] at hj; exact hj
              · cases hj
            have hlen : ((denL ε cells).drop off |>.take n).length = n := by simp [denL_length]; omega
            have hlc := run_loadCells_list (P := G.P) (w := w) ⟨b, off, none⟩ _ hl
            rw [hlen] at hlc
            simp only [List.mapM_cons, resOne, Sem.run_bind, had, asAddr, Sem.run_pure, Result.andThen, loadVar, hi, hs, hlc, ih, denL, SV.den, denL_take, denL_drop, if_true]

          · cases h
        · rename_i hag
          have hi := fun w'' => run_isAgg (P := G.P) hag w''
          split at h
          · rename_i v hv'
            cases h
            have hcl : w.cell? ⟨b, off, none⟩ = some (v.den ε) := by rw [hcell, denL_get, hv']; rfl
            simp [List.mapM_cons, resOne, Sem.run_bind, had, asAddr, Sem.run_pure, Result.andThen, loadVar, hi, load, Sem.run, hcl, ih, denL]
          · cases h
        · cases h
      · cases h
    · cases h

theorem retS_sound {fn : Func} (hok : Ok G [] s ε wx ws X a w) {Λ : Nat → List Value → World → Prop} (h : (retS G.P fn s).den G Λ ε wx ws X) :
    a.defers = [] ∧ ∃ v, (results fn a.tmps).run G.P w = .ok v w ∧ Λ 0 [v] w := by
  refine ⟨hok.defers, ?_⟩
  have hrun : ∀ {vs : List SV}, resS G.P s fn.results.toList = some vs → (results fn a.tmps).run G.P w = .ok (if h : (denL ε vs).toArray.size = 1 then (denL ε vs).toArray[0] else .tuple (denL ε vs).toArray) w := by
    intro vs hvs
    have h1 := resS_run hok hvs
    rw [results_eq, Sem.run_bind, Array.mapM_eq_mapM_toList, Sem.run_map, h1]
    rfl
  unfold retS at h
  split at h
  · rename_i v hv
    split at h
    · exact ⟨v.den ε, by rw [hrun hv]; rfl, h w hok.shown⟩
    · exact h.elim
  · rename_i vs hne hv
    split at h
    · refine ⟨.tuple (denL ε vs).toArray, ?_, h w hok.shown⟩
      rw [hrun hv]
      have : ¬ (denL ε vs).toArray.size = 1 := by
        intro e
        simp only [List.size_toArray, denL_length] at e
        match vs, e with
        | [v], _ => exact hne v rfl
      rw [dif_neg this]
    · exact h.elim
  · exact h.elim

/-- A FUNCTION: WHAT ITS CONDITION SAYS OF IT IS SO -/
theorem exFn_sound {G : Ctx} {Λ : Nat → List Value → World → Prop} {c : Cfg} {f : Nat} {args : List SV} {ks : List Base} {heap : Facts} {ε : List Value} {w : World}
    (hmix : G.P.follows .mixedOrders = true) (hP : c.P = G.P) (h : (exFn c f args ks heap).den G Λ ε w w (BlkIn ε (keys heap))) (hf : Fits ks ε) (hlive : c.live = [0]) (hir : c.inRound = false ∨ True)
    (hfa : FactsAt ε w heap) (hb : Kept G.M G.W0 w) (hnd : (keys heap).Nodup)
    (hdj : ∀ i j, i ∈ keys heap → j ∈ keys heap → i ≠ j → blkOf (nth ε i) ≠ blkOf (nth ε j))
    (hM : ∀ i ∈ keys heap, ∀ b, blkOf (nth ε i) = some b → b < G.W0.heap.size → G.M b) :
    Calls G.P f (denL ε args).toArray w (fun e w' => ∃ v, e = .returned v ∧ Λ 0 [v] w') := by
  unfold exFn at h
  split at h
  · exact h.elim
  · rename_i fn hfn
    rw [hP] at hfn
    split at h
    · exact h.elim
    · rename_i b hbody
      refine calls_of_wp hfn hbody ?_
      have hok : Ok G [] { tmps := args.map some ++ padS (fn.ntmps - args.length), heap := heap, ks := ks, path := [], t0 := keys heap, drawn := false } ε w w (BlkIn ε (keys heap))
          { tmps := (denL ε args).toArray ++ Array.replicate (fn.ntmps - (denL ε args).toArray.size) undef, defers := [] } w := {
        defers := rfl
        ltm := by
          have hpad : ∀ n, (padS n).length = n := by intro n; induction n with | zero => rfl | succ n ih => simp [padS, ih]
          simp [denL_length, hpad]
        tm := fun i v hv => by
          have hget : ∀ (l : List SV) (n i : Nat) (v : SV), getL (l.map some ++ padS n) i = some v → (denL ε l ++ List.replicate n undef)[i]? = some (v.den ε) := by
            intro l
            induction l with
            | nil =>
              intro n
              induction n with
              | zero => intro i v h; cases h
              | succ n ih =>
                intro i v h
                cases i with
                | zero => simp only [List.map_nil, List.nil_append, padS, getL, Option.some.injEq] at h; subst h; rfl
                | succ i => exact ih i v h
            | cons x l ih =>
              intro n i v h
              cases i with
              | zero => simp only [List.map_cons, List.cons_append, getL, Option.some.injEq] at h; subst h; rfl
              | succ i => exact ih n i v h
          have := hget args _ i v hv
          have h2 : ((denL ε args).toArray ++ Array.replicate (fn.ntmps - (denL ε args).toArray.size) undef)[i]? = (denL ε args ++ List.replicate (fn.ntmps - args.length) undef)[i]? := by
            rw [← Array.getElem?_toList]
            simp [denL_length]
          rw [h2]
          exact this
        ks := hf
        hp := hfa
        nd := hnd
        dj := hdj
        base := hb
        kx := Kept.refl _ _
        kws := Kept.refl _ _
        kX := fun i hi b hb _ => ⟨i, hi, hb⟩
        kM := hM
        kt := fun i hi b hb _ => ⟨i, hi, hb⟩
        path := fun _ _ h => by simp at h }
      have := exC_sound (G := G) hmix (r := none) (nn := 0) 300 c b _ _ (bodyPost G.P fn (fun e w' => ∃ v, e = .returned v ∧ Λ 0 [v] w')) Λ _ ε w w _ _ w hP (fun _ => rfl) rfl hok h ?_ ?_
      · rw [FF_none] at this
        exact wpIn_wide.1 this
      · intro Λ' hl s' δ wx' ws' X' a' w' hd hok' hden
        rw [hP] at hden
        obtain ⟨h1, v, h2, h3⟩ := retS_sound hok' hden
        exact ⟨h1, v, h2, v, rfl, hl 0 (by rw [hlive]; simp) _ _ h3⟩
      · intro e Λ' hl s' δ wx' ws' X' a' w' hd hok' hden
        cases e with
        | ret =>
          rw [hP] at hden
          obtain ⟨h1, v, h2, h3⟩ := retS_sound hok' hden
          exact ⟨h1, v, h2, v, rfl, hl 0 (by rw [hlive]; simp) _ _ h3⟩
        | exit id => exact hden.elim
        | goto l => exact hden.elim
end
end Go.Sx
