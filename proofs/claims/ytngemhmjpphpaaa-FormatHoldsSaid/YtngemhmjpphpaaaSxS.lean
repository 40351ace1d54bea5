/- Part S of a symbolic run of Go code by computation: its states, conditions and the proof that a condition that holds says what the function returns. No conditions of its own. -/
import Derived.Test.YtngemhmjpphpaaaSxR
set_option linter.unusedVariables false
set_option linter.unusedSimpArgs false
namespace Go.Sx
open Go.RowKit

section
variable {G : Ctx} {D : List Deferred} {s : St} {ε : List Value} {wx ws : World} {X : Nat → Prop} {a : Act} {w : World}

def resOne (tmps : Array Value) : ResultVar → Sem Value
  | .tmp t => pure (tmps.getD t undef)
  | .cell a t => do loadVar t (← asAddr (tmps.getD a undef))
theorem results_eq (fn : Func) (tmps : Array Value) : results fn tmps = (do
    let vs ← fn.results.mapM (resOne tmps)
    pure (if h : vs.size = 1 then vs[0] else .tuple vs)) := by
  have : (fun x : ResultVar => match x with
    | .tmp t => (pure (tmps.getD t undef) : Sem Value)
    | .cell a t => do loadVar t (← asAddr (tmps.getD a undef))) = resOne tmps := by
    funext x; cases x <;> rfl
  unfold results
  rw [← this]
  rfl

theorem resS_run (htm : ∀ i v, getL s.tmps i = some v → a.tmps[i]? = some (v.den ε)) (hhp : FactsAt ε w s.heap) : ∀ {l : List ResultVar} {vs : List SV}, resS G.P s l = some vs →
    (l.mapM (resOne a.tmps)).run G.P w = .ok (denL ε vs) w
  | [], vs, h => by simp only [resS, Option.some.injEq] at h; subst h; simp [denL]
  | .tmp t :: l, vs, h => by
    simp only [resS] at h
    split at h
    · rename_i v vs' h1 h2
      cases h
      have ih := resS_run htm hhp h2
      have hv : a.tmps.getD t undef = v.den ε := by simp [Array.getD_eq_getD_getElem?, htm t v h1]
      simp only [List.mapM_cons, resOne, Sem.run_bind, Sem.run_pure, Result.andThen, ih, hv, denL]
    · cases h
  | .cell x t :: l, vs, h => by
    simp only [resS] at h
    split at h
    · rename_i i off vs' n h1 h2 h3
      have ih := resS_run htm hhp h2
      have hv : a.tmps.getD x undef = .pointer (addO (vaddr (nth ε i)) off) := by simp [Array.getD_eq_getD_getElem?, htm x _ h1, SV.den]
      split at h
      · rename_i cells hc
        obtain ⟨b, hb, hcell⟩ := hasBlk_cell (findH_facts hhp hc)
        have hs := fun w'' => run_size (P := G.P) h3 w''
        have had : a.tmps.getD x undef = .pointer (some ⟨b, off, none⟩) := by rw [hv, hb]; show Value.pointer (some ((Addr.mk b 0 none).add off)) = _; rw [addr_add, Nat.zero_add]
        split at h
        · rename_i hag
          have hi := fun w'' => run_isAgg (P := G.P) hag w''
          split at h
          · rename_i hle
            cases h
            have hle' := Nat.le_of_ble_eq_true hle
            have hl : ∀ j v, ((denL ε cells).drop off |>.take n)[j]? = some v → w.cell? ((Addr.mk b off none).add j) = some v := by
              intro j v hj
              rw [addr_add, hcell]
              rw [List.getElem?_take] at hj
              split at hj
              · rw [List.getElem?_drop] at hj; exact hj
              · cases hj
            have hlen : ((denL ε cells).drop off |>.take n).length = n := by simp [denL_length]; omega
            have hlc := run_loadCells_list (P := G.P) (w := w) ⟨b, off, none⟩ _ hl
            rw [hlen] at hlc
            simp only [List.mapM_cons, resOne, Sem.run_bind, had, asAddr, Sem.run_pure, Result.andThen, loadVar, hi, hs, hlc, ih, denL, SV.den, denL_take, denL_drop, if_true]

          · cases h
        · rename_i hag
          have hi := fun w'' => run_isAgg (P := G.P) hag w''
          split at h
          · rename_i v hv'
            cases h
            have hcl : w.cell? ⟨b, off, none⟩ = some (v.den ε) := by rw [hcell, denL_get, hv']; rfl
            simp [List.mapM_cons, resOne, Sem.run_bind, had, asAddr, Sem.run_pure, Result.andThen, loadVar, hi, load, Sem.run, hcl, ih, denL]
          · cases h
        · cases h
      · cases h
    · cases h

theorem HasBlk.quiet {w w' : World} {q : Value} {l : List Value} (h : HasBlk w q l) (hk : Quiet w w') : HasBlk w' q l := by
  obtain ⟨b, ty, hb, hh⟩ := h
  refine ⟨b, ty, hb, (hk.block b (Array.getElem?_eq_some_iff.1 hh).1 (fun e => ?_)).trans hh⟩
  obtain ⟨o, ho, hi⟩ := e
  rw [hh] at ho
  cases ho
  cases hi
theorem Quiet.trans {a b c : World} (h : Quiet a b) (k : Quiet b c) : Quiet a c :=
  ⟨k.os.trans h.os, k.tape.trans h.tape, k.output.trans h.output, Nat.le_trans h.size k.size, fun i hi hn => by
    have h1 := h.block i hi hn
    refine (k.block i (Nat.lt_of_lt_of_le hi h.size) (fun e => hn ?_)).trans h1
    obtain ⟨o, ho, hr⟩ := e
    exact ⟨o, by rw [← h1]; exact ho, hr⟩⟩
theorem Same.quiet {a b : World} (h : Same a b) : Quiet a b := h.mono fun _ _ h => h.elim

/-- on the way out: the marks are taken, the results are read -/
theorem leaves_sound {fn : Func} {nn : Nat} {Λ : World → Value → Prop} {vs : List SV} (hvs : resS G.P s fn.results.toList = some vs) {v : Value}
    (hv : ∀ w', (results fn a.tmps).run G.P w' = ((fn.results.toList.mapM (resOne a.tmps)).run G.P w').andThen (fun vs w'' => .ok (if h : vs.toArray.size = 1 then vs.toArray[0] else .tuple vs.toArray) w''))
    (hval : (if h : (denL ε vs).toArray.size = 1 then (denL ε vs).toArray[0] else .tuple (denL ε vs).toArray) = v)
    (htm : ∀ i v, getL s.tmps i = some v → a.tmps[i]? = some (v.den ε)) (w : World) (hhp : FactsAt ε w s.heap) (hnd : (keys s.heap).Nodup) :
    ∀ (ds : List Deferred) (w' : World), Marks G D ds w' → Quiet w w' → Kept G.M G.W0 w' → (∀ w'', Quiet w w'' → Kept G.M G.W0 w'' → (ds = [] → w'' = w') → Λ w'' v) →
      LeavesInM (FF none) nn G.P fn a.tmps (fun e w'' => ∃ v, e = .returned v ∧ Λ w'' v) ds .returning w'
  | [], w', hm, hq, hb, hl => by
    refine ⟨v, ?_, v, rfl, hl w' hq hb fun _ => rfl⟩
    have hhp' : FactsAt ε w' s.heap := by
      rw [factsAt_iff hnd]
      intro i l hi
      exact (findH_facts hhp hi).quiet hq
    rw [hv, resS_run htm hhp' hvs, ← hval]
    rfl
  | d :: ds, w', hm, hq, hb, hl => by
    obtain ⟨b, rfl, hge, hh⟩ := hm.one d (by simp)
    have hlt := (Array.getElem?_eq_some_iff.1 hh).1
    have hk : Kept (fun c => c = b) w' (w'.putObj b (.deferred none)) := (Kept.refl _ _).putObj fun _ => rfl
    have hq2 : Quiet w' (w'.putObj b (.deferred none)) := hk.mono fun c hc e => by subst e; exact ⟨_, hh, rfl⟩
    refine ⟨by simp, .inl ⟨b, _, rfl, run_takeDeferred hh, ?_⟩⟩
    have hnd' := List.pairwise_cons.1 hm.nd
    refine leaves_sound hvs hv hval htm w hhp hnd ds _ ⟨fun e => ?_, fun _ => hm.keep (by simp), fun d hd => ?_, hnd'.2, fun hr c hc => ?_⟩ (hq.trans hq2) (hb.then hk fun i hi e => absurd hi (by omega)) (fun w'' h1 h2 h3 => hl w'' h1 h2 (fun e => by cases e))
    · have := hm.none e; cases this
    · obtain ⟨b2, h1, h2, h3⟩ := hm.one d (by simp [hd])
      refine ⟨b2, h1, h2, (World.putObj_heap_other (fun e => ?_)).trans h3⟩
      exact hnd'.1 d hd b b2 rfl (by rw [h1]) e.symm
    · have h1 := hm.recs hr c hc
      have hclt : c < G.W0.heap.size := by obtain ⟨o, ho, _⟩ := hc; exact (Array.getElem?_eq_some_iff.1 ho).1
      exact (World.putObj_heap_other (by omega)).trans h1

theorem retS_sound {ranged : Bool} {fn : Func} {nn : Nat} (hD : ranged = false → D = []) (hok : Ok G D s ε wx ws X a w) {Λ : Nat → List Value → World → Prop} (h : (retS ranged G.P fn s).den G Λ ε wx ws X) :
    LeavesInM (FF none) nn G.P fn a.tmps (fun e w' => ∃ v, e = .returned v ∧ Λ 0 [v] w') a.defers .returning w := by
  have hv : ∀ w', (results fn a.tmps).run G.P w' = ((fn.results.toList.mapM (resOne a.tmps)).run G.P w').andThen (fun vs w'' => .ok (if h : vs.toArray.size = 1 then vs.toArray[0] else .tuple vs.toArray) w'') := by
    intro w'
    rw [results_eq, Sem.run_bind, Array.mapM_eq_mapM_toList, Sem.run_map]
    cases (fn.results.toList.mapM (resOne a.tmps)).run G.P w' <;> rfl
  have key : ∀ (vs : List SV) (v : Value), resS G.P s fn.results.toList = some vs → (if h : (denL ε vs).toArray.size = 1 then (denL ε vs).toArray[0] else .tuple (denL ε vs).toArray) = v →
      ((if ranged then VC.leafM 0 [.cst v] s.t0 s.heap else .leaf 0 [.cst v] s.t0 s.heap) : VC).den G Λ ε wx ws X →
      LeavesInM (FF none) nn G.P fn a.tmps (fun e w' => ∃ v, e = .returned v ∧ Λ 0 [v] w') a.defers .returning w := by
    intro vs v hvs hval hden
    refine leaves_sound (Λ := fun w v => Λ 0 [v] w) hvs hv hval hok.tm w hok.hp hok.nd a.defers w hok.defers (Kept.refl _ _) hok.base ?_
    intro w'' hq hb hw
    cases hr : ranged with
    | true => rw [hr] at hden; exact hden w hok.shown w'' hq hb
    | false =>
      rw [hr] at hden
      rw [hw (hok.defers.none (hD hr))]
      exact hden w hok.shown
  unfold retS at h
  split at h
  · rename_i v hvs
    split at h
    · refine key [v] (v.den ε) hvs rfl ?_
      cases ranged <;> exact h
    · exact h.elim
  · rename_i vs hne hvs
    split at h
    · refine key vs (.tuple (denL ε vs).toArray) hvs ?_ ?_
      · have : ¬ (denL ε vs).toArray.size = 1 := by
          intro e
          simp only [List.size_toArray, denL_length] at e
          match vs, e with
          | [v], _ => exact hne v rfl
        rw [dif_neg this]
      · cases ranged <;> exact h
    · exact h.elim
  · exact h.elim

theorem leavesInM_mono {P : Program} {fn : Func} {tmps : Array Value} {R R' : Ending → World → Prop} (hr : ∀ e w, R e w → R' e w) : ∀ (ds : List Deferred) (u : FrameMode) (w : World), LeavesInM (FF none) 0 P fn tmps R ds u w → LeavesInM (FF none) 0 P fn tmps R' ds u w
  | [], .returning, w, ⟨v, h1, h2⟩ => ⟨v, h1, hr _ _ h2⟩
  | [], .panicking _, w, h => hr _ _ h
  | [], .run, w, h => h.elim
  | d :: ds, u, w, ⟨hu, h⟩ => ⟨hu, by
    rcases h with ⟨r, w', h1, h2, h3⟩ | ⟨h1, fv, cap, f, args, h2, h3, h4, h5⟩
    · exact .inl ⟨r, w', h1, h2, leavesInM_mono hr ds u w' h3⟩
    · refine .inr ⟨h1, fv, cap, f, args, h2, h3, h4, h5.mono ?_⟩
      intro e u' w' hh
      cases e with
      | returned v => exact leavesInM_mono hr ds _ _ hh
      | panicked c => exact leavesInM_mono hr ds _ _ hh
      | outgrown => exact hr _ _ hh⟩

/-- A FUNCTION: WHAT ITS CONDITION SAYS OF IT IS SO -/
theorem exFn_sound {G : Ctx} {Λ : Nat → List Value → World → Prop} {c : Cfg} {f : Nat} {args : List SV} {ks : List Base} {heap : Facts} {ε : List Value} {w : World}
    (hmix : G.P.follows .mixedOrders = true) (hP : c.P = G.P) (h : (exFn c f args ks heap).den G Λ ε w w (BlkIn ε (keys heap))) (hf : Fits ks ε) (hlive : c.live = [0]) (hrg : c.ranged = true → G.rc = true ∧ G.out = G)
    (hfa : FactsAt ε w heap) (hb : Kept G.M G.W0 w) (hnd : (keys heap).Nodup)
    (hdj : ∀ i j, i ∈ keys heap → j ∈ keys heap → i ≠ j → blkOf (nth ε i) ≠ blkOf (nth ε j))
    (hrecs : G.rc = true → ∀ b, IsRec G.W0 b → w.heap[b]? = G.W0.heap[b]?)
    (hM : ∀ i ∈ keys heap, ∀ b, blkOf (nth ε i) = some b → b < G.W0.heap.size → G.M b) :
    Calls G.P f (denL ε args).toArray w (fun e w' => ∃ v, e = .returned v ∧ Λ 0 [v] w') := by
  unfold exFn at h
  split at h
  · exact h.elim
  · rename_i fn hfn
    rw [hP] at hfn
    split at h
    · exact h.elim
    · rename_i b hbody
      refine callsIn_wide.1 (callsIn_of_wp_marks (F := FF none) (n := 0) hfn hbody trivial ?_)
      obtain ⟨D, hD⟩ : ∃ D : List Deferred, D = if c.ranged then [default] else [] := ⟨_, rfl⟩
      have hDr : c.ranged = false → D = [] := fun h => by rw [hD, h]; rfl
      have retS_leaves : ∀ {Λ' : Nat → List Value → World → Prop} {a' : Act} {w' : World}, LE c.live Λ' Λ → LeavesInM (FF none) 0 G.P fn a'.tmps (fun e w' => ∃ v, e = .returned v ∧ Λ' 0 [v] w') a'.defers .returning w' →
          LeavesInM (FF none) 0 G.P fn a'.tmps (fun e w' => ∃ v, e = .returned v ∧ Λ 0 [v] w') a'.defers .returning w' := fun hl h => leavesInM_mono (fun e w ⟨v, he, hv⟩ => ⟨v, he, hl 0 (by rw [hlive]; simp) _ _ hv⟩) _ _ _ h
      have hok : Ok G D { tmps := args.map some ++ padS (fn.ntmps - args.length), heap := heap, ks := ks, path := [], t0 := [], drawn := false, wr := c.wraps } ε w w (BlkIn ε (keys heap))
          { tmps := (denL ε args).toArray ++ Array.replicate (fn.ntmps - (denL ε args).toArray.size) undef, defers := [] } w := {
        defers := Marks.empty hrecs
        ltm := by
          have hpad : ∀ n, (padS n).length = n := by intro n; induction n with | zero => rfl | succ n ih => simp [padS, ih]
          simp [denL_length, hpad]
        tm := fun i v hv => by
          have hget : ∀ (l : List SV) (n i : Nat) (v : SV), getL (l.map some ++ padS n) i = some v → (denL ε l ++ List.replicate n undef)[i]? = some (v.den ε) := by
            intro l
            induction l with
            | nil =>
              intro n
              induction n with
              | zero => intro i v h; cases h
              | succ n ih =>
                intro i v h
                cases i with
                | zero => simp only [List.map_nil, List.nil_append, padS, getL, Option.some.injEq] at h; subst h; rfl
                | succ i => exact ih i v h
            | cons x l ih =>
              intro n i v h
              cases i with
              | zero => simp only [List.map_cons, List.cons_append, getL, Option.some.injEq] at h; subst h; rfl
              | succ i => exact ih n i v h
          have := hget args _ i v hv
          have h2 : ((denL ε args).toArray ++ Array.replicate (fn.ntmps - (denL ε args).toArray.size) undef)[i]? = (denL ε args ++ List.replicate (fn.ntmps - args.length) undef)[i]? := by
            rw [← Array.getElem?_toList]
            simp [denL_length]
          rw [h2]
          exact this
        ks := hf
        hp := hfa
        nd := hnd
        dj := hdj
        base := hb
        kx := Kept.refl _ _
        kws := fun _ => Kept.refl _ _
        kwz := Nat.le_refl _
        kX := fun _ i hi b hb _ => ⟨i, hi, hb⟩
        kM := hM
        path := fun _ _ h => by simp at h }
      refine exC_sound 300 G D hmix none 0 c b _ _ (bodyPostM (FF none) 0 G.P fn (fun e w' => ∃ v, e = .returned v ∧ Λ 0 [v] w')) Λ _ ε w w _ _ w hP (fun _ => rfl) (fun _ hr => ⟨by rw [hD, hr]; simp, hrg hr⟩) rfl hok h ?_ ?_
      · intro Λ' hl s' δ wx' ws' X' a' w' hd hok' hden
        rw [hP] at hden
        exact retS_leaves hl (retS_sound hDr hok' hden)
      · intro e Λ' hl s' δ wx' ws' X' a' w' hd hok' hden
        cases e with
        | ret =>
          rw [hP] at hden
          exact retS_leaves hl (retS_sound hDr hok' hden)
        | exit id => exact hden.elim
        | goto l => exact hden.elim
end
end Go.Sx
