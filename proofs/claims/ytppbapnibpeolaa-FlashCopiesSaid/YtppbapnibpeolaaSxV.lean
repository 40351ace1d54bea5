/- Part S of a symbolic run of Go code by computation: its states, conditions and the proof that a condition that holds says what the function returns. No conditions of its own. -/
import Derived.Test.YtppbapnibpeolaaSxR
import Derived.Carry
import Derived.OpenShut
import Derived.ProofKit
import Derived.Laws.AppendOwn
import Derived.Laws.OwnMore
set_option linter.unusedVariables false
set_option linter.unusedSimpArgs false
namespace Go.Sx
open Go.RowKit

section
variable {G : Ctx} {D : List Deferred} {s : St} {ε : List Value} {wx ws : World} {X : Nat → Prop} {a : Act} {w : World}

def resOne (tmps : Array Value) : ResultVar → Sem Value
  | .tmp t => pure (tmps.getD t undef)
  | .cell a t => do loadVar t (← asAddr (tmps.getD a undef))
theorem results_eq (fn : Func) (tmps : Array Value) : results fn tmps = (do
    let vs ← fn.results.mapM (resOne tmps)
    pure (if h : vs.size = 1 then vs[0] else .tuple vs)) := by
  have : (fun x : ResultVar => match x with
    | .tmp t => (pure (tmps.getD t undef) : Sem Value)
    | .cell a t => do loadVar t (← asAddr (tmps.getD a undef))) = resOne tmps := by
    funext x; cases x <;> rfl
  unfold results
  rw [← this]
  rfl

theorem resS_run (htm : ∀ i v, getL s.tmps i = some v → a.tmps[i]? = some (v.den ε)) (hhp : FactsAt ε w s.heap) : ∀ {l : List ResultVar} {vs : List SV}, resS G.P s l = some vs →
    (l.mapM (resOne a.tmps)).run G.P w = .ok (denL ε vs) w
  | [], vs, h => by simp only [resS, Option.some.injEq] at h; subst h; simp [denL]
  | .tmp t :: l, vs, h => by
    simp only [resS] at h
    split at h
    · rename_i v vs' h1 h2
      cases h
      have ih := resS_run htm hhp h2
      have hv : a.tmps.getD t undef = v.den ε := by simp [Array.getD_eq_getD_getElem?, htm t v h1]
      simp only [List.mapM_cons, resOne, Sem.run_bind, Sem.run_pure, Result.andThen, ih, hv, denL]
    · cases h
  | .cell x t :: l, vs, h => by
    simp only [resS] at h
    split at h
    · rename_i i off vs' n h1 h2 h3
      have ih := resS_run htm hhp h2
      have hv : a.tmps.getD x undef = .pointer (addO (vaddr (nth ε i)) off) := by simp [Array.getD_eq_getD_getElem?, htm x _ h1, SV.den]
      split at h
      · rename_i cells hc
        obtain ⟨b, hb, hcell⟩ := hasBlk_cell (findH_facts hhp hc)
        have hs := fun w'' => run_size (P := G.P) h3 w''
        have had : a.tmps.getD x undef = .pointer (some ⟨b, off, none⟩) := by rw [hv, hb]; show Value.pointer (some ((Addr.mk b 0 none).add off)) = _; rw [addr_add, Nat.zero_add]
        split at h
        · rename_i hag
          have hi := fun w'' => run_isAgg (P := G.P) hag w''
          split at h
          · rename_i hle
            cases h
            have hle' := Nat.le_of_ble_eq_true hle
            have hl : ∀ j v, ((denL ε cells).drop off |>.take n)[j]? = some v → w.cell? ((Addr.mk b off none).add j) = some v := by
              intro j v hj
              rw [addr_add, hcell]
              rw [List.getElem?_take] at hj
              split at hj
              · rw [List.getElem?_drop] at hj; exact hj
              · cases hj
            have hlen : ((denL ε cells).drop off |>.take n).length = n := by simp [denL_length]; omega
            have hlc := run_loadCells_list (P := G.P) (w := w) ⟨b, off, none⟩ _ hl
            rw [hlen] at hlc
            simp only [List.mapM_cons, resOne, Sem.run_bind, had, asAddr, Sem.run_pure, Result.andThen, loadVar, hi, hs, hlc, ih, denL, SV.den, denL_take, denL_drop, if_true]

          · cases h
        · rename_i hag
          have hi := fun w'' => run_isAgg (P := G.P) hag w''
          split at h
          · rename_i v hv'
            cases h
            have hcl : w.cell? ⟨b, off, none⟩ = some (v.den ε) := by rw [hcell, denL_get, hv']; rfl
            simp [List.mapM_cons, resOne, Sem.run_bind, had, asAddr, Sem.run_pure, Result.andThen, loadVar, hi, load, Sem.run, hcl, ih, denL]
          · cases h
        · cases h
      · cases h
    · cases h

theorem HasBlk.quiet {w w' : World} {q : Value} {l : List Value} (h : HasBlk w q l) (hk : Quiet w w') : HasBlk w' q l := by
  obtain ⟨b, ty, hb, hh⟩ := h
  refine ⟨b, ty, hb, (hk.block b (Array.getElem?_eq_some_iff.1 hh).1 (fun e => ?_)).trans hh⟩
  obtain ⟨o, ho, hi⟩ := e
  rw [hh] at ho
  cases ho
  cases hi
theorem Quiet.trans {a b c : World} (h : Quiet a b) (k : Quiet b c) : Quiet a c :=
  ⟨k.os.trans h.os, k.tape.trans h.tape, k.output.trans h.output, Nat.le_trans h.size k.size, fun i hi hn => by
    have h1 := h.block i hi hn
    refine (k.block i (Nat.lt_of_lt_of_le hi h.size) (fun e => hn ?_)).trans h1
    obtain ⟨o, ho, hr⟩ := e
    exact ⟨o, by rw [← h1]; exact ho, hr⟩⟩
/-- on the way out: the marks are taken, the results are read -/
theorem leaves_sound {fn : Func} {nn : Nat} {Λ : World → Value → Prop} {vs : List SV} (hvs : resS G.P s fn.results.toList = some vs) {v : Value}
    (hv : ∀ w', (results fn a.tmps).run G.P w' = ((fn.results.toList.mapM (resOne a.tmps)).run G.P w').andThen (fun vs w'' => .ok (if h : vs.toArray.size = 1 then vs.toArray[0] else .tuple vs.toArray) w''))
    (hval : (if h : (denL ε vs).toArray.size = 1 then (denL ε vs).toArray[0] else .tuple (denL ε vs).toArray) = v)
    (htm : ∀ i v, getL s.tmps i = some v → a.tmps[i]? = some (v.den ε)) (w : World) (hhp : FactsAt ε w s.heap) (hnd : (keys s.heap).Nodup) :
    ∀ (ds : List Deferred) (w' : World), Marks G D ds w' → Quiet w w' → Kept G.M G.W0 w' → (∀ w'', Quiet w w'' → Kept G.M G.W0 w'' → (ds = [] → w'' = w') → Λ w'' v) →
      LeavesInM (FF none) nn G.P fn a.tmps (fun e w'' => ∃ v, e = .returned v ∧ Λ w'' v) ds .returning w'
  | [], w', hm, hq, hb, hl => by
    refine ⟨v, ?_, v, rfl, hl w' hq hb fun _ => rfl⟩
    have hhp' : FactsAt ε w' s.heap := by
      rw [factsAt_iff hnd]
      intro i l hi
      exact (findH_facts hhp hi).quiet hq
    rw [hv, resS_run htm hhp' hvs, ← hval]
    rfl
  | d :: ds, w', hm, hq, hb, hl => by
    obtain ⟨b, rfl, hge, hh⟩ := hm.one d (by simp)
    have hlt := (Array.getElem?_eq_some_iff.1 hh).1
    have hk : Kept (fun c => c = b) w' (w'.putObj b (.deferred none)) := (Kept.refl _ _).putObj fun _ => rfl
    have hq2 : Quiet w' (w'.putObj b (.deferred none)) := hk.mono fun c hc e => by subst e; exact ⟨_, hh, rfl⟩
    refine ⟨by simp, .inl ⟨b, _, rfl, run_takeDeferred hh, ?_⟩⟩
    have hnd' := List.pairwise_cons.1 hm.nd
    refine leaves_sound hvs hv hval htm w hhp hnd ds _ ⟨fun e => ?_, fun _ => hm.keep (by simp), fun d hd => ?_, hnd'.2, fun hr c hc => ?_⟩ (hq.trans hq2) (hb.then hk fun i hi e => absurd hi (by omega)) (fun w'' h1 h2 h3 => hl w'' h1 h2 (fun e => by cases e))
    · have := hm.none e; cases this
    · obtain ⟨b2, h1, h2, h3⟩ := hm.one d (by simp [hd])
      refine ⟨b2, h1, h2, (World.putObj_heap_other (fun e => ?_)).trans h3⟩
      exact hnd'.1 d hd b b2 rfl (by rw [h1]) e.symm
    · have h1 := hm.recs hr c hc
      have hclt : c < G.W0.heap.size := by obtain ⟨o, ho, _⟩ := hc; exact (Array.getElem?_eq_some_iff.1 ho).1
      exact (World.putObj_heap_other (by omega)).trans h1

theorem retS_sound {ranged : Bool} {fn : Func} {nn : Nat} (hD : ranged = false → D = []) (hok : Ok G D s ε wx ws X a w) {Λ : Nat → List Value → World → Prop} (h : (retS ranged G.P fn s).den G Λ ε wx ws X) :
    LeavesInM (FF none) nn G.P fn a.tmps (fun e w' => ∃ v, e = .returned v ∧ Λ 0 [v] w') a.defers .returning w := by
  have hv : ∀ w', (results fn a.tmps).run G.P w' = ((fn.results.toList.mapM (resOne a.tmps)).run G.P w').andThen (fun vs w'' => .ok (if h : vs.toArray.size = 1 then vs.toArray[0] else .tuple vs.toArray) w'') := by
    intro w'
    rw [results_eq, Sem.run_bind, Array.mapM_eq_mapM_toList, Sem.run_map]
    cases (fn.results.toList.mapM (resOne a.tmps)).run G.P w' <;> rfl
  have key : ∀ (vs : List SV) (v : Value), resS G.P s fn.results.toList = some vs → (if h : (denL ε vs).toArray.size = 1 then (denL ε vs).toArray[0] else .tuple (denL ε vs).toArray) = v →
      ((if ranged then VC.leafM 0 [.cst v] s.t0 s.heap else .leaf 0 [.cst v] s.t0 s.heap) : VC).den G Λ ε wx ws X →
      LeavesInM (FF none) nn G.P fn a.tmps (fun e w' => ∃ v, e = .returned v ∧ Λ 0 [v] w') a.defers .returning w := by
    intro vs v hvs hval hden
    refine leaves_sound (Λ := fun w v => Λ 0 [v] w) hvs hv hval hok.tm w hok.hp hok.nd a.defers w hok.defers (Kept.refl _ _) hok.base ?_
    intro w'' hq hb hw
    cases hr : ranged with
    | true => rw [hr] at hden; exact hden w hok.shown w'' hq hb
    | false =>
      rw [hr] at hden
      rw [hw (hok.defers.none (hD hr))]
      exact hden w hok.shown
  unfold retS at h
  split at h
  · rename_i v hvs
    split at h
    · refine key [v] (v.den ε) hvs rfl ?_
      cases ranged <;> exact h
    · exact h.elim
  · rename_i vs hne hvs
    split at h
    · refine key vs (.tuple (denL ε vs).toArray) hvs ?_ ?_
      · have : ¬ (denL ε vs).toArray.size = 1 := by
          intro e
          simp only [List.size_toArray, denL_length] at e
          match vs, e with
          | [v], _ => exact hne v rfl
        rw [dif_neg this]
      · cases ranged <;> exact h
    · exact h.elim
  · exact h.elim

theorem leavesInM_mono {P : Program} {fn : Func} {tmps : Array Value} {R R' : Ending → World → Prop} (hr : ∀ e w, R e w → R' e w) : ∀ (ds : List Deferred) (u : FrameMode) (w : World), LeavesInM (FF none) 0 P fn tmps R ds u w → LeavesInM (FF none) 0 P fn tmps R' ds u w
  | [], .returning, w, ⟨v, h1, h2⟩ => ⟨v, h1, hr _ _ h2⟩
  | [], .panicking _, w, h => hr _ _ h
  | [], .run, w, h => h.elim
  | d :: ds, u, w, ⟨hu, h⟩ => ⟨hu, by
    rcases h with ⟨r, w', h1, h2, h3⟩ | ⟨h1, fv, cap, f, args, h2, h3, h4, h5⟩
    · exact .inl ⟨r, w', h1, h2, leavesInM_mono hr ds u w' h3⟩
    · refine .inr ⟨h1, fv, cap, f, args, h2, h3, h4, h5.mono ?_⟩
      intro e u' w' hh
      cases e with
      | returned v => exact leavesInM_mono hr ds _ _ hh
      | panicked c => exact leavesInM_mono hr ds _ _ hh
      | outgrown => exact hr _ _ hh⟩

/-- A FUNCTION: WHAT ITS CONDITION SAYS OF IT IS SO -/
theorem exFn_sound {G : Ctx} {Λ : Nat → List Value → World → Prop} {c : Cfg} {f : Nat} {args : List SV} {ks : List Base} {heap : Facts} {ε : List Value} {w : World}
    (hmix : G.P.follows .mixedOrders = true) (hP : c.P = G.P) (h : (exFn c f args ks heap).den G Λ ε w w (BlkIn ε (keys heap))) (hf : Fits ks ε) (hlive : c.live = [0]) (hrg : c.ranged = true → G.rc = true ∧ G.out = G)
    (hfa : FactsAt ε w heap) (hb : Kept G.M G.W0 w) (hnd : (keys heap).Nodup)
    (hdj : ∀ i j, i ∈ keys heap → j ∈ keys heap → i ≠ j → blkOf (nth ε i) ≠ blkOf (nth ε j))
    (hrecs : G.rc = true → ∀ b, IsRec G.W0 b → w.heap[b]? = G.W0.heap[b]?)
    (hM : ∀ i ∈ keys heap, ∀ b, blkOf (nth ε i) = some b → b < G.W0.heap.size → G.M b) :
    Calls G.P f (denL ε args).toArray w (fun e w' => ∃ v, e = .returned v ∧ Λ 0 [v] w') := by
  unfold exFn at h
  split at h
  · exact h.elim
  · rename_i fn hfn
    rw [hP] at hfn
    split at h
    · exact h.elim
    · rename_i b hbody
      refine callsIn_wide.1 (callsIn_of_wp_marks (F := FF none) (n := 0) hfn hbody trivial ?_)
      obtain ⟨D, hD⟩ : ∃ D : List Deferred, D = if c.ranged then [default] else [] := ⟨_, rfl⟩
      have hDr : c.ranged = false → D = [] := fun h => by rw [hD, h]; rfl
      have retS_leaves : ∀ {Λ' : Nat → List Value → World → Prop} {a' : Act} {w' : World}, LE c.live Λ' Λ → LeavesInM (FF none) 0 G.P fn a'.tmps (fun e w' => ∃ v, e = .returned v ∧ Λ' 0 [v] w') a'.defers .returning w' →
          LeavesInM (FF none) 0 G.P fn a'.tmps (fun e w' => ∃ v, e = .returned v ∧ Λ 0 [v] w') a'.defers .returning w' := fun hl h => leavesInM_mono (fun e w ⟨v, he, hv⟩ => ⟨v, he, hl 0 (by rw [hlive]; simp) _ _ hv⟩) _ _ _ h
      have hok : Ok G D { tmps := args.map some ++ padS (fn.ntmps - args.length), heap := heap, ks := ks, path := [], t0 := [], drawn := false, wr := c.wraps } ε w w (BlkIn ε (keys heap))
          { tmps := (denL ε args).toArray ++ Array.replicate (fn.ntmps - (denL ε args).toArray.size) undef, defers := [] } w := {
        defers := Marks.empty hrecs
        ltm := by
          have hpad : ∀ n, (padS n).length = n := by intro n; induction n with | zero => rfl | succ n ih => simp [padS, ih]
          simp [denL_length, hpad]
        tm := fun i v hv => by
          have hget : ∀ (l : List SV) (n i : Nat) (v : SV), getL (l.map some ++ padS n) i = some v → (denL ε l ++ List.replicate n undef)[i]? = some (v.den ε) := by
            intro l
            induction l with
            | nil =>
              intro n
              induction n with
              | zero => intro i v h; cases h
              | succ n ih =>
                intro i v h
                cases i with
                | zero => simp only [List.map_nil, List.nil_append, padS, getL, Option.some.injEq] at h; subst h; rfl
                | succ i => exact ih i v h
            | cons x l ih =>
              intro n i v h
              cases i with
              | zero => simp only [List.map_cons, List.cons_append, getL, Option.some.injEq] at h; subst h; rfl
              | succ i => exact ih n i v h
          have := hget args _ i v hv
          have h2 : ((denL ε args).toArray ++ Array.replicate (fn.ntmps - (denL ε args).toArray.size) undef)[i]? = (denL ε args ++ List.replicate (fn.ntmps - args.length) undef)[i]? := by
            rw [← Array.getElem?_toList]
            simp [denL_length]
          rw [h2]
          exact this
        ks := hf
        hp := hfa
        nd := hnd
        dj := hdj
        base := hb
        kx := Kept.refl _ _
        kws := fun _ => Kept.refl _ _
        kwz := Nat.le_refl _
        kX := fun _ i hi b hb _ => ⟨i, hi, hb⟩
        kM := hM
        path := fun _ _ h => by simp at h }
      refine exC_sound 300 G D hmix none 0 c b _ _ (bodyPostM (FF none) 0 G.P fn (fun e w' => ∃ v, e = .returned v ∧ Λ 0 [v] w')) Λ _ ε w w _ _ w hP (fun _ => rfl) (fun _ hr => ⟨by rw [hD, hr]; simp, hrg hr⟩) rfl hok h ?_ ?_
      · intro Λ' hl s' δ wx' ws' X' a' w' hd hok' hden
        rw [hP] at hden
        exact retS_leaves hl (retS_sound hDr hok' hden)
      · intro e Λ' hl s' δ wx' ws' X' a' w' hd hok' hden
        cases e with
        | ret =>
          rw [hP] at hden
          exact retS_leaves hl (retS_sound hDr hok' hden)
        | exit id => exact hden.elim
        | goto l => exact hden.elim
end
end Go.Sx

/- Part T of a symbolic run of Go code by computation: its states, conditions and the proof that a condition that holds says what the function returns. No conditions of its own. -/
set_option linter.unusedVariables false
set_option linter.unusedSimpArgs false
namespace Go.Sx
open Go.RowKit

theorem allB_intro : ∀ {bs : List Base} {φ : List Value → Prop}, (∀ l, Fits bs l → φ l) → allB bs φ
  | [], φ, h => h [] trivial
  | .int k :: bs, φ, h => fun n => allB_intro fun l hl => h _ ⟨⟨n, rfl⟩, hl⟩
  | .bool :: bs, φ, h => fun n => allB_intro fun l hl => h _ ⟨⟨n, rfl⟩, hl⟩
  | .slice :: bs, φ, h => fun a n c => allB_intro fun l hl => h _ ⟨⟨a, n, c, rfl⟩, hl⟩
  | .ptr :: bs, φ, h => fun n => allB_intro fun l hl => h _ ⟨⟨n, rfl⟩, hl⟩
  | .map :: bs, φ, h => fun n => allB_intro fun l hl => h _ ⟨⟨n, rfl⟩, hl⟩
  | .func :: bs, φ, h => fun v hv => allB_intro fun l hl => h _ ⟨hv, hl⟩
  | .any :: bs, φ, h => fun v hv => allB_intro fun l hl => h _ ⟨hv, hl⟩

/-- the function returns r and changes nothing that was there -/
structure Gives (P : Program) (f : Nat) (args : List Value) (w : World) (r : Value) : Prop where
  run : Calls P f args.toArray w (fun e w' => e = .returned r ∧ Same w w')
/-- the context of a function that changes nothing -/
abbrev G0 (P : Program) (w : World) : Ctx := { P := P, W0 := w, M := fun _ => False }
/-- the context of a function that changes at most the blocks M; with rc where it ranges over functions -/
abbrev GM (P : Program) (w : World) (M : Nat → Prop) (rc : Bool) : Ctx := { P := P, W0 := w, M := M, rc := rc }
abbrev Λ0 (w0 : World) (r : Value) : Nat → List Value → World → Prop := fun _ vs w => vs = [r] ∧ Same w0 w

section
variable {G : Ctx} {Λ : Nat → List Value → World → Prop} {ε : List Value} {wx ws : World} {X : Nat → Prop} {k k' : VC}

theorem gives {P : Program} (hmix : P.follows .mixedOrders = true) {f : Nat} {args : List SV} {ks : List Base} {V : VC} {c : Cfg} (hV : exFn c f args ks [] = V) (hP : c.P = P) (hlive : c.live = [0]) {w : World} {r : Value}
    (hf : Fits ks ε) (h : V.den (G0 P w) (Λ0 w r) ε w w (fun _ => False)) (hnr : c.ranged = false := by rfl) : Gives P f (denL ε args) w r := by
  have hb : BlkIn ε (keys []) = fun _ => False := by funext b; simp [BlkIn, keys]
  refine ⟨(exFn_sound (G := G0 P w) (Λ := Λ0 w r) (c := c) (heap := []) hmix hP (by rw [hV, hb]; exact h) hf hlive (fun hx => by rw [hnr] at hx; cases hx) trivial (Kept.refl _ _) (by simp [keys]) (by simp [keys]) (fun _ _ _ => rfl) (by simp [keys])).mono ?_⟩
  rintro e w' ⟨v, rfl, h1, h2⟩
  cases h1
  exact ⟨rfl, h2⟩

theorem den_leaf {i : Nat} {vs : List SV} {t : List Nat} {fs : Facts} {P : Program} {w : World} {r : Value} (h : denL ε vs = [r]) : (VC.leaf i vs t fs).den (G0 P w) (Λ0 w r) ε wx ws X :=
  fun w' hw => ⟨h, hw.base⟩
theorem den_ob {p : BE} (h : p.den ε = true) (hk : k.den G Λ ε wx ws X) : (VC.ob p k).den G Λ ε wx ws X := ⟨h, hk⟩
theorem den_split {b : BE} (h : b.den ε = true → k.den G Λ ε wx ws X) (h' : b.den ε = false → k'.den G Λ ε wx ws X) : (VC.split b k k').den G Λ ε wx ws X := ⟨h, h'⟩
theorem den_blk (h : ∀ b, wx.heap.size ≤ b → ws.heap.size ≤ b → G.W0.heap.size ≤ b → k.den G Λ (ε ++ [.pointer (some ⟨b, 0, none⟩)]) wx ws X) : (VC.blk k).den G Λ ε wx ws X := h
theorem den_start0 {t t' : List Nat} {fs : Facts} (h : ∀ w, Shown G ε t fs wx w → k.den G Λ ε w w (BlkIn ε t')) : (VC.start false t t' fs k).den G Λ ε wx ws X := h
/-- a drawn region in which what is read lies outside of the tracked blocks -/
theorem den_start1 {t t' : List Nat} {fs : Facts} (h : ∀ w, Shown G ε t fs wx w → k.den G Λ ε w w (BlkIn ε t')) : (VC.start true t t' fs k).den G Λ ε wx ws X :=
  fun w hw => ⟨BlkIn ε t', fun _ hb => hb, h w hw⟩

/-- a call that changes nothing -/
theorem den_call {f : Nat} {args : List SV} {bs : List Base} {rv : SV} {drawn : Bool} {t t' un : List Nat} {fs : Facts} {r : Value} (l0 : List Value) (hl : Fits bs l0) (hr : rv.den (ε ++ l0) = r)
    (hc : ∀ w, Shown G ε t fs wx w → Gives G.P f (denL ε args) w r)
    (hk : ∀ w w', Shown G ε t fs wx w → Same w w' → k.den G Λ (ε ++ l0) w' (if drawn then ws else w') (if drawn then X else BlkIn ε t')) :
    (VC.call f args bs rv [] drawn t t' un fs k).den G Λ ε wx ws X := by
  intro w hw
  refine ⟨fun l _ => l = l0, fun _ => False, (hc w hw).run.mono ?_, fun _ h => h.elim, allB_intro ?_⟩
  · rintro e w' ⟨rfl, h2⟩
    exact ⟨l0, hl, by rw [hr], rfl, h2, trivial⟩
  · intro l _ w' hl' hsame
    subst hl'
    have := hk w w' hw hsame
    cases drawn <;> exact this
theorem den_call_bool {f n : Nat} {args : List SV} {drawn : Bool} {t t' un : List Nat} {fs : Facts} {b : Bool}
    (hc : ∀ w, Shown G ε t fs wx w → Gives G.P f (denL ε args) w (.bool b)) (hn : nth (ε ++ [.bool b]) n = .bool b)
    (hk : ∀ w w', Shown G ε t fs wx w → Same w w' → k.den G Λ (ε ++ [.bool b]) w' (if drawn then ws else w') (if drawn then X else BlkIn ε t')) :
    (VC.call f args [Base.bool] (.bool (.var n)) [] drawn t t' un fs k).den G Λ ε wx ws X :=
  den_call [.bool b] ⟨⟨_, rfl⟩, trivial⟩ (by simp only [SV.den, BE.den, hn]; rfl) hc hk
theorem den_call_int {f n : Nat} {ik : IntKind} {args : List SV} {drawn : Bool} {t t' un : List Nat} {fs : Facts} {x : Int}
    (hc : ∀ w, Shown G ε t fs wx w → Gives G.P f (denL ε args) w (.int ik x)) (hn : nth (ε ++ [.int ik x]) n = .int ik x)
    (hk : ∀ w w', Shown G ε t fs wx w → Same w w' → k.den G Λ (ε ++ [.int ik x]) w' (if drawn then ws else w') (if drawn then X else BlkIn ε t')) :
    (VC.call f args [Base.int ik] (.int ik (.var n)) [] drawn t t' un fs k).den G Λ ε wx ws X :=
  den_call [.int ik x] ⟨⟨_, rfl⟩, trivial⟩ (by simp only [SV.den, IE.den, hn]; rfl) hc hk

theorem den_split_true {b : BE} (h : b.den ε = true) (hk : k.den G Λ ε wx ws X) : (VC.split b k k').den G Λ ε wx ws X := ⟨fun _ => hk, fun h' => by rw [h] at h'; cases h'⟩
theorem den_split_false {b : BE} (h : b.den ε = false) (hk : k'.den G Λ ε wx ws X) : (VC.split b k k').den G Λ ε wx ws X := ⟨fun h' => (by rw [h] at h'; cases h'), fun _ => hk⟩
/-- an operation of which only its law is known, that changes nothing and draws no order anew -/
def Does (P : Program) (op : Op) (type : TypeId) (vals : List (Operand × Value)) (w : World) (R : Value → World → Prop) : Prop :=
  ∀ ρ : Operand → Value, (∀ p ∈ vals, ρ p.1 = p.2) → RunsTo P (execOp ρ (bare op type)) w (fun v w' => R v w' ∧ Same w w')
theorem valsAt_mem {ρ : Operand → Value} : ∀ {l : List (Operand × SV)}, ValsAt ε ρ l → ∀ p ∈ l.map (fun p => (p.1, p.2.den ε)), ρ p.1 = p.2
  | [], _, p, h => by simp at h
  | (x, s) :: l, h, p, hp => by
    rcases List.mem_cons.1 hp with rfl | hp
    · exact h.1
    · exact valsAt_mem h.2 p hp
theorem den_gen {op : Op} {type : TypeId} {vals : List (Operand × SV)} {bs : List Base} {rv : SV} {drawn : Bool} {t t' un : List Nat} {fs : Facts} (R : World → List Value → World → Prop)
    (hc : ∀ w, Shown G ε t fs wx w → Does G.P op type (vals.map fun p => (p.1, p.2.den ε)) w (fun v w' => ∃ l, Fits bs l ∧ v = rv.den (ε ++ l) ∧ R w l w'))
    (hk : ∀ w l w', Shown G ε t fs wx w → Fits bs l → R w l w' → Same w w' → k.den G Λ (ε ++ l) w' (if drawn then ws else w') (if drawn then X else BlkIn ε t')) :
    (VC.gen op type vals bs rv [] drawn t t' un fs k).den G Λ ε wx ws X := by
  intro w hw
  refine ⟨R w, fun _ => False, ?_, fun _ h => h.elim, allB_intro ?_⟩
  · intro ρ hρ
    exact (hc w hw ρ (valsAt_mem hρ)).mono fun v w' ⟨⟨l, hl, hv, hR⟩, hs⟩ => ⟨l, hl, hv, hR, hs, trivial⟩
  · intro l hl w' hR hs
    have := hk w l w' hw hl hR hs
    cases drawn <;> exact this
/-- the function returns a value of which R is so, and changes nothing that was there -/
structure GivesR (P : Program) (f : Nat) (args : List Value) (w : World) (R : Value → World → Prop) : Prop where
  run : Calls P f args.toArray w (fun e w' => ∃ v, e = .returned v ∧ R v w' ∧ Same w w')
abbrev Λ1 (w0 : World) (R : Value → World → Prop) : Nat → List Value → World → Prop := fun _ vs w => ∃ v, vs = [v] ∧ R v w ∧ Same w0 w
theorem givesR {P : Program} (hmix : P.follows .mixedOrders = true) {f : Nat} {args : List SV} {ks : List Base} {V : VC} {c : Cfg} (hV : exFn c f args ks [] = V) (hP : c.P = P) (hlive : c.live = [0]) {w : World} {R : Value → World → Prop}
    (hf : Fits ks ε) (h : V.den (G0 P w) (Λ1 w R) ε w w (fun _ => False)) (hnr : c.ranged = false := by rfl) : GivesR P f (denL ε args) w R := by
  have hb : BlkIn ε (keys []) = fun _ => False := by funext b; simp [BlkIn, keys]
  refine ⟨(exFn_sound (G := G0 P w) (Λ := Λ1 w R) (c := c) (heap := []) hmix hP (by rw [hV, hb]; exact h) hf hlive (fun hx => by rw [hnr] at hx; cases hx) trivial (Kept.refl _ _) (by simp [keys]) (by simp [keys]) (fun _ _ _ => rfl) (by simp [keys])).mono ?_⟩
  rintro e w' ⟨v, rfl, v', h1, h2, h3⟩
  cases h1
  exact ⟨v, rfl, h2, h3⟩
/-- the function returns a value of which R is so, and changes at most the blocks M of what was there -/
structure Runs (P : Program) (f : Nat) (args : List Value) (w : World) (M : Nat → Prop) (R : Value → World → Prop) : Prop where
  run : Calls P f args.toArray w (fun e w' => ∃ v, e = .returned v ∧ R v w' ∧ Kept M w w')
abbrev ΛM (w0 : World) (M : Nat → Prop) (R : Value → World → Prop) : Nat → List Value → World → Prop := fun _ vs w => ∃ v, vs = [v] ∧ R v w ∧ Kept M w0 w
theorem runs {P : Program} (hmix : P.follows .mixedOrders = true) {f : Nat} {args : List SV} {ks : List Base} {heap : Facts} {V : VC} {c : Cfg} (hV : exFn c f args ks heap = V) (hP : c.P = P) (hlive : c.live = [0]) {w : World} {M : Nat → Prop} {R : Value → World → Prop}
    (hf : Fits ks ε) (hfa : FactsAt ε w heap) (hnd : (keys heap).Nodup) (hdj : ∀ i j, i ∈ keys heap → j ∈ keys heap → i ≠ j → blkOf (nth ε i) ≠ blkOf (nth ε j)) (hM : ∀ i ∈ keys heap, ∀ b, blkOf (nth ε i) = some b → M b)
    (h : V.den (GM P w M c.ranged) (ΛM w M R) ε w w (BlkIn ε (keys heap))) : Runs P f (denL ε args) w M R := by
  refine ⟨(exFn_sound (G := GM P w M c.ranged) (Λ := ΛM w M R) (c := c) (heap := heap) hmix hP (by rw [hV]; exact h) hf hlive (fun hx => ⟨hx, by simp only [Ctx.out, GM, hx]⟩) hfa (Kept.refl _ _) hnd hdj (fun _ _ _ => rfl) (fun i hi b hb _ => hM i hi b hb)).mono ?_⟩
  rintro e w' ⟨v, rfl, v', h1, h2, h3⟩
  cases h1
  exact ⟨v, rfl, h2, h3⟩
theorem Runs.mono {P : Program} {f : Nat} {args : List Value} {w : World} {M M' : Nat → Prop} {R R' : Value → World → Prop} (h : Runs P f args w M R) (hr : ∀ v w', R v w' → Kept M w w' → R' v w') (hm : ∀ b, b < w.heap.size → M b → M' b) : Runs P f args w M' R' :=
  ⟨Calls.mono h.run fun e w' ⟨v, h1, h2, h3⟩ => ⟨v, h1, hr v w' h2 h3, h3.mono hm⟩⟩
theorem Runs.gives {P : Program} {f : Nat} {args : List Value} {w : World} {r : Value} (h : Runs P f args w (fun _ => False) (fun v _ => v = r)) : Gives P f args w r :=
  ⟨Calls.mono h.run fun e w' ⟨v, h1, h2, h3⟩ => ⟨by rw [h1, h2], h3⟩⟩
theorem den_leafA {i : Nat} {vs : List SV} {t : List Nat} {fs : Facts} {P : Program} {w : World} {M : Nat → Prop} {rc : Bool} {R : Value → World → Prop} (v : Value) (h : denL ε vs = [v]) (hR : ∀ w', Shown (GM P w M rc) ε t fs wx w' → R v w') : (VC.leaf i vs t fs).den (GM P w M rc) (ΛM w M R) ε wx ws X :=
  fun w' hw => ⟨v, h, hR w' hw, hw.base⟩
theorem den_leafMA {i : Nat} {vs : List SV} {t : List Nat} {fs : Facts} {P : Program} {w : World} {M : Nat → Prop} {rc : Bool} {R : Value → World → Prop} (v : Value) (h : denL ε vs = [v]) (hR : ∀ w1 w', Shown (GM P w M rc) ε t fs wx w1 → Quiet w1 w' → R v w') : (VC.leafM i vs t fs).den (GM P w M rc) (ΛM w M R) ε wx ws X :=
  fun w1 hw w' hq hb => ⟨v, h, hR w1 w' hw hq, hb⟩
/-- a call of a function that changes at most the blocks M' -/
theorem den_callM {f : Nat} {args : List SV} {bs : List Base} {rv : SV} {touch : Facts} {drawn : Bool} {t t' un : List Nat} {fs : Facts} (M' : World → Nat → Prop) (R : World → List Value → World → Prop)
    (hF : ∀ w, Shown G ε t fs wx w → ∀ b, M' w b → b < w.heap.size → FpOk G drawn X ε un w b)
    (hc : ∀ w, Shown G ε t fs wx w → Runs G.P f (denL ε args) w (M' w) (fun v w' => ∃ l, Fits bs l ∧ v = rv.den (ε ++ l) ∧ R w l w' ∧ FactsAt (ε ++ l) w' touch))
    (hk : ∀ w l w', Shown G ε t fs wx w → Fits bs l → R w l w' → Kept (M' w) w w' → k.den G Λ (ε ++ l) w' (if drawn then ws else w') (if drawn then X else BlkIn ε t')) :
    (VC.call f args bs rv touch drawn t t' un fs k).den G Λ ε wx ws X := by
  intro w hw
  refine ⟨R w, M' w, Calls.mono (hc w hw).run ?_, hF w hw, allB_intro ?_⟩
  · rintro e w' ⟨v, rfl, ⟨l, hl, rfl, hR, hft⟩, h2⟩
    exact ⟨l, hl, rfl, hR, h2, hft⟩
  · intro l hl w' hR hsame
    have := hk w l w' hw hl hR hsame
    cases drawn <;> exact this
theorem den_pur {op : Op} {type : TypeId} {vals : List (Operand × SV)} {bs : List Base} {rv : SV} (l : List Value) (hl : Fits bs l) (hr : ∀ ρ, (∀ p ∈ vals.map (fun p => (p.1, p.2.den ε)), ρ p.1 = p.2) → ∀ w', Kept X ws w' → (execOp ρ (bare op type)).run G.P w' = .ok (.value (rv.den (ε ++ l))) w')
    (hk : k.den G Λ (ε ++ l) wx ws X) : (VC.pur op type vals bs rv k).den G Λ ε wx ws X :=
  ⟨l, hl, fun ρ hρ => hr ρ (valsAt_mem hρ), hk⟩
theorem GivesR.mono {P : Program} {f : Nat} {args : List Value} {w : World} {R R' : Value → World → Prop} (h : GivesR P f args w R) (hr : ∀ v w', R v w' → R' v w') : GivesR P f args w R' :=
  ⟨Calls.mono h.run fun e w' ⟨v, h1, h2, h3⟩ => ⟨v, h1, hr v w' h2, h3⟩⟩
theorem den_leafR {i : Nat} {vs : List SV} {t : List Nat} {fs : Facts} {P : Program} {w : World} {R : Value → World → Prop} (v : Value) (h : denL ε vs = [v]) (hR : ∀ w', Shown (G0 P w) ε t fs wx w' → R v w') : (VC.leaf i vs t fs).den (G0 P w) (Λ1 w R) ε wx ws X :=
  fun w' hw => ⟨v, h, hR w' hw, hw.base⟩
theorem den_callR {f : Nat} {args : List SV} {bs : List Base} {rv : SV} {drawn : Bool} {t t' un : List Nat} {fs : Facts} (R : World → List Value → World → Prop)
    (hc : ∀ w, Shown G ε t fs wx w → GivesR G.P f (denL ε args) w (fun v w' => ∃ l, Fits bs l ∧ v = rv.den (ε ++ l) ∧ R w l w'))
    (hk : ∀ w l w', Shown G ε t fs wx w → Fits bs l → R w l w' → Same w w' → k.den G Λ (ε ++ l) w' (if drawn then ws else w') (if drawn then X else BlkIn ε t')) :
    (VC.call f args bs rv [] drawn t t' un fs k).den G Λ ε wx ws X := by
  intro w hw
  refine ⟨R w, fun _ => False, Calls.mono (hc w hw).run ?_, fun _ h => h.elim, allB_intro ?_⟩
  · rintro e w' ⟨v, rfl, ⟨l, hl, rfl, hR⟩, h2⟩
    exact ⟨l, hl, rfl, hR, h2, trivial⟩
  · intro l hl w' hR hsame
    have := hk w l w' hw hl hR hsame
    cases drawn <;> exact this
/-- make([]T, n) -/
theorem den_make {t₀ e type : TypeId} {i : TypeInfo} {z : Value} {x y : Operand} {ex ey : IE} {kx ky : IntKind} {n : Nat} {drawn : Bool} {j : Nat} {t t' un : List Nat} {fs : Facts}
    (ht : G.P.underlying t₀ = some (.slice e)) (hi : G.P.info? e = some i) (hz : i.zero = some z) (hex : ex.den ε = n) (hey : ey.den ε = n) (hbytes : (i.bytes : Int) * n ≤ 281474976710656) (h63 : (n : Int) ≤ 9223372036854775807)
    (hj : ∀ v, nth (ε ++ [v]) j = v)
    (hk : ∀ w b w', Shown G ε t fs wx w → w.heap.size ≤ b → w'.heap[b]? = some (.cells (madeCells z.cells (n * i.size)) e (0, 0)) → Same w w' →
      k.den G Λ (ε ++ [.slice (some ⟨b, 0, none⟩) n n]) w' (if drawn then ws else w') (if drawn then X else BlkIn ε t')) :
    (VC.gen (.makeSlice t₀ x y) type [(x, .int kx ex), (y, .int ky ey)] [Base.slice] (.var j) [] drawn t t' un fs k).den G Λ ε wx ws X := by
  refine den_gen (fun w l w' => ∃ b, w.heap.size ≤ b ∧ w'.heap[b]? = some (.cells (madeCells z.cells (n * i.size)) e (0, 0)) ∧ l = [.slice (some ⟨b, 0, none⟩) n n]) ?_ ?_
  · intro w hw ρ hρ
    have h1 : ρ x = .int kx n := by have := hρ (x, .int kx (ex.den ε)) (by simp [SV.den]); rw [this, hex]
    have h2 : ρ y = .int ky n := by have := hρ (y, .int ky (ey.den ε)) (by simp [SV.den]); rw [this, hey]
    have hr := run_make (P := G.P) w t₀ e i z ht hi hz kx ky n n (by omega) (Int.le_refl _) hbytes h63
    simp only [Int.toNat_natCast] at hr
    have hs : Same w (w.alloc (.cells (madeCells z.cells (n * i.size)) e (0, 0))) := (Kept.refl _ w).alloc _
    refine .inl ⟨.slice (some ⟨w.heap.size, 0, none⟩) n n, w.alloc (.cells (madeCells z.cells (n * i.size)) e (0, 0)), .inl ?_, ⟨[.slice (some ⟨w.heap.size, 0, none⟩) n n], ⟨⟨_, _, _, rfl⟩, trivial⟩, ?_, w.heap.size, Nat.le_refl _, heap_alloc_new w _, rfl⟩, hs⟩
    · simp [execOp, bare, h1, h2, hr]
    · simp only [SV.den]; exact (hj _).symm
  · rintro w l w' hw hl ⟨b, h2, h3, rfl⟩ hs
    exact hk w b w' hw h2 h3 hs
theorem den_both (h : k.den G Λ ε wx ws X) (h' : k'.den G Λ ε wx ws X) : (VC.both k k').den G Λ ε wx ws X := ⟨h, h'⟩
theorem den_leaf' {i : Nat} {vs : List SV} {t : List Nat} {fs : Facts} (h : ∀ w, Shown G ε t fs wx w → Λ i (denL ε vs) w) : (VC.leaf i vs t fs).den G Λ ε wx ws X := h
theorem den_loop {i : Nat} {vs : List SV} {bs : List Base} {t t' : List Nat} {fs fs' : Facts} (I : List Value → World → Prop) (μ : List Value → World → Nat) (h0 : ∀ w, Shown G ε t fs wx w → I (denL ε vs) w)
    (hk : ∀ w l w', Shown G ε t fs wx w → Fits bs l → I l w' → Kept G.M G.W0 w' → FactsAt (ε ++ l) w' fs' →
      k.den G (fun j vs' w'' => if j = i then I vs' w'' ∧ μ vs' w'' < μ l w' else Λ j vs' w'') (ε ++ l) w' w' (BlkIn (ε ++ l) t')) :
    (VC.loop i vs bs t t' fs fs' k).den G Λ ε wx ws X :=
  fun w hw => ⟨I, μ, h0 w hw, allB_intro fun l hl w' hI hkept hf => hk w l w' hw hl hI hkept hf⟩
end

/-- the slice reads these cells, sz of them for each element -/
structure Reads (w : World) (s : Value) (sz n : Nat) (cells : List Value) : Prop where
  slice : ∃ a c, s = .slice a n c
  len : cells.length = n * sz
  cell : ∀ (j : Nat) x, cells[j]? = some x → ∃ ad, vaddr s = some ad ∧ w.cell? (ad.add j) = some x
theorem Reads.same {w w' : World} {s : Value} {sz n : Nat} {cells : List Value} (h : Reads w s sz n cells) (hk : Same w w') : Reads w' s sz n cells :=
  ⟨h.slice, h.len, fun j x hx => let ⟨ad, h1, h2⟩ := h.cell j x hx; ⟨ad, h1, hk.cell h2 (fun h => h)⟩⟩
theorem HasBlk.reads {w : World} {p : Value} {cells : List Value} (h : HasBlk w p cells) (lo n c sz : Nat) (hle : lo + n * sz ≤ cells.length) :
    Reads w (.slice (addO (vaddr p) lo) n c) sz n ((cells.drop lo).take (n * sz)) := by
  obtain ⟨b, hb, hc⟩ := hasBlk_cell h
  subst hb
  refine ⟨⟨_, _, rfl⟩, by simp; omega, fun j x hx => ⟨⟨b, lo, none⟩, ?_, ?_⟩⟩
  · show some ((Addr.mk b 0 none).add lo) = _
    rw [addr_add, Nat.zero_add]
  · rw [addr_add, hc]
    rw [List.getElem?_take] at hx
    split at hx
    · rw [List.getElem?_drop] at hx; exact hx
    · cases hx
end Go.Sx

/- Part U of a symbolic run of Go code by computation: its states, conditions and the proof that a condition that holds says what the function returns. No conditions of its own. -/
set_option linter.unusedVariables false
set_option linter.unusedSimpArgs false
namespace Go.Sx
open Go.RowKit Go.ChangeShapes Go.WideShapes Go.ChangeAt

theorem Same.below {w w' : World} (h : Same w w') : Below w.heap.size w w' := Kept.below h fun _ _ h => h

/-- the arguments read behind the call as they did, where nothing that was there has turned -/
theorem trodAll_below {H : Type} {enc : TypeId × Value → H} {P : Program} (hl : laidOutB P = true) {W W' : World} (hb : Below W.heap.size W W') :
    ∀ {ts : List TypeId} {vs : List Value} {ds : List (DataW H)} {ps : List MemPlace}, (∀ t ∈ ts, P.readableRec t = true ∧ t < P.types.size) →
      DataW.TrodAll enc P W 0 (fun _ => true) true ts vs ds ps → (∀ x ∈ ps, x.block < W.heap.size) →
      DataW.TrodAll enc P W' 0 (fun b => decide (b < W.heap.size)) true ts vs ds ps
  | [], vs, ds, ps, _, h, _ => by
    obtain ⟨rfl, rfl, rfl⟩ := trodAll_nil h
    exact trodAll_mk0
  | t :: ts, vs, ds, ps, ht, h, hp => by
    obtain ⟨v, vs1, d, ds1, a, b, rfl, rfl, rfl, h1, h2⟩ := trodAll_cons h
    exact trodAll_cons_mk (Below.trod hl (ht t (by simp)).1 (ht t (by simp)).2 h1 hb (fun x hx => hp x (List.mem_append.2 (.inl hx))))
      (trodAll_below hl hb (fun t' h' => ht t' (by simp [h'])) h2 (fun x hx => hp x (List.mem_append.2 (.inr hx))))

/-- WHAT A LAW'S ROW ASKS BEHIND THE CALL, where the law returned true and nothing that was there has turned -/
theorem law_post {H : Type} {enc : TypeId × Value → H} {P : Program} {f : Func} {s : ChangeSpec} {W W' : World} {args : Array Value} {ds gs : List (DataW H)} {before : List MemPlace} {tb : TypeId}
    (hl : laidOutB P = true) (hpar : ∀ t ∈ f.params.toList, P.readableRec t = true ∧ t < P.types.size) (hvars : s.vars = [])
    (hW : DataW.Whole enc P f.params.toList s.vars false W args.toList ds gs before) (hs : Same W W')
    (hspec : s.fn H (ds ++ gs) = { results := [.lit (.bool true)], args := ds }) (hres : f.resultTypes = #[tb]) (hu : P.underlying tb = some .bool) :
    s.post enc P f false true false false W args (.bool true) W' := by
  have hW' := hW
  obtain ⟨p, q, hA, hV, rfl, _, _⟩ := hW
  rw [hvars] at hV
  obtain ⟨rfl, rfl⟩ := trodVars_none hV
  have hlt : ∀ x ∈ p, x.block < W.heap.size := fun x hx => by simpa using hW'.lt x (by simpa using hx)
  have hb := Same.below hs
  refine ⟨ds, [], _, [], p, [], hW', ?_, ?_, ?_, hb.frame _, fun h => by cases h⟩
  · rw [hspec, hres]
    exact trodAll_cons_mk (shut_bool hu _) trodAll_mk0
  · rw [hspec]
    exact trodAll_below hl hb hpar hA hlt
  · rw [hspec, hvars]
    rfl
end Go.Sx

/- Part V of a symbolic run of Go code by computation: its states, conditions and the proof that a condition that holds says what the function returns. No conditions of its own. -/
set_option linter.unusedVariables false
set_option linter.unusedSimpArgs false
namespace Go.Sx
open Go.RowKit

theorem Kept.of_grownBy {w w' : World} {row : Option Nat} (h : w.grownBy w' row) : Kept (fun b => row = some b) w w' :=
  ⟨h.os, h.tape, h.output, h.size, fun k hk hm => h.block k hk (fun e => hm e.symm)⟩
theorem Kept.owns {M : Nat → Prop} {w w' : World} (h : Kept M w w') {base : Nat} {e : TypeId} {size : Nat} {v : Value} {n : Nat} {xs : List Value} (ho : w.ownsRow base e size v n xs) (hm : ∀ k, v.ownBlock = some k → ¬ M k) : w'.ownsRow base e size v n xs := by
  refine ⟨ho.1, ?_⟩
  rcases ho.2 with hn | ⟨g, cap, cur, rfl, hb, hgg, rest⟩
  · exact .inl hn
  · refine .inr ⟨g, cap, cur, rfl, hb, ?_, rest⟩
    rw [h.block g (Array.getElem?_eq_some_iff.1 hgg).1 (hm g rfl)]
    exact hgg

section
variable {G : Ctx} {Λ : Nat → List Value → World → Prop} {ε : List Value} {wx ws : World} {X : Nat → Prop} {k k' : VC}

/-- an operation that may change the blocks Fp -/
theorem den_genF {op : Op} {type : TypeId} {vals : List (Operand × SV)} {bs : List Base} {rv : SV} {drawn : Bool} {t t' un : List Nat} {fs : Facts} (Fp : Nat → Prop) (R : World → List Value → World → Prop)
    (hF : ∀ w, Shown G ε t fs wx w → ∀ b, Fp b → b < w.heap.size → FpOk G drawn X ε un w b)
    (hc : ∀ w, Shown G ε t fs wx w → ∀ ρ : Operand → Value, (∀ p ∈ vals.map (fun p => (p.1, p.2.den ε)), ρ p.1 = p.2) →
      RunsTo G.P (execOp ρ (bare op type)) w (fun v w' => (∃ l, Fits bs l ∧ v = rv.den (ε ++ l) ∧ R w l w') ∧ Kept Fp w w'))
    (hk : ∀ w l w', Shown G ε t fs wx w → Fits bs l → R w l w' → Kept Fp w w' → k.den G Λ (ε ++ l) w' (if drawn then ws else w') (if drawn then X else BlkIn ε t')) :
    (VC.gen op type vals bs rv [] drawn t t' un fs k).den G Λ ε wx ws X := by
  intro w hw
  refine ⟨R w, Fp, ?_, hF w hw, allB_intro ?_⟩
  · intro ρ hρ
    exact (hc w hw ρ (valsAt_mem hρ)).mono fun v w' ⟨⟨l, hl, hv, hR⟩, hs⟩ => ⟨l, hl, hv, hR, hs, trivial⟩
  · intro l hl w' hR hs
    have := hk w l w' hw hl hR hs
    cases drawn <;> exact this

end
end Go.Sx
