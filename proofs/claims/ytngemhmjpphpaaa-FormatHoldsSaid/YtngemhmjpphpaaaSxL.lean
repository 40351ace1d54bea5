/- Part L of a symbolic run of Go code by computation: its states, conditions and the proof that a condition that holds says what the function returns. No conditions of its own. -/
import Derived.Test.YtngemhmjpphpaaaSxK
set_option linter.unusedVariables false
set_option linter.unusedSimpArgs false
namespace Go.Sx
open Go.RowKit

section
variable {G : Ctx} {D : List Deferred} {s : St} {ε : List Value} {wx ws : World} {X : Nat → Prop} {a : Act} {w : World} {o : Oper}

/-! what the step says, the other kinds -/
theorem run_newRow {P : Program} (t : TypeId) (cells : Array Value) (w : World) : (newRow t cells).run P w = .ok ⟨w.heap.size, 0, none⟩ (w.alloc (.cells cells t (0, 0))) := by
  simp only [newRow, newObj, Sem.run_bind]
  rfl

theorem genRes_alloc {s : St} {op : Op} {c : List SV} {v : SV} : genRes s op ≠ .alloc c v := by
  unfold genRes; repeat' split
  all_goals simp

theorem stepS_alloc (hok : Ok G D s ε wx ws X a w) {cells : List SV} {v : SV} (h : stepS G.P s o.op = .alloc cells v) :
    ∃ ty, ∀ w', (execOp a.eval o).run G.P w' = .ok (.value (v.den (ε ++ [.pointer (some ⟨w'.heap.size, 0, none⟩)]))) (w'.alloc (.cells (denL ε cells).toArray ty (0, 0))) := by
  have hlen : ε.length = s.ks.length := hok.ks.length
  have hptr : ∀ q, (SV.ptr s.ks.length 0).den (ε ++ [.pointer (some ⟨q, 0, none⟩)]) = .pointer (some ⟨q, 0, none⟩) := fun q => by
    simp only [SV.den]; rw [← hlen, nth_last]; simp [vaddr, addO, Addr.add]
  cases ho : o.op <;> rw [ho] at h
  case alloc t =>
    simp only [stepS] at h
    split at h
    · rename_i z hz
      simp only [Res.alloc.injEq] at h
      obtain ⟨rfl, rfl⟩ := h
      refine ⟨t, fun w' => ?_⟩
      rw [hptr, consts_den]
      have hz' := fun w'' => run_zero (P := G.P) hz w''
      simp [execOp, ho, Instr.alloc, hz', newVar, run_newRow]
    · cases h
  case box t x =>
    simp only [stepS] at h
    split at h
    · rename_i u hu
      split at h
      · rename_i hc
        simp only [Res.alloc.injEq] at h
        obtain ⟨rfl, rfl⟩ := h
        refine ⟨t, fun w' => ?_⟩
        rw [hptr]
        have h1 := ev_den hok hu
        simp [execOp, ho, Instr.box, newVar, run_newRow, h1, cellsS_den hok.ks hc]
      · cases h
    · cases h
  case buildSlice t m parts =>
    have hparts : ∀ {ps : List (Nat × SV)}, pairsS s parts.toList = some ps → (parts.map fun (i, x) => (i, a.eval x)).toList = ps.map fun p => (p.1, p.2.den ε) := fun hp => by
      rw [← pairs_den hok hp]; simp
    simp only [stepS] at h
    split at h
    · rename_i el ps hu hps
      split at h
      · rename_i hcells
        split at h
        · rename_i n z hn hz
          split at h
          · rename_i hc
            simp only [Bool.and_eq_true, beq_iff_eq] at hc
            obtain ⟨hc1, hc2⟩ := hc
            split at h
            · rename_i l hl
              simp only [Res.alloc.injEq] at h
              obtain ⟨rfl, rfl⟩ := h
              refine ⟨el, fun w' => ?_⟩
              have hs := fun w'' => run_size (P := G.P) hn w''
              have hz' := fun w'' => run_zero (P := G.P) hz w''
              have hle : ¬ m * n > 2 ^ 24 := by have := Nat.le_of_ble_eq_true hc1; omega
              have hfill := fill_den (ε := ε) hok.ks (fun i => some (i * n, n)) ps _ l hcells hl
              have hzero : (denL ε ((List.range (m * n)).map fun j => ofConst (z.cells[j % n]!))).toArray = (Array.range (m * n)).map (z.cells[· % z.cells.size]!) := by
                apply Array.ext'
                rw [denL_map, List.map_map]
                simp only [Array.toList_map, Array.toList_range, hc2]
                apply List.map_congr_left
                intro j _
                exact ofConst_den ε _
              rw [hzero] at hfill
              have hv : (SV.slc s.ks.length 0 m m).den (ε ++ [.pointer (some ⟨w'.heap.size, 0, none⟩)]) = .slice (some ⟨w'.heap.size, 0, none⟩) m m := by
                simp only [SV.den]; rw [← hlen, nth_last]; simp [vaddr, addO, Addr.add]
              rw [hv]
              by_cases hpos : m * n = 0
              · have hr : ∀ (f g : Nat → Value), (Array.range (m * n)).map f = (Array.range (m * n)).map g := fun f g => by rw [hpos]; simp
                simp only [execOp, ho, Instr.buildSlice, Sem.run_bind, run_underlying hu, Result.andThen, hs, if_neg hle, if_pos hpos, hz', hparts hps, Sem.run_pure]
                rw [hr _ (z.cells[· % z.cells.size]!), hfill]
                simp [run_newRow]
              · simp only [execOp, ho, Instr.buildSlice, Sem.run_bind, run_underlying hu, Result.andThen, hs, if_neg hle, if_neg hpos, hz', hparts hps, Sem.run_pure]
                rw [hfill]
                simp [run_newRow]
            · cases h
          · cases h
        · cases h
      · cases h
    · cases h
  case load t x => simp only [stepS] at h; repeat' (first | (cases h; done) | split at h)
  case build t p => simp only [stepS] at h; repeat' (first | (cases h; done) | split at h)
  case unOp u t x => cases u <;> (simp only [stepS] at h; repeat' (first | (cases h; done) | (exact absurd h genRes_alloc) | split at h))
  case makeFunc f x y => cases f <;> (simp only [stepS] at h; repeat' (first | (cases h; done) | (exact absurd h genRes_alloc) | split at h))
  case call c =>
    obtain ⟨callee, cargs, argTypes⟩ := c
    cases callee with
    | builtin b => cases b <;> (simp only [stepS] at h; repeat' (first | (cases h; done) | (exact absurd h genRes_alloc) | split at h))
    | _ => simp only [stepS] at h; repeat' (first | (cases h; done) | (exact absurd h genRes_alloc) | split at h)
  all_goals (simp only [stepS] at h; repeat' (first | (cases h; done) | (exact absurd h genRes_alloc) | split at h))

theorem genRes_store {s : St} {op : Op} {k n : Nat} {c : List SV} : genRes s op ≠ .store k n c := by
  unfold genRes; repeat' split
  all_goals simp

theorem stepS_store (hok : Ok G D s ε wx ws X a w) {key off : Nat} {vs : List SV} (h : stepS G.P s o.op = .store key off vs) :
    ∃ cells b ty, findH s.heap key = some cells ∧ nth ε key = .pointer (some ⟨b, 0, none⟩) ∧ w.heap[b]? = some (.cells (denL ε cells).toArray ty (0, 0)) ∧
      (execOp a.eval o).run G.P w = .ok .skip (w.setRow b (denL ε (fillS cells off vs)).toArray) := by
  cases ho : o.op <;> rw [ho] at h
  case store t x y =>
    simp only [stepS] at h
    split at h
    · rename_i i off' v n hx hy hn
      split at h
      · rename_i cells hc
        split at h
        · rename_i hcond
          simp only [Bool.and_eq_true, beq_iff_eq] at hcond
          obtain ⟨⟨h1, h2⟩, h3⟩ := hcond
          simp only [Res.store.injEq] at h
          obtain ⟨rfl, rfl, rfl⟩ := h
          obtain ⟨b, ty, hb, hh⟩ := findH_facts hok.hp hc
          refine ⟨cells, b, ty, hc, hb, hh, ?_⟩
          have e1 := ev_den hok hx
          have e2 := ev_den hok hy
          simp only [SV.den, hb, vaddr, addO, Option.map_some, addr_add, Nat.zero_add] at e1
          have hs := fun w'' => run_size (P := G.P) hn w''
          have hcs := cellsS_den hok.ks h3
          have h2' : off' + n ≤ cells.length := Nat.le_of_ble_eq_true h2
          have hst := run_storeCells_at G.P b off' ty (denL ε (cellsS v)) 0 (denL ε cells).toArray w hh (by simp [denL_length]; omega) (cellsS_one hok.ks h3)
          rw [fillS_den]
          simp only [Nat.add_zero, denL_length] at hst
          simp [execOp, ho, Instr.storeAt, Instr.sureAddr, storeVar, e1, e2, hs, hcs, denL_length, h1, hst]
        · cases h
      · exact absurd h genRes_store
    · exact absurd h genRes_store
    · cases h
  case load t x => simp only [stepS] at h; repeat' (first | (cases h; done) | split at h)
  case build t p => simp only [stepS] at h; repeat' (first | (cases h; done) | split at h)
  case buildSlice t m p => simp only [stepS] at h; repeat' (first | (cases h; done) | split at h)
  case unOp u t x => cases u <;> (simp only [stepS] at h; repeat' (first | (cases h; done) | (exact absurd h genRes_store) | split at h))
  case makeFunc f x y => cases f <;> (simp only [stepS] at h; repeat' (first | (cases h; done) | (exact absurd h genRes_store) | split at h))
  case call c =>
    obtain ⟨callee, cargs, argTypes⟩ := c
    cases callee with
    | builtin b => cases b <;> (simp only [stepS] at h; repeat' (first | (cases h; done) | (exact absurd h genRes_store) | split at h))
    | _ => simp only [stepS] at h; repeat' (first | (cases h; done) | (exact absurd h genRes_store) | split at h)
  all_goals (simp only [stepS] at h; repeat' (first | (cases h; done) | (exact absurd h genRes_store) | split at h))

theorem genRes_call {s : St} {op : Op} {k : Nat} {c : List SV} : genRes s op ≠ .call k c := by
  unfold genRes; repeat' split
  all_goals simp

theorem stepS_call (hok : Ok G D s ε wx ws X a w) {f : Nat} {args : List SV} (h : stepS G.P s o.op = .call f args) :
    ∀ w', (execOp a.eval o).run G.P w' = .ok (.enter f (denL ε args).toArray) w' := by
  cases ho : o.op <;> rw [ho] at h
  case call c =>
    obtain ⟨callee, cargs, argTypes⟩ := c
    cases callee with
    | value fo =>
      simp only [stepS] at h
      split at h
      · rename_i g caps vs hf hv
        split at h
        · rename_i hg
          simp only [Res.call.injEq] at h
          obtain ⟨rfl, rfl⟩ := h
          intro w'
          have e1 := ev_den hok hf
          have hargs : cargs.map a.eval = (denL ε vs).toArray := by rw [← evs_den hok hv]; apply Array.ext'; simp
          unfold goFunc at hg
          split at hg
          · rename_i fn hfn
            simp only [Bool.and_eq_true, Bool.not_eq_true', beq_eq_false_iff_ne, ne_eq] at hg
            have hbody : fn.body.isNone = false := by cases hb : fn.body <;> simp [hb] at hg ⊢
            have hname : (fn.name == "runtime.NumGoroutine") = false := by simpa using hg.2
            have hbody' : ¬ fn.body = none := fun e => by simp [e] at hbody
            have hname' : ¬ fn.name = "runtime.NumGoroutine" := fun e => by simp [e] at hname
            simp [execOp, ho, resolve, Deferred.ofValue, e1, SV.den, invoke, callFunc, hfn, hname', hbody', hargs, denL_app]
          · cases hg
        · cases h
      · exact absurd h genRes_call
      · cases h
    | invoke r m => simp [stepS] at h
    | builtin b => cases b <;> (simp only [stepS] at h; repeat' (first | (cases h; done) | (exact absurd h genRes_call) | split at h))
  case load t x => simp only [stepS] at h; repeat' (first | (cases h; done) | split at h)
  case build t p => simp only [stepS] at h; repeat' (first | (cases h; done) | split at h)
  case buildSlice t m p => simp only [stepS] at h; repeat' (first | (cases h; done) | split at h)
  case unOp u t x => cases u <;> (simp only [stepS] at h; repeat' (first | (cases h; done) | (exact absurd h genRes_call) | split at h))
  case makeFunc f x y => cases f <;> (simp only [stepS] at h; repeat' (first | (cases h; done) | (exact absurd h genRes_call) | split at h))
  all_goals (simp only [stepS] at h; repeat' (first | (cases h; done) | (exact absurd h genRes_call) | split at h))

theorem genRes_load {s : St} {op : Op} {k : SV} {b : List Base} {c : SV} : genRes s op ≠ .load k b c := by
  unfold genRes; repeat' split
  all_goals simp

/-- a load whose address is not in a tracked block -/
theorem stepS_load (hok : Ok G D s ε wx ws X a w) {u : SV} {bs : List Base} {v : SV} (h : stepS G.P s o.op = .load u bs v) {l : List Value} (hf : Fits bs l) {ad : Addr} (had : u.den ε = .pointer (some ad)) (w' : World)
    (hc : ∀ j x, l[j]? = some x → w'.cell? (ad.add j) = some x) : (execOp a.eval o).run G.P w' = .ok (.value (v.den (ε ++ l))) w' := by
  have hlen : ε.length = s.ks.length := hok.ks.length
  have key : ∀ (t : TypeId) (x : Operand), o.op = .load t x → s.ev x = some u → freshTy G.P s.ks.length t = some (bs, v) → shapeOk G.P t = true → (execOp a.eval o).run G.P w' = .ok (.value (v.den (ε ++ l))) w' := by
    intro t x ho hx hfr hsh
    have e1 := ev_den hok hx
    rw [had] at e1
    unfold shapeOk at hsh
    unfold freshTy at hfr
    unfold zeroT at hsh
    split at hsh
    · rename_i cs n hag hz hn
      simp only [beq_iff_eq] at hsh
      rw [hz] at hfr
      simp only [Option.some.injEq, Prod.mk.injEq] at hfr
      obtain ⟨rfl, rfl⟩ := hfr
      have hi := fun w'' => run_isAgg (P := G.P) hag w''
      have hs := fun w'' => run_size (P := G.P) hn w''
      have hl : l.length = n := by rw [hf.length]; simp [hsh]
      have hlc : (loadCells ad n).run G.P w' = .ok l.toArray w' := by
        have := run_loadCells_list (P := G.P) (w := w') ad l hc
        rw [hl] at this
        exact this
      have hv := mkSVs_den ε hf []
      rw [hlen, List.append_nil] at hv
      simp [execOp, ho, Instr.loadAt, Instr.sureAddr, e1, loadVar, hi, hs, hlc, SV.den, hv]
    · rename_i z n hag hz hn
      rw [hz] at hfr
      have hi := fun w'' => run_isAgg (P := G.P) hag w''
      have hfr' : some ([baseOf z], mkSV s.ks.length (baseOf z)) = some (bs, v) := by
        cases z <;> first | exact hfr | simp [Value.oneCell'] at hsh
      simp only [Option.some.injEq, Prod.mk.injEq] at hfr'
      obtain ⟨rfl, rfl⟩ := hfr'
      match l, hf with
      | [x], hf =>
        have hx' := hc 0 x rfl
        rw [show ad.add 0 = ad from by simp [Addr.add]] at hx'
        have hv := mkSVs_den ε (bs := [baseOf z]) (l := [x]) hf []
        rw [hlen, List.append_nil] at hv
        simp only [mkSVs, denL, List.cons.injEq, and_true] at hv
        simp [execOp, ho, Instr.loadAt, Instr.sureAddr, e1, loadVar, hi, load, Sem.run, hx', hv]
      | [], hf => exact hf.elim
      | _ :: _ :: _, hf => exact hf.2.elim
    · cases hsh
  cases ho : o.op <;> rw [ho] at h
  case load t x =>
    simp only [stepS] at h
    split at h
    · rename_i i off n hx hn
      split at h
      · rename_i cells hcells
        exfalso
        repeat' (first | (cases h; done) | split at h)
      · split at h
        · rename_i bs' v' hfr
          split at h
          · rename_i hsh
            simp only [Res.load.injEq] at h
            obtain ⟨rfl, rfl, rfl⟩ := h
            exact key t x ho hx hfr hsh
          · cases h
        · cases h
    · rename_i i oo e z o2 n hx hn
      split at h
      · rename_i bs' v' hfr
        split at h
        · rename_i hsh
          simp only [Res.load.injEq] at h
          obtain ⟨rfl, rfl, rfl⟩ := h
          exact key t x ho hx hfr hsh
        · cases h
      · cases h
    · cases h
  case build t p => simp only [stepS] at h; repeat' (first | (cases h; done) | split at h)
  case buildSlice t m p => simp only [stepS] at h; repeat' (first | (cases h; done) | split at h)
  case unOp u t x => cases u <;> (simp only [stepS] at h; repeat' (first | (cases h; done) | (exact absurd h genRes_load) | split at h))
  case makeFunc f x y => cases f <;> (simp only [stepS] at h; repeat' (first | (cases h; done) | (exact absurd h genRes_load) | split at h))
  case call c =>
    obtain ⟨callee, cargs, argTypes⟩ := c
    cases callee with
    | builtin b => cases b <;> (simp only [stepS] at h; repeat' (first | (cases h; done) | (exact absurd h genRes_load) | split at h))
    | _ => simp only [stepS] at h; repeat' (first | (cases h; done) | (exact absurd h genRes_load) | split at h)
  all_goals (simp only [stepS] at h; repeat' (first | (cases h; done) | (exact absurd h genRes_load) | split at h))
end
end Go.Sx
