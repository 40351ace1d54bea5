/- Part I of a symbolic run of Go code by computation: its states, conditions and the proof that a condition that holds says what the function returns. No conditions of its own. -/
import Derived.Test.YtngemhmjpphpaaaSxH
set_option linter.unusedVariables false
set_option linter.unusedSimpArgs false
namespace Go.Sx
open Go.RowKit

theorem run_mapM {P : Program} {α β : Type} (f : α → Sem β) (g : α → β) (w : World) : ∀ (l : List α), (∀ x ∈ l, (f x).run P w = .ok (g x) w) → (l.mapM f).run P w = .ok (l.map g) w
  | [], _ => by simp
  | x :: l, h => by
    have h1 := h x (by simp)
    have h2 := run_mapM f g w l (fun y hy => h y (by simp [hy]))
    simp [List.mapM_cons, h1, h2]
theorem run_amapM {P : Program} {α β : Type} (f : α → Sem β) (g : α → β) (w : World) (l : Array α) (h : ∀ x ∈ l.toList, (f x).run P w = .ok (g x) w) : (l.mapM f).run P w = .ok (l.map g) w := by
  rw [Array.mapM_eq_mapM_toList]
  simp [run_mapM f g w l.toList h]
  apply Array.ext'
  simp

theorem set_run (off : Nat) : ∀ (vals : List Value) (k : Nat) (cs : Array Value), off + k + vals.length ≤ cs.size →
    ((vals.zipIdx k).foldl (fun cs (p : Value × Nat) => cs.setIfInBounds (off + p.2) p.1) cs).toList = cs.toList.take (off + k) ++ vals ++ cs.toList.drop (off + k + vals.length)
  | [], k, cs, _ => by simp
  | v :: vals, k, cs, h => by
    simp only [List.length_cons] at h
    simp only [List.zipIdx_cons, List.foldl_cons]
    rw [set_run off vals (k + 1) _ (by simp; omega)]
    have e1 : (cs.setIfInBounds (off + k) v).toList = cs.toList.set (off + k) v := by simp
    rw [e1]
    have hlt : off + k < cs.toList.length := by simp; omega
    have e2 : (cs.toList.set (off + k) v).take (off + (k + 1)) = cs.toList.take (off + k) ++ [v] := by
      rw [show off + (k + 1) = (off + k) + 1 by omega, List.take_succ_eq_append_getElem (by simpa using hlt)]
      rw [List.take_set_of_le (by omega)]
      simp
    have e3 : (cs.toList.set (off + k) v).drop (off + (k + 1) + vals.length) = cs.toList.drop (off + k + (vals.length + 1)) := by
      rw [List.drop_set_of_lt (by omega)]
      congr 1
      omega
    rw [e2, e3]
    simp

theorem fillS_den (ε : List Value) (cells : List SV) (off : Nat) (vals : List SV) : denL ε (fillS cells off vals) = (denL ε cells).take off ++ denL ε vals ++ (denL ε cells).drop (off + vals.length) := by
  simp [fillS, denL_app, denL_take, denL_drop]

theorem fill_den {ks : List Base} {ε : List Value} (hf : Fits ks ε) (place : Nat → Option (Nat × Nat)) : ∀ (ps : List (Nat × SV)) (cells l : List SV), allCells ks ps = true → buildS place cells ps = some l →
    Instr.fill place (denL ε cells).toArray (ps.map fun p => (p.1, p.2.den ε)) = some (denL ε l).toArray
  | [], cells, l, _, h => by simp [buildS] at h; subst h; rfl
  | (i, v) :: ps, cells, l, ha, h => by
    simp only [allCells, Bool.and_eq_true] at ha
    simp only [buildS] at h
    cases hp : place i with
    | none => simp [hp] at h
    | some q =>
      obtain ⟨off, size⟩ := q
      simp only [hp] at h
      split at h
      · rename_i hc
        simp only [Bool.and_eq_true, beq_iff_eq] at hc
        obtain ⟨hc1, hc2⟩ := hc
        have hc2' : off + size ≤ cells.length := Nat.le_of_ble_eq_true hc2
        have hv := cellsS_den hf ha.1
        have hsz : (v.den ε).cells.size = size := by rw [hv]; simp [denL_length, hc1]
        have hfold : (v.den ε).cells.zipIdx.foldl (fun cs (c, j) => cs.setIfInBounds (off + j) c) (denL ε cells).toArray = (denL ε (fillS cells off (cellsS v))).toArray := by
          apply Array.ext'
          rw [hv]
          have := set_run off (denL ε (cellsS v)) 0 (denL ε cells).toArray (by simp [denL_length]; omega)
          rw [← Array.foldl_toList]
          simp only [Array.toList_zipIdx]
          rw [fillS_den]
          simpa [denL_length] using this
        simp only [List.map_cons, Instr.fill, hp]
        rw [if_neg (by simp [hsz, denL_length]; omega)]
        rw [hfold]
        exact fill_den hf place ps _ l ha.2 h
      · cases h

theorem consts_den (ε : List Value) (l : List Value) : denL ε (l.map ofConst) = l := by
  rw [denL_map, List.map_map]
  conv => rhs; rw [← List.map_id l]
  apply List.map_congr_left
  intro v _
  exact ofConst_den ε v

theorem run_zero {P : Program} {t : TypeId} {z : Value} (h : zeroT P t = some z) (w : World) : (zeroValue t).run P w = .ok z w := by
  obtain ⟨i, hi, hz⟩ := Option.bind_eq_some_iff.1 h
  simp [zeroValue, run_info hi, hz]

section
variable {G : Ctx} {D : List Deferred} {s : St} {ε : List Value} {wx ws : World} {X : Nat → Prop} {a : Act} {w : World} {o : Oper} {p : List BE} {v : SV}

theorem y_build (hok : Ok G D s ε wx ws X a w) {t : TypeId} {parts : Array (Nat × Operand)} (ho : o.op = .build t parts) (h : stepS G.P s (.build t parts) = .val p v) (w' : World) : Yields1 G.P a o (v.den ε) w' := by
  have hparts : ∀ {ps : List (Nat × SV)}, pairsS s parts.toList = some ps → (parts.map fun (i, x) => (i, a.eval x)).toList = ps.map fun p => (p.1, p.2.den ε) := fun hp => by
    rw [← pairs_den hok hp]; simp
  simp only [stepS] at h
  split at h
  · rename_i z ps fields hz hps hu
    split at h
    · rename_i hc
      simp only [Bool.and_eq_true] at hc
      split at h
      · rename_i l hl
        simp only [Res.val.injEq] at h
        obtain ⟨rfl, rfl⟩ := h
        have hpl : (fields.mapM fun f => do pure (f.offset, ← sizeOf f.type) : Sem (Array (Nat × Nat))).run G.P w' = .ok (fields.map fun f => (f.offset, (sizeT G.P f.type).getD 0)) w' := by
          refine run_amapM _ _ w' fields fun fd hfd => ?_
          have := (List.all_eq_true.1 hc.2) fd hfd
          obtain ⟨n, hn⟩ := Option.isSome_iff_exists.1 this
          simp [run_size hn, hn]
        have hfill := fill_den (ε := ε) hok.ks (fun i => (fields[i]?).bind fun (fd : Field) => (sizeT G.P fd.type).map fun n => (fd.offset, n)) ps _ l hc.1 hl
        rw [consts_den] at hfill
        have hplace : (fun (i : Nat) => (fields.map fun f => (f.offset, (sizeT G.P f.type).getD 0))[i]?) = (fun (i : Nat) => (fields[i]?).bind fun (fd : Field) => (sizeT G.P fd.type).map fun n => (fd.offset, n)) := by
          funext i
          rw [Array.getElem?_map]
          cases hi : fields[i]? with
          | none => rfl
          | some fd =>
            have := (List.all_eq_true.1 hc.2) fd (by
              have := Array.mem_of_getElem? hi
              simpa using this)
            obtain ⟨n, hn⟩ := Option.isSome_iff_exists.1 this
            simp [hn]
        have hz' := fun w'' => run_zero (P := G.P) hz w''
        simp only [Yields1, execOp, ho, Instr.build, Sem.run_bind, hz', Result.andThen, run_underlying hu, hpl, hplace, hparts hps]
        simp only [Array.toArray_toList] at hfill
        rw [hfill]
        simp [SV.den]
      · cases h
    · cases h
  · rename_i z ps m el hz hps hu
    split at h
    · rename_i hc
      split at h
      · rename_i n hn
        split at h
        · rename_i l hl
          simp only [Res.val.injEq] at h
          obtain ⟨rfl, rfl⟩ := h
          have hfill := fill_den (ε := ε) hok.ks (fun i => some (i * n, n)) ps _ l hc hl
          rw [consts_den] at hfill
          have hz' := fun w'' => run_zero (P := G.P) hz w''
          have hs := fun w'' => run_size (P := G.P) hn w''
          simp only [Yields1, execOp, ho, Instr.build, Sem.run_bind, hz', Result.andThen, run_underlying hu, hs, hparts hps]
          simp only [Array.toArray_toList] at hfill
          rw [hfill]
          simp [SV.den]
        · cases h
      · cases h
    · cases h
  · cases h
end

theorem genRes_val {s : St} {op : Op} {p : List BE} {v : SV} : genRes s op ≠ .val p v := by
  unfold genRes; repeat' split
  all_goals simp

/-- WHAT THE STEP SAYS OF A VALUE IS SO -/
theorem stepS_val {G : Ctx} {D : List Deferred} {s : St} {ε : List Value} {wx ws : World} {X : Nat → Prop} {a : Act} {w : World} {o : Oper} {p : List BE} {v : SV}
    (hok : Ok G D s ε wx ws X a w) (h : stepS G.P s o.op = .val p v) (hp : ∀ q ∈ p, q.den ε = true) (w' : World)
    (hl : ∀ t x i off cells, o.op = .load t x → s.ev x = some (.ptr i off) → findH s.heap i = some cells → HasBlk w' (nth ε i) (denL ε cells)) : Yields1 G.P a o (v.den ε) w' := by
  cases ho : o.op <;> rw [ho] at h
  case move x => exact y_move hok ho h w'
  case assign x => exact y_assign hok ho h w'
  case pick c x y => exact y_pick hok ho h w'
  case unOp u t x => exact y_unOp hok ho h hp w'
  case binOp op t x y u => exact y_binOp hok ho h hp w'
  case convert src dst x => exact y_convert hok ho h hp w'
  case makeFunc fn first cap => exact y_makeFunc hok ho h w'
  case extract x i => exact y_extract hok ho h w'
  case nilCheck x => exact y_nilCheck hok ho h hp w'
  case fieldAddr t x f => exact y_fieldAddr hok ho h hp w'
  case field t x f => exact y_field hok ho h w'
  case indexAddr t x i => exact y_indexAddr hok ho h hp w'
  case slice t x lo hi mx => exact y_slice hok ho h hp w'
  case load t x => exact y_load hok ho h w' (fun i off cells h1 h2 => hl t x i off cells ho h1 h2)
  case build t parts => exact y_build hok ho h w'
  case call c => exact y_call hok ho h w'
  case alloc t => simp only [stepS] at h; split at h <;> cases h
  case box t x => simp only [stepS] at h; split at h <;> (try split at h) <;> cases h
  case buildSlice t m parts => simp only [stepS] at h; repeat' (first | (cases h; done) | split at h)
  case store t x y => simp only [stepS] at h; split at h <;> (try split at h) <;> (try split at h) <;> first | cases h | exact absurd h genRes_val
  all_goals first | (simp only [stepS] at h; first | cases h | exact absurd h genRes_val)
end Go.Sx
