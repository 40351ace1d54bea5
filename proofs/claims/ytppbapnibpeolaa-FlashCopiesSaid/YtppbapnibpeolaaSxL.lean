/- Part I of a symbolic run of Go code by computation: its states, conditions and the proof that a condition that holds says what the function returns. No conditions of its own. -/
import Derived.Test.YtppbapnibpeolaaSxH
set_option linter.unusedVariables false
set_option linter.unusedSimpArgs false
namespace Go.Sx
open Go.RowKit

theorem run_mapM {P : Program} {α β : Type} (f : α → Sem β) (g : α → β) (w : World) : ∀ (l : List α), (∀ x ∈ l, (f x).run P w = .ok (g x) w) → (l.mapM f).run P w = .ok (l.map g) w
  | [], _ => by simp
  | x :: l, h => by
    have h1 := h x (by simp)
    have h2 := run_mapM f g w l (fun y hy => h y (by simp [hy]))
    simp [List.mapM_cons, h1, h2]
theorem run_amapM {P : Program} {α β : Type} (f : α → Sem β) (g : α → β) (w : World) (l : Array α) (h : ∀ x ∈ l.toList, (f x).run P w = .ok (g x) w) : (l.mapM f).run P w = .ok (l.map g) w := by
  rw [Array.mapM_eq_mapM_toList]
  simp [run_mapM f g w l.toList h]
  apply Array.ext'
  simp

theorem set_run (off : Nat) : ∀ (vals : List Value) (k : Nat) (cs : Array Value), off + k + vals.length ≤ cs.size →
    ((vals.zipIdx k).foldl (fun cs (p : Value × Nat) => cs.setIfInBounds (off + p.2) p.1) cs).toList = cs.toList.take (off + k) ++ vals ++ cs.toList.drop (off + k + vals.length)
  | [], k, cs, _ => by simp
  | v :: vals, k, cs, h => by
    simp only [List.length_cons] at h
    simp only [List.zipIdx_cons, List.foldl_cons]
    rw [set_run off vals (k + 1) _ (by simp; omega)]
    have e1 : (cs.setIfInBounds (off + k) v).toList = cs.toList.set (off + k) v := by simp
    rw [e1]
    have hlt : off + k < cs.toList.length := by simp; omega
    have e2 : (cs.toList.set (off + k) v).take (off + (k + 1)) = cs.toList.take (off + k) ++ [v] := by
      rw [show off + (k + 1) = (off + k) + 1 by omega, List.take_succ_eq_append_getElem (by simpa using hlt)]
      rw [List.take_set_of_le (by omega)]
      simp
    have e3 : (cs.toList.set (off + k) v).drop (off + (k + 1) + vals.length) = cs.toList.drop (off + k + (vals.length + 1)) := by
      rw [List.drop_set_of_lt (by omega)]
      congr 1
      omega
    rw [e2, e3]
    simp

theorem fillS_den (ε : List Value) (cells : List SV) (off : Nat) (vals : List SV) : denL ε (fillS cells off vals) = (denL ε cells).take off ++ denL ε vals ++ (denL ε cells).drop (off + vals.length) := by
  simp [fillS, denL_app, denL_take, denL_drop]

theorem fill_den {ks : List Base} {ε : List Value} (hf : Fits ks ε) (place : Nat → Option (Nat × Nat)) : ∀ (ps : List (Nat × SV)) (cells l : List SV), allCells ks ps = true → buildS place cells ps = some l →
    Instr.fill place (denL ε cells).toArray (ps.map fun p => (p.1, p.2.den ε)) = some (denL ε l).toArray
  | [], cells, l, _, h => by simp [buildS] at h; subst h; rfl
  | (i, v) :: ps, cells, l, ha, h => by
    simp only [allCells, Bool.and_eq_true] at ha
    simp only [buildS] at h
    cases hp : place i with
    | none => simp [hp] at h
    | some q =>
      obtain ⟨off, size⟩ := q
      simp only [hp] at h
      split at h
      · rename_i hc
        simp only [Bool.and_eq_true, beq_iff_eq] at hc
        obtain ⟨hc1, hc2⟩ := hc
        have hc2' : off + size ≤ cells.length := Nat.le_of_ble_eq_true hc2
        have hv := cellsS_den hf ha.1
        have hsz : (v.den ε).cells.size = size := by rw [hv]; simp [denL_length, hc1]
        have hfold : (v.den ε).cells.zipIdx.foldl (fun cs (c, j) => cs.setIfInBounds (off + j) c) (denL ε cells).toArray = (denL ε (fillS cells off (cellsS v))).toArray := by
          apply Array.ext'
          rw [hv]
          have := set_run off (denL ε (cellsS v)) 0 (denL ε cells).toArray (by simp [denL_length]; omega)
          rw [← Array.foldl_toList]
          simp only [Array.toList_zipIdx]
          rw [fillS_den]
          simpa [denL_length] using this
        simp only [List.map_cons, Instr.fill, hp]
        rw [if_neg (by simp [hsz, denL_length]; omega)]
        rw [hfold]
        exact fill_den hf place ps _ l ha.2 h
      · cases h

theorem consts_den (ε : List Value) (l : List Value) : denL ε (l.map ofConst) = l := by
  rw [denL_map, List.map_map]
  conv => rhs; rw [← List.map_id l]
  apply List.map_congr_left
  intro v _
  exact ofConst_den ε v

theorem run_zero {P : Program} {t : TypeId} {z : Value} (h : zeroT P t = some z) (w : World) : (zeroValue t).run P w = .ok z w := by
  obtain ⟨i, hi, hz⟩ := Option.bind_eq_some_iff.1 h
  simp [zeroValue, run_info hi, hz]

section
variable {G : Ctx} {D : List Deferred} {s : St} {ε : List Value} {wx ws : World} {X : Nat → Prop} {a : Act} {w : World} {o : Oper} {p : List BE} {v : SV}

theorem y_build (hok : Ok G D s ε wx ws X a w) {t : TypeId} {parts : Array (Nat × Operand)} (ho : o.op = .build t parts) (h : stepS G.P s (.build t parts) = .val p v) (w' : World) : Yields1 G.P a o (v.den ε) w' := by
  have hparts : ∀ {ps : List (Nat × SV)}, pairsS s parts.toList = some ps → (parts.map fun (i, x) => (i, a.eval x)).toList = ps.map fun p => (p.1, p.2.den ε) := fun hp => by
    rw [← pairs_den hok hp]; simp
  simp only [stepS] at h
  split at h
  · rename_i z ps fields hz hps hu
    split at h
    · rename_i hc
      simp only [Bool.and_eq_true] at hc
      split at h
      · rename_i l hl
        simp only [Res.val.injEq] at h
        obtain ⟨rfl, rfl⟩ := h
        have hpl : (fields.mapM fun f => do pure (f.offset, ← sizeOf f.type) : Sem (Array (Nat × Nat))).run G.P w' = .ok (fields.map fun f => (f.offset, (sizeT G.P f.type).getD 0)) w' := by
          refine run_amapM _ _ w' fields fun fd hfd => ?_
          have := (List.all_eq_true.1 hc.2) fd hfd
          obtain ⟨n, hn⟩ := Option.isSome_iff_exists.1 this
          simp [run_size hn, hn]
        have hfill := fill_den (ε := ε) hok.ks (fun i => (fields[i]?).bind fun (fd : Field) => (sizeT G.P fd.type).map fun n => (fd.offset, n)) ps _ l hc.1 hl
        rw [consts_den] at hfill
        have hplace : (fun (i : Nat) => (fields.map fun f => (f.offset, (sizeT G.P f.type).getD 0))[i]?) = (fun (i : Nat) => (fields[i]?).bind fun (fd : Field) => (sizeT G.P fd.type).map fun n => (fd.offset, n)) := by
          funext i
          rw [Array.getElem?_map]
          cases hi : fields[i]? with
          | none => rfl
          | some fd =>
            have := (List.all_eq_true.1 hc.2) fd (by
              have := Array.mem_of_getElem? hi
              simpa using this)
            obtain ⟨n, hn⟩ := Option.isSome_iff_exists.1 this
            simp [hn]
        have hz' := fun w'' => run_zero (P := G.P) hz w''
        simp only [Yields1, execOp, ho, Instr.build, Sem.run_bind, hz', Result.andThen, run_underlying hu, hpl, hplace, hparts hps]
        simp only [Array.toArray_toList] at hfill
        rw [hfill]
        simp [SV.den]
      · cases h
    · cases h
  · rename_i z ps m el hz hps hu
    split at h
    · rename_i hc
      split at h
      · rename_i n hn
        split at h
        · rename_i l hl
          simp only [Res.val.injEq] at h
          obtain ⟨rfl, rfl⟩ := h
          have hfill := fill_den (ε := ε) hok.ks (fun i => some (i * n, n)) ps _ l hc hl
          rw [consts_den] at hfill
          have hz' := fun w'' => run_zero (P := G.P) hz w''
          have hs := fun w'' => run_size (P := G.P) hn w''
          simp only [Yields1, execOp, ho, Instr.build, Sem.run_bind, hz', Result.andThen, run_underlying hu, hs, hparts hps]
          simp only [Array.toArray_toList] at hfill
          rw [hfill]
          simp [SV.den]
        · cases h
      · cases h
    · cases h
  · cases h
end

theorem genRes_val {s : St} {op : Op} {p : List BE} {v : SV} : genRes s op ≠ .val p v := by
  unfold genRes; repeat' split
  all_goals simp

/-- WHAT THE STEP SAYS OF A VALUE IS SO -/
theorem stepS_val {G : Ctx} {D : List Deferred} {s : St} {ε : List Value} {wx ws : World} {X : Nat → Prop} {a : Act} {w : World} {o : Oper} {p : List BE} {v : SV}
    (hok : Ok G D s ε wx ws X a w) (h : stepS G.P s o.op = .val p v) (hp : ∀ q ∈ p, q.den ε = true) (w' : World)
    (hl : ∀ t x i off cells, o.op = .load t x → s.ev x = some (.ptr i off) → findH s.heap i = some cells → HasBlk w' (nth ε i) (denL ε cells)) : Yields1 G.P a o (v.den ε) w' := by
  cases ho : o.op <;> rw [ho] at h
  case move x => exact y_move hok ho h w'
  case assign x => exact y_assign hok ho h w'
  case pick c x y => exact y_pick hok ho h w'
  case unOp u t x => exact y_unOp hok ho h hp w'
  case binOp op t x y u => exact y_binOp hok ho h hp w'
  case convert src dst x => exact y_convert hok ho h hp w'
  case makeFunc fn first cap => exact y_makeFunc hok ho h w'
  case extract x i => exact y_extract hok ho h w'
  case nilCheck x => exact y_nilCheck hok ho h hp w'
  case fieldAddr t x f => exact y_fieldAddr hok ho h hp w'
  case field t x f => exact y_field hok ho h w'
  case indexAddr t x i => exact y_indexAddr hok ho h hp w'
  case slice t x lo hi mx => exact y_slice hok ho h hp w'
  case load t x => exact y_load hok ho h w' (fun i off cells h1 h2 => hl t x i off cells ho h1 h2)
  case build t parts => exact y_build hok ho h w'
  case call c => exact y_call hok ho h w'
  case alloc t => simp only [stepS] at h; split at h <;> cases h
  case box t x => simp only [stepS] at h; split at h <;> (try split at h) <;> cases h
  case buildSlice t m parts => simp only [stepS] at h; repeat' (first | (cases h; done) | split at h)
  case store t x y => simp only [stepS] at h; split at h <;> (try split at h) <;> (try split at h) <;> first | cases h | exact absurd h genRes_val
  all_goals first | (simp only [stepS] at h; first | cases h | exact absurd h genRes_val)
end Go.Sx

/- Part J of a symbolic run of Go code by computation: its states, conditions and the proof that a condition that holds says what the function returns. No conditions of its own. -/
set_option linter.unusedVariables false
set_option linter.unusedSimpArgs false
namespace Go.Sx
open Go.RowKit

/-! ### the environment grows -/
theorem blt_true {i n : Nat} (h : Nat.blt i n = true) : i < n := Nat.le_of_ble_eq_true h
theorem blt_of {i n : Nat} (h : i < n) : Nat.blt i n = true := Nat.ble_eq_true_of_le h

theorem wfF_keys {n : Nat} : ∀ {fs : Facts}, wfF n fs = true → ∀ i ∈ keys fs, Nat.blt i n = true
  | [], _, i, h => by simp [keys] at h
  | (j, l) :: fs, h, i, hi => by
    simp only [wfF, Bool.and_eq_true] at h
    simp only [keys, List.mem_cons] at hi
    rcases hi with rfl | hi
    · exact h.1.1
    · exact wfF_keys h.2 i hi
theorem wfN_mem {n : Nat} : ∀ {l : List Nat}, wfN n l = true → ∀ i ∈ l, Nat.blt i n = true
  | [], _, i, h => by simp at h
  | j :: l, h, i, hi => by
    simp only [wfN, Bool.and_eq_true] at h
    simp only [List.mem_cons] at hi
    rcases hi with rfl | hi
    · exact h.1
    · exact wfN_mem h.2 i hi
theorem wfPath_mem {n : Nat} : ∀ {l : List (BE × Bool)}, wfPath n l = true → ∀ b r, (b, r) ∈ l → b.wf n = true
  | [], _, b, r, h => by simp at h
  | (c, q) :: l, h, b, r, hi => by
    simp only [wfPath, Bool.and_eq_true] at h
    simp only [List.mem_cons, Prod.mk.injEq] at hi
    rcases hi with ⟨rfl, rfl⟩ | hi
    · exact h.1
    · exact wfPath_mem h.2 b r hi
theorem wfT_get {n : Nat} : ∀ {l : List (Option SV)} {i : Nat} {v : SV}, wfT n l = true → getL l i = some v → v.wf n = true
  | [], i, v, _, h => by cases h
  | none :: l, 0, v, _, h => by cases h
  | none :: l, i + 1, v, hw, h => wfT_get (l := l) (i := i) (by simpa [wfT] using hw) h
  | some s :: l, 0, v, hw, h => by simp only [wfT, Bool.and_eq_true] at hw; simp only [getL, Option.some.injEq] at h; subst h; exact hw.1
  | some s :: l, i + 1, v, hw, h => wfT_get (l := l) (i := i) (by simp only [wfT, Bool.and_eq_true] at hw; exact hw.2) h

theorem factsAt_append {ε δ : List Value} {w : World} : ∀ {fs : Facts}, wfF ε.length fs = true → (FactsAt (ε ++ δ) w fs ↔ FactsAt ε w fs)
  | [], _ => Iff.rfl
  | (i, l) :: fs, h => by
    simp only [wfF, Bool.and_eq_true] at h
    simp only [FactsAt]
    rw [nth_append _ _ _ h.1.1, denL_append _ _ _ h.1.2, factsAt_append h.2]
theorem blkIn_append {ε δ : List Value} {t : List Nat} (h : wfN ε.length t = true) (b : Nat) : BlkIn (ε ++ δ) t b ↔ BlkIn ε t b := by
  constructor
  · rintro ⟨i, hi, hb⟩; rw [nth_append _ _ _ (wfN_mem h i hi)] at hb; exact ⟨i, hi, hb⟩
  · rintro ⟨i, hi, hb⟩; exact ⟨i, hi, by rw [nth_append _ _ _ (wfN_mem h i hi)]; exact hb⟩
theorem Fits.append : ∀ {bs bs' : List Base} {l l' : List Value}, Fits bs l → Fits bs' l' → Fits (bs ++ bs') (l ++ l')
  | [], _, [], _, _, h => h
  | _ :: bs, _, _ :: l, _, h, h' => ⟨h.1, Fits.append h.2 h'⟩
  | [], _, _ :: _, _, h, _ => h.elim
  | _ :: _, _, [], _, h, _ => h.elim

theorem Kept.blkIn_append {ε δ : List Value} {t : List Nat} (h : wfN ε.length t = true) {w w' : World} (hk : Kept (BlkIn ε t) w w') : Kept (BlkIn (ε ++ δ) t) w w' :=
  hk.mono fun k _ hb => (Sx.blkIn_append h k).2 hb

section
variable {G : Ctx} {D : List Deferred} {s : St} {ε : List Value} {wx ws : World} {X : Nat → Prop} {a : Act} {w : World} {o : Oper}

theorem wfS_parts (h : wfS s = true) : wfT s.ks.length s.tmps = true ∧ wfF s.ks.length s.heap = true ∧ wfN s.ks.length s.t0 = true ∧ wfPath s.ks.length s.path = true := by
  simp only [wfS, Bool.and_eq_true] at h
  exact ⟨h.1.1.1, h.1.1.2, h.1.2, h.2⟩

/-- more variables -/
theorem Ok.ext (hok : Ok G D s ε wx ws X a w) (hw : wfS s = true) {bs : List Base} {l : List Value} (hf : Fits bs l) : Ok G D { s with ks := s.ks ++ bs } (ε ++ l) wx ws X a w := by
  obtain ⟨h1, h2, h3, h4⟩ := wfS_parts hw
  have hlen : ε.length = s.ks.length := hok.ks.length
  rw [← hlen] at h1 h2 h3 h4
  have hn : ∀ i ∈ keys s.heap, nth (ε ++ l) i = nth ε i := fun i hi => nth_append _ _ _ (wfF_keys h2 i hi)
  exact {
    defers := hok.defers
    ltm := hok.ltm
    tm := fun i v hv => by rw [SV.den_append _ _ _ (wfT_get h1 hv)]; exact hok.tm i v hv
    ks := hok.ks.append hf
    hp := (factsAt_append h2).2 hok.hp
    nd := hok.nd
    dj := fun i j hi hj hne => by rw [hn i hi, hn j hj]; exact hok.dj i j hi hj hne
    base := hok.base
    kx := hok.kx.blkIn_append h3
    kws := hok.kws
    kwz := hok.kwz
    kX := fun hd i hi b hb => by rw [hn i hi] at hb; exact hok.kX hd i hi b hb
    kM := fun i hi b hb => by rw [hn i hi] at hb; exact hok.kM i hi b hb
    path := fun b r hb => by rw [BE.den_append _ _ _ (wfPath_mem h4 b r hb)]; exact hok.path b r hb }

theorem Ok.put (hok : Ok G D s ε wx ws X a w) (dst : Option Tmp) (v : SV) : Ok G D (s.put dst v) ε wx ws X (a.put dst (v.den ε)) w := by
  cases dst with
  | none => exact hok
  | some d => exact {
    defers := hok.defers
    ltm := by simp [Act.put, St.put, length_setL, hok.ltm]
    tm := fun i u hu => by
      simp only [St.put] at hu
      rcases getL_setL _ _ _ _ _ hu with ⟨h1, h2, h3⟩ | ⟨h1, h2⟩
      · subst h1
        cases h2
        have : i < a.tmps.size := by rw [hok.ltm]; exact h3
        simp [Act.put, this]
      · have := hok.tm i u h2
        simp only [Act.put]
        rw [Array.getElem?_setIfInBounds_ne (by omega)]
        exact this
    ks := hok.ks
    hp := hok.hp
    nd := hok.nd
    dj := hok.dj
    base := hok.base
    kx := hok.kx
    kws := hok.kws
    kwz := hok.kwz
    kX := hok.kX
    kM := hok.kM
    path := hok.path }

theorem Ok.addPath (hok : Ok G D s ε wx ws X a w) (p : List (BE × Bool)) (hp : ∀ b r, (b, r) ∈ p → b.den ε = r) : Ok G D { s with path := p } ε wx ws X a w :=
  { hok with path := hp }

theorem nilPath_ok {p : List BE} {l : List (BE × Bool)} (hl : ∀ b r, (b, r) ∈ l → b.den ε = r) (hp : ∀ q ∈ p, q.den ε = true) : ∀ b r, (b, r) ∈ nilPath p l → b.den ε = r := by
  induction p with
  | nil => exact hl
  | cons q p ih =>
    have ih' := ih (fun q hq => hp q (List.mem_cons_of_mem _ hq))
    have hq := hp q (List.mem_cons_self ..)
    cases q with
    | not c =>
      cases c with
      | nil i =>
        intro b r hb
        simp only [nilPath, List.mem_cons, Prod.mk.injEq] at hb
        rcases hb with ⟨rfl, rfl⟩ | hb
        · simpa [BE.den] using hq
        · exact ih' b r hb
      | _ => exact ih'
    | _ => exact ih'

theorem mkSVs_den : ∀ {bs : List Base} {l : List Value} (ε : List Value), Fits bs l → ∀ δ, denL (ε ++ l ++ δ) (mkSVs ε.length bs) = l
  | [], [], ε, _, δ => rfl
  | b :: bs, v :: l, ε, h, δ => by
    have hv : nth (ε ++ v :: l ++ δ) ε.length = v := by
      clear h
      induction ε with
      | nil => rfl
      | cons x ε ih => exact ih
    have h1 : (mkSV ε.length b).den (ε ++ v :: l ++ δ) = v := by
      have hb := h.1
      cases b with
      | int k => obtain ⟨n, rfl⟩ := hb; simp only [mkSV, SV.den, IE.den]; rw [hv]; rfl
      | bool => obtain ⟨n, rfl⟩ := hb; simp only [mkSV, SV.den, BE.den]; rw [hv]; rfl
      | _ => exact hv
    have h2 := mkSVs_den (bs := bs) (l := l) (ε ++ [v]) h.2 δ
    simp only [mkSVs, denL, h1]
    congr 1
    simpa using h2
  | [], _ :: _, _, h, _ => h.elim
  | _ :: _, [], _, h, _ => h.elim

/-- what a later state has to do with an earlier one -/
structure Nx (H : Option (List Nat)) (s s' : St) (ε ε' : List Value) (ws ws' : World) (X X' : Nat → Prop) : Prop where
  drawn : s'.drawn = s.drawn
  env : ∃ δ, ε' = ε ++ δ
  same : s.drawn = true → ws' = ws ∧ X' = X
  held : ∀ h, H = some h → ∀ i ∈ h, i < ε.length → findH s'.heap i = findH s.heap i

theorem Nx.trans {H : Option (List Nat)} {s s' s'' : St} {ε ε' ε'' : List Value} {ws ws' ws'' : World} {X X' X'' : Nat → Prop} (h : Nx H s s' ε ε' ws ws' X X') (k : Nx H s' s'' ε' ε'' ws' ws'' X' X'') : Nx H s s'' ε ε'' ws ws'' X X'' := by
  obtain ⟨δ, rfl⟩ := h.env
  obtain ⟨δ', rfl⟩ := k.env
  refine ⟨k.drawn.trans h.drawn, ⟨δ ++ δ', by simp⟩, fun hd => ?_, fun l hl i hi hlt => ?_⟩
  · obtain ⟨h1, h2⟩ := h.same hd
    obtain ⟨h3, h4⟩ := k.same (h.drawn.trans hd)
    exact ⟨h3.trans h1, h4.trans h2⟩
  · exact (k.held l hl i hi (by simp; omega)).trans (h.held l hl i hi hlt)

theorem Nx.refl (H : Option (List Nat)) (s : St) (ε : List Value) (ws : World) (X : Nat → Prop) : Nx H s s ε ε ws ws X X := ⟨rfl, ⟨[], by simp⟩, fun _ => ⟨rfl, rfl⟩, fun _ _ _ _ _ => rfl⟩

end
end Go.Sx

/- Part K of a symbolic run of Go code by computation: its states, conditions and the proof that a condition that holds says what the function returns. No conditions of its own. -/
set_option linter.unusedVariables false
set_option linter.unusedSimpArgs false
namespace Go.Sx
open Go.RowKit

section
variable {G : Ctx} {D : List Deferred} {s : St} {ε : List Value} {wx ws : World} {X : Nat → Prop} {a : Act} {w : World} {o : Oper}

/-! a new block -/
theorem HasBlk.alloc {w : World} {q : Value} {l : List Value} (h : HasBlk w q l) (ob : Obj) : HasBlk (w.alloc ob) q l := by
  obtain ⟨b, ty, hb, hh⟩ := h
  exact ⟨b, ty, hb, (Below.heap_alloc w ob b (Array.getElem?_eq_some_iff.1 hh).1).trans hh⟩
theorem FactsAt.alloc {w : World} (ob : Obj) : ∀ {fs : Facts}, FactsAt ε w fs → FactsAt ε (w.alloc ob) fs
  | [], h => h
  | (i, l) :: fs, h => ⟨h.1.alloc ob, FactsAt.alloc ob h.2⟩
theorem HasBlk.lt {w : World} {q : Value} {l : List Value} (h : HasBlk w q l) : ∃ b, blkOf q = some b ∧ b < w.heap.size := by
  obtain ⟨b, ty, hb, hh⟩ := h
  exact ⟨b, by rw [hb]; rfl, (Array.getElem?_eq_some_iff.1 hh).1⟩
theorem facts_lt {w : World} : ∀ {fs : Facts}, FactsAt ε w fs → ∀ i ∈ keys fs, ∃ b, blkOf (nth ε i) = some b ∧ b < w.heap.size
  | [], _, i, h => by simp [keys] at h
  | (j, l) :: fs, h, i, hi => by
    simp only [keys, List.mem_cons] at hi
    rcases hi with rfl | hi
    · exact h.1.lt
    · exact facts_lt h.2 i hi

theorem nth_last (ε : List Value) (v : Value) : nth (ε ++ [v]) ε.length = v := by
  induction ε with
  | nil => rfl
  | cons x ε ih => exact ih

theorem Ok.alloc (hok : Ok G D s ε wx ws X a w) (hw : wfS s = true) {cells : List SV} (hc : wfL s.ks.length cells = true) (ty : TypeId) :
    Ok G D { s with ks := s.ks ++ [Base.ptr], heap := (s.ks.length, cells) :: s.heap } (ε ++ [.pointer (some ⟨w.heap.size, 0, none⟩)]) wx ws X a (w.alloc (.cells (denL ε cells).toArray ty (0, 0))) := by
  have hlen : ε.length = s.ks.length := hok.ks.length
  have h := hok.ext hw (bs := [Base.ptr]) (l := [.pointer (some ⟨w.heap.size, 0, none⟩)]) ⟨⟨_, rfl⟩, trivial⟩
  have hlast : nth (ε ++ [.pointer (some ⟨w.heap.size, 0, none⟩)]) s.ks.length = .pointer (some ⟨w.heap.size, 0, none⟩) := by rw [← hlen]; exact nth_last _ _
  have hb : blkOf (nth (ε ++ [.pointer (some ⟨w.heap.size, 0, none⟩)]) s.ks.length) = some w.heap.size := by rw [hlast]; rfl
  have hnew : s.ks.length ∉ keys s.heap := fun hm => by
    have := blt_true (wfF_keys (wfS_parts hw).2.1 _ hm)
    omega
  have hold : ∀ i ∈ keys s.heap, ∃ b, blkOf (nth (ε ++ [.pointer (some ⟨w.heap.size, 0, none⟩)]) i) = some b ∧ b < w.heap.size := facts_lt h.hp
  exact {
    defers := h.defers.to fun _ b hb => Below.heap_alloc w _ b (by obtain ⟨o, ho, _⟩ := hb; exact (Array.getElem?_eq_some_iff.1 ho).1)
    ltm := h.ltm
    tm := h.tm
    ks := h.ks
    hp := by
      refine ⟨?_, h.hp.alloc _⟩
      rw [hlast]
      refine ⟨w.heap.size, ty, rfl, ?_⟩
      rw [denL_append _ _ _ (by rw [hlen]; exact hc)]
      exact heap_alloc_new w _
    nd := by simp only [keys, List.nodup_cons]; exact ⟨hnew, h.nd⟩
    dj := by
      intro i j hi hj hne
      simp only [keys, List.mem_cons] at hi hj
      rcases hi with rfl | hi <;> rcases hj with rfl | hj
      · exact absurd rfl hne
      · obtain ⟨b, hb', hlt⟩ := hold j hj
        rw [hb, hb']; intro e; cases e; omega
      · obtain ⟨b, hb', hlt⟩ := hold i hi
        rw [hb, hb']; intro e; cases e; omega
      · exact h.dj i j hi hj hne
    base := h.base.alloc _
    kx := h.kx.alloc _
    kws := fun hd => (h.kws hd).alloc _
    kwz := Nat.le_trans h.kwz (by simp)
    kX := by
      intro hd i hi b hb' hlt
      simp only [keys, List.mem_cons] at hi
      rcases hi with rfl | hi
      · rw [hb] at hb'; cases hb'; have := hok.kwz; omega
      · exact h.kX hd i hi b hb' hlt
    kM := by
      intro i hi b hb' hlt
      simp only [keys, List.mem_cons] at hi
      rcases hi with rfl | hi
      · rw [hb] at hb'; cases hb'; have := hok.base.size; omega
      · exact h.kM i hi b hb' hlt
    path := h.path }

/-! a store into a tracked block -/
theorem findH_setH_same : ∀ (fs : Facts) (i : Nat) (l : List SV), i ∈ keys fs → findH (setH fs i l) i = some l
  | [], _, _, h => by simp [keys] at h
  | (j, m) :: fs, i, l, h => by
    simp only [setH]
    split
    · rename_i hj; simp [findH, hj]
    · rename_i hj
      simp only [findH]
      rw [if_neg hj]
      simp only [keys, List.mem_cons] at h
      rcases h with h | h
      · subst h; exact absurd (Nat.beq_refl _) hj
      · exact findH_setH_same fs i l h

theorem addN_mem {i : Nat} {l : List Nat} : i ∈ addN i l := by
  unfold addN
  split
  · exact memN_iff.1 ‹_›
  · exact List.mem_cons_self ..
theorem addN_sub {i j : Nat} {l : List Nat} (h : j ∈ l) : j ∈ addN i l := by
  unfold addN
  split
  · exact h
  · exact List.mem_cons_of_mem _ h
theorem Ok.store (hok : Ok G D s ε wx ws X a w) {key : Nat} {cells cells' : List SV} (hk : findH s.heap key = some cells) {b : Nat} {ty : TypeId} (hb : nth ε key = .pointer (some ⟨b, 0, none⟩))
    (hh : w.heap[b]? = some (.cells (denL ε cells).toArray ty (0, 0))) : Ok G D { s with heap := setH s.heap key cells', t0 := addN key s.t0 } ε wx ws X a (w.setRow b (denL ε cells').toArray) := by
  have hmem := findH_mem hk
  have hbk : blkOf (nth ε key) = some b := by rw [hb]; rfl
  have hlt : b < w.heap.size := (Array.getElem?_eq_some_iff.1 hh).1
  have kept : ∀ {M : Nat → Prop} {w0 : World}, Kept M w0 w → (b < w0.heap.size → M b) → Kept M w0 (w.setRow b (denL ε cells').toArray) := fun {M w0} h hm =>
    ⟨h.os, h.tape, h.output, by rw [setRow_size]; exact h.size, fun k hk' hn => by
      rw [setRow_other _ _ _ _ (fun e => hn (by subst e; exact hm hk'))]; exact h.block k hk' hn⟩
  exact {
    defers := hok.defers.to fun _ k hk => setRow_other _ _ _ _ (fun e => by
      obtain ⟨o, ho, hi⟩ := hk
      rw [e, hh] at ho
      cases ho
      cases hi)
    ltm := hok.ltm
    tm := hok.tm
    ks := hok.ks
    hp := by
      rw [factsAt_iff (by rw [keys_setH]; exact hok.nd)]
      intro i l hl
      by_cases hi : i = key
      · subst hi
        have : findH (setH s.heap i cells') i = some cells' := findH_setH_same _ _ _ hmem
        rw [this] at hl
        cases hl
        exact ⟨b, ty, hb, setRow_heap w b _ _ ty _ hh⟩
      · rw [findH_setH _ _ _ _ (fun e => hi e.symm)] at hl
        obtain ⟨b', ty', hb', hh'⟩ := findH_facts hok.hp hl
        refine ⟨b', ty', hb', ?_⟩
        have hne : b' ≠ b := fun e => by
          subst e
          exact hok.dj i key (findH_mem hl) hmem hi (by rw [hbk, hb']; rfl)
        rw [setRow_other _ _ _ _ hne]
        exact hh'
    nd := by rw [keys_setH]; exact hok.nd
    dj := by rw [keys_setH]; exact hok.dj
    base := kept hok.base (hok.kM key hmem b hbk)
    kx := kept (hok.kx.mono fun k _ ⟨i, hi, hb⟩ => ⟨i, addN_sub hi, hb⟩) (fun _ => ⟨key, addN_mem, hbk⟩)
    kws := fun hd => kept (hok.kws hd) (hok.kX hd key hmem b hbk)
    kwz := by rw [setRow_size]; exact hok.kwz
    kX := by rw [keys_setH]; exact hok.kX
    kM := by rw [keys_setH]; exact hok.kM
    path := hok.path }

/-! behind a call or another operation of which only its law is known -/
theorem setAll_keys : ∀ (fs h : Facts), keys (setAll h fs) = keys h
  | [], h => rfl
  | (i, l) :: fs, h => by simp only [setAll]; rw [setAll_keys fs, keys_setH]
theorem findH_setAll : ∀ (fs h : Facts) (i : Nat) (l : List SV), findH (setAll h fs) i = some l → (i, l) ∈ fs ∨ (i ∉ keys fs ∧ findH h i = some l)
  | [], h, i, l, hf => .inr ⟨by simp [keys], hf⟩
  | (j, m) :: fs, h, i, l, hf => by
    simp only [setAll] at hf
    rcases findH_setAll fs _ i l hf with h1 | ⟨h1, h2⟩
    · exact .inl (List.mem_cons_of_mem _ h1)
    · by_cases hij : j = i
      · subst hij
        have hm := findH_mem h2
        rw [keys_setH] at hm
        rw [findH_setH_same _ _ _ hm] at h2
        cases h2
        exact .inl (List.mem_cons_self ..)
      · rw [findH_setH _ _ _ _ hij] at h2
        exact .inr ⟨by simp only [keys, List.mem_cons]; rintro (h | h); exact hij h.symm; exact h1 h, h2⟩
theorem findH_setAll_other : ∀ (fs h : Facts) (i : Nat), i ∉ keys fs → findH (setAll h fs) i = findH h i
  | [], h, i, _ => rfl
  | (j, m) :: fs, h, i, hn => by
    simp only [keys, List.mem_cons, not_or] at hn
    simp only [setAll]
    rw [findH_setAll_other fs _ i hn.2, findH_setH _ _ _ _ (fun e => hn.1 e.symm)]
theorem factsAt_mem {w : World} : ∀ {fs : Facts}, FactsAt ε w fs → ∀ i l, (i, l) ∈ fs → HasBlk w (nth ε i) (denL ε l)
  | [], _, i, l, h => by simp at h
  | (j, m) :: fs, h, i, l, hi => by
    simp only [List.mem_cons, Prod.mk.injEq] at hi
    rcases hi with ⟨rfl, rfl⟩ | hi
    · exact h.1
    · exact factsAt_mem h.2 i l hi
theorem without_mem {l : List Nat} : ∀ {k : List Nat} {i : Nat}, i ∈ k → i ∉ l → i ∈ without l k
  | [], i, h, _ => by simp at h
  | j :: k, i, h, hn => by
    simp only [without]
    split
    · rename_i hm
      simp only [List.mem_cons] at h
      rcases h with rfl | h
      · exact absurd (memN_iff.1 hm) hn
      · exact without_mem h hn
    · simp only [List.mem_cons] at h ⊢
      rcases h with rfl | h
      · exact .inl rfl
      · exact .inr (without_mem h hn)

theorem Ok.shown (hok : Ok G D s ε wx ws X a w) : Shown G ε s.t0 s.heap wx w := ⟨hok.kx, hok.base, hok.hp, hok.dj⟩

theorem Ok.after (hok : Ok G D s ε wx ws X a w) (hw : wfS s = true) {bs tbs : List Base} {tf : Facts} {l : List Value} (hf : Fits (bs ++ tbs) l) {w' : World} {Fp : Nat → Prop} (hk : Kept Fp w w')
    (htf : FactsAt (ε ++ l) w' tf)
    (hFp : ∀ b, Fp b → b < w.heap.size → FpOk G s.drawn X ε (without (keys tf) (keys s.heap)) w b) :
    Ok G D (afterS s bs tbs tf) (ε ++ l) w' (if s.drawn then ws else w') (if s.drawn then X else BlkIn ε []) a w' := by
  have h := hok.ext hw hf
  obtain ⟨h1, h2, h3, h4⟩ := wfS_parts hw
  have hlen : ε.length = s.ks.length := hok.ks.length
  rw [← hlen] at h2
  have hn : ∀ i ∈ keys s.heap, nth (ε ++ l) i = nth ε i := fun i hi => nth_append _ _ _ (wfF_keys h2 i hi)
  have hblk : ∀ i ∈ keys s.heap, ∀ b, blkOf (nth (ε ++ l) i) = some b → BlkIn (ε ++ l) (keys s.heap) b := fun i hi b hb => ⟨i, hi, hb⟩
  exact {
    defers := h.defers.to fun hr b hb => hk.block b (by obtain ⟨o, ho, _⟩ := hb; exact (Array.getElem?_eq_some_iff.1 ho).1) (fun hfp => (hFp b hfp (by obtain ⟨o, ho, _⟩ := hb; exact (Array.getElem?_eq_some_iff.1 ho).1)).2.2.2 hr hb)
    ltm := h.ltm
    tm := h.tm
    ks := h.ks
    hp := by
      show FactsAt (ε ++ l) w' (setAll s.heap tf)
      rw [factsAt_iff (by rw [setAll_keys]; exact hok.nd)]
      intro i c hc
      rcases findH_setAll _ _ _ _ hc with hm | ⟨hm, hc⟩
      · exact factsAt_mem htf i c hm
      · obtain ⟨b, ty, hb, hh⟩ := findH_facts h.hp hc
        have hlt := (Array.getElem?_eq_some_iff.1 hh).1
        refine ⟨b, ty, hb, ?_⟩
        rw [hk.block b hlt (fun hfp => (hFp b hfp hlt).2.2.1 ⟨i, without_mem (findH_mem hc) hm, by rw [← hn i (findH_mem hc), hb]; rfl⟩)]
        exact hh
    nd := by show (keys (setAll s.heap tf)).Nodup; rw [setAll_keys]; exact hok.nd
    dj := by show ∀ i j, i ∈ keys (setAll s.heap tf) → j ∈ keys (setAll s.heap tf) → _; rw [setAll_keys]; exact h.dj
    base := hok.base.then hk fun i hi hfp => (hFp i hfp (Nat.lt_of_lt_of_le hi hok.base.size)).2.1 hi
    kx := Kept.refl _ _
    kws := fun hd => by
      have hd' : s.drawn = true := hd
      rw [if_pos hd', if_pos hd']
      exact (hok.kws hd').then hk fun i hi hfp => (hFp i hfp (Nat.lt_of_lt_of_le hi hok.kwz)).1 hd'
    kwz := by
      split
      · exact Nat.le_trans hok.kwz hk.size
      · exact Nat.le_refl _
    kX := fun hd => by
      have hd' : s.drawn = true := hd
      show ∀ i ∈ keys (setAll s.heap tf), _
      rw [setAll_keys]
      intro i hi b hb hlt
      rw [if_pos hd'] at hlt ⊢
      exact h.kX hd' i hi b hb hlt
    kM := by show ∀ i ∈ keys (setAll s.heap tf), _; rw [setAll_keys]; exact h.kM
    path := h.path }
end
end Go.Sx

/- Part L of a symbolic run of Go code by computation: its states, conditions and the proof that a condition that holds says what the function returns. No conditions of its own. -/
set_option linter.unusedVariables false
set_option linter.unusedSimpArgs false
namespace Go.Sx
open Go.RowKit

section
variable {G : Ctx} {D : List Deferred} {s : St} {ε : List Value} {wx ws : World} {X : Nat → Prop} {a : Act} {w : World} {o : Oper}

/-! what the step says, the other kinds -/
theorem run_newRow {P : Program} (t : TypeId) (cells : Array Value) (w : World) : (newRow t cells).run P w = .ok ⟨w.heap.size, 0, none⟩ (w.alloc (.cells cells t (0, 0))) := by
  simp only [newRow, newObj, Sem.run_bind]
  rfl

theorem genRes_alloc {s : St} {op : Op} {c : List SV} {v : SV} : genRes s op ≠ .alloc c v := by
  unfold genRes; repeat' split
  all_goals simp

theorem stepS_alloc (hok : Ok G D s ε wx ws X a w) {cells : List SV} {v : SV} (h : stepS G.P s o.op = .alloc cells v) :
    ∃ ty, ∀ w', (execOp a.eval o).run G.P w' = .ok (.value (v.den (ε ++ [.pointer (some ⟨w'.heap.size, 0, none⟩)]))) (w'.alloc (.cells (denL ε cells).toArray ty (0, 0))) := by
  have hlen : ε.length = s.ks.length := hok.ks.length
  have hptr : ∀ q, (SV.ptr s.ks.length 0).den (ε ++ [.pointer (some ⟨q, 0, none⟩)]) = .pointer (some ⟨q, 0, none⟩) := fun q => by
    simp only [SV.den]; rw [← hlen, nth_last]; simp [vaddr, addO, Addr.add]
  cases ho : o.op <;> rw [ho] at h
  case alloc t =>
    simp only [stepS] at h
    split at h
    · rename_i z hz
      simp only [Res.alloc.injEq] at h
      obtain ⟨rfl, rfl⟩ := h
      refine ⟨t, fun w' => ?_⟩
      rw [hptr, consts_den]
      have hz' := fun w'' => run_zero (P := G.P) hz w''
      simp [execOp, ho, Instr.alloc, hz', newVar, run_newRow]
    · cases h
  case box t x =>
    simp only [stepS] at h
    split at h
    · rename_i u hu
      split at h
      · rename_i hc
        simp only [Res.alloc.injEq] at h
        obtain ⟨rfl, rfl⟩ := h
        refine ⟨t, fun w' => ?_⟩
        rw [hptr]
        have h1 := ev_den hok hu
        simp [execOp, ho, Instr.box, newVar, run_newRow, h1, cellsS_den hok.ks hc]
      · cases h
    · cases h
  case buildSlice t m parts =>
    have hparts : ∀ {ps : List (Nat × SV)}, pairsS s parts.toList = some ps → (parts.map fun (i, x) => (i, a.eval x)).toList = ps.map fun p => (p.1, p.2.den ε) := fun hp => by
      rw [← pairs_den hok hp]; simp
    simp only [stepS] at h
    split at h
    · rename_i el ps hu hps
      split at h
      · rename_i hcells
        split at h
        · rename_i n z hn hz
          split at h
          · rename_i hc
            simp only [Bool.and_eq_true, beq_iff_eq] at hc
            obtain ⟨hc1, hc2⟩ := hc
            split at h
            · rename_i l hl
              simp only [Res.alloc.injEq] at h
              obtain ⟨rfl, rfl⟩ := h
              refine ⟨el, fun w' => ?_⟩
              have hs := fun w'' => run_size (P := G.P) hn w''
              have hz' := fun w'' => run_zero (P := G.P) hz w''
              have hle : ¬ m * n > 2 ^ 24 := by have := Nat.le_of_ble_eq_true hc1; omega
              have hfill := fill_den (ε := ε) hok.ks (fun i => some (i * n, n)) ps _ l hcells hl
              have hzero : (denL ε ((List.range (m * n)).map fun j => ofConst (z.cells[j % n]!))).toArray = (Array.range (m * n)).map (z.cells[· % z.cells.size]!) := by
                apply Array.ext'
                rw [denL_map, List.map_map]
                simp only [Array.toList_map, Array.toList_range, hc2]
                apply List.map_congr_left
                intro j _
                exact ofConst_den ε _
              rw [hzero] at hfill
              have hv : (SV.slc s.ks.length 0 m m).den (ε ++ [.pointer (some ⟨w'.heap.size, 0, none⟩)]) = .slice (some ⟨w'.heap.size, 0, none⟩) m m := by
                simp only [SV.den]; rw [← hlen, nth_last]; simp [vaddr, addO, Addr.add]
              rw [hv]
              by_cases hpos : m * n = 0
              · have hr : ∀ (f g : Nat → Value), (Array.range (m * n)).map f = (Array.range (m * n)).map g := fun f g => by rw [hpos]; simp
                simp only [execOp, ho, Instr.buildSlice, Sem.run_bind, run_underlying hu, Result.andThen, hs, if_neg hle, if_pos hpos, hz', hparts hps, Sem.run_pure]
                rw [hr _ (z.cells[· % z.cells.size]!), hfill]
                simp [run_newRow]
              · simp only [execOp, ho, Instr.buildSlice, Sem.run_bind, run_underlying hu, Result.andThen, hs, if_neg hle, if_neg hpos, hz', hparts hps, Sem.run_pure]
                rw [hfill]
                simp [run_newRow]
            · cases h
          · cases h
        · cases h
      · cases h
    · cases h
  case load t x => simp only [stepS] at h; repeat' (first | (cases h; done) | split at h)
  case build t p => simp only [stepS] at h; repeat' (first | (cases h; done) | split at h)
  case unOp u t x => cases u <;> (simp only [stepS] at h; repeat' (first | (cases h; done) | (exact absurd h genRes_alloc) | split at h))
  case makeFunc f x y => cases f <;> (simp only [stepS] at h; repeat' (first | (cases h; done) | (exact absurd h genRes_alloc) | split at h))
  case call c =>
    obtain ⟨callee, cargs, argTypes⟩ := c
    cases callee with
    | builtin b => cases b <;> (simp only [stepS] at h; repeat' (first | (cases h; done) | (exact absurd h genRes_alloc) | split at h))
    | _ => simp only [stepS] at h; repeat' (first | (cases h; done) | (exact absurd h genRes_alloc) | split at h)
  all_goals (simp only [stepS] at h; repeat' (first | (cases h; done) | (exact absurd h genRes_alloc) | split at h))

theorem genRes_store {s : St} {op : Op} {k n : Nat} {c : List SV} : genRes s op ≠ .store k n c := by
  unfold genRes; repeat' split
  all_goals simp

theorem stepS_store (hok : Ok G D s ε wx ws X a w) {key off : Nat} {vs : List SV} (h : stepS G.P s o.op = .store key off vs) :
    ∃ cells b ty, findH s.heap key = some cells ∧ nth ε key = .pointer (some ⟨b, 0, none⟩) ∧ w.heap[b]? = some (.cells (denL ε cells).toArray ty (0, 0)) ∧
      (execOp a.eval o).run G.P w = .ok .skip (w.setRow b (denL ε (fillS cells off vs)).toArray) := by
  cases ho : o.op <;> rw [ho] at h
  case store t x y =>
    simp only [stepS] at h
    split at h
    · rename_i i off' v n hx hy hn
      split at h
      · rename_i cells hc
        split at h
        · rename_i hcond
          simp only [Bool.and_eq_true, beq_iff_eq] at hcond
          obtain ⟨⟨h1, h2⟩, h3⟩ := hcond
          simp only [Res.store.injEq] at h
          obtain ⟨rfl, rfl, rfl⟩ := h
          obtain ⟨b, ty, hb, hh⟩ := findH_facts hok.hp hc
          refine ⟨cells, b, ty, hc, hb, hh, ?_⟩
          have e1 := ev_den hok hx
          have e2 := ev_den hok hy
          simp only [SV.den, hb, vaddr, addO, Option.map_some, addr_add, Nat.zero_add] at e1
          have hs := fun w'' => run_size (P := G.P) hn w''
          have hcs := cellsS_den hok.ks h3
          have h2' : off' + n ≤ cells.length := Nat.le_of_ble_eq_true h2
          have hst := run_storeCells_at G.P b off' ty (denL ε (cellsS v)) 0 (denL ε cells).toArray w hh (by simp [denL_length]; omega) (cellsS_one hok.ks h3)
          rw [fillS_den]
          simp only [Nat.add_zero, denL_length] at hst
          simp [execOp, ho, Instr.storeAt, Instr.sureAddr, storeVar, e1, e2, hs, hcs, denL_length, h1, hst]
        · cases h
      · exact absurd h genRes_store
    · exact absurd h genRes_store
    · cases h
  case load t x => simp only [stepS] at h; repeat' (first | (cases h; done) | split at h)
  case build t p => simp only [stepS] at h; repeat' (first | (cases h; done) | split at h)
  case buildSlice t m p => simp only [stepS] at h; repeat' (first | (cases h; done) | split at h)
  case unOp u t x => cases u <;> (simp only [stepS] at h; repeat' (first | (cases h; done) | (exact absurd h genRes_store) | split at h))
  case makeFunc f x y => cases f <;> (simp only [stepS] at h; repeat' (first | (cases h; done) | (exact absurd h genRes_store) | split at h))
  case call c =>
    obtain ⟨callee, cargs, argTypes⟩ := c
    cases callee with
    | builtin b => cases b <;> (simp only [stepS] at h; repeat' (first | (cases h; done) | (exact absurd h genRes_store) | split at h))
    | _ => simp only [stepS] at h; repeat' (first | (cases h; done) | (exact absurd h genRes_store) | split at h)
  all_goals (simp only [stepS] at h; repeat' (first | (cases h; done) | (exact absurd h genRes_store) | split at h))

theorem genRes_call {s : St} {op : Op} {k : Nat} {c : List SV} : genRes s op ≠ .call k c := by
  unfold genRes; repeat' split
  all_goals simp

theorem stepS_call (hok : Ok G D s ε wx ws X a w) {f : Nat} {args : List SV} (h : stepS G.P s o.op = .call f args) :
    ∀ w', (execOp a.eval o).run G.P w' = .ok (.enter f (denL ε args).toArray) w' := by
  cases ho : o.op <;> rw [ho] at h
  case call c =>
    obtain ⟨callee, cargs, argTypes⟩ := c
    cases callee with
    | value fo =>
      simp only [stepS] at h
      split at h
      · rename_i g caps vs hf hv
        split at h
        · rename_i hg
          simp only [Res.call.injEq] at h
          obtain ⟨rfl, rfl⟩ := h
          intro w'
          have e1 := ev_den hok hf
          have hargs : cargs.map a.eval = (denL ε vs).toArray := by rw [← evs_den hok hv]; apply Array.ext'; simp
          unfold goFunc at hg
          split at hg
          · rename_i fn hfn
            simp only [Bool.and_eq_true, Bool.not_eq_true', beq_eq_false_iff_ne, ne_eq] at hg
            have hbody : fn.body.isNone = false := by cases hb : fn.body <;> simp [hb] at hg ⊢
            have hname : (fn.name == "runtime.NumGoroutine") = false := by simpa using hg.2
            have hbody' : ¬ fn.body = none := fun e => by simp [e] at hbody
            have hname' : ¬ fn.name = "runtime.NumGoroutine" := fun e => by simp [e] at hname
            simp [execOp, ho, resolve, Deferred.ofValue, e1, SV.den, invoke, callFunc, hfn, hname', hbody', hargs, denL_app]
          · cases hg
        · cases h
      · exact absurd h genRes_call
      · cases h
    | invoke r m => simp [stepS] at h
    | builtin b => cases b <;> (simp only [stepS] at h; repeat' (first | (cases h; done) | (exact absurd h genRes_call) | split at h))
  case load t x => simp only [stepS] at h; repeat' (first | (cases h; done) | split at h)
  case build t p => simp only [stepS] at h; repeat' (first | (cases h; done) | split at h)
  case buildSlice t m p => simp only [stepS] at h; repeat' (first | (cases h; done) | split at h)
  case unOp u t x => cases u <;> (simp only [stepS] at h; repeat' (first | (cases h; done) | (exact absurd h genRes_call) | split at h))
  case makeFunc f x y => cases f <;> (simp only [stepS] at h; repeat' (first | (cases h; done) | (exact absurd h genRes_call) | split at h))
  all_goals (simp only [stepS] at h; repeat' (first | (cases h; done) | (exact absurd h genRes_call) | split at h))

theorem genRes_load {s : St} {op : Op} {k : SV} {b : List Base} {c : SV} : genRes s op ≠ .load k b c := by
  unfold genRes; repeat' split
  all_goals simp

/-- a load whose address is not in a tracked block -/
theorem stepS_load (hok : Ok G D s ε wx ws X a w) {u : SV} {bs : List Base} {v : SV} (h : stepS G.P s o.op = .load u bs v) {l : List Value} (hf : Fits bs l) {ad : Addr} (had : u.den ε = .pointer (some ad)) (w' : World)
    (hc : ∀ j x, l[j]? = some x → w'.cell? (ad.add j) = some x) : (execOp a.eval o).run G.P w' = .ok (.value (v.den (ε ++ l))) w' := by
  have hlen : ε.length = s.ks.length := hok.ks.length
  have key : ∀ (t : TypeId) (x : Operand), o.op = .load t x → s.ev x = some u → freshTy G.P s.ks.length t = some (bs, v) → shapeOk G.P t = true → (execOp a.eval o).run G.P w' = .ok (.value (v.den (ε ++ l))) w' := by
    intro t x ho hx hfr hsh
    have e1 := ev_den hok hx
    rw [had] at e1
    unfold shapeOk at hsh
    unfold freshTy at hfr
    unfold zeroT at hsh
    split at hsh
    · rename_i cs n hag hz hn
      simp only [beq_iff_eq] at hsh
      rw [hz] at hfr
      simp only [Option.some.injEq, Prod.mk.injEq] at hfr
      obtain ⟨rfl, rfl⟩ := hfr
      have hi := fun w'' => run_isAgg (P := G.P) hag w''
      have hs := fun w'' => run_size (P := G.P) hn w''
      have hl : l.length = n := by rw [hf.length]; simp [hsh]
      have hlc : (loadCells ad n).run G.P w' = .ok l.toArray w' := by
        have := run_loadCells_list (P := G.P) (w := w') ad l hc
        rw [hl] at this
        exact this
      have hv := mkSVs_den ε hf []
      rw [hlen, List.append_nil] at hv
      simp [execOp, ho, Instr.loadAt, Instr.sureAddr, e1, loadVar, hi, hs, hlc, SV.den, hv]
    · rename_i z n hag hz hn
      rw [hz] at hfr
      have hi := fun w'' => run_isAgg (P := G.P) hag w''
      have hfr' : some ([baseOf z], mkSV s.ks.length (baseOf z)) = some (bs, v) := by
        cases z <;> first | exact hfr | simp [Value.oneCell'] at hsh
      simp only [Option.some.injEq, Prod.mk.injEq] at hfr'
      obtain ⟨rfl, rfl⟩ := hfr'
      match l, hf with
      | [x], hf =>
        have hx' := hc 0 x rfl
        rw [show ad.add 0 = ad from by simp [Addr.add]] at hx'
        have hv := mkSVs_den ε (bs := [baseOf z]) (l := [x]) hf []
        rw [hlen, List.append_nil] at hv
        simp only [mkSVs, denL, List.cons.injEq, and_true] at hv
        simp [execOp, ho, Instr.loadAt, Instr.sureAddr, e1, loadVar, hi, load, Sem.run, hx', hv]
      | [], hf => exact hf.elim
      | _ :: _ :: _, hf => exact hf.2.elim
    · cases hsh
  cases ho : o.op <;> rw [ho] at h
  case load t x =>
    simp only [stepS] at h
    split at h
    · rename_i i off n hx hn
      split at h
      · rename_i cells hcells
        exfalso
        repeat' (first | (cases h; done) | split at h)
      · split at h
        · rename_i bs' v' hfr
          split at h
          · rename_i hsh
            simp only [Res.load.injEq] at h
            obtain ⟨rfl, rfl, rfl⟩ := h
            exact key t x ho hx hfr hsh
          · cases h
        · cases h
    · rename_i i oo e z o2 n hx hn
      split at h
      · rename_i bs' v' hfr
        split at h
        · rename_i hsh
          simp only [Res.load.injEq] at h
          obtain ⟨rfl, rfl, rfl⟩ := h
          exact key t x ho hx hfr hsh
        · cases h
      · cases h
    · cases h
  case build t p => simp only [stepS] at h; repeat' (first | (cases h; done) | split at h)
  case buildSlice t m p => simp only [stepS] at h; repeat' (first | (cases h; done) | split at h)
  case unOp u t x => cases u <;> (simp only [stepS] at h; repeat' (first | (cases h; done) | (exact absurd h genRes_load) | split at h))
  case makeFunc f x y => cases f <;> (simp only [stepS] at h; repeat' (first | (cases h; done) | (exact absurd h genRes_load) | split at h))
  case call c =>
    obtain ⟨callee, cargs, argTypes⟩ := c
    cases callee with
    | builtin b => cases b <;> (simp only [stepS] at h; repeat' (first | (cases h; done) | (exact absurd h genRes_load) | split at h))
    | _ => simp only [stepS] at h; repeat' (first | (cases h; done) | (exact absurd h genRes_load) | split at h)
  all_goals (simp only [stepS] at h; repeat' (first | (cases h; done) | (exact absurd h genRes_load) | split at h))
end
end Go.Sx
