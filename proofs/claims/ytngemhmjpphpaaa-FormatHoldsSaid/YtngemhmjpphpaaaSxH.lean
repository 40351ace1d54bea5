/- Part H of a symbolic run of Go code by computation: its states, conditions and the proof that a condition that holds says what the function returns. No conditions of its own. -/
import Derived.Test.YtngemhmjpphpaaaSxG
set_option linter.unusedVariables false
set_option linter.unusedSimpArgs false
namespace Go.Sx
open Go.RowKit

section
variable {G : Ctx} {D : List Deferred} {s : St} {ε : List Value} {wx ws : World} {X : Nat → Prop} {a : Act} {w : World} {o : Oper} {p : List BE} {v : SV}

theorem run_info {P : Program} {t : TypeId} {i : TypeInfo} (h : P.info? t = some i) (w : World) : (typeInfo t).run P w = .ok i w := by
  simp [typeInfo, h]
theorem run_size {P : Program} {t : TypeId} {n : Nat} (h : sizeT P t = some n) (w : World) : (sizeOf t).run P w = .ok n w := by
  simp only [sizeT, Option.map_eq_some_iff] at h
  obtain ⟨i, hi, rfl⟩ := h
  simp [sizeOf, run_info hi]
theorem run_isAgg {P : Program} {t : TypeId} {b : Bool} (h : isAggT P t = some b) (w : World) : (isAgg t).run P w = .ok b w := by
  unfold isAggT at h
  cases hd : P.underlying t with
  | none => simp [hd] at h
  | some d => cases d <;> simp [hd] at h <;> subst h <;> simp [isAgg, run_underlying hd]

theorem y_convert (hok : Ok G D s ε wx ws X a w) {src dst : TypeId} {x : Operand} (ho : o.op = .convert src dst x) (h : stepS G.P s (.convert src dst x) = .val p v) (hp : ∀ q ∈ p, q.den ε = true) (w' : World) : Yields1 G.P a o (v.den ε) w' := by
  simp only [stepS] at h
  split at h
  · rename_i k0 e k' k hx hs hd
    have h1 := ev_den hok hx
    simp only [SV.den] at h1
    have hr : (convert src dst (.int k0 (e.den ε))).run G.P w' = .ok (.int k (k.wrap (e.den ε))) w' := by
      simp [convert, run_underlying hs, run_underlying hd, Conv.intToInt]
    split at h
    · simp only [Res.val.injEq] at h
      obtain ⟨rfl, rfl⟩ := h
      have hw := inR_wrap hp
      rw [hw] at hr
      simp [Yields1, execOp, ho, h1, hr, SV.den]
    · simp only [Res.val.injEq] at h
      obtain ⟨rfl, rfl⟩ := h
      simp [Yields1, execOp, ho, h1, hr, SV.den, IE.den]
  · simp only [genRes] at h
    split at h <;> cases h

theorem y_makeFunc (hok : Ok G D s ε wx ws X a w) {fn : Fn} {first captured : Array Operand} (ho : o.op = .makeFunc fn first captured) (h : stepS G.P s (.makeFunc fn first captured) = .val p v) (w' : World) : Yields1 G.P a o (v.den ε) w' := by
  cases fn with
  | func f =>
    simp only [stepS] at h
    split at h
    · rename_i hf
      split at h
      · rename_i vs hvs
        simp only [Res.val.injEq] at h
        obtain ⟨rfl, rfl⟩ := h
        have h1 := evs_den hok hvs
        have hf' : first = #[] := by simpa using hf
        have h2 : captured.map a.eval = (denL ε vs).toArray := by rw [← h1]; apply Array.ext'; simp
        subst hf'
        simp [Yields1, execOp, ho, h2, SV.den, Instr.makeFunc]
      · cases h
    · cases h
  | _ => simp [stepS] at h

theorem y_extract (hok : Ok G D s ε wx ws X a w) {x : Operand} {ix : Nat} (ho : o.op = .extract x ix) (h : stepS G.P s (.extract x ix) = .val p v) (w' : World) : Yields1 G.P a o (v.den ε) w' := by
  simp only [stepS] at h
  split at h
  · rename_i l hx
    have h1 := ev_den hok hx
    split at h
    · rename_i u hu
      simp only [Res.val.injEq] at h
      obtain ⟨rfl, rfl⟩ := h
      have h2 : (denL ε l)[ix]? = some (u.den ε) := by rw [denL_get, hu]; rfl
      simp [Yields1, execOp, ho, h1, SV.den, Instr.extract, h2]
    · cases h
  · cases h

theorem addO_zero (x : Option Addr) : addO x 0 = x := by cases x <;> simp [addO, Addr.add]
theorem add_add (x : Addr) (m n : Nat) : (x.add m).add n = x.add (m + n) := by
  unfold Addr.add
  by_cases hm : m = 0
  · simp [hm]
  · by_cases hn : n = 0
    · simp [hn, hm]
    · simp [hm, hn, Nat.add_assoc]
theorem addO_add (x : Option Addr) (m n : Nat) : addO (addO x m) n = addO x (m + n) := by
  cases x <;> simp [addO, add_add]

theorem pz_sound (hok : Ok G D s ε wx ws X a w) {i : Nat} {q : List BE} (h : pz s i = some q) (hq : ∀ b ∈ q, b.den ε = true) : ∃ ad, vaddr (nth ε i) = some ad := by
  unfold pz at h
  split at h
  · rename_i hf
    obtain ⟨l, hl⟩ := Option.isSome_iff_exists.1 hf
    obtain ⟨b, ty, hb, _⟩ := findH_facts hok.hp hl
    exact ⟨⟨b, 0, none⟩, by rw [hb]; rfl⟩
  · split at h
    · rename_i hk
      have hn : vnil (nth ε i) = false := by
        simp only [Option.some.injEq] at h
        split at h
        · rename_i hkn
          simpa [BE.den] using known_sound hok.path hkn
        · subst h
          have := hq _ (List.mem_cons_self ..)
          simpa [BE.den] using this
      simp only [isPS, Bool.or_eq_true] at hk
      rcases hk with hk | hk
      · obtain ⟨r, hr⟩ := nth_isK hok.ks hk
        rw [hr] at hn ⊢
        cases r with
        | none => simp [vnil] at hn
        | some r => exact ⟨r, rfl⟩
      · obtain ⟨r, n, c, hr⟩ := nth_isK hok.ks hk
        rw [hr] at hn ⊢
        cases r with
        | none => simp [vnil] at hn
        | some r => exact ⟨r, rfl⟩
    · cases h

theorem y_nilCheck (hok : Ok G D s ε wx ws X a w) {x : Operand} (ho : o.op = .nilCheck x) (h : stepS G.P s (.nilCheck x) = .val p v) (hp : ∀ q ∈ p, q.den ε = true) (w' : World) : Yields1 G.P a o (v.den ε) w' := by
  simp only [stepS] at h
  split at h
  · rename_i i hx
    have h1 := ev_den hok hx
    simp only [SV.den] at h1
    split at h
    · rename_i hk
      split at h
      · rename_i q hq
        simp only [Res.val.injEq] at h
        obtain ⟨rfl, rfl⟩ := h
        obtain ⟨r, hr⟩ := nth_isK hok.ks hk
        obtain ⟨ad, had⟩ := pz_sound hok hq hp
        rw [hr] at had
        cases had
        simp [Yields1, execOp, ho, h1, hr, SV.den, vaddr, addO_zero]
      · cases h
    · cases h
  · rename_i i off hx
    have h1 := ev_den hok hx
    split at h
    · rename_i q hq
      simp only [Res.val.injEq] at h
      obtain ⟨rfl, rfl⟩ := h
      obtain ⟨ad, had⟩ := pz_sound hok hq hp
      simp [Yields1, execOp, ho, h1, SV.den, had, addO]
    · cases h
  · rename_i i off e z o2 hx
    have h1 := ev_den hok hx
    split at h
    · rename_i q hq
      simp only [Res.val.injEq] at h
      obtain ⟨rfl, rfl⟩ := h
      obtain ⟨ad, had⟩ := pz_sound hok hq hp
      simp [Yields1, execOp, ho, h1, SV.den, had, addO]
    · cases h
  · rename_i f l hx
    have h1 := ev_den hok hx
    simp only [Res.val.injEq] at h
    obtain ⟨rfl, rfl⟩ := h
    simp [Yields1, execOp, ho, h1, SV.den]
  · cases h

theorem y_fieldAddr (hok : Ok G D s ε wx ws X a w) {t : TypeId} {x : Operand} {f : Nat} (ho : o.op = .fieldAddr t x f) (h : stepS G.P s (.fieldAddr t x f) = .val p v) (hp : ∀ q ∈ p, q.den ε = true) (w' : World) : Yields1 G.P a o (v.den ε) w' := by
  simp only [stepS] at h
  split at h
  · rename_i fields hu
    split at h
    · rename_i fd hfd
      split at h
      · rename_i m hm
        have hs := fun w'' => run_size (P := G.P) hm w''
        split at h
        · rename_i i off hx
          have h1 := ev_den hok hx
          split at h
          · rename_i q hq
            simp only [Res.val.injEq] at h
            obtain ⟨rfl, rfl⟩ := h
            obtain ⟨ad, had⟩ := pz_sound hok hq hp
            simp [Yields1, execOp, ho, h1, SV.den, had, addO, Instr.fieldAt, Instr.sureAddr, run_underlying hu, hfd, fieldPlace, hs, add_add]
          · cases h
        · rename_i i off e z o2 hx
          have h1 := ev_den hok hx
          split at h
          · rename_i q hq
            simp only [Res.val.injEq] at h
            obtain ⟨rfl, rfl⟩ := h
            obtain ⟨ad, had⟩ := pz_sound hok hq hp
            simp [Yields1, execOp, ho, h1, SV.den, had, addO, Instr.fieldAt, Instr.sureAddr, run_underlying hu, hfd, fieldPlace, hs, add_add, Nat.add_assoc]
          · cases h
        · cases h
      · cases h
    · cases h
  · cases h

theorem y_field (hok : Ok G D s ε wx ws X a w) {t : TypeId} {x : Operand} {f : Nat} (ho : o.op = .field t x f) (h : stepS G.P s (.field t x f) = .val p v) (w' : World) : Yields1 G.P a o (v.den ε) w' := by
  simp only [stepS] at h
  split at h
  · rename_i fields hu
    split at h
    · rename_i fd hfd
      split at h
      · rename_i l n hx hn
        have h1 := ev_den hok hx
        have hs := fun w'' => run_size (P := G.P) hn w''
        split at h
        · rename_i hag
          have hi := fun w'' => run_isAgg (P := G.P) hag w''
          split at h
          · rename_i hle
            simp only [Res.val.injEq] at h
            obtain ⟨rfl, rfl⟩ := h
            simp [Yields1, execOp, ho, h1, SV.den, Instr.field, run_underlying hu, hfd, asAgg, part, hi, hs, denL_take, denL_drop]
          · cases h
        · rename_i hag
          have hi := fun w'' => run_isAgg (P := G.P) hag w''
          split at h
          · rename_i u hu'
            simp only [Res.val.injEq] at h
            obtain ⟨rfl, rfl⟩ := h
            have h2 : (denL ε l)[fd.offset]? = some (u.den ε) := by rw [denL_get, hu']; rfl
            simp [Yields1, execOp, ho, h1, SV.den, Instr.field, run_underlying hu, hfd, asAgg, part, hi, hs, h2]
          · cases h
        · cases h
      · cases h
    · cases h
  · cases h

theorem litN_den (ε : List Value) {e : IE} {n : Nat} (h : litN e = some n) : e.den ε = (n : Int) := by
  cases e with
  | lit m => cases m <;> simp [litN] at h; subst h; rfl
  | _ => simp [litN] at h

theorem y_indexAddr (hok : Ok G D s ε wx ws X a w) {t : TypeId} {x ix : Operand} (ho : o.op = .indexAddr t x ix) (h : stepS G.P s (.indexAddr t x ix) = .val p v) (hp : ∀ q ∈ p, q.den ε = true) (w' : World) : Yields1 G.P a o (v.den ε) w' := by
  simp only [stepS] at h
  split at h
  · rename_i el i k e hu hx hix
    have h1 := ev_den hok hx
    have h2 := ev_den hok hix
    split at h
    · rename_i n q hn hq
      split at h
      · rename_i hsl
        simp only [Res.val.injEq] at h
        obtain ⟨rfl, rfl⟩ := h
        obtain ⟨ad, had⟩ := pz_sound hok hq (fun b hb => hp b (by simp [hb]))
        have b1 := hp (mkLe (.lit 0) e) (by simp)
        have b2 := hp (mkLt e (.len i)) (by simp)
        rw [mkLe_den] at b1
        rw [mkLt_den] at b2
        have b1' := of_decide_eq_true b1
        have b2' := of_decide_eq_true b2
        simp only [IE.den] at b1' b2'
        obtain ⟨r, m, c, hr⟩ := nth_slice hok.ks hsl
        rw [hr] at had b2'
        cases had
        simp only [vlen] at b2'
        have hs := fun w'' => run_size (P := G.P) hn w''
        simp only [SV.den] at h1 h2
        simp [Yields1, execOp, ho, h1, h2, SV.den, Instr.indexAt, asIntOf, hr, run_underlying hu, vaddr, addO, hs, b1', b2', Addr.add_zero']
      · cases h
    · cases h
  · rename_i el i lo m c k e hu hx hix
    have h1 := ev_den hok hx
    have h2 := ev_den hok hix
    split at h
    · rename_i n q hn hq
      have hs := fun w'' => run_size (P := G.P) hn w''
      split at h
      · rename_i j hj
        split at h
        · rename_i hlt
          simp only [Res.val.injEq] at h
          obtain ⟨rfl, rfl⟩ := h
          obtain ⟨ad, had⟩ := pz_sound hok hq hp
          have hj' := litN_den ε hj
          simp only [SV.den, had, addO, Option.map_some, hj'] at h1 h2
          have hlt' : j < m := by simpa using hlt
          simp [Yields1, execOp, ho, h1, h2, SV.den, Instr.indexAt, asIntOf, had, run_underlying hu, addO, hs, hlt', add_add]
        · cases h
      · simp only [Res.val.injEq] at h
        obtain ⟨rfl, rfl⟩ := h
        obtain ⟨ad, had⟩ := pz_sound hok hq (fun b hb => hp b (by simp [hb]))
        have b1 := hp (mkLe (.lit 0) e) (by simp)
        have b2 := hp (mkLt e (.lit m)) (by simp)
        rw [mkLe_den] at b1
        rw [mkLt_den] at b2
        have b1' := of_decide_eq_true b1
        have b2' := of_decide_eq_true b2
        simp only [IE.den] at b1' b2'
        simp only [SV.den, had, addO, Option.map_some] at h1 h2
        simp [Yields1, execOp, ho, h1, h2, SV.den, Instr.indexAt, asIntOf, had, run_underlying hu, addO, hs, b1', b2', add_add, Addr.add_zero']
    · cases h
  · rename_i m el i lo k e hu hx hix
    have h1 := ev_den hok hx
    have h2 := ev_den hok hix
    split at h
    · rename_i n q hn hq
      have hs := fun w'' => run_size (P := G.P) hn w''
      split at h
      · rename_i j hj
        split at h
        · rename_i hlt
          simp only [Res.val.injEq] at h
          obtain ⟨rfl, rfl⟩ := h
          obtain ⟨ad, had⟩ := pz_sound hok hq hp
          have hj' := litN_den ε hj
          simp only [SV.den, had, addO, Option.map_some, hj'] at h1 h2
          have hlt' : j < m := by simpa using hlt
          simp [Yields1, execOp, ho, h1, h2, SV.den, Instr.indexAt, Instr.sureAddr, asIntOf, had, run_underlying hu, addO, hs, hlt', add_add]
        · cases h
      · simp only [Res.val.injEq] at h
        obtain ⟨rfl, rfl⟩ := h
        obtain ⟨ad, had⟩ := pz_sound hok hq (fun b hb => hp b (by simp [hb]))
        have b1 := hp (mkLe (.lit 0) e) (by simp)
        have b2 := hp (mkLt e (.lit m)) (by simp)
        rw [mkLe_den] at b1
        rw [mkLt_den] at b2
        have b1' := of_decide_eq_true b1
        have b2' := of_decide_eq_true b2
        simp only [IE.den] at b1' b2'
        simp only [SV.den, had, addO, Option.map_some] at h1 h2
        simp [Yields1, execOp, ho, h1, h2, SV.den, Instr.indexAt, Instr.sureAddr, asIntOf, had, run_underlying hu, addO, hs, b1', b2', add_add, Addr.add_zero']
    · cases h
  · cases h

theorem y_slice (hok : Ok G D s ε wx ws X a w) {t : TypeId} {x : Operand} {lo hi mx : Option Operand} (ho : o.op = .slice t x lo hi mx) (h : stepS G.P s (.slice t x lo hi mx) = .val p v) (hp : ∀ q ∈ p, q.den ε = true) (w' : World) : Yields1 G.P a o (v.den ε) w' := by
  simp only [stepS] at h
  split at h
  · rename_i m el i off hu hx
    have h1 := ev_den hok hx
    split at h
    · rename_i n q hn hq
      simp only [Res.val.injEq] at h
      obtain ⟨rfl, rfl⟩ := h
      obtain ⟨ad, had⟩ := pz_sound hok hq hp
      have hs := fun w'' => run_size (P := G.P) hn w''
      simp only [SV.den, had, addO, Option.map_some] at h1
      simp [Yields1, execOp, ho, h1, SV.den, Instr.sliceAt, Instr.sureAddr, Instr.sliceBounds, had, run_underlying hu, addO, hs, Addr.add_zero']
    · cases h
  · simp only [genRes] at h
    split at h <;> cases h

theorem hasBlk_cell {w : World} {q : Value} {cells : List Value} (h : HasBlk w q cells) : ∃ b, q = .pointer (some ⟨b, 0, none⟩) ∧ ∀ j, w.cell? ⟨b, j, none⟩ = cells[j]? := by
  obtain ⟨b, ty, hb, hh⟩ := h
  exact ⟨b, hb, fun j => by simp [World.cell?, hh]⟩

theorem addr_add (b m n : Nat) : (Addr.mk b m none).add n = ⟨b, m + n, none⟩ := by
  unfold Addr.add; split <;> simp_all

theorem y_load (hok : Ok G D s ε wx ws X a w) {t : TypeId} {x : Operand} (ho : o.op = .load t x) (h : stepS G.P s (.load t x) = .val p v) (w' : World)
    (hl : ∀ i off cells, s.ev x = some (.ptr i off) → findH s.heap i = some cells → HasBlk w' (nth ε i) (denL ε cells)) : Yields1 G.P a o (v.den ε) w' := by
  simp only [stepS] at h
  split at h
  · rename_i i off n hx hn
    have h1 := ev_den hok hx
    have hs := fun w'' => run_size (P := G.P) hn w''
    split at h
    · rename_i cells hc
      obtain ⟨b, hb, hcell⟩ := hasBlk_cell (hl i off cells hx hc)
      simp only [SV.den, hb, vaddr, addO, Option.map_some, addr_add, Nat.zero_add] at h1
      split at h
      · rename_i hag
        have hi := fun w'' => run_isAgg (P := G.P) hag w''
        split at h
        · rename_i hle
          simp only [Res.val.injEq] at h
          obtain ⟨rfl, rfl⟩ := h
          have hle' : off + n ≤ cells.length := Nat.le_of_ble_eq_true hle
          have hlen : (denL ε (takeN n (dropN off cells))).length = n := by
            rw [denL_take, denL_drop]; simp [denL_length]; omega
          have hlc : (loadCells ⟨b, off, none⟩ n).run G.P w' = .ok (denL ε (takeN n (dropN off cells))).toArray w' := by
            have := run_loadCells_list (P := G.P) (w := w') ⟨b, off, none⟩ (denL ε (takeN n (dropN off cells))) (by
              intro j u hj
              rw [addr_add, hcell, denL_take, denL_drop] at *
              rw [List.getElem?_take] at hj
              split at hj
              · rw [List.getElem?_drop] at hj; exact hj
              · cases hj)
            rw [hlen] at this
            exact this
          simp [Yields1, execOp, ho, h1, SV.den, Instr.loadAt, Instr.sureAddr, loadVar, hi, hs, hlc]
        · cases h
      · rename_i hag
        have hi := fun w'' => run_isAgg (P := G.P) hag w''
        split at h
        · rename_i u hu'
          simp only [Res.val.injEq] at h
          obtain ⟨rfl, rfl⟩ := h
          have h2 : w'.cell? ⟨b, off, none⟩ = some (u.den ε) := by rw [hcell, denL_get, hu']; rfl
          simp [Yields1, execOp, ho, h1, SV.den, Instr.loadAt, Instr.sureAddr, loadVar, hi, load, Sem.run, h2]
        · cases h
      · cases h
    · split at h <;> (try split at h) <;> cases h
  · split at h <;> (try split at h) <;> cases h
  · cases h
theorem y_call (hok : Ok G D s ε wx ws X a w) {c : Call} (ho : o.op = .call c) (h : stepS G.P s (.call c) = .val p v) (w' : World) : Yields1 G.P a o (v.den ε) w' := by
  obtain ⟨callee, args, argTypes⟩ := c
  have hargs : ∀ {vs : List SV}, evs s args.toList = some vs → args.map a.eval = (denL ε vs).toArray := fun hv => by
    rw [← evs_den hok hv]; apply Array.ext'; simp
  cases callee with
  | value f =>
    simp only [stepS] at h
    split at h
    · split at h <;> cases h
    · simp only [genRes] at h
      split at h
      · split at h <;> cases h
      · cases h
    · cases h
  | invoke r m => simp [stepS] at h
  | builtin b =>
    cases b with
    | len =>
      simp only [stepS] at h
      split at h
      · rename_i i el hv hu
        split at h
        · rename_i hsl
          simp only [Res.val.injEq] at h
          obtain ⟨rfl, rfl⟩ := h
          obtain ⟨r, n, c, hr⟩ := nth_slice hok.ks hsl
          have h1 := hargs hv
          simp only [denL, SV.den, hr] at h1
          obtain ⟨t, ht, hu'⟩ := Option.bind_eq_some_iff.1 hu
          have htd : argTypes.getD 0 0 = t := by simp [Array.getD_eq_getD_getElem?, ht]
          simp [Yields1, execOp, ho, resolve, invoke, builtin, h1, Builtin.len_, goInt, SV.den, IE.den, hr, vlen, htd, run_underlying hu', ht]
        · cases h
      · rename_i i lo n c el hv hu
        simp only [Res.val.injEq] at h
        obtain ⟨rfl, rfl⟩ := h
        have h1 := hargs hv
        simp only [denL, SV.den] at h1
        obtain ⟨t, ht, hu'⟩ := Option.bind_eq_some_iff.1 hu
        have htd : argTypes.getD 0 0 = t := by simp [Array.getD_eq_getD_getElem?, ht]
        simp [Yields1, execOp, ho, resolve, invoke, builtin, h1, Builtin.len_, goInt, SV.den, IE.den, htd, run_underlying hu', ht]
      · simp only [genRes] at h
        split at h <;> cases h
    | cap =>
      simp only [stepS] at h
      split at h
      · rename_i i el hv hu
        split at h
        · rename_i hsl
          simp only [Res.val.injEq] at h
          obtain ⟨rfl, rfl⟩ := h
          obtain ⟨r, n, c, hr⟩ := nth_slice hok.ks hsl
          have h1 := hargs hv
          simp only [denL, SV.den, hr] at h1
          obtain ⟨t, ht, hu'⟩ := Option.bind_eq_some_iff.1 hu
          have htd : argTypes.getD 0 0 = t := by simp [Array.getD_eq_getD_getElem?, ht]
          simp [Yields1, execOp, ho, resolve, invoke, builtin, h1, Builtin.cap_, goInt, SV.den, IE.den, hr, vcap, htd, run_underlying hu', ht]
        · cases h
      · rename_i i lo n c el hv hu
        simp only [Res.val.injEq] at h
        obtain ⟨rfl, rfl⟩ := h
        have h1 := hargs hv
        simp only [denL, SV.den] at h1
        obtain ⟨t, ht, hu'⟩ := Option.bind_eq_some_iff.1 hu
        have htd : argTypes.getD 0 0 = t := by simp [Array.getD_eq_getD_getElem?, ht]
        simp [Yields1, execOp, ho, resolve, invoke, builtin, h1, Builtin.cap_, goInt, SV.den, IE.den, htd, run_underlying hu', ht]
      · simp only [genRes] at h
        split at h <;> cases h
    | min =>
      simp only [stepS] at h
      split at h
      · rename_i k x k' y hv
        simp only [Res.val.injEq] at h
        obtain ⟨rfl, rfl⟩ := h
        have h1 := hargs hv
        simp only [denL, SV.den] at h1
        simp [Yields1, execOp, ho, resolve, invoke, builtin, h1, Builtin.min_, Builtin.min2, SV.den, IE.den]
      · simp only [genRes] at h
        split at h <;> cases h
    | max =>
      simp only [stepS] at h
      split at h
      · rename_i k x k' y hv
        simp only [Res.val.injEq] at h
        obtain ⟨rfl, rfl⟩ := h
        have h1 := hargs hv
        simp only [denL, SV.den] at h1
        simp [Yields1, execOp, ho, resolve, invoke, builtin, h1, Builtin.max_, Builtin.max2, SV.den, IE.den]
      · simp only [genRes] at h
        split at h <;> cases h
    | _ => simp only [stepS, genRes] at h; split at h <;> cases h
end
end Go.Sx
