/- Part G of a symbolic run of Go code by computation: its states, conditions and the proof that a condition that holds says what the function returns. No conditions of its own. -/
import Derived.Test.YtngemhmjpphpaaaSxF
set_option linter.unusedVariables false
set_option linter.unusedSimpArgs false
namespace Go.Sx
open Go.RowKit

section
variable {G : Ctx} {D : List Deferred} {s : St} {ε : List Value} {wx ws : World} {X : Nat → Prop} {a : Act} {w : World} {o : Oper} {p : List BE} {v : SV}

/-- the operation yields v in w' -/
def Yields1 (P : Program) (a : Act) (o : Oper) (v : Value) (w' : World) : Prop := (execOp a.eval o).run P w' = .ok (.value v) w'

theorem y_move (hok : Ok G D s ε wx ws X a w) {x : Operand} (ho : o.op = .move x) (h : stepS G.P s (.move x) = .val p v) (w' : World) : Yields1 G.P a o (v.den ε) w' := by
  simp only [stepS] at h
  split at h
  · rename_i u hu
    cases h
    simp [Yields1, execOp, ho, ev_den hok hu]
  · cases h
theorem y_assign (hok : Ok G D s ε wx ws X a w) {x : Operand} (ho : o.op = .assign x) (h : stepS G.P s (.assign x) = .val p v) (w' : World) : Yields1 G.P a o (v.den ε) w' := by
  simp only [stepS] at h
  split at h
  · rename_i u hu
    cases h
    simp [Yields1, execOp, ho, ev_den hok hu]
  · cases h
theorem y_pick (hok : Ok G D s ε wx ws X a w) {c x y : Operand} (ho : o.op = .pick c x y) (h : stepS G.P s (.pick c x y) = .val p v) (w' : World) : Yields1 G.P a o (v.den ε) w' := by
  simp only [stepS] at h
  split at h
  · rename_i b hb
    have hc := ev_den hok hb
    split at h
    · rename_i hk
      have hk' : b.den ε = true := known_sound hok.path hk
      split at h
      · rename_i u hu
        cases h
        simp [Yields1, execOp, ho, hc, SV.den, hk', asBool, ev_den hok hu]
      · cases h
    · rename_i hk
      have hk' : b.den ε = false := known_sound hok.path hk
      split at h
      · rename_i u hu
        cases h
        simp [Yields1, execOp, ho, hc, SV.den, hk', asBool, ev_den hok hu]
      · cases h
    · cases h
  · cases h
theorem y_unOp (hok : Ok G D s ε wx ws X a w) {u : UnOp} {t : TypeId} {x : Operand} (ho : o.op = .unOp u t x) (h : stepS G.P s (.unOp u t x) = .val p v) (hp : ∀ q ∈ p, q.den ε = true) (w' : World) : Yields1 G.P a o (v.den ε) w' := by
  cases u with
  | not =>
    simp only [stepS] at h
    split at h
    · rename_i b hb
      cases h
      simp [Yields1, execOp, ho, ev_den hok hb, SV.den, Op.unary, mkNot_den]
    · cases h
  | neg =>
    simp only [stepS] at h
    split at h
    · rename_i k e he
      simp only [Res.val.injEq] at h
      obtain ⟨rfl, rfl⟩ := h
      have hw := inR_wrap hp
      rw [mkSub_den] at hw
      have e0 : (IE.lit 0).den ε - e.den ε = 0 - e.den ε := rfl
      simp [Yields1, execOp, ho, ev_den hok he, SV.den, Op.unary, Op.intArith, mkSub_den, e0] at hw ⊢
      simpa [IE.den] using hw
    · cases h
  | xor => simp [stepS, genRes] at h; split at h <;> cases h
  | plus => simp [stepS, genRes] at h; split at h <;> cases h

theorem cmp_den {op : BinOp} {x y : IE} {b : BE} (h : cmpRes op x y = some b) (t : TypeId) (k : IntKind) : binOp op t (.int k (x.den ε)) (.int k (y.den ε)) = pure (.bool (b.den ε)) := by
  cases op <;> simp only [cmpRes, Option.some.injEq, reduceCtorEq] at h
  all_goals subst h
  all_goals simp [binOp, Op.intCmp, mkEq_den, mkNot_den, mkLt_den, mkLe_den, BEq.beq, bne]

theorem eqGuard_int (op : BinOp) (t : TypeId) (x y : Operand) (k : IntKind) (n : Int) (u : Value) : eqGuard op t x y (.int k n) u = pure () := eqGuard_at_int ..
theorem eqGuard_bool (op : BinOp) (t : TypeId) (x y : Operand) (b : Bool) (u : Value) : eqGuard op t x y (.bool b) u = pure () := eqGuard_at_bool ..

theorem bits_den (op : BinOp) (k : IntKind) (x y : Int) (h : op = .and ∨ op = .or ∨ op = .xor ∨ op = .andNot) : Op.intBits op k x y = pure (.int k (bitv op k x y)) := by
  rcases h with rfl | rfl | rfl | rfl <;> rfl

theorem eq_ptr {P : Program} (d : Nat) {t e : TypeId} (r : Option Addr) (hu : P.underlying t = some (.pointer e)) (w'' : World) : (Op.equalIn (d + 1) t (.pointer r) (.pointer none)).run P w'' = .ok r.isNone w'' := by
  cases r <;> simp [Op.equalIn, run_underlying hu]
theorem eq_slice {P : Program} (d : Nat) {t e : TypeId} (r : Option Addr) (n c n' c' : Nat) (hu : P.underlying t = some (.slice e)) (w'' : World) : (Op.equalIn (d + 1) t (.slice r n c) (.slice none n' c')).run P w'' = .ok r.isNone w'' := by
  cases r <;> simp [Op.equalIn, run_underlying hu]
theorem eq_map {P : Program} (d : Nat) {t k e : TypeId} (r : Option Nat) (hu : P.underlying t = some (.map k e)) (w'' : World) : (Op.equalIn (d + 1) t (.map r) (.map none)).run P w'' = .ok r.isNone w'' := by
  cases r <;> simp [Op.equalIn, run_underlying hu]
theorem eq_func {P : Program} (d : Nat) {t : TypeId} {ps rs : Array TypeId} {b : Bool} (f : Fn) (x y : Array Value) (hu : P.underlying t = some (.func ps rs b)) (w'' : World) : (Op.equalIn (d + 1) t (.func f x y) .nilFunc).run P w'' = .ok false w'' := by
  simp [Op.equalIn, run_underlying hu]
theorem eq_nilFunc {P : Program} (d : Nat) {t : TypeId} {ps rs : Array TypeId} {b : Bool} (hu : P.underlying t = some (.func ps rs b)) (w'' : World) : (Op.equalIn (d + 1) t .nilFunc .nilFunc).run P w'' = .ok true w'' := by
  simp [Op.equalIn, run_underlying hu]

theorem y_binOp (hok : Ok G D s ε wx ws X a w) {op : BinOp} {t u : TypeId} {x y : Operand} (ho : o.op = .binOp op t x y u) (h : stepS G.P s (.binOp op t x y u) = .val p v) (hp : ∀ q ∈ p, q.den ε = true) (w' : World) : Yields1 G.P a o (v.den ε) w' := by
  simp only [stepS] at h
  split at h
  · rename_i k e k' e' hx hy
    have h1 := ev_den hok hx
    have h2 := ev_den hok hy
    simp only [SV.den] at h1 h2
    have shl : ∀ q : SV, mkLe (.lit 0) e' ∈ p → q = .int k (.shl k e e') → op = .shl → q.den ε = v.den ε → Yields1 G.P a o (v.den ε) w' := by
      intro q hm hq hop hv
      subst hop
      have hb := hp _ hm
      rw [mkLe_den] at hb
      have hb' : ¬ e'.den ε < 0 := by have := of_decide_eq_true hb; simp only [IE.den] at this; omega
      rw [← hv, hq]
      simp [Yields1, execOp, ho, h1, h2, binOp, Op.shift, SV.den, IE.den, hb', eqGuard_int]
    have shr : ∀ q : SV, mkLe (.lit 0) e' ∈ p → q = .int k (.shr k e e') → op = .shr → q.den ε = v.den ε → Yields1 G.P a o (v.den ε) w' := by
      intro q hm hq hop hv
      subst hop
      have hb := hp _ hm
      rw [mkLe_den] at hb
      have hb' : ¬ e'.den ε < 0 := by have := of_decide_eq_true hb; simp only [IE.den] at this; omega
      rw [← hv, hq]
      simp [Yields1, execOp, ho, h1, h2, binOp, Op.shift, SV.den, IE.den, hb', eqGuard_int]
    split at h
    · rename_i hk
      subst hk
      cases op with
      | add =>
        simp only at h
        split at h
        · simp only [Res.val.injEq] at h
          obtain ⟨rfl, rfl⟩ := h
          have hw := inR_wrap hp
          rw [mkAdd_den] at hw
          simp [Yields1, execOp, ho, h1, h2, eqGuard_int, binOp, Op.intArith, SV.den, mkAdd_den, hw]
        · simp only [Res.val.injEq] at h
          obtain ⟨rfl, rfl⟩ := h
          simp [Yields1, execOp, ho, h1, h2, eqGuard_int, binOp, Op.intArith, SV.den, IE.den, mkAdd_den]
      | sub =>
        simp only at h
        split at h
        · simp only [Res.val.injEq] at h
          obtain ⟨rfl, rfl⟩ := h
          have hw := inR_wrap hp
          rw [mkSub_den] at hw
          simp [Yields1, execOp, ho, h1, h2, eqGuard_int, binOp, Op.intArith, SV.den, mkSub_den, hw]
        · simp only [Res.val.injEq] at h
          obtain ⟨rfl, rfl⟩ := h
          simp [Yields1, execOp, ho, h1, h2, eqGuard_int, binOp, Op.intArith, SV.den, IE.den, mkSub_den]
      | mul =>
        simp only at h
        split at h
        · simp only [Res.val.injEq] at h
          obtain ⟨rfl, rfl⟩ := h
          have hw := inR_wrap hp
          rw [mkMul_den] at hw
          simp [Yields1, execOp, ho, h1, h2, eqGuard_int, binOp, Op.intArith, SV.den, mkMul_den, hw]
        · simp only [Res.val.injEq] at h
          obtain ⟨rfl, rfl⟩ := h
          simp [Yields1, execOp, ho, h1, h2, eqGuard_int, binOp, Op.intArith, SV.den, IE.den, mkMul_den]
      | quo =>
        simp only [Res.val.injEq] at h
        obtain ⟨rfl, rfl⟩ := h
        have hz := hp _ (List.mem_cons_self ..)
        have hw := inR_wrap (fun q hq => hp q (List.mem_cons_of_mem _ hq))
        rw [mkNot_den, mkEq_den] at hz
        have hz' : ¬ e'.den ε = 0 := by intro hh; rw [hh] at hz; simp [IE.den] at hz
        simp only [IE.den] at hw
        simp [Yields1, execOp, ho, h1, h2, eqGuard_int, binOp, Op.intDiv, SV.den, IE.den, hz', hw]
      | rem =>
        simp only [Res.val.injEq] at h
        obtain ⟨rfl, rfl⟩ := h
        have hz := hp _ (List.mem_cons_self ..)
        rw [mkNot_den, mkEq_den] at hz
        have hz' : ¬ e'.den ε = 0 := by intro hh; rw [hh] at hz; simp [IE.den] at hz
        simp [Yields1, execOp, ho, h1, h2, eqGuard_int, binOp, Op.intDiv, SV.den, IE.den, hz']
      | and =>
        simp only [Res.val.injEq] at h
        obtain ⟨rfl, rfl⟩ := h
        simp [Yields1, execOp, ho, h1, h2, eqGuard_int, binOp, bits_den .and k _ _ (by simp), SV.den, IE.den]
      | or =>
        simp only [Res.val.injEq] at h
        obtain ⟨rfl, rfl⟩ := h
        simp [Yields1, execOp, ho, h1, h2, eqGuard_int, binOp, bits_den .or k _ _ (by simp), SV.den, IE.den]
      | xor =>
        simp only [Res.val.injEq] at h
        obtain ⟨rfl, rfl⟩ := h
        simp [Yields1, execOp, ho, h1, h2, eqGuard_int, binOp, bits_den .xor k _ _ (by simp), SV.den, IE.den]
      | andNot =>
        simp only [Res.val.injEq] at h
        obtain ⟨rfl, rfl⟩ := h
        simp [Yields1, execOp, ho, h1, h2, eqGuard_int, binOp, bits_den .andNot k _ _ (by simp), SV.den, IE.den]
      | shl =>
        simp only [Res.val.injEq] at h
        obtain ⟨rfl, rfl⟩ := h
        exact shl _ (by simp) rfl rfl rfl
      | shr =>
        simp only [Res.val.injEq] at h
        obtain ⟨rfl, rfl⟩ := h
        exact shr _ (by simp) rfl rfl rfl
      | _ =>
        simp only at h
        split at h
        · rename_i b hb
          simp only [Res.val.injEq] at h
          obtain ⟨rfl, rfl⟩ := h
          simp only [Yields1, execOp, ho, h1, h2, eqGuard_int]
          rw [cmp_den hb]
          simp [SV.den]
        · cases h
    · split at h
      · simp only [Res.val.injEq] at h
        obtain ⟨rfl, rfl⟩ := h
        exact shl _ (by simp) rfl rfl rfl
      · simp only [Res.val.injEq] at h
        obtain ⟨rfl, rfl⟩ := h
        exact shr _ (by simp) rfl rfl rfl
      · cases h
  · rename_i b b' hx hy
    have h1 := ev_den hok hx
    have h2 := ev_den hok hy
    simp only [SV.den] at h1 h2
    split at h
    · rename_i hu
      have he := fun w'' => run_equal_bool (P := G.P) (w := w'') t (b.den ε) (b'.den ε) hu
      simp only [Res.val.injEq] at h
      obtain ⟨rfl, rfl⟩ := h
      simp [Yields1, execOp, ho, h1, h2, eqGuard_bool, binOp, he, SV.den, BE.den]
    · rename_i hu
      have he := fun w'' => run_equal_bool (P := G.P) (w := w'') t (b.den ε) (b'.den ε) hu
      simp only [Res.val.injEq] at h
      obtain ⟨rfl, rfl⟩ := h
      simp [Yields1, execOp, ho, h1, h2, eqGuard_bool, binOp, he, SV.den, BE.den]
    · cases h
  · rename_i i c hx hy
    have h1 := ev_den hok hx
    have h2 := ev_den hok hy
    simp only [SV.den] at h1 h2
    have key : ∀ b, nilRes G.P s.ks t i c = some b → (∀ w'', (Op.equal t (nth ε i) c).run G.P w'' = .ok (b.den ε) w'') ∧ eqGuard op t x y (nth ε i) c = pure () ∧ (∀ q u, binOp .eql t (nth ε i) c = q → binOp .neq t (nth ε i) c = u → q = (do pure (.bool (← Op.equal t (nth ε i) c))) ∧ u = (do pure (.bool (!(← Op.equal t (nth ε i) c))))) := by
      intro b hb
      simp only [nilRes] at hb
      split at hb
      · rename_i hu
        split at hb
        · rename_i hk
          cases hb
          obtain ⟨r, hr⟩ := nth_isK hok.ks hk
          rw [hr]
          refine ⟨fun w'' => ?_, eqGuard_at_pointer .., fun q u hq hu => ⟨hq ▸ rfl, hu ▸ rfl⟩⟩
          have e : (BE.nil i).den ε = r.isNone := by simp [BE.den, hr, vnil]
          rw [e]
          exact eq_ptr 9999 r hu w''
        · cases hb
      · rename_i hu
        split at hb
        · rename_i hk
          cases hb
          obtain ⟨r, n, c, hr⟩ := nth_isK hok.ks hk
          rw [hr]
          refine ⟨fun w'' => ?_, eqGuard_at_slice .., fun q u hq hu => ⟨hq ▸ rfl, hu ▸ rfl⟩⟩
          have e : (BE.nil i).den ε = r.isNone := by simp [BE.den, hr, vnil]
          rw [e]
          exact eq_slice 9999 r n c _ _ hu w''
        · cases hb
      · rename_i hu
        split at hb
        · rename_i hk
          cases hb
          obtain ⟨r, hr⟩ := nth_isK hok.ks hk
          rw [hr]
          refine ⟨fun w'' => ?_, eqGuard_at_map .., fun q u hq hu => ⟨hq ▸ rfl, hu ▸ rfl⟩⟩
          have e : (BE.nil i).den ε = r.isNone := by simp [BE.den, hr, vnil]
          rw [e]
          exact eq_map 9999 r hu w''
        · cases hb
      · rename_i hu
        split at hb
        · rename_i hk
          cases hb
          have hr := nth_isK hok.ks hk
          simp only [Base.fits] at hr
          cases hv : nth ε i <;> simp [hv, isFn] at hr
          · refine ⟨fun w'' => ?_, eqGuard_at_func .., fun q u hq hu => ⟨hq ▸ rfl, hu ▸ rfl⟩⟩
            rw [show (BE.nil i).den ε = false by simp [BE.den, hv, vnil]]
            exact eq_func 9999 _ _ _ hu w''
          · refine ⟨fun w'' => ?_, eqGuard_at_nilFunc .., fun q u hq hu => ⟨hq ▸ rfl, hu ▸ rfl⟩⟩
            rw [show (BE.nil i).den ε = true by simp [BE.den, hv, vnil]]
            exact eq_nilFunc 9999 hu w''
        · cases hb
      · cases hb
    split at h
    · rename_i b hb
      obtain ⟨k1, k2, k3⟩ := key b hb
      obtain ⟨k4, _⟩ := k3 _ _ rfl rfl
      simp only [Res.val.injEq] at h
      obtain ⟨rfl, rfl⟩ := h
      simp [Yields1, execOp, ho, h1, h2, k2, k4, k1, SV.den]
    · rename_i b hb
      obtain ⟨k1, k2, k3⟩ := key b hb
      obtain ⟨_, k4⟩ := k3 _ _ rfl rfl
      simp only [Res.val.injEq] at h
      obtain ⟨rfl, rfl⟩ := h
      simp [Yields1, execOp, ho, h1, h2, k2, k4, k1, SV.den, mkNot_den]
    · simp only [genRes] at h
      split at h <;> cases h
  · rename_i i off c hx hy
    have h1 := ev_den hok hx
    have h2 := ev_den hok hy
    simp only [SV.den] at h1 h2
    have key : ptrNil G.P s t i c = true → ∃ r e, nth ε i = .pointer (some r) ∧ c = .pointer none ∧ G.P.underlying t = some (.pointer e) := by
      intro hb
      unfold ptrNil at hb
      split at hb
      · rename_i e hu
        obtain ⟨cells, hc⟩ := Option.isSome_iff_exists.1 hb
        obtain ⟨b, ty, hp', _⟩ := findH_facts hok.hp hc
        exact ⟨_, e, hp', rfl, hu⟩
      · cases hb
    split at h
    · rename_i hb
      obtain ⟨r, e, hr, rfl, hu⟩ := key hb
      simp only [hr, vaddr, addO, Option.map_some] at h1
      have he := fun w'' => eq_ptr (P := G.P) 9999 (some (r.add off)) hu w''
      simp only [Res.val.injEq] at h
      obtain ⟨rfl, rfl⟩ := h
      have he' : ∀ w'', (Op.equal t (.pointer (some (r.add off))) (.pointer none)).run G.P w'' = .ok false w'' := he
      simp [Yields1, execOp, ho, h1, h2, eqGuard_at_pointer, binOp, he', SV.den, BE.den]
    · rename_i hb
      obtain ⟨r, e, hr, rfl, hu⟩ := key hb
      simp only [hr, vaddr, addO, Option.map_some] at h1
      have he := fun w'' => eq_ptr (P := G.P) 9999 (some (r.add off)) hu w''
      simp only [Res.val.injEq] at h
      obtain ⟨rfl, rfl⟩ := h
      have he' : ∀ w'', (Op.equal t (.pointer (some (r.add off))) (.pointer none)).run G.P w'' = .ok false w'' := he
      simp [Yields1, execOp, ho, h1, h2, eqGuard_at_pointer, binOp, he', SV.den, BE.den]
    · simp only [genRes] at h
      split at h <;> cases h
  · rename_i c d hx hy
    have h1 := ev_den hok hx
    have h2 := ev_den hok hy
    simp only [SV.den] at h1 h2
    have key : nilNil G.P t c d = true → (∀ w'', (Op.equal t c d).run G.P w'' = .ok true w'') ∧ eqGuard op t x y c d = pure () ∧ (∀ q u, binOp .eql t c d = q → binOp .neq t c d = u → q = (do let b ← Op.equal t c d; pure (.bool b)) ∧ u = (do let b ← Op.equal t c d; pure (.bool !b))) := by
      intro hb
      unfold nilNil at hb
      split at hb
      · rename_i e hu
        exact ⟨fun w'' => eq_ptr (P := G.P) 9999 none hu w'', eqGuard_at_pointer .., fun q u hq hu => ⟨hq ▸ rfl, hu ▸ rfl⟩⟩
      · rename_i e n c' n' c'' hu
        exact ⟨fun w'' => eq_slice (P := G.P) 9999 none _ _ _ _ hu w'', eqGuard_at_slice .., fun q u hq hu => ⟨hq ▸ rfl, hu ▸ rfl⟩⟩
      · cases hb
    split at h
    · rename_i hb
      obtain ⟨k1, k2, k3⟩ := key hb
      obtain ⟨k4, _⟩ := k3 _ _ rfl rfl
      simp only [Res.val.injEq] at h
      obtain ⟨rfl, rfl⟩ := h
      simp [Yields1, execOp, ho, h1, h2, k2, k4, k1, SV.den, BE.den]
    · rename_i hb
      obtain ⟨k1, k2, k3⟩ := key hb
      obtain ⟨_, k4⟩ := k3 _ _ rfl rfl
      simp only [Res.val.injEq] at h
      obtain ⟨rfl, rfl⟩ := h
      simp [Yields1, execOp, ho, h1, h2, k2, k4, k1, SV.den, BE.den]
    · simp only [genRes] at h
      split at h <;> cases h
  · simp only [genRes] at h
    split at h <;> cases h
end
end Go.Sx
