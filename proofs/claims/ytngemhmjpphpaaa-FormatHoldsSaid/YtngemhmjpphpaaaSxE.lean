/- Part E of a symbolic run of Go code by computation: its states, conditions and the proof that a condition that holds says what the function returns. No conditions of its own. -/
import Derived.Test.YtngemhmjpphpaaaSxD
set_option linter.unusedVariables false
set_option linter.unusedSimpArgs false
namespace Go.Sx
open Go.RowKit

/-! an operation that ends well, whatever the fence -/
def OpGood (P : Program) (o : Oper) (a : Act) (w : World) (K : Act → World → Prop) : Prop :=
  (∃ v w', ((execOp a.eval o).run P w = .ok (.value v) w' ∨ ((execOp a.eval o).run P w = .ok .skip w' ∧ v = undef)) ∧ K (a.put o.dst v) w') ∨
  (∃ f args w', (execOp a.eval o).run P w = .ok (.enter f args) w' ∧ Calls P f args w' (fun e w'' => ∃ v, e = .returned v ∧ K (a.put o.dst v) w'')) ∨
  (∃ l f tmps assign body w', (execOp a.eval o).run P w = .ok (.round l f tmps assign body) w' ∧ RoundIn Fence.wide 0 P l f tmps assign body w' (fun e w'' => ∃ v, e = .returned v ∧ K (a.put o.dst v) w''))

theorem OpGood.mono {P : Program} {o : Oper} {a : Act} {w : World} {K K' : Act → World → Prop} (h : OpGood P o a w K) (hk : ∀ a w, K a w → K' a w) : OpGood P o a w K' := by
  rcases h with ⟨v, w', hr, h⟩ | ⟨f, args, w', hr, h⟩ | ⟨l, f, tmps, assign, body, w', hr, h⟩
  · exact .inl ⟨v, w', hr, hk _ _ h⟩
  · exact .inr (.inl ⟨f, args, w', hr, h.mono fun e w'' ⟨v, he, hv⟩ => ⟨v, he, hk _ _ hv⟩⟩)
  · exact .inr (.inr ⟨l, f, tmps, assign, body, w', hr, h.mono fun e w'' ⟨v, he, hv⟩ => ⟨v, he, hk _ _ hv⟩⟩)


/-- the fences that bar nothing: outside of a round, or in one -/
def FF (r : Option Nat) : Fence := { Fence.wide with round := r }
theorem FF_room (r : Option Nat) (n : Nat) : (FF r).room n := fun _ h => by simp [FF, Fence.wide] at h
theorem FF_fn (r : Option Nat) (f : Nat) : (FF r).fn f := trivial
theorem FF_none : FF none = Fence.wide := rfl

theorem Calls.toFF {r : Option Nat} {n : Nat} {P : Program} {f : FuncId} {args : Array Value} {w : World} {R : Ending → World → Prop} (h : Calls P f args w R) : CallsIn (FF r) n P f args w R := by
  have h' : CallsIn Fence.wide n P f args w R := callsIn_wide.2 h
  exact h'

theorem RoundIn.toFF {r : Option Nat} {n : Nat} {P : Program} {l : Nat} {f : FuncId} {tmps : Array Value} {assign body : Code} {w : World} {R : Ending → World → Prop} (h : RoundIn Fence.wide 0 P l f tmps assign body w R) : RoundIn (FF r) n P l f tmps assign body w R := by
  have h' : RoundIn Fence.wide n P l f tmps assign body w R := ⟨h.1, fun c cs _ => h.2 c cs (room_wide _)⟩
  exact h'
theorem RoundIn.ofFF {r : Option Nat} {n : Nat} {P : Program} {l : Nat} {f : FuncId} {tmps : Array Value} {assign body : Code} {w : World} {R : Ending → World → Prop} (h : RoundIn (FF r) n P l f tmps assign body w R) : RoundIn Fence.wide 0 P l f tmps assign body w R := by
  have h' : RoundIn Fence.wide n P l f tmps assign body w R := h
  exact ⟨h'.1, fun c cs _ => h'.2 c cs (room_wide _)⟩

theorem OpGood.wpIn {r : Option Nat} {n : Nat} {P : Program} {o : Oper} {a : Act} {w : World} {K : Act → World → Prop} {Q : Exit → Act → World → Prop} (hd : noDefer o = true) (h : OpGood P o a w K) :
    o.wpIn (FF r) n P a w K Q := by
  refine ⟨fun f _ => trivial, ?_⟩
  have hs : Oper.semAt (FF r).round a.eval o = execOp a.eval o := Oper.semAt_eq _ _ _ (fun c hc => by simp [noDefer, hc] at hd)
  rw [hs]
  rcases h with ⟨v, w', hr | ⟨hr, rfl⟩, h⟩ | ⟨f, args, w', hr, h⟩ | ⟨l, f, tmps, assign, body, w', hr, h⟩
  · rw [hr]; exact h
  · rw [hr]; exact h
  · rw [hr]
    refine ⟨fun hx => by simp [FF, Fence.wide] at hx, Calls.toFF (h.mono ?_)⟩
    rintro e w'' ⟨v, rfl, hv⟩
    exact hv
  · rw [hr]
    refine ⟨fun hx => by simp [FF, Fence.wide] at hx, RoundIn.toFF (h.mono ?_)⟩
    rintro e w'' ⟨v, rfl, hv⟩
    exact hv

/-- the next operation, by its number -/
def opG (P : Program) (ops : Array Oper) (i : Nat) (K : Act → World → Prop) (a : Act) (w : World) : Prop :=
  match ops[i]? with
  | none => K a w
  | some o => if Region.wanted o (yielded ops a.tmps) then OpGood P o a w K else K (a.put o.dst undef) w

theorem opG_mono {P : Program} {ops : Array Oper} {i : Nat} {a : Act} {w : World} {K K' : Act → World → Prop} (h : opG P ops i K a w) (hk : ∀ a w, K a w → K' a w) : opG P ops i K' a w := by
  unfold opG at *
  split
  · rename_i ho; rw [ho] at h; exact hk _ _ h
  · rename_i o ho
    rw [ho] at h
    simp only at h
    split
    · rename_i hw; rw [if_pos hw] at h; exact h.mono hk
    · rename_i hw; rw [if_neg hw] at h; exact hk _ _ h

theorem opG_wpOpIn {r : Option Nat} {n : Nat} {P : Program} {ops : Array Oper} {i : Nat} {a : Act} {w : World} {K : Act → World → Prop} {Q : Exit → Act → World → Prop}
    (hd : ∀ o, ops[i]? = some o → noDefer o = true) (h : opG P ops i K a w) : wpOpIn (FF r) n P ops Q i K a w := by
  unfold opG at h
  unfold wpOpIn
  split
  · rename_i ho; rw [ho] at h; exact h
  · rename_i o ho
    rw [ho] at h
    simp only at h
    split
    · rename_i hw; rw [if_pos hw] at h; exact h.wpIn (hd o ho)
    · rename_i hw; rw [if_neg hw] at h; exact ⟨fun _ _ => trivial, h⟩

/-- in the order of the text -/
def seqG (P : Program) (ops : Array Oper) (K : Act → World → Prop) : List Nat → Act → World → Prop
  | [], a, w => K a w
  | i :: r, a, w => opG P ops i (seqG P ops K r) a w

theorem seqG_wpOpsIn {r : Option Nat} {n : Nat} {P : Program} {ops : Array Oper} {Q : Exit → Act → World → Prop}
    (hd : ∀ (i : Nat) (o : Oper), ops[i]? = some o → noDefer o = true) : ∀ (l : List Nat) (a : Act) (w : World), seqG P ops (Q .normal) l a w → wpOpsIn (FF r) n P ops Q l a w
  | [], _, _, h => h
  | i :: l, a, w, h => by
    rw [wpOpsIn_cons]
    exact opG_wpOpIn (hd i) (opG_mono h fun a w h => seqG_wpOpsIn hd l a w h)

/-- in whatever order the edges allow; S holds behind every step -/
def anyG (P : Program) (ops : Array Oper) (K : Act → World → Prop) (S : World → Prop) : Nat → Array Bool → Act → World → Prop
  | 0, listed, a, w => Region.ready .any ops listed = [] ∧ K a w
  | n + 1, listed, a, w => (Region.ready .any ops listed = [] → K a w) ∧
    ∀ i ∈ Region.ready .any ops listed, opG P ops i (fun a' w' => S w' ∧ anyG P ops K S n (listed.setIfInBounds i true) a' w') a w

theorem anyG_wpAnyIn {r : Option Nat} {m : Nat} {P : Program} {ops : Array Oper} {Q : Exit → Act → World → Prop} {S : World → Prop}
    (hd : ∀ (i : Nat) (o : Oper), ops[i]? = some o → noDefer o = true) : ∀ (n : Nat) (listed : Array Bool) (a : Act) (w : World), anyG P ops (Q .normal) S n listed a w → wpAnyIn (FF r) m P .any ops Q n listed a w
  | 0, _, _, _, h => h
  | n + 1, listed, a, w, h => ⟨h.1, fun i hi => opG_wpOpIn (hd i) (opG_mono (h.2 i hi) fun a w h => anyG_wpAnyIn hd n _ a w h.2)⟩

section
variable {P : Program} {ops : Array Oper} {K : Act → World → Prop} {S : World → Prop}

/-- in every world that meets S the operation yields v and does nothing else -/
def Yld (P : Program) (ops : Array Oper) (S : World → Prop) (o : Oper) (v : Value) (a : Act) : Prop :=
  (Region.wanted o (yielded ops a.tmps) = true ∧ ∀ w, S w → (execOp a.eval o).run P w = .ok (.value v) w) ∨
  (Region.wanted o (yielded ops a.tmps) = false ∧ v = undef)

theorem Yld.opG {i : Nat} {o : Oper} {v : Value} {a : Act} {w : World} {K' : Act → World → Prop} (ho : ops[i]? = some o) (hy : Yld P ops S o v a) (hS : S w) (h : K' (a.put o.dst v) w) : opG P ops i K' a w := by
  unfold Sx.opG
  rw [ho]
  simp only
  rcases hy with ⟨hw, hv⟩ | ⟨hw, rfl⟩
  · rw [if_pos hw]; exact .inl ⟨v, w, .inl (hv w hS), h⟩
  · rw [if_neg (by simp [hw])]; exact h

theorem Yld.of_same {o : Oper} {v : Value} {a a' : Act} (hy : Yld P ops S o v a) (he : execOp a'.eval o = execOp a.eval o)
    (hw : Region.wanted o (yielded ops a'.tmps) = Region.wanted o (yielded ops a.tmps)) : Yld P ops S o v a' := by
  unfold Yld at *
  rw [he, hw]
  exact hy

theorem opG_put {j : Nat} {oi oj : Oper} {v : Value} (hj : ops[j]? = some oj) (hap : oi.apart ops oj = true)
    (hsi : ∀ cs b, oi.op ≠ .select cs b) (hsj : ∀ cs b, oj.op ≠ .select cs b) {K' : Act → World → Prop} {a : Act} {w : World}
    (hy : Yld P ops S oi v a) (h : opG P ops j K' (a.put oi.dst v) w) :
    opG P ops j (fun a' w' => Yld P ops S oi v a' ∧ K' (a'.put oi.dst v) w') a w := by
  obtain ⟨h1, h2, h3⟩ := Oper.apart_spec hap
  have keep : ∀ u, Yld P ops S oi v (a.put oj.dst u) := fun u => hy.of_same (execOp_put oi hsi a oj.dst u h3) (wanted_put oi a oj.dst u h3)
  unfold opG at *
  rw [hj] at h ⊢
  simp only at h ⊢
  rw [wanted_put oj a oi.dst v h1] at h
  split
  · rename_i hw
    rw [if_pos hw] at h
    unfold OpGood at *
    rw [execOp_put oj hsj a oi.dst v h1] at h
    rcases h with ⟨u, w', hr, h⟩ | ⟨f, args, w', hr, h⟩ | ⟨l, f, tmps, assign, body, w', hr, h⟩
    · exact .inl ⟨u, w', hr, keep u, by rw [← Act.put_comm a v u h2]; exact h⟩
    · refine .inr (.inl ⟨f, args, w', hr, h.mono ?_⟩)
      rintro e w'' ⟨u, he, hu⟩
      exact ⟨u, he, keep u, by rw [← Act.put_comm a v u h2]; exact hu⟩
    · refine .inr (.inr ⟨l, f, tmps, assign, body, w', hr, h.mono ?_⟩)
      rintro e w'' ⟨u, he, hu⟩
      exact ⟨u, he, keep u, by rw [← Act.put_comm a v u h2]; exact hu⟩
  · rename_i hw
    rw [if_neg hw] at h
    exact ⟨keep _, by rw [← Act.put_comm a v undef h2]; exact h⟩

theorem anyG_first {i : Nat} {oi : Oper} {v : Value} (hi : ops[i]? = some oi) (hsel : ∀ (j : Nat) (o : Oper) cs b, ops[j]? = some o → o.op ≠ .select cs b) :
    ∀ (n : Nat) (listed : Array Bool) (a : Act) (w : World),
      (∀ j oj, ops[j]? = some oj → j ≠ i → listed.getD j true = false → (∀ e ∈ oj.after, Region.binds .any e = true → e.on ≠ i) → oi.apart ops oj = true) →
      i ∈ Region.ready .any ops listed → Yld P ops S oi v a → S w →
      anyG P ops K S n (listed.setIfInBounds i true) (a.put oi.dst v) w → anyG P ops K S (n + 1) listed a w := by
  intro n
  induction n with
  | zero =>
    intro listed a w _ hr hy hS H
    refine ⟨fun h => (by rw [h] at hr; cases hr), fun j hj => ?_⟩
    by_cases hji : j = i
    · subst hji; exact hy.opG hi hS ⟨hS, H⟩
    · have := ready_mono hj hji
      rw [H.1] at this
      cases this
  | succ n ih =>
    intro listed a w hfree hr hy hS H
    refine ⟨fun h => (by rw [h] at hr; cases hr), fun j hj => ?_⟩
    by_cases hji : j = i
    · subst hji; exact hy.opG hi hS ⟨hS, H⟩
    · have h1 := H.2 j (ready_mono hj hji)
      obtain ⟨hjun, oj, hoj, hall⟩ := mem_ready.1 hj
      have hnot : ∀ e ∈ oj.after, Region.binds .any e = true → e.on ≠ i := fun e he hb heq => by
        have h1 := hall e he hb
        have h0 := (mem_ready.1 hr).1
        rw [heq] at h1
        rcases Nat.lt_or_ge i listed.size with h' | h'
        · simp [h'] at h0 h1; rw [h0] at h1; cases h1
        · simp [Array.getElem?_eq_none h'] at h1
      have h2 := opG_put hoj (hfree j oj hoj hji hjun hnot) (fun cs b => hsel i oi cs b hi) (fun cs b => hsel j oj cs b hoj) hy h1
      have hfree' : ∀ k ok, ops[k]? = some ok → k ≠ i → (listed.setIfInBounds j true).getD k true = false →
          (∀ e ∈ ok.after, Region.binds .any e = true → e.on ≠ i) → oi.apart ops ok = true := fun k ok hk hki hun hno => by
        refine hfree k ok hk hki ?_ hno
        by_cases hjk : j = k
        · subst hjk; exact hjun
        · rw [getD_set_ne true hjk] at hun; exact hun
      refine opG_mono h2 fun a' w' h3 => ⟨h3.2.1, ih (listed.setIfInBounds j true) a' w' hfree' (ready_mono hr (Ne.symm hji)) h3.1 h3.2.1 ?_⟩
      rw [Array.setIfInBounds_comm _ _ hji]
      exact h3.2.2

theorem anyG_take {i : Nat} {oi : Oper} {v : Value} {n : Nat} {listed : Array Bool} {a : Act} {w : World} (hi : ops[i]? = some oi)
    (hs : Region.noSelect ops = true) (hf : Region.free .any ops listed i = true) (hr : i ∈ Region.ready .any ops listed) (hy : Yld P ops S oi v a) (hS : S w)
    (h : anyG P ops K S n (listed.setIfInBounds i true) (a.put oi.dst v) w) : anyG P ops K S (n + 1) listed a w :=
  anyG_first hi (Region.noSelect_spec hs) n listed a w (Region.free_spec hi hf) hr hy hS h

theorem anyG_done {listed : Array Bool} {a : Act} {w : World} (hr : Region.ready .any ops listed = []) (h : K a w) : ∀ n, anyG P ops K S n listed a w
  | 0 => ⟨hr, h⟩
  | _ + 1 => ⟨fun _ => h, by rw [hr]; simp⟩
end

end Go.Sx
