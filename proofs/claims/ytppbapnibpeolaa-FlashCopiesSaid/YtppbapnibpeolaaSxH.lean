/- Part E of a symbolic run of Go code by computation: its states, conditions and the proof that a condition that holds says what the function returns. No conditions of its own. -/
import Derived.Test.YtppbapnibpeolaaSxD
set_option linter.unusedVariables false
set_option linter.unusedSimpArgs false
namespace Go.Sx
open Go.RowKit

/-! an operation that ends well, whatever the fence -/
def OpGood (P : Program) (o : Oper) (a : Act) (w : World) (K : Act → World → Prop) : Prop :=
  (∃ v w', ((execOp a.eval o).run P w = .ok (.value v) w' ∨ ((execOp a.eval o).run P w = .ok .skip w' ∧ v = undef)) ∧ K (a.put o.dst v) w') ∨
  (∃ f args w', (execOp a.eval o).run P w = .ok (.enter f args) w' ∧ Calls P f args w' (fun e w'' => ∃ v, e = .returned v ∧ K (a.put o.dst v) w'')) ∨
  (∃ l f tmps assign body w', (execOp a.eval o).run P w = .ok (.round l f tmps assign body) w' ∧ RoundIn Fence.wide 0 P l f tmps assign body w' (fun e w'' => ∃ v, e = .returned v ∧ K (a.put o.dst v) w''))

theorem OpGood.mono {P : Program} {o : Oper} {a : Act} {w : World} {K K' : Act → World → Prop} (h : OpGood P o a w K) (hk : ∀ a w, K a w → K' a w) : OpGood P o a w K' := by
  rcases h with ⟨v, w', hr, h⟩ | ⟨f, args, w', hr, h⟩ | ⟨l, f, tmps, assign, body, w', hr, h⟩
  · exact .inl ⟨v, w', hr, hk _ _ h⟩
  · exact .inr (.inl ⟨f, args, w', hr, h.mono fun e w'' ⟨v, he, hv⟩ => ⟨v, he, hk _ _ hv⟩⟩)
  · exact .inr (.inr ⟨l, f, tmps, assign, body, w', hr, h.mono fun e w'' ⟨v, he, hv⟩ => ⟨v, he, hk _ _ hv⟩⟩)


/-- the fences that bar nothing: outside of a round, or in one -/
def FF (r : Option Nat) : Fence := { Fence.wide with round := r }
theorem FF_none : FF none = Fence.wide := rfl

theorem Calls.toFF {r : Option Nat} {n : Nat} {P : Program} {f : FuncId} {args : Array Value} {w : World} {R : Ending → World → Prop} (h : Calls P f args w R) : CallsIn (FF r) n P f args w R := by
  have h' : CallsIn Fence.wide n P f args w R := callsIn_wide.2 h
  exact h'

theorem RoundIn.toFF {r : Option Nat} {n : Nat} {P : Program} {l : Nat} {f : FuncId} {tmps : Array Value} {assign body : Code} {w : World} {R : Ending → World → Prop} (h : RoundIn Fence.wide 0 P l f tmps assign body w R) : RoundIn (FF r) n P l f tmps assign body w R := by
  have h' : RoundIn Fence.wide n P l f tmps assign body w R := ⟨h.1, fun c cs _ => h.2 c cs (room_wide _)⟩
  exact h'
theorem RoundIn.ofFF {r : Option Nat} {n : Nat} {P : Program} {l : Nat} {f : FuncId} {tmps : Array Value} {assign body : Code} {w : World} {R : Ending → World → Prop} (h : RoundIn (FF r) n P l f tmps assign body w R) : RoundIn Fence.wide 0 P l f tmps assign body w R := by
  have h' : RoundIn Fence.wide n P l f tmps assign body w R := h
  exact ⟨h'.1, fun c cs _ => h'.2 c cs (room_wide _)⟩

theorem OpGood.wpIn {r : Option Nat} {n : Nat} {P : Program} {o : Oper} {a : Act} {w : World} {K : Act → World → Prop} {Q : Exit → Act → World → Prop} (hd : noDefer o = true) (h : OpGood P o a w K) :
    o.wpIn (FF r) n P a w K Q := by
  refine ⟨fun f _ => trivial, ?_⟩
  have hs : Oper.semAt (FF r).round a.eval o = execOp a.eval o := Oper.semAt_eq _ _ _ (fun c hc => by simp [noDefer, hc] at hd)
  rw [hs]
  rcases h with ⟨v, w', hr | ⟨hr, rfl⟩, h⟩ | ⟨f, args, w', hr, h⟩ | ⟨l, f, tmps, assign, body, w', hr, h⟩
  · rw [hr]; exact h
  · rw [hr]; exact h
  · rw [hr]
    refine ⟨fun hx => by simp [FF, Fence.wide] at hx, Calls.toFF (h.mono ?_)⟩
    rintro e w'' ⟨v, rfl, hv⟩
    exact hv
  · rw [hr]
    refine ⟨fun hx => by simp [FF, Fence.wide] at hx, RoundIn.toFF (h.mono ?_)⟩
    rintro e w'' ⟨v, rfl, hv⟩
    exact hv

/-- the next operation, by its number -/
def opG (P : Program) (ops : Array Oper) (i : Nat) (K : Act → World → Prop) (a : Act) (w : World) : Prop :=
  match ops[i]? with
  | none => K a w
  | some o => if Region.wanted o (yielded ops a.tmps) then OpGood P o a w K else K (a.put o.dst undef) w

theorem opG_mono {P : Program} {ops : Array Oper} {i : Nat} {a : Act} {w : World} {K K' : Act → World → Prop} (h : opG P ops i K a w) (hk : ∀ a w, K a w → K' a w) : opG P ops i K' a w := by
  unfold opG at *
  split
  · rename_i ho; rw [ho] at h; exact hk _ _ h
  · rename_i o ho
    rw [ho] at h
    simp only at h
    split
    · rename_i hw; rw [if_pos hw] at h; exact h.mono hk
    · rename_i hw; rw [if_neg hw] at h; exact hk _ _ h

theorem opG_wpOpIn {r : Option Nat} {n : Nat} {P : Program} {ops : Array Oper} {i : Nat} {a : Act} {w : World} {K : Act → World → Prop} {Q : Exit → Act → World → Prop}
    (hd : ∀ o, ops[i]? = some o → noDefer o = true) (h : opG P ops i K a w) : wpOpIn (FF r) n P ops Q i K a w := by
  unfold opG at h
  unfold wpOpIn
  split
  · rename_i ho; rw [ho] at h; exact h
  · rename_i o ho
    rw [ho] at h
    simp only at h
    split
    · rename_i hw; rw [if_pos hw] at h; exact h.wpIn (hd o ho)
    · rename_i hw; rw [if_neg hw] at h; exact ⟨fun _ _ => trivial, h⟩

/-- in the order of the text -/
def seqG (P : Program) (ops : Array Oper) (K : Act → World → Prop) : List Nat → Act → World → Prop
  | [], a, w => K a w
  | i :: r, a, w => opG P ops i (seqG P ops K r) a w

theorem seqG_wpOpsIn {r : Option Nat} {n : Nat} {P : Program} {ops : Array Oper} {Q : Exit → Act → World → Prop}
    (hd : ∀ (i : Nat) (o : Oper), ops[i]? = some o → noDefer o = true) : ∀ (l : List Nat) (a : Act) (w : World), seqG P ops (Q .normal) l a w → wpOpsIn (FF r) n P ops Q l a w
  | [], _, _, h => h
  | i :: l, a, w, h => by
    rw [wpOpsIn_cons]
    exact opG_wpOpIn (hd i) (opG_mono h fun a w h => seqG_wpOpsIn hd l a w h)

/-- the operation waits for all others -/
def Lst (ops : Array Oper) (j : Nat) : Prop := ∀ oj, ops[j]? = some oj → ∀ i, i < ops.size → i ≠ j → ∃ e ∈ oj.after, Region.binds .any e = true ∧ e.on = i
/-- in whatever order the edges allow; S holds behind every step -/
def anyG (P : Program) (ops : Array Oper) (K : Act → World → Prop) (S : World → Prop) : Nat → Array Bool → Act → World → Prop
  | 0, listed, a, w => Region.ready .any ops listed = [] ∧ K a w
  | n + 1, listed, a, w => (Region.ready .any ops listed = [] → K a w) ∧
    ∀ i ∈ Region.ready .any ops listed, opG P ops i (fun a' w' => (S w' ∨ Lst ops i) ∧ anyG P ops K S n (listed.setIfInBounds i true) a' w') a w

theorem anyG_wpAnyIn {r : Option Nat} {m : Nat} {P : Program} {ops : Array Oper} {Q : Exit → Act → World → Prop} {S : World → Prop}
    (hd : ∀ (i : Nat) (o : Oper), ops[i]? = some o → noDefer o = true) : ∀ (n : Nat) (listed : Array Bool) (a : Act) (w : World), anyG P ops (Q .normal) S n listed a w → wpAnyIn (FF r) m P .any ops Q n listed a w
  | 0, _, _, _, h => h
  | n + 1, listed, a, w, h => ⟨h.1, fun i hi => opG_wpOpIn (hd i) (opG_mono (h.2 i hi) fun a w h => anyG_wpAnyIn hd n _ a w h.2)⟩

section
variable {P : Program} {ops : Array Oper} {K : Act → World → Prop} {S : World → Prop}

/-- in every world that meets S the operation yields v and does nothing else -/
def Yld (P : Program) (ops : Array Oper) (S : World → Prop) (o : Oper) (v : Value) (a : Act) : Prop :=
  (Region.wanted o (yielded ops a.tmps) = true ∧ ∀ w, S w → (execOp a.eval o).run P w = .ok (.value v) w) ∨
  (Region.wanted o (yielded ops a.tmps) = false ∧ v = undef)

theorem Yld.opG {i : Nat} {o : Oper} {v : Value} {a : Act} {w : World} {K' : Act → World → Prop} (ho : ops[i]? = some o) (hy : Yld P ops S o v a) (hS : S w) (h : K' (a.put o.dst v) w) : opG P ops i K' a w := by
  unfold Sx.opG
  rw [ho]
  simp only
  rcases hy with ⟨hw, hv⟩ | ⟨hw, rfl⟩
  · rw [if_pos hw]; exact .inl ⟨v, w, .inl (hv w hS), h⟩
  · rw [if_neg (by simp [hw])]; exact h

theorem Yld.of_same {o : Oper} {v : Value} {a a' : Act} (hy : Yld P ops S o v a) (he : execOp a'.eval o = execOp a.eval o)
    (hw : Region.wanted o (yielded ops a'.tmps) = Region.wanted o (yielded ops a.tmps)) : Yld P ops S o v a' := by
  unfold Yld at *
  rw [he, hw]
  exact hy

theorem opG_put {j : Nat} {oi oj : Oper} {v : Value} (hj : ops[j]? = some oj) (hap : oi.apart ops oj = true)
    (hsi : ∀ cs b, oi.op ≠ .select cs b) (hsj : ∀ cs b, oj.op ≠ .select cs b) {K' : Act → World → Prop} {a : Act} {w : World}
    (hy : Yld P ops S oi v a) (h : opG P ops j K' (a.put oi.dst v) w) :
    opG P ops j (fun a' w' => Yld P ops S oi v a' ∧ K' (a'.put oi.dst v) w') a w := by
  obtain ⟨h1, h2, h3⟩ := Oper.apart_spec hap
  have keep : ∀ u, Yld P ops S oi v (a.put oj.dst u) := fun u => hy.of_same (execOp_put oi hsi a oj.dst u h3) (wanted_put oi a oj.dst u h3)
  unfold opG at *
  rw [hj] at h ⊢
  simp only at h ⊢
  rw [wanted_put oj a oi.dst v h1] at h
  split
  · rename_i hw
    rw [if_pos hw] at h
    unfold OpGood at *
    rw [execOp_put oj hsj a oi.dst v h1] at h
    rcases h with ⟨u, w', hr, h⟩ | ⟨f, args, w', hr, h⟩ | ⟨l, f, tmps, assign, body, w', hr, h⟩
    · exact .inl ⟨u, w', hr, keep u, by rw [← Act.put_comm a v u h2]; exact h⟩
    · refine .inr (.inl ⟨f, args, w', hr, h.mono ?_⟩)
      rintro e w'' ⟨u, he, hu⟩
      exact ⟨u, he, keep u, by rw [← Act.put_comm a v u h2]; exact hu⟩
    · refine .inr (.inr ⟨l, f, tmps, assign, body, w', hr, h.mono ?_⟩)
      rintro e w'' ⟨u, he, hu⟩
      exact ⟨u, he, keep u, by rw [← Act.put_comm a v u h2]; exact hu⟩
  · rename_i hw
    rw [if_neg hw] at h
    exact ⟨keep _, by rw [← Act.put_comm a v undef h2]; exact h⟩

theorem anyG_first {i : Nat} {oi : Oper} {v : Value} (hi : ops[i]? = some oi) (hsel : ∀ (j : Nat) (o : Oper) cs b, ops[j]? = some o → o.op ≠ .select cs b) :
    ∀ (n : Nat) (listed : Array Bool) (a : Act) (w : World),
      (∀ j oj, ops[j]? = some oj → j ≠ i → listed.getD j true = false → (∀ e ∈ oj.after, Region.binds .any e = true → e.on ≠ i) → oi.apart ops oj = true) →
      i ∈ Region.ready .any ops listed → Yld P ops S oi v a → S w →
      anyG P ops K S n (listed.setIfInBounds i true) (a.put oi.dst v) w → anyG P ops K S (n + 1) listed a w := by
  intro n
  induction n with
  | zero =>
    intro listed a w _ hr hy hS H
    refine ⟨fun h => (by rw [h] at hr; cases hr), fun j hj => ?_⟩
    by_cases hji : j = i
    · subst hji; exact hy.opG hi hS ⟨.inl hS, H⟩
    · have := ready_mono hj hji
      rw [H.1] at this
      cases this
  | succ n ih =>
    intro listed a w hfree hr hy hS H
    refine ⟨fun h => (by rw [h] at hr; cases hr), fun j hj => ?_⟩
    by_cases hji : j = i
    · subst hji; exact hy.opG hi hS ⟨.inl hS, H⟩
    · have h1 := H.2 j (ready_mono hj hji)
      obtain ⟨hjun, oj, hoj, hall⟩ := mem_ready.1 hj
      have hnot : ∀ e ∈ oj.after, Region.binds .any e = true → e.on ≠ i := fun e he hb heq => by
        have h1 := hall e he hb
        have h0 := (mem_ready.1 hr).1
        rw [heq] at h1
        rcases Nat.lt_or_ge i listed.size with h' | h'
        · simp [h'] at h0 h1; rw [h0] at h1; cases h1
        · simp [Array.getElem?_eq_none h'] at h1
      have h2 := opG_put hoj (hfree j oj hoj hji hjun hnot) (fun cs b => hsel i oi cs b hi) (fun cs b => hsel j oj cs b hoj) hy h1
      have hfree' : ∀ k ok, ops[k]? = some ok → k ≠ i → (listed.setIfInBounds j true).getD k true = false →
          (∀ e ∈ ok.after, Region.binds .any e = true → e.on ≠ i) → oi.apart ops ok = true := fun k ok hk hki hun hno => by
        refine hfree k ok hk hki ?_ hno
        by_cases hjk : j = k
        · subst hjk; exact hjun
        · rw [getD_set_ne true hjk] at hun; exact hun
      have hnl : ¬ Lst ops j := fun hl => by
        obtain ⟨e, he, hb, heq⟩ := hl oj hoj i (Array.getElem?_eq_some_iff.1 hi).1 (Ne.symm hji)
        exact hnot e he hb heq
      refine opG_mono h2 fun a' w' h3 => ⟨h3.2.1, ih (listed.setIfInBounds j true) a' w' hfree' (ready_mono hr (Ne.symm hji)) h3.1 (h3.2.1.resolve_right hnl) ?_⟩
      rw [Array.setIfInBounds_comm _ _ hji]
      exact h3.2.2

theorem anyG_done {listed : Array Bool} {a : Act} {w : World} (hr : Region.ready .any ops listed = []) (h : K a w) : ∀ n, anyG P ops K S n listed a w
  | 0 => ⟨hr, h⟩
  | _ + 1 => ⟨fun _ => h, by rw [hr]; simp⟩
end

end Go.Sx

/- Part F of a symbolic run of Go code by computation: its states, conditions and the proof that a condition that holds says what the function returns. No conditions of its own. -/
set_option linter.unusedVariables false
set_option linter.unusedSimpArgs false
namespace Go.Sx
open Go.RowKit

/-! ### the state of the symbolic run and the machine's -/
/-- the marks that ranges over functions have left: each one's block holds no deferred call -/
structure Marks (G : Ctx) (D ds : List Deferred) (w : World) : Prop where
  none : D = [] → ds = []
  keep : ds ≠ [] → G.rc = true
  one : ∀ d ∈ ds, ∃ b, d = { target := .collected b, args := #[] } ∧ G.W0.heap.size ≤ b ∧ w.heap[b]? = some (.deferred (some []))
  nd : ds.Pairwise (fun d e => ∀ b b', d.target = .collected b → e.target = .collected b' → b ≠ b')
  recs : G.rc = true → ∀ b, IsRec G.W0 b → w.heap[b]? = G.W0.heap[b]?
theorem Marks.to {G : Ctx} {D ds : List Deferred} {w w' : World} (h : Marks G D ds w) (hk : G.rc = true → ∀ b, IsRec w b → w'.heap[b]? = w.heap[b]?) : Marks G D ds w' where
  none := h.none
  keep := h.keep
  one := fun d hd => by
    obtain ⟨b, h1, h2, h3⟩ := h.one d hd
    exact ⟨b, h1, h2, (hk (h.keep (fun e => by rw [e] at hd; simp at hd)) b ⟨_, h3, rfl⟩).trans h3⟩
  nd := h.nd
  recs := fun hr b hb => by
    have h1 := h.recs hr b hb
    refine (hk hr b ?_).trans h1
    obtain ⟨o, ho, hi⟩ := hb
    exact ⟨o, by rw [h1]; exact ho, hi⟩
theorem Marks.empty {G : Ctx} {D : List Deferred} {w : World} (h : G.rc = true → ∀ b, IsRec G.W0 b → w.heap[b]? = G.W0.heap[b]?) : Marks G D [] w :=
  ⟨fun _ => rfl, fun h => absurd rfl h, fun d hd => by simp at hd, List.Pairwise.nil, h⟩

structure Ok (G : Ctx) (D : List Deferred) (s : St) (ε : List Value) (wx ws : World) (X : Nat → Prop) (a : Act) (w : World) : Prop where
  defers : Marks G D a.defers w
  ltm : a.tmps.size = s.tmps.length
  tm : ∀ i v, getL s.tmps i = some v → a.tmps[i]? = some (v.den ε)
  ks : Fits s.ks ε
  hp : FactsAt ε w s.heap
  nd : (keys s.heap).Nodup
  dj : ∀ i j, i ∈ keys s.heap → j ∈ keys s.heap → i ≠ j → blkOf (nth ε i) ≠ blkOf (nth ε j)
  base : Kept G.M G.W0 w
  kx : Kept (BlkIn ε s.t0) wx w
  kws : s.drawn = true → Kept X ws w
  kwz : ws.heap.size ≤ w.heap.size
  kX : s.drawn = true → ∀ i ∈ keys s.heap, ∀ b, blkOf (nth ε i) = some b → b < ws.heap.size → X b
  kM : ∀ i ∈ keys s.heap, ∀ b, blkOf (nth ε i) = some b → b < G.W0.heap.size → G.M b
  path : ∀ b r, (b, r) ∈ s.path → b.den ε = r

/-! lists -/
theorem getL_setL {α : Type} : ∀ (l : List (Option α)) (i j : Nat) (v : Option α) (x : α), getL (setL l i v) j = some x → (j = i ∧ v = some x ∧ i < l.length) ∨ (j ≠ i ∧ getL l j = some x)
  | [], _, _, _, _, h => by cases h
  | y :: l, 0, 0, v, x, h => .inl ⟨rfl, h, by simp⟩
  | y :: l, 0, j + 1, v, x, h => .inr ⟨by omega, h⟩
  | y :: l, i + 1, 0, v, x, h => .inr ⟨by omega, h⟩
  | y :: l, i + 1, j + 1, v, x, h => by
    rcases getL_setL l i j v x h with ⟨h1, h2, h3⟩ | ⟨h1, h2⟩
    · exact .inl ⟨by omega, h2, by simp; omega⟩
    · exact .inr ⟨by omega, h2⟩
theorem length_setL {α : Type} : ∀ (l : List (Option α)) (i : Nat) (v : Option α), (setL l i v).length = l.length
  | [], _, _ => rfl
  | _ :: l, 0, _ => rfl
  | _ :: l, i + 1, v => by simp [setL, length_setL l i v]
theorem takeN_eq {α : Type} : ∀ (n : Nat) (l : List α), takeN n l = l.take n
  | 0, _ => by simp [takeN]
  | n + 1, [] => by simp [takeN]
  | n + 1, x :: l => by simp [takeN, takeN_eq n l]
theorem dropN_eq {α : Type} : ∀ (n : Nat) (l : List α), dropN n l = l.drop n
  | 0, _ => by simp [dropN]
  | n + 1, [] => by simp [dropN]
  | n + 1, x :: l => by simp [dropN, dropN_eq n l]

theorem ofConst_den (ε : List Value) (v : Value) : (ofConst v).den ε = v := by
  cases v <;> rfl
theorem oneCell_cells {v : Value} (h : v.oneCell' = true) : v.cells = #[v] := by cases v <;> simp_all [Value.cells, Value.oneCell']

theorem memN_iff {i : Nat} : ∀ {l : List Nat}, memN i l = true ↔ i ∈ l
  | [] => by simp [memN]
  | j :: l => by simp [memN, memN_iff (l := l)]

theorem findH_mem : ∀ {fs : Facts} {i : Nat} {l : List SV}, findH fs i = some l → i ∈ keys fs
  | [], _, _, h => by cases h
  | (j, m) :: fs, i, l, h => by
    simp only [findH] at h
    split at h
    · rename_i hb; simp [keys]; left; exact (Nat.eq_of_beq_eq_true hb).symm
    · simp [keys]; right; exact findH_mem h
theorem findH_facts {ε : List Value} {w : World} : ∀ {fs : Facts} {i : Nat} {l : List SV}, FactsAt ε w fs → findH fs i = some l → HasBlk w (nth ε i) (denL ε l)
  | [], _, _, _, h => by cases h
  | (j, m) :: fs, i, l, hf, h => by
    simp only [findH] at h
    split at h
    · rename_i hb
      obtain rfl := Nat.eq_of_beq_eq_true hb
      cases h
      exact hf.1
    · exact findH_facts hf.2 h
theorem keys_setH : ∀ (fs : Facts) (i : Nat) (l : List SV), keys (setH fs i l) = keys fs
  | [], _, _ => rfl
  | (j, m) :: fs, i, l => by
    simp only [setH]
    split
    · rfl
    · simp [keys, keys_setH fs i l]
theorem findH_setH : ∀ (fs : Facts) (i j : Nat) (l : List SV), i ≠ j → findH (setH fs i l) j = findH fs j
  | [], _, _, _, _ => rfl
  | (k, m) :: fs, i, j, l, h => by
    simp only [setH]
    split
    · rename_i hb
      obtain rfl := Nat.eq_of_beq_eq_true hb
      have hb' : Nat.beq k j = false := by cases hx : Nat.beq k j; rfl; exact absurd (Nat.eq_of_beq_eq_true hx) h
      simp [findH, hb']
    · simp only [findH]
      split
      · rfl
      · exact findH_setH fs i j l h

theorem factsAt_iff {ε : List Value} {w : World} : ∀ {fs : Facts}, (keys fs).Nodup → (FactsAt ε w fs ↔ ∀ i l, findH fs i = some l → HasBlk w (nth ε i) (denL ε l))
  | [], _ => by simp [FactsAt, findH]
  | (j, m) :: fs, hn => by
    simp only [keys, List.nodup_cons] at hn
    constructor
    · intro h i l hf; exact findH_facts h hf
    · intro h
      refine ⟨h j m (by simp [findH]), (factsAt_iff hn.2).2 fun i l hf => h i l ?_⟩
      have hij : j ≠ i := fun e => hn.1 (e ▸ findH_mem hf)
      have hb' : Nat.beq j i = false := by cases hx : Nat.beq j i; rfl; exact absurd (Nat.eq_of_beq_eq_true hx) hij
      simp [findH, hb', hf]

/-! what known says -/
theorem known_sound {ε : List Value} : ∀ {path : List (BE × Bool)} {b : BE} {r : Bool}, (∀ c q, (c, q) ∈ path → c.den ε = q) → known path b = some r → b.den ε = r := by
  intro path
  induction path with
  | nil => intro b r _ h; cases b <;> simp [known] at h; simpa [BE.den] using h
  | cons p path ih =>
    obtain ⟨c, q⟩ := p
    intro b r hp h
    have key : (if c.same b then some q else known path b) = some r → b.den ε = r := by
      intro h
      split at h
      · rename_i hs
        rw [← BE.same_eq hs, ← Option.some.inj h]
        exact hp c q (by simp)
      · exact ih (fun c' q' hm => hp c' q' (by simp [hm])) h
    cases b with
    | lit x => simp [known] at h; simpa [BE.den] using h
    | _ => exact key (by simpa only [known] using h)

/-! numbers -/
theorem mkAdd_den (ε : List Value) (a b : IE) : (mkAdd a b).den ε = a.den ε + b.den ε := by
  unfold mkAdd; split <;> rfl
theorem mkSub_den (ε : List Value) (a b : IE) : (mkSub a b).den ε = a.den ε - b.den ε := by
  unfold mkSub; split <;> rfl
theorem mkMul_den (ε : List Value) (a b : IE) : (mkMul a b).den ε = a.den ε * b.den ε := by
  unfold mkMul; split <;> rfl
theorem mkLt_den (ε : List Value) (a b : IE) : (mkLt a b).den ε = decide (a.den ε < b.den ε) := by
  unfold mkLt; split <;> rfl
theorem mkLe_den (ε : List Value) (a b : IE) : (mkLe a b).den ε = decide (a.den ε ≤ b.den ε) := by
  unfold mkLe; split <;> rfl
theorem mkEq_den (ε : List Value) (a b : IE) : (mkEq a b).den ε = decide (a.den ε = b.den ε) := by
  unfold mkEq; split <;> rfl
theorem mkNot_den (ε : List Value) (a : BE) : (mkNot a).den ε = !a.den ε := by
  unfold mkNot; split <;> rfl

theorem obs_den {G : Ctx} {Λ : Nat → List Value → World → Prop} {ε : List Value} {wx ws : World} {X : Nat → Prop} {k : VC} : ∀ {l : List BE}, (obs l k).den G Λ ε wx ws X → (∀ p ∈ l, p.den ε = true) ∧ k.den G Λ ε wx ws X := by
  intro l
  induction l with
  | nil => intro h; exact ⟨by simp, h⟩
  | cons p l ih =>
    intro h
    have key : (VC.ob p (obs l k)).den G Λ ε wx ws X → (∀ q ∈ p :: l, q.den ε = true) ∧ k.den G Λ ε wx ws X := by
      intro h
      obtain ⟨h1, h2⟩ := ih h.2
      exact ⟨fun q hq => by rcases List.mem_cons.1 hq with rfl | hq; exact h.1; exact h1 q hq, h2⟩
    cases p with
    | lit b =>
      cases b with
      | true =>
        obtain ⟨h1, h2⟩ := ih h
        exact ⟨fun q hq => by rcases List.mem_cons.1 hq with rfl | hq; rfl; exact h1 q hq, h2⟩
      | false => exact key h
    | _ => exact key h

theorem wrap_in (k : IntKind) {n : Int} (h1 : kmin k ≤ n) (h2 : n ≤ kmax k) : k.wrap n = n := by
  cases k <;> simp only [kmin, kmax] at h1 h2
  · exact IntWalk.i8_in n ⟨h1, h2⟩
  · exact IntWalk.i16_in n ⟨h1, h2⟩
  · exact IntWalk.i32_in n ⟨h1, h2⟩
  · exact IntWalk.i64_in n ⟨h1, h2⟩
  · exact IntWalk.u8_in n ⟨h1, h2⟩
  · exact IntWalk.u16_in n ⟨h1, h2⟩
  · exact IntWalk.u32_in n ⟨h1, h2⟩
  · exact IntWalk.u64_in n ⟨h1, h2⟩
theorem inR_wrap {ε : List Value} {k : IntKind} {e : IE} (h : ∀ p ∈ inR k e, p.den ε = true) : k.wrap (e.den ε) = e.den ε := by
  have h1 := h (mkLe (.lit (kmin k)) e) (by simp [inR])
  have h2 := h (mkLe e (.lit (kmax k))) (by simp [inR])
  rw [mkLe_den] at h1 h2
  exact wrap_in k (of_decide_eq_true h1) (of_decide_eq_true h2)

/-! operands -/
theorem ev_den {G : Ctx} {D : List Deferred} {s : St} {ε : List Value} {wx ws : World} {X : Nat → Prop} {a : Act} {w : World} (h : Ok G D s ε wx ws X a w) {x : Operand} {v : SV} (hx : s.ev x = some v) : a.eval x = v.den ε := by
  cases x with
  | tmp t => simp only [St.ev] at hx; simp [Act.eval, Array.getD_eq_getD_getElem?, h.tm t v hx]
  | const c => simp only [St.ev, Option.some.injEq] at hx; subst hx; simp [Act.eval, ofConst_den]
  | global g => simp only [St.ev, Option.some.injEq] at hx; subst hx; rfl
  | func f => simp only [St.ev, Option.some.injEq] at hx; subst hx; simp [Act.eval, SV.den, denL]
theorem evs_den {G : Ctx} {D : List Deferred} {s : St} {ε : List Value} {wx ws : World} {X : Nat → Prop} {a : Act} {w : World} (h : Ok G D s ε wx ws X a w) : ∀ {l : List Operand} {vs : List SV}, evs s l = some vs → l.map a.eval = denL ε vs
  | [], vs, hx => by simp [evs] at hx; subst hx; rfl
  | x :: l, vs, hx => by
    simp only [evs] at hx
    split at hx
    · rename_i v vs' h1 h2
      cases hx
      simp [denL, ev_den h h1, evs_den h h2]
    · cases hx
theorem pairs_den {G : Ctx} {D : List Deferred} {s : St} {ε : List Value} {wx ws : World} {X : Nat → Prop} {a : Act} {w : World} (h : Ok G D s ε wx ws X a w) : ∀ {l : List (Nat × Operand)} {vs : List (Nat × SV)}, pairsS s l = some vs → (l.map fun p => (p.1, a.eval p.2)) = vs.map (fun p => (p.1, p.2.den ε))
  | [], vs, hx => by simp [pairsS] at hx; subst hx; rfl
  | (i, x) :: l, vs, hx => by
    simp only [pairsS] at hx
    split at hx
    · rename_i v vs' h1 h2
      cases hx
      simp [ev_den h h1, pairs_den h h2]
    · cases hx
theorem vals_den {G : Ctx} {D : List Deferred} {s : St} {ε : List Value} {wx ws : World} {X : Nat → Prop} {a : Act} {w : World} (h : Ok G D s ε wx ws X a w) : ∀ {l : List Operand} {vs : List (Operand × SV)}, valsS s l = some vs → ValsAt ε a.eval vs ∧ vs.map (·.1) = l
  | [], vs, hx => by simp [valsS] at hx; subst hx; exact ⟨trivial, rfl⟩
  | x :: l, vs, hx => by
    simp only [valsS] at hx
    split at hx
    · rename_i v vs' h1 h2
      cases hx
      obtain ⟨h3, h4⟩ := vals_den h h2
      exact ⟨⟨ev_den h h1, h3⟩, by simp [h4]⟩
    · cases hx

theorem denL_length (ε : List Value) (l : List SV) : (denL ε l).length = l.length := by rw [denL_map]; simp
theorem denL_get (ε : List Value) (l : List SV) (i : Nat) : (denL ε l)[i]? = (l[i]?).map (SV.den ε) := by rw [denL_map]; simp
theorem denL_take (ε : List Value) (l : List SV) (n : Nat) : denL ε (takeN n l) = (denL ε l).take n := by rw [denL_map, denL_map, takeN_eq, List.map_take]
theorem denL_drop (ε : List Value) (l : List SV) (n : Nat) : denL ε (dropN n l) = (denL ε l).drop n := by rw [denL_map, denL_map, dropN_eq, List.map_drop]
theorem denL_app (ε : List Value) (l m : List SV) : denL ε (l ++ m) = denL ε l ++ denL ε m := by simp [denL_map]

theorem nth_one : ∀ {ks : List Base} {ε : List Value}, Fits ks ε → ∀ {i : Nat}, Nat.blt i ks.length = true → (nth ε i).oneCell' = true
  | b :: ks, v :: ε, h, 0, _ => by
    have h1 := h.1
    cases b with
    | int k => obtain ⟨n, rfl⟩ := h1; rfl
    | bool => obtain ⟨n, rfl⟩ := h1; rfl
    | slice => obtain ⟨x, n, c, rfl⟩ := h1; rfl
    | ptr => obtain ⟨x, rfl⟩ := h1; rfl
    | map => obtain ⟨x, rfl⟩ := h1; rfl
    | func => cases v <;> simp_all [Base.fits, isFn, Value.oneCell', nth]
    | any => exact h1
  | b :: ks, v :: ε, h, i + 1, hi => nth_one (ks := ks) (ε := ε) h.2 (i := i) (by simp at hi ⊢; omega)
  | [], [], _, i, hi => by simp at hi
  | [], _ :: _, h, _, _ => h.elim
  | _ :: _, [], h, _, _ => h.elim
theorem nth_slice : ∀ {ks : List Base} {ε : List Value}, Fits ks ε → ∀ {i : Nat}, isSliceVar ks i = true → ∃ x n c, nth ε i = .slice x n c
  | b :: ks, v :: ε, h, 0, hi => by
    have h1 := h.1
    cases b <;> simp [isSliceVar, nthB] at hi
    exact h1
  | b :: ks, v :: ε, h, i + 1, hi => nth_slice (ks := ks) (ε := ε) h.2 (i := i) (by simpa [isSliceVar, nthB] using hi)
  | [], [], _, i, hi => by simp [isSliceVar, nthB] at hi
  | [], _ :: _, h, _, _ => h.elim
  | _ :: _, [], h, _, _ => h.elim

theorem nth_isK : ∀ {ks : List Base} {ε : List Value}, Fits ks ε → ∀ {i : Nat} {b : Base}, isK ks i b = true → b.fits (nth ε i)
  | b :: ks, v :: ε, h, 0, b', hi => by
    have h1 := h.1
    cases b <;> cases b' <;> simp [isK, nthB] at hi <;> exact h1
  | b :: ks, v :: ε, h, i + 1, b', hi => nth_isK (ks := ks) (ε := ε) h.2 (i := i) (by simpa [isK, nthB] using hi)
  | [], [], _, i, _, hi => by simp [isK, nthB] at hi
  | [], _ :: _, h, _, _, _ => h.elim
  | _ :: _, [], h, _, _, _ => h.elim

theorem oneS_den {ks : List Base} {ε : List Value} (hf : Fits ks ε) {v : SV} (h : oneS ks v = true) : (v.den ε).oneCell' = true := by
  cases v with
  | var i => exact nth_one hf h
  | agg l => simp [oneS] at h
  | tuple l => simp [oneS] at h
  | cst v => exact h
  | _ => rfl
theorem allOne_den {ks : List Base} {ε : List Value} (hf : Fits ks ε) : ∀ {l : List SV}, allOne ks l = true → ∀ v ∈ denL ε l, v.oneCell' = true
  | [], _, v, hv => by simp [denL] at hv
  | s :: l, h, v, hv => by
    simp only [allOne, Bool.and_eq_true] at h
    simp only [denL, List.mem_cons] at hv
    rcases hv with rfl | hv
    · exact oneS_den hf h.1
    · exact allOne_den hf h.2 v hv
theorem cellsOk_or {ks : List Base} {v : SV} (h : cellsOk ks v = true) : (∃ l, v = .agg l ∧ allOne ks l = true) ∨ (oneS ks v = true ∧ cellsS v = [v]) := by
  cases v with
  | agg l => exact .inl ⟨l, rfl, h⟩
  | _ => exact .inr ⟨by simpa only [cellsOk] using h, rfl⟩
theorem cellsS_den {ks : List Base} {ε : List Value} (hf : Fits ks ε) {v : SV} (h : cellsOk ks v = true) : (v.den ε).cells = (denL ε (cellsS v)).toArray := by
  rcases cellsOk_or h with ⟨l, rfl, _⟩ | ⟨h1, h2⟩
  · rfl
  · rw [h2, oneCell_cells (oneS_den hf h1)]; rfl
theorem cellsS_one {ks : List Base} {ε : List Value} (hf : Fits ks ε) {v : SV} (h : cellsOk ks v = true) : ∀ u ∈ denL ε (cellsS v), u.oneCell' = true := by
  rcases cellsOk_or h with ⟨l, rfl, h1⟩ | ⟨h1, h2⟩
  · exact allOne_den hf h1
  · rw [h2]; intro u hu; simp [denL] at hu; subst hu; exact oneS_den hf h1

end Go.Sx

/- Part G of a symbolic run of Go code by computation: its states, conditions and the proof that a condition that holds says what the function returns. No conditions of its own. -/
set_option linter.unusedVariables false
set_option linter.unusedSimpArgs false
namespace Go.Sx
open Go.RowKit

section
variable {G : Ctx} {D : List Deferred} {s : St} {ε : List Value} {wx ws : World} {X : Nat → Prop} {a : Act} {w : World} {o : Oper} {p : List BE} {v : SV}

/-- the operation yields v in w' -/
def Yields1 (P : Program) (a : Act) (o : Oper) (v : Value) (w' : World) : Prop := (execOp a.eval o).run P w' = .ok (.value v) w'

theorem y_move (hok : Ok G D s ε wx ws X a w) {x : Operand} (ho : o.op = .move x) (h : stepS G.P s (.move x) = .val p v) (w' : World) : Yields1 G.P a o (v.den ε) w' := by
  simp only [stepS] at h
  split at h
  · rename_i u hu
    cases h
    simp [Yields1, execOp, ho, ev_den hok hu]
  · cases h
theorem y_assign (hok : Ok G D s ε wx ws X a w) {x : Operand} (ho : o.op = .assign x) (h : stepS G.P s (.assign x) = .val p v) (w' : World) : Yields1 G.P a o (v.den ε) w' := by
  simp only [stepS] at h
  split at h
  · rename_i u hu
    cases h
    simp [Yields1, execOp, ho, ev_den hok hu]
  · cases h
theorem y_pick (hok : Ok G D s ε wx ws X a w) {c x y : Operand} (ho : o.op = .pick c x y) (h : stepS G.P s (.pick c x y) = .val p v) (w' : World) : Yields1 G.P a o (v.den ε) w' := by
  simp only [stepS] at h
  split at h
  · rename_i b hb
    have hc := ev_den hok hb
    split at h
    · rename_i hk
      have hk' : b.den ε = true := known_sound hok.path hk
      split at h
      · rename_i u hu
        cases h
        simp [Yields1, execOp, ho, hc, SV.den, hk', asBool, ev_den hok hu]
      · cases h
    · rename_i hk
      have hk' : b.den ε = false := known_sound hok.path hk
      split at h
      · rename_i u hu
        cases h
        simp [Yields1, execOp, ho, hc, SV.den, hk', asBool, ev_den hok hu]
      · cases h
    · cases h
  · cases h
theorem y_unOp (hok : Ok G D s ε wx ws X a w) {u : UnOp} {t : TypeId} {x : Operand} (ho : o.op = .unOp u t x) (h : stepS G.P s (.unOp u t x) = .val p v) (hp : ∀ q ∈ p, q.den ε = true) (w' : World) : Yields1 G.P a o (v.den ε) w' := by
  cases u with
  | not =>
    simp only [stepS] at h
    split at h
    · rename_i b hb
      cases h
      simp [Yields1, execOp, ho, ev_den hok hb, SV.den, Op.unary, mkNot_den]
    · cases h
  | neg =>
    simp only [stepS] at h
    split at h
    · rename_i k e he
      simp only [Res.val.injEq] at h
      obtain ⟨rfl, rfl⟩ := h
      have hw := inR_wrap hp
      rw [mkSub_den] at hw
      have e0 : (IE.lit 0).den ε - e.den ε = 0 - e.den ε := rfl
      simp [Yields1, execOp, ho, ev_den hok he, SV.den, Op.unary, Op.intArith, mkSub_den, e0] at hw ⊢
      simpa [IE.den] using hw
    · cases h
  | xor => simp [stepS, genRes] at h; split at h <;> cases h
  | plus => simp [stepS, genRes] at h; split at h <;> cases h

theorem cmp_den {op : BinOp} {x y : IE} {b : BE} (h : cmpRes op x y = some b) (t : TypeId) (k : IntKind) : binOp op t (.int k (x.den ε)) (.int k (y.den ε)) = pure (.bool (b.den ε)) := by
  cases op <;> simp only [cmpRes, Option.some.injEq, reduceCtorEq] at h
  all_goals subst h
  all_goals simp [binOp, Op.intCmp, mkEq_den, mkNot_den, mkLt_den, mkLe_den, BEq.beq, bne]

theorem eqGuard_int (op : BinOp) (t : TypeId) (x y : Operand) (k : IntKind) (n : Int) (u : Value) : eqGuard op t x y (.int k n) u = pure () := eqGuard_at_int ..
theorem eqGuard_bool (op : BinOp) (t : TypeId) (x y : Operand) (b : Bool) (u : Value) : eqGuard op t x y (.bool b) u = pure () := eqGuard_at_bool ..

theorem bits_den (op : BinOp) (k : IntKind) (x y : Int) (h : op = .and ∨ op = .or ∨ op = .xor ∨ op = .andNot) : Op.intBits op k x y = pure (.int k (bitv op k x y)) := by
  rcases h with rfl | rfl | rfl | rfl <;> rfl

theorem eq_ptr {P : Program} (d : Nat) {t e : TypeId} (r : Option Addr) (hu : P.underlying t = some (.pointer e)) (w'' : World) : (Op.equalIn (d + 1) t (.pointer r) (.pointer none)).run P w'' = .ok r.isNone w'' := by
  cases r <;> simp [Op.equalIn, run_underlying hu]
theorem eq_slice {P : Program} (d : Nat) {t e : TypeId} (r : Option Addr) (n c n' c' : Nat) (hu : P.underlying t = some (.slice e)) (w'' : World) : (Op.equalIn (d + 1) t (.slice r n c) (.slice none n' c')).run P w'' = .ok r.isNone w'' := by
  cases r <;> simp [Op.equalIn, run_underlying hu]
theorem eq_map {P : Program} (d : Nat) {t k e : TypeId} (r : Option Nat) (hu : P.underlying t = some (.map k e)) (w'' : World) : (Op.equalIn (d + 1) t (.map r) (.map none)).run P w'' = .ok r.isNone w'' := by
  cases r <;> simp [Op.equalIn, run_underlying hu]
theorem eq_func {P : Program} (d : Nat) {t : TypeId} {ps rs : Array TypeId} {b : Bool} (f : Fn) (x y : Array Value) (hu : P.underlying t = some (.func ps rs b)) (w'' : World) : (Op.equalIn (d + 1) t (.func f x y) .nilFunc).run P w'' = .ok false w'' := by
  simp [Op.equalIn, run_underlying hu]
theorem eq_nilFunc {P : Program} (d : Nat) {t : TypeId} {ps rs : Array TypeId} {b : Bool} (hu : P.underlying t = some (.func ps rs b)) (w'' : World) : (Op.equalIn (d + 1) t .nilFunc .nilFunc).run P w'' = .ok true w'' := by
  simp [Op.equalIn, run_underlying hu]

theorem y_binOp (hok : Ok G D s ε wx ws X a w) {op : BinOp} {t u : TypeId} {x y : Operand} (ho : o.op = .binOp op t x y u) (h : stepS G.P s (.binOp op t x y u) = .val p v) (hp : ∀ q ∈ p, q.den ε = true) (w' : World) : Yields1 G.P a o (v.den ε) w' := by
  simp only [stepS] at h
  split at h
  · rename_i k e k' e' hx hy
    have h1 := ev_den hok hx
    have h2 := ev_den hok hy
    simp only [SV.den] at h1 h2
    have shl : ∀ q : SV, mkLe (.lit 0) e' ∈ p → q = .int k (.shl k e e') → op = .shl → q.den ε = v.den ε → Yields1 G.P a o (v.den ε) w' := by
      intro q hm hq hop hv
      subst hop
      have hb := hp _ hm
      rw [mkLe_den] at hb
      have hb' : ¬ e'.den ε < 0 := by have := of_decide_eq_true hb; simp only [IE.den] at this; omega
      rw [← hv, hq]
      simp [Yields1, execOp, ho, h1, h2, binOp, Op.shift, SV.den, IE.den, hb', eqGuard_int]
    have shr : ∀ q : SV, mkLe (.lit 0) e' ∈ p → q = .int k (.shr k e e') → op = .shr → q.den ε = v.den ε → Yields1 G.P a o (v.den ε) w' := by
      intro q hm hq hop hv
      subst hop
      have hb := hp _ hm
      rw [mkLe_den] at hb
      have hb' : ¬ e'.den ε < 0 := by have := of_decide_eq_true hb; simp only [IE.den] at this; omega
      rw [← hv, hq]
      simp [Yields1, execOp, ho, h1, h2, binOp, Op.shift, SV.den, IE.den, hb', eqGuard_int]
    split at h
    · rename_i hk
      subst hk
      cases op with
      | add =>
        simp only at h
        split at h
        · simp only [Res.val.injEq] at h
          obtain ⟨rfl, rfl⟩ := h
          have hw := inR_wrap hp
          rw [mkAdd_den] at hw
          simp [Yields1, execOp, ho, h1, h2, eqGuard_int, binOp, Op.intArith, SV.den, mkAdd_den, hw]
        · simp only [Res.val.injEq] at h
          obtain ⟨rfl, rfl⟩ := h
          simp [Yields1, execOp, ho, h1, h2, eqGuard_int, binOp, Op.intArith, SV.den, IE.den, mkAdd_den]
      | sub =>
        simp only at h
        split at h
        · simp only [Res.val.injEq] at h
          obtain ⟨rfl, rfl⟩ := h
          have hw := inR_wrap hp
          rw [mkSub_den] at hw
          simp [Yields1, execOp, ho, h1, h2, eqGuard_int, binOp, Op.intArith, SV.den, mkSub_den, hw]
        · simp only [Res.val.injEq] at h
          obtain ⟨rfl, rfl⟩ := h
          simp [Yields1, execOp, ho, h1, h2, eqGuard_int, binOp, Op.intArith, SV.den, IE.den, mkSub_den]
      | mul =>
        simp only at h
        split at h
        · simp only [Res.val.injEq] at h
          obtain ⟨rfl, rfl⟩ := h
          have hw := inR_wrap hp
          rw [mkMul_den] at hw
          simp [Yields1, execOp, ho, h1, h2, eqGuard_int, binOp, Op.intArith, SV.den, mkMul_den, hw]
        · simp only [Res.val.injEq] at h
          obtain ⟨rfl, rfl⟩ := h
          simp [Yields1, execOp, ho, h1, h2, eqGuard_int, binOp, Op.intArith, SV.den, IE.den, mkMul_den]
      | quo =>
        simp only [Res.val.injEq] at h
        obtain ⟨rfl, rfl⟩ := h
        have hz := hp _ (List.mem_cons_self ..)
        have hw := inR_wrap (fun q hq => hp q (List.mem_cons_of_mem _ hq))
        rw [mkNot_den, mkEq_den] at hz
        have hz' : ¬ e'.den ε = 0 := by intro hh; rw [hh] at hz; simp [IE.den] at hz
        simp only [IE.den] at hw
        simp [Yields1, execOp, ho, h1, h2, eqGuard_int, binOp, Op.intDiv, SV.den, IE.den, hz', hw]
      | rem =>
        simp only [Res.val.injEq] at h
        obtain ⟨rfl, rfl⟩ := h
        have hz := hp _ (List.mem_cons_self ..)
        rw [mkNot_den, mkEq_den] at hz
        have hz' : ¬ e'.den ε = 0 := by intro hh; rw [hh] at hz; simp [IE.den] at hz
        simp [Yields1, execOp, ho, h1, h2, eqGuard_int, binOp, Op.intDiv, SV.den, IE.den, hz']
      | and =>
        simp only [Res.val.injEq] at h
        obtain ⟨rfl, rfl⟩ := h
        simp [Yields1, execOp, ho, h1, h2, eqGuard_int, binOp, bits_den .and k _ _ (by simp), SV.den, IE.den]
      | or =>
        simp only [Res.val.injEq] at h
        obtain ⟨rfl, rfl⟩ := h
        simp [Yields1, execOp, ho, h1, h2, eqGuard_int, binOp, bits_den .or k _ _ (by simp), SV.den, IE.den]
      | xor =>
        simp only [Res.val.injEq] at h
        obtain ⟨rfl, rfl⟩ := h
        simp [Yields1, execOp, ho, h1, h2, eqGuard_int, binOp, bits_den .xor k _ _ (by simp), SV.den, IE.den]
      | andNot =>
        simp only [Res.val.injEq] at h
        obtain ⟨rfl, rfl⟩ := h
        simp [Yields1, execOp, ho, h1, h2, eqGuard_int, binOp, bits_den .andNot k _ _ (by simp), SV.den, IE.den]
      | shl =>
        simp only [Res.val.injEq] at h
        obtain ⟨rfl, rfl⟩ := h
        exact shl _ (by simp) rfl rfl rfl
      | shr =>
        simp only [Res.val.injEq] at h
        obtain ⟨rfl, rfl⟩ := h
        exact shr _ (by simp) rfl rfl rfl
      | _ =>
        simp only at h
        split at h
        · rename_i b hb
          simp only [Res.val.injEq] at h
          obtain ⟨rfl, rfl⟩ := h
          simp only [Yields1, execOp, ho, h1, h2, eqGuard_int]
          rw [cmp_den hb]
          simp [SV.den]
        · cases h
    · split at h
      · simp only [Res.val.injEq] at h
        obtain ⟨rfl, rfl⟩ := h
        exact shl _ (by simp) rfl rfl rfl
      · simp only [Res.val.injEq] at h
        obtain ⟨rfl, rfl⟩ := h
        exact shr _ (by simp) rfl rfl rfl
      · cases h
  · rename_i b b' hx hy
    have h1 := ev_den hok hx
    have h2 := ev_den hok hy
    simp only [SV.den] at h1 h2
    split at h
    · rename_i hu
      have he := fun w'' => run_equal_bool (P := G.P) (w := w'') t (b.den ε) (b'.den ε) hu
      simp only [Res.val.injEq] at h
      obtain ⟨rfl, rfl⟩ := h
      simp [Yields1, execOp, ho, h1, h2, eqGuard_bool, binOp, he, SV.den, BE.den]
    · rename_i hu
      have he := fun w'' => run_equal_bool (P := G.P) (w := w'') t (b.den ε) (b'.den ε) hu
      simp only [Res.val.injEq] at h
      obtain ⟨rfl, rfl⟩ := h
      simp [Yields1, execOp, ho, h1, h2, eqGuard_bool, binOp, he, SV.den, BE.den]
    · cases h
  · rename_i i c hx hy
    have h1 := ev_den hok hx
    have h2 := ev_den hok hy
    simp only [SV.den] at h1 h2
    have key : ∀ b, nilRes G.P s.ks t i c = some b → (∀ w'', (Op.equal t (nth ε i) c).run G.P w'' = .ok (b.den ε) w'') ∧ eqGuard op t x y (nth ε i) c = pure () ∧ (∀ q u, binOp .eql t (nth ε i) c = q → binOp .neq t (nth ε i) c = u → q = (do pure (.bool (← Op.equal t (nth ε i) c))) ∧ u = (do pure (.bool (!(← Op.equal t (nth ε i) c))))) := by
      intro b hb
      simp only [nilRes] at hb
      split at hb
      · rename_i hu
        split at hb
        · rename_i hk
          cases hb
          obtain ⟨r, hr⟩ := nth_isK hok.ks hk
          rw [hr]
          refine ⟨fun w'' => ?_, eqGuard_at_pointer .., fun q u hq hu => ⟨hq ▸ rfl, hu ▸ rfl⟩⟩
          have e : (BE.nil i).den ε = r.isNone := by simp [BE.den, hr, vnil]
          rw [e]
          exact eq_ptr 9999 r hu w''
        · cases hb
      · rename_i hu
        split at hb
        · rename_i hk
          cases hb
          obtain ⟨r, n, c, hr⟩ := nth_isK hok.ks hk
          rw [hr]
          refine ⟨fun w'' => ?_, eqGuard_at_slice .., fun q u hq hu => ⟨hq ▸ rfl, hu ▸ rfl⟩⟩
          have e : (BE.nil i).den ε = r.isNone := by simp [BE.den, hr, vnil]
          rw [e]
          exact eq_slice 9999 r n c _ _ hu w''
        · cases hb
      · rename_i hu
        split at hb
        · rename_i hk
          cases hb
          obtain ⟨r, hr⟩ := nth_isK hok.ks hk
          rw [hr]
          refine ⟨fun w'' => ?_, eqGuard_at_map .., fun q u hq hu => ⟨hq ▸ rfl, hu ▸ rfl⟩⟩
          have e : (BE.nil i).den ε = r.isNone := by simp [BE.den, hr, vnil]
          rw [e]
          exact eq_map 9999 r hu w''
        · cases hb
      · rename_i hu
        split at hb
        · rename_i hk
          cases hb
          have hr := nth_isK hok.ks hk
          simp only [Base.fits] at hr
          cases hv : nth ε i <;> simp [hv, isFn] at hr
          · refine ⟨fun w'' => ?_, eqGuard_at_func .., fun q u hq hu => ⟨hq ▸ rfl, hu ▸ rfl⟩⟩
            rw [show (BE.nil i).den ε = false by simp [BE.den, hv, vnil]]
            exact eq_func 9999 _ _ _ hu w''
          · refine ⟨fun w'' => ?_, eqGuard_at_nilFunc .., fun q u hq hu => ⟨hq ▸ rfl, hu ▸ rfl⟩⟩
            rw [show (BE.nil i).den ε = true by simp [BE.den, hv, vnil]]
            exact eq_nilFunc 9999 hu w''
        · cases hb
      · cases hb
    split at h
    · rename_i b hb
      obtain ⟨k1, k2, k3⟩ := key b hb
      obtain ⟨k4, _⟩ := k3 _ _ rfl rfl
      simp only [Res.val.injEq] at h
      obtain ⟨rfl, rfl⟩ := h
      simp [Yields1, execOp, ho, h1, h2, k2, k4, k1, SV.den]
    · rename_i b hb
      obtain ⟨k1, k2, k3⟩ := key b hb
      obtain ⟨_, k4⟩ := k3 _ _ rfl rfl
      simp only [Res.val.injEq] at h
      obtain ⟨rfl, rfl⟩ := h
      simp [Yields1, execOp, ho, h1, h2, k2, k4, k1, SV.den, mkNot_den]
    · simp only [genRes] at h
      split at h <;> cases h
  · rename_i i off c hx hy
    have h1 := ev_den hok hx
    have h2 := ev_den hok hy
    simp only [SV.den] at h1 h2
    have key : ptrNil G.P s t i c = true → ∃ r e, nth ε i = .pointer (some r) ∧ c = .pointer none ∧ G.P.underlying t = some (.pointer e) := by
      intro hb
      unfold ptrNil at hb
      split at hb
      · rename_i e hu
        obtain ⟨cells, hc⟩ := Option.isSome_iff_exists.1 hb
        obtain ⟨b, ty, hp', _⟩ := findH_facts hok.hp hc
        exact ⟨_, e, hp', rfl, hu⟩
      · cases hb
    split at h
    · rename_i hb
      obtain ⟨r, e, hr, rfl, hu⟩ := key hb
      simp only [hr, vaddr, addO, Option.map_some] at h1
      have he := fun w'' => eq_ptr (P := G.P) 9999 (some (r.add off)) hu w''
      simp only [Res.val.injEq] at h
      obtain ⟨rfl, rfl⟩ := h
      have he' : ∀ w'', (Op.equal t (.pointer (some (r.add off))) (.pointer none)).run G.P w'' = .ok false w'' := he
      simp [Yields1, execOp, ho, h1, h2, eqGuard_at_pointer, binOp, he', SV.den, BE.den]
    · rename_i hb
      obtain ⟨r, e, hr, rfl, hu⟩ := key hb
      simp only [hr, vaddr, addO, Option.map_some] at h1
      have he := fun w'' => eq_ptr (P := G.P) 9999 (some (r.add off)) hu w''
      simp only [Res.val.injEq] at h
      obtain ⟨rfl, rfl⟩ := h
      have he' : ∀ w'', (Op.equal t (.pointer (some (r.add off))) (.pointer none)).run G.P w'' = .ok false w'' := he
      simp [Yields1, execOp, ho, h1, h2, eqGuard_at_pointer, binOp, he', SV.den, BE.den]
    · simp only [genRes] at h
      split at h <;> cases h
  · rename_i c d hx hy
    have h1 := ev_den hok hx
    have h2 := ev_den hok hy
    simp only [SV.den] at h1 h2
    have key : nilNil G.P t c d = true → (∀ w'', (Op.equal t c d).run G.P w'' = .ok true w'') ∧ eqGuard op t x y c d = pure () ∧ (∀ q u, binOp .eql t c d = q → binOp .neq t c d = u → q = (do let b ← Op.equal t c d; pure (.bool b)) ∧ u = (do let b ← Op.equal t c d; pure (.bool !b))) := by
      intro hb
      unfold nilNil at hb
      split at hb
      · rename_i e hu
        exact ⟨fun w'' => eq_ptr (P := G.P) 9999 none hu w'', eqGuard_at_pointer .., fun q u hq hu => ⟨hq ▸ rfl, hu ▸ rfl⟩⟩
      · rename_i e n c' n' c'' hu
        exact ⟨fun w'' => eq_slice (P := G.P) 9999 none _ _ _ _ hu w'', eqGuard_at_slice .., fun q u hq hu => ⟨hq ▸ rfl, hu ▸ rfl⟩⟩
      · cases hb
    split at h
    · rename_i hb
      obtain ⟨k1, k2, k3⟩ := key hb
      obtain ⟨k4, _⟩ := k3 _ _ rfl rfl
      simp only [Res.val.injEq] at h
      obtain ⟨rfl, rfl⟩ := h
      simp [Yields1, execOp, ho, h1, h2, k2, k4, k1, SV.den, BE.den]
    · rename_i hb
      obtain ⟨k1, k2, k3⟩ := key hb
      obtain ⟨_, k4⟩ := k3 _ _ rfl rfl
      simp only [Res.val.injEq] at h
      obtain ⟨rfl, rfl⟩ := h
      simp [Yields1, execOp, ho, h1, h2, k2, k4, k1, SV.den, BE.den]
    · simp only [genRes] at h
      split at h <;> cases h
  · simp only [genRes] at h
    split at h <;> cases h
end
end Go.Sx

/- Part H of a symbolic run of Go code by computation: its states, conditions and the proof that a condition that holds says what the function returns. No conditions of its own. -/
set_option linter.unusedVariables false
set_option linter.unusedSimpArgs false
namespace Go.Sx
open Go.RowKit

section
variable {G : Ctx} {D : List Deferred} {s : St} {ε : List Value} {wx ws : World} {X : Nat → Prop} {a : Act} {w : World} {o : Oper} {p : List BE} {v : SV}

theorem run_info {P : Program} {t : TypeId} {i : TypeInfo} (h : P.info? t = some i) (w : World) : (typeInfo t).run P w = .ok i w := by
  simp [typeInfo, h]
theorem run_size {P : Program} {t : TypeId} {n : Nat} (h : sizeT P t = some n) (w : World) : (sizeOf t).run P w = .ok n w := by
  simp only [sizeT, Option.map_eq_some_iff] at h
  obtain ⟨i, hi, rfl⟩ := h
  simp [sizeOf, run_info hi]
theorem run_isAgg {P : Program} {t : TypeId} {b : Bool} (h : isAggT P t = some b) (w : World) : (isAgg t).run P w = .ok b w := by
  unfold isAggT at h
  cases hd : P.underlying t with
  | none => simp [hd] at h
  | some d => cases d <;> simp [hd] at h <;> subst h <;> simp [isAgg, run_underlying hd]

theorem y_convert (hok : Ok G D s ε wx ws X a w) {src dst : TypeId} {x : Operand} (ho : o.op = .convert src dst x) (h : stepS G.P s (.convert src dst x) = .val p v) (hp : ∀ q ∈ p, q.den ε = true) (w' : World) : Yields1 G.P a o (v.den ε) w' := by
  simp only [stepS] at h
  split at h
  · rename_i k0 e k' k hx hs hd
    have h1 := ev_den hok hx
    simp only [SV.den] at h1
    have hr : (convert src dst (.int k0 (e.den ε))).run G.P w' = .ok (.int k (k.wrap (e.den ε))) w' := by
      simp [convert, run_underlying hs, run_underlying hd, Conv.intToInt]
    split at h
    · simp only [Res.val.injEq] at h
      obtain ⟨rfl, rfl⟩ := h
      have hw := inR_wrap hp
      rw [hw] at hr
      simp [Yields1, execOp, ho, h1, hr, SV.den]
    · simp only [Res.val.injEq] at h
      obtain ⟨rfl, rfl⟩ := h
      simp [Yields1, execOp, ho, h1, hr, SV.den, IE.den]
  · simp only [genRes] at h
    split at h
    · split at h <;> cases h
    · cases h

theorem y_makeFunc (hok : Ok G D s ε wx ws X a w) {fn : Fn} {first captured : Array Operand} (ho : o.op = .makeFunc fn first captured) (h : stepS G.P s (.makeFunc fn first captured) = .val p v) (w' : World) : Yields1 G.P a o (v.den ε) w' := by
  cases fn with
  | func f =>
    simp only [stepS] at h
    split at h
    · rename_i hf
      split at h
      · rename_i vs hvs
        simp only [Res.val.injEq] at h
        obtain ⟨rfl, rfl⟩ := h
        have h1 := evs_den hok hvs
        have hf' : first = #[] := by simpa using hf
        have h2 : captured.map a.eval = (denL ε vs).toArray := by rw [← h1]; apply Array.ext'; simp
        subst hf'
        simp [Yields1, execOp, ho, h2, SV.den, Instr.makeFunc]
      · cases h
    · cases h
  | _ => simp [stepS] at h

theorem y_extract (hok : Ok G D s ε wx ws X a w) {x : Operand} {ix : Nat} (ho : o.op = .extract x ix) (h : stepS G.P s (.extract x ix) = .val p v) (w' : World) : Yields1 G.P a o (v.den ε) w' := by
  simp only [stepS] at h
  split at h
  · rename_i l hx
    have h1 := ev_den hok hx
    split at h
    · rename_i u hu
      simp only [Res.val.injEq] at h
      obtain ⟨rfl, rfl⟩ := h
      have h2 : (denL ε l)[ix]? = some (u.den ε) := by rw [denL_get, hu]; rfl
      simp [Yields1, execOp, ho, h1, SV.den, Instr.extract, h2]
    · cases h
  · cases h

theorem addO_zero (x : Option Addr) : addO x 0 = x := by cases x <;> simp [addO, Addr.add]
theorem add_add (x : Addr) (m n : Nat) : (x.add m).add n = x.add (m + n) := by
  unfold Addr.add
  by_cases hm : m = 0
  · simp [hm]
  · by_cases hn : n = 0
    · simp [hn, hm]
    · simp [hm, hn, Nat.add_assoc]
theorem pz_sound (hok : Ok G D s ε wx ws X a w) {i : Nat} {q : List BE} (h : pz s i = some q) (hq : ∀ b ∈ q, b.den ε = true) : ∃ ad, vaddr (nth ε i) = some ad := by
  unfold pz at h
  split at h
  · rename_i hf
    obtain ⟨l, hl⟩ := Option.isSome_iff_exists.1 hf
    obtain ⟨b, ty, hb, _⟩ := findH_facts hok.hp hl
    exact ⟨⟨b, 0, none⟩, by rw [hb]; rfl⟩
  · split at h
    · rename_i hk
      have hn : vnil (nth ε i) = false := by
        simp only [Option.some.injEq] at h
        split at h
        · rename_i hkn
          simpa [BE.den] using known_sound hok.path hkn
        · subst h
          have := hq _ (List.mem_cons_self ..)
          simpa [BE.den] using this
      simp only [isPS, Bool.or_eq_true] at hk
      rcases hk with hk | hk
      · obtain ⟨r, hr⟩ := nth_isK hok.ks hk
        rw [hr] at hn ⊢
        cases r with
        | none => simp [vnil] at hn
        | some r => exact ⟨r, rfl⟩
      · obtain ⟨r, n, c, hr⟩ := nth_isK hok.ks hk
        rw [hr] at hn ⊢
        cases r with
        | none => simp [vnil] at hn
        | some r => exact ⟨r, rfl⟩
    · cases h

theorem y_nilCheck (hok : Ok G D s ε wx ws X a w) {x : Operand} (ho : o.op = .nilCheck x) (h : stepS G.P s (.nilCheck x) = .val p v) (hp : ∀ q ∈ p, q.den ε = true) (w' : World) : Yields1 G.P a o (v.den ε) w' := by
  simp only [stepS] at h
  split at h
  · rename_i i hx
    have h1 := ev_den hok hx
    simp only [SV.den] at h1
    split at h
    · rename_i hk
      split at h
      · rename_i q hq
        simp only [Res.val.injEq] at h
        obtain ⟨rfl, rfl⟩ := h
        obtain ⟨r, hr⟩ := nth_isK hok.ks hk
        obtain ⟨ad, had⟩ := pz_sound hok hq hp
        rw [hr] at had
        cases had
        simp [Yields1, execOp, ho, h1, hr, SV.den, vaddr, addO_zero]
      · cases h
    · cases h
  · rename_i i off hx
    have h1 := ev_den hok hx
    split at h
    · rename_i q hq
      simp only [Res.val.injEq] at h
      obtain ⟨rfl, rfl⟩ := h
      obtain ⟨ad, had⟩ := pz_sound hok hq hp
      simp [Yields1, execOp, ho, h1, SV.den, had, addO]
    · cases h
  · rename_i i off e z o2 hx
    have h1 := ev_den hok hx
    split at h
    · rename_i q hq
      simp only [Res.val.injEq] at h
      obtain ⟨rfl, rfl⟩ := h
      obtain ⟨ad, had⟩ := pz_sound hok hq hp
      simp [Yields1, execOp, ho, h1, SV.den, had, addO]
    · cases h
  · rename_i f l hx
    have h1 := ev_den hok hx
    simp only [Res.val.injEq] at h
    obtain ⟨rfl, rfl⟩ := h
    simp [Yields1, execOp, ho, h1, SV.den]
  · cases h

theorem y_fieldAddr (hok : Ok G D s ε wx ws X a w) {t : TypeId} {x : Operand} {f : Nat} (ho : o.op = .fieldAddr t x f) (h : stepS G.P s (.fieldAddr t x f) = .val p v) (hp : ∀ q ∈ p, q.den ε = true) (w' : World) : Yields1 G.P a o (v.den ε) w' := by
  simp only [stepS] at h
  split at h
  · rename_i fields hu
    split at h
    · rename_i fd hfd
      split at h
      · rename_i m hm
        have hs := fun w'' => run_size (P := G.P) hm w''
        split at h
        · rename_i i off hx
          have h1 := ev_den hok hx
          split at h
          · rename_i q hq
            simp only [Res.val.injEq] at h
            obtain ⟨rfl, rfl⟩ := h
            obtain ⟨ad, had⟩ := pz_sound hok hq hp
            simp [Yields1, execOp, ho, h1, SV.den, had, addO, Instr.fieldAt, Instr.sureAddr, run_underlying hu, hfd, fieldPlace, hs, add_add]
          · cases h
        · rename_i i off e z o2 hx
          have h1 := ev_den hok hx
          split at h
          · rename_i q hq
            simp only [Res.val.injEq] at h
            obtain ⟨rfl, rfl⟩ := h
            obtain ⟨ad, had⟩ := pz_sound hok hq hp
            simp [Yields1, execOp, ho, h1, SV.den, had, addO, Instr.fieldAt, Instr.sureAddr, run_underlying hu, hfd, fieldPlace, hs, add_add, Nat.add_assoc]
          · cases h
        · cases h
      · cases h
    · cases h
  · cases h

theorem y_field (hok : Ok G D s ε wx ws X a w) {t : TypeId} {x : Operand} {f : Nat} (ho : o.op = .field t x f) (h : stepS G.P s (.field t x f) = .val p v) (w' : World) : Yields1 G.P a o (v.den ε) w' := by
  simp only [stepS] at h
  split at h
  · rename_i fields hu
    split at h
    · rename_i fd hfd
      split at h
      · rename_i l n hx hn
        have h1 := ev_den hok hx
        have hs := fun w'' => run_size (P := G.P) hn w''
        split at h
        · rename_i hag
          have hi := fun w'' => run_isAgg (P := G.P) hag w''
          split at h
          · rename_i hle
            simp only [Res.val.injEq] at h
            obtain ⟨rfl, rfl⟩ := h
            simp [Yields1, execOp, ho, h1, SV.den, Instr.field, run_underlying hu, hfd, asAgg, part, hi, hs, denL_take, denL_drop]
          · cases h
        · rename_i hag
          have hi := fun w'' => run_isAgg (P := G.P) hag w''
          split at h
          · rename_i u hu'
            simp only [Res.val.injEq] at h
            obtain ⟨rfl, rfl⟩ := h
            have h2 : (denL ε l)[fd.offset]? = some (u.den ε) := by rw [denL_get, hu']; rfl
            simp [Yields1, execOp, ho, h1, SV.den, Instr.field, run_underlying hu, hfd, asAgg, part, hi, hs, h2]
          · cases h
        · cases h
      · cases h
    · cases h
  · cases h

theorem litN_den (ε : List Value) {e : IE} {n : Nat} (h : litN e = some n) : e.den ε = (n : Int) := by
  cases e with
  | lit m => cases m <;> simp [litN] at h; subst h; rfl
  | _ => simp [litN] at h

theorem y_indexAddr (hok : Ok G D s ε wx ws X a w) {t : TypeId} {x ix : Operand} (ho : o.op = .indexAddr t x ix) (h : stepS G.P s (.indexAddr t x ix) = .val p v) (hp : ∀ q ∈ p, q.den ε = true) (w' : World) : Yields1 G.P a o (v.den ε) w' := by
  simp only [stepS] at h
  split at h
  · rename_i el i k e hu hx hix
    have h1 := ev_den hok hx
    have h2 := ev_den hok hix
    split at h
    · rename_i n q hn hq
      split at h
      · rename_i hsl
        simp only [Res.val.injEq] at h
        obtain ⟨rfl, rfl⟩ := h
        obtain ⟨ad, had⟩ := pz_sound hok hq (fun b hb => hp b (by simp [hb]))
        have b1 := hp (mkLe (.lit 0) e) (by simp)
        have b2 := hp (mkLt e (.len i)) (by simp)
        rw [mkLe_den] at b1
        rw [mkLt_den] at b2
        have b1' := of_decide_eq_true b1
        have b2' := of_decide_eq_true b2
        simp only [IE.den] at b1' b2'
        obtain ⟨r, m, c, hr⟩ := nth_slice hok.ks hsl
        rw [hr] at had b2'
        cases had
        simp only [vlen] at b2'
        have hs := fun w'' => run_size (P := G.P) hn w''
        simp only [SV.den] at h1 h2
        simp [Yields1, execOp, ho, h1, h2, SV.den, Instr.indexAt, asIntOf, hr, run_underlying hu, vaddr, addO, hs, b1', b2', Addr.add_zero']
      · cases h
    · cases h
  · rename_i el i lo m c k e hu hx hix
    have h1 := ev_den hok hx
    have h2 := ev_den hok hix
    split at h
    · rename_i n q hn hq
      have hs := fun w'' => run_size (P := G.P) hn w''
      split at h
      · rename_i j hj
        split at h
        · rename_i hlt
          simp only [Res.val.injEq] at h
          obtain ⟨rfl, rfl⟩ := h
          obtain ⟨ad, had⟩ := pz_sound hok hq hp
          have hj' := litN_den ε hj
          simp only [SV.den, had, addO, Option.map_some, hj'] at h1 h2
          have hlt' : j < m := by simpa using hlt
          simp [Yields1, execOp, ho, h1, h2, SV.den, Instr.indexAt, asIntOf, had, run_underlying hu, addO, hs, hlt', add_add]
        · cases h
      · simp only [Res.val.injEq] at h
        obtain ⟨rfl, rfl⟩ := h
        obtain ⟨ad, had⟩ := pz_sound hok hq (fun b hb => hp b (by simp [hb]))
        have b1 := hp (mkLe (.lit 0) e) (by simp)
        have b2 := hp (mkLt e (.lit m)) (by simp)
        rw [mkLe_den] at b1
        rw [mkLt_den] at b2
        have b1' := of_decide_eq_true b1
        have b2' := of_decide_eq_true b2
        simp only [IE.den] at b1' b2'
        simp only [SV.den, had, addO, Option.map_some] at h1 h2
        simp [Yields1, execOp, ho, h1, h2, SV.den, Instr.indexAt, asIntOf, had, run_underlying hu, addO, hs, b1', b2', add_add, Addr.add_zero']
    · cases h
  · rename_i m el i lo k e hu hx hix
    have h1 := ev_den hok hx
    have h2 := ev_den hok hix
    split at h
    · rename_i n q hn hq
      have hs := fun w'' => run_size (P := G.P) hn w''
      split at h
      · rename_i j hj
        split at h
        · rename_i hlt
          simp only [Res.val.injEq] at h
          obtain ⟨rfl, rfl⟩ := h
          obtain ⟨ad, had⟩ := pz_sound hok hq hp
          have hj' := litN_den ε hj
          simp only [SV.den, had, addO, Option.map_some, hj'] at h1 h2
          have hlt' : j < m := by simpa using hlt
          simp [Yields1, execOp, ho, h1, h2, SV.den, Instr.indexAt, Instr.sureAddr, asIntOf, had, run_underlying hu, addO, hs, hlt', add_add]
        · cases h
      · simp only [Res.val.injEq] at h
        obtain ⟨rfl, rfl⟩ := h
        obtain ⟨ad, had⟩ := pz_sound hok hq (fun b hb => hp b (by simp [hb]))
        have b1 := hp (mkLe (.lit 0) e) (by simp)
        have b2 := hp (mkLt e (.lit m)) (by simp)
        rw [mkLe_den] at b1
        rw [mkLt_den] at b2
        have b1' := of_decide_eq_true b1
        have b2' := of_decide_eq_true b2
        simp only [IE.den] at b1' b2'
        simp only [SV.den, had, addO, Option.map_some] at h1 h2
        simp [Yields1, execOp, ho, h1, h2, SV.den, Instr.indexAt, Instr.sureAddr, asIntOf, had, run_underlying hu, addO, hs, b1', b2', add_add, Addr.add_zero']
    · cases h
  · cases h

theorem y_slice (hok : Ok G D s ε wx ws X a w) {t : TypeId} {x : Operand} {lo hi mx : Option Operand} (ho : o.op = .slice t x lo hi mx) (h : stepS G.P s (.slice t x lo hi mx) = .val p v) (hp : ∀ q ∈ p, q.den ε = true) (w' : World) : Yields1 G.P a o (v.den ε) w' := by
  simp only [stepS] at h
  split at h
  · rename_i m el i off hu hx
    have h1 := ev_den hok hx
    split at h
    · rename_i n q hn hq
      simp only [Res.val.injEq] at h
      obtain ⟨rfl, rfl⟩ := h
      obtain ⟨ad, had⟩ := pz_sound hok hq hp
      have hs := fun w'' => run_size (P := G.P) hn w''
      simp only [SV.den, had, addO, Option.map_some] at h1
      simp [Yields1, execOp, ho, h1, SV.den, Instr.sliceAt, Instr.sureAddr, Instr.sliceBounds, had, run_underlying hu, addO, hs, Addr.add_zero']
    · cases h
  · simp only [genRes] at h
    split at h <;> cases h

theorem hasBlk_cell {w : World} {q : Value} {cells : List Value} (h : HasBlk w q cells) : ∃ b, q = .pointer (some ⟨b, 0, none⟩) ∧ ∀ j, w.cell? ⟨b, j, none⟩ = cells[j]? := by
  obtain ⟨b, ty, hb, hh⟩ := h
  exact ⟨b, hb, fun j => by simp [World.cell?, hh]⟩

theorem addr_add (b m n : Nat) : (Addr.mk b m none).add n = ⟨b, m + n, none⟩ := by
  unfold Addr.add; split <;> simp_all

theorem y_load (hok : Ok G D s ε wx ws X a w) {t : TypeId} {x : Operand} (ho : o.op = .load t x) (h : stepS G.P s (.load t x) = .val p v) (w' : World)
    (hl : ∀ i off cells, s.ev x = some (.ptr i off) → findH s.heap i = some cells → HasBlk w' (nth ε i) (denL ε cells)) : Yields1 G.P a o (v.den ε) w' := by
  simp only [stepS] at h
  split at h
  · rename_i i off n hx hn
    have h1 := ev_den hok hx
    have hs := fun w'' => run_size (P := G.P) hn w''
    split at h
    · rename_i cells hc
      obtain ⟨b, hb, hcell⟩ := hasBlk_cell (hl i off cells hx hc)
      simp only [SV.den, hb, vaddr, addO, Option.map_some, addr_add, Nat.zero_add] at h1
      split at h
      · rename_i hag
        have hi := fun w'' => run_isAgg (P := G.P) hag w''
        split at h
        · rename_i hle
          simp only [Res.val.injEq] at h
          obtain ⟨rfl, rfl⟩ := h
          have hle' : off + n ≤ cells.length := Nat.le_of_ble_eq_true hle
          have hlen : (denL ε (takeN n (dropN off cells))).length = n := by
            rw [denL_take, denL_drop]; simp [denL_length]; omega
          have hlc : (loadCells ⟨b, off, none⟩ n).run G.P w' = .ok (denL ε (takeN n (dropN off cells))).toArray w' := by
            have := run_loadCells_list (P := G.P) (w := w') ⟨b, off, none⟩ (denL ε (takeN n (dropN off cells))) (by
              intro j u hj
              rw [addr_add, hcell, denL_take, denL_drop] at *
              rw [List.getElem?_take] at hj
              split at hj
              · rw [List.getElem?_drop] at hj; exact hj
              · cases hj)
            rw [hlen] at this
            exact this
          simp [Yields1, execOp, ho, h1, SV.den, Instr.loadAt, Instr.sureAddr, loadVar, hi, hs, hlc]
        · cases h
      · rename_i hag
        have hi := fun w'' => run_isAgg (P := G.P) hag w''
        split at h
        · rename_i u hu'
          simp only [Res.val.injEq] at h
          obtain ⟨rfl, rfl⟩ := h
          have h2 : w'.cell? ⟨b, off, none⟩ = some (u.den ε) := by rw [hcell, denL_get, hu']; rfl
          simp [Yields1, execOp, ho, h1, SV.den, Instr.loadAt, Instr.sureAddr, loadVar, hi, load, Sem.run, h2]
        · cases h
      · cases h
    · split at h <;> (try split at h) <;> cases h
  · split at h <;> (try split at h) <;> cases h
  · cases h
theorem y_call (hok : Ok G D s ε wx ws X a w) {c : Call} (ho : o.op = .call c) (h : stepS G.P s (.call c) = .val p v) (w' : World) : Yields1 G.P a o (v.den ε) w' := by
  obtain ⟨callee, args, argTypes⟩ := c
  have hargs : ∀ {vs : List SV}, evs s args.toList = some vs → args.map a.eval = (denL ε vs).toArray := fun hv => by
    rw [← evs_den hok hv]; apply Array.ext'; simp
  cases callee with
  | value f =>
    simp only [stepS] at h
    split at h
    · split at h <;> cases h
    · simp only [genRes] at h
      split at h
      · split at h <;> cases h
      · cases h
    · cases h
  | invoke r m => simp [stepS] at h
  | builtin b =>
    cases b with
    | len =>
      simp only [stepS] at h
      split at h
      · rename_i i el hv hu
        split at h
        · rename_i hsl
          simp only [Res.val.injEq] at h
          obtain ⟨rfl, rfl⟩ := h
          obtain ⟨r, n, c, hr⟩ := nth_slice hok.ks hsl
          have h1 := hargs hv
          simp only [denL, SV.den, hr] at h1
          obtain ⟨t, ht, hu'⟩ := Option.bind_eq_some_iff.1 hu
          have htd : argTypes.getD 0 0 = t := by simp [Array.getD_eq_getD_getElem?, ht]
          simp [Yields1, execOp, ho, resolve, invoke, builtin, h1, Builtin.len_, goInt, SV.den, IE.den, hr, vlen, htd, run_underlying hu', ht]
        · cases h
      · rename_i i lo n c el hv hu
        simp only [Res.val.injEq] at h
        obtain ⟨rfl, rfl⟩ := h
        have h1 := hargs hv
        simp only [denL, SV.den] at h1
        obtain ⟨t, ht, hu'⟩ := Option.bind_eq_some_iff.1 hu
        have htd : argTypes.getD 0 0 = t := by simp [Array.getD_eq_getD_getElem?, ht]
        simp [Yields1, execOp, ho, resolve, invoke, builtin, h1, Builtin.len_, goInt, SV.den, IE.den, htd, run_underlying hu', ht]
      · simp only [genRes] at h
        split at h <;> cases h
    | cap =>
      simp only [stepS] at h
      split at h
      · rename_i i el hv hu
        split at h
        · rename_i hsl
          simp only [Res.val.injEq] at h
          obtain ⟨rfl, rfl⟩ := h
          obtain ⟨r, n, c, hr⟩ := nth_slice hok.ks hsl
          have h1 := hargs hv
          simp only [denL, SV.den, hr] at h1
          obtain ⟨t, ht, hu'⟩ := Option.bind_eq_some_iff.1 hu
          have htd : argTypes.getD 0 0 = t := by simp [Array.getD_eq_getD_getElem?, ht]
          simp [Yields1, execOp, ho, resolve, invoke, builtin, h1, Builtin.cap_, goInt, SV.den, IE.den, hr, vcap, htd, run_underlying hu', ht]
        · cases h
      · rename_i i lo n c el hv hu
        simp only [Res.val.injEq] at h
        obtain ⟨rfl, rfl⟩ := h
        have h1 := hargs hv
        simp only [denL, SV.den] at h1
        obtain ⟨t, ht, hu'⟩ := Option.bind_eq_some_iff.1 hu
        have htd : argTypes.getD 0 0 = t := by simp [Array.getD_eq_getD_getElem?, ht]
        simp [Yields1, execOp, ho, resolve, invoke, builtin, h1, Builtin.cap_, goInt, SV.den, IE.den, htd, run_underlying hu', ht]
      · simp only [genRes] at h
        split at h <;> cases h
    | min =>
      simp only [stepS] at h
      split at h
      · rename_i k x k' y hv
        simp only [Res.val.injEq] at h
        obtain ⟨rfl, rfl⟩ := h
        have h1 := hargs hv
        simp only [denL, SV.den] at h1
        simp [Yields1, execOp, ho, resolve, invoke, builtin, h1, Builtin.min_, Builtin.min2, SV.den, IE.den]
      · simp only [genRes] at h
        split at h <;> cases h
    | max =>
      simp only [stepS] at h
      split at h
      · rename_i k x k' y hv
        simp only [Res.val.injEq] at h
        obtain ⟨rfl, rfl⟩ := h
        have h1 := hargs hv
        simp only [denL, SV.den] at h1
        simp [Yields1, execOp, ho, resolve, invoke, builtin, h1, Builtin.max_, Builtin.max2, SV.den, IE.den]
      · simp only [genRes] at h
        split at h <;> cases h
    | _ => simp only [stepS, genRes] at h; split at h <;> cases h
end
end Go.Sx
