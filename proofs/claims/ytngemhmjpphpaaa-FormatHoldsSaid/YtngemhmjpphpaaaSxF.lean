/- Part F of a symbolic run of Go code by computation: its states, conditions and the proof that a condition that holds says what the function returns. No conditions of its own. -/
import Derived.Test.YtngemhmjpphpaaaSxE
set_option linter.unusedVariables false
set_option linter.unusedSimpArgs false
namespace Go.Sx
open Go.RowKit

/-! ### the state of the symbolic run and the machine's -/
/-- the marks that ranges over functions have left: each one's block holds no deferred call -/
structure Marks (G : Ctx) (D ds : List Deferred) (w : World) : Prop where
  none : D = [] → ds = []
  keep : ds ≠ [] → G.rc = true
  one : ∀ d ∈ ds, ∃ b, d = { target := .collected b, args := #[] } ∧ G.W0.heap.size ≤ b ∧ w.heap[b]? = some (.deferred (some []))
  nd : ds.Pairwise (fun d e => ∀ b b', d.target = .collected b → e.target = .collected b' → b ≠ b')
  recs : G.rc = true → ∀ b, IsRec G.W0 b → w.heap[b]? = G.W0.heap[b]?
theorem Marks.to {G : Ctx} {D ds : List Deferred} {w w' : World} (h : Marks G D ds w) (hk : G.rc = true → ∀ b, IsRec w b → w'.heap[b]? = w.heap[b]?) : Marks G D ds w' where
  none := h.none
  keep := h.keep
  one := fun d hd => by
    obtain ⟨b, h1, h2, h3⟩ := h.one d hd
    exact ⟨b, h1, h2, (hk (h.keep (fun e => by rw [e] at hd; simp at hd)) b ⟨_, h3, rfl⟩).trans h3⟩
  nd := h.nd
  recs := fun hr b hb => by
    have h1 := h.recs hr b hb
    refine (hk hr b ?_).trans h1
    obtain ⟨o, ho, hi⟩ := hb
    exact ⟨o, by rw [h1]; exact ho, hi⟩
theorem Marks.empty {G : Ctx} {D : List Deferred} {w : World} (h : G.rc = true → ∀ b, IsRec G.W0 b → w.heap[b]? = G.W0.heap[b]?) : Marks G D [] w :=
  ⟨fun _ => rfl, fun h => absurd rfl h, fun d hd => by simp at hd, List.Pairwise.nil, h⟩

structure Ok (G : Ctx) (D : List Deferred) (s : St) (ε : List Value) (wx ws : World) (X : Nat → Prop) (a : Act) (w : World) : Prop where
  defers : Marks G D a.defers w
  ltm : a.tmps.size = s.tmps.length
  tm : ∀ i v, getL s.tmps i = some v → a.tmps[i]? = some (v.den ε)
  ks : Fits s.ks ε
  hp : FactsAt ε w s.heap
  nd : (keys s.heap).Nodup
  dj : ∀ i j, i ∈ keys s.heap → j ∈ keys s.heap → i ≠ j → blkOf (nth ε i) ≠ blkOf (nth ε j)
  base : Kept G.M G.W0 w
  kx : Kept (BlkIn ε s.t0) wx w
  kws : s.drawn = true → Kept X ws w
  kwz : ws.heap.size ≤ w.heap.size
  kX : s.drawn = true → ∀ i ∈ keys s.heap, ∀ b, blkOf (nth ε i) = some b → b < ws.heap.size → X b
  kM : ∀ i ∈ keys s.heap, ∀ b, blkOf (nth ε i) = some b → b < G.W0.heap.size → G.M b
  path : ∀ b r, (b, r) ∈ s.path → b.den ε = r

/-! lists -/
theorem getL_setL {α : Type} : ∀ (l : List (Option α)) (i j : Nat) (v : Option α) (x : α), getL (setL l i v) j = some x → (j = i ∧ v = some x ∧ i < l.length) ∨ (j ≠ i ∧ getL l j = some x)
  | [], _, _, _, _, h => by cases h
  | y :: l, 0, 0, v, x, h => .inl ⟨rfl, h, by simp⟩
  | y :: l, 0, j + 1, v, x, h => .inr ⟨by omega, h⟩
  | y :: l, i + 1, 0, v, x, h => .inr ⟨by omega, h⟩
  | y :: l, i + 1, j + 1, v, x, h => by
    rcases getL_setL l i j v x h with ⟨h1, h2, h3⟩ | ⟨h1, h2⟩
    · exact .inl ⟨by omega, h2, by simp; omega⟩
    · exact .inr ⟨by omega, h2⟩
theorem length_setL {α : Type} : ∀ (l : List (Option α)) (i : Nat) (v : Option α), (setL l i v).length = l.length
  | [], _, _ => rfl
  | _ :: l, 0, _ => rfl
  | _ :: l, i + 1, v => by simp [setL, length_setL l i v]
theorem getL_lt {α : Type} : ∀ (l : List (Option α)) (i : Nat) (x : α), getL l i = some x → i < l.length
  | [], _, _, h => by cases h
  | _ :: _, 0, _, _ => by simp
  | _ :: l, i + 1, x, h => by simp; exact getL_lt l i x h

theorem takeN_eq {α : Type} : ∀ (n : Nat) (l : List α), takeN n l = l.take n
  | 0, _ => by simp [takeN]
  | n + 1, [] => by simp [takeN]
  | n + 1, x :: l => by simp [takeN, takeN_eq n l]
theorem dropN_eq {α : Type} : ∀ (n : Nat) (l : List α), dropN n l = l.drop n
  | 0, _ => by simp [dropN]
  | n + 1, [] => by simp [dropN]
  | n + 1, x :: l => by simp [dropN, dropN_eq n l]

theorem ofConst_den (ε : List Value) (v : Value) : (ofConst v).den ε = v := by
  cases v <;> rfl
theorem oneCell_cells {v : Value} (h : v.oneCell' = true) : v.cells = #[v] := by cases v <;> simp_all [Value.cells, Value.oneCell']

theorem memN_iff {i : Nat} : ∀ {l : List Nat}, memN i l = true ↔ i ∈ l
  | [] => by simp [memN]
  | j :: l => by simp [memN, memN_iff (l := l)]

theorem findH_mem : ∀ {fs : Facts} {i : Nat} {l : List SV}, findH fs i = some l → i ∈ keys fs
  | [], _, _, h => by cases h
  | (j, m) :: fs, i, l, h => by
    simp only [findH] at h
    split at h
    · rename_i hb; simp [keys]; left; exact (Nat.eq_of_beq_eq_true hb).symm
    · simp [keys]; right; exact findH_mem h
theorem findH_facts {ε : List Value} {w : World} : ∀ {fs : Facts} {i : Nat} {l : List SV}, FactsAt ε w fs → findH fs i = some l → HasBlk w (nth ε i) (denL ε l)
  | [], _, _, _, h => by cases h
  | (j, m) :: fs, i, l, hf, h => by
    simp only [findH] at h
    split at h
    · rename_i hb
      obtain rfl := Nat.eq_of_beq_eq_true hb
      cases h
      exact hf.1
    · exact findH_facts hf.2 h
theorem keys_setH : ∀ (fs : Facts) (i : Nat) (l : List SV), keys (setH fs i l) = keys fs
  | [], _, _ => rfl
  | (j, m) :: fs, i, l => by
    simp only [setH]
    split
    · rfl
    · simp [keys, keys_setH fs i l]
theorem findH_setH : ∀ (fs : Facts) (i j : Nat) (l : List SV), i ≠ j → findH (setH fs i l) j = findH fs j
  | [], _, _, _, _ => rfl
  | (k, m) :: fs, i, j, l, h => by
    simp only [setH]
    split
    · rename_i hb
      obtain rfl := Nat.eq_of_beq_eq_true hb
      have hb' : Nat.beq k j = false := by cases hx : Nat.beq k j; rfl; exact absurd (Nat.eq_of_beq_eq_true hx) h
      simp [findH, hb']
    · simp only [findH]
      split
      · rfl
      · exact findH_setH fs i j l h

theorem factsAt_iff {ε : List Value} {w : World} : ∀ {fs : Facts}, (keys fs).Nodup → (FactsAt ε w fs ↔ ∀ i l, findH fs i = some l → HasBlk w (nth ε i) (denL ε l))
  | [], _ => by simp [FactsAt, findH]
  | (j, m) :: fs, hn => by
    simp only [keys, List.nodup_cons] at hn
    constructor
    · intro h i l hf; exact findH_facts h hf
    · intro h
      refine ⟨h j m (by simp [findH]), (factsAt_iff hn.2).2 fun i l hf => h i l ?_⟩
      have hij : j ≠ i := fun e => hn.1 (e ▸ findH_mem hf)
      have hb' : Nat.beq j i = false := by cases hx : Nat.beq j i; rfl; exact absurd (Nat.eq_of_beq_eq_true hx) hij
      simp [findH, hb', hf]

/-! what known says -/
theorem known_sound {ε : List Value} : ∀ {path : List (BE × Bool)} {b : BE} {r : Bool}, (∀ c q, (c, q) ∈ path → c.den ε = q) → known path b = some r → b.den ε = r := by
  intro path
  induction path with
  | nil => intro b r _ h; cases b <;> simp [known] at h; simpa [BE.den] using h
  | cons p path ih =>
    obtain ⟨c, q⟩ := p
    intro b r hp h
    have key : (if c.same b then some q else known path b) = some r → b.den ε = r := by
      intro h
      split at h
      · rename_i hs
        rw [← BE.same_eq hs, ← Option.some.inj h]
        exact hp c q (by simp)
      · exact ih (fun c' q' hm => hp c' q' (by simp [hm])) h
    cases b with
    | lit x => simp [known] at h; simpa [BE.den] using h
    | _ => exact key (by simpa only [known] using h)

/-! numbers -/
theorem mkAdd_den (ε : List Value) (a b : IE) : (mkAdd a b).den ε = a.den ε + b.den ε := by
  unfold mkAdd; split <;> rfl
theorem mkSub_den (ε : List Value) (a b : IE) : (mkSub a b).den ε = a.den ε - b.den ε := by
  unfold mkSub; split <;> rfl
theorem mkMul_den (ε : List Value) (a b : IE) : (mkMul a b).den ε = a.den ε * b.den ε := by
  unfold mkMul; split <;> rfl
theorem mkLt_den (ε : List Value) (a b : IE) : (mkLt a b).den ε = decide (a.den ε < b.den ε) := by
  unfold mkLt; split <;> rfl
theorem mkLe_den (ε : List Value) (a b : IE) : (mkLe a b).den ε = decide (a.den ε ≤ b.den ε) := by
  unfold mkLe; split <;> rfl
theorem mkEq_den (ε : List Value) (a b : IE) : (mkEq a b).den ε = decide (a.den ε = b.den ε) := by
  unfold mkEq; split <;> rfl
theorem mkNot_den (ε : List Value) (a : BE) : (mkNot a).den ε = !a.den ε := by
  unfold mkNot; split <;> rfl

theorem obs_den {G : Ctx} {Λ : Nat → List Value → World → Prop} {ε : List Value} {wx ws : World} {X : Nat → Prop} {k : VC} : ∀ {l : List BE}, (obs l k).den G Λ ε wx ws X → (∀ p ∈ l, p.den ε = true) ∧ k.den G Λ ε wx ws X := by
  intro l
  induction l with
  | nil => intro h; exact ⟨by simp, h⟩
  | cons p l ih =>
    intro h
    have key : (VC.ob p (obs l k)).den G Λ ε wx ws X → (∀ q ∈ p :: l, q.den ε = true) ∧ k.den G Λ ε wx ws X := by
      intro h
      obtain ⟨h1, h2⟩ := ih h.2
      exact ⟨fun q hq => by rcases List.mem_cons.1 hq with rfl | hq; exact h.1; exact h1 q hq, h2⟩
    cases p with
    | lit b =>
      cases b with
      | true =>
        obtain ⟨h1, h2⟩ := ih h
        exact ⟨fun q hq => by rcases List.mem_cons.1 hq with rfl | hq; rfl; exact h1 q hq, h2⟩
      | false => exact key h
    | _ => exact key h

theorem kmin_eq (k : IntKind) : k.min = kmin k := by cases k <;> rfl
theorem kmax_eq (k : IntKind) : k.max = kmax k := by cases k <;> rfl
theorem wrap_in (k : IntKind) {n : Int} (h1 : kmin k ≤ n) (h2 : n ≤ kmax k) : k.wrap n = n := by
  cases k <;> simp only [kmin, kmax] at h1 h2
  · exact IntWalk.i8_in n ⟨h1, h2⟩
  · exact IntWalk.i16_in n ⟨h1, h2⟩
  · exact IntWalk.i32_in n ⟨h1, h2⟩
  · exact IntWalk.i64_in n ⟨h1, h2⟩
  · exact IntWalk.u8_in n ⟨h1, h2⟩
  · exact IntWalk.u16_in n ⟨h1, h2⟩
  · exact IntWalk.u32_in n ⟨h1, h2⟩
  · exact IntWalk.u64_in n ⟨h1, h2⟩
theorem inR_wrap {ε : List Value} {k : IntKind} {e : IE} (h : ∀ p ∈ inR k e, p.den ε = true) : k.wrap (e.den ε) = e.den ε := by
  have h1 := h (mkLe (.lit (kmin k)) e) (by simp [inR])
  have h2 := h (mkLe e (.lit (kmax k))) (by simp [inR])
  rw [mkLe_den] at h1 h2
  exact wrap_in k (of_decide_eq_true h1) (of_decide_eq_true h2)

/-! operands -/
theorem ev_den {G : Ctx} {D : List Deferred} {s : St} {ε : List Value} {wx ws : World} {X : Nat → Prop} {a : Act} {w : World} (h : Ok G D s ε wx ws X a w) {x : Operand} {v : SV} (hx : s.ev x = some v) : a.eval x = v.den ε := by
  cases x with
  | tmp t => simp only [St.ev] at hx; simp [Act.eval, Array.getD_eq_getD_getElem?, h.tm t v hx]
  | const c => simp only [St.ev, Option.some.injEq] at hx; subst hx; simp [Act.eval, ofConst_den]
  | global g => simp only [St.ev, Option.some.injEq] at hx; subst hx; rfl
  | func f => simp only [St.ev, Option.some.injEq] at hx; subst hx; simp [Act.eval, SV.den, denL]
theorem evs_den {G : Ctx} {D : List Deferred} {s : St} {ε : List Value} {wx ws : World} {X : Nat → Prop} {a : Act} {w : World} (h : Ok G D s ε wx ws X a w) : ∀ {l : List Operand} {vs : List SV}, evs s l = some vs → l.map a.eval = denL ε vs
  | [], vs, hx => by simp [evs] at hx; subst hx; rfl
  | x :: l, vs, hx => by
    simp only [evs] at hx
    split at hx
    · rename_i v vs' h1 h2
      cases hx
      simp [denL, ev_den h h1, evs_den h h2]
    · cases hx
theorem pairs_den {G : Ctx} {D : List Deferred} {s : St} {ε : List Value} {wx ws : World} {X : Nat → Prop} {a : Act} {w : World} (h : Ok G D s ε wx ws X a w) : ∀ {l : List (Nat × Operand)} {vs : List (Nat × SV)}, pairsS s l = some vs → (l.map fun p => (p.1, a.eval p.2)) = vs.map (fun p => (p.1, p.2.den ε))
  | [], vs, hx => by simp [pairsS] at hx; subst hx; rfl
  | (i, x) :: l, vs, hx => by
    simp only [pairsS] at hx
    split at hx
    · rename_i v vs' h1 h2
      cases hx
      simp [ev_den h h1, pairs_den h h2]
    · cases hx
theorem vals_den {G : Ctx} {D : List Deferred} {s : St} {ε : List Value} {wx ws : World} {X : Nat → Prop} {a : Act} {w : World} (h : Ok G D s ε wx ws X a w) : ∀ {l : List Operand} {vs : List (Operand × SV)}, valsS s l = some vs → ValsAt ε a.eval vs ∧ vs.map (·.1) = l
  | [], vs, hx => by simp [valsS] at hx; subst hx; exact ⟨trivial, rfl⟩
  | x :: l, vs, hx => by
    simp only [valsS] at hx
    split at hx
    · rename_i v vs' h1 h2
      cases hx
      obtain ⟨h3, h4⟩ := vals_den h h2
      exact ⟨⟨ev_den h h1, h3⟩, by simp [h4]⟩
    · cases hx

theorem denL_length (ε : List Value) (l : List SV) : (denL ε l).length = l.length := by rw [denL_map]; simp
theorem denL_get (ε : List Value) (l : List SV) (i : Nat) : (denL ε l)[i]? = (l[i]?).map (SV.den ε) := by rw [denL_map]; simp
theorem denL_take (ε : List Value) (l : List SV) (n : Nat) : denL ε (takeN n l) = (denL ε l).take n := by rw [denL_map, denL_map, takeN_eq, List.map_take]
theorem denL_drop (ε : List Value) (l : List SV) (n : Nat) : denL ε (dropN n l) = (denL ε l).drop n := by rw [denL_map, denL_map, dropN_eq, List.map_drop]
theorem denL_app (ε : List Value) (l m : List SV) : denL ε (l ++ m) = denL ε l ++ denL ε m := by simp [denL_map]

theorem nth_one : ∀ {ks : List Base} {ε : List Value}, Fits ks ε → ∀ {i : Nat}, Nat.blt i ks.length = true → (nth ε i).oneCell' = true
  | b :: ks, v :: ε, h, 0, _ => by
    have h1 := h.1
    cases b with
    | int k => obtain ⟨n, rfl⟩ := h1; rfl
    | bool => obtain ⟨n, rfl⟩ := h1; rfl
    | slice => obtain ⟨x, n, c, rfl⟩ := h1; rfl
    | ptr => obtain ⟨x, rfl⟩ := h1; rfl
    | map => obtain ⟨x, rfl⟩ := h1; rfl
    | func => cases v <;> simp_all [Base.fits, isFn, Value.oneCell', nth]
    | any => exact h1
  | b :: ks, v :: ε, h, i + 1, hi => nth_one (ks := ks) (ε := ε) h.2 (i := i) (by simp at hi ⊢; omega)
  | [], [], _, i, hi => by simp at hi
  | [], _ :: _, h, _, _ => h.elim
  | _ :: _, [], h, _, _ => h.elim
theorem nth_slice : ∀ {ks : List Base} {ε : List Value}, Fits ks ε → ∀ {i : Nat}, isSliceVar ks i = true → ∃ x n c, nth ε i = .slice x n c
  | b :: ks, v :: ε, h, 0, hi => by
    have h1 := h.1
    cases b <;> simp [isSliceVar, nthB] at hi
    exact h1
  | b :: ks, v :: ε, h, i + 1, hi => nth_slice (ks := ks) (ε := ε) h.2 (i := i) (by simpa [isSliceVar, nthB] using hi)
  | [], [], _, i, hi => by simp [isSliceVar, nthB] at hi
  | [], _ :: _, h, _, _ => h.elim
  | _ :: _, [], h, _, _ => h.elim

theorem nth_isK : ∀ {ks : List Base} {ε : List Value}, Fits ks ε → ∀ {i : Nat} {b : Base}, isK ks i b = true → b.fits (nth ε i)
  | b :: ks, v :: ε, h, 0, b', hi => by
    have h1 := h.1
    cases b <;> cases b' <;> simp [isK, nthB] at hi <;> exact h1
  | b :: ks, v :: ε, h, i + 1, b', hi => nth_isK (ks := ks) (ε := ε) h.2 (i := i) (by simpa [isK, nthB] using hi)
  | [], [], _, i, _, hi => by simp [isK, nthB] at hi
  | [], _ :: _, h, _, _, _ => h.elim
  | _ :: _, [], h, _, _, _ => h.elim

theorem oneS_den {ks : List Base} {ε : List Value} (hf : Fits ks ε) {v : SV} (h : oneS ks v = true) : (v.den ε).oneCell' = true := by
  cases v with
  | var i => exact nth_one hf h
  | agg l => simp [oneS] at h
  | tuple l => simp [oneS] at h
  | cst v => exact h
  | _ => rfl
theorem allOne_den {ks : List Base} {ε : List Value} (hf : Fits ks ε) : ∀ {l : List SV}, allOne ks l = true → ∀ v ∈ denL ε l, v.oneCell' = true
  | [], _, v, hv => by simp [denL] at hv
  | s :: l, h, v, hv => by
    simp only [allOne, Bool.and_eq_true] at h
    simp only [denL, List.mem_cons] at hv
    rcases hv with rfl | hv
    · exact oneS_den hf h.1
    · exact allOne_den hf h.2 v hv
theorem cellsOk_or {ks : List Base} {v : SV} (h : cellsOk ks v = true) : (∃ l, v = .agg l ∧ allOne ks l = true) ∨ (oneS ks v = true ∧ cellsS v = [v]) := by
  cases v with
  | agg l => exact .inl ⟨l, rfl, h⟩
  | _ => exact .inr ⟨by simpa only [cellsOk] using h, rfl⟩
theorem cellsS_den {ks : List Base} {ε : List Value} (hf : Fits ks ε) {v : SV} (h : cellsOk ks v = true) : (v.den ε).cells = (denL ε (cellsS v)).toArray := by
  rcases cellsOk_or h with ⟨l, rfl, _⟩ | ⟨h1, h2⟩
  · rfl
  · rw [h2, oneCell_cells (oneS_den hf h1)]; rfl
theorem cellsS_one {ks : List Base} {ε : List Value} (hf : Fits ks ε) {v : SV} (h : cellsOk ks v = true) : ∀ u ∈ denL ε (cellsS v), u.oneCell' = true := by
  rcases cellsOk_or h with ⟨l, rfl, h1⟩ | ⟨h1, h2⟩
  · exact allOne_den hf h1
  · rw [h2]; intro u hu; simp [denL] at hu; subst hu; exact oneS_den hf h1

end Go.Sx
