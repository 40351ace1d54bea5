/- What the smaller functions of the chapter return. No conditions beyond those that each theorem names. -/
import Derived.Test.YtfjimghpjopgoaaT
set_option maxRecDepth 100000
set_option linter.unusedVariables false
set_option linter.unusedSimpArgs false
namespace Go.Proofs.Ytfjimghpjopgoaa
open Go.Sx

theorem mix : Try.prog.follows .mixedOrders = true := by kernel_rfl

structure Cmd where
  id : Int
  lba : Int
  n : Int
  wr : Bool
def cmdE : Enc Cmd := ⟨fun c => [.int .i64 c.id, .int .i64 c.lba, .int .i64 c.n, .bool c.wr], 4, fun _ => rfl⟩
def cmdV (c : Cmd) : Value := .agg #[.int .i64 c.id, .int .i64 c.lba, .int .i64 c.n, .bool c.wr]

def okBlk (lba n : Int) : Bool := decide (0 ≤ lba) && (decide (1 ≤ n) && (decide (n ≤ 65536) && decide (lba ≤ 1099511627776 - n)))
def cfgOk (u p b o : Int) : Bool := decide (1 ≤ u) && (decide (u ≤ 65536) && (decide (1 ≤ p) && (decide (p ≤ u) && ((decide (b = 0) && decide (o = 0)) || (!decide (b = 0) && (decide (u ≤ b) && (decide (b ≤ 1048576) && (decide (0 ≤ o) && decide (o < b)))))))))
def conf (a b : Cmd) : Bool := (a.wr || b.wr) && (decide (a.lba < IntKind.i64.wrap (b.lba + b.n)) && decide (b.lba < IntKind.i64.wrap (a.lba + a.n)))

theorem c15 (e : Int) (w : World) : Gives Try.prog 15 [.int .i64 e] w (.int .i64 e) :=
  gives mix t15 rfl rfl (ε := [.int .i64 e]) ⟨⟨_, rfl⟩, trivial⟩ (den_leaf rfl)
theorem c53 (s : Value) (L : List Bool) (v : Bool) (w : World) (hm : L.length < 4611686018427387904) (hs : Arr boolE w s L) : Gives Try.prog 53 [s, .bool v] w (.int .i64 (idxFrom (fun _ x => x == v) 0 L)) := index_bool mix t53 s L v w hm hs
theorem c31 (s : Value) (L : List Bool) (w : World) (hm : L.length < 4611686018427387904) (hs : Arr boolE w s L) : Gives Try.prog 31 [s] w (.bool (L.all id)) := all_bools mix t31 t48 c53 s L w hm hs

theorem wrap_id {n : Int} (h1 : -9223372036854775808 ≤ n) (h2 : n ≤ 9223372036854775807) : IntKind.i64.wrap n = n := by
  simp only [IntKind.wrap, IntKind.signed, IntKind.bits]
  simp
  omega

theorem c33 (lba n : Int) (w : World) : Gives Try.prog 33 [.int .i64 lba, .int .i64 n] w (.bool (okBlk lba n)) := by
  refine gives mix t33 rfl rfl (ε := [.int .i64 lba, .int .i64 n]) ⟨⟨_, rfl⟩, ⟨_, rfl⟩, trivial⟩ (den_blk fun b _ _ _ => ?_)
  refine den_all _ c31 rfl rfl rfl (by decide) (fun _ => rfl) (fun _ _ _ _ => den_leaf ?_)
  simp only [denL, SV.den, BE.den, nth, vbool, boolsOf, sBE, List.map, IE.den, List.all, id, List.cons_append, List.nil_append, vint, leB_eq, ltB_eq, eqB_eq, List.cons.injEq, and_true, Value.bool.injEq, Bool.and_true]
  by_cases h : 1 ≤ n ∧ n ≤ 65536
  · have e := wrap_id (n := 1099511627776 - n) (by omega) (by omega)
    simp only [e, okBlk]
  · unfold okBlk
    rw [Bool.eq_iff_iff]; simp only [Bool.and_eq_true, Bool.or_eq_true, decide_eq_true_eq, Bool.not_eq_true', decide_eq_false_iff_not, Bool.false_eq_true, true_iff, false_iff, iff_true, iff_false, Bool.true_eq_false]
    omega
theorem c30 (lba n : Int) (w : World) : Gives Try.prog 30 [.int .i64 lba, .int .i64 n] w (.bool (okBlk lba n)) := by
  refine gives mix t30 rfl rfl (ε := [.int .i64 lba, .int .i64 n]) ⟨⟨_, rfl⟩, ⟨_, rfl⟩, trivial⟩ ?_
  refine den_splitLe (fun h1 => den_splitLe (fun h2 => den_splitLe (fun h3 => den_ob64 ?_ (den_leaf ?_)) (fun h3 => den_leaf ?_)) (fun h2 => den_leaf ?_)) (fun h1 => den_leaf ?_)
  all_goals simp only [IE.den, nth, vint] at h1
  all_goals try simp only [IE.den, nth, vint] at h2
  all_goals try simp only [IE.den, nth, vint] at h3
  · simp only [IE.den, nth, vint]; omega
  all_goals simp only [denL, SV.den, BE.den, nth, vbool, boolsOf, sBE, List.map, IE.den, List.all, id, List.cons_append, List.nil_append, vint, leB_eq, ltB_eq, eqB_eq, List.cons.injEq, and_true, Value.bool.injEq, Bool.and_true]
  all_goals unfold okBlk
  all_goals rw [Bool.eq_iff_iff]; simp only [Bool.and_eq_true, Bool.or_eq_true, decide_eq_true_eq, Bool.not_eq_true', decide_eq_false_iff_not, Bool.false_eq_true, true_iff, false_iff, iff_true, iff_false, Bool.true_eq_false]
  all_goals omega

theorem c12 (u p b o : Int) (w : World) : Gives Try.prog 12 [.agg #[.int .i64 u, .int .i64 p, .int .i64 b, .int .i64 o]] w (.bool (cfgOk u p b o)) := by
  refine gives mix t12 rfl rfl (ε := [.int .i64 u, .int .i64 p, .int .i64 b, .int .i64 o]) ⟨⟨_, rfl⟩, ⟨_, rfl⟩, ⟨_, rfl⟩, ⟨_, rfl⟩, trivial⟩ (den_blk fun _ _ _ _ => den_blk fun _ _ _ _ => ?_)
  refine den_all _ c31 rfl rfl rfl (by decide) (fun _ => rfl) (fun _ _ _ _ => ?_)
  refine den_splitNot (fun h1 => den_leaf ?_) (fun h1 => den_splitEq (fun h2 => den_splitEq (fun h3 => den_leaf ?_) (fun h3 => den_blk fun _ _ _ _ => den_all _ c31 rfl rfl rfl (by decide) (fun _ => rfl) (fun _ _ _ _ => den_leaf ?_))) (fun h2 => den_blk fun _ _ _ _ => den_all _ c31 rfl rfl rfl (by decide) (fun _ => rfl) (fun _ _ _ _ => den_leaf ?_)))
  all_goals simp only [denL, SV.den, BE.den, nth, vbool, boolsOf, sBE, List.map, IE.den, List.all, id, List.cons_append, List.nil_append, vint, leB_eq, ltB_eq, eqB_eq, List.cons.injEq, and_true, Value.bool.injEq, Bool.and_true] at h1 ⊢
  all_goals try simp only [denL, SV.den, BE.den, nth, vbool, boolsOf, sBE, List.map, IE.den, List.all, id, List.cons_append, List.nil_append, vint, leB_eq, ltB_eq, eqB_eq, List.cons.injEq, and_true, Value.bool.injEq, Bool.and_true] at h2
  all_goals try simp only [denL, SV.den, BE.den, nth, vbool, boolsOf, sBE, List.map, IE.den, List.all, id, List.cons_append, List.nil_append, vint, leB_eq, ltB_eq, eqB_eq, List.cons.injEq, and_true, Value.bool.injEq, Bool.and_true] at h3
  all_goals unfold cfgOk
  all_goals simp only [Bool.and_eq_true, Bool.and_eq_false_iff, decide_eq_true_eq, decide_eq_false_iff_not] at h1
  all_goals rw [Bool.eq_iff_iff]; simp only [Bool.and_eq_true, Bool.or_eq_true, decide_eq_true_eq, Bool.not_eq_true', decide_eq_false_iff_not, Bool.false_eq_true, true_iff, false_iff, iff_true, iff_false, Bool.true_eq_false]
  all_goals omega
theorem c13 (u p b o : Int) (w : World) : Gives Try.prog 13 [.agg #[.int .i64 u, .int .i64 p, .int .i64 b, .int .i64 o]] w (.bool (cfgOk u p b o)) := by
  refine gives mix t13 rfl rfl (ε := [.int .i64 u, .int .i64 p, .int .i64 b, .int .i64 o]) ⟨⟨_, rfl⟩, ⟨_, rfl⟩, ⟨_, rfl⟩, ⟨_, rfl⟩, trivial⟩ (den_blk fun _ _ _ _ => ?_)
  repeat' (first | refine den_leaf ?_ | refine den_splitLe (fun _ => ?_) (fun _ => ?_) | refine den_splitLt (fun _ => ?_) (fun _ => ?_) | refine den_splitEq (fun _ => ?_) (fun _ => ?_))
  all_goals simp only [denL, SV.den, BE.den, nth, vbool, boolsOf, sBE, List.map, IE.den, List.all, id, List.cons_append, List.nil_append, vint, leB_eq, ltB_eq, eqB_eq, List.cons.injEq, and_true, Value.bool.injEq, Bool.and_true] at *
  all_goals unfold cfgOk
  all_goals rw [Bool.eq_iff_iff]; simp only [Bool.and_eq_true, Bool.or_eq_true, decide_eq_true_eq, Bool.not_eq_true', decide_eq_false_iff_not, Bool.false_eq_true, true_iff, false_iff, iff_true, iff_false, Bool.true_eq_false]
  all_goals omega
theorem c51 (a b : Cmd) (w : World) : Gives Try.prog 51 [cmdV a, cmdV b] w (.bool (conf a b)) := by
  refine gives mix t51 rfl rfl (ε := [.int .i64 a.id, .int .i64 a.lba, .int .i64 a.n, .bool a.wr, .int .i64 b.id, .int .i64 b.lba, .int .i64 b.n, .bool b.wr]) ⟨⟨_, rfl⟩, ⟨_, rfl⟩, ⟨_, rfl⟩, ⟨_, rfl⟩, ⟨_, rfl⟩, ⟨_, rfl⟩, ⟨_, rfl⟩, ⟨_, rfl⟩, trivial⟩ (den_blk fun _ _ _ _ => den_blk fun _ _ _ _ => ?_)
  refine den_split (fun h => den_blk fun _ _ _ _ => den_all _ c31 rfl rfl rfl (by decide) (fun _ => rfl) (fun _ _ _ _ => den_leaf ?_)) (fun h => den_blk fun _ _ _ _ => den_all _ c31 rfl rfl rfl (by decide) (fun _ => rfl) (fun _ _ _ _ => den_leaf ?_))
  all_goals simp_all [denL, SV.den, BE.den, nth, vbool, boolsOf, sBE, IE.den, vint, conf]
theorem c46 (a b : Cmd) (w : World) : Gives Try.prog 46 [cmdV a, cmdV b] w (.bool (conf a b)) := by
  refine gives mix t46 rfl rfl (ε := [.int .i64 a.id, .int .i64 a.lba, .int .i64 a.n, .bool a.wr, .int .i64 b.id, .int .i64 b.lba, .int .i64 b.n, .bool b.wr]) ⟨⟨_, rfl⟩, ⟨_, rfl⟩, ⟨_, rfl⟩, ⟨_, rfl⟩, ⟨_, rfl⟩, ⟨_, rfl⟩, ⟨_, rfl⟩, ⟨_, rfl⟩, trivial⟩ (den_blk fun _ _ _ _ => den_blk fun _ _ _ _ => ?_)
  repeat' (first | refine den_leaf ?_ | refine den_splitLe (fun _ => ?_) (fun _ => ?_) | refine den_splitLt (fun _ => ?_) (fun _ => ?_) | refine den_split (fun _ => ?_) (fun _ => ?_))
  all_goals simp only [denL, SV.den, BE.den, nth, vbool, boolsOf, sBE, List.map, IE.den, List.all, id, List.cons_append, List.nil_append, vint, leB_eq, ltB_eq, eqB_eq, List.cons.injEq, and_true, Value.bool.injEq, Bool.and_true] at *
  all_goals unfold conf
  all_goals rw [Bool.eq_iff_iff]; simp only [Bool.and_eq_true, Bool.or_eq_true, decide_eq_true_eq, Bool.not_eq_true', decide_eq_false_iff_not, Bool.false_eq_true, true_iff, false_iff, iff_true, iff_false, Bool.true_eq_false]
  all_goals simp_all
  all_goals intro h; omega

/-- where the command with this number is, or -1 -/
def fnd (L : List Cmd) (id : Int) : Int := idxFrom (fun _ x => decide (x.id = id)) 0 L
/-- whether the command at an index is ready -/
def rdy (L : List Cmd) (i : Nat) : Bool := match L[i]? with
  | some c => (L.take i).all (fun x => !conf x c)
  | none => true
/-- the first ready command -/
def nx (L : List Cmd) : Int := idxFrom (fun i _ => rdy L i) 0 L

/-- index(l, is): the first element for which the function says yes -/
theorem c39 (s fv : Value) (L : List Cmd) (p : Nat → Cmd → Bool) (g : Nat) (caps : List Value) (w : World) (hm : L.length < 4611686018427387904) (hs : Arr cmdE w s L)
    (hf : fv = .func (.func g) #[] caps.toArray) (hg : goFunc Try.prog g = true) (hp : ∀ (j : Nat) x w', L[j]? = some x → Same w w' → Gives Try.prog g ([.int .i64 j, cmdV x] ++ caps) w' (.bool (p j x))) :
    Gives Try.prog 39 [s, fv] w (.int .i64 (idxFrom p 0 L)) := by
  obtain ⟨a, c, rfl⟩ := hs.slice
  subst hf
  refine gives mix t39 rfl rfl (ε := [.slice a L.length c, .func (.func g) #[] caps.toArray]) ⟨⟨_, _, _, rfl⟩, rfl, trivial⟩ ?_
  refine den_for L.length (fun j w => ∀ (i : Nat) y, i < j → L[i]? = some y → p i y = false) ⟨rfl, fun w _ i y hi => by omega⟩ ?_
  intro j w1 hj hI hk hfa
  refine den_splitLt (fun hlt => ?_) (fun hge => ?_)
  · have hlt' : j < L.length := by simpa [IE.den, nth, vint, vlen] using hlt
    have hx : L[j]? = some L[j] := by simp [hlt']
    refine den_idx (E := cmdE) (L := L) L[j] j (cmdE.enc L[j]) rfl (by decide) rfl hx ⟨⟨_, rfl⟩, ⟨_, rfl⟩, ⟨_, rfl⟩, ⟨_, rfl⟩, trivial⟩ (whole _) (fun w h => ⟨hs.same h.base, fun _ _ => by simp [BlkIn]⟩) (fun w2 h2 => ?_) ⟨w1, Kept.refl _ _, hk, trivial, fun i j hi hj hn => by simp [keys] at hi hj <;> omega⟩
    refine den_blk fun b _ _ _ => ?_
    refine den_norm (by simp only [List.cons_append, List.nil_append, cmdE]; rfl) ?_
    refine den_callF rfl rfl hg (fun _ _ => False) (fun _ l _ => l = [.bool (p j L[j])]) (fun _ _ _ h => h.elim) (fun w3 h3 => ?_) (fun w3 l w4 h3 _ hl _ => ?_)
    · refine ((hp j L[j] w3 hx h3.base).toR.runs).mono (fun v w' hv _ => ⟨[.bool (p j L[j])], ⟨⟨_, rfl⟩, trivial⟩, ?_, rfl⟩) (fun _ _ h => h)
      rw [hv]; rfl
    · subst hl
      refine den_norm (by simp only [List.cons_append, List.nil_append]; rfl) ?_
      refine den_split (fun he => ?_) (fun he => ?_)
      · refine den_leaf_ne (by decide) (den_leaf ?_)
        simp only [denL, SV.den, IE.den, nth, vint]
        rw [idxFrom_found p L 0 j L[j] hx (by rw [Nat.zero_add]; exact he) (fun i y hi hy => by rw [Nat.zero_add]; exact hI i y hi hy)]
        simp
      · refine den_ob64 (by simp only [IE.den, nth, vint]; omega) (den_next rfl hlt' fun w _ i y hi hy => ?_)
        by_cases hij : i = j
        · subst hij
          rw [hx] at hy
          cases hy
          exact he
        · exact hI i y (by omega) hy
  · have hge' : L.length ≤ j := by simpa [IE.den, nth, vint, vlen] using hge
    refine den_leaf_ne (by decide) (den_leaf ?_)
    simp only [denL, SV.den, IE.den]
    rw [idxFrom_none p L 0 (fun i y hy => by rw [Nat.zero_add]; exact hI i y (Nat.lt_of_lt_of_le (List.getElem?_eq_some_iff.1 hy).1 hge') hy)]

theorem c49 (j : Int) (x : Cmd) (q : Value) (id : Int) (w : World) (hq : PtsTo w q [.int .i64 id]) : Gives Try.prog 49 [.int .i64 j, cmdV x, q] w (.bool (decide (x.id = id))) := by
  have h := gives mix t49 rfl rfl (ε := [.int .i64 j, .int .i64 x.id, .int .i64 x.lba, .int .i64 x.n, .bool x.wr, q]) (w := w) (r := .bool (decide (x.id = id))) ⟨⟨_, rfl⟩, ⟨_, rfl⟩, ⟨_, rfl⟩, ⟨_, rfl⟩, ⟨_, rfl⟩, by obtain ⟨b, rfl, _⟩ := hq.at_; exact ⟨_, rfl⟩, trivial⟩ (den_blk fun b hb _ _ => ?_)
  · have e : denL [.int .i64 j, .int .i64 x.id, .int .i64 x.lba, .int .i64 x.n, .bool x.wr, q] [.int .i64 (.var 0), .agg [.int .i64 (.var 1), .int .i64 (.var 2), .int .i64 (.var 3), .bool (.var 4)], .ptr 5 0] = [.int .i64 j, cmdV x, q] := by
      simp only [denL, SV.den, IE.den, BE.den, nth, vint, vbool, cmdV]
      rw [show addO (vaddr q) 0 = vaddr q from by obtain ⟨b, rfl, _⟩ := hq.at_; simp [vaddr, addO, addr_add]]
      obtain ⟨b, rfl, _⟩ := hq.at_; rfl
    rw [e] at h
    exact h
  · refine den_norm (by simp only [List.cons_append, List.nil_append]; rfl) ?_
    refine den_ldp [.int .i64 id] [.int .i64 id] ⟨⟨_, rfl⟩, trivial⟩ (whole _) (fun w1 h1 => hq.same h1.base) (fun b' hb' => ?_) (fun w1 h1 => den_leaf ?_)
    · obtain ⟨b2, rfl, hc⟩ := hq.at_
      have := World.block_lt_of_cell? w _ (hc 0 _ rfl)
      simp only [nth, blkOf, vaddr, Option.map_some, Option.some.injEq] at hb'
      simp [BlkIn, nth, blkOf, vaddr]
      all_goals
        simp only at this; omega
    · simp [denL, SV.den, BE.den, IE.den, nth, vint]
end Go.Proofs.Ytfjimghpjopgoaa
