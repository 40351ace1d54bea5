/- A new flash device. No conditions beyond those that each theorem names. -/
import Derived.Test.YtppbapnibpeolaaJ
set_option maxRecDepth 100000
set_option maxHeartbeats 2000000
set_option linter.unusedVariables false
set_option linter.unusedSimpArgs false
namespace Go.Proofs.Ytppbapnibpeolaa
open Go.Sx

theorem u48 : Try.prog.underlying 48 = some (.slice 81) := by kernel_rfl
theorem i81 : Try.prog.info? 81 = some Try.t81 := by kernel_rfl
theorem z81 : Try.t81.zero = some (.agg #[.slice none 0 0, .int .i64 0, .int .i64 0]) := by kernel_rfl
theorem s81 : Try.t81.size = blE.sz := by kernel_rfl
theorem by81 : Try.t81.bytes ≤ 1000 := by decide +kernel
def okG (g : Geo) : Bool := decide (2 ≤ g.b ∧ g.b ≤ 4096 ∧ 2 ≤ g.p ∧ g.p ≤ 512 ∧ 1 ≤ g.s ∧ g.s ≤ 8192 ∧ 1 ≤ g.e ∧ g.e ≤ 1048576)
def smallG (g : Geo) : Bool := !okG g || decide (g.b ≤ 8 ∧ g.p ≤ 8 ∧ g.s ≤ 40)
def badF (L : List Int) : Bool := L.any fun x => decide (x < 0)
def inF (L : List Int) (k : Int) : Bool := L.any fun x => decide (x = k)
theorem c70 (n a z : Int) (w : World) : Gives Try.prog 70 [.int .i64 n, .int .i64 a, .int .i64 z] w (.bool (decide (a ≤ n) && decide (n ≤ z))) := by
  refine gives mix t70 rfl rfl (ε := [.int .i64 n, .int .i64 a, .int .i64 z]) ⟨⟨_, rfl⟩, ⟨_, rfl⟩, ⟨_, rfl⟩, trivial⟩ (den_splitLe (fun h => ?_) (fun h => ?_))
  · have h' : a ≤ n := h
    rw [decide_eq_true h', Bool.true_and]
    exact den_leaf rfl
  · have h' : ¬ a ≤ n := by have : n < a := h; omega
    rw [decide_eq_false h', Bool.false_and]
    exact den_leaf rfl
theorem c55 (g : Geo) (w : World) : Gives Try.prog 55 [g.v] w (.bool (okG g)) := by
  have e : okG g = ((decide (2 ≤ g.b) && decide (g.b ≤ 4096)) && ((decide (2 ≤ g.p) && decide (g.p ≤ 512)) && ((decide (1 ≤ g.s) && decide (g.s ≤ 8192)) && (decide (1 ≤ g.e) && decide (g.e ≤ 1048576))))) := by
    unfold okG
    rw [Bool.eq_iff_iff]
    simp only [decide_eq_true_eq, Bool.and_eq_true]
    omega
  rw [e]
  refine gives mix t55 rfl rfl (ε := [.int .i64 g.b, .int .i64 g.p, .int .i64 g.s, .int .i64 g.e]) ⟨⟨_, rfl⟩, ⟨_, rfl⟩, ⟨_, rfl⟩, ⟨_, rfl⟩, trivial⟩ (den_blk fun b k _ _ => den_norm (by simp only [List.cons_append, List.nil_append]; rfl) ?_)
  refine den_call_bool (fun w1 h1 => c70 g.b 2 4096 w1) rfl (fun w1 w2 h1 h2 => den_norm (by simp only [List.cons_append, List.nil_append]; rfl) (den_split (fun q1 => ?_) (fun q1 => ?_)))
  · have q1' : (decide (2 ≤ g.b) && decide (g.b ≤ 4096)) = true := q1
    refine den_call_bool (fun w1 h1 => c70 g.p 2 512 w1) rfl (fun w1 w2 h1 h2 => den_norm (by simp only [List.cons_append, List.nil_append]; rfl) (den_split (fun q2 => ?_) (fun q2 => ?_)))
    · have q2' : (decide (2 ≤ g.p) && decide (g.p ≤ 512)) = true := q2
      refine den_call_bool (fun w1 h1 => c70 g.s 1 8192 w1) rfl (fun w1 w2 h1 h2 => den_norm (by simp only [List.cons_append, List.nil_append]; rfl) (den_split (fun q3 => ?_) (fun q3 => ?_)))
      · have q3' : (decide (1 ≤ g.s) && decide (g.s ≤ 8192)) = true := q3
        refine den_call_bool (fun w1 h1 => c70 g.e 1 1048576 w1) rfl (fun w1 w2 h1 h2 => den_norm (by simp only [List.cons_append, List.nil_append]; rfl) ?_)
        rw [q1', q2', q3', Bool.true_and, Bool.true_and, Bool.true_and]
        exact den_leaf rfl
      · have q3' : (decide (1 ≤ g.s) && decide (g.s ≤ 8192)) = false := q3
        rw [q1', q2', q3', Bool.true_and, Bool.true_and, Bool.false_and]
        exact den_leaf rfl
    · have q2' : (decide (2 ≤ g.p) && decide (g.p ≤ 512)) = false := q2
      rw [q1', q2', Bool.true_and, Bool.false_and]
      exact den_leaf rfl
  · have q1' : (decide (2 ≤ g.b) && decide (g.b ≤ 4096)) = false := q1
    rw [q1', Bool.false_and]
    exact den_leaf rfl
theorem c10 (g : Geo) (w : World) : Gives Try.prog 10 [g.v] w (.bool (okG g)) := by
  refine gives mix t10 rfl rfl (ε := [.int .i64 g.b, .int .i64 g.p, .int .i64 g.s, .int .i64 g.e]) ⟨⟨_, rfl⟩, ⟨_, rfl⟩, ⟨_, rfl⟩, ⟨_, rfl⟩, trivial⟩ (den_blk fun b k _ _ => den_norm (by simp only [List.cons_append, List.nil_append]; rfl) ?_)
  refine den_splitLe (fun h0 => ?_) (fun h0 => ?_)
  · have h0' : 2 ≤ g.b := h0
    refine den_splitLe (fun h1 => ?_) (fun h1 => ?_)
    · have h1' : g.b ≤ 4096 := h1
      refine den_splitLe (fun h2 => ?_) (fun h2 => ?_)
      · have h2' : 2 ≤ g.p := h2
        refine den_splitLe (fun h3 => ?_) (fun h3 => ?_)
        · have h3' : g.p ≤ 512 := h3
          refine den_splitLe (fun h4 => ?_) (fun h4 => ?_)
          · have h4' : 1 ≤ g.s := h4
            refine den_splitLe (fun h5 => ?_) (fun h5 => ?_)
            · have h5' : g.s ≤ 8192 := h5
              refine den_splitLe (fun h6 => ?_) (fun h6 => ?_)
              · have h6' : 1 ≤ g.e := h6
                have e : okG g = decide (g.e ≤ 1048576) := decide_eq_decide.2 (by omega)
                rw [e]
                exact den_leaf rfl
              · have h6' : g.e < 1 := h6
                have e : okG g = false := decide_eq_false (by omega)
                rw [e]
                exact den_leaf rfl
            · have h5' : 8192 < g.s := h5
              have e : okG g = false := decide_eq_false (by omega)
              rw [e]
              exact den_leaf rfl
          · have h4' : g.s < 1 := h4
            have e : okG g = false := decide_eq_false (by omega)
            rw [e]
            exact den_leaf rfl
        · have h3' : 512 < g.p := h3
          have e : okG g = false := decide_eq_false (by omega)
          rw [e]
          exact den_leaf rfl
      · have h2' : g.p < 2 := h2
        have e : okG g = false := decide_eq_false (by omega)
        rw [e]
        exact den_leaf rfl
    · have h1' : 4096 < g.b := h1
      have e : okG g = false := decide_eq_false (by omega)
      rw [e]
      exact den_leaf rfl
  · have h0' : g.b < 2 := h0
    have e : okG g = false := decide_eq_false (by omega)
    rw [e]
    exact den_leaf rfl
theorem c8 (g : Geo) (w : World) : Gives Try.prog 8 [g.v] w (.bool (smallG g)) := by
  refine gives mix t8 rfl rfl (ε := [.int .i64 g.b, .int .i64 g.p, .int .i64 g.s, .int .i64 g.e]) ⟨⟨_, rfl⟩, ⟨_, rfl⟩, ⟨_, rfl⟩, ⟨_, rfl⟩, trivial⟩ (den_blk fun b k _ _ => den_norm (by simp only [List.cons_append, List.nil_append]; rfl) ?_)
  refine den_call_bool (fun w1 h1 => c10 g w1) rfl (fun w1 w2 h1 h2 => den_norm (by simp only [List.cons_append, List.nil_append]; rfl) (den_splitNot (fun q => ?_) (fun q => ?_)))
  · have q' : okG g = false := q
    have e : smallG g = true := by simp [smallG, q']
    rw [e]
    exact den_leaf rfl
  have q' : okG g = true := q
  have e0 : smallG g = decide (g.b ≤ 8 ∧ g.p ≤ 8 ∧ g.s ≤ 40) := by simp [smallG, q']
  rw [e0]
  refine den_splitLe (fun h1 => ?_) (fun h1 => ?_)
  · have h1' : g.b ≤ 8 := h1
    refine den_splitLe (fun h2 => ?_) (fun h2 => ?_)
    · have h2' : g.p ≤ 8 := h2
      have e : decide (g.b ≤ 8 ∧ g.p ≤ 8 ∧ g.s ≤ 40) = decide (g.s ≤ 40) := by simp [h1', h2']
      rw [e]
      exact den_leaf rfl
    · have h2' : 8 < g.p := h2
      have e : decide (g.b ≤ 8 ∧ g.p ≤ 8 ∧ g.s ≤ 40) = false := decide_eq_false (by omega)
      rw [e]
      exact den_leaf rfl
  · have h1' : 8 < g.b := h1
    have e : decide (g.b ≤ 8 ∧ g.p ≤ 8 ∧ g.s ≤ 40) = false := decide_eq_false (by omega)
    rw [e]
    exact den_leaf rfl
theorem c57 (n : Int) (w : World) : Gives Try.prog 57 [.int .i64 n] w (.bool (decide (n < 0))) := gives mix t57 rfl rfl (ε := [.int .i64 n]) ⟨⟨_, rfl⟩, trivial⟩ (den_leaf rfl)
theorem c71 (s : Value) (L : List Int) (w : World) (hs : Arr intE w s L) (hm : L.length ≤ 60000000000) : GivesR Try.prog 71 [s, fnV 57 []] w (fun v w' => ∃ r, v = .int .i64 r ∧ decide (0 ≤ r) = badF L) := by
  obtain ⟨a, c, rfl⟩ := hs.slice
  refine givesR mix t71 rfl rfl (ε := [.slice a L.length c, fnV 57 []]) ⟨⟨_, _, _, rfl⟩, rfl, trivial⟩ ?_
  refine den_for L.length (fun j w' => ∀ (i : Nat) y, i < j → L[i]? = some y → 0 ≤ y) ⟨rfl, fun w _ i y hi => by omega⟩ ?_
  intro j w1 hj hI hk hfa
  refine den_norm (by simp only [List.cons_append, List.nil_append]; rfl) (den_splitLt (fun hlt => ?_) (fun hge => ?_))
  · have hlt' : j < L.length := by simpa [IE.den, nth, vint, vlen] using hlt
    have hx : L[j]? = some (L[j]'hlt') := by simp
    generalize L[j]'hlt' = x at hx
    refine den_idx2 (E := intE) (L := L) x j [.int .i64 x] (hs.same hk) rfl (by decide) rfl hx ⟨⟨_, rfl⟩, trivial⟩ (whole _) (fun w2 h2 => hs.same h2.base) (fun ad had => by simp [BlkIn, nth, blkOf, vaddr]) (fun w2 h2 => den_norm (by simp only [List.cons_append, List.nil_append]; rfl) ?_)
    refine den_callF rfl rfl (by kernel_rfl) (fun _ _ => False) (fun w3 l w4 => l = [.bool (decide (x < 0))]) (fun _ _ _ h _ => h.elim) (fun w3 h3 => ?_) (fun w3 l w4 h3 hfl hR hk3 => ?_)
    · have := c57 x w3
      exact ⟨Calls.mono this.run fun e w' ⟨h1, h2⟩ => ⟨_, h1, ⟨[.bool (decide (x < 0))], ⟨⟨_, rfl⟩, trivial⟩, rfl, rfl⟩, h2⟩⟩
    subst hR
    refine den_norm (by simp only [List.cons_append, List.nil_append]; rfl) (den_split (fun h4 => ?_) (fun h4 => ?_))
    · have h4' : x < 0 := of_decide_eq_true h4
      refine den_leaf_ne (by decide) (den_leafR _ rfl fun w5 _ => ⟨j, rfl, ?_⟩)
      have : badF L = true := List.any_eq_true.2 ⟨x, List.mem_of_getElem? hx, decide_eq_true h4'⟩
      rw [this]
      exact decide_eq_true (by omega)
    · have h4' : ¬ x < 0 := of_decide_eq_false h4
      refine den_ob64 (by simp only [IE.den, nth, vint]; omega) (den_next rfl hlt' fun w5 _ i y hi hy => ?_)
      by_cases hij : i = j
      · subst hij
        rw [hx] at hy
        cases hy
        omega
      · exact hI i y (by omega) hy
  · have hge' : L.length ≤ j := by simpa [IE.den, nth, vint, vlen] using hge
    refine den_leaf_ne (by decide) (den_leafR _ rfl fun w5 _ => ⟨-1, rfl, ?_⟩)
    have : badF L = false := by
      rw [← Bool.not_eq_true]
      intro h
      obtain ⟨x, hx, h⟩ := List.any_eq_true.1 h
      obtain ⟨i, hi⟩ := List.getElem?_of_mem hx
      have := hI i x (Nat.lt_of_lt_of_le (List.getElem?_eq_some_iff.1 hi).1 hge') hi
      have := of_decide_eq_true h
      omega
    rw [this]
    rfl
theorem c56 (s : Value) (L : List Int) (w : World) (hs : Arr intE w s L) (hm : L.length ≤ 60000000000) : GivesR Try.prog 56 [s, fnV 57 []] w (fun v w' => v = .bool (badF L)) := by
  obtain ⟨a, c, e⟩ := hs.slice
  subst e
  refine givesR mix t56 rfl rfl (ε := [.slice a L.length c, fnV 57 []]) ⟨⟨_, _, _, rfl⟩, rfl, trivial⟩ ?_
  refine den_callR (fun w1 l w2 => ∃ r, l = [.int .i64 r] ∧ decide (0 ≤ r) = badF L) (fun w1 h1 => (c71 _ L w1 (hs.same (shown_same h1)) hm).mono fun v w' ⟨r, q1, q2⟩ => ⟨[v], ⟨⟨_, q1⟩, trivial⟩, by subst q1; rfl, r, by rw [q1], q2⟩) (fun w1 l w2 h1 hfl hR k => ?_)
  obtain ⟨r, rfl, hr⟩ := hR
  refine den_norm (by simp only [List.cons_append, List.nil_append]; rfl) (den_leafR _ rfl fun w3 h3 => ?_)
  rw [← hr]
  rfl
theorem inF_take (L : List Int) (j : Nat) (x : Int) (hx : L[j]? = some x) : (fun k => decide (k = x) || inF (L.take j) k) = inF (L.take (j + 1)) := by
  funext k
  unfold inF
  rw [List.take_add_one, hx, List.any_append]
  simp only [Option.toList_some, List.any_cons, List.any_nil, Bool.or_false]
  rw [Bool.or_comm, show decide (k = x) = decide (x = k) from decide_eq_decide.2 ⟨Eq.symm, Eq.symm⟩]
/-- the blocks of a new device, as far as they are laid -/
structure NewB (w0 : Nat) (np nb : Nat) (w : World) (k : Nat) (Lb : List Bv) : Prop where
  len : Lb.length = nb
  done : ∀ (i : Nat) u, i < k → Lb[i]? = some u → ∃ gp, u = ⟨slc0 gp np np, 0, 0⟩ ∧ w0 ≤ gp ∧ Mine pgE 78 w (slc0 gp np np) (List.replicate np ⟨.slice none 0 0, 1⟩)
  rest : ∀ (i : Nat) u, k ≤ i → Lb[i]? = some u → u = ⟨.slice none 0 0, 0, 0⟩
  dis : ∀ (i j : Nat) u v, i ≠ j → Lb[i]? = some u → Lb[j]? = some v → ∀ g, u.s.ownBlock = some g → v.s.ownBlock ≠ some g
theorem NewB.kept {w0 np nb k : Nat} {w w' : World} {Lb : List Bv} {M : Nat → Prop} (h : NewB w0 np nb w k Lb) (hk : Kept M w w') (hM : ∀ y, w0 ≤ y → ¬ M y) : NewB w0 np nb w' k Lb :=
  ⟨h.len, fun i u hi hu => let ⟨gp, e, h1, h2⟩ := h.done i u hi hu; ⟨gp, e, h1, h2.kept hk fun y hy => by have e2 : gp = y := Option.some.inj hy; subst e2; exact hM _ h1⟩, h.rest, h.dis⟩
theorem NewB.step {w0 np nb k gp : Nat} {w w' : World} {Lb : List Bv} {M : Nat → Prop} (h : NewB w0 np nb w k Lb) (hk : Kept M w w') (hM : ∀ y, w0 ≤ y → ¬ M y) (hw : w0 ≤ w.heap.size) (hgp : w.heap.size ≤ gp) (hkn : k < nb) (hp : Mine pgE 78 w' (slc0 gp np np) (List.replicate np ⟨.slice none 0 0, 1⟩)) : NewB w0 np nb w' (k + 1) (Lb.set k ⟨slc0 gp np np, 0, 0⟩) := by
  have c := h.kept hk hM
  have cases' : ∀ {i : Nat} {u : Bv}, (Lb.set k ⟨slc0 gp np np, 0, 0⟩)[i]? = some u → (i = k ∧ u = ⟨slc0 gp np np, 0, 0⟩) ∨ (i ≠ k ∧ Lb[i]? = some u) := fun {i u} hu => by
    rw [List.getElem?_set] at hu
    split at hu
    · rename_i e
      split at hu
      · cases hu
        exact .inl ⟨e.symm, rfl⟩
      · cases hu
    · rename_i e
      exact .inr ⟨fun e' => e e'.symm, hu⟩
  have old : ∀ (i : Nat) u, i ≠ k → Lb[i]? = some u → ∀ g, u.s.ownBlock = some g → g < w.heap.size := fun i u hi hu g hg => by
    by_cases hik : i < k
    · obtain ⟨gq, e, _, h2⟩ := h.done i u hik hu
      subst e
      exact h2.lt hg
    · have := h.rest i u (by omega) hu
      subst this
      cases hg
  refine ⟨by rw [List.length_set]; exact h.len, fun i u hi hu => ?_, fun i u hi hu => ?_, fun i j u v hij hu hv g hg => ?_⟩
  · rcases cases' hu with ⟨rfl, rfl⟩ | ⟨hne, hu'⟩
    · exact ⟨gp, rfl, by omega, hp⟩
    · exact c.done i u (by omega) hu'
  · rcases cases' hu with ⟨rfl, rfl⟩ | ⟨hne, hu'⟩
    · omega
    · exact c.rest i u (by omega) hu'
  · rcases cases' hu with ⟨rfl, rfl⟩ | ⟨hne, hu'⟩ <;> rcases cases' hv with ⟨rfl, rfl⟩ | ⟨hne', hv'⟩
    · exact absurd rfl hij
    · intro e
      have e2 : gp = g := Option.some.inj hg
      have := old j v hne' hv' g e
      omega
    · intro e
      have e2 : gp = g := Option.some.inj e
      have := old i u hne hu' g hg
      omega
    · exact h.dis i j u v hij hu' hv' g hg
theorem c29T (g : Geo) (s : Value) (L : List Int) (w : World) (hL : Given intE w s L) (hm : L.length ≤ 1000) (hsm : smallG g = true) :
    GivesR Try.prog 29 [g.v, s] w (fun v w' => ((okG g && !badF L) = false ∧ v = .tuple #[.pointer none, .int .i64 2]) ∨ (okG g = true ∧ badF L = false ∧ ∃ b mf sB Lb, v = .tuple #[pt b, .int .i64 0] ∧ DevM w' (fun y => w.heap.size ≤ y ∧ y < w'.heap.size) (fun y => y < w'.heap.size) b mf sB Lb (newDv g (inF L)))) := by
  obtain ⟨a, c, rfl⟩ := hL.1.slice
  refine givesR mix t29 rfl rfl (ε := [.int .i64 g.b, .int .i64 g.p, .int .i64 g.s, .int .i64 g.e, .slice a L.length c]) ⟨⟨_, rfl⟩, ⟨_, rfl⟩, ⟨_, rfl⟩, ⟨_, rfl⟩, ⟨_, _, _, rfl⟩, trivial⟩ (den_blk fun b5 k5 _ _ => den_norm (by simp only [List.cons_append, List.nil_append]; rfl) ?_)
  have zb5 : w.heap.size ≤ b5 := k5
  refine den_call_bool (b := okG g) (fun w1 h1 => c55 g w1) rfl (fun w1 w2 g1 k12 => den_norm (by simp only [List.cons_append, List.nil_append]; rfl) (den_splitNot (fun hb => ?_) (fun hb => ?_)))
  · have hb' : okG g = false := hb
    exact den_leafR _ rfl fun w5 _ => .inl ⟨by rw [hb']; rfl, rfl⟩
  have hok : okG g = true := hb
  have bnd := of_decide_eq_true hok
  have sm : g.b ≤ 8 ∧ g.p ≤ 8 ∧ g.s ≤ 40 := by simpa [smallG, hok] using hsm
  obtain ⟨nb, hnb⟩ : ∃ n : Nat, g.b = n := ⟨g.b.toNat, by omega⟩
  obtain ⟨np, hnp⟩ : ∃ n : Nat, g.p = n := ⟨g.p.toNat, by omega⟩
  refine den_callR (fun w1 l w2 => l = [.bool (badF L)]) (fun w3 g3 => ?_) (fun w3 l w4 g3 hfl hR k34 => ?_)
  · have k3 : Same w w3 := g3.base
    exact (c56 _ L w3 (hL.1.same k3) (by omega)).mono fun v w' q => ⟨[.bool (badF L)], ⟨⟨_, rfl⟩, trivial⟩, q, rfl⟩
  subst hR
  refine den_norm (by simp only [List.cons_append, List.nil_append]; rfl) (den_split (fun hb => ?_) (fun hb => ?_))
  · have hb' : badF L = true := hb
    exact den_leafR _ rfl fun w5 _ => .inl ⟨by rw [hb']; simp, rfl⟩
  have hbf : badF L = false := hb
  refine den_start1 fun ws gs => den_both ?_ ?_
  · refine den_makeMapB (fun v => rfl) (fun w5 mf w6 g5 hmf hm0 k56 => den_norm (by simp only [List.cons_append, List.nil_append]; rfl) ?_)
    refine den_make (n := nb) u48 i81 z81 hnb hnb (by have := by81; have := Nat.mul_le_mul_right nb this; omega) (by omega) (fun v => rfl) (fun w7 gB w8 g7 hgB hh k78 => den_norm (by simp only [List.cons_append, List.nil_append]; rfl) ?_)
    have hm8 := (hm0.same (shown_same g7)).same k78
    have hB8 : Mine blE 81 w8 (slc0 gB nb nb) (List.replicate nb ⟨.slice none 0 0, 0, 0⟩) := mine_made (E := blE) (T := 81) ⟨.slice none 0 0, 0, 0⟩ _ rfl (by decide) s81 (by omega) hh
    have l5 : b5 < w5.heap.size := by
      have := g5.lt (i := 5) (by simp [keys]) rfl
      exact this
    have f5 : b5 < mf ∧ b5 < gB := by have := k56.size; have : w6.heap.size ≤ w7.heap.size := g7.kept.size; have := hm0.lt; omega
    have fmg : mf ≠ gB := by have := hm0.lt; have : w6.heap.size ≤ w7.heap.size := g7.kept.size; omega
    have z5 : w.heap.size ≤ w5.heap.size := g5.base.size
    have z6 : w5.heap.size ≤ w6.heap.size := k56.size
    have z7 : w6.heap.size ≤ w7.heap.size := g7.kept.size
    have z8 : w7.heap.size ≤ w8.heap.size := k78.size
    have lmf := hm8.lt
    have lgB : gB < w8.heap.size := hB8.lt rfl
    refine den_blk fun b10 k10 _ _ => den_norm (by simp only [List.cons_append, List.nil_append]; rfl) ?_
    have z10 : w8.heap.size ≤ b10 := k10
    refine den_for L.length (fun j w9 => MapB w9 mf (inF (L.take j)) ∧ Mine blE 81 w9 (slc0 gB nb nb) (List.replicate nb ⟨.slice none 0 0, 0, 0⟩) ∧ Same w w9) ⟨rfl, fun w9 g9 => ⟨hm8.same (shown_same g9), hB8.same (shown_same g9), g9.base⟩⟩ ?_
    rintro j w9 hj ⟨hm9, hB9, s9⟩ _ hfa9
    refine den_norm (by simp only [List.cons_append, List.nil_append]; rfl) (den_splitLt (fun hlt => ?_) (fun hge => ?_))
    · have hlt' : j < L.length := by have : (j : Int) < (L.length : Int) := hlt; omega
      obtain ⟨x, hx⟩ : ∃ x, L[j]? = some x := ⟨_, List.getElem?_eq_getElem hlt'⟩
      have hL9 := hL.same s9
      refine den_idx2 (E := intE) (L := L) x j [.int .i64 x] hL9.1 rfl (by decide) rfl hx ⟨⟨_, rfl⟩, trivial⟩ (whole _) (fun w2 h2 => (hL9.same (shown_same h2)).1) (fun ad had hin => ?_) (fun w10 g10 => den_norm (by simp only [List.cons_append, List.nil_append]; rfl) ?_)
      · have := hL.2.2.2 ad had
        simp [BlkIn, nth, blkOf, vaddr] at hin
      refine den_updateB rfl mf (inF (L.take j)) u47 u3 rfl (fun w11 g11 => (hm9.same (shown_same g10)).same (shown_same g11)) (fun w11 g11 => ⟨fun hd => (by cases hd), fun hl => by have : mf < w.heap.size := hl; omega, fun hin => by simp [BlkIn, nth, blkOf, vaddr] at hin; omega, fun hx => (by cases hx)⟩) (fun w11 w12 g11 hm12 k1112 => ?_)
      have hm12' : MapB w12 mf (fun k => decide (k = x) || inF (L.take j) k) := hm12
      rw [inF_take L j x hx] at hm12'
      have hB12 := ((hB9.same (shown_same g10)).same (shown_same g11)).kept k1112 fun y hy e => by have e2 : gB = y := Option.some.inj hy; omega
      refine den_ob64 ⟨by simp only [IE.den, nth, vint]; omega, by simp only [IE.den, nth, vint]; omega⟩ (den_next rfl hlt' fun w13 g13 => ⟨hm12'.same ?_, hB12.same ?_, g13.base⟩)
      · exact shown_same g13
      · exact shown_same g13
    have ej : j = L.length := by have : (L.length : Int) ≤ (j : Int) := hge; omega
    subst ej
    rw [List.take_length] at hm9
    have z9 : w.heap.size ≤ w9.heap.size := s9.size
    have hb10 : HasBlk w9 (pt b10) (devC (newDv g (inF L)) mf (slc0 gB nb nb)) := hfa9.1
    have lb10 : b10 < w9.heap.size := hb10.pts.lt (by simp [devC]) b10 rfl
    have lmf9 := hm9.lt
    have lgB9 : gB < w9.heap.size := hB9.lt rfl
    refine den_for nb (fun k w10 => ∃ Lb, NewB w9.heap.size np nb w10 k Lb ∧ Mine blE 81 w10 (slc0 gB nb nb) Lb ∧ MapB w10 mf (inF L) ∧ w9.heap.size ≤ w10.heap.size) ⟨rfl, fun w10 g10 => ⟨List.replicate nb ⟨.slice none 0 0, 0, 0⟩, ⟨by simp, fun i u hi => by omega, fun i u _ hu => ?_, fun i j u v _ hu _ y hy => ?_⟩, hB9.same (shown_same g10), hm9.same (shown_same g10), g10.kept.size⟩⟩ ?_
    · exact (List.mem_replicate.1 (List.mem_of_getElem? hu)).2
    · have e := (List.mem_replicate.1 (List.mem_of_getElem? hu)).2
      subst e
      cases hy
    rintro k w10 hk ⟨Lb, hN, hB10, hm10, z910⟩ _ hfa10
    refine den_norm (by simp only [List.cons_append, List.nil_append]; rfl) (den_splitLt (fun hlt => ?_) (fun hge => ?_))
    · have hlt' : k < nb := by have : (k : Int) < (nb : Int) := hlt; omega
      intro w11 g11
      refine ⟨fun y => y = gB ∨ BlkIn [.int .i64 g.b, .int .i64 g.p, .int .i64 g.s, .int .i64 g.e, .slice a L.length c, pt b5, .bool (okG g), .bool (badF L), .map (some mf), slc0 gB nb nb, pt b10, .int .i64 (L.length : Nat), .int .i64 k] [10, 5] y, fun y hy => .inr hy, ?_⟩
      have hB11 := hB10.same (shown_same g11)
      have hm11 := hm10.same (shown_same g11)
      have z11 : w10.heap.size ≤ w11.heap.size := g11.kept.size
      refine den_obs (E := blE) (L := Lb) (w0 := w11) k (by have e := hN.len; have := hB11.arr; exact this) (by decide) rfl (by rw [hN.len]; exact hlt') ?_
      obtain ⟨v, hv⟩ : ∃ v, Lb[k]? = some v := ⟨_, List.getElem?_eq_getElem (by rw [hN.len]; exact hlt')⟩
      have ev := hN.rest k v (Nat.le_refl _) hv
      subst ev
      refine den_callM (fun _ y => y = gB) (fun w12 l w13 => l = [] ∧ ∃ gp, w12.heap.size ≤ gp ∧ Mine blE 81 w13 (slc0 gB nb nb) (Lb.set k ⟨slc0 gp np np, 0, 0⟩) ∧ Mine pgE 78 w13 (slc0 gp np np) (List.replicate np ⟨.slice none 0 0, 1⟩)) (fun w12 g12 y hy hl => ⟨fun _ => .inl hy, fun hl => by have : y < w.heap.size := hl; omega, fun hin => by simp [BlkIn, nth, blkOf, vaddr] at hin; omega, fun hx => (by cases hx)⟩) (fun w12 g12 => ?_) (fun w12 l w13 g12 hfl hR k1213 => ?_)
      · have hB12 : Mine blE 81 w12 (slc0 gB Lb.length nb) Lb := by rw [hN.len]; exact hB11.same (shown_same g12)
        have hr := c58 gB k nb np Lb ⟨.slice none 0 0, 0, 0⟩ 1 w12 hB12 hv (by omega) ⟨_, _, _, rfl⟩
        have e : ∀ l, l = [ptA gB (k * 3), .int .i64 np, .int .i64 1] → Runs Try.prog 58 l w12 (fun y => y = gB) _ := fun l e => by rw [e]; exact hr
        refine (e _ (by simp [SV.den, denL, IE.den, BE.den, nth, vint, vbool, vaddr, addO, addr_add, hnp])).mono (fun r w' hr _ => ⟨[], trivial, hr.1, ⟨rfl, ?_⟩, trivial⟩) (fun _ _ h => h)
        obtain ⟨gp, q1, q2, q3⟩ := hr.2
        rw [hN.len] at q2
        exact ⟨gp, q1, q2, q3⟩
      obtain ⟨rfl, gp, q1, q2, q3⟩ := hR
      have z12 : w11.heap.size ≤ w12.heap.size := g12.kept.size
      have hN13 := (((hN.kept (shown_same g11) fun _ _ h => h).kept (shown_same g12) fun _ _ h => h).step k1213 (fun y hy e => by omega) (by omega) q1 hlt' q3)
      have hm13 := (hm11.same (shown_same g12)).kept k1213 fmg
      have z13 : w12.heap.size ≤ w13.heap.size := k1213.size
      refine den_norm (by simp only [List.cons_append, List.nil_append]; rfl) (den_ob64 ⟨by simp only [IE.den, nth, vint]; omega, by simp only [IE.den, nth, vint]; omega⟩ (den_next rfl hlt' fun w14 g14 => ⟨Lb.set k ⟨slc0 gp np np, 0, 0⟩, hN13.kept (M := fun _ => False) ?_ (fun _ _ h => h), q2.same ?_, hm13.same ?_, ?_⟩))
      · exact shown_same g14
      · exact shown_same g14
      · exact shown_same g14
      · have : w13.heap.size ≤ w14.heap.size := g14.kept.size
        omega
    have ek : k = nb := by have : (nb : Int) ≤ (k : Int) := hge; omega
    subst ek
    have hb10' : HasBlk w10 (pt b10) (devC (newDv g (inF L)) mf (slc0 gB k k)) := hfa10.1
    refine den_leaf' fun wz gz => (if_neg (by decide)).mpr ((if_neg (by decide)).mpr ⟨_, rfl, .inr ⟨hok, hbf, b10, mf, slc0 gB k k, Lb, by simp [SV.den, denL, IE.den, BE.den, nth, vint, vbool, vaddr, addO, addr_add], ?_⟩, gz.base⟩)
    have kz : Same w10 wz := shown_same gz
    have zz : w10.heap.size ≤ wz.heap.size := kz.size
    refine ⟨hb10'.keptA kz fun h => h, hm10.same kz, hB10.same kz, ?_, fun i v x hv hx => ?_, ⟨by omega, by omega⟩, ⟨by omega, by omega⟩, by omega, fun y hy => ?_, fun i v hv y hy => ?_, hN.dis, fun y hy => hy.2, fun y hy => hy⟩
    · rw [hN.len]; simp [newDv, hnb]
    · obtain ⟨gp, e, _, hp⟩ := hN.done i v (by rw [← hN.len]; exact (List.getElem?_eq_some_iff.1 hv).1) hv
      subst e
      have ex : x = fresh g.p 1 0 := (List.mem_replicate.1 (List.mem_of_getElem? hx)).2
      subst ex
      refine ⟨rfl, rfl, _, hp.same kz, ?_⟩
      have : (fresh g.p 1 0).ps = List.replicate np ⟨1, []⟩ := by simp [fresh, hnp]
      rw [this]
      exact PgsAt.fresh np 1
    · have e : gB = y := Option.some.inj hy
      subst e
      exact ⟨⟨by omega, by omega⟩, by omega, by omega⟩
    · obtain ⟨gp, e, q1, hp⟩ := hN.done i v (by rw [← hN.len]; exact (List.getElem?_eq_some_iff.1 hv).1) hv
      subst e
      have e : gp = y := Option.some.inj hy
      subst e
      have lgp : gp < w10.heap.size := hp.lt rfl
      refine ⟨⟨by omega, by omega⟩, by omega, by omega, fun e => ?_⟩
      have e2 : gB = gp := Option.some.inj e
      omega
  · refine den_make (n := nb) u48 i81 z81 hnb hnb (by have := by81; have := Nat.mul_le_mul_right nb this; omega) (by omega) (fun v => rfl) (fun w5 gB w6 g5 hgB hh k56 => den_norm (by simp only [List.cons_append, List.nil_append]; rfl) ?_)
    refine den_makeMapB (fun v => rfl) (fun w7 mf w8 g7 hmf hm0 k78 => den_norm (by simp only [List.cons_append, List.nil_append]; rfl) ?_)
    have hm8 := hm0
    have hB8 : Mine blE 81 w8 (slc0 gB nb nb) (List.replicate nb ⟨.slice none 0 0, 0, 0⟩) := ((mine_made (E := blE) (T := 81) (⟨.slice none 0 0, 0, 0⟩ : Bv) _ rfl (by decide) s81 (by omega) hh).same (shown_same g7)).same k78
    have l5 : b5 < w5.heap.size := by
      have := g5.lt (i := 5) (by simp [keys]) rfl
      exact this
    have lB6 : gB < w6.heap.size := (mine_made (E := blE) (T := 81) (⟨.slice none 0 0, 0, 0⟩ : Bv) _ rfl (by decide) s81 (by omega) hh).lt rfl
    have f5 : b5 < mf ∧ b5 < gB := by have := k56.size; have : w6.heap.size ≤ w7.heap.size := g7.kept.size; omega
    have fmg : mf ≠ gB := by have : w6.heap.size ≤ w7.heap.size := g7.kept.size; omega
    have z5 : w.heap.size ≤ w5.heap.size := g5.base.size
    have z6 : w5.heap.size ≤ w6.heap.size := k56.size
    have z7 : w6.heap.size ≤ w7.heap.size := g7.kept.size
    have z8 : w7.heap.size ≤ w8.heap.size := k78.size
    have lmf := hm8.lt
    have lgB : gB < w8.heap.size := hB8.lt rfl
    refine den_blk fun b10 k10 _ _ => den_norm (by simp only [List.cons_append, List.nil_append]; rfl) ?_
    have z10 : w8.heap.size ≤ b10 := k10
    refine den_for L.length (fun j w9 => MapB w9 mf (inF (L.take j)) ∧ Mine blE 81 w9 (slc0 gB nb nb) (List.replicate nb ⟨.slice none 0 0, 0, 0⟩) ∧ Same w w9) ⟨rfl, fun w9 g9 => ⟨hm8.same (shown_same g9), hB8.same (shown_same g9), g9.base⟩⟩ ?_
    rintro j w9 hj ⟨hm9, hB9, s9⟩ _ hfa9
    refine den_norm (by simp only [List.cons_append, List.nil_append]; rfl) (den_splitLt (fun hlt => ?_) (fun hge => ?_))
    · have hlt' : j < L.length := by have : (j : Int) < (L.length : Int) := hlt; omega
      obtain ⟨x, hx⟩ : ∃ x, L[j]? = some x := ⟨_, List.getElem?_eq_getElem hlt'⟩
      have hL9 := hL.same s9
      refine den_idx2 (E := intE) (L := L) x j [.int .i64 x] hL9.1 rfl (by decide) rfl hx ⟨⟨_, rfl⟩, trivial⟩ (whole _) (fun w2 h2 => (hL9.same (shown_same h2)).1) (fun ad had hin => ?_) (fun w10 g10 => den_norm (by simp only [List.cons_append, List.nil_append]; rfl) ?_)
      · have := hL.2.2.2 ad had
        simp [BlkIn, nth, blkOf, vaddr] at hin
      refine den_updateB rfl mf (inF (L.take j)) u47 u3 rfl (fun w11 g11 => (hm9.same (shown_same g10)).same (shown_same g11)) (fun w11 g11 => ⟨fun hd => (by cases hd), fun hl => by have : mf < w.heap.size := hl; omega, fun hin => by simp [BlkIn, nth, blkOf, vaddr] at hin; omega, fun hx => (by cases hx)⟩) (fun w11 w12 g11 hm12 k1112 => ?_)
      have hm12' : MapB w12 mf (fun k => decide (k = x) || inF (L.take j) k) := hm12
      rw [inF_take L j x hx] at hm12'
      have hB12 := ((hB9.same (shown_same g10)).same (shown_same g11)).kept k1112 fun y hy e => by have e2 : gB = y := Option.some.inj hy; omega
      refine den_ob64 ⟨by simp only [IE.den, nth, vint]; omega, by simp only [IE.den, nth, vint]; omega⟩ (den_next rfl hlt' fun w13 g13 => ⟨hm12'.same ?_, hB12.same ?_, g13.base⟩)
      · exact shown_same g13
      · exact shown_same g13
    have ej : j = L.length := by have : (L.length : Int) ≤ (j : Int) := hge; omega
    subst ej
    rw [List.take_length] at hm9
    have z9 : w.heap.size ≤ w9.heap.size := s9.size
    have hb10 : HasBlk w9 (pt b10) (devC (newDv g (inF L)) mf (slc0 gB nb nb)) := hfa9.1
    have lb10 : b10 < w9.heap.size := hb10.pts.lt (by simp [devC]) b10 rfl
    have lmf9 := hm9.lt
    have lgB9 : gB < w9.heap.size := hB9.lt rfl
    refine den_for nb (fun k w10 => ∃ Lb, NewB w9.heap.size np nb w10 k Lb ∧ Mine blE 81 w10 (slc0 gB nb nb) Lb ∧ MapB w10 mf (inF L) ∧ w9.heap.size ≤ w10.heap.size) ⟨rfl, fun w10 g10 => ⟨List.replicate nb ⟨.slice none 0 0, 0, 0⟩, ⟨by simp, fun i u hi => by omega, fun i u _ hu => ?_, fun i j u v _ hu _ y hy => ?_⟩, hB9.same (shown_same g10), hm9.same (shown_same g10), g10.kept.size⟩⟩ ?_
    · exact (List.mem_replicate.1 (List.mem_of_getElem? hu)).2
    · have e := (List.mem_replicate.1 (List.mem_of_getElem? hu)).2
      subst e
      cases hy
    rintro k w10 hk ⟨Lb, hN, hB10, hm10, z910⟩ _ hfa10
    refine den_norm (by simp only [List.cons_append, List.nil_append]; rfl) (den_splitLt (fun hlt => ?_) (fun hge => ?_))
    · have hlt' : k < nb := by have : (k : Int) < (nb : Int) := hlt; omega
      intro w11 g11
      refine ⟨fun y => y = gB ∨ BlkIn [.int .i64 g.b, .int .i64 g.p, .int .i64 g.s, .int .i64 g.e, .slice a L.length c, pt b5, .bool (okG g), .bool (badF L), slc0 gB nb nb, .map (some mf), pt b10, .int .i64 (L.length : Nat), .int .i64 k] [10, 5] y, fun y hy => .inr hy, ?_⟩
      have hB11 := hB10.same (shown_same g11)
      have hm11 := hm10.same (shown_same g11)
      have z11 : w10.heap.size ≤ w11.heap.size := g11.kept.size
      refine den_obs (E := blE) (L := Lb) (w0 := w11) k (by have e := hN.len; have := hB11.arr; exact this) (by decide) rfl (by rw [hN.len]; exact hlt') ?_
      obtain ⟨v, hv⟩ : ∃ v, Lb[k]? = some v := ⟨_, List.getElem?_eq_getElem (by rw [hN.len]; exact hlt')⟩
      have ev := hN.rest k v (Nat.le_refl _) hv
      subst ev
      refine den_callM (fun _ y => y = gB) (fun w12 l w13 => l = [] ∧ ∃ gp, w12.heap.size ≤ gp ∧ Mine blE 81 w13 (slc0 gB nb nb) (Lb.set k ⟨slc0 gp np np, 0, 0⟩) ∧ Mine pgE 78 w13 (slc0 gp np np) (List.replicate np ⟨.slice none 0 0, 1⟩)) (fun w12 g12 y hy hl => ⟨fun _ => .inl hy, fun hl => by have : y < w.heap.size := hl; omega, fun hin => by simp [BlkIn, nth, blkOf, vaddr] at hin; omega, fun hx => (by cases hx)⟩) (fun w12 g12 => ?_) (fun w12 l w13 g12 hfl hR k1213 => ?_)
      · have hB12 : Mine blE 81 w12 (slc0 gB Lb.length nb) Lb := by rw [hN.len]; exact hB11.same (shown_same g12)
        have hr := c58 gB k nb np Lb ⟨.slice none 0 0, 0, 0⟩ 1 w12 hB12 hv (by omega) ⟨_, _, _, rfl⟩
        have e : ∀ l, l = [ptA gB (k * 3), .int .i64 np, .int .i64 1] → Runs Try.prog 58 l w12 (fun y => y = gB) _ := fun l e => by rw [e]; exact hr
        refine (e _ (by simp [SV.den, denL, IE.den, BE.den, nth, vint, vbool, vaddr, addO, addr_add, hnp])).mono (fun r w' hr _ => ⟨[], trivial, hr.1, ⟨rfl, ?_⟩, trivial⟩) (fun _ _ h => h)
        obtain ⟨gp, q1, q2, q3⟩ := hr.2
        rw [hN.len] at q2
        exact ⟨gp, q1, q2, q3⟩
      obtain ⟨rfl, gp, q1, q2, q3⟩ := hR
      have z12 : w11.heap.size ≤ w12.heap.size := g12.kept.size
      have hN13 := (((hN.kept (shown_same g11) fun _ _ h => h).kept (shown_same g12) fun _ _ h => h).step k1213 (fun y hy e => by omega) (by omega) q1 hlt' q3)
      have hm13 := (hm11.same (shown_same g12)).kept k1213 fmg
      have z13 : w12.heap.size ≤ w13.heap.size := k1213.size
      refine den_norm (by simp only [List.cons_append, List.nil_append]; rfl) (den_ob64 ⟨by simp only [IE.den, nth, vint]; omega, by simp only [IE.den, nth, vint]; omega⟩ (den_next rfl hlt' fun w14 g14 => ⟨Lb.set k ⟨slc0 gp np np, 0, 0⟩, hN13.kept (M := fun _ => False) ?_ (fun _ _ h => h), q2.same ?_, hm13.same ?_, ?_⟩))
      · exact shown_same g14
      · exact shown_same g14
      · exact shown_same g14
      · have : w13.heap.size ≤ w14.heap.size := g14.kept.size
        omega
    have ek : k = nb := by have : (nb : Int) ≤ (k : Int) := hge; omega
    subst ek
    have hb10' : HasBlk w10 (pt b10) (devC (newDv g (inF L)) mf (slc0 gB k k)) := hfa10.1
    refine den_leaf' fun wz gz => (if_neg (by decide)).mpr ((if_neg (by decide)).mpr ⟨_, rfl, .inr ⟨hok, hbf, b10, mf, slc0 gB k k, Lb, by simp [SV.den, denL, IE.den, BE.den, nth, vint, vbool, vaddr, addO, addr_add], ?_⟩, gz.base⟩)
    have kz : Same w10 wz := shown_same gz
    have zz : w10.heap.size ≤ wz.heap.size := kz.size
    refine ⟨hb10'.keptA kz fun h => h, hm10.same kz, hB10.same kz, ?_, fun i v x hv hx => ?_, ⟨by omega, by omega⟩, ⟨by omega, by omega⟩, by omega, fun y hy => ?_, fun i v hv y hy => ?_, hN.dis, fun y hy => hy.2, fun y hy => hy⟩
    · rw [hN.len]; simp [newDv, hnb]
    · obtain ⟨gp, e, _, hp⟩ := hN.done i v (by rw [← hN.len]; exact (List.getElem?_eq_some_iff.1 hv).1) hv
      subst e
      have ex : x = fresh g.p 1 0 := (List.mem_replicate.1 (List.mem_of_getElem? hx)).2
      subst ex
      refine ⟨rfl, rfl, _, hp.same kz, ?_⟩
      have : (fresh g.p 1 0).ps = List.replicate np ⟨1, []⟩ := by simp [fresh, hnp]
      rw [this]
      exact PgsAt.fresh np 1
    · have e : gB = y := Option.some.inj hy
      subst e
      exact ⟨⟨by omega, by omega⟩, by omega, by omega⟩
    · obtain ⟨gp, e, q1, hp⟩ := hN.done i v (by rw [← hN.len]; exact (List.getElem?_eq_some_iff.1 hv).1) hv
      subst e
      have e : gp = y := Option.some.inj hy
      subst e
      have lgp : gp < w10.heap.size := hp.lt rfl
      refine ⟨⟨by omega, by omega⟩, by omega, by omega, fun e => ?_⟩
      have e2 : gB = gp := Option.some.inj e
      omega
theorem DevM.shrink {w : World} {S T T' : Nat → Prop} {b mf : Nat} {sB : Value} {Lb : List Bv} {d : Dv} (h : DevM w S T b mf sB Lb d) (hT : ∀ y, T' y → T y) (hST : ∀ y, S y → T' y) : DevM w S T' b mf sB Lb d :=
  ⟨h.blk, h.map, h.own, h.len, fun i v x hv hx => let ⟨e1, e2, L, hL, hp⟩ := h.pg i v x hv hx; ⟨e1, e2, L, hL, hp.len, fun k u p a1 a2 => let q := hp.at_ k u p a1 a2; ⟨q.st, q.g, fun ad had ht => q.out ad had (hT _ ht)⟩⟩, h.Sb, h.Sm, h.ne, h.SB, h.Sp, h.dis, hST, fun y hy => h.lt y (hT y hy)⟩
theorem c29 (g : Geo) (s : Value) (L : List Int) (w : World) (hL : Given intE w s L) (hm : L.length ≤ 1000) (hsm : smallG g = true) :
    GivesR Try.prog 29 [g.v, s] w (fun v w' => ((okG g && !badF L) = false ∧ v = .tuple #[.pointer none, .int .i64 2]) ∨ (okG g = true ∧ badF L = false ∧ ∃ b mf sB Lb, v = .tuple #[pt b, .int .i64 0] ∧ DevM w' (fun y => w.heap.size ≤ y ∧ y < w'.heap.size) (fun y => w.heap.size ≤ y ∧ y < w'.heap.size) b mf sB Lb (newDv g (inF L)))) :=
  (c29T g s L w hL hm hsm).mono fun v w' h => h.imp_right fun ⟨h1, h2, b, mf, sB, Lb, h3, h4⟩ => ⟨h1, h2, b, mf, sB, Lb, h3, h4.shrink (fun y hy => hy.2) (fun y hy => hy)⟩
end Go.Proofs.Ytppbapnibpeolaa
