/- Pieces cover a write within the limit and the boundaries, and commands that are ready together do not conflict. No conditions beyond those that each theorem names. -/
import Derived.Test.YtfjimghpjopgoaaS
set_option maxRecDepth 100000
set_option linter.unusedVariables false
set_option linter.unusedSimpArgs false
namespace Go.Proofs.Ytfjimghpjopgoaa
open Go.Sx

/-- these pieces, each within the limit and the boundaries, lead from a place to a place -/
def GoodP (lim b o : Int) : Int → List (Int × Int) → Int → Prop
  | at_, [], e => e = at_
  | at_, x :: L, e => x.1 = at_ ∧ 1 ≤ x.2 ∧ x.2 ≤ lim ∧ (0 < b → (at_ - o + b).tdiv b = (at_ + x.2 - 1 - o + b).tdiv b) ∧ GoodP lim b o (at_ + x.2) L e
theorem GoodP.append {lim b o : Int} : ∀ {a : Int} {L : List (Int × Int)} {e : Int} {M : List (Int × Int)} {z : Int}, GoodP lim b o a L e → GoodP lim b o e M z → GoodP lim b o a (L ++ M) z
  | a, [], e, M, z, h, k => by cases h; exact k
  | a, x :: L, e, M, z, ⟨h1, h2, h3, h4, h5⟩, k => ⟨h1, h2, h3, h4, GoodP.append h5 k⟩
theorem goodP_singles {lim b o : Int} (hl : 1 ≤ lim) (lba : Int) : ∀ (k : Nat), GoodP lim b o lba (singles lba k) (lba + (k : Int))
  | 0 => by simp [singles, GoodP]
  | k + 1 => by
    rw [singles_succ]
    refine GoodP.append (goodP_singles hl lba k) ⟨rfl, Int.le_refl _, hl, fun _ => ?_, ?_⟩
    · congr 1; dsimp only; omega
    · simp only [GoodP]; push_cast; omega
theorem goodP_cut {lim b o : Int} (hl : 1 ≤ lim) (hb : (b = 0 ∧ o = 0) ∨ (1 ≤ b ∧ 0 ≤ o ∧ o < b)) : ∀ {lba n : Int} {L : List (Int × Int)}, Cut lim b o lba n L → 0 ≤ lba → 0 ≤ n → GoodP lim b o lba L (lba + n)
  | lba, n, _, .nil h, h1, h2 => by
    have : n = 0 := by omega
    subst this
    simp [GoodP]
  | lba, n, _, .cons (L := L) h c, h1, h2 => by
    obtain ⟨p1, p2⟩ := partA_bounds (n := n) hb h1 (by omega)
    have ih := goodP_cut hl hb c (by omega) (by omega)
    have e : lba + partA b o lba n + (n - partA b o lba n) = lba + n := by omega
    rw [e] at ih
    refine GoodP.append ?_ ih
    unfold chunk
    split
    · rename_i hk
      refine ⟨rfl, p1, hk, fun hb0 => ?_, rfl⟩
      have hp : partA b o lba n ≤ b - (lba - o + b).tmod b := by
        unfold partA
        rw [if_neg (by omega)]
        split <;> omega
      have hx : 0 < lba - o + b := by omega
      rw [Int.tmod_eq_emod_of_nonneg (by omega)] at hp
      rw [Int.tdiv_eq_ediv_of_nonneg (by omega), Int.tdiv_eq_ediv_of_nonneg (by dsimp only; omega)]
      dsimp only
      generalize partA b o lba n = k at p1 p2 hp
      have hd := Int.mul_ediv_add_emod (lba - o + b) b
      have hr0 := Int.emod_nonneg (lba - o + b) (show b ≠ 0 by omega)
      generalize (lba - o + b) % b = r at hp hd hr0
      generalize (lba - o + b) / b = q at hd ⊢
      have e2 : lba + k - 1 - o + b = (r + k - 1) + b * q := by omega
      rw [e2, Int.add_mul_ediv_left _ _ (by omega), Int.ediv_eq_zero_of_lt (by omega) (by omega)]
      omega
    · have := goodP_singles (b := b) (o := o) hl lba (partA b o lba n).toNat
      rw [Int.toNat_of_nonneg (by omega)] at this
      exact this

/-- the command of a call, by its index -/
def cmdAt (A : List ActT) (i : Nat) : Cmd := match A[i]? with
  | some x => ⟨i, x.c.lba, x.c.n, x.c.wr⟩
  | none => ⟨i, 0, 0, false⟩
/-- the commands of the open ones -/
def cmdsOf (A : List ActT) (op : List Nat) : List Cmd := op.map (cmdAt A)
/-- the open ones: in their order, each valid -/
structure Open (A : List ActT) (i : Nat) (op : List Nat) : Prop where
  inc : op.Pairwise (· < ·)
  lt : ∀ x ∈ op, x < i
  ok : ∀ x ∈ op, x < A.length ∧ okBlk (cmdAt A x).lba (cmdAt A x).n = true
theorem cmdAt_id {A : List ActT} {i : Nat} : (cmdAt A i).id = i := by unfold cmdAt; split <;> rfl
theorem cmdsOf_get {A : List ActT} {op : List Nat} {m x : Nat} (h : op[m]? = some x) : (cmdsOf A op)[m]? = some (cmdAt A x) := by simp [cmdsOf, h]
theorem Open.fnd_new {A : List ActT} {i : Nat} {op : List Nat} (h : Open A i op) : ¬ 0 ≤ fnd (cmdsOf A op) i := by
  intro hn
  rcases idxFrom_bounds (fun _ x => decide (x.id = (i : Int))) (cmdsOf A op) 0 with e | ⟨j, x, e, hx, hp⟩
  · unfold fnd at hn; rw [e] at hn; omega
  · simp only [cmdsOf, List.getElem?_map, Option.map_eq_some_iff] at hx
    obtain ⟨y, hy, rfl⟩ := hx
    have := h.lt y (List.mem_of_getElem? hy)
    rw [cmdAt_id] at hp
    have := of_decide_eq_true hp
    omega
theorem Open.fnd_old {A : List ActT} {i : Nat} {op : List Nat} (h : Open A i op) {m x : Nat} (hx : op[m]? = some x) : fnd (cmdsOf A op) x = (m : Int) := by
  unfold fnd
  have := idxFrom_found (fun _ (y : Cmd) => decide (y.id = (x : Int))) (cmdsOf A op) 0 m (cmdAt A x) (cmdsOf_get hx) (by rw [cmdAt_id]; exact decide_eq_true rfl) (fun j y hj hy => ?_)
  · rw [this]; simp
  · simp only [cmdsOf, List.getElem?_map, Option.map_eq_some_iff] at hy
    obtain ⟨z, hz, rfl⟩ := hy
    rw [cmdAt_id]
    refine decide_eq_false fun e => ?_
    have hlm := (List.getElem?_eq_some_iff.1 hx).1
    have h2 := List.pairwise_iff_getElem.1 h.inc j m (by omega) hlm hj
    have e1 := (List.getElem?_eq_some_iff.1 hz).2
    have e2 := (List.getElem?_eq_some_iff.1 hx).2
    rw [e1, e2] at h2
    omega
theorem Open.at_old {A : List ActT} {i : Nat} {op : List Nat} (h : Open A i op) {m x : Nat} (hx : op[m]? = some x) : atE (cmdsOf A op) x = 0 ∧ atI (cmdsOf A op) x = (m : Int) ∧ rdB (cmdsOf A op) x = rdy (cmdsOf A op) m := by
  have e := h.fnd_old hx
  have e1 : atE (cmdsOf A op) x = 0 := by unfold atE; rw [if_neg (by omega), if_pos (by rw [e]; omega)]
  have e2 : atI (cmdsOf A op) x = (m : Int) := by unfold atI; rw [if_pos e1, e]
  refine ⟨e1, e2, ?_⟩
  unfold rdB
  rw [e1, e2]
  simp
theorem Open.begun {A : List ActT} {i : Nat} {op : List Nat} (h : Open A i op) (hi : i < A.length) (hl : op.length ≤ 1000) :
    begE (cmdsOf A op) (cmdAt A i) = (if okBlk (cmdAt A i).lba (cmdAt A i).n then 0 else 2) ∧
    begL (cmdsOf A op) (cmdAt A i) = (if okBlk (cmdAt A i).lba (cmdAt A i).n then cmdsOf A (op ++ [i]) else cmdsOf A op) := by
  have e : begE (cmdsOf A op) (cmdAt A i) = (if okBlk (cmdAt A i).lba (cmdAt A i).n then 0 else 2) := by
    unfold begE
    rw [cmdAt_id]
    have h1 := h.fnd_new
    have h2 : (cmdsOf A op).length = op.length := by simp [cmdsOf]
    have h3 : decide ((0 : Int) ≤ (i : Int)) = true := decide_eq_true (by omega)
    rw [h3, Bool.true_and]
    cases okBlk (cmdAt A i).lba (cmdAt A i).n with
    | false => simp
    | true => rw [if_neg (by simp), if_neg h1, if_neg (by omega)]; simp
  refine ⟨e, ?_⟩
  unfold begL
  rw [e]
  cases okBlk (cmdAt A i).lba (cmdAt A i).n with
  | false => simp
  | true => simp [cmdsOf]
theorem Open.push {A : List ActT} {i : Nat} {op : List Nat} (h : Open A i op) (hi : i < A.length) (ho : okBlk (cmdAt A i).lba (cmdAt A i).n = true) : Open A (i + 1) (op ++ [i]) := by
  refine ⟨List.pairwise_append.2 ⟨h.inc, List.pairwise_singleton _ _, fun x hx y hy => ?_⟩, fun x hx => ?_, fun x hx => ?_⟩
  · simp at hy; subst hy; exact h.lt x hx
  · rcases List.mem_append.1 hx with hx | hx
    · have := h.lt x hx; omega
    · simp at hx; omega
  · rcases List.mem_append.1 hx with hx | hx
    · exact h.ok x hx
    · simp at hx; subst hx; exact ⟨hi, ho⟩
theorem Open.next {A : List ActT} {i : Nat} {op : List Nat} (h : Open A i op) : Open A (i + 1) op := ⟨h.inc, fun x hx => by have := h.lt x hx; omega, h.ok⟩
theorem Open.tail {A : List ActT} {i x : Nat} {op : List Nat} (h : Open A i (x :: op)) : Open A i op := ⟨(List.pairwise_cons.1 h.inc).2, fun y hy => h.lt y (by simp [hy]), fun y hy => h.ok y (by simp [hy])⟩
theorem Open.first {A : List ActT} {i x : Nat} {op : List Nat} (h : Open A i (x :: op)) :
    nxE (cmdsOf A (x :: op)) = 0 ∧ nxI (cmdsOf A (x :: op)) = (x : Int) ∧ endE (cmdsOf A (x :: op)) x = 0 ∧ endL (cmdsOf A (x :: op)) x = cmdsOf A op := by
  have h0 : (x :: op)[0]? = some x := rfl
  have hr : rdy (cmdsOf A (x :: op)) 0 = true := by unfold rdy; simp [cmdsOf]
  have hn : nx (cmdsOf A (x :: op)) = 0 := by
    unfold nx
    have := idxFrom_found (fun i (_ : Cmd) => rdy (cmdsOf A (x :: op)) i) (cmdsOf A (x :: op)) 0 0 (cmdAt A x) (cmdsOf_get h0) hr (fun j y hj _ => by omega)
    rw [this]; rfl
  obtain ⟨e1, e2, e3⟩ := h.at_old h0
  refine ⟨?_, ?_, ?_, ?_⟩
  · unfold nxE; rw [hn]; rfl
  · unfold nxI
    rw [hn]
    have : (cmdsOf A (x :: op))[(0 : Int).toNat]? = some (cmdAt A x) := cmdsOf_get h0
    rw [this]
    simp [cmdAt_id]
  · unfold endE
    rw [if_pos e1, e2]
    simp [hr]
  · have ee : endE (cmdsOf A (x :: op)) x = 0 := by
      unfold endE
      rw [if_pos e1, e2]
      simp [hr]
    unfold endL
    rw [if_pos ee, e2]
    rfl
/-- two that are ready do not conflict -/
theorem ready_apart {A : List ActT} {op : List Nat} {m k x y : Nat} (hm : op[m]? = some x) (hk : op[k]? = some y) (hlt : m < k) (hr : rdy (cmdsOf A op) k = true) : conf (cmdAt A x) (cmdAt A y) = false := by
  unfold rdy at hr
  rw [cmdsOf_get hk] at hr
  simp only [List.all_eq_true, Bool.not_eq_true'] at hr
  refine hr _ (List.mem_iff_getElem?.2 ⟨m, ?_⟩)
  rw [List.getElem?_take, if_pos hlt]
  exact cmdsOf_get hm
end Go.Proofs.Ytfjimghpjopgoaa
