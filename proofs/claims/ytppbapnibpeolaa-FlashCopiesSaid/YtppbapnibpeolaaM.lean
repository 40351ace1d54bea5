/- A flash device as a value: what its methods come to. No conditions beyond those that each theorem names. -/
import Derived.Test.YtppbapnibpeolaaA
set_option maxRecDepth 100000
set_option maxHeartbeats 2000000
set_option linter.unusedVariables false
set_option linter.unusedSimpArgs false
namespace Go.Proofs.Ytppbapnibpeolaa
open Go.Sx

def Dv.blk (d : Dv) (B : Int) : Bl := (d.bs[B.toNat]?).getD ⟨[], 0, 0⟩
def Bl.pg (x : Bl) (A : Int) : Pg := (x.ps[A.toNat]?).getD ⟨0, []⟩
def Dv.hasB (d : Dv) (B : Int) : Bool := decide (0 ≤ B) && decide (B < d.bs.length)
def Dv.hasP (d : Dv) (B A : Int) : Bool := d.hasB B && (decide (0 ≤ A) && decide (A < d.g.p))
def tear (D : List Int) (c : Int) : List Int := D.take c.toNat ++ List.replicate (D.length - c.toNat) 255
def put (x : Bl) (A : Int) (p : Pg) : Bl := ⟨x.ps.set A.toNat p, x.nx + 1, x.er⟩
def fresh (p st er : Int) : Bl := ⟨List.replicate p.toNat ⟨st, []⟩, if st = 1 then 0 else p, er⟩
def Dv.cutNow (d : Dv) : Bool := decide (d.n = d.cut)
/-- the operation is counted, one block turns -/
def Dv.op (d : Dv) (B : Int) (x : Bl) : Dv := { d with n := d.n + 1, off := d.off || d.cutNow, bs := d.bs.set B.toNat x }
def Dv.prgP (d : Dv) (D : List Int) : Pg := if d.n = d.cut then ⟨if d.cb = D.length then 2 else 3, tear D d.cb⟩ else if d.F d.n then ⟨4, []⟩ else ⟨2, D⟩
def Dv.err (d : Dv) (e : Int) : Int := if d.n = d.cut then 50 else if d.F d.n then e else 0
def Dv.prgC (d : Dv) (B A : Int) (D1 D2 : List Int) : Int :=
  if d.hasP B A = false then 2 else if (D1.length : Int) ≠ d.g.s then 2 else if (D2.length : Int) ≠ 64 then 2 else if d.off then 50 else if A ≠ (d.blk B).nx then 51 else 0
def Dv.prgE (d : Dv) (B A : Int) (D1 D2 : List Int) : Int := if d.prgC B A D1 D2 = 0 then d.err 54 else d.prgC B A D1 D2
def Dv.prgD (d : Dv) (B A : Int) (D1 D2 : List Int) : Dv := if d.prgC B A D1 D2 = 0 then d.op B (put (d.blk B) A (d.prgP (D1 ++ D2))) else d
def Dv.ersC (d : Dv) (B : Int) : Int := if d.hasB B = false then 2 else if d.off then 50 else if d.g.e ≤ (d.blk B).er then 56 else 0
def Dv.ersS (d : Dv) : Int := if d.n = d.cut then 5 else if d.F d.n then 5 else 1
def Dv.ersE (d : Dv) (B : Int) : Int := if d.ersC B = 0 then d.err 55 else d.ersC B
def Dv.ersD (d : Dv) (B : Int) : Dv := if d.ersC B = 0 then d.op B (fresh d.g.p d.ersS ((d.blk B).er + 1)) else d
def Dv.cutE (d : Dv) (o c : Int) : Int := if o < d.n then 2 else if c < 0 then 2 else if d.g.s + 64 < c then 2 else if d.off then 50 else 0
def Dv.cutD (d : Dv) (o c : Int) : Dv := if d.cutE o c = 0 then { d with cut := o, cb := c } else d
def Dv.rst (d : Dv) : Dv := { d with cut := -1, off := false }
def Dv.next (d : Dv) (B : Int) : Int := if d.hasB B then (d.blk B).nx else 0
def Dv.state (d : Dv) (B A : Int) : Int := if d.hasP B A then ((d.blk B).pg A).st else 0
def Dv.rdE (d : Dv) (B A : Int) : Int :=
  if d.hasP B A = false then 2 else if d.off then 50 else if ((d.blk B).pg A).st = 1 then 52 else if ((d.blk B).pg A).st = 4 then 53 else if ((d.blk B).pg A).st = 5 then 53 else 0
def Dv.rdA (d : Dv) (B A : Int) : List Int := if d.rdE B A = 0 then (((d.blk B).pg A).D).take d.g.s.toNat else []
def Dv.rdB (d : Dv) (B A : Int) : List Int := if d.rdE B A = 0 then (((d.blk B).pg A).D).drop d.g.s.toNat else []
/-- a new device -/
def newDv (g : Geo) (F : Int → Bool) : Dv := ⟨g, F, List.replicate g.b.toNat (fresh g.p 1 0), 0, -1, 0, false⟩

structure PgOk (s nx : Int) (A : Nat) (q : Pg) : Prop where
  lo : 1 ≤ q.st
  hi : q.st ≤ 5
  data : q.st = 2 ∨ q.st = 3 → (q.D.length : Int) = s + 64
  er : q.st = 1 ↔ nx ≤ A
structure BlOk (p s e : Int) (x : Bl) : Prop where
  len : (x.ps.length : Int) = p
  nx0 : 0 ≤ x.nx
  nx1 : x.nx ≤ p
  er0 : 0 ≤ x.er
  er1 : x.er ≤ e
  pg : ∀ (A : Nat) q, x.ps[A]? = some q → PgOk s x.nx A q
structure Wf (d : Dv) : Prop where
  b0 : 2 ≤ d.g.b
  b1 : d.g.b ≤ 8
  p0 : 2 ≤ d.g.p
  p1 : d.g.p ≤ 8
  s0 : 1 ≤ d.g.s
  s1 : d.g.s ≤ 40
  e0 : 1 ≤ d.g.e
  e1 : d.g.e ≤ 1048576
  len : (d.bs.length : Int) = d.g.b
  bl : ∀ (B : Nat) x, d.bs[B]? = some x → BlOk d.g.p d.g.s d.g.e x
  n0 : 0 ≤ d.n
  c0 : 0 ≤ d.cb
  c1 : d.cb ≤ d.g.s + 64

theorem Dv.hasB_iff {d : Dv} {B : Int} : d.hasB B = true ↔ 0 ≤ B ∧ B < d.bs.length := by simp [Dv.hasB]
theorem Dv.hasP_iff {d : Dv} {B A : Int} : d.hasP B A = true ↔ (0 ≤ B ∧ B < d.bs.length) ∧ 0 ≤ A ∧ A < d.g.p := by simp [Dv.hasP, Dv.hasB]
/-- a block that exists -/
theorem Dv.blkAt {d : Dv} {B : Int} (h : d.hasB B = true) : ∃ j : Nat, B = j ∧ j < d.bs.length ∧ d.bs[j]? = some (d.blk B) := by
  obtain ⟨h1, h2⟩ := Dv.hasB_iff.1 h
  refine ⟨B.toNat, by omega, by omega, ?_⟩
  have : B.toNat < d.bs.length := by omega
  unfold Dv.blk
  rw [List.getElem?_eq_getElem this]
  rfl
theorem Wf.pgAt {d : Dv} (hw : Wf d) {B A : Int} (h : d.hasP B A = true) : ∃ i : Nat, A = i ∧ i < (d.blk B).ps.length ∧ (d.blk B).ps[i]? = some ((d.blk B).pg A) := by
  obtain ⟨h1, h2, h3⟩ := Dv.hasP_iff.1 h
  obtain ⟨j, _, _, hj⟩ := Dv.blkAt (Dv.hasB_iff.2 h1)
  have hl := (hw.bl _ _ hj).len
  have : A.toNat < (d.blk B).ps.length := by omega
  refine ⟨A.toNat, by omega, this, ?_⟩
  unfold Bl.pg
  rw [List.getElem?_eq_getElem this]
  rfl
theorem Dv.hasB_of {d : Dv} {B A : Int} (h : d.hasP B A = true) : d.hasB B = true := Dv.hasB_iff.2 (Dv.hasP_iff.1 h).1
theorem Wf.blk {d : Dv} (hw : Wf d) {B : Int} (h : d.hasB B = true) : BlOk d.g.p d.g.s d.g.e (d.blk B) := by
  obtain ⟨j, _, _, hj⟩ := Dv.blkAt h
  exact hw.bl _ _ hj
theorem tear_length (D : List Int) (c : Int) (h0 : 0 ≤ c) (h1 : c ≤ D.length) : (tear D c).length = D.length := by
  unfold tear
  rw [List.length_append, List.length_replicate, List.length_take]
  omega
theorem fresh_ok (p s e st er : Int) (hp : 0 ≤ p) (hst : st = 1 ∨ st = 5) (h0 : 0 ≤ er) (h1 : er ≤ e) : BlOk p s e (fresh p st er) := by
  refine ⟨by simp [fresh]; omega, by simp only [fresh]; split <;> omega, by simp only [fresh]; split <;> omega, h0, h1, fun A q hq => ?_⟩
  have hA : A < p.toNat := by have := (List.getElem?_eq_some_iff.1 hq).1; simpa [fresh] using this
  have e : q = ⟨st, []⟩ := by
    simp only [fresh, List.getElem?_replicate] at hq
    split at hq <;> first | exact (Option.some.inj hq).symm | cases hq
  subst e
  refine ⟨by dsimp only; omega, by dsimp only; omega, fun h => by dsimp only at h; omega, ?_⟩
  simp only [fresh]
  rcases hst with rfl | rfl
  · simp
  · simp
    omega
theorem put_ok {p s e : Int} {x : Bl} (h : BlOk p s e x) (A : Int) (hA : A = x.nx) (hp : A < p) (q : Pg) (h1 : 2 ≤ q.st) (h2 : q.st ≤ 4) (h3 : q.st = 2 ∨ q.st = 3 → (q.D.length : Int) = s + 64) : BlOk p s e (put x A q) := by
  have h0 := h.nx0
  refine ⟨by simp only [put, List.length_set]; exact h.len, by simp only [put]; omega, by simp only [put]; omega, h.er0, h.er1, fun B r hr => ?_⟩
  simp only [put] at hr ⊢
  rw [List.getElem?_set] at hr
  split at hr
  · rename_i e1
    split at hr
    · cases hr
      exact ⟨by omega, by omega, h3, by omega⟩
    · cases hr
  · rename_i e1
    have q := h.pg B r hr
    refine ⟨q.lo, q.hi, q.data, ?_⟩
    have := q.er
    omega
theorem Wf.op {d : Dv} (hw : Wf d) (B : Int) (x : Bl) (hx : BlOk d.g.p d.g.s d.g.e x) : Wf (d.op B x) :=
  ⟨hw.b0, hw.b1, hw.p0, hw.p1, hw.s0, hw.s1, hw.e0, hw.e1, by simp only [Dv.op, List.length_set]; exact hw.len, fun j y hy => by
    simp only [Dv.op] at hy ⊢
    rw [List.getElem?_set] at hy
    split at hy
    · split at hy
      · cases hy; exact hx
      · cases hy
    · exact hw.bl j y hy, by have := hw.n0; simp only [Dv.op]; omega, hw.c0, hw.c1⟩
theorem Wf.prgP_ok {d : Dv} (hw : Wf d) (D : List Int) (hD : (D.length : Int) = d.g.s + 64) : 2 ≤ (d.prgP D).st ∧ (d.prgP D).st ≤ 4 ∧ ((d.prgP D).st = 2 ∨ (d.prgP D).st = 3 → ((d.prgP D).D.length : Int) = d.g.s + 64) := by
  unfold Dv.prgP
  have := hw.c0
  have := hw.c1
  split
  · dsimp only
    refine ⟨by split <;> omega, by split <;> omega, fun _ => ?_⟩
    rw [tear_length _ _ (by omega) (by omega)]
    exact hD
  · split
    · dsimp only
      omega
    · dsimp only
      exact ⟨by omega, by omega, fun _ => hD⟩
theorem Dv.prgC_ok {d : Dv} {B A : Int} {D1 D2 : List Int} (h : d.prgC B A D1 D2 = 0) : d.hasP B A = true ∧ (D1.length : Int) = d.g.s ∧ (D2.length : Int) = 64 ∧ d.off = false ∧ A = (d.blk B).nx := by
  unfold Dv.prgC at h
  split at h
  · cases h
  · rename_i h1
    split at h
    · cases h
    · split at h
      · cases h
      · split at h
        · cases h
        · rename_i h4
          split at h
          · cases h
          · exact ⟨by simpa using h1, by omega, by omega, by simpa using h4, by omega⟩
theorem Dv.ersC_ok {d : Dv} {B : Int} (h : d.ersC B = 0) : d.hasB B = true ∧ d.off = false ∧ (d.blk B).er < d.g.e := by
  unfold Dv.ersC at h
  split at h
  · cases h
  · rename_i h1
    split at h
    · cases h
    · rename_i h4
      split at h
      · cases h
      · exact ⟨by simpa using h1, by simpa using h4, by omega⟩
theorem Wf.prgD {d : Dv} (hw : Wf d) (B A : Int) (D1 D2 : List Int) : Wf (d.prgD B A D1 D2) := by
  unfold Dv.prgD
  split
  · rename_i h
    obtain ⟨h1, h2, h3, h4, h5⟩ := Dv.prgC_ok h
    have hP := Dv.hasP_iff.1 h1
    obtain ⟨q1, q2, q3⟩ := hw.prgP_ok (D1 ++ D2) (by rw [List.length_append]; push_cast; omega)
    exact hw.op B _ (put_ok (hw.blk (Dv.hasB_of h1)) A h5 hP.2.2 _ q1 q2 q3)
  · exact hw
theorem Wf.ersD {d : Dv} (hw : Wf d) (B : Int) : Wf (d.ersD B) := by
  unfold Dv.ersD
  split
  · rename_i h
    obtain ⟨h1, h2, h3⟩ := Dv.ersC_ok h
    have q := hw.blk h1
    have := q.er0
    have := hw.p0
    refine hw.op B _ (fresh_ok _ _ _ _ _ (by omega) ?_ (by omega) (by omega))
    unfold Dv.ersS
    split
    · exact .inr rfl
    · split
      · exact .inr rfl
      · exact .inl rfl
  · exact hw
theorem Wf.cutD {d : Dv} (hw : Wf d) (o c : Int) : Wf (d.cutD o c) := by
  unfold Dv.cutD
  split
  · rename_i h
    unfold Dv.cutE at h
    split at h
    · cases h
    · split at h
      · cases h
      · split at h
        · cases h
        · exact ⟨hw.b0, hw.b1, hw.p0, hw.p1, hw.s0, hw.s1, hw.e0, hw.e1, hw.len, hw.bl, hw.n0, by dsimp only; omega, by dsimp only; omega⟩
  · exact hw
theorem Wf.rst {d : Dv} (hw : Wf d) : Wf d.rst := ⟨hw.b0, hw.b1, hw.p0, hw.p1, hw.s0, hw.s1, hw.e0, hw.e1, hw.len, hw.bl, hw.n0, hw.c0, hw.c1⟩
theorem Wf.new (g : Geo) (F : Int → Bool) (b0 : 2 ≤ g.b) (b1 : g.b ≤ 8) (p0 : 2 ≤ g.p) (p1 : g.p ≤ 8) (s0 : 1 ≤ g.s) (s1 : g.s ≤ 40) (e0 : 1 ≤ g.e) (e1 : g.e ≤ 1048576) : Wf (newDv g F) :=
  ⟨b0, b1, p0, p1, s0, s1, e0, e1, by simp [newDv]; omega, fun B x hx => by
    have e : x = fresh g.p 1 0 := by
      simp only [newDv, List.getElem?_replicate] at hx
      split at hx <;> first | exact (Option.some.inj hx).symm | cases hx
    subst e
    exact fresh_ok _ _ _ _ _ (by show 0 ≤ g.p; omega) (.inl rfl) (by omega) (by show 0 ≤ g.e; omega), by simp [newDv], by simp [newDv], by simp [newDv]; omega⟩
theorem Dv.prgD_n (d : Dv) (B A : Int) (D1 D2 : List Int) : d.n ≤ (d.prgD B A D1 D2).n ∧ (d.prgD B A D1 D2).n ≤ d.n + 1 ∧ (d.prgD B A D1 D2).g = d.g := by
  unfold Dv.prgD
  split
  · exact ⟨by simp only [Dv.op]; omega, by simp only [Dv.op]; omega, rfl⟩
  · exact ⟨by omega, by omega, rfl⟩
theorem Dv.ersD_n (d : Dv) (B : Int) : d.n ≤ (d.ersD B).n ∧ (d.ersD B).n ≤ d.n + 1 ∧ (d.ersD B).g = d.g := by
  unfold Dv.ersD
  split
  · exact ⟨by simp only [Dv.op]; omega, by simp only [Dv.op]; omega, rfl⟩
  · exact ⟨by omega, by omega, rfl⟩
theorem Dv.cutD_n (d : Dv) (o c : Int) : (d.cutD o c).n = d.n ∧ (d.cutD o c).g = d.g := by
  unfold Dv.cutD
  split <;> exact ⟨rfl, rfl⟩
end Go.Proofs.Ytppbapnibpeolaa
