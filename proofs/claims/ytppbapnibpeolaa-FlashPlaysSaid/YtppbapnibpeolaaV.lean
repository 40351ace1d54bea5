/- What is kept stays: the plain law behind FlashHolds. No conditions beyond those that each theorem names. -/
import Derived.Test.YtppbapnibpeolaaR
set_option maxRecDepth 100000
set_option maxHeartbeats 2000000
set_option linter.unusedVariables false
set_option linter.unusedSimpArgs false
namespace Go.Proofs.Ytppbapnibpeolaa
open Go.Sx

structure Keeps (d : Dv) (y : Ac) : Prop where
  has : d.hasP y.bl y.pg = true
  nx : y.pg < (d.blk y.bl).nx
  st : ((d.blk y.bl).pg y.pg).st = 2
  D : ((d.blk y.bl).pg y.pg).D = y.D ++ y.Sp
  l1 : (y.D.length : Int) = d.g.s
  l2 : (y.Sp.length : Int) = 64
theorem blk_op_same {d : Dv} {B : Int} (x : Bl) (h : d.hasB B = true) : (d.op B x).blk B = x := by
  obtain ⟨h1, h2⟩ := Dv.hasB_iff.1 h
  have : B.toNat < d.bs.length := by omega
  simp [Dv.blk, Dv.op, this]
theorem blk_op_other {d : Dv} {B C : Int} (x : Bl) (h0 : 0 ≤ C) (h1 : 0 ≤ B) (h : B ≠ C) : (d.op B x).blk C = d.blk C := by
  have : B.toNat ≠ C.toNat := by omega
  simp [Dv.blk, Dv.op, List.getElem?_set_ne this]
theorem op_hasP {d : Dv} {B C A : Int} (x : Bl) : (d.op B x).hasP C A = d.hasP C A := by unfold Dv.hasP Dv.hasB; rw [show (d.op B x).bs.length = d.bs.length by simp [Dv.op]]; rfl
theorem op_hasB {d : Dv} {B C : Int} (x : Bl) : (d.op B x).hasB C = d.hasB C := by unfold Dv.hasB; rw [show (d.op B x).bs.length = d.bs.length by simp [Dv.op]]
theorem put_pg_same {x : Bl} {A : Int} {p : Pg} (h0 : 0 ≤ A) (h : A < x.ps.length) : (put x A p).pg A = p := by
  have : A.toNat < x.ps.length := by omega
  simp [Bl.pg, put, this]
theorem put_pg_other {x : Bl} {A C : Int} {p : Pg} (h0 : 0 ≤ A) (h1 : 0 ≤ C) (h : A ≠ C) : (put x A p).pg C = x.pg C := by
  have : A.toNat ≠ C.toNat := by omega
  simp [Bl.pg, put, List.getElem?_set_ne this]
theorem keeps_prg {d : Dv} (hw : Wf d) {y : Ac} (h : Keeps d y) (B A : Int) (D1 D2 : List Int) : Keeps (d.prgD B A D1 D2) y := by
  unfold Dv.prgD
  split
  · rename_i hc
    obtain ⟨hP, _, _, _, hA⟩ := Dv.prgC_ok hc
    obtain ⟨⟨b0, b1⟩, a0, a1⟩ := Dv.hasP_iff.1 hP
    obtain ⟨⟨c0, c1⟩, e0, e1⟩ := Dv.hasP_iff.1 h.has
    by_cases hB : B = y.bl
    · have hbk : (d.op B (put (d.blk B) A (d.prgP (D1 ++ D2)))).blk y.bl = put (d.blk B) A (d.prgP (D1 ++ D2)) := by rw [← hB]; exact blk_op_same _ (Dv.hasB_of hP)
      have hnx := h.nx
      rw [← hB] at hnx
      have hne : A ≠ y.pg := by omega
      have hpg : (put (d.blk B) A (d.prgP (D1 ++ D2))).pg y.pg = (d.blk B).pg y.pg := put_pg_other a0 e0 hne
      refine ⟨by rw [op_hasP]; exact h.has, ?_, ?_, ?_, h.l1, h.l2⟩
      · rw [hbk]; simp only [put]; omega
      · rw [hbk, hpg, hB]; exact h.st
      · rw [hbk, hpg, hB]; exact h.D
    · have hbk : (d.op B (put (d.blk B) A (d.prgP (D1 ++ D2)))).blk y.bl = d.blk y.bl := blk_op_other _ c0 b0 hB
      exact ⟨by rw [op_hasP]; exact h.has, by rw [hbk]; exact h.nx, by rw [hbk]; exact h.st, by rw [hbk]; exact h.D, h.l1, h.l2⟩
  · exact h
theorem keeps_new {d : Dv} (hw : Wf d) (a : Ac) (h : d.prgE a.bl a.pg a.D a.Sp = 0) : Keeps (d.prgD a.bl a.pg a.D a.Sp) a := by
  have hc : d.prgC a.bl a.pg a.D a.Sp = 0 := by
    unfold Dv.prgE at h
    split at h
    · assumption
    · exact h
  have he : d.err 54 = 0 := by
    unfold Dv.prgE at h
    rw [if_pos hc] at h
    exact h
  obtain ⟨hP, l1, l2, _, hA⟩ := Dv.prgC_ok hc
  have hp : d.prgP (a.D ++ a.Sp) = ⟨2, a.D ++ a.Sp⟩ := by
    unfold Dv.err at he
    unfold Dv.prgP
    split
    · rename_i e; rw [if_pos e] at he; cases he
    · rename_i e
      rw [if_neg e] at he
      split
      · rename_i e; rw [if_pos e] at he; cases he
      · rfl
  obtain ⟨i, ei, hi, _⟩ := hw.pgAt hP
  obtain ⟨_, a0, a1⟩ := Dv.hasP_iff.1 hP
  have hbk : (d.op a.bl (put (d.blk a.bl) a.pg (d.prgP (a.D ++ a.Sp)))).blk a.bl = put (d.blk a.bl) a.pg (d.prgP (a.D ++ a.Sp)) := blk_op_same _ (Dv.hasB_of hP)
  have hpg : (put (d.blk a.bl) a.pg (d.prgP (a.D ++ a.Sp))).pg a.pg = d.prgP (a.D ++ a.Sp) := put_pg_same a0 (by omega)
  unfold Dv.prgD
  rw [if_pos hc]
  refine ⟨by rw [op_hasP]; exact hP, ?_, ?_, ?_, l1, l2⟩
  · rw [hbk]; simp only [put]; omega
  · rw [hbk, hpg, hp]
  · rw [hbk, hpg, hp]
theorem keeps_ers {d : Dv} {y : Ac} (h : Keeps d y) (B : Int) (hne : B ≠ y.bl) : Keeps (d.ersD B) y := by
  unfold Dv.ersD
  split
  · rename_i hc
    obtain ⟨hB, _, _⟩ := Dv.ersC_ok hc
    obtain ⟨b0, b1⟩ := Dv.hasB_iff.1 hB
    obtain ⟨⟨c0, c1⟩, e0, e1⟩ := Dv.hasP_iff.1 h.has
    have hbk : ∀ x, (d.op B x).blk y.bl = d.blk y.bl := fun x => blk_op_other x c0 b0 hne
    exact ⟨by rw [op_hasP]; exact h.has, by rw [hbk]; exact h.nx, by rw [hbk]; exact h.st, by rw [hbk]; exact h.D, h.l1, h.l2⟩
  · exact h
theorem keeps_bs {d d' : Dv} {y : Ac} (h : Keeps d y) (hb : d'.bs = d.bs) (hg : d'.g = d.g) : Keeps d' y := by
  have e : ∀ B, d'.blk B = d.blk B := fun B => by simp [Dv.blk, hb]
  have e2 : ∀ B A, d'.hasP B A = d.hasP B A := fun B A => by unfold Dv.hasP Dv.hasB; rw [hb, hg]
  exact ⟨by rw [e2]; exact h.has, by rw [e]; exact h.nx, by rw [e]; exact h.st, by rw [e]; exact h.D, by rw [hg]; exact h.l1, h.l2⟩
theorem cutD_bs (d : Dv) (o c : Int) : (d.cutD o c).bs = d.bs := by unfold Dv.cutD; split <;> rfl
theorem ers_more (d : Dv) (B : Int) : d.n < (d.ersD B).n ↔ d.ersC B = 0 := by
  unfold Dv.ersD
  split
  · rename_i h; simp only [Dv.op, h]; constructor
    · intro _; trivial
    · intro _; omega
  · rename_i h; constructor
    · intro h'; omega
    · intro h'; exact absurd h' h
theorem ers_no {d : Dv} {B : Int} (h : ¬ d.ersC B = 0) : d.ersD B = d := if_neg h
structure KOk (d : Dv) (K : List (List Ac)) : Prop where
  ok : ∀ (B : Nat) la y, K[B]? = some la → y ∈ la → y.bl = B ∧ Keeps d y
theorem KOk.prg {d : Dv} (hw : Wf d) {K : List (List Ac)} (h : KOk d K) (B A : Int) (D1 D2 : List Int) : KOk (d.prgD B A D1 D2) K := ⟨fun B' la y h1 h2 => ⟨(h.ok B' la y h1 h2).1, keeps_prg hw (h.ok B' la y h1 h2).2 B A D1 D2⟩⟩
theorem KOk.bs {d d' : Dv} {K : List (List Ac)} (h : KOk d K) (hb : d'.bs = d.bs) (hg : d'.g = d.g) : KOk d' K := ⟨fun B la y h1 h2 => ⟨(h.ok B la y h1 h2).1, keeps_bs (h.ok B la y h1 h2).2 hb hg⟩⟩
theorem KOk.add {d : Dv} {K : List (List Ac)} (h : KOk d K) {B : Nat} {la : List Ac} (hB : K[B]? = some la) (a : Ac) (ha : a.bl = B) (hk : Keeps d a) : KOk d (K.set B (la ++ [a])) := ⟨fun C l y h1 h2 => by
  rw [List.getElem?_set] at h1
  split at h1
  · rename_i e
    split at h1
    · cases h1
      rcases List.mem_append.1 h2 with h2 | h2
      · rw [← e]; exact h.ok B la y hB h2
      · simp only [List.mem_singleton] at h2
        subst h2
        exact ⟨by rw [ha, e], hk⟩
    · cases h1
  · exact h.ok C l y h1 h2⟩
theorem KOk.ers {d : Dv} {K : List (List Ac)} (h : KOk d K) (B : Nat) : KOk (d.ersD B) (K.set B []) := ⟨fun C l y h1 h2 => by
  rw [List.getElem?_set] at h1
  split at h1
  · split at h1
    · cases h1
      cases h2
    · cases h1
  · rename_i e
    obtain ⟨q1, q2⟩ := h.ok C l y h1 h2
    exact ⟨q1, keeps_ers q2 B (by rw [q1]; omega)⟩⟩
theorem Keeps.read {d : Dv} (hw : Wf d) {y : Ac} (h : Keeps d y) (ho : d.off = false) : d.rdE y.bl y.pg = 0 ∧ d.rdA y.bl y.pg = y.D ∧ d.rdB y.bl y.pg = y.Sp ∧ d.state y.bl y.pg = 2 ∧ y.pg < d.next y.bl := by
  have e : d.rdE y.bl y.pg = 0 := by
    unfold Dv.rdE
    rw [if_neg (by rw [h.has]; decide), if_neg (by rw [ho]; decide), if_neg (by rw [h.st]; decide), if_neg (by rw [h.st]; decide), if_neg (by rw [h.st]; decide)]
  have hs : d.g.s.toNat = y.D.length := by have := h.l1; omega
  refine ⟨e, ?_, ?_, ?_, ?_⟩
  · unfold Dv.rdA; rw [if_pos e, h.D, hs, List.take_left']; rfl
  · unfold Dv.rdB; rw [if_pos e, h.D, hs, List.drop_left']; rfl
  · unfold Dv.state; rw [if_pos h.has]; exact h.st
  · unfold Dv.next; rw [if_pos (Dv.hasB_of h.has)]; exact h.nx

/-! calls whose slices are slices -/
def AvS := { v : Av // (∃ a n c, v.sd = .slice a n c) ∧ ∃ a n c, v.ss = .slice a n c }
def asE : Enc AvS := ⟨fun v => v.1.cells, 5, fun _ => rfl⟩
theorem as_one (x : AvS) : ∀ u ∈ asE.enc x, u.oneCell' = true := by
  obtain ⟨v, ⟨a, n, c, e1⟩, ⟨a', n', c', e2⟩⟩ := x
  intro u hu
  simp only [asE, Av.cells, List.mem_cons, List.not_mem_nil, or_false] at hu
  rcases hu with rfl | rfl | rfl | rfl | rfl
  · rfl
  · rfl
  · rfl
  · rw [e1]; rfl
  · rw [e2]; rfl
theorem AvAt.sl {lo : Nat} {w : World} {v : Av} {a : Ac} (h : AvAt lo w v a) : (∃ a n c, v.sd = .slice a n c) ∧ ∃ a n c, v.ss = .slice a n c := by
  obtain ⟨_, _, e1⟩ := h.d.src.1.slice
  obtain ⟨_, _, e2⟩ := h.s.src.1.slice
  exact ⟨⟨_, _, _, e1⟩, ⟨_, _, _, e2⟩⟩
theorem u25 : Try.prog.underlying 25 = some (.slice 28) := by kernel_rfl
theorem i28 : Try.prog.info? 28 = some Try.t28 := by kernel_rfl
theorem z28 : Try.t28.zero = some (.agg #[.int .i64 0, .int .i64 0, .int .i64 0, nilS, nilS]) := by kernel_rfl
theorem s28 : Try.t28.size = asE.sz := by kernel_rfl
theorem by28 : Try.t28.bytes ≤ 1000 := by decide +kernel
theorem u67 : Try.prog.underlying 67 = some (.slice 25) := by kernel_rfl
theorem i25 : Try.prog.info? 25 = some Try.t25 := by kernel_rfl
theorem z25 : Try.t25.zero = some nilS := by kernel_rfl
theorem s25 : Try.t25.size = slE.sz := by kernel_rfl
theorem by25 : Try.t25.bytes ≤ 1000 := by decide +kernel
/-- the lists that are kept, in memory -/
structure KpAt (w0 w : World) (S : Nat → Prop) (gk nb : Nat) (Kv : List Value) (KL : List (List AvS)) (KA : List (List Ac)) : Prop where
  own : Mine slE 25 w (slc0 gk nb nb) Kv
  lv : Kv.length = nb
  ll : KL.length = nb
  la : KA.length = nb
  el : ∀ (B : Nat) v L A, Kv[B]? = some v → KL[B]? = some L → KA[B]? = some A → Mine asE 28 w v L ∧ AvsAt w0.heap.size w0 (L.map (·.1)) A ∧ ∀ y, v.ownBlock = some y → ¬ S y ∧ y ≠ gk ∧ w0.heap.size ≤ y
section
variable {w0 w w' : World} {S T S' T' M : Nat → Prop} {gk nb : Nat} {Kv : List Value} {KL : List (List AvS)} {KA : List (List Ac)}
theorem KpAt.at_ (h : KpAt w0 w S gk nb Kv KL KA) {B : Nat} (hB : B < nb) : ∃ v L A, Kv[B]? = some v ∧ KL[B]? = some L ∧ KA[B]? = some A ∧ Mine asE 28 w v L ∧ AvsAt w0.heap.size w0 (L.map (·.1)) A ∧ ∀ y, v.ownBlock = some y → ¬ S y ∧ y ≠ gk ∧ w0.heap.size ≤ y := by
  have h1 : B < Kv.length := by rw [h.lv]; exact hB
  have h2 : B < KL.length := by rw [h.ll]; exact hB
  have h3 : B < KA.length := by rw [h.la]; exact hB
  exact ⟨_, _, _, List.getElem?_eq_getElem h1, List.getElem?_eq_getElem h2, List.getElem?_eq_getElem h3, h.el B _ _ _ (List.getElem?_eq_getElem h1) (List.getElem?_eq_getElem h2) (List.getElem?_eq_getElem h3)⟩
theorem KpAt.get (h : KpAt w0 w S gk nb Kv KL KA) {B : Nat} {v : Value} (hv : Kv[B]? = some v) : ∃ L A, KL[B]? = some L ∧ KA[B]? = some A ∧ Mine asE 28 w v L ∧ AvsAt w0.heap.size w0 (L.map (·.1)) A ∧ ∀ y, v.ownBlock = some y → ¬ S y ∧ y ≠ gk ∧ w0.heap.size ≤ y := by
  have hB : B < nb := by rw [← h.lv]; exact (List.getElem?_eq_some_iff.1 hv).1
  obtain ⟨v', L, A, h1, h2, h3, h4⟩ := h.at_ hB
  rw [hv] at h1
  cases h1
  exact ⟨L, A, h2, h3, h4⟩
theorem KpAt.kept (h : KpAt w0 w S gk nb Kv KL KA) (hk : Kept M w w') (h1 : ¬ M gk) (h2 : ∀ y, y < w.heap.size → ¬ S y → y ≠ gk → ¬ M y) : KpAt w0 w' S gk nb Kv KL KA :=
  ⟨h.own.kept hk fun y hy => by have e : gk = y := Option.some.inj hy; subst e; exact h1, h.lv, h.ll, h.la, fun B v L A hv hL hA => let ⟨q1, q2, q3⟩ := h.el B v L A hv hL hA; ⟨q1.kept hk fun y hy => h2 y (q1.lt hy) (q3 y hy).1 (q3 y hy).2.1, q2, q3⟩⟩
theorem KpAt.same (h : KpAt w0 w S gk nb Kv KL KA) (hk : Same w w') : KpAt w0 w' S gk nb Kv KL KA := h.kept hk (fun h => h) fun _ _ _ _ h => h
theorem KpAt.next {Q : Nat → Prop} (h : KpAt w0 w (fun y => S y ∨ Q y) gk nb Kv KL KA) (hg : ¬ S gk) (hk : Kept S w w') (hn : Nxt w S T S' T') : KpAt w0 w' (fun y => S' y ∨ Q y) gk nb Kv KL KA :=
  have h' := h.kept hk hg fun y _ hs _ e => hs (.inl e)
  ⟨h'.own, h.lv, h.ll, h.la, fun B v L A hv hL hA => let ⟨q1, q2, q3⟩ := h'.el B v L A hv hL hA; let q0 := (h.el B v L A hv hL hA).1; ⟨q1, q2, fun y hy => ⟨fun hs => hs.elim (fun hs => (hn.dn y hs).elim (fun e => (q3 y hy).1 (.inl e)) fun hle => by have := q0.lt hy; omega) (fun e => (q3 y hy).1 (.inr e)), (q3 y hy).2⟩⟩⟩
theorem KpAt.weak (h : KpAt w0 w S gk nb Kv KL KA) (hs : ∀ y, y < w.heap.size → S' y → S y) : KpAt w0 w S' gk nb Kv KL KA :=
  ⟨h.own, h.lv, h.ll, h.la, fun B v L A hv hL hA => let ⟨q1, q2, q3⟩ := h.el B v L A hv hL hA; ⟨q1, q2, fun y hy => ⟨fun e => (q3 y hy).1 (hs y (q1.lt hy) e), (q3 y hy).2⟩⟩⟩
/-- one of the lists is another -/
theorem KpAt.set (h : KpAt w0 w S gk nb Kv KL KA) (hk : Kept M w w') (h2 : ∀ y, y < w.heap.size → ¬ S y → y ≠ gk → ¬ M y) {B : Nat} {v : Value} {L : List AvS} {A : List Ac} (hown : Mine slE 25 w' (slc0 gk nb nb) (Kv.set B v)) (hv : Mine asE 28 w' v L) (hA : AvsAt w0.heap.size w0 (L.map (·.1)) A) (ho : ∀ y, v.ownBlock = some y → ¬ S y ∧ y ≠ gk ∧ w0.heap.size ≤ y) :
    KpAt w0 w' S gk nb (Kv.set B v) (KL.set B L) (KA.set B A) := by
  refine ⟨hown, by simp [h.lv], by simp [h.ll], by simp [h.la], fun C v' L' A' hv' hL' hA' => ?_⟩
  rw [List.getElem?_set] at hv' hL' hA'
  split at hv'
  · rename_i e
    rw [if_pos e] at hL' hA'
    split at hv'
    · split at hL'
      · split at hA'
        · cases hv'; cases hL'; cases hA'
          exact ⟨hv, hA, ho⟩
        · cases hA'
      · cases hL'
    · cases hv'
  · rename_i e
    rw [if_neg e] at hL' hA'
    obtain ⟨q1, q2, q3⟩ := h.el C v' L' A' hv' hL' hA'
    exact ⟨q1.kept hk fun y hy => h2 y (q1.lt hy) (q3 y hy).1 (q3 y hy).2.1, q2, q3⟩
end
end Go.Proofs.Ytppbapnibpeolaa
