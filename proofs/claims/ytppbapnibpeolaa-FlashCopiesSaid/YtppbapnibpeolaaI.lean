/- A flash device: Program and Erase. No conditions beyond those that each theorem names. -/
import Derived.Test.YtppbapnibpeolaaH
set_option maxRecDepth 100000
set_option maxHeartbeats 2000000
set_option linter.unusedVariables false
set_option linter.unusedSimpArgs false
namespace Go.Proofs.Ytppbapnibpeolaa
open Go.Sx

section
variable {w w' : World} {S T S' T' TA Mx : Nat → Prop} {b mf : Nat} {sB : Value} {Lb : List Bv} {d : Dv}
theorem PgsAt.set {L : List Pv} {ps : List Pg} (h : PgsAt w T L ps) {i : Nat} {v : Pv} {p : Pg} (hp : PgAt w T v p) : PgsAt w T (L.set i v) (ps.set i p) := by
  refine ⟨by simp [h.len], fun k u q hu hq => ?_⟩
  rw [List.getElem?_set] at hu hq
  split at hu
  · rename_i e
    rw [if_pos e] at hq
    split at hu
    · split at hq
      · cases hu; cases hq; exact hp
      · cases hq
    · cases hu
  · rename_i e
    rw [if_neg e] at hq
    exact h.at_ k u q hu hq
theorem PgsAt.fresh (np : Nat) (st : Int) : PgsAt w T (List.replicate np ⟨.slice none 0 0, st⟩) (List.replicate np ⟨st, []⟩) := by
  refine ⟨by simp, fun k u q hu hq => ?_⟩
  have hk : k < np := by have := (List.getElem?_eq_some_iff.1 hu).1; simpa using this
  rw [List.getElem?_replicate_of_lt hk] at hu hq
  cases hu
  cases hq
  exact ⟨rfl, given_nil, fun ad had => by cases had⟩
theorem c51 (B A : Int) (gA cA : Nat) (D : List Int) (w : World) (h : DevM w S TA b mf sB Lb d) (hw : Wf d) (hP : d.hasP B A = true) (hA : Mine byteE 5 w (slc0 gA D.length cA) D) (hST : ∀ y, S y → T y) (hTA : ∀ y, T y → TA y) (gA1 : TA gA) (gA2 : ¬ T gA) (hD : (D.length : Int) = d.g.s + 64) (hn1 : d.n ≤ 1000000000) :
    Runs Try.prog 51 [pt b, .int .i64 B, .int .i64 A, slc0 gA D.length cA] w (fun y => S y ∨ y = gA) (fun r w' => r = .int .i64 (d.err 54) ∧ ∃ Lb', DevM w' S T b mf sB Lb' (d.op B (put (d.blk B) A (d.prgP D)))) := by
  obtain ⟨g, c, e0⟩ := h.form hw
  subst e0
  obtain ⟨j, i, v, L, q, g2, c2, e1, e2, hj, hv, hx, hi, hq, ev, hL, hps, hpg, envx, ever⟩ := h.page hw hP
  have hbl := hw.blk (Dv.hasB_of hP)
  subst e1
  subst e2
  have nx0 := hbl.nx0
  have nx1 := hbl.nx1
  have p1 := hw.p1
  have s1 := hw.s1
  rw [ev] at hL
  have lb : b < w.heap.size := h.b_lt
  have lg : g < w.heap.size := h.own.lt rfl
  have lg2 : g2 < w.heap.size := hL.lt rfl
  have lA : gA < w.heap.size := hA.lt rfl
  have lm := h.map.lt
  have Sg : S g ∧ g ≠ b ∧ g ≠ mf := h.SB g rfl
  have Sg2 := h.Sp j v hv g2 (by rw [ev]; rfl)
  have nA : ∀ {y}, S y → y ≠ gA := fun hy e => gA2 (e ▸ hST _ hy)
  have ng2 : g2 ≠ g := fun e => Sg2.2.2.2 (by rw [e]; rfl)
  refine runs mix t51 rfl rfl (ε := [pt b, .int .i64 j, .int .i64 i, slc0 gA D.length cA]) ⟨⟨_, rfl⟩, ⟨_, rfl⟩, ⟨_, rfl⟩, ⟨_, _, _, rfl⟩, trivial⟩ trivial (by simp [keys]) (by simp [keys]) (by simp [keys]) ?_
  refine den_blk fun b4 k4 _ _ => den_norm (by simp only [List.cons_append, List.nil_append]; rfl) (den_blk fun b5 k5 _ _ => den_norm (by simp only [List.cons_append, List.nil_append]; rfl) ?_)
  have z4 : w.heap.size ≤ b4 := k4
  have z5 : w.heap.size ≤ b5 := k5
  refine den_notnil (i := 0) h.blk.pts ?_
  refine den_ldp [slc0 g Lb.length c] _ ⟨⟨_, _, _, rfl⟩, trivial⟩ (cellk _ 5 _ rfl) (fun w1 h1 => (h.same (shown_same h1)).blk.pts) (fun y hy hin => by simp [BlkIn, nth, blkOf, vaddr] at hin) fun w1 h1 => den_norm (by simp only [List.cons_append, List.nil_append]; rfl) ?_
  have H1 := h.same (shown_same h1)
  refine den_idx2 (E := blE) (L := Lb) v j [.int .i64 v.nx] H1.own.arr rfl (by decide) rfl hv ⟨⟨_, rfl⟩, trivial⟩ (cellk _ 1 _ rfl) (fun w6 h6 => (H1.same (shown_same h6)).own.arr) (fun ad had hin => by simp [BlkIn, nth, blkOf, vaddr] at hin) fun w2 h2 => den_norm (by simp only [List.cons_append, List.nil_append]; rfl) ?_
  have k2 : Same w w2 := (shown_same h1).trans (shown_same h2)
  have H2 := h.same k2
  refine den_ob64 ⟨by simp only [IE.den, nth, vint]; omega, by simp only [IE.den, nth, vint]; omega⟩ ?_
  refine den_storeM (E := blE) (T := 81) (slc0 g Lb.length c) Lb j v ⟨v.s, v.nx + 1, v.er⟩ (.int .i64 (v.nx + 1)) [.int .i64 (v.nx + 1)] (by kernel_rfl) rfl rfl rfl hv rfl rfl rfl (by intro u hu; simp at hu; subst hu; rfl) (by simp [blE]) (by decide) rfl (fun w3 h3 => (H2.same (shown_same h3)).own) (fun w3 h3 y hy => ?_) ⟨w2, H2.own⟩ (fun w3 w4 h3 hM4 k34 => ?_)
  · have e : g = y := Option.some.inj hy
    subst e
    exact ⟨fun hd => (by cases hd), fun _ => .inl Sg.1, fun hin => by simp [BlkIn, nth, blkOf, vaddr] at hin; omega, fun hx => (by cases hx)⟩
  have K4 : Kept (fun y => y = g) w w4 := ((k2.trans (shown_same h3)).mono fun _ _ h => h.elim).trans (k34.mono fun y _ e => by have e2 : g = y := Option.some.inj e; exact e2.symm)
  have gs : (Lb.set j ⟨v.s, v.nx + 1, v.er⟩)[j]? = some ⟨v.s, v.nx + 1, v.er⟩ := by rw [List.getElem?_set_self hj]
  have hM4' : Mine blE 81 w4 (slc0 g Lb.length c) (Lb.set j ⟨v.s, v.nx + 1, v.er⟩) := hM4
  refine den_ldi (E := blE) (L := Lb.set j ⟨v.s, v.nx + 1, v.er⟩) ⟨v.s, v.nx + 1, v.er⟩ j [slc0 g2 L.length c2] rfl (by decide) rfl gs ⟨⟨_, _, _, rfl⟩, trivial⟩ (cellk _ 0 _ (by simp only [blE]; rw [ev]; rfl)) (fun w5 h5 => (hM4'.same (shown_same h5)).arr) (fun ad had hin => by simp [BlkIn, nth, blkOf, vaddr] at hin) fun w5 h5 => den_norm (by simp only [List.cons_append, List.nil_append]; rfl) ?_
  have K5 : Kept (fun y => y = g) w w5 := K4.trans ((shown_same h5).mono fun _ _ h => h.elim)
  have hL5 := hL.kept K5 fun y hy e => by have e2 : g2 = y := Option.some.inj hy; omega
  refine den_obs (E := pgE) (L := L) (w0 := w5) i hL5.arr (by decide) rfl hi (den_blk fun b9 k9 _ _ => den_norm (by simp only [List.cons_append, List.nil_append]; rfl) ?_)
  have z9 : w.heap.size ≤ b9 := Nat.le_trans K5.size k9
  refine den_callM (fun _ y => y = b ∨ y = g2 ∨ y = gA) (fun w6 l w7 => l = [.int .i64 (d.err 54)] ∧ HasBlk w7 (pt b) (devC d.hd mf (slc0 g Lb.length c)) ∧ ∃ pv, Mine pgE 78 w7 (slc0 g2 L.length c2) (L.set i pv) ∧ pv.st = (d.prgP D).st ∧ Given byteE w7 pv.s (d.prgP D).D ∧ ∀ ad, vaddr pv.s = some ad → ad.block = gA) (fun w6 h6 y hy hlt => ⟨fun hd => (by cases hd), fun _ => ?_, fun hin => by simp [BlkIn, nth, blkOf, vaddr] at hin; omega, fun hx => (by cases hx)⟩) (fun w6 h6 => ?_) (fun w6 l w7 h6 hfl hR k67 => ?_)
  · rcases hy with rfl | rfl | rfl
    · exact .inl h.Sb
    · exact .inl Sg2.1
    · exact .inr rfl
  · have K6 : Kept (fun y => y = g) w w6 := K5.trans ((shown_new h6 fun y hy => by simp [BlkIn, nth, blkOf, vaddr] at hy; have : w5.heap.size ≤ b9 := k9; omega).mono fun _ _ h => h.elim)
    refine (c63p b5 b9 b4 g2 c2 i gA cA D L q w6 (h.blk.keptA K6 fun e => Sg.2.1 e.symm) (h.map.kept K6 fun e => Sg.2.2 e.symm) (hL.kept K6 fun y hy e => by have e2 : g2 = y := Option.some.inj hy; omega) hq ?_ ?_ ?_ (hA.kept K6 fun y hy e => by have e2 : gA = y := Option.some.inj hy; exact nA Sg.1 (by omega)) hw.c0 (by have := hw.c1; omega) (by omega) ⟨by omega, by omega⟩ ⟨by omega, by omega⟩ ⟨by omega, by omega⟩ ⟨fun e => Sg2.2.1 e.symm, nA h.Sb⟩ (nA Sg2.1) ⟨by omega, by omega, by omega, h.ne⟩ hw.n0 hn1).mono (fun r w' hr _ => ⟨[.int .i64 (d.err 54)], ⟨⟨_, rfl⟩, trivial⟩, hr.1, ⟨rfl, hr.2⟩, trivial⟩) (fun _ _ h => h)
    · have := h6.facts.2.1; simpa [SV.den, denL, IE.den, BE.den, nth, vint, vbool, vaddr, addO, addr_add] using this
    · have := h6.facts.1; simpa [SV.den, denL, IE.den, BE.den, nth, vint, vbool, vaddr, addO, addr_add] using this
    · have := h6.facts.2.2.1; simpa [SV.den, denL, IE.den, BE.den, nth, vint, vbool, vaddr, addO, addr_add] using this
  obtain ⟨rfl, r1, pv, r2, r3, r4, r5⟩ := hR
  have k56 : Same w5 w6 := shown_new h6 fun y hy => by simp [BlkIn, nth, blkOf, vaddr] at hy; have : w5.heap.size ≤ b9 := k9; omega
  have K6 : Kept (fun y => y = g) w w6 := K5.trans (k56.mono fun _ _ h => h.elim)
  refine den_norm (by simp only [List.cons_append, List.nil_append]; rfl) (den_leafA _ rfl fun wz hz => ⟨rfl, Lb.set j ⟨v.s, v.nx + 1, v.er⟩, ?_⟩)
  have kz : Same w7 wz := shown_same hz
  have KZ : Kept (fun y => y = b ∨ y = g ∨ y = g2 ∨ y = gA) w wz := ((K6.mono fun y _ e => .inr (.inl e)).trans (k67.mono fun y _ e => by rcases e with e | e | e; exact .inl e; exact .inr (.inr (.inl e)); exact .inr (.inr (.inr e)))).trans (kz.mono fun _ _ h => h.elim)
  have hMT : ∀ y, y < w.heap.size → (y = b ∨ y = g ∨ y = g2 ∨ y = gA) → TA y := by
    rintro y _ (rfl | rfl | rfl | rfl)
    · exact hTA _ (hST _ h.Sb)
    · exact hTA _ (hST _ Sg.1)
    · exact hTA _ (hST _ Sg2.1)
    · exact gA1
  have hMz : Mine blE 81 wz (slc0 g Lb.length c) (Lb.set j ⟨v.s, v.nx + 1, v.er⟩) := (((hM4'.same (shown_same h5)).same k56).kept k67 fun y hy e => by have e2 : g = y := Option.some.inj hy; have := nA Sg.1; omega).same kz
  refine DevM.turn (T' := T) (x' := put (d.blk j) i (d.prgP D)) h hv hx KZ hMT (by have := nA h.Sm; have := h.ne; omega) (fun k u hk hu y hy => ?_) ?_ rfl (by simp [Dv.op]) hMz (by show v.nx + 1 = (d.blk j).nx + 1; rw [envx]) ever (L' := L.set i pv) (by rw [ev]; exact r2.same kz) ?_ (fun y hy => .inl hy) (fun y hy => hy) (fun y hy => (h.Sp j v hv y hy).1) hST (fun y _ hy => hTA y hy) (fun y hy => Nat.lt_of_lt_of_le (h.lt y (hTA y hy)) KZ.size)
  · have q1 := h.Sp k u hu y hy
    have q2 := h.dis k j u v hk hu hv y hy
    have q3 := nA q1.1
    rintro (e | e | e | e)
    · exact q1.2.1 e
    · exact q1.2.2.2 (by rw [e]; rfl)
    · exact q2 (by rw [ev, e]; rfl)
    · exact q3 e
  · exact r1.keptA kz fun h => h
  · exact (PgsAt.keptGrow hps KZ hMT (fun y _ hy => hTA y hy)).set ⟨r3, r4.same kz, fun ad had e => gA2 (by rw [← r5 ad had]; exact e)⟩
end
end Go.Proofs.Ytppbapnibpeolaa
