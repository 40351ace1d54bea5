/- A flash device: Program and Erase. No conditions beyond those that each theorem names. -/
import Derived.Test.YtppbapnibpeolaaG
set_option maxRecDepth 100000
set_option maxHeartbeats 2000000
set_option linter.unusedVariables false
set_option linter.unusedSimpArgs false
namespace Go.Proofs.Ytppbapnibpeolaa
open Go.Sx

section
variable {w w' : World} {S T S' T' TA Mx : Nat → Prop} {b mf : Nat} {sB : Value} {Lb : List Bv} {d : Dv}
theorem c63e (b3 b2 g j c np : Nat) (v : Bv) (Lb : List Bv) (w : World) (hb : HasBlk w (pt b) (devC d mf sB)) (hm : MapB w mf d.F) (hM : Mine blE 81 w (slc0 g Lb.length c) Lb) (hv : Lb[j]? = some v) (hsl : ∃ a n c, v.s = .slice a n c) (hp : HasBlk w (pt b3) [ptA g (j * 3)]) (hd : HasBlk w (pt b2) [pt b]) (hnp : d.g.p = np) (h600 : np ≤ 600) (n3 : b3 ≠ g) (n2 : b2 ≠ g) (n1 : b ≠ g) (n6 : b ≠ b3 ∧ b ≠ b2 ∧ b ≠ mf) (hn0 : 0 ≤ d.n) (hn1 : d.n ≤ 1000000000) :
    Runs Try.prog 63 [pt b, fnV 69 [pt b3, pt b2], fnV 68 [pt b3, pt b2], fnV 68 [pt b3, pt b2], .int .i64 55] w (fun y => y = b ∨ y = g) (fun r w' => r = .int .i64 (d.err 55) ∧ HasBlk w' (pt b) (devC d.hd mf sB) ∧ ∃ gp, w.heap.size ≤ gp ∧ Mine blE 81 w' (slc0 g Lb.length c) (Lb.set j ⟨slc0 gp np np, if d.ersS = 1 then 0 else np, v.er⟩) ∧ Mine pgE 78 w' (slc0 gp np np) (List.replicate np ⟨.slice none 0 0, d.ersS⟩)) := by
  refine runs mix t63e rfl rfl (ε := [pt b, pt b3, pt b2, pt b3, pt b2, pt b3, pt b2, .int .i64 55]) ⟨⟨_, rfl⟩, ⟨_, rfl⟩, ⟨_, rfl⟩, ⟨_, rfl⟩, ⟨_, rfl⟩, ⟨_, rfl⟩, ⟨_, rfl⟩, ⟨_, rfl⟩, trivial⟩ trivial (by simp [keys]) (by simp [keys]) (by simp [keys]) ?_
  refine den_notnil (i := 0) hb.pts ?_
  refine den_ldp [.int .i64 d.n] _ ⟨⟨_, rfl⟩, trivial⟩ (cellk _ 6 _ rfl) (fun w5 h5 => (hb.keptA (shown_same h5) fun h => h).pts) (fun _ _ => by simp [BlkIn]) fun w1 h1 => den_norm (by simp only [List.cons_append, List.nil_append]; rfl) ?_
  refine den_ldp [.int .i64 d.n] _ ⟨⟨_, rfl⟩, trivial⟩ (cellk _ 6 _ rfl) (fun w5 h5 => ((hb.keptA (shown_same h1) fun h => h).keptA (shown_same h5) fun h => h).pts) (fun _ _ => by simp [BlkIn]) fun w2 h2 => den_norm (by simp only [List.cons_append, List.nil_append]; rfl) ?_
  have k2 : Same w w2 := (shown_same h1).trans (shown_same h2)
  have hb2 := hb.keptA k2 fun h => h
  have zz2 : w.heap.size ≤ w2.heap.size := k2.size
  refine den_ob64 ⟨by simp only [IE.den, nth, vint]; omega, by simp only [IE.den, nth, vint]; omega⟩ ?_
  refine den_storeP b 6 (.int .i64 (d.n + 1)) [.int .i64 (d.n + 1)] (devC d mf sB) (by kernel_rfl) rfl rfl rfl rfl (by intro u hu; simp at hu; subst hu; rfl) (fun wc hc => hb2.keptA (shown_same hc) fun h => h) (by simp [devC]) (fun wc hc => ⟨fun hd => (by cases hd), fun _ => .inl rfl, fun hin2 => by simp [BlkIn, nth, blkOf, vaddr] at hin2, fun hx => (by cases hx)⟩) (fun w3 w4 h3 hb4 k34 => ?_)
  have K4 : Kept (fun y => y = b) w w4 := ((k2.trans (shown_same h3)).mono fun _ _ h => h.elim).trans k34
  have hb4' : HasBlk w4 (pt b) (devC { d with n := d.n + 1 } mf sB) := hb4
  have pres : ∀ {w'' : World}, Kept (fun y => y = b) w w'' → MapB w'' mf d.F ∧ Mine blE 81 w'' (slc0 g Lb.length c) Lb ∧ HasBlk w'' (pt b3) [ptA g (j * 3)] ∧ HasBlk w'' (pt b2) [pt b] := fun hk =>
    ⟨hm.kept hk fun e => n6.2.2 e.symm, hM.kept hk fun y hy e => n1 (by have e2 : g = y := Option.some.inj hy; omega), hp.keptA hk fun e => n6.1 e.symm, hd.keptA hk fun e => n6.2.1 e.symm⟩
  refine den_ldp [.int .i64 d.cut] _ ⟨⟨_, rfl⟩, trivial⟩ (cellk _ 7 _ rfl) (fun w5 h5 => (hb4'.keptA (shown_same h5) fun h => h).pts) (fun _ _ => by simp [BlkIn]) fun w5 h5 => den_norm (by simp only [List.cons_append, List.nil_append]; rfl) ?_
  have K5 : Kept (fun y => y = b) w w5 := K4.trans ((shown_same h5).mono fun _ _ h => h.elim)
  have hb5 := hb4'.keptA (shown_same h5) fun h => h
  refine den_splitEq (fun he => ?_) (fun hne => ?_)
  · have he' : d.n = d.cut := he
    have hc : d.cutNow = true := decide_eq_true he'
    have e1 : d.err 55 = 50 := by unfold Dv.err; rw [if_pos he']
    have e2 : d.ersS = 5 := by unfold Dv.ersS; rw [if_pos he']
    have e3 : d.hd = { { d with n := d.n + 1 } with off := true } := by simp [Dv.hd, hc]
    rw [e1, e2, e3]
    refine den_storeP b 9 (.bool true) [.bool true] (devC { d with n := d.n + 1 } mf sB) (by kernel_rfl) rfl rfl rfl rfl (by intro u hu; simp at hu; subst hu; rfl) (fun wc hc => hb5.keptA (shown_same hc) fun h => h) (by simp [devC]) (fun wc hc => ⟨fun hd => (by cases hd), fun _ => .inl rfl, fun hin2 => by simp [BlkIn, nth, blkOf, vaddr] at hin2, fun hx => (by cases hx)⟩) (fun w6 w7 h6 hb7 k67 => ?_)
    have hb7' : HasBlk w7 (pt b) (devC { { d with n := d.n + 1 } with off := true } mf sB) := hb7
    have K7 : Kept (fun y => y = b) w w7 := (K5.trans ((shown_same h6).mono fun _ _ h => h.elim)).trans k67
    refine den_callM (fun _ y => y = g) (fun w8 l w9 => l = [] ∧ ∃ gp, w8.heap.size ≤ gp ∧ Mine blE 81 w9 (slc0 g Lb.length c) (Lb.set j ⟨slc0 gp np np, if (5 : Int) = 1 then 0 else np, v.er⟩) ∧ Mine pgE 78 w9 (slc0 gp np np) (List.replicate np ⟨.slice none 0 0, 5⟩)) (fun w8 h8 y hy hlt => ⟨fun hd => (by cases hd), fun _ => .inr hy, fun hin => by simp [BlkIn, nth, blkOf, vaddr] at hin, fun hx => (by cases hx)⟩) (fun w8 h8 => ?_) (fun w8 l w9 h8 hfl hR k89 => ?_)
    · obtain ⟨q1, q2, q3, q4⟩ := pres (K7.trans ((shown_same h8).mono fun _ _ h => h.elim))
      exact (c6x (d := { { d with n := d.n + 1 } with off := true }) 68 5 (.inl ⟨rfl, rfl⟩) b3 b2 g j c np v Lb w8 q2 hv hsl q3 q4 (hb7'.keptA (shown_same h8) fun h => h) hnp h600 n3 n2 n1).mono (fun r w' hr _ => ⟨[], trivial, hr.1, ⟨rfl, hr.2⟩, trivial⟩) (fun _ _ h => h)
    obtain ⟨rfl, gp, r0, r1, r2⟩ := hR
    have z8 : w.heap.size ≤ w8.heap.size := Nat.le_trans K7.size h8.kept.size
    refine den_norm (by simp only [List.cons_append, List.nil_append]; rfl) (den_leafA _ rfl fun wz hz => ⟨rfl, ?_, gp, by omega, r1.same (shown_same hz), r2.same (shown_same hz)⟩)
    exact ((hb7'.keptA (shown_same h8) fun h => h).keptA k89 n1).keptA (shown_same hz) fun h => h
  have hne' : ¬ d.n = d.cut := hne
  have hc : d.cutNow = false := decide_eq_false hne'
  have e3 : d.hd = { d with n := d.n + 1 } := by simp [Dv.hd, hc]
  rw [e3]
  refine den_ldp [.map (some mf)] _ ⟨⟨_, rfl⟩, trivial⟩ (cellk _ 4 _ rfl) (fun w6 h6 => (hb5.keptA (shown_same h6) fun h => h).pts) (fun _ _ => by simp [BlkIn]) fun w6 h6 => den_norm (by simp only [List.cons_append, List.nil_append]; rfl) ?_
  have K6 : Kept (fun y => y = b) w w6 := K5.trans ((shown_same h6).mono fun _ _ h => h.elim)
  have hb6 := hb5.keptA (shown_same h6) fun h => h
  refine den_lookupB mf d.F u47 u3 zb4 rfl (fun w7 h7 => (pres (K6.trans ((shown_same h7).mono fun _ _ h => h.elim))).1) (fun v => rfl) (fun w7 w8 h7 k78 => den_norm (by simp only [List.cons_append, List.nil_append]; rfl) (den_split (fun hf => ?_) (fun hf => ?_)))
  · have hf' : d.F d.n = true := hf
    have e1 : d.err 55 = 55 := by unfold Dv.err; rw [if_neg hne', if_pos hf']
    have e2 : d.ersS = 5 := by unfold Dv.ersS; rw [if_neg hne', if_pos hf']
    rw [e1, e2]
    have K8 : Kept (fun y => y = b) w w8 := (K6.trans ((shown_same h7).mono fun _ _ h => h.elim)).trans (k78.mono fun _ _ h => h.elim)
    have hb8 := (hb6.keptA (shown_same h7) fun h => h).keptA k78 fun h => h
    refine den_callM (fun _ y => y = g) (fun w8 l w9 => l = [] ∧ ∃ gp, w8.heap.size ≤ gp ∧ Mine blE 81 w9 (slc0 g Lb.length c) (Lb.set j ⟨slc0 gp np np, if (5 : Int) = 1 then 0 else np, v.er⟩) ∧ Mine pgE 78 w9 (slc0 gp np np) (List.replicate np ⟨.slice none 0 0, 5⟩)) (fun w8 h8 y hy hlt => ⟨fun hd => (by cases hd), fun _ => .inr hy, fun hin => by simp [BlkIn, nth, blkOf, vaddr] at hin, fun hx => (by cases hx)⟩) (fun w9 h9 => ?_) (fun w9 l w10 h9 hfl hR k910 => ?_)
    · obtain ⟨q1, q2, q3, q4⟩ := pres (K8.trans ((shown_same h9).mono fun _ _ h => h.elim))
      exact (c6x (d := { d with n := d.n + 1 }) 68 5 (.inl ⟨rfl, rfl⟩) b3 b2 g j c np v Lb w9 q2 hv hsl q3 q4 (hb8.keptA (shown_same h9) fun h => h) hnp h600 n3 n2 n1).mono (fun r w' hr _ => ⟨[], trivial, hr.1, ⟨rfl, hr.2⟩, trivial⟩) (fun _ _ h => h)
    obtain ⟨rfl, gp, r0, r1, r2⟩ := hR
    have z8 : w.heap.size ≤ w9.heap.size := Nat.le_trans K8.size h9.kept.size
    refine den_norm (by simp only [List.cons_append, List.nil_append]; rfl) (den_leafA _ rfl fun wz hz => ⟨rfl, ?_, gp, by omega, r1.same (shown_same hz), r2.same (shown_same hz)⟩)
    exact ((hb8.keptA (shown_same h9) fun h => h).keptA k910 n1).keptA (shown_same hz) fun h => h
  · have hf' : ¬ d.F d.n = true := by have : d.F d.n = false := hf; rw [this]; decide
    have e1 : d.err 55 = 0 := by unfold Dv.err; rw [if_neg hne', if_neg hf']
    have e2 : d.ersS = 1 := by unfold Dv.ersS; rw [if_neg hne', if_neg hf']
    rw [e1, e2]
    have K8 : Kept (fun y => y = b) w w8 := (K6.trans ((shown_same h7).mono fun _ _ h => h.elim)).trans (k78.mono fun _ _ h => h.elim)
    have hb8 := (hb6.keptA (shown_same h7) fun h => h).keptA k78 fun h => h
    refine den_callM (fun _ y => y = g) (fun w8 l w9 => l = [] ∧ ∃ gp, w8.heap.size ≤ gp ∧ Mine blE 81 w9 (slc0 g Lb.length c) (Lb.set j ⟨slc0 gp np np, if (1 : Int) = 1 then 0 else np, v.er⟩) ∧ Mine pgE 78 w9 (slc0 gp np np) (List.replicate np ⟨.slice none 0 0, 1⟩)) (fun w8 h8 y hy hlt => ⟨fun hd => (by cases hd), fun _ => .inr hy, fun hin => by simp [BlkIn, nth, blkOf, vaddr] at hin, fun hx => (by cases hx)⟩) (fun w9 h9 => ?_) (fun w9 l w10 h9 hfl hR k910 => ?_)
    · obtain ⟨q1, q2, q3, q4⟩ := pres (K8.trans ((shown_same h9).mono fun _ _ h => h.elim))
      exact (c6x (d := { d with n := d.n + 1 }) 69 1 (.inr ⟨rfl, rfl⟩) b3 b2 g j c np v Lb w9 q2 hv hsl q3 q4 (hb8.keptA (shown_same h9) fun h => h) hnp h600 n3 n2 n1).mono (fun r w' hr _ => ⟨[], trivial, hr.1, ⟨rfl, hr.2⟩, trivial⟩) (fun _ _ h => h)
    obtain ⟨rfl, gp, r0, r1, r2⟩ := hR
    have z8 : w.heap.size ≤ w9.heap.size := Nat.le_trans K8.size h9.kept.size
    refine den_norm (by simp only [List.cons_append, List.nil_append]; rfl) (den_leafA _ rfl fun wz hz => ⟨rfl, ?_, gp, by omega, r1.same (shown_same hz), r2.same (shown_same hz)⟩)
    exact ((hb8.keptA (shown_same h9) fun h => h).keptA k910 n1).keptA (shown_same hz) fun h => h
theorem c54 (g j c np : Nat) (v : Bv) (Lb : List Bv) (w : World) (hb : HasBlk w (pt b) (devC d mf sB)) (hm : MapB w mf d.F) (hM : Mine blE 81 w (slc0 g Lb.length c) Lb) (hv : Lb[j]? = some v) (hsl : ∃ a n c, v.s = .slice a n c) (hnp : d.g.p = np) (h600 : np ≤ 600) (n1 : b ≠ g) (n6 : b ≠ mf) (hn0 : 0 ≤ d.n) (hn1 : d.n ≤ 1000000000) (he0 : 0 ≤ v.er) (he1 : v.er ≤ 2000000) :
    Runs Try.prog 54 [pt b, ptA g (j * 3)] w (fun y => y = b ∨ y = g) (fun r w' => r = .int .i64 (d.err 55) ∧ HasBlk w' (pt b) (devC d.hd mf sB) ∧ ∃ gp, w.heap.size ≤ gp ∧ Mine blE 81 w' (slc0 g Lb.length c) (Lb.set j ⟨slc0 gp np np, if d.ersS = 1 then 0 else np, v.er + 1⟩) ∧ Mine pgE 78 w' (slc0 gp np np) (List.replicate np ⟨.slice none 0 0, d.ersS⟩)) := by
  have hj : j < Lb.length := (List.getElem?_eq_some_iff.1 hv).1
  have lb : b < w.heap.size := hb.pts.lt (by simp [devC]) b rfl
  have lg : g < w.heap.size := hM.lt rfl
  have lm := hm.lt
  refine runs mix t54 rfl rfl (ε := [pt b, ptA g (j * 3)]) ⟨⟨_, rfl⟩, ⟨_, rfl⟩, trivial⟩ trivial (by simp [keys]) (by simp [keys]) (by simp [keys]) ?_
  refine den_blk fun b2 k2 _ _ => den_norm (by simp only [List.cons_append, List.nil_append]; rfl) (den_blk fun b3 k3 _ _ => den_norm (by simp only [List.cons_append, List.nil_append]; rfl) ?_)
  have z2 : w.heap.size ≤ b2 := k2
  have z3 : w.heap.size ≤ b3 := k3
  refine den_notnilP (i := 1) rfl ?_
  refine den_ldq (i := 1) (off := 2) g (j * 3) [.int .i64 v.er] ⟨⟨_, rfl⟩, trivial⟩ rfl (fun w5 h5 m u hu => ?_) (by simp [BlkIn, nth, blkOf, vaddr]) fun w5 h5 => den_norm (by simp only [List.cons_append, List.nil_append]; rfl) ?_
  · match m, hu with
    | 0, hu => cases hu; exact (hM.same (shown_same h5)).cellAt hv (by decide) (m := 2) rfl
  have hM5 := hM.same (shown_same h5)
  refine den_ob64 ⟨by simp only [IE.den, nth, vint]; omega, by simp only [IE.den, nth, vint]; omega⟩ ?_
  refine den_storeE (E := blE) (T := 81) (off2 := 2) g c Lb j v ⟨v.s, v.nx, v.er + 1⟩ (.int .i64 (v.er + 1)) [.int .i64 (v.er + 1)] (by kernel_rfl) rfl hv rfl rfl rfl (by intro u hu; simp at hu; subst hu; rfl) (by simp [blE]) (by decide) rfl (fun w3 h3 => hM5.same (shown_same h3)) (fun w3 h3 => ⟨fun hd => (by cases hd), fun _ => .inr rfl, fun hin => by simp [BlkIn, nth, blkOf, vaddr] at hin; omega, fun hx => (by cases hx)⟩) (fun w6 w7 h6 hM7 k67 => ?_)
  have K7 : Kept (fun y => y = g) w w7 := (((shown_same h5).trans (shown_same h6)).mono fun _ _ h => h.elim).trans k67
  have gs : (Lb.set j ⟨v.s, v.nx, v.er + 1⟩)[j]? = some ⟨v.s, v.nx, v.er + 1⟩ := by rw [List.getElem?_set_self hj]
  refine den_callM (fun _ y => y = b ∨ y = g) (fun w8 l w9 => l = [.int .i64 (d.err 55)] ∧ HasBlk w9 (pt b) (devC d.hd mf sB) ∧ ∃ gp, w8.heap.size ≤ gp ∧ Mine blE 81 w9 (slc0 g Lb.length c) (Lb.set j ⟨slc0 gp np np, if d.ersS = 1 then 0 else np, v.er + 1⟩) ∧ Mine pgE 78 w9 (slc0 gp np np) (List.replicate np ⟨.slice none 0 0, d.ersS⟩)) (fun w8 h8 y hy hlt => ⟨fun hd => (by cases hd), fun _ => hy, fun hin => by simp [BlkIn, nth, blkOf, vaddr] at hin; omega, fun hx => (by cases hx)⟩) (fun w8 h8 => ?_) (fun w8 l w9 h8 hfl hR k89 => ?_)
  · have K8 : Kept (fun y => y = g) w w8 := K7.trans ((shown_new h8 fun y hy => by simp [BlkIn, nth, blkOf, vaddr] at hy).mono fun _ _ h => h.elim)
    have hM8 : Mine blE 81 w8 (slc0 g (Lb.set j ⟨v.s, v.nx, v.er + 1⟩).length c) (Lb.set j ⟨v.s, v.nx, v.er + 1⟩) := by rw [List.length_set]; exact hM7.same (shown_new h8 fun y hy => by simp [BlkIn, nth, blkOf, vaddr] at hy)
    refine (c63e b3 b2 g j c np ⟨v.s, v.nx, v.er + 1⟩ (Lb.set j ⟨v.s, v.nx, v.er + 1⟩) w8 (hb.keptA K8 n1) (hm.kept K8 fun e => ?_) hM8 gs hsl ?_ ?_ hnp h600 (by omega) (by omega) n1 ⟨by omega, by omega, n6⟩ hn0 hn1).mono (fun r w' hr _ => ⟨[.int .i64 (d.err 55)], ⟨⟨_, rfl⟩, trivial⟩, hr.1, ⟨rfl, hr.2.1, ?_⟩, trivial⟩) (fun _ _ h => h)
    · obtain ⟨es, cl, hh, _⟩ := hm
      rcases hM.forms with ⟨e1, _⟩ | ⟨g', c', cur, ty, e1, hg, _⟩
      · simp at e1
      · simp only [Value.slice.injEq, Option.some.injEq, Addr.mk.injEq] at e1
        rw [← e1.1.1, ← e, hh] at hg
        cases hg
    · have := h8.facts.1; simpa [SV.den, denL, IE.den, BE.den, nth, vint, vbool, vaddr, addO, addr_add] using this
    · have := h8.facts.2.1; simpa [SV.den, denL, IE.den, BE.den, nth, vint, vbool, vaddr, addO, addr_add] using this
    · obtain ⟨gp, r1, r2, r3⟩ := hr.2.2
      rw [List.length_set, List.set_set] at r2
      exact ⟨gp, r1, r2, r3⟩
  obtain ⟨rfl, r0, gp, r1, r2, r3⟩ := hR
  have z8 : w.heap.size ≤ w8.heap.size := Nat.le_trans K7.size h8.kept.size
  have lgp := r3.lt (g := gp) rfl
  refine den_norm (by simp only [List.cons_append, List.nil_append]; rfl) (den_leafA _ rfl fun wz hz => ?_)
  have kz : Same w9 wz := shown_same hz
  exact ⟨rfl, r0.keptA kz fun h => h, gp, by omega, r2.same kz, r3.same kz⟩
end
end Go.Proofs.Ytppbapnibpeolaa
