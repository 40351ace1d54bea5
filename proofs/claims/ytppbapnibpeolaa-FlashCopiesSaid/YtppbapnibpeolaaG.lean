/- A flash device: programming and erasing. No conditions beyond those that each theorem names. -/
import Derived.Test.YtppbapnibpeolaaF
set_option maxRecDepth 100000
set_option maxHeartbeats 2000000
set_option linter.unusedVariables false
set_option linter.unusedSimpArgs false
namespace Go.Proofs.Ytppbapnibpeolaa
open Go.Sx

theorem u47 : Try.prog.underlying 47 = some (.map 3 4) := by kernel_rfl
theorem zb4 (w : World) : (zeroValue 4).run Try.prog w = .ok (.bool false) w := by
  have h1 : Try.prog.info? 4 = some Try.t4 := by kernel_rfl
  have h2 : Try.t4.zero = some (.bool false) := by kernel_rfl
  simp [zeroValue, typeInfo, h1, h2]
abbrev fnV (f : Nat) (l : List Value) : Value := .func (.func f) #[] l.toArray
section
variable {w w' : World} {S T S' T' TA Mx : Nat → Prop} {b mf : Nat} {sB : Value} {Lb : List Bv} {d : Dv}
/-- one block of the device, and its counters, turn -/
theorem DevM.turn (h : DevM w S TA b mf sB Lb d) {B : Nat} {v v' : Bv} {x x' : Bl} {d' : Dv} {L' : List Pv} (hB : Lb[B]? = some v) (hx : d.bs[B]? = some x)
    (hk : Kept Mx w w') (hMx : ∀ y, y < w.heap.size → Mx y → TA y) (hM1 : ¬ Mx mf) (hM2 : ∀ (i : Nat) u, i ≠ B → Lb[i]? = some u → ∀ g, u.s.ownBlock = some g → ¬ Mx g)
    (hblk : HasBlk w' (pt b) (devC d' mf sB)) (hF : d'.F = d.F) (hbs : d'.bs = d.bs.set B x')
    (hown : Mine blE 81 w' sB (Lb.set B v')) (hnx : v'.nx = x'.nx) (her : v'.er = x'.er) (hpg : Mine pgE 78 w' v'.s L') (hps : PgsAt w' T' L' x'.ps)
    (hfr : ∀ g, v'.s.ownBlock = some g → v.s.ownBlock = some g ∨ w.heap.size ≤ g)
    (hS : ∀ y, S y → S' y) (hS2 : ∀ g, v'.s.ownBlock = some g → S' g) (hST : ∀ y, S' y → T' y) (hTT : ∀ y, y < w.heap.size → T' y → TA y) (hlt : ∀ y, T' y → y < w'.heap.size) :
    DevM w' S' T' b mf sB (Lb.set B v') d' := by
  have lt := fun {y} (hy : S y) => h.lt y (h.ST y hy)
  have hBl : B < Lb.length := (List.getElem?_eq_some_iff.1 hB).1
  have cases' : ∀ {i : Nat} {u : Bv}, (Lb.set B v')[i]? = some u → (i = B ∧ u = v') ∨ (i ≠ B ∧ Lb[i]? = some u) := fun {i u} hu => by
    rw [List.getElem?_set] at hu
    split at hu
    · rename_i e
      cases hu
      exact .inl ⟨e.symm, rfl⟩
    · rename_i e
      exact .inr ⟨fun e' => e e'.symm, hu⟩
  have sp := h.Sp B v hB
  refine ⟨hblk, by rw [hF]; exact h.map.kept hk hM1, hown, by rw [List.length_set, h.len, hbs, List.length_set], ?_, hS _ h.Sb, hS _ h.Sm, h.ne, fun g hg => ⟨hS _ (h.SB g hg).1, (h.SB g hg).2⟩, ?_, ?_, hST, hlt⟩
  · intro i u y hu hy
    rw [hbs] at hy
    rcases cases' hu with ⟨rfl, rfl⟩ | ⟨hi, hu'⟩
    · rw [List.getElem?_set, if_pos rfl, if_pos (by rw [← h.len]; exact hBl)] at hy
      cases hy
      exact ⟨hnx, her, L', hpg, hps⟩
    · rw [List.getElem?_set, if_neg (fun e => hi e.symm)] at hy
      obtain ⟨e1, e2, L, hL, hp⟩ := h.pg i u y hu' hy
      exact ⟨e1, e2, L, hL.kept hk (hM2 i u hi hu'), PgsAt.keptGrow hp hk hMx hTT⟩
  · intro i u hu g hg
    rcases cases' hu with ⟨rfl, rfl⟩ | ⟨hi, hu'⟩
    · rcases hfr g hg with e | e
      · exact ⟨hS2 g hg, (sp g e).2⟩
      · exact ⟨hS2 g hg, fun e' => by have := lt h.Sb; omega, fun e' => by have := lt h.Sm; omega, fun e' => by have := lt (h.SB g e').1; omega⟩
    · exact ⟨hS _ (h.Sp i u hu' g hg).1, (h.Sp i u hu' g hg).2⟩
  · intro i j u t hij hu ht g hg
    rcases cases' hu with ⟨rfl, rfl⟩ | ⟨hi, hu'⟩ <;> rcases cases' ht with ⟨rfl, rfl⟩ | ⟨hj, ht'⟩
    · exact absurd rfl hij
    · rcases hfr g hg with e | e
      · exact h.dis i j v t hij hB ht' g e
      · intro e'
        have := lt (h.Sp j t ht' g e').1
        omega
    · intro e'
      rcases hfr g e' with e | e
      · exact h.dis i j u v hij hu' hB g hg e
      · have := lt (h.Sp i u hu' g hg).1
        omega
    · exact h.dis i j u t hij hu' ht' g hg
/-- what was there, in a later world in which only these blocks turned -/
theorem DevM.later (h : DevM w S T b mf sB Lb d) (hk : Kept Mx w w') (hM1 : ∀ y, y < w.heap.size → ¬ Mx y) (hT : ∀ y, T y → T' y) (hTT : ∀ y, y < w.heap.size → T' y → T y) (hlt : ∀ y, T' y → y < w'.heap.size) : DevM w' S T' b mf sB Lb d :=
  have h' := h.same (hk.mono fun y hy hm => hM1 y hy hm)
  ⟨h'.blk, h'.map, h'.own, h'.len, fun i v x hv hx => let ⟨e1, e2, L, hL, hp⟩ := h.pg i v x hv hx; ⟨e1, e2, L, hL.kept hk fun g hg hm => hM1 g (hL.lt hg) hm, PgsAt.keptGrow hp hk (fun y hy hm => absurd hm (hM1 y hy)) hTT⟩, h'.Sb, h'.Sm, h'.ne, h'.SB, h'.Sp, h'.dis, fun y hy => hT y (h.ST y hy), hlt⟩

abbrev Dv.hd (d : Dv) : Dv := { d with n := d.n + 1, off := d.off || d.cutNow }
theorem c63p (ba bp bd g c i gA cA : Nat) (D : List Int) (L : List Pv) (q : Pv) (w : World) (hb : HasBlk w (pt b) (devC d mf sB)) (hm : MapB w mf d.F) (hP : Mine pgE 78 w (slc0 g L.length c) L) (hq : L[i]? = some q) (ha : HasBlk w (pt ba) [slc0 gA D.length cA]) (hp : HasBlk w (pt bp) [ptA g (i * 2)]) (hd : HasBlk w (pt bd) [pt b]) (hA : Mine byteE 5 w (slc0 gA D.length cA) D)
    (c0 : 0 ≤ d.cb) (c1 : d.cb ≤ D.length) (hD : D.length ≤ 60000) (n1 : ba ≠ g ∧ ba ≠ gA) (n2 : bp ≠ g ∧ bp ≠ gA) (n3 : bd ≠ g ∧ bd ≠ gA) (n4 : b ≠ g ∧ b ≠ gA) (n5 : g ≠ gA) (n6 : b ≠ ba ∧ b ≠ bp ∧ b ≠ bd ∧ b ≠ mf) (hn0 : 0 ≤ d.n) (hn1 : d.n ≤ 1000000000) :
    Runs Try.prog 63 [pt b, fnV 64 [pt ba, pt bp], fnV 65 [pt bp], fnV 66 [pt ba, pt bp, pt bd], .int .i64 54] w (fun y => y = b ∨ y = g ∨ y = gA) (fun r w' => r = .int .i64 (d.err 54) ∧ HasBlk w' (pt b) (devC d.hd mf sB) ∧ ∃ pv, Mine pgE 78 w' (slc0 g L.length c) (L.set i pv) ∧ pv.st = (d.prgP D).st ∧ Given byteE w' pv.s (d.prgP D).D ∧ ∀ ad, vaddr pv.s = some ad → ad.block = gA) := by
  refine runs mix t63p rfl rfl (ε := [pt b, pt ba, pt bp, pt bp, pt ba, pt bp, pt bd, .int .i64 54]) ⟨⟨_, rfl⟩, ⟨_, rfl⟩, ⟨_, rfl⟩, ⟨_, rfl⟩, ⟨_, rfl⟩, ⟨_, rfl⟩, ⟨_, rfl⟩, ⟨_, rfl⟩, trivial⟩ trivial (by simp [keys]) (by simp [keys]) (by simp [keys]) ?_
  refine den_notnil (i := 0) hb.pts ?_
  refine den_ldp [.int .i64 d.n] _ ⟨⟨_, rfl⟩, trivial⟩ (cellk _ 6 _ rfl) (fun w5 h5 => (hb.keptA (shown_same h5) fun h => h).pts) (fun _ _ => by simp [BlkIn]) fun w1 h1 => den_norm (by simp only [List.cons_append, List.nil_append]; rfl) ?_
  refine den_ldp [.int .i64 d.n] _ ⟨⟨_, rfl⟩, trivial⟩ (cellk _ 6 _ rfl) (fun w5 h5 => ((hb.keptA (shown_same h1) fun h => h).keptA (shown_same h5) fun h => h).pts) (fun _ _ => by simp [BlkIn]) fun w2 h2 => den_norm (by simp only [List.cons_append, List.nil_append]; rfl) ?_
  have k2 : Same w w2 := (shown_same h1).trans (shown_same h2)
  have hb2 := hb.keptA k2 fun h => h
  refine den_ob64 ⟨by simp only [IE.den, nth, vint]; omega, by simp only [IE.den, nth, vint]; omega⟩ ?_
  refine den_storeP b 6 (.int .i64 (d.n + 1)) [.int .i64 (d.n + 1)] (devC d mf sB) (by kernel_rfl) rfl rfl rfl rfl (by intro u hu; simp at hu; subst hu; rfl) (fun wc hc => hb2.keptA (shown_same hc) fun h => h) (by simp [devC]) (fun wc hc => ⟨fun hd => (by cases hd), fun _ => .inl rfl, fun hin2 => by simp [BlkIn, nth, blkOf, vaddr] at hin2, fun hx => (by cases hx)⟩) (fun w3 w4 h3 hb4 k34 => ?_)
  have K4 : Kept (fun y => y = b) w w4 := ((k2.trans (shown_same h3)).mono fun _ _ h => h.elim).trans k34
  have hb4' : HasBlk w4 (pt b) (devC { d with n := d.n + 1 } mf sB) := hb4
  have pres : ∀ {w'' : World}, Kept (fun y => y = b) w w'' → MapB w'' mf d.F ∧ Mine pgE 78 w'' (slc0 g L.length c) L ∧ HasBlk w'' (pt ba) [slc0 gA D.length cA] ∧ HasBlk w'' (pt bp) [ptA g (i * 2)] ∧ HasBlk w'' (pt bd) [pt b] ∧ Mine byteE 5 w'' (slc0 gA D.length cA) D := fun hk =>
    ⟨hm.kept hk fun e => n6.2.2.2 e.symm, hP.kept hk fun y hy e => n4.1 (by have e2 : g = y := Option.some.inj hy; omega), ha.keptA hk fun e => n6.1 e.symm, hp.keptA hk fun e => n6.2.1 e.symm, hd.keptA hk fun e => n6.2.2.1 e.symm, hA.kept hk fun y hy e => n4.2 (by have e2 : gA = y := Option.some.inj hy; omega)⟩
  refine den_ldp [.int .i64 d.cut] _ ⟨⟨_, rfl⟩, trivial⟩ (cellk _ 7 _ rfl) (fun w5 h5 => (hb4'.keptA (shown_same h5) fun h => h).pts) (fun _ _ => by simp [BlkIn]) fun w5 h5 => den_norm (by simp only [List.cons_append, List.nil_append]; rfl) ?_
  have K5 : Kept (fun y => y = b) w w5 := K4.trans ((shown_same h5).mono fun _ _ h => h.elim)
  have hb5 := hb4'.keptA (shown_same h5) fun h => h
  refine den_splitEq (fun he => ?_) (fun hne => ?_)
  · have he' : d.n = d.cut := he
    have hc : d.cutNow = true := decide_eq_true he'
    have e1 : d.err 54 = 50 := by unfold Dv.err; rw [if_pos he']
    have e2 : d.prgP D = ⟨if d.cb = D.length then 2 else 3, tear D d.cb⟩ := by unfold Dv.prgP; rw [if_pos he']
    have e3 : d.hd = { { d with n := d.n + 1 } with off := true } := by simp [Dv.hd, hc]
    rw [e1, e2, e3]
    refine den_storeP b 9 (.bool true) [.bool true] (devC { d with n := d.n + 1 } mf sB) (by kernel_rfl) rfl rfl rfl rfl (by intro u hu; simp at hu; subst hu; rfl) (fun wc hc => hb5.keptA (shown_same hc) fun h => h) (by simp [devC]) (fun wc hc => ⟨fun hd => (by cases hd), fun _ => .inl rfl, fun hin2 => by simp [BlkIn, nth, blkOf, vaddr] at hin2, fun hx => (by cases hx)⟩) (fun w6 w7 h6 hb7 k67 => ?_)
    have hb7' : HasBlk w7 (pt b) (devC { { d with n := d.n + 1 } with off := true } mf sB) := hb7
    have K7 : Kept (fun y => y = b) w w7 := (K5.trans ((shown_same h6).mono fun _ _ h => h.elim)).trans k67
    refine den_callM (fun _ y => y = g ∨ y = gA) (fun w8 l w9 => l = [] ∧ Mine pgE 78 w9 (slc0 g L.length c) (L.set i ⟨slc0 gA D.length cA, if d.cb = D.length then 2 else 3⟩) ∧ Mine byteE 5 w9 (slc0 gA D.length cA) (tear D d.cb)) (fun w8 h8 y hy hlt => ⟨fun hd => (by cases hd), fun _ => .inr hy, fun hin => by simp [BlkIn, nth, blkOf, vaddr] at hin, fun hx => (by cases hx)⟩) (fun w8 h8 => ?_) (fun w8 l w9 h8 hfl hR k89 => ?_)
    · have K8 : Kept (fun y => y = b) w w8 := K7.trans ((shown_same h8).mono fun _ _ h => h.elim)
      obtain ⟨q1, q2, q3, q4, q5, q6⟩ := pres K8
      exact (c66 (d := { { d with n := d.n + 1 } with off := true }) ba bp bd g c i gA cA D L q w8 q2 hq q3 q4 q5 (hb7'.keptA (shown_same h8) fun h => h) q6 c0 c1 hD n1 n2 n3 n4 n5).mono (fun r w' hr _ => ⟨[], trivial, hr.1, ⟨rfl, hr.2⟩, trivial⟩) (fun _ _ h => h)
    obtain ⟨rfl, r1, r2⟩ := hR
    refine den_norm (by simp only [List.cons_append, List.nil_append]; rfl) (den_leafA _ rfl fun wz hz => ⟨rfl, ?_, _, r1.same (shown_same hz), rfl, (r2.same (shown_same hz)).given, fun ad had => by cases had; rfl⟩)
    exact ((hb7'.keptA (shown_same h8) fun h => h).keptA k89 (fun e => e.elim n4.1 n4.2)).keptA (shown_same hz) fun h => h
  have hne' : ¬ d.n = d.cut := hne
  have hc : d.cutNow = false := decide_eq_false hne'
  have e3 : d.hd = { d with n := d.n + 1 } := by simp [Dv.hd, hc]
  rw [e3]
  refine den_ldp [.map (some mf)] _ ⟨⟨_, rfl⟩, trivial⟩ (cellk _ 4 _ rfl) (fun w6 h6 => (hb5.keptA (shown_same h6) fun h => h).pts) (fun _ _ => by simp [BlkIn]) fun w6 h6 => den_norm (by simp only [List.cons_append, List.nil_append]; rfl) ?_
  have K6 : Kept (fun y => y = b) w w6 := K5.trans ((shown_same h6).mono fun _ _ h => h.elim)
  have hb6 := hb5.keptA (shown_same h6) fun h => h
  refine den_lookupB mf d.F u47 u3 zb4 rfl (fun w7 h7 => (pres (K6.trans ((shown_same h7).mono fun _ _ h => h.elim))).1) (fun v => rfl) (fun w7 w8 h7 k78 => den_norm (by simp only [List.cons_append, List.nil_append]; rfl) (den_split (fun hf => ?_) (fun hf => ?_)))
  · have hf' : d.F d.n = true := hf
    have e1 : d.err 54 = 54 := by unfold Dv.err; rw [if_neg hne', if_pos hf']
    have e2 : d.prgP D = ⟨4, []⟩ := by unfold Dv.prgP; rw [if_neg hne', if_pos hf']
    rw [e1, e2]
    have K8 : Kept (fun y => y = b) w w8 := (K6.trans ((shown_same h7).mono fun _ _ h => h.elim)).trans (k78.mono fun _ _ h => h.elim)
    have hb8 := (hb6.keptA (shown_same h7) fun h => h).keptA k78 fun h => h
    refine den_callM (fun _ y => y = g) (fun w8 l w9 => l = [] ∧ Mine pgE 78 w9 (slc0 g L.length c) (L.set i ⟨.slice none 0 0, 4⟩)) (fun w8 h8 y hy hlt => ⟨fun hd => (by cases hd), fun _ => .inr (.inl hy), fun hin => by simp [BlkIn, nth, blkOf, vaddr] at hin, fun hx => (by cases hx)⟩) (fun w9 h9 => ?_) (fun w9 l w10 h9 hfl hR k910 => ?_)
    · obtain ⟨q1, q2, q3, q4, q5, q6⟩ := pres (K8.trans ((shown_same h9).mono fun _ _ h => h.elim))
      exact (c65 bp g c i L q w9 q2 hq q4).mono (fun r w' hr _ => ⟨[], trivial, hr.1, ⟨rfl, hr.2⟩, trivial⟩) (fun _ _ h => h)
    obtain ⟨rfl, r1⟩ := hR
    refine den_norm (by simp only [List.cons_append, List.nil_append]; rfl) (den_leafA _ rfl fun wz hz => ⟨rfl, ?_, _, r1.same (shown_same hz), rfl, given_nil, fun ad had => by cases had⟩)
    exact ((hb8.keptA (shown_same h9) fun h => h).keptA k910 n4.1).keptA (shown_same hz) fun h => h
  · have hf' : ¬ d.F d.n = true := by have : d.F d.n = false := hf; rw [this]; decide
    have e1 : d.err 54 = 0 := by unfold Dv.err; rw [if_neg hne', if_neg hf']
    have e2 : d.prgP D = ⟨2, D⟩ := by unfold Dv.prgP; rw [if_neg hne', if_neg hf']
    rw [e1, e2]
    have K8 : Kept (fun y => y = b) w w8 := (K6.trans ((shown_same h7).mono fun _ _ h => h.elim)).trans (k78.mono fun _ _ h => h.elim)
    have hb8 := (hb6.keptA (shown_same h7) fun h => h).keptA k78 fun h => h
    refine den_callM (fun _ y => y = g) (fun w8 l w9 => l = [] ∧ Mine pgE 78 w9 (slc0 g L.length c) (L.set i ⟨slc0 gA D.length cA, 2⟩)) (fun w8 h8 y hy hlt => ⟨fun hd => (by cases hd), fun _ => .inr (.inl hy), fun hin => by simp [BlkIn, nth, blkOf, vaddr] at hin, fun hx => (by cases hx)⟩) (fun w9 h9 => ?_) (fun w9 l w10 h9 hfl hR k910 => ?_)
    · obtain ⟨q1, q2, q3, q4, q5, q6⟩ := pres (K8.trans ((shown_same h9).mono fun _ _ h => h.elim))
      exact (c64 ba bp g c i (slc0 gA D.length cA) L q w9 q2 hq q3 q4 ⟨_, _, _, rfl⟩).mono (fun r w' hr _ => ⟨[], trivial, hr.1, ⟨rfl, hr.2⟩, trivial⟩) (fun _ _ h => h)
    obtain ⟨rfl, r1⟩ := hR
    have hA10 := (((pres K8).2.2.2.2.2.same (shown_same h9)).kept k910 fun y hy e => n5 (by have e2 : gA = y := Option.some.inj hy; omega))
    refine den_norm (by simp only [List.cons_append, List.nil_append]; rfl) (den_leafA _ rfl fun wz hz => ⟨rfl, ?_, _, r1.same (shown_same hz), rfl, (hA10.same (shown_same hz)).given, fun ad had => by cases had; rfl⟩)
    exact ((hb8.keptA (shown_same h9) fun h => h).keptA k910 n4.1).keptA (shown_same hz) fun h => h
end
end Go.Proofs.Ytppbapnibpeolaa
