/- A flash device: what an operation does to a page. No conditions beyond those that each theorem names. -/
import Derived.Test.YtppbapnibpeolaaE
set_option maxRecDepth 100000
set_option maxHeartbeats 2000000
set_option linter.unusedVariables false
set_option linter.unusedSimpArgs false
namespace Go.Proofs.Ytppbapnibpeolaa
open Go.Sx

theorem pg_one (v : Pv) (h : ∃ a n c, v.s = .slice a n c) : ∀ u ∈ [v.s, Value.int .i64 v.st], u.oneCell' = true := by
  obtain ⟨a, n, c, e⟩ := h
  intro u hu
  simp only [List.mem_cons, List.not_mem_nil, or_false] at hu
  rcases hu with rfl | rfl
  · rw [e]; rfl
  · rfl
section
variable {w w' : World} {S T : Nat → Prop} {b mf : Nat} {sB : Value} {Lb : List Bv} {d : Dv}
theorem c64 (ba bp g c i : Nat) (sA : Value) (L : List Pv) (q : Pv) (w : World) (hP : Mine pgE 78 w (slc0 g L.length c) L) (hq : L[i]? = some q) (ha : HasBlk w (pt ba) [sA]) (hp : HasBlk w (pt bp) [ptA g (i * 2)]) (hA : ∃ a n c, sA = .slice a n c) :
    Runs Try.prog 64 [pt ba, pt bp] w (fun y => y = g) (fun r w' => r = .tuple #[] ∧ Mine pgE 78 w' (slc0 g L.length c) (L.set i ⟨sA, 2⟩)) := by
  obtain ⟨aa, an, ac, rfl⟩ := hA
  refine runs mix t64 rfl rfl (ε := [pt ba, pt bp]) ⟨⟨_, rfl⟩, ⟨_, rfl⟩, trivial⟩ trivial (by simp [keys]) (by simp [keys]) (by simp [keys]) ?_
  refine den_ldp [ptA g (i * 2)] [ptA g (i * 2)] ⟨⟨_, rfl⟩, trivial⟩ (cellk _ 0 _ rfl) (fun w5 h5 => (hp.keptA (shown_same h5) (fun h => h)).pts) (fun _ _ => by simp [BlkIn]) fun w1 h1 => den_norm (by simp only [List.cons_append, List.nil_append]; rfl) ?_
  refine den_ldp [.slice aa an ac] [.slice aa an ac] ⟨⟨_, _, _, rfl⟩, trivial⟩ (cellk _ 0 _ rfl) (fun w5 h5 => ((ha.keptA (shown_same h1) (fun h => h)).keptA (shown_same h5) (fun h => h)).pts) (fun _ _ => by simp [BlkIn]) fun w2 h2 => den_norm (by simp only [List.cons_append, List.nil_append]; rfl) ?_
  have hP2 := (hP.same (shown_same h1)).same (shown_same h2)
  refine den_notnilP (i := 2) rfl ?_
  refine den_storeE (E := pgE) (T := 78) (off2 := 0) g c L i q ⟨.slice aa an ac, 2⟩ (.agg #[.slice aa an ac, .int .i64 2]) [.slice aa an ac, .int .i64 2] (by kernel_rfl) rfl hq rfl rfl rfl (pg_one ⟨_, 2⟩ ⟨_, _, _, rfl⟩) (by simp [pgE]) (by decide) rfl (fun w3 h3 => hP2.same (shown_same h3)) (fun w3 h3 => ⟨fun hd => (by cases hd), fun _ => rfl, fun hin => by simp [BlkIn, nth, blkOf, vaddr] at hin, fun hx => (by cases hx)⟩) (fun w3 w4 h3 hM4 k34 => ?_)
  exact den_leafA _ rfl fun w5 h5 => ⟨rfl, hM4.same (shown_same h5)⟩
theorem c65 (bp g c i : Nat) (L : List Pv) (q : Pv) (w : World) (hP : Mine pgE 78 w (slc0 g L.length c) L) (hq : L[i]? = some q) (hp : HasBlk w (pt bp) [ptA g (i * 2)]) :
    Runs Try.prog 65 [pt bp] w (fun y => y = g) (fun r w' => r = .tuple #[] ∧ Mine pgE 78 w' (slc0 g L.length c) (L.set i ⟨.slice none 0 0, 4⟩)) := by
  refine runs mix t65 rfl rfl (ε := [pt bp]) ⟨⟨_, rfl⟩, trivial⟩ trivial (by simp [keys]) (by simp [keys]) (by simp [keys]) ?_
  refine den_ldp [ptA g (i * 2)] [ptA g (i * 2)] ⟨⟨_, rfl⟩, trivial⟩ (cellk _ 0 _ rfl) (fun w5 h5 => (hp.keptA (shown_same h5) (fun h => h)).pts) (fun _ _ => by simp [BlkIn]) fun w1 h1 => den_norm (by simp only [List.cons_append, List.nil_append]; rfl) ?_
  have hP2 := hP.same (shown_same h1)
  refine den_notnilP (i := 1) rfl ?_
  refine den_storeE (E := pgE) (T := 78) (off2 := 0) g c L i q ⟨.slice none 0 0, 4⟩ (.agg #[.slice none 0 0, .int .i64 4]) [.slice none 0 0, .int .i64 4] (by kernel_rfl) rfl hq rfl rfl rfl (pg_one ⟨_, 4⟩ ⟨_, _, _, rfl⟩) (by simp [pgE]) (by decide) rfl (fun w3 h3 => hP2.same (shown_same h3)) (fun w3 h3 => ⟨fun hd => (by cases hd), fun _ => rfl, fun hin => by simp [BlkIn, nth, blkOf, vaddr] at hin, fun hx => (by cases hx)⟩) (fun w3 w4 h3 hM4 k34 => ?_)
  exact den_leafA _ rfl fun w5 h5 => ⟨rfl, hM4.same (shown_same h5)⟩
theorem tear_step (D : List Int) (n k : Nat) (hk : n + k < D.length) : (D.take n ++ List.replicate k 255 ++ D.drop (n + k)).set (n + k) 255 = D.take n ++ List.replicate (k + 1) 255 ++ D.drop (n + (k + 1)) := by
  have hl : (D.take n ++ List.replicate k (255 : Int)).length = n + k := by simp; omega
  rw [List.set_append_right _ _ (by rw [hl]; exact Nat.le_refl _), hl, Nat.sub_self, List.drop_eq_getElem_cons hk, List.set_cons_zero, List.replicate_succ']
  simp [Nat.add_assoc]
theorem c66 (ba bp bd g c i : Nat) (gA cA : Nat) (D : List Int) (L : List Pv) (q : Pv) (w : World) (hP : Mine pgE 78 w (slc0 g L.length c) L) (hq : L[i]? = some q) (ha : HasBlk w (pt ba) [slc0 gA D.length cA]) (hp : HasBlk w (pt bp) [ptA g (i * 2)]) (hd : HasBlk w (pt bd) [pt b]) (hb : HasBlk w (pt b) (devC d mf sB)) (hA : Mine byteE 5 w (slc0 gA D.length cA) D)
    (c0 : 0 ≤ d.cb) (c1 : d.cb ≤ D.length) (hD : D.length ≤ 60000) (n1 : ba ≠ g ∧ ba ≠ gA) (n2 : bp ≠ g ∧ bp ≠ gA) (n3 : bd ≠ g ∧ bd ≠ gA) (n4 : b ≠ g ∧ b ≠ gA) (n5 : g ≠ gA) :
    Runs Try.prog 66 [pt ba, pt bp, pt bd] w (fun y => y = g ∨ y = gA) (fun r w' => r = .tuple #[] ∧ Mine pgE 78 w' (slc0 g L.length c) (L.set i ⟨slc0 gA D.length cA, if d.cb = D.length then 2 else 3⟩) ∧ Mine byteE 5 w' (slc0 gA D.length cA) (tear D d.cb)) := by
  have hi : i < L.length := (List.getElem?_eq_some_iff.1 hq).1
  have gs : ∀ (x : Pv), (L.set i x)[i]? = some x := fun x => by rw [List.getElem?_set_self hi]
  obtain ⟨n, hn⟩ : ∃ n : Nat, d.cb = n := ⟨d.cb.toNat, by omega⟩
  have hnD : n ≤ D.length := by omega
  have hcap := hA.cap
  have hcap' : D.length ≤ cA := hcap
  refine runs mix t66 rfl rfl (ε := [pt ba, pt bp, pt bd]) ⟨⟨_, rfl⟩, ⟨_, rfl⟩, ⟨_, rfl⟩, trivial⟩ trivial (by simp [keys]) (by simp [keys]) (by simp [keys]) ?_
  refine den_ldp [ptA g (i * 2)] [ptA g (i * 2)] ⟨⟨_, rfl⟩, trivial⟩ (cellk _ 0 _ rfl) (fun w5 h5 => (hp.keptA (shown_same h5) (fun h => h)).pts) (fun _ _ => by simp [BlkIn]) fun w1 h1 => den_norm (by simp only [List.cons_append, List.nil_append]; rfl) ?_
  refine den_ldp [slc0 gA D.length cA] [slc0 gA D.length cA] ⟨⟨_, _, _, rfl⟩, trivial⟩ (cellk _ 0 _ rfl) (fun w5 h5 => ((ha.keptA (shown_same h1) (fun h => h)).keptA (shown_same h5) (fun h => h)).pts) (fun _ _ => by simp [BlkIn]) fun w2 h2 => den_norm (by simp only [List.cons_append, List.nil_append]; rfl) ?_
  have k2 : Same w w2 := (shown_same h1).trans (shown_same h2)
  have hP2 := hP.same k2
  refine den_notnilP (i := 3) rfl ?_
  refine den_storeE (E := pgE) (T := 78) (off2 := 0) g c L i q ⟨slc0 gA D.length cA, 3⟩ (.agg #[slc0 gA D.length cA, .int .i64 3]) [slc0 gA D.length cA, .int .i64 3] (by kernel_rfl) rfl hq rfl rfl rfl (pg_one ⟨_, 3⟩ ⟨_, _, _, rfl⟩) (by simp [pgE]) (by decide) rfl (fun w3 h3 => hP2.same (shown_same h3)) (fun w3 h3 => ⟨fun hd => (by cases hd), fun _ => .inl rfl, fun hin => by simp [BlkIn, nth, blkOf, vaddr] at hin, fun hx => (by cases hx)⟩) (fun w3 w4 h3 hM4 k34 => ?_)
  have K4 : Kept (fun y => y = g) w w4 := ((k2.trans (shown_same h3)).mono fun _ _ h => h.elim).trans k34
  intro w5 h5
  refine ⟨fun y => y = gA, fun y hy => by simp [BlkIn] at hy, ?_⟩
  have K5 : Kept (fun y => y = g) w w5 := K4.trans ((shown_same h5).mono fun _ _ h => h.elim)
  have ha5 := ha.keptA K5 n1.1
  have hp5 := hp.keptA K5 n2.1
  have hd5 := hd.keptA K5 n3.1
  have hb5 := hb.keptA K5 n4.1
  have hA5 := hA.kept K5 fun y hy e => by have e2 : gA = y := Option.some.inj hy; omega
  have hM5 := hM4.same (shown_same h5)
  refine den_ldpD [pt b] [pt b] ⟨⟨_, rfl⟩, trivial⟩ (cellk _ 0 _ rfl) hd5.pts (fun y hy hx => n3.2 (by have e : bd = y := Option.some.inj hy; omega)) (den_norm (by simp only [List.cons_append, List.nil_append]; rfl) ?_)
  refine den_notnilP (i := 5) rfl ?_
  refine den_ldpD [.int .i64 d.cb] _ ⟨⟨_, rfl⟩, trivial⟩ (cellk _ 8 _ rfl) hb5.pts (fun y hy hx => n4.2 (by have e : b = y := Option.some.inj hy; omega)) (den_norm (by simp only [List.cons_append, List.nil_append]; rfl) ?_)
  refine den_ldpD [slc0 gA D.length cA] [slc0 gA D.length cA] ⟨⟨_, _, _, rfl⟩, trivial⟩ (cellk _ 0 _ rfl) ha5.pts (fun y hy hx => n1.2 (by have e : ba = y := Option.some.inj hy; omega)) (den_norm (by simp only [List.cons_append, List.nil_append]; rfl) ?_)
  rw [hn]
  refine den_splitEq (fun he => ?_) (fun hne => ?_)
  · have hcmp : n = D.length := by have : (n : Int) = (D.length : Int) := he; omega
    rw [if_pos (by rw [hcmp])]
    refine den_ldp [ptA g (i * 2)] [ptA g (i * 2)] ⟨⟨_, rfl⟩, trivial⟩ (cellk _ 0 _ rfl) (fun w5 h5 => (hp5.keptA (shown_same h5) (fun h => h)).pts) (fun _ _ => by simp [BlkIn]) fun w6 h6 => den_norm (by simp only [List.cons_append, List.nil_append]; rfl) ?_
    refine den_notnilP (i := 8) rfl ?_
    have hM6 := hM5.same (shown_same h6)
    refine den_storeE (E := pgE) (T := 78) (off2 := 1) g c (L.set i ⟨slc0 gA D.length cA, 3⟩) i ⟨slc0 gA D.length cA, 3⟩ ⟨slc0 gA D.length cA, 2⟩ (.int .i64 2) [.int .i64 2] (by kernel_rfl) rfl (gs _) rfl rfl rfl (by intro u hu; simp at hu; subst hu; rfl) (by simp [pgE]) (by decide) rfl (fun w3 h3 => by rw [List.length_set]; exact hM6.same (shown_same h3)) (fun w3 h3 => ⟨fun hd => (by cases hd), fun _ => .inl rfl, fun hin => by simp [BlkIn, nth, blkOf, vaddr] at hin, fun hx => (by cases hx)⟩) (fun w7 w8 h7 hM8 k78 => ?_)
    rw [List.length_set, List.set_set] at hM8
    have K8 : Kept (fun y => y = g) w w8 := ((K5.trans ((shown_same h6).mono fun _ _ h => h.elim)).trans ((shown_same h7).mono fun _ _ h => h.elim)).trans k78
    intro wl hl
    refine ⟨fun y => y = gA, fun y hy => by simp [BlkIn] at hy, ?_⟩
    have KL : Kept (fun y => y = g) w wl := K8.trans ((shown_same hl).mono fun _ _ h => h.elim)
    have hML := hM8.same (shown_same hl)
    have hAL := hA.kept KL fun y hy e => by have e2 : gA = y := Option.some.inj hy; omega
    refine den_ldpD [slc0 gA D.length cA] [slc0 gA D.length cA] ⟨⟨_, _, _, rfl⟩, trivial⟩ (cellk _ 0 _ rfl) (ha.keptA KL n1.1).pts (fun y hy hx => n1.2 (by have e : ba = y := Option.some.inj hy; omega)) (den_norm (by simp only [List.cons_append, List.nil_append]; rfl) ?_)
    refine den_ldpD [pt b] [pt b] ⟨⟨_, rfl⟩, trivial⟩ (cellk _ 0 _ rfl) (hd.keptA KL n3.1).pts (fun y hy hx => n3.2 (by have e : bd = y := Option.some.inj hy; omega)) (den_norm (by simp only [List.cons_append, List.nil_append]; rfl) ?_)
    refine den_notnilP (i := 10) rfl ?_
    refine den_ldpD [.int .i64 n] _ ⟨⟨_, rfl⟩, trivial⟩ (cellk _ 8 _ (by rw [← hn]; rfl)) (hb.keptA KL n4.1).pts (fun y hy hx => n4.2 (by have e : b = y := Option.some.inj hy; omega)) (den_norm (by simp only [List.cons_append, List.nil_append]; rfl) ?_)
    refine den_slice (some ⟨gA, 0, none⟩) D.length cA (some (n : Int)) none none n D.length cA 1 u26 st5 (fun ρ h => h.1) (fun ρ h => congrArg some h.2.1) (fun _ _ => rfl) (fun _ _ => rfl) (.inl ⟨rfl, rfl⟩) (.inl ⟨rfl, rfl, rfl⟩) (.inr ⟨rfl, hnD⟩) (fun _ => rfl) (den_norm (by simp only [List.cons_append, List.nil_append]; rfl) ?_)
    have vl : vlen (sliced (some ⟨gA, 0, none⟩) n D.length cA 1) = D.length - n := by simp [sliced, vlen]
    refine den_for (D.length - n) (fun k w9 => Mine pgE 78 w9 (slc0 g L.length c) (L.set i ⟨slc0 gA D.length cA, 2⟩) ∧ Mine byteE 5 w9 (slc0 gA D.length cA) (D.take n ++ List.replicate k 255 ++ D.drop (n + k)) ∧ Kept (fun y => y = g ∨ y = gA) w w9) ⟨rfl, fun w9 h9 => ⟨hML.same (shown_same h9), by simpa using hAL.same (shown_same h9), (KL.mono fun _ _ h => .inl h).trans ((shown_same h9).mono fun _ _ h => h.elim)⟩⟩ ?_
    rintro k w9 hk ⟨hM9, hA9, K9⟩ _ _
    refine den_norm (by simp only [List.cons_append, List.nil_append]; rfl) (den_splitLt (fun hlt => ?_) (fun hge => ?_))
    · have hlt' : k < D.length - n := by
        have : (k : Int) < (vlen (sliced (some ⟨gA, 0, none⟩) n D.length cA 1) : Int) := hlt
        rw [vl] at this
        omega
      intro wm hm
      refine ⟨fun y => y = gA, fun y hy => by simp [BlkIn] at hy, ?_⟩
      have KM : Kept (fun y => y = g ∨ y = gA) w wm := K9.trans ((shown_same hm).mono fun _ _ h => h.elim)
      have no : ∀ {x : Nat}, x ≠ g ∧ x ≠ gA → ¬ (x = g ∨ x = gA) := fun h h' => by omega
      refine den_ldpD [slc0 gA D.length cA] [slc0 gA D.length cA] ⟨⟨_, _, _, rfl⟩, trivial⟩ (cellk _ 0 _ rfl) (ha.keptA KM (no n1)).pts (fun y hy hx => n1.2 (by have e : ba = y := Option.some.inj hy; omega)) (den_norm (by simp only [List.cons_append, List.nil_append]; rfl) ?_)
      refine den_ldpD [pt b] [pt b] ⟨⟨_, rfl⟩, trivial⟩ (cellk _ 0 _ rfl) (hd.keptA KM (no n3)).pts (fun y hy hx => n3.2 (by have e : bd = y := Option.some.inj hy; omega)) (den_norm (by simp only [List.cons_append, List.nil_append]; rfl) ?_)
      refine den_notnilP (i := 15) rfl ?_
      refine den_ldpD [.int .i64 n] _ ⟨⟨_, rfl⟩, trivial⟩ (cellk _ 8 _ (by rw [← hn]; rfl)) (hb.keptA KM (no n4)).pts (fun y hy hx => n4.2 (by have e : b = y := Option.some.inj hy; omega)) (den_norm (by simp only [List.cons_append, List.nil_append]; rfl) ?_)
      have hAm := hA9.same (shown_same hm)
      have hlen : (D.take n ++ List.replicate k 255 ++ D.drop (n + k)).length = D.length := by simp; omega
      obtain ⟨x, hx⟩ : ∃ x, (D.take n ++ List.replicate k 255 ++ D.drop (n + k))[n + k]? = some x := ⟨_, List.getElem?_eq_getElem (by rw [hlen]; omega)⟩
      refine den_ob64 ⟨by simp only [IE.den, nth, vint]; omega, by simp only [IE.den, nth, vint]; omega⟩ ?_
      refine den_obs (E := byteE) (L := D.take n ++ List.replicate k 255 ++ D.drop (n + k)) (w0 := wm) (n + k) hAm.arr (by decide) (by simp [IE.den, nth, vint]) (by rw [hlen]; omega) ?_
      refine den_storeM (E := byteE) (T := 5) (slc0 gA D.length cA) (D.take n ++ List.replicate k 255 ++ D.drop (n + k)) (n + k) x 255 (.int .u8 255) [.int .u8 255] (by kernel_rfl) rfl rfl (by simp [IE.den, nth, vint]) hx rfl rfl rfl (by intro u hu; simp at hu; subst hu; rfl) (by simp [byteE]) (by decide) rfl (fun w3 h3 => hAm.same (shown_same h3)) (fun w3 h3 y hy => ?_) ⟨wm, hAm⟩ (fun w10 w11 h10 hA11 k11 => ?_)
      · have e : gA = y := Option.some.inj hy
        exact ⟨fun _ => e.symm, fun _ => .inr e.symm, fun hin => by simp [BlkIn, nth, blkOf, vaddr] at hin, fun hx => (by cases hx)⟩
      rw [tear_step D n k (by omega)] at hA11
      have hM11 := ((hM9.same (shown_same hm)).same (shown_same h10)).kept k11 fun y hy e => by have e2 : g = y := Option.some.inj hy; have e3 : gA = y := Option.some.inj e; omega
      have K11 : Kept (fun y => y = g ∨ y = gA) w w11 := (KM.trans ((shown_same h10).mono fun _ _ h => h.elim)).trans (k11.mono fun y _ e => .inr (by have e3 : gA = y := Option.some.inj e; exact e3.symm))
      refine den_ob64 ⟨by simp only [IE.den, nth, vint]; omega, by simp only [IE.den, nth, vint]; omega⟩ (den_next rfl hlt' fun w12 h12 => ⟨hM11.same (shown_same h12), hA11.same (shown_same h12), K11.trans ((shown_same h12).mono fun _ _ h => h.elim)⟩)
    · have ek : k = D.length - n := by
        have : (vlen (sliced (some ⟨gA, 0, none⟩) n D.length cA 1) : Int) ≤ (k : Int) := hge
        rw [vl] at this
        omega
      subst ek
      refine den_leaf' fun w10 h10 => (if_neg (by decide)).mpr ⟨_, rfl, ⟨rfl, hM9.same (shown_same h10), ?_⟩, h10.base⟩
      have e : tear D (n : Int) = D.take n ++ List.replicate (D.length - n) 255 ++ D.drop (n + (D.length - n)) := by
        rw [List.drop_of_length_le (by omega), List.append_nil]
        simp [tear]
      rw [e]
      exact hA9.same (shown_same h10)
  · have hcmp : n ≠ D.length := by have : (n : Int) ≠ (D.length : Int) := hne; omega
    rw [if_neg (by omega)]
    have hM8 := hM5
    have K8 := K5
    intro wl hl
    refine ⟨fun y => y = gA, fun y hy => by simp [BlkIn] at hy, ?_⟩
    have KL : Kept (fun y => y = g) w wl := K8.trans ((shown_same hl).mono fun _ _ h => h.elim)
    have hML := hM8.same (shown_same hl)
    have hAL := hA.kept KL fun y hy e => by have e2 : gA = y := Option.some.inj hy; omega
    refine den_ldpD [slc0 gA D.length cA] [slc0 gA D.length cA] ⟨⟨_, _, _, rfl⟩, trivial⟩ (cellk _ 0 _ rfl) (ha.keptA KL n1.1).pts (fun y hy hx => n1.2 (by have e : ba = y := Option.some.inj hy; omega)) (den_norm (by simp only [List.cons_append, List.nil_append]; rfl) ?_)
    refine den_ldpD [pt b] [pt b] ⟨⟨_, rfl⟩, trivial⟩ (cellk _ 0 _ rfl) (hd.keptA KL n3.1).pts (fun y hy hx => n3.2 (by have e : bd = y := Option.some.inj hy; omega)) (den_norm (by simp only [List.cons_append, List.nil_append]; rfl) ?_)
    refine den_notnilP (i := 9) rfl ?_
    refine den_ldpD [.int .i64 n] _ ⟨⟨_, rfl⟩, trivial⟩ (cellk _ 8 _ (by rw [← hn]; rfl)) (hb.keptA KL n4.1).pts (fun y hy hx => n4.2 (by have e : b = y := Option.some.inj hy; omega)) (den_norm (by simp only [List.cons_append, List.nil_append]; rfl) ?_)
    refine den_slice (some ⟨gA, 0, none⟩) D.length cA (some (n : Int)) none none n D.length cA 1 u26 st5 (fun ρ h => h.1) (fun ρ h => congrArg some h.2.1) (fun _ _ => rfl) (fun _ _ => rfl) (.inl ⟨rfl, rfl⟩) (.inl ⟨rfl, rfl, rfl⟩) (.inr ⟨rfl, hnD⟩) (fun _ => rfl) (den_norm (by simp only [List.cons_append, List.nil_append]; rfl) ?_)
    have vl : vlen (sliced (some ⟨gA, 0, none⟩) n D.length cA 1) = D.length - n := by simp [sliced, vlen]
    refine den_for (D.length - n) (fun k w9 => Mine pgE 78 w9 (slc0 g L.length c) (L.set i ⟨slc0 gA D.length cA, 3⟩) ∧ Mine byteE 5 w9 (slc0 gA D.length cA) (D.take n ++ List.replicate k 255 ++ D.drop (n + k)) ∧ Kept (fun y => y = g ∨ y = gA) w w9) ⟨rfl, fun w9 h9 => ⟨hML.same (shown_same h9), by simpa using hAL.same (shown_same h9), (KL.mono fun _ _ h => .inl h).trans ((shown_same h9).mono fun _ _ h => h.elim)⟩⟩ ?_
    rintro k w9 hk ⟨hM9, hA9, K9⟩ _ _
    refine den_norm (by simp only [List.cons_append, List.nil_append]; rfl) (den_splitLt (fun hlt => ?_) (fun hge => ?_))
    · have hlt' : k < D.length - n := by
        have : (k : Int) < (vlen (sliced (some ⟨gA, 0, none⟩) n D.length cA 1) : Int) := hlt
        rw [vl] at this
        omega
      intro wm hm
      refine ⟨fun y => y = gA, fun y hy => by simp [BlkIn] at hy, ?_⟩
      have KM : Kept (fun y => y = g ∨ y = gA) w wm := K9.trans ((shown_same hm).mono fun _ _ h => h.elim)
      have no : ∀ {x : Nat}, x ≠ g ∧ x ≠ gA → ¬ (x = g ∨ x = gA) := fun h h' => by omega
      refine den_ldpD [slc0 gA D.length cA] [slc0 gA D.length cA] ⟨⟨_, _, _, rfl⟩, trivial⟩ (cellk _ 0 _ rfl) (ha.keptA KM (no n1)).pts (fun y hy hx => n1.2 (by have e : ba = y := Option.some.inj hy; omega)) (den_norm (by simp only [List.cons_append, List.nil_append]; rfl) ?_)
      refine den_ldpD [pt b] [pt b] ⟨⟨_, rfl⟩, trivial⟩ (cellk _ 0 _ rfl) (hd.keptA KM (no n3)).pts (fun y hy hx => n3.2 (by have e : bd = y := Option.some.inj hy; omega)) (den_norm (by simp only [List.cons_append, List.nil_append]; rfl) ?_)
      refine den_notnilP (i := 14) rfl ?_
      refine den_ldpD [.int .i64 n] _ ⟨⟨_, rfl⟩, trivial⟩ (cellk _ 8 _ (by rw [← hn]; rfl)) (hb.keptA KM (no n4)).pts (fun y hy hx => n4.2 (by have e : b = y := Option.some.inj hy; omega)) (den_norm (by simp only [List.cons_append, List.nil_append]; rfl) ?_)
      have hAm := hA9.same (shown_same hm)
      have hlen : (D.take n ++ List.replicate k 255 ++ D.drop (n + k)).length = D.length := by simp; omega
      obtain ⟨x, hx⟩ : ∃ x, (D.take n ++ List.replicate k 255 ++ D.drop (n + k))[n + k]? = some x := ⟨_, List.getElem?_eq_getElem (by rw [hlen]; omega)⟩
      refine den_ob64 ⟨by simp only [IE.den, nth, vint]; omega, by simp only [IE.den, nth, vint]; omega⟩ ?_
      refine den_obs (E := byteE) (L := D.take n ++ List.replicate k 255 ++ D.drop (n + k)) (w0 := wm) (n + k) hAm.arr (by decide) (by simp [IE.den, nth, vint]) (by rw [hlen]; omega) ?_
      refine den_storeM (E := byteE) (T := 5) (slc0 gA D.length cA) (D.take n ++ List.replicate k 255 ++ D.drop (n + k)) (n + k) x 255 (.int .u8 255) [.int .u8 255] (by kernel_rfl) rfl rfl (by simp [IE.den, nth, vint]) hx rfl rfl rfl (by intro u hu; simp at hu; subst hu; rfl) (by simp [byteE]) (by decide) rfl (fun w3 h3 => hAm.same (shown_same h3)) (fun w3 h3 y hy => ?_) ⟨wm, hAm⟩ (fun w10 w11 h10 hA11 k11 => ?_)
      · have e : gA = y := Option.some.inj hy
        exact ⟨fun _ => e.symm, fun _ => .inr e.symm, fun hin => by simp [BlkIn, nth, blkOf, vaddr] at hin, fun hx => (by cases hx)⟩
      rw [tear_step D n k (by omega)] at hA11
      have hM11 := ((hM9.same (shown_same hm)).same (shown_same h10)).kept k11 fun y hy e => by have e2 : g = y := Option.some.inj hy; have e3 : gA = y := Option.some.inj e; omega
      have K11 : Kept (fun y => y = g ∨ y = gA) w w11 := (KM.trans ((shown_same h10).mono fun _ _ h => h.elim)).trans (k11.mono fun y _ e => .inr (by have e3 : gA = y := Option.some.inj e; exact e3.symm))
      refine den_ob64 ⟨by simp only [IE.den, nth, vint]; omega, by simp only [IE.den, nth, vint]; omega⟩ (den_next rfl hlt' fun w12 h12 => ⟨hM11.same (shown_same h12), hA11.same (shown_same h12), K11.trans ((shown_same h12).mono fun _ _ h => h.elim)⟩)
    · have ek : k = D.length - n := by
        have : (vlen (sliced (some ⟨gA, 0, none⟩) n D.length cA 1) : Int) ≤ (k : Int) := hge
        rw [vl] at this
        omega
      subst ek
      refine den_leaf' fun w10 h10 => (if_neg (by decide)).mpr ⟨_, rfl, ⟨rfl, hM9.same (shown_same h10), ?_⟩, h10.base⟩
      have e : tear D (n : Int) = D.take n ++ List.replicate (D.length - n) 255 ++ D.drop (n + (D.length - n)) := by
        rw [List.drop_of_length_le (by omega), List.append_nil]
        simp [tear]
      rw [e]
      exact hA9.same (shown_same h10)
/-- the pages of the block are new -/
theorem c6x (f : Nat) (st : Int) (hf : (f = 68 ∧ st = 5) ∨ (f = 69 ∧ st = 1)) (b3 b2 g j c np : Nat) (v : Bv) (Lb : List Bv) (w : World) (hM : Mine blE 81 w (slc0 g Lb.length c) Lb) (hv : Lb[j]? = some v) (hsl : ∃ a n c, v.s = .slice a n c) (hp : HasBlk w (pt b3) [ptA g (j * 3)]) (hd : HasBlk w (pt b2) [pt b]) (hb : HasBlk w (pt b) (devC d mf sB)) (hnp : d.g.p = np) (h600 : np ≤ 600) (n3 : b3 ≠ g) (n2 : b2 ≠ g) (n1 : b ≠ g) :
    Runs Try.prog f [pt b3, pt b2] w (fun y => y = g) (fun r w' => r = .tuple #[] ∧ ∃ gp, w.heap.size ≤ gp ∧ Mine blE 81 w' (slc0 g Lb.length c) (Lb.set j ⟨slc0 gp np np, if st = 1 then 0 else np, v.er⟩) ∧ Mine pgE 78 w' (slc0 gp np np) (List.replicate np ⟨.slice none 0 0, st⟩)) := by
  rcases hf with ⟨rfl, rfl⟩ | ⟨rfl, rfl⟩
  · refine runs mix t68 rfl rfl (ε := [pt b3, pt b2]) ⟨⟨_, rfl⟩, ⟨_, rfl⟩, trivial⟩ trivial (by simp [keys]) (by simp [keys]) (by simp [keys]) ?_
    intro w1 h1
    refine ⟨fun y => y = g, fun y hy => by simp [BlkIn] at hy, ?_⟩
    have k1 := shown_same h1
    refine den_ldpD [ptA g (j * 3)] [ptA g (j * 3)] ⟨⟨_, rfl⟩, trivial⟩ (cellk _ 0 _ rfl) (hp.keptA k1 fun h => h).pts (fun y hy hx => n3 (by have e : b3 = y := Option.some.inj hy; omega)) (den_norm (by simp only [List.cons_append, List.nil_append]; rfl) ?_)
    refine den_ldpD [pt b] [pt b] ⟨⟨_, rfl⟩, trivial⟩ (cellk _ 0 _ rfl) (hd.keptA k1 fun h => h).pts (fun y hy hx => n2 (by have e : b2 = y := Option.some.inj hy; omega)) (den_norm (by simp only [List.cons_append, List.nil_append]; rfl) ?_)
    refine den_notnilP (i := 3) rfl ?_
    refine den_ldpD [.int .i64 np] _ ⟨⟨_, rfl⟩, trivial⟩ (cellk _ 1 _ (by rw [← hnp]; rfl)) (hb.keptA k1 fun h => h).pts (fun y hy hx => n1 (by have e : b = y := Option.some.inj hy; omega)) (den_norm (by simp only [List.cons_append, List.nil_append]; rfl) ?_)
    refine den_callM (fun _ y => y = g) (fun w2 l w3 => l = [] ∧ ∃ gp, w2.heap.size ≤ gp ∧ Mine blE 81 w3 (slc0 g Lb.length c) (Lb.set j ⟨slc0 gp np np, if (5 : Int) = 1 then 0 else np, v.er⟩) ∧ Mine pgE 78 w3 (slc0 gp np np) (List.replicate np ⟨.slice none 0 0, 5⟩)) (fun w2 h2 y hy hlt => ⟨fun _ => hy, fun _ => hy, fun hin => by simp [BlkIn, nth, blkOf, vaddr] at hin, fun hx => (by cases hx)⟩) (fun w2 h2 => ?_) (fun w2 l w3 h2 hfl hR k3 => ?_)
    · exact (c58 g j c np Lb v 5 w2 ((hM.same k1).same (shown_same h2)) hv h600 hsl).mono (fun r w' hr _ => ⟨[], trivial, hr.1, ⟨rfl, hr.2⟩, trivial⟩) (fun _ _ h => h)
    obtain ⟨rfl, gp, q1, q2, q3⟩ := hR
    have z2 : w.heap.size ≤ w2.heap.size := Nat.le_trans k1.size h2.kept.size
    exact den_norm (by simp only [List.cons_append, List.nil_append]; rfl) (den_leafA _ rfl fun w4 h4 => ⟨rfl, gp, by omega, q2.same (shown_same h4), q3.same (shown_same h4)⟩)
  · refine runs mix t69 rfl rfl (ε := [pt b3, pt b2]) ⟨⟨_, rfl⟩, ⟨_, rfl⟩, trivial⟩ trivial (by simp [keys]) (by simp [keys]) (by simp [keys]) ?_
    intro w1 h1
    refine ⟨fun y => y = g, fun y hy => by simp [BlkIn] at hy, ?_⟩
    have k1 := shown_same h1
    refine den_ldpD [ptA g (j * 3)] [ptA g (j * 3)] ⟨⟨_, rfl⟩, trivial⟩ (cellk _ 0 _ rfl) (hp.keptA k1 fun h => h).pts (fun y hy hx => n3 (by have e : b3 = y := Option.some.inj hy; omega)) (den_norm (by simp only [List.cons_append, List.nil_append]; rfl) ?_)
    refine den_ldpD [pt b] [pt b] ⟨⟨_, rfl⟩, trivial⟩ (cellk _ 0 _ rfl) (hd.keptA k1 fun h => h).pts (fun y hy hx => n2 (by have e : b2 = y := Option.some.inj hy; omega)) (den_norm (by simp only [List.cons_append, List.nil_append]; rfl) ?_)
    refine den_notnilP (i := 3) rfl ?_
    refine den_ldpD [.int .i64 np] _ ⟨⟨_, rfl⟩, trivial⟩ (cellk _ 1 _ (by rw [← hnp]; rfl)) (hb.keptA k1 fun h => h).pts (fun y hy hx => n1 (by have e : b = y := Option.some.inj hy; omega)) (den_norm (by simp only [List.cons_append, List.nil_append]; rfl) ?_)
    refine den_callM (fun _ y => y = g) (fun w2 l w3 => l = [] ∧ ∃ gp, w2.heap.size ≤ gp ∧ Mine blE 81 w3 (slc0 g Lb.length c) (Lb.set j ⟨slc0 gp np np, if (1 : Int) = 1 then 0 else np, v.er⟩) ∧ Mine pgE 78 w3 (slc0 gp np np) (List.replicate np ⟨.slice none 0 0, 1⟩)) (fun w2 h2 y hy hlt => ⟨fun _ => hy, fun _ => hy, fun hin => by simp [BlkIn, nth, blkOf, vaddr] at hin, fun hx => (by cases hx)⟩) (fun w2 h2 => ?_) (fun w2 l w3 h2 hfl hR k3 => ?_)
    · exact (c58 g j c np Lb v 1 w2 ((hM.same k1).same (shown_same h2)) hv h600 hsl).mono (fun r w' hr _ => ⟨[], trivial, hr.1, ⟨rfl, hr.2⟩, trivial⟩) (fun _ _ h => h)
    obtain ⟨rfl, gp, q1, q2, q3⟩ := hR
    have z2 : w.heap.size ≤ w2.heap.size := Nat.le_trans k1.size h2.kept.size
    exact den_norm (by simp only [List.cons_append, List.nil_append]; rfl) (den_leafA _ rfl fun w4 h4 => ⟨rfl, gp, by omega, q2.same (shown_same h4), q3.same (shown_same h4)⟩)
end
end Go.Proofs.Ytppbapnibpeolaa
