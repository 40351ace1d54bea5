/- The law FlashHolds. No conditions beyond those that each theorem names. -/
import Derived.Test.YtppbapnibpeolaaV
import Derived.Test.YtppbapnibpeolaaTF
set_option maxRecDepth 100000
set_option maxHeartbeats 4000000
set_option linter.unusedVariables false
set_option linter.unusedSimpArgs false
namespace Go.Proofs.Ytppbapnibpeolaa
open Go.Sx

structure HSt (w0 w : World) (b gk nb mf : Nat) (sB : Value) (g : Geo) (Q : Nat → Prop) (j : Nat) (S : Nat → Prop) (d : Dv) (KA : List (List Ac)) : Prop where
  dev : ∃ T Lb, DevM w S T b mf sB Lb d ∧ T gk
  wf : Wf d
  num : d.n ≤ j
  geo : d.g = g
  fresh : ∀ y, S y → w0.heap.size ≤ y
  ngk : ¬ S gk
  gk0 : w0.heap.size ≤ gk
  kp : ∃ Kv KL, KpAt w0 w (fun y => S y ∨ Q y) gk nb Kv KL KA
  ok : KOk d KA
  le : ∀ (B : Nat) la, KA[B]? = some la → la.length ≤ j
section
variable {w0 w w' : World} {b gk nb mf : Nat} {sB : Value} {g : Geo} {j : Nat} {S Q Q' : Nat → Prop} {d d' : Dv} {KA : List (List Ac)}
theorem HSt.same (h : HSt w0 w b gk nb mf sB g Q j S d KA) (hk : Same w w') : HSt w0 w' b gk nb mf sB g Q j S d KA :=
  ⟨let ⟨T, Lb, h1, h2⟩ := h.dev; ⟨T, Lb, h1.same hk, h2⟩, h.wf, h.num, h.geo, h.fresh, h.ngk, h.gk0, let ⟨Kv, KL, h1⟩ := h.kp; ⟨Kv, KL, h1.same hk⟩, h.ok, h.le⟩
theorem HSt.more (h : HSt w0 w b gk nb mf sB g Q j S d KA) : HSt w0 w b gk nb mf sB g Q (j + 1) S d KA :=
  ⟨h.dev, h.wf, by have := h.num; omega, h.geo, h.fresh, h.ngk, h.gk0, h.kp, h.ok, fun B la hb => by have := h.le B la hb; omega⟩
theorem HSt.q (h : HSt w0 w b gk nb mf sB g Q j S d KA) (hq : ∀ y, y < w.heap.size → Q' y → Q y) : HSt w0 w b gk nb mf sB g Q' j S d KA :=
  ⟨h.dev, h.wf, h.num, h.geo, h.fresh, h.ngk, h.gk0, let ⟨Kv, KL, h1⟩ := h.kp; ⟨Kv, KL, h1.weak fun y hy e => e.imp_right (hq y hy)⟩, h.ok, h.le⟩
/-- the device turns, what is kept stays -/
theorem HSt.turn (h : HSt w0 w b gk nb mf sB g Q j S d KA) (hk : Kept S w w') (hd : ∃ T Lb, DevM w' S T b mf sB Lb d' ∧ T gk) (hw : Wf d') (hn : d'.n ≤ (j : Int) + 1) (hg : d'.g = d.g) (ok : KOk d' KA) : HSt w0 w' b gk nb mf sB g Q (j + 1) S d' KA :=
  ⟨hd, hw, by push_cast; exact hn, by rw [hg]; exact h.geo, h.fresh, h.ngk, h.gk0, let ⟨Kv, KL, h1⟩ := h.kp; ⟨Kv, KL, h1.kept hk h.ngk fun y _ hs _ e => hs (.inl e)⟩, ok, fun B la hb => by have := h.le B la hb; omega⟩
end
theorem av_val (v : Av) : Value.agg v.cells.toArray = .agg #[.int .i64 v.wh, .int .i64 v.bl, .int .i64 v.pg, v.sd, v.ss] := rfl
theorem c5 (g : Geo) (v1 : Value) (F : List Int) (v2 : Value) (L : List Av) (A : List Ac) (w : World) (hF : Given intE w v1 F) (hL : Given avE w v2 L) (hA : AvsAt w.heap.size w L A) (hFl : F.length < 9223372036854775808) (hAl : A.length < 9223372036854775808) : Gives Try.prog 5 [g.v, v1, v2] w (.bool true) := by
  obtain ⟨fa, fc, rfl⟩ := hF.1.slice
  obtain ⟨la, lc, rfl⟩ := hL.1.slice
  have hLA := hA.len
  refine gives mix t5 rfl rfl (ε := [.int .i64 g.b, .int .i64 g.p, .int .i64 g.s, .int .i64 g.e, .slice fa F.length fc, .slice la L.length lc]) ⟨⟨_, rfl⟩, ⟨_, rfl⟩, ⟨_, rfl⟩, ⟨_, rfl⟩, ⟨_, _, _, rfl⟩, ⟨_, _, _, rfl⟩, trivial⟩ (den_blk fun b6 k6 _ _ => den_norm (by simp only [List.cons_append, List.nil_append]; rfl) ?_)
  have z6 : w.heap.size ≤ b6 := k6
  refine den_call_bool (b := smallG g) (fun w1 h1 => c8 g w1) rfl (fun w1 w2 h1 h12 => den_norm (by simp only [List.cons_append, List.nil_append]; rfl) (den_splitNot (fun hb => ?_) (fun hb => ?_)))
  · exact den_call_bool (b := true) (fun wa _ => c11 wa) rfl (fun _ _ _ _ => den_norm (by simp only [List.cons_append, List.nil_append]; rfl) (den_leaf rfl))
  have hsm : smallG g = true := hb
  refine den_splitLt (fun h20 => ?_) (fun h20 => ?_)
  · exact den_call_bool (b := true) (fun wa _ => c11 wa) rfl (fun _ _ _ _ => den_norm (by simp only [List.cons_append, List.nil_append]; rfl) (den_leaf rfl))
  have h20' : (F.length : Int) ≤ 20 := h20
  refine den_call_bool (b := fewB A 40) (fun w3 h3 => c9 _ L A 40 w3 (hL.1.same h3.base) (hA.same h3.base) hAl) rfl (fun w3 w4 h3 h34 => den_norm (by simp only [List.cons_append, List.nil_append]; rfl) (den_splitNot (fun hb => ?_) (fun hb => ?_)))
  · exact den_call_bool (b := true) (fun wa _ => c11 wa) rfl (fun _ _ _ _ => den_norm (by simp only [List.cons_append, List.nil_append]; rfl) (den_leaf rfl))
  have hfew : fewB A 40 = true := hb
  have hA40 : A.length ≤ 40 ∧ ∀ x ∈ A, okA x = true := by
    simp only [fewB, Bool.and_eq_true, decide_eq_true_eq, List.all_eq_true] at hfew
    exact ⟨by omega, hfew.2⟩
  refine den_callR (fun w5 l w6 => (l = [.pointer none, .int .i64 2]) ∨ (okG g = true ∧ ∃ b mf sB Lb, l = [pt b, .int .i64 0] ∧ DevM w6 (fun y => w5.heap.size ≤ y ∧ y < w6.heap.size) (fun y => w5.heap.size ≤ y ∧ y < w6.heap.size) b mf sB Lb (newDv g (inF F)))) (fun w5 h5 => ?_) (fun w5 l w6 h5 hfl hR k56 => ?_)
  · refine (c29 g _ F w5 (hF.same h5.base) (by omega) hsm).mono fun v w' h => ?_
    rcases h with ⟨_, e⟩ | ⟨q1, q2, b, mf, sB, Lb, e, hD⟩
    · exact ⟨[.pointer none, .int .i64 2], ⟨⟨_, rfl⟩, ⟨_, rfl⟩, trivial⟩, e, .inl rfl⟩
    · exact ⟨[pt b, .int .i64 0], ⟨⟨_, rfl⟩, ⟨_, rfl⟩, trivial⟩, e, .inr ⟨q1, b, mf, sB, Lb, rfl, hD⟩⟩
  rcases hR with rfl | ⟨hok, b, mf, sB, Lb, rfl, hD⟩
  · refine den_norm (by simp only [List.cons_append, List.nil_append]; rfl) (den_m18 rfl 2 rfl (fun _ => rfl) (fun wa wb ha hab => den_norm (by simp only [List.cons_append, List.nil_append]; rfl) (den_split_true rfl ?_)))
    exact den_call_bool (b := true) (fun wa _ => c11 wa) rfl (fun _ _ _ _ => den_norm (by simp only [List.cons_append, List.nil_append]; rfl) (den_leaf rfl))
  refine den_norm (by simp only [List.cons_append, List.nil_append]; rfl) (den_m18 rfl 0 rfl (fun _ => rfl) (fun w7 w8 h7 h78 => den_norm (by simp only [List.cons_append, List.nil_append]; rfl) (den_split_false rfl ?_)))
  have bnd := of_decide_eq_true hok
  have sm : g.b ≤ 8 ∧ g.p ≤ 8 ∧ g.s ≤ 40 := by simpa [smallG, hok] using hsm
  obtain ⟨nb, hnb⟩ : ∃ n : Nat, g.b = n := ⟨g.b.toNat, by omega⟩
  refine den_make (n := nb) u67 i25 z25 hnb hnb (by have := by25; have := Nat.mul_le_mul_right nb this; omega) (by omega) (fun v => rfl) (fun w9 gk w10 h9 hgk hh s910 => den_norm (by simp only [List.cons_append, List.nil_append]; rfl) ?_)
  have l6 : b6 < w5.heap.size := h5.lt (i := 6) (by simp [keys]) rfl
  have z5 : w.heap.size ≤ w5.heap.size := h5.base.size
  have z56 : w5.heap.size ≤ w6.heap.size := k56.size
  have s610 : Same w6 w10 := (((shown_same h7).trans h78).trans (shown_same h9)).trans s910
  have s69 : Same w6 w9 := ((shown_same h7).trans h78).trans (shown_same h9)
  have z69 : w6.heap.size ≤ w9.heap.size := s69.size
  have hM10 : Mine slE 25 w10 (slc0 gk nb nb) (List.replicate nb nilS) := mine_made (E := slE) (T := 25) nilS _ rfl (by decide) s25 (by omega) hh
  have lgk : gk < w10.heap.size := hM10.lt rfl
  have n6gk : b6 ≠ gk := by omega
  have hnew : newDv g (inF F) = newDv g (inF F) := rfl
  have D10 : DevM w10 (fun y => w5.heap.size ≤ y ∧ y < w6.heap.size) (fun y => (w5.heap.size ≤ y ∧ y < w6.heap.size) ∨ y = gk) b mf sB Lb (newDv g (inF F)) := hD.later s610 (fun _ _ h => h) (fun y hy => .inl hy) (fun y hy hy2 => hy2.resolve_right (by omega)) (fun y hy => by
    have := s610.size
    rcases hy with hy | rfl
    · omega
    · exact lgk)
  have H10 : HSt w w10 b gk nb mf sB g (fun y => y = b6) 0 (fun y => w5.heap.size ≤ y ∧ y < w6.heap.size) (newDv g (inF F)) (List.replicate nb []) := by
    refine ⟨⟨_, Lb, D10, .inr rfl⟩, Wf.new g _ bnd.1 sm.1 bnd.2.2.1 sm.2.1 bnd.2.2.2.2.1 sm.2.2 bnd.2.2.2.2.2.2.1 bnd.2.2.2.2.2.2.2, by simp [newDv], rfl, fun y hy => Nat.le_trans z5 hy.1, fun hs => by omega, by omega, ⟨List.replicate nb nilS, List.replicate nb [], ⟨hM10, by simp, by simp, by simp, fun B v L' A' hv hL' hA' => ?_⟩⟩, ⟨fun B la y h1 h2 => ?_⟩, fun B la h1 => ?_⟩
    · have e1 := (List.mem_replicate.1 (List.mem_of_getElem? hv)).2
      have e2 := (List.mem_replicate.1 (List.mem_of_getElem? hL')).2
      have e3 := (List.mem_replicate.1 (List.mem_of_getElem? hA')).2
      subst e1 e2 e3
      exact ⟨Mine.nil, ⟨rfl, fun i v a h => by simp at h⟩, fun y hy => by cases hy⟩
    · have e3 := (List.mem_replicate.1 (List.mem_of_getElem? h1)).2
      subst e3
      cases h2
    · have e3 := (List.mem_replicate.1 (List.mem_of_getElem? h1)).2
      subst e3
      simp
  refine den_for L.length (fun j w' => ∃ S d KA, HSt w w' b gk nb mf sB g (fun y => y = b6) j S d KA ∧ ¬ S b6) ⟨rfl, fun wa ha => ⟨_, _, _, H10.same (shown_same ha), fun hs => by omega⟩⟩ ?_
  rintro j w11 hj ⟨S, d, KA, H, n6⟩ hk11 hfa11
  refine den_norm (by simp only [List.cons_append, List.nil_append]; rfl) (den_splitLt (fun hlt => ?_) (fun hge => ?_))
  rotate_left
  · exact den_call_bool (b := true) (fun wa _ => c11 wa) rfl (fun _ _ _ _ => den_norm (by simp only [List.cons_append, List.nil_append]; rfl) (den_leaf_ne (by decide) (den_leaf rfl)))
  have hlt' : j < L.length := by have : (j : Int) < (L.length : Int) := hlt; omega
  obtain ⟨v, hv⟩ : ∃ v, L[j]? = some v := ⟨_, List.getElem?_eq_getElem hlt'⟩
  obtain ⟨a, ha⟩ : ∃ a, A[j]? = some a := ⟨_, List.getElem?_eq_getElem (by omega)⟩
  have hva := hA.at_ j v a hv ha
  have hoa := hA40.2 a (List.mem_of_getElem? ha)
  obtain ⟨da, dc, ed⟩ := hva.d.src.1.slice
  obtain ⟨sa, sc, es⟩ := hva.s.src.1.slice
  have hL11 := hL.same hk11
  refine den_idx2 (E := avE) (L := L) v j [.int .i64 v.wh, .int .i64 v.bl, .int .i64 v.pg, .slice da a.D.length dc, .slice sa a.Sp.length sc] hL11.1 rfl (by decide) rfl hv ⟨⟨_, rfl⟩, ⟨_, rfl⟩, ⟨_, rfl⟩, ⟨_, _, _, rfl⟩, ⟨_, _, _, rfl⟩, trivial⟩ (fun m u hu => by simp only [avE, Av.cells, ed, es]; simpa using hu) (fun wa h => (hL11.same (shown_same h)).1) (fun ad had hin => ?_) (fun w12 h12 => den_norm (by simp only [List.cons_append, List.nil_append]; rfl) (den_blk fun b19 k19 _ _ => den_norm (by simp only [List.cons_append, List.nil_append]; rfl) ?_))
  · simp [BlkIn, nth, blkOf, vaddr] at hin
  obtain ⟨hoD, hoS⟩ : a.D.length ≤ 100 ∧ a.Sp.length ≤ 100 := by simpa [okA] using hoa
  have z19 : w12.heap.size ≤ b19 := k19
  have H12 : HSt w w12 b gk nb mf sB g (fun y => y = b6 ∨ y = b19) j S d KA := (H.same (shown_same h12)).q fun y hy e => e.resolve_right (by omega)
  have n19gk : b19 ≠ gk := by
    obtain ⟨T, Lb, h1, h2⟩ := H12.dev
    have := h1.lt _ h2
    omega
  have nS : ∀ {y}, S y → y < w12.heap.size := fun {y} hy => by
    obtain ⟨T, Lb, h1, _⟩ := H12.dev
    exact h1.lt _ (h1.ST _ hy)
  have n19 : ¬ S b19 := fun hs => by have := nS hs; omega
  refine den_m25 rfl d.n rfl rfl (fun _ => rfl) (sB := sB) (S := S) (T := H12.dev.choose) (mf := mf) (Lb := H12.dev.choose_spec.choose) (fun wa ha => H12.dev.choose_spec.choose_spec.1.same (shown_new ha fun y hy => by simp [BlkIn, nth, blkOf, vaddr] at hy; omega)) H.wf (fun w13 w14 h13 h1314 => den_norm (by simp only [List.cons_append, List.nil_append]; rfl) ?_)
  have s1214 : Same w12 w14 := (shown_new h13 fun y hy => by simp [BlkIn, nth, blkOf, vaddr] at hy; omega).trans h1314
  have H14 := H12.same s1214
  have l19 : b19 < w13.heap.size := h13.lt (i := 19) (by simp [keys]) rfl
  have zw14 : w.heap.size ≤ w14.heap.size := by
    have q1 : w.heap.size ≤ w11.heap.size := hk11.size
    have := (shown_same h12).size
    have := s1214.size
    omega
  refine den_cut (fun l w' => l = [] ∧ ∃ S d KA, HSt w w' b gk nb mf sB g (fun y => y = b6 ∨ y = b19) (j + 1) S d KA ∧ ¬ S b6 ∧ ¬ S b19) ?_ ?_
  · refine den_cut (fun l w' => (∃ r, l = [.bool r]) ∧ Same w14 w') ?_ ?_
    · refine den_split (fun _ => den_leaf_eq fun wa ha => ⟨⟨_, rfl⟩, shown_same ha⟩) (fun _ => den_split (fun _ => den_leaf_eq fun wa ha => ⟨⟨_, rfl⟩, shown_same ha⟩) (fun _ => den_split (fun _ => den_leaf_eq fun wa ha => ⟨⟨_, rfl⟩, shown_same ha⟩) (fun _ => den_leaf_eq fun wa ha => ⟨⟨_, rfl⟩, shown_same ha⟩)))
    rintro l w15 hfl ⟨⟨r, rfl⟩, s1415⟩ hk15 hfa15
    have H15 := H14.same s1415
    obtain ⟨T, Lb15, D15, Tgk⟩ := H15.dev
    have hn : d.n ≤ 1000000000 := by have := H.num; omega
    have l19' : b19 < w15.heap.size := by have := s1415.size; have := h1314.size; omega
    have gd : ∀ {wa : World}, Same w wa → Src wa (.slice da a.D.length dc) a.D := fun hs => by have := (hva.d.same hs).src; rw [ed] at this; exact this
    have gs : ∀ {wa : World}, Same w wa → Src wa (.slice sa a.Sp.length sc) a.Sp := fun hs => by have := (hva.s.same hs).src; rw [es] at this; exact this
    refine den_norm (by simp only [List.cons_append, List.nil_append]; rfl) (den_split (fun _ => ?_) (fun _ => ?_))
    · refine den_m19 rfl v.bl v.pg _ _ a.D a.Sp (d.prgE v.bl v.pg a.D a.Sp) (d.prgD v.bl v.pg a.D a.Sp) rfl (fun _ => rfl) (fun wa ha => D15.same (shown_same ha)) H.wf (fun wa ha => gd ha.base) (fun wa ha => gs ha.base) hn (by omega) (by omega) rfl rfl (fpS H.fresh ?_) (fun w16 w17 Lb17 h16 hk1617 D17 => den_norm (by simp only [List.cons_append, List.nil_append]; rfl) ?_)
      · intro y hin
        have e : b19 = y ∨ b6 = y := by simpa [BlkIn, nth, blkOf, vaddr] using hin
        rcases e with e | e
        · subst e; exact n19
        · subst e; exact n6
      obtain ⟨q1, q2, q3⟩ := d.prgD_n v.bl v.pg a.D a.Sp
      have H17 : HSt w w17 b gk nb mf sB g (fun y => y = b6 ∨ y = b19) (j + 1) S (d.prgD v.bl v.pg a.D a.Sp) KA := (H15.same (shown_same h16)).turn hk1617 ⟨T, Lb17, D17, Tgk⟩ (H.wf.prgD _ _ _ _) (by have := H.num; omega) q3 (H.ok.prg H.wf _ _ _ _)
      refine den_m18 rfl (d.prgE v.bl v.pg a.D a.Sp) rfl (fun _ => rfl) (fun w18 w19 h18 h1819 => den_norm (by simp only [List.cons_append, List.nil_append]; rfl) (den_splitEq (fun he => ?_) (fun hne => ?_)))
      rotate_left
      · exact den_leaf_eq fun wa ha => ⟨rfl, S, _, KA, H17.same (((shown_same h18).trans h1819).trans (shown_same ha)), n6, n19⟩
      have he' : d.prgE v.bl v.pg a.D a.Sp = 0 := he
      have hkn : Keeps (d.prgD v.bl v.pg a.D a.Sp) a := by
        rw [hva.bl, hva.pg] at he' ⊢
        exact keeps_new H.wf a he'
      have hhas : (d.prgD v.bl v.pg a.D a.Sp).hasB v.bl = true := by have q := hkn.has; rw [← hva.bl] at q; exact Dv.hasB_of q
      obtain ⟨B, hB, hBl, _⟩ := Dv.blkAt hhas
      have H19 := H17.same ((shown_same h18).trans h1819)
      have hlenb : ((d.prgD v.bl v.pg a.D a.Sp).bs.length : Int) = nb := by rw [H19.wf.len, H19.geo, hnb]
      have hBnb : B < nb := by omega
      obtain ⟨Kv, KL, K19⟩ := H19.kp
      obtain ⟨kv, Lk, Ak, hkv, hLk, hAk, mk, avk, okk⟩ := K19.at_ hBnb
      obtain ⟨ka, kc, ekv⟩ := mk.slice
      obtain ⟨T19, Lb19, D19, Tgk19⟩ := H19.dev
      have lgk19 : gk < w19.heap.size := D19.lt _ Tgk19
      have hAkl : Ak.length ≤ j := H.le B Ak hAk
      have hLkl : Lk.length ≤ 1000 := by have := avk.len; simp at this; omega
      have lS : ∀ {y}, S y → y < w19.heap.size := fun {y} hy => D19.lt _ (D19.ST _ hy)
      have z19' : w14.heap.size ≤ w19.heap.size := by
        have := s1415.size
        have := (shown_same h16).size
        have := hk1617.size
        have := (shown_same h18).size
        have := h1819.size
        omega
      refine den_startF fun w20 h20 => ?_
      have s1920 : Same w19 w20 := shown_same h20
      have z20 : w19.heap.size ≤ w20.heap.size := s1920.size
      have l19'' : b19 < w20.heap.size := by have := h1314.size; omega
      have K20 := K19.same s1920
      refine den_idxD (E := slE) (L := Kv) kv B [kv] rfl (by decide) hB hkv ⟨⟨_, _, _, ekv⟩, trivial⟩ (cellk _ 0 _ rfl) K20.own.arr (fun ad had hX => ?_) (den_norm (by simp only [List.cons_append, List.nil_append]; rfl) ?_)
      · have e : gk = ad.block := by cases had; rfl
        rcases hX with hX | hX
        · omega
        · simp [BlkIn, nth, blkOf, vaddr] at hX
          omega
      subst ekv
      have mk20 := mk.same s1920
      -- the list with the new call behind
      let x : AvS := ⟨v, hva.sl⟩
      have hx : asE.enc x = [.int .i64 v.wh, .int .i64 v.bl, .int .i64 v.pg, .slice da a.D.length dc, .slice sa a.Sp.length sc] := by simp only [asE, x, Av.cells, ed, es]
      have hAn : AvsAt w.heap.size w ((Lk ++ [x]).map (·.1)) (Ak ++ [a]) := by
        refine ⟨by have := avk.len; simp at this ⊢; omega, fun i v' a' h1 h2 => ?_⟩
        have hl := avk.len
        simp only [List.length_map] at hl
        simp only [List.map_append, List.map_cons, List.map_nil] at h1
        by_cases hi : i < Lk.length
        · rw [List.getElem?_append_left (by simpa using hi)] at h1
          rw [List.getElem?_append_left (by omega)] at h2
          exact avk.at_ i v' a' h1 h2
        · rw [List.getElem?_append_right (by simp; omega)] at h1
          rw [List.getElem?_append_right (by omega)] at h2
          simp only [List.length_map] at h1
          have e0 : i - Lk.length = 0 := by
            have := (List.getElem?_eq_some_iff.1 h1).1
            simp at this
            omega
          rw [e0] at h1
          rw [show i - Ak.length = 0 by omega] at h2
          cases h1
          cases h2
          exact hva
      -- the store and what is behind it
      have fin : ∀ {wz : World} {u : Value}, Mine slE 25 wz (slc0 gk nb nb) (Kv.set B u) → Mine asE 28 wz u (Lk ++ [x]) → (∀ y, u.ownBlock = some y → w20.heap.size ≤ y) → Kept (fun y => y = gk) w20 wz → HSt w wz b gk nb mf sB g (fun y => y = b6 ∨ y = b19) (j + 1) S (d.prgD v.bl v.pg a.D a.Sp) (KA.set B (Ak ++ [a])) := fun {wz u} hown hu hfr hk => by
        have DZ := (D19.same s1920).kept hk (fun y _ e => by subst e; exact Tgk19) (fun y _ e hs => by subst e; exact H.ngk hs)
        refine ⟨⟨T19, Lb19, DZ, Tgk19⟩, H19.wf, H19.num, H19.geo, H.fresh, H.ngk, H.gk0, ⟨_, _, K20.set hk (fun y _ _ hne => hne) hown hu hAn fun y hy => ?_⟩, H19.ok.add hAk a (by rw [← hva.bl]; exact hB) hkn, fun C la hC => ?_⟩
        · have q := hfr y hy
          exact ⟨fun hs => by rcases hs with hs | hs | hs; have := lS hs; omega; omega; omega, by omega, by omega⟩
        · rw [List.getElem?_set] at hC
          split at hC
          · split at hC
            · cases hC
              simp
              omega
            · cases hC
          · have := H.le C la hC
            omega
      refine den_both ?_ ?_
      · skip
        refine den_blk fun be kbe kSbe kWbe => den_norm (by simp only [List.cons_append, List.nil_append]; rfl) ?_
        refine den_both ?_ ?_
        · skip
          refine den_appendL (E := asE) (T := 28) rfl u25 i28 z28 s28 rfl (by decide) by28 as_one (.slice (some ⟨be, 0, none⟩) 0 0) (.slice ka Lk.length kc) [] Lk rfl rfl (fun n c e => mk.given.2.1 n c e) (by simp; omega) (fun g hg hc => absurd hc (by simp [vcap])) (by simp [keys]) (fun wa ha => ⟨?_, (mk20.same (shown_same ha)).arr⟩) (fun g hg hc => absurd hc (by simp [vcap])) (fun _ g hg hc => absurd hc (by simp [vcap])) (fun _ => rfl) (fun wa s1 wb ha hM1 kab hfr1 hap1 => den_norm (by simp only [List.cons_append, List.nil_append]; rfl) ?_)
          · have hb := ha.facts.1
            obtain ⟨b', ty, e, hh'⟩ := hb
            have e' : pt be = pt b' := e
            cases e'
            exact .inr ⟨rfl, be, _, ty, rfl, hh'⟩
          have kAB : Kept (fun y => y = be) w20 wb := ((shown_same ha).mono fun _ _ h => h.elim).trans (kab.mono fun y _ h => by have e : be = y := Option.some.inj h.1; exact e.symm)
          have s20b : Same w20 wb := kAB.mono fun y hy e => by have : w20.heap.size ≤ be := kSbe; omega
          have zab : wa.heap.size ≤ wb.heap.size := kab.size
          have z20a : w20.heap.size ≤ wa.heap.size := ha.kept.size
          have fr1 : ∀ y, s1.ownBlock = some y → w20.heap.size ≤ y := fun y hy => by
            rcases hfr1 with ⟨e1, _⟩ | ⟨y2, e1, hle, _⟩
            · rw [e1] at hy; have e : be = y := Option.some.inj hy; have : w20.heap.size ≤ be := kSbe; omega
            · rw [e1] at hy; cases hy; omega
          have cap1 : ∀ y, s1.ownBlock = some y → 0 < vcap s1 → wa.heap.size ≤ y := fun y hy hc => by
            rcases hfr1 with ⟨_, e2⟩ | ⟨y2, e1, hle, _⟩
            · rw [e2] at hc; simp [vcap] at hc
            · rw [e1] at hy; cases hy; omega
          refine den_blk fun bx kbx kSbx kWbx => den_norm (by simp only [List.cons_append, List.nil_append]; rfl) ?_
          refine den_push (E := asE) (T := 28) rfl u25 i28 z28 s28 rfl (by decide) by28 as_one s1 ([] ++ Lk) x rfl rfl (by rw [hx]; rfl) (by simp; omega) (fun g hg _ => .inl (by have := fr1 g hg; have : w.heap.size ≤ w20.heap.size := h20.base.size; show w.heap.size ≤ g; omega)) (by simp [keys]) (fun wc hc => hM1.same (shown_same hc)) ?_ (fun _ g hg _ => .inl (fr1 g hg)) (fun _ => rfl) (fun wc s2 wd hc hM2 kcd hfr2 hap2 => den_norm (by simp only [List.cons_append, List.nil_append]; rfl) ?_)
          · intro g hg hc hin
            have q1 := cap1 g hg hc
            have q2 := hM1.lt hg
            have q3 : be < wa.heap.size := ha.lt (i := 25) (by simp [keys]) rfl
            have q4 : wb.heap.size ≤ bx := kbx
            simp [BlkIn, nth, blkOf, vaddr] at hin
            omega
          have s20d : Same w20 wd := ((s20b.trans (shown_same hc)).mono fun _ _ h => h.elim).trans kcd |>.mono fun y hy h => by have := fr1 y h.1; omega
          have fr2 : ∀ y, s2.ownBlock = some y → w20.heap.size ≤ y := fun y hy => by
            rcases hfr2 with ⟨e1, _⟩ | ⟨y2, e1, hle, _⟩
            · rw [e1] at hy; exact fr1 y hy
            · rw [e1] at hy; cases hy; have := s20b.size; have : wb.heap.size ≤ wc.heap.size := hc.kept.size; omega
          rw [List.nil_append] at hM2
          have hBe : (v.bl : Int) = (B : Int) := hB
          refine den_ob (by simp [BE.den, IE.den, nth, vint]; omega) (den_ob (by simp [BE.den, IE.den, nth, vint, vlen]; omega) ?_)
          obtain ⟨s2a, s2c, es2⟩ := hM2.slice
          have oneV : ∀ u ∈ [s2], u.oneCell' = true := by intro u hu; simp only [List.mem_singleton] at hu; subst hu; rw [es2]; rfl
          have K20d := K20.same s20d
          refine den_storeM (E := slE) (T := 25) (slc0 gk nb nb) Kv B (.slice ka Lk.length kc) s2 s2 [s2] (by kernel_rfl) rfl rfl hB hkv rfl (by rw [es2]; rfl) rfl oneV (by simp [slE]) (by decide) rfl (fun we he => K20d.own.same (shown_same he)) (fun we he y hy => ?_) ⟨wd, K20d.own⟩ (fun we wf he hMf kef => ?_)
          · have e : gk = y := Option.some.inj hy
            subst e
            have q5 : w20.heap.size ≤ be := kSbe
            have q6 : w20.heap.size ≤ bx := kSbx
            have ne1 : be ≠ gk := Nat.ne_of_gt (Nat.lt_of_lt_of_le (Nat.lt_of_lt_of_le lgk19 z20) q5)
            have ne2 : bx ≠ gk := Nat.ne_of_gt (Nat.lt_of_lt_of_le (Nat.lt_of_lt_of_le lgk19 z20) q6)
            exact ⟨fun hd => (by cases hd), fun hl => absurd H.gk0 (Nat.not_le_of_lt hl), fun hin => by simp [BlkIn, nth, blkOf, vaddr, ne1, ne2, n19gk, n6gk] at hin, fun hx => (by cases hx)⟩
          have KF : Kept (fun y => y = gk) w20 wf := (((s20d.trans (shown_same he)).mono fun _ _ h => h.elim).trans kef).mono fun y _ e => by have e2 : gk = y := Option.some.inj e; exact e2.symm
          have hM2f := (hM2.same (shown_same he)).kept kef fun y hy e => by have e2 : gk = y := Option.some.inj e; have := fr2 y hy; omega
          have HF := fin hMf hM2f fr2 KF
          exact den_leaf_eq fun wg hg => ⟨rfl, S, _, _, HF.same (shown_same hg), n6, n19⟩
        · skip
          refine den_blk fun bx kbx kSbx kWbx => den_norm (by simp only [List.cons_append, List.nil_append]; rfl) ?_
          refine den_appendL (E := asE) (T := 28) rfl u25 i28 z28 s28 rfl (by decide) by28 as_one (.slice (some ⟨be, 0, none⟩) 0 0) (.slice ka Lk.length kc) [] Lk rfl rfl (fun n c e => mk.given.2.1 n c e) (by simp; omega) (fun g hg hc => absurd hc (by simp [vcap])) (by simp [keys]) (fun wa ha => ⟨?_, (mk20.same (shown_same ha)).arr⟩) (fun g hg hc => absurd hc (by simp [vcap])) (fun _ g hg hc => absurd hc (by simp [vcap])) (fun _ => rfl) (fun wa s1 wb ha hM1 kab hfr1 hap1 => den_norm (by simp only [List.cons_append, List.nil_append]; rfl) ?_)
          · have hb := ha.facts.2.1
            obtain ⟨b', ty, e, hh'⟩ := hb
            have e' : pt be = pt b' := e
            cases e'
            exact .inr ⟨rfl, be, _, ty, rfl, hh'⟩
          have kAB : Kept (fun y => y = be) w20 wb := ((shown_same ha).mono fun _ _ h => h.elim).trans (kab.mono fun y _ h => by have e : be = y := Option.some.inj h.1; exact e.symm)
          have s20b : Same w20 wb := kAB.mono fun y hy e => by have : w20.heap.size ≤ be := kSbe; omega
          have zab : wa.heap.size ≤ wb.heap.size := kab.size
          have z20a : w20.heap.size ≤ wa.heap.size := ha.kept.size
          have fr1 : ∀ y, s1.ownBlock = some y → w20.heap.size ≤ y := fun y hy => by
            rcases hfr1 with ⟨e1, _⟩ | ⟨y2, e1, hle, _⟩
            · rw [e1] at hy; have e : be = y := Option.some.inj hy; have : w20.heap.size ≤ be := kSbe; omega
            · rw [e1] at hy; cases hy; omega
          have cap1 : ∀ y, s1.ownBlock = some y → 0 < vcap s1 → wa.heap.size ≤ y := fun y hy hc => by
            rcases hfr1 with ⟨_, e2⟩ | ⟨y2, e1, hle, _⟩
            · rw [e2] at hc; simp [vcap] at hc
            · rw [e1] at hy; cases hy; omega
          refine den_push (E := asE) (T := 28) rfl u25 i28 z28 s28 rfl (by decide) by28 as_one s1 ([] ++ Lk) x rfl rfl (by rw [hx]; rfl) (by simp; omega) (fun g hg _ => .inl (by have := fr1 g hg; have : w.heap.size ≤ w20.heap.size := h20.base.size; show w.heap.size ≤ g; omega)) (by simp [keys]) (fun wc hc => hM1.same (shown_same hc)) ?_ (fun _ g hg _ => .inl (fr1 g hg)) (fun _ => rfl) (fun wc s2 wd hc hM2 kcd hfr2 hap2 => den_norm (by simp only [List.cons_append, List.nil_append]; rfl) ?_)
          · intro g hg hc hin
            have q1 := cap1 g hg hc
            have q2 := hM1.lt hg
            have q3 : be < wa.heap.size := ha.lt (i := 25) (by simp [keys]) rfl
            have q4 : bx < wa.heap.size := ha.lt (i := 26) (by simp [keys]) rfl
            simp [BlkIn, nth, blkOf, vaddr] at hin
            omega
          have s20d : Same w20 wd := ((s20b.trans (shown_same hc)).mono fun _ _ h => h.elim).trans kcd |>.mono fun y hy h => by have := fr1 y h.1; omega
          have fr2 : ∀ y, s2.ownBlock = some y → w20.heap.size ≤ y := fun y hy => by
            rcases hfr2 with ⟨e1, _⟩ | ⟨y2, e1, hle, _⟩
            · rw [e1] at hy; exact fr1 y hy
            · rw [e1] at hy; cases hy; have := s20b.size; have : wb.heap.size ≤ wc.heap.size := hc.kept.size; omega
          rw [List.nil_append] at hM2
          have hBe : (v.bl : Int) = (B : Int) := hB
          refine den_ob (by simp [BE.den, IE.den, nth, vint]; omega) (den_ob (by simp [BE.den, IE.den, nth, vint, vlen]; omega) ?_)
          obtain ⟨s2a, s2c, es2⟩ := hM2.slice
          have oneV : ∀ u ∈ [s2], u.oneCell' = true := by intro u hu; simp only [List.mem_singleton] at hu; subst hu; rw [es2]; rfl
          have K20d := K20.same s20d
          refine den_storeM (E := slE) (T := 25) (slc0 gk nb nb) Kv B (.slice ka Lk.length kc) s2 s2 [s2] (by kernel_rfl) rfl rfl hB hkv rfl (by rw [es2]; rfl) rfl oneV (by simp [slE]) (by decide) rfl (fun we he => K20d.own.same (shown_same he)) (fun we he y hy => ?_) ⟨wd, K20d.own⟩ (fun we wf he hMf kef => ?_)
          · have e : gk = y := Option.some.inj hy
            subst e
            have q5 : w20.heap.size ≤ be := kSbe
            have q6 : w20.heap.size ≤ bx := kSbx
            have ne1 : be ≠ gk := Nat.ne_of_gt (Nat.lt_of_lt_of_le (Nat.lt_of_lt_of_le lgk19 z20) q5)
            have ne2 : bx ≠ gk := Nat.ne_of_gt (Nat.lt_of_lt_of_le (Nat.lt_of_lt_of_le lgk19 z20) q6)
            exact ⟨fun hd => (by cases hd), fun hl => absurd H.gk0 (Nat.not_le_of_lt hl), fun hin => by simp [BlkIn, nth, blkOf, vaddr, ne1, ne2, n19gk, n6gk] at hin, fun hx => (by cases hx)⟩
          have KF : Kept (fun y => y = gk) w20 wf := (((s20d.trans (shown_same he)).mono fun _ _ h => h.elim).trans kef).mono fun y _ e => by have e2 : gk = y := Option.some.inj e; exact e2.symm
          have hM2f := (hM2.same (shown_same he)).kept kef fun y hy e => by have e2 : gk = y := Option.some.inj e; have := fr2 y hy; omega
          have HF := fin hMf hM2f fr2 KF
          exact den_leaf_eq fun wg hg => ⟨rfl, S, _, _, HF.same (shown_same hg), n6, n19⟩
      · skip
        refine den_blk fun bx kbx kSbx kWbx => den_norm (by simp only [List.cons_append, List.nil_append]; rfl) ?_
        refine den_blk fun be kbe kSbe kWbe => den_norm (by simp only [List.cons_append, List.nil_append]; rfl) ?_
        refine den_appendL (E := asE) (T := 28) rfl u25 i28 z28 s28 rfl (by decide) by28 as_one (.slice (some ⟨be, 0, none⟩) 0 0) (.slice ka Lk.length kc) [] Lk rfl rfl (fun n c e => mk.given.2.1 n c e) (by simp; omega) (fun g hg hc => absurd hc (by simp [vcap])) (by simp [keys]) (fun wa ha => ⟨?_, (mk20.same (shown_same ha)).arr⟩) (fun g hg hc => absurd hc (by simp [vcap])) (fun _ g hg hc => absurd hc (by simp [vcap])) (fun _ => rfl) (fun wa s1 wb ha hM1 kab hfr1 hap1 => den_norm (by simp only [List.cons_append, List.nil_append]; rfl) ?_)
        · have hb := ha.facts.1
          obtain ⟨b', ty, e, hh'⟩ := hb
          have e' : pt be = pt b' := e
          cases e'
          exact .inr ⟨rfl, be, _, ty, rfl, hh'⟩
        have kAB : Kept (fun y => y = be) w20 wb := ((shown_same ha).mono fun _ _ h => h.elim).trans (kab.mono fun y _ h => by have e : be = y := Option.some.inj h.1; exact e.symm)
        have s20b : Same w20 wb := kAB.mono fun y hy e => by have : w20.heap.size ≤ be := kSbe; omega
        have zab : wa.heap.size ≤ wb.heap.size := kab.size
        have z20a : w20.heap.size ≤ wa.heap.size := ha.kept.size
        have fr1 : ∀ y, s1.ownBlock = some y → w20.heap.size ≤ y := fun y hy => by
          rcases hfr1 with ⟨e1, _⟩ | ⟨y2, e1, hle, _⟩
          · rw [e1] at hy; have e : be = y := Option.some.inj hy; have : w20.heap.size ≤ be := kSbe; omega
          · rw [e1] at hy; cases hy; omega
        have cap1 : ∀ y, s1.ownBlock = some y → 0 < vcap s1 → wa.heap.size ≤ y := fun y hy hc => by
          rcases hfr1 with ⟨_, e2⟩ | ⟨y2, e1, hle, _⟩
          · rw [e2] at hc; simp [vcap] at hc
          · rw [e1] at hy; cases hy; omega
        refine den_push (E := asE) (T := 28) rfl u25 i28 z28 s28 rfl (by decide) by28 as_one s1 ([] ++ Lk) x rfl rfl (by rw [hx]; rfl) (by simp; omega) (fun g hg _ => .inl (by have := fr1 g hg; have : w.heap.size ≤ w20.heap.size := h20.base.size; show w.heap.size ≤ g; omega)) (by simp [keys]) (fun wc hc => hM1.same (shown_same hc)) ?_ (fun _ g hg _ => .inl (fr1 g hg)) (fun _ => rfl) (fun wc s2 wd hc hM2 kcd hfr2 hap2 => den_norm (by simp only [List.cons_append, List.nil_append]; rfl) ?_)
        · intro g hg hc hin
          have q1 := cap1 g hg hc
          have q2 := hM1.lt hg
          have q3 : be < wa.heap.size := ha.lt (i := 26) (by simp [keys]) rfl
          have q4 : bx < wa.heap.size := ha.lt (i := 25) (by simp [keys]) rfl
          simp [BlkIn, nth, blkOf, vaddr] at hin
          omega
        have s20d : Same w20 wd := ((s20b.trans (shown_same hc)).mono fun _ _ h => h.elim).trans kcd |>.mono fun y hy h => by have := fr1 y h.1; omega
        have fr2 : ∀ y, s2.ownBlock = some y → w20.heap.size ≤ y := fun y hy => by
          rcases hfr2 with ⟨e1, _⟩ | ⟨y2, e1, hle, _⟩
          · rw [e1] at hy; exact fr1 y hy
          · rw [e1] at hy; cases hy; have := s20b.size; have : wb.heap.size ≤ wc.heap.size := hc.kept.size; omega
        rw [List.nil_append] at hM2
        have hBe : (v.bl : Int) = (B : Int) := hB
        refine den_ob (by simp [BE.den, IE.den, nth, vint]; omega) (den_ob (by simp [BE.den, IE.den, nth, vint, vlen]; omega) ?_)
        obtain ⟨s2a, s2c, es2⟩ := hM2.slice
        have oneV : ∀ u ∈ [s2], u.oneCell' = true := by intro u hu; simp only [List.mem_singleton] at hu; subst hu; rw [es2]; rfl
        have K20d := K20.same s20d
        refine den_storeM (E := slE) (T := 25) (slc0 gk nb nb) Kv B (.slice ka Lk.length kc) s2 s2 [s2] (by kernel_rfl) rfl rfl hB hkv rfl (by rw [es2]; rfl) rfl oneV (by simp [slE]) (by decide) rfl (fun we he => K20d.own.same (shown_same he)) (fun we he y hy => ?_) ⟨wd, K20d.own⟩ (fun we wf he hMf kef => ?_)
        · have e : gk = y := Option.some.inj hy
          subst e
          have q5 : w20.heap.size ≤ be := kSbe
          have q6 : w20.heap.size ≤ bx := kSbx
          have ne1 : be ≠ gk := Nat.ne_of_gt (Nat.lt_of_lt_of_le (Nat.lt_of_lt_of_le lgk19 z20) q5)
          have ne2 : bx ≠ gk := Nat.ne_of_gt (Nat.lt_of_lt_of_le (Nat.lt_of_lt_of_le lgk19 z20) q6)
          exact ⟨fun hd => (by cases hd), fun hl => absurd H.gk0 (Nat.not_le_of_lt hl), fun hin => by simp [BlkIn, nth, blkOf, vaddr, ne1, ne2, n19gk, n6gk] at hin, fun hx => (by cases hx)⟩
        have KF : Kept (fun y => y = gk) w20 wf := (((s20d.trans (shown_same he)).mono fun _ _ h => h.elim).trans kef).mono fun y _ e => by have e2 : gk = y := Option.some.inj e; exact e2.symm
        have hM2f := (hM2.same (shown_same he)).kept kef fun y hy e => by have e2 : gk = y := Option.some.inj e; have := fr2 y hy; omega
        have HF := fin hMf hM2f fr2 KF
        exact den_leaf_eq fun wg hg => ⟨rfl, S, _, _, HF.same (shown_same hg), n6, n19⟩
    · refine den_splitEq (fun _ => ?_) (fun _ => den_splitEq (fun _ => ?_) (fun _ => ?_))
      · refine den_m20 rfl v.bl (d.ersE v.bl) (d.ersD v.bl) rfl (fun _ => rfl) (fun wa ha => D15.same (shown_same ha)) H.wf hn rfl rfl (fpS H.fresh ?_) (fun w16 w17 S2 T2 Lb17 h16 hk1617 hnx D17 => den_norm (by simp only [List.cons_append, List.nil_append]; rfl) ?_)
        · intro y hin
          have e : b19 = y ∨ b6 = y := by simpa [BlkIn, nth, blkOf, vaddr] using hin
          rcases e with e | e
          · subst e; exact n19
          · subst e; exact n6
        have s1516 : Same w15 w16 := shown_same h16
        have H16 := H15.same s1516
        have z1516 : w15.heap.size ≤ w16.heap.size := s1516.size
        have zw : w.heap.size ≤ w16.heap.size := h16.base.size
        have lgk15 : gk < w15.heap.size := D15.lt _ Tgk
        have nS2 : ∀ {y}, ¬ S y → y < w15.heap.size → ¬ S2 y := fun hs hl h2 => (hnx.dn _ h2).elim hs fun h => by omega
        have n6' : ¬ S2 b6 := nS2 n6 (by
          obtain ⟨b', ty, e, hh⟩ := hfa15.2.1
          have e' : pt b6 = pt b' := e
          cases e'
          exact (Array.getElem?_eq_some_iff.1 hh).1)
        have n19' : ¬ S2 b19 := nS2 n19 l19'
        have ngk' : ¬ S2 gk := nS2 H.ngk lgk15
        have Tgk2 : T2 gk := (hnx.T gk).2 (.inl Tgk)
        obtain ⟨q1, q2, q3⟩ := d.ersD_n v.bl
        obtain ⟨Kv, KL, K15⟩ := H16.kp
        have K17 : KpAt w w17 (fun y => S2 y ∨ y = b6 ∨ y = b19) gk nb Kv KL KA := K15.next (T := T) H.ngk hk1617 hnx
        have fresh2 : ∀ y, S2 y → w.heap.size ≤ y := fun y hy => (hnx.dn y hy).elim (H.fresh y) fun h => by omega
        refine den_m25 rfl (d.ersD v.bl).n rfl rfl (fun _ => rfl) (fun wa ha => D17.same (shown_same ha)) (H.wf.ersD _) (fun w18 w19 h18 h1819 => den_norm (by simp only [List.cons_append, List.nil_append]; rfl) ?_)
        have s1719 := (shown_same h18).trans h1819
        refine den_splitLt (fun hm => ?_) (fun hm => ?_)
        · have hm' : d.n < (d.ersD v.bl).n := hm
          have hc := (ers_more d v.bl).1 hm'
          obtain ⟨hhas, _, _⟩ := Dv.ersC_ok hc
          obtain ⟨B, hB, hBl, _⟩ := Dv.blkAt hhas
          have hlenb : (d.bs.length : Int) = nb := by rw [H.wf.len, H.geo, hnb]
          have hBnb : B < nb := by omega
          obtain ⟨kv, Lk, Ak, hkv, hLk, hAk, mk, avk, okk⟩ := K17.at_ hBnb
          have K19 := K17.same s1719
          refine den_obs (E := slE) (L := Kv) (w0 := w19) B K19.own.arr (by decide) hB (by rw [K19.lv]; exact hBnb) ?_
          have hBe : (v.bl : Int) = (B : Int) := hB
          refine den_storeM (E := slE) (T := 25) (slc0 gk nb nb) Kv B kv nilS nilS [nilS] (by kernel_rfl) rfl rfl hB hkv rfl rfl rfl (by intro u hu; simp only [List.mem_singleton] at hu; subst hu; rfl) (by simp [slE]) (by decide) rfl (fun we he => K19.own.same (shown_same he)) (fun we he y hy => ?_) ⟨w19, K19.own⟩ (fun we wf he hMf kef => ?_)
          · have e : gk = y := Option.some.inj hy
            subst e
            exact ⟨fun hd => (by cases hd), fun hl => by have := H.gk0; have hl2 : gk < w.heap.size := hl; omega, fun hin => by simp [BlkIn, nth, blkOf, vaddr] at hin; omega, fun hx => (by cases hx)⟩
          have KF : Kept (fun y => y = gk) w19 wf := ((shown_same he).mono fun _ _ h => h.elim).trans (kef.mono fun y _ e => by have e2 : gk = y := Option.some.inj e; exact e2.symm)
          have DZ := (D17.same s1719).kept KF (fun y _ e => by subst e; exact Tgk2) (fun y _ e hs => by subst e; exact ngk' hs)
          have HF : HSt w wf b gk nb mf sB g (fun y => y = b6 ∨ y = b19) (j + 1) S2 (d.ersD v.bl) (KA.set B []) := by
            refine ⟨⟨T2, Lb17, DZ, Tgk2⟩, H.wf.ersD _, by have := H.num; push_cast; omega, by rw [q3]; exact H.geo, fresh2, ngk', H.gk0, ⟨_, KL.set B [], K19.set KF (fun y _ _ hne => hne) hMf Mine.nil ⟨rfl, fun i v a h => by simp at h⟩ fun y hy => by cases hy⟩, by rw [hBe]; exact H.ok.ers B, fun C la hC => ?_⟩
            rw [List.getElem?_set] at hC
            split at hC
            · split at hC
              · cases hC; simp
              · cases hC
            · have := H.le C la hC
              omega
          exact den_leaf_eq fun wg hg => ⟨rfl, S2, _, _, HF.same (shown_same hg), n6', n19'⟩
        · have hm' : ¬ d.n < (d.ersD v.bl).n := by have : (d.ersD v.bl).n ≤ d.n := hm; omega
          have hc : ¬ d.ersC v.bl = 0 := fun h => hm' ((ers_more d v.bl).2 h)
          have e0 := ers_no hc
          have HF : HSt w w19 b gk nb mf sB g (fun y => y = b6 ∨ y = b19) (j + 1) S2 (d.ersD v.bl) KA := by
            refine ⟨⟨T2, Lb17, D17.same s1719, Tgk2⟩, H.wf.ersD _, by have := H.num; push_cast; omega, by rw [q3]; exact H.geo, fresh2, ngk', H.gk0, ⟨_, KL, K17.same s1719⟩, by rw [e0]; exact H.ok, fun C la hC => by have := H.le C la hC; omega⟩
          exact den_leaf_eq fun wg hg => ⟨rfl, S2, _, _, HF.same (shown_same hg), n6', n19'⟩
      · refine den_m21 rfl v.bl v.pg (d.cutE v.bl v.pg) (d.cutD v.bl v.pg) rfl (fun _ => rfl) (fun wa ha => D15.same (shown_same ha)) H.wf rfl rfl (fpS H.fresh ?_) (fun w16 w17 h16 hk1617 D17 => den_norm (by simp only [List.cons_append, List.nil_append]; rfl) ?_)
        · intro y hin
          have e : b19 = y ∨ b6 = y := by simpa [BlkIn, nth, blkOf, vaddr] using hin
          rcases e with e | e
          · subst e; exact n19
          · subst e; exact n6
        obtain ⟨q1, q3⟩ := d.cutD_n v.bl v.pg
        have H17 : HSt w w17 b gk nb mf sB g (fun y => y = b6 ∨ y = b19) (j + 1) S (d.cutD v.bl v.pg) KA := (H15.same (shown_same h16)).turn hk1617 ⟨T, Lb15, D17, Tgk⟩ (H.wf.cutD _ _) (by have := H.num; omega) q3 (H.ok.bs (cutD_bs d _ _) q3)
        exact den_leaf_eq fun wg hg => ⟨rfl, S, _, _, H17.same (shown_same hg), n6, n19⟩
      · exact den_leaf_eq fun wg hg => ⟨rfl, S, _, _, H15.more.same (shown_same hg), n6, n19⟩
  clear H H12 H14 n6 n19 nS
  rintro l w21 hfl ⟨rfl, S, d, KA, H, n6, n19⟩ hk21 hfa21
  refine den_cut (fun l w' => l = [] ∧ ∃ S d KA, HSt w w' b gk nb mf sB g (fun y => y = b6 ∨ y = b19) (j + 1) S d KA ∧ d.off = false ∧ ¬ S b6) ?_ ?_
  · obtain ⟨T, Lb, D21, Tgk⟩ := H.dev
    refine den_norm (by simp only [List.cons_append, List.nil_append]; rfl) (den_m23 rfl (!d.off) rfl rfl (fun _ => rfl) (fun wa ha => D21.same (shown_same ha)) H.wf (fun w22 w23 h22 h2223 => den_norm (by simp only [List.cons_append, List.nil_append]; rfl) (den_splitNot (fun hb => ?_) (fun hb => ?_))))
    · have s2123 := (shown_same h22).trans h2223
      refine den_m22 rfl 0 d.rst rfl (fun _ => rfl) (fun wa ha => (D21.same s2123).same (shown_same ha)) H.wf rfl rfl (fpS H.fresh ?_) (fun w24 w25 h24 hk2425 D25 => den_norm (by simp only [List.cons_append, List.nil_append]; rfl) ?_)
      · intro y hin
        have e : b19 = y ∨ b6 = y := by simpa [BlkIn, nth, blkOf, vaddr] using hin
        rcases e with e | e
        · subst e; exact n19
        · subst e; exact n6
      have H23 := (H.same s2123).same (shown_same h24)
      have H25 : HSt w w25 b gk nb mf sB g (fun y => y = b6 ∨ y = b19) (j + 1) S d.rst KA := ⟨⟨T, Lb, D25, Tgk⟩, H.wf.rst, H.num, H.geo, H.fresh, H.ngk, H.gk0, let ⟨Kv, KL, h1⟩ := H23.kp; ⟨Kv, KL, h1.kept hk2425 H.ngk fun y _ hs _ e => hs (.inl e)⟩, H.ok.bs rfl rfl, H.le⟩
      exact den_leaf_eq fun wg hg => ⟨rfl, S, _, _, H25.same (shown_same hg), rfl, n6⟩
    · have hb' : (!d.off) = true := hb
      exact den_leaf_eq fun wg hg => ⟨rfl, S, d, KA, H.same (((shown_same h22).trans h2223).trans (shown_same hg)), by simpa using hb', n6⟩
  clear H n6 n19
  rintro l w26 hfl ⟨rfl, S, d, KA, H, hoff, n6⟩ hk26 hfa26
  obtain ⟨T, Lb, D26, Tgk⟩ := H.dev
  obtain ⟨Kv, KL, K26⟩ := H.kp
  have lgk26 : gk < w26.heap.size := D26.lt _ Tgk
  have nX : ∀ {y : Nat}, y = gk → ¬ (y = b19 ∨ y = b6) := fun e h => by omega
  refine den_norm (by simp only [List.cons_append, List.nil_append]; rfl) (den_for nb (fun _ w' => Same w26 w') ⟨rfl, fun wa ha => shown_same ha⟩ ?_)
  intro B w27 hB s27 hk27 hfa27
  refine den_norm (by simp only [List.cons_append, List.nil_append]; rfl) (den_splitLt (fun hlt2 => ?_) (fun hge2 => ?_))
  rotate_left
  · refine den_ob64 ⟨by simp only [IE.den, nth, vint]; omega, by simp only [IE.den, nth, vint]; omega⟩ (den_leaf_ne (by decide) (den_next rfl hlt' fun wa ha => ⟨S, d, KA, (H.same (s27.trans (shown_same ha))).q fun y _ e => .inl e, n6⟩))
  have hB' : B < nb := by have : (B : Int) < g.b := hlt2; omega
  obtain ⟨kv, Lk, Ak, hkv, hLk, hAk, mk, avk, okk⟩ := K26.at_ hB'
  obtain ⟨ka, kc, ekv⟩ := mk.slice
  subst ekv
  have hAkl : Ak.length ≤ j + 1 := H.le B Ak hAk
  have hlk := avk.len
  simp only [List.length_map] at hlk
  refine den_for Lk.length (fun _ w' => Same w26 w') ⟨rfl, fun wa ha => s27.trans (shown_same ha)⟩ ?_
  intro k w28 hk s28' hk28 hfa28
  have K28 := K26.same s28'
  refine den_norm (by simp only [List.cons_append, List.nil_append]; rfl) ?_
  refine den_idx2 (E := slE) (L := Kv) (.slice ka Lk.length kc) B [.slice ka Lk.length kc] K28.own.arr rfl (by decide) rfl hkv ⟨⟨_, _, _, rfl⟩, trivial⟩ (cellk _ 0 _ rfl) (fun wa h => (K28.same (shown_same h)).own.arr) (fun ad had hin => by simp [BlkIn, nth, blkOf, vaddr] at hin) fun w29 h29 => den_norm (by simp only [List.cons_append, List.nil_append]; rfl) (den_splitLt (fun hlt3 => ?_) (fun hge3 => ?_))
  rotate_left
  · exact den_ob64 ⟨by simp only [IE.den, nth, vint]; omega, by simp only [IE.den, nth, vint]; omega⟩ (den_leaf_ne (by decide) (den_next rfl hB' fun wa ha => (s28'.trans (shown_same h29)).trans (shown_same ha)))
  have hk' : k < Lk.length := by have : (k : Int) < (Lk.length : Int) := hlt3; omega
  have s2629 := s28'.trans (shown_same h29)
  refine den_ob (by simp [BE.den, IE.den, nth, vint]) (den_ob (by simp [BE.den, IE.den, nth, vint, vlen]; omega) ?_)
  refine den_ldi (E := slE) (L := Kv) (.slice ka Lk.length kc) B [.slice ka Lk.length kc] rfl (by decide) rfl hkv ⟨⟨_, _, _, rfl⟩, trivial⟩ (cellk _ 0 _ rfl) (fun wa h => ((K26.same s2629).same (shown_same h)).own.arr) (fun ad had hin => by simp [BlkIn, nth, blkOf, vaddr] at hin) (fun w30 h30 => den_norm (by simp only [List.cons_append, List.nil_append]; rfl) ?_)
  have s2630 := s2629.trans (shown_same h30)
  have mk30 := mk.same s2630
  obtain ⟨x, hx⟩ : ∃ x, Lk[k]? = some x := ⟨_, List.getElem?_eq_getElem hk'⟩
  obtain ⟨y, hy⟩ : ∃ y, Ak[k]? = some y := ⟨_, List.getElem?_eq_getElem (by omega)⟩
  have hxy := avk.at_ k x.1 y (by rw [List.getElem?_map, hx]; rfl) hy
  obtain ⟨da2, dc2, ed2⟩ := hxy.d.src.1.slice
  obtain ⟨sa2, sc2, es2⟩ := hxy.s.src.1.slice
  obtain ⟨ybl, hkp⟩ := H.ok.ok B Ak y hAk (List.mem_of_getElem? hy)
  obtain ⟨r1, r2, r3, r4, r5⟩ := hkp.read H.wf hoff
  refine den_idx2 (E := asE) (L := Lk) x k [.int .i64 x.1.wh, .int .i64 x.1.bl, .int .i64 x.1.pg, .slice da2 y.D.length dc2, .slice sa2 y.Sp.length sc2] mk30.arr rfl (by decide) rfl hx ⟨⟨_, rfl⟩, ⟨_, rfl⟩, ⟨_, rfl⟩, ⟨_, _, _, rfl⟩, ⟨_, _, _, rfl⟩, trivial⟩ (fun m u hu => by simp only [asE, Av.cells, ed2, es2]; simpa using hu) (fun wa h => (mk30.same (shown_same h)).arr) (fun ad had hin => by simp [BlkIn, nth, blkOf, vaddr] at hin) (fun w31 h31 => den_norm (by simp only [List.cons_append, List.nil_append]; rfl) (den_blk fun b30 k30 _ _ => den_norm (by simp only [List.cons_append, List.nil_append]; rfl) ?_))
  have s2631 := s2630.trans (shown_same h31)
  have z30 : w31.heap.size ≤ b30 := k30
  have gd2 : ∀ {wa : World}, Same w wa → Src wa (.slice da2 y.D.length dc2) y.D := fun hs => by have := (hxy.d.same hs).src; rw [ed2] at this; exact this
  have gs2 : ∀ {wa : World}, Same w wa → Src wa (.slice sa2 y.Sp.length sc2) y.Sp := fun hs => by have := (hxy.s.same hs).src; rw [es2] at this; exact this
  have hxb : x.1.bl = y.bl := hxy.bl
  have hxp : x.1.pg = y.pg := hxy.pg
  refine den_m13 rfl x.1.bl x.1.pg 0 y.D y.Sp rfl (fun _ _ _ => ⟨rfl, rfl, rfl⟩) (fun wa ha => (D26.same s2631).same (shown_new ha fun y hy => by simp [BlkIn, nth, blkOf, vaddr] at hy; omega)) H.wf (by rw [hxb, hxp]; exact r1) (by rw [hxb, hxp]; exact r2) (by rw [hxb, hxp]; exact r3) (fun w32 va vb w33 h32 h3233 m1 m2 _ _ => den_norm (by simp only [List.cons_append, List.nil_append]; rfl) ?_)
  have s2633 : Same w26 w33 := (s2631.trans (shown_new h32 fun y hy => by simp [BlkIn, nth, blkOf, vaddr] at hy; omega)).trans h3233
  refine den_start1 fun w34 h34 => ?_
  have s2634 := s2633.trans (shown_same h34)
  have m1' := m1.same (shown_same h34)
  have m2' := m2.same (shown_same h34)
  refine den_m18 rfl 0 rfl (fun _ => rfl) (fun wa wb ha hab => den_norm (by simp only [List.cons_append, List.nil_append]; rfl) (den_split_false rfl ?_))
  have sB1 := (shown_same ha).trans hab
  refine den_m30 rfl _ _ y.D y.D true (strEq_refl _) rfl (fun _ => rfl) (fun wa ha => ((m1'.same sB1).same (shown_same ha)).given.src) (fun wa ha => gd2 ha.base) (fun wc wd hc hcd => den_norm (by simp only [List.cons_append, List.nil_append]; rfl) (den_split_false rfl ?_))
  have sB2 := (sB1.trans (shown_same hc)).trans hcd
  refine den_m30 rfl _ _ y.Sp y.Sp true (strEq_refl _) rfl (fun _ => rfl) (fun wa ha => ((m2'.same sB2).same (shown_same ha)).given.src) (fun wa ha => gs2 ha.base) (fun we wf he hef => den_norm (by simp only [List.cons_append, List.nil_append]; rfl) (den_split_false rfl ?_))
  have sB3 := (sB2.trans (shown_same he)).trans hef
  refine den_m28 rfl (B : Int) x.1.pg 2 (by rw [hxp, ← ybl]; exact r4) rfl (fun _ => rfl) (fun wa ha => ((D26.same s2634).same sB3).same (shown_same ha)) H.wf (fun wg wh hg hgh => den_norm (by simp only [List.cons_append, List.nil_append]; rfl) (den_split_false rfl ?_))
  have sB4 := (sB3.trans (shown_same hg)).trans hgh
  refine den_m26 rfl (B : Int) (d.next B) rfl rfl (fun _ => rfl) (fun wa ha => ((D26.same s2634).same sB4).same (shown_same ha)) H.wf (fun wi wj hi hij => den_norm (by simp only [List.cons_append, List.nil_append]; rfl) (den_splitLe (fun hle => ?_) (fun _ => ?_)))
  · have hle' : d.next B ≤ x.1.pg := hle
    rw [hxp, ← ybl] at hle'
    omega
  have sB5 := (sB4.trans (shown_same hi)).trans hij
  exact den_ob64 ⟨by simp only [IE.den, nth, vint]; omega, by simp only [IE.den, nth, vint]; omega⟩ (den_next rfl hk' fun wk hk2 => (s2634.trans sB5).trans (shown_new hk2 fun y hy => by simp [BlkIn, nth, blkOf, vaddr] at hy))
end Go.Proofs.Ytppbapnibpeolaa
