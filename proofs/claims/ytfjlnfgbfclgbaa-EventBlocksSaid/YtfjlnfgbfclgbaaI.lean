/- What Deliver returns. No conditions beyond those that each theorem names. -/
import Derived.Test.YtfjlnfgbfclgbaaH
import Derived.Test.YtfjlnfgbfclgbaaTD
set_option maxRecDepth 100000
set_option maxHeartbeats 2000000
set_option linter.unusedVariables false
set_option linter.unusedSimpArgs false
namespace Go.Proofs.Ytfjlnfgbfclgbaa
open Go.Sx

def resE : Enc (Int × Int) := ⟨fun r => [.int .u16 r.1, .int .u32 r.2], 2, fun _ => rfl⟩
theorem res_one (x : Int × Int) : ∀ u ∈ resE.enc x, u.oneCell' = true := by intro u hu; simp [resE] at hu; rcases hu with rfl | rfl <;> rfl
theorem u46 : Try.prog.underlying 46 = some (.slice 49) := Try.underlying46
theorem i49 : Try.prog.info? 49 = some Try.t49 := by kernel_rfl
theorem z49 : Try.t49.zero = some (.agg #[.int .u16 0, .int .u32 0]) := by kernel_rfl
theorem s49 : Try.t49.size = resE.sz := by kernel_rfl
theorem by49 : Try.t49.bytes ≤ 1000 := by decide +kernel
theorem go44 : goFunc Try.prog 44 = true := by kernel_rfl

/-- what is in memory beside the struct -/
structure Rest (w : World) (b m : Nat) (s1 s2 : Value) (e : Ev) : Prop where
  r : Given hE w s1 e.R
  l : Given ntcE w s2 e.L
  map : MapAt .u8 .u8 w m e.B
  ne1 : ∀ ad, vaddr s1 = some ad → ad.block ≠ b ∧ ad.block ≠ m
  ne2 : ∀ ad, vaddr s2 = some ad → ad.block ≠ b ∧ ad.block ≠ m
theorem Rest.same {w w' : World} {b m : Nat} {s1 s2 : Value} {e : Ev} (h : Rest w b m s1 s2 e) (hk : Same w w') : Rest w' b m s1 s2 e := ⟨h.r.same hk, h.l.same hk, h.map.same hk, h.ne1, h.ne2⟩
theorem Rest.kept {w w' : World} {b m : Nat} {s1 s2 : Value} {e : Ev} {M : Nat → Prop} (h : Rest w b m s1 s2 e) (hk : Kept M w w') (hm : ¬ M m) (h1 : ∀ ad, vaddr s1 = some ad → ¬ M ad.block) (h2 : ∀ ad, vaddr s2 = some ad → ¬ M ad.block) : Rest w' b m s1 s2 e := ⟨h.r.kept hk h1, h.l.kept hk h2, h.map.kept hk hm, h.ne1, h.ne2⟩
theorem EvAt.rest {w : World} {b m : Nat} {s1 s2 : Value} {e : Ev} (h : EvAt w b m s1 s2 e) : Rest w b m s1 s2 e := ⟨h.r, h.l, h.map, h.ne1, h.ne2⟩
theorem Rest.ev {w : World} {b m : Nat} {s1 s2 : Value} {e : Ev} (h : Rest w b m s1 s2 e) (hb : HasBlk w (pt b) [.int .i64 e.lim, .int .u32 e.cfg, s1, s2, .map (some m)]) : EvAt w b m s1 s2 e := ⟨hb, h.r, h.l, h.map, h.ne1, h.ne2⟩

theorem c22 (b m : Nat) (s1 s2 : Value) (e : Ev) (w : World) (h : EvAt w b m s1 s2 e) (hl : e.lim ≠ 0) (hok : ∀ n ∈ e.L, n.Ok) (hm : e.R.length ≤ 60000) (hmL : e.L.length ≤ 60000) :
    Runs Try.prog 22 [pt b] w (fun x => x = b ∨ x = m) (fun v w' => Mine resE 49 w' v (dl e.L e.R e.B).out ∧ (∀ g, v.ownBlock = some g → w.heap.size ≤ g) ∧ ∃ s1' s2', EvAt w' b m s1' s2' { e with R := (dl e.L e.R e.B).R, L := (dl e.L e.R e.B).left, B := (dl e.L e.R e.B).B } ∧ (∀ ad, vaddr s1' = some ad → ∃ ad3, vaddr s1 = some ad3 ∧ ad3.block = ad.block) ∧ (∀ ad, vaddr s2' = some ad → (∃ ad3, vaddr s2 = some ad3 ∧ ad3.block = ad.block) ∨ w.heap.size ≤ ad.block)) := by
  obtain ⟨sa, sc, rfl⟩ := h.r.1.slice
  obtain ⟨ta, tc, rfl⟩ := h.l.1.slice
  have hr := runs mix t22 rfl rfl (ε := [pt b, .int .i64 e.lim, .int .u32 e.cfg, .slice sa e.R.length sc, .slice ta e.L.length tc, .map (some m)]) (w := w) (M := fun x => x = b ∨ x = m) (R := fun v w' => Mine resE 49 w' v (dl e.L e.R e.B).out ∧ (∀ g, v.ownBlock = some g → w.heap.size ≤ g) ∧ ∃ s1' s2', EvAt w' b m s1' s2' { e with R := (dl e.L e.R e.B).R, L := (dl e.L e.R e.B).left, B := (dl e.L e.R e.B).B } ∧ (∀ ad, vaddr s1' = some ad → ∃ ad3, vaddr (Value.slice sa e.R.length sc) = some ad3 ∧ ad3.block = ad.block) ∧ (∀ ad, vaddr s2' = some ad → (∃ ad3, vaddr (Value.slice ta e.L.length tc) = some ad3 ∧ ad3.block = ad.block) ∨ w.heap.size ≤ ad.block)) ⟨⟨_, rfl⟩, ⟨_, rfl⟩, ⟨_, rfl⟩, ⟨_, _, _, rfl⟩, ⟨_, _, _, rfl⟩, ⟨_, rfl⟩, trivial⟩ ⟨h.blk, trivial⟩ (by simp [keys]) (by simp [keys]) (by simp [keys, nth, blkOf, vaddr]) ?_
  · simpa [SV.den, denL, IE.den, BE.den, nth, vint, vbool, vaddr, addO, addr_add] using hr
  have lb := h.lt
  have lm := h.map.lt
  refine den_blk fun b1 k1 _ _ => den_norm (by simp only [List.cons_append, List.nil_append]; rfl) ?_
  have z1 : w.heap.size ≤ b1 := k1
  refine den_loop (fun ls w' => ∃ (out : Value) (O : List (Int × Int)) (e' : Ev) (t1 t2 : Value), ls = [out, .int .i64 e'.lim, .int .u32 e'.cfg, t1, t2, .map (some m)] ∧ Mine resE 49 w' out O ∧ (∀ g, out.ownBlock = some g → w.heap.size ≤ g ∧ g ≠ b1) ∧ Rest w' b m t1 t2 e' ∧ (∀ ad, vaddr t1 = some ad → ad.block < w.heap.size) ∧ ((∀ ad, vaddr t1 = some ad → ∃ ad3, vaddr (Value.slice sa e.R.length sc) = some ad3 ∧ ad3.block = ad.block) ∧ (∀ ad, vaddr t2 = some ad → (∃ ad3, vaddr (Value.slice ta e.L.length tc) = some ad3 ∧ ad3.block = ad.block) ∨ w.heap.size ≤ ad.block)) ∧ (∀ g, out.ownBlock = some g → ∀ ad, vaddr t2 = some ad → ad.block ≠ g) ∧ e'.lim = e.lim ∧ e'.cfg = e.cfg ∧ O.length + e'.R.length = e.R.length ∧ (∀ n ∈ e'.L, n.Ok) ∧ e'.L.length ≤ 60000 ∧
      O ++ (dl e'.L e'.R e'.B).out = (dl e.L e.R e.B).out ∧ (dl e'.L e'.R e'.B).left = (dl e.L e.R e.B).left ∧ (dl e'.L e'.R e'.B).R = (dl e.L e.R e.B).R ∧ (dl e'.L e'.R e'.B).B = (dl e.L e.R e.B).B) (fun ls _ => vlen (nth ls 3)) (fun w1 h1 => ⟨_, [], e, _, _, rfl, Mine.nil, fun g hg => (by cases hg), h.rest.same (shown_same h1), h.r.2.2.2, ⟨fun ad had => ⟨ad, had, rfl⟩, fun ad had => .inl ⟨ad, had, rfl⟩⟩, fun g hg => (by cases hg), rfl, rfl, by simp, hok, hmL, rfl, rfl, rfl, rfl⟩) ?_
  rintro w1 l w2 h1 hfl ⟨out, O, e', t1, t2, rfl, hO, hOb, hE, hRlt, ⟨hF1, hF2⟩, hOne, hlim, hcfg, hlen, hok', hmL', d1, d2, d3, d4⟩ hk2 hfa2
  obtain ⟨oa, oc, rfl⟩ := hO.slice
  obtain ⟨ra, rc, rfl⟩ := hE.r.1.slice
  obtain ⟨la, lc, rfl⟩ := hE.l.1.slice
  have hl' : e'.lim ≠ 0 := by rw [hlim]; exact hl
  have endR : dl e'.L e'.R e'.B = ⟨[], e'.L, e'.R, e'.B⟩ → O = (dl e.L e.R e.B).out ∧ e' = { e with R := (dl e.L e.R e.B).R, L := (dl e.L e.R e.B).left, B := (dl e.L e.R e.B).B } := fun hd => by
    rw [hd] at d1 d2 d3 d4
    refine ⟨by simpa using d1, ?_⟩
    obtain ⟨x1, x2, x3, x4, x5⟩ := e'
    simp only at hlim hcfg d2 d3 d4
    subst hlim
    subst hcfg
    subst d2
    subst d3
    subst d4
    rfl
  refine den_norm (by simp only [List.cons_append, List.nil_append]; rfl) ?_
  refine den_call_bool (b := decide (e'.lim = 0)) (fun w3 h3 => c39 b m _ _ e' w3 ((hE.same (shown_same h3)).ev h3.facts.2.1)) rfl (fun w3 w4 h3 h4 => den_norm (by simp only [List.cons_append, List.nil_append]; rfl) (den_splitNot (fun _ => ?_) (fun hf => ?_)))
  rotate_left
  · exfalso
    simp [BE.den, nth, vbool, hl'] at hf
  have E4 := (hE.same (shown_same h3)).same h4
  have O4 := (hO.same (shown_same h3)).same h4
  refine den_splitLt (fun hR => ?_) (fun hR => ?_)
  rotate_left
  · have hR' : e'.R = [] := by
      have h' : (e'.R.length : Int) ≤ 0 := hR
      exact List.eq_nil_of_length_eq_zero (by omega)
    obtain ⟨q1, q2⟩ := endR (by rw [hR']; exact dl_nil _ _)
    refine den_leaf' fun w6 h6 => (if_neg (by decide)).mpr ⟨_, rfl, ⟨by rw [← q1]; exact O4.same (shown_same h6), fun g hg => (hOb g hg).1, .slice ra e'.R.length rc, .slice la e'.L.length lc, by rw [← q2]; exact (E4.same (shown_same h6)).ev h6.facts.2.1, hF1, hF2⟩, h6.base⟩
  have hR0 : 0 < e'.R.length := by
    have h' : (0 : Int) < (e'.R.length : Int) := hR
    omega
  refine den_callR (fun w7 l w8 => ((∀ (i : Nat) y, e'.L[i]? = some y → (!(e'.B y.t).isSome) = false) ∧ l = [.slice la e'.L.length lc, .int .u8 0, .int .u8 0, .int .u8 0, .bool false]) ∨
      ∃ (i : Nat) (x : Ntc) (xa : Option Addr) (xc : Nat), e'.L[i]? = some x ∧ (!(e'.B x.t).isSome) = true ∧ (∀ (j : Nat) y, j < i → e'.L[j]? = some y → (!(e'.B y.t).isSome) = false) ∧ l = [.slice xa (e'.L.eraseIdx i).length xc, .int .u8 x.t, .int .u8 x.i, .int .u8 x.p, .bool true] ∧ Mine ntcE 23 w8 (.slice xa (e'.L.eraseIdx i).length xc) (e'.L.eraseIdx i) ∧ ∀ g, (Value.slice xa (e'.L.eraseIdx i).length xc).ownBlock = some g → w7.heap.size ≤ g) (fun w7 h7 => ?_) ?_
  · have hpt : PtsTo w7 (pt b1) [pt b] := by
      have hb : HasBlk w7 (pt b1) [pt b] := h7.facts.1
      exact hb.pts
    have E7 := (E4.same (shown_same h7)).ev h7.facts.2.1
    refine (c43 _ _ e'.L (fun n => !(e'.B n.t).isSome) 44 [pt b1] w7 (by omega) E7.l.1 rfl go44 (fun x w' hx hk => c44 x b1 b m _ _ e' w' (hpt.same hk) (E7.same hk))).mono fun v w' hv => ?_
    rcases hv with ⟨hno, rfl⟩ | ⟨i, x, r, hx, hpx, hfirst, rfl, hM, hlo⟩
    · exact ⟨[.slice la e'.L.length lc, .int .u8 0, .int .u8 0, .int .u8 0, .bool false], ⟨⟨_, _, _, rfl⟩, ⟨_, rfl⟩, ⟨_, rfl⟩, ⟨_, rfl⟩, ⟨_, rfl⟩, trivial⟩, rfl, .inl ⟨hno, rfl⟩⟩
    · obtain ⟨xa, xc, rfl⟩ := hM.slice
      exact ⟨[.slice xa (e'.L.eraseIdx i).length xc, .int .u8 x.t, .int .u8 x.i, .int .u8 x.p, .bool true], ⟨⟨_, _, _, rfl⟩, ⟨_, rfl⟩, ⟨_, rfl⟩, ⟨_, rfl⟩, ⟨_, rfl⟩, trivial⟩, rfl, .inr ⟨i, x, xa, xc, hx, hpx, hfirst, rfl, hM, hlo⟩⟩
  rintro w7 l w8 h7 _ (⟨hno, rfl⟩ | ⟨i, x, xa, xc, hx, hpx, hfirst, rfl, hM, hlo⟩) h78
  · have E8 := (E4.same (shown_same h7)).same h78
    have O8 := (O4.same (shown_same h7)).same h78
    obtain ⟨q1, q2⟩ := endR (dl_none _ _ _ fun i n hi => by have := hno i n hi; simpa using this)
    refine den_norm (by simp only [List.cons_append, List.nil_append]; rfl) (den_blk fun b11 k11 _ _ => den_norm (by simp only [List.cons_append, List.nil_append]; rfl) (den_split_true rfl ?_))
    have z11 : w8.heap.size ≤ b11 := k11
    refine den_leaf' fun w9 h9 => (if_neg (by decide)).mpr ⟨_, rfl, ⟨?_, fun g hg => (hOb g hg).1, .slice ra e'.R.length rc, .slice la e'.L.length lc, ?_, hF1, hF2⟩, h9.base⟩
    · rw [← q1]
      refine O8.kept h9.kept fun g hg hin => ?_
      have := O8.lt hg
      simp [BlkIn, nth, blkOf, vaddr] at hin
      omega
    · rw [← q2]
      refine (E8.kept h9.kept (fun hy => by have := E8.map.lt; simp [BlkIn, nth, blkOf, vaddr] at hy; omega) (fun ad had hy => by have := E8.r.2.2.2 ad had; simp [BlkIn, nth, blkOf, vaddr] at hy; omega) (fun ad had hy => by have := E8.l.2.2.2 ad had; simp [BlkIn, nth, blkOf, vaddr] at hy; omega)).ev h9.facts.2.2.1
  have E8 := (E4.same (shown_same h7)).same h78
  have O8 := (O4.same (shown_same h7)).same h78
  obtain ⟨r0, R', hRe⟩ : ∃ r0 R', e'.R = r0 :: R' := by
    cases hq : e'.R with
    | nil => rw [hq] at hR0; simp at hR0
    | cons r0 R' => exact ⟨r0, R', rfl⟩
  have hi : i < e'.L.length := (List.getElem?_eq_some_iff.1 hx).1
  have hxok := hok' x (List.mem_of_getElem? hx)
  have hstep := dl_step e'.L r0 R' e'.B i x hx (by simpa using hpx) fun j y hj hy => by have := hfirst j y hj hy; simpa using this
  rw [← hRe] at hstep
  have lR : (r0 :: R').length = e'.R.length := by rw [hRe]
  refine den_norm (by simp only [List.cons_append, List.nil_append]; rfl) (den_blk fun b11 k11 _ _ => den_norm (by simp only [List.cons_append, List.nil_append]; rfl) (den_split_false rfl ?_))
  have z11 : w8.heap.size ≤ b11 := k11
  have z8 : w.heap.size ≤ w8.heap.size := Nat.le_trans h7.base.size h78.size
  have oO : ∀ g, (Value.slice oa O.length oc).ownBlock = some g → g < w8.heap.size := fun g hg => O8.lt hg
  intro w9 h9
  have E9 := E8.kept h9.kept (fun hy => by have := E8.map.lt; simp [BlkIn, nth, blkOf, vaddr] at hy; omega) (fun ad had hy => by have := E8.r.2.2.2 ad had; simp [BlkIn, nth, blkOf, vaddr] at hy; omega) (fun ad had hy => by have := E8.l.2.2.2 ad had; simp [BlkIn, nth, blkOf, vaddr] at hy; omega)
  have O9 := O8.kept h9.kept fun g hg hin => by have := oO g hg; simp [BlkIn, nth, blkOf, vaddr] at hin; omega
  have M9 := hM.kept h9.kept fun g hg hin => by have := hM.lt hg; simp [BlkIn, nth, blkOf, vaddr] at hin; omega
  refine ⟨fun y => y = b11 ∨ y = b1 ∨ y = b ∨ (Value.slice oa O.length oc).ownBlock = some y, fun y hy => by simp [BlkIn, nth, blkOf, vaddr] at hy; omega, ?_⟩
  obtain ⟨ad, had, hcell⟩ := E9.r.1.elem (j := 0) (x := r0) (by rw [hRe]; rfl) (by decide)
  have hadv : ra = some ad := had
  have hadlt := hRlt ad had
  have hadb := (hE.ne1 ad had).1
  refine den_ob (by simp [BE.den, IE.den, nth, vlen]; omega) (den_ob (by simp [BE.den, nth, vnil, hadv]) ?_)
  refine den_load [.int .u16 r0] ad ⟨⟨_, rfl⟩, trivial⟩ (by simp [SV.den, IE.den, nth, vaddr, hadv, addO, Addr.add]) (fun hX => ?_) (fun jj v hv => ?_) (den_norm (by simp only [List.cons_append, List.nil_append]; rfl) ?_)
  · rcases hX with hX | hX | hX | hX
    · omega
    · omega
    · exact hadb hX
    · have := (hOb _ hX).1; omega
  · cases jj with
    | zero =>
      have := hcell 0 v hv
      simpa [Addr.add] using this
    | succ jj => simp at hv
  have z78 : w7.heap.size ≤ w8.heap.size := h78.size
  have l19 : b1 < w8.heap.size := Nat.lt_of_lt_of_le (h7.lt (i := 6) (by simp [keys]) rfl) z78
  refine den_call_int (x := resI x) (fun wa _ => c10 x hxok wa) rfl (fun wa wb ha hab => den_norm (by simp only [List.cons_append, List.nil_append]; rfl) (den_blk fun b15 k15 _ _ => den_norm (by simp only [List.cons_append, List.nil_append]; rfl) ?_))
  have z89 : w8.heap.size ≤ w9.heap.size := h9.kept.size
  have z9a : w9.heap.size ≤ wa.heap.size := ha.kept.size
  have zab := hab.size
  have z15 : wb.heap.size ≤ b15 := k15
  have Ob := (O9.same (shown_same ha)).same hab
  have Eb := (E9.same (shown_same ha)).same hab
  have Mb := (M9.same (shown_same ha)).same hab
  refine den_push (E := resE) (T := 49) rfl u46 i49 z49 s49 rfl (by decide) by49 res_one (.slice oa O.length oc) O (r0, resI x) rfl rfl rfl (by omega) (fun g hg _ => .inl (hOb g hg).1) (by simp [keys]) (fun wc hc => Ob.same (shown_same hc)) ?_ (fun _ g hg _ => .inr (.inr (.inr hg))) (fun _ => rfl) (fun wc out' wd hc hO' kcd hfr hap => den_norm (by simp only [List.cons_append, List.nil_append]; rfl) ?_)
  · intro g hg _ hin
    have q1 := oO g hg
    have q2 := (hOb g hg).2
    have q3 := (hOb g hg).1
    simp [BlkIn, nth, blkOf, vaddr] at hin
    omega
  have zbc : wb.heap.size ≤ wc.heap.size := hc.kept.size
  have o7 : ∀ g, (Value.slice oa O.length oc).ownBlock = some g → g < w7.heap.size := fun g hg => (O4.same (shown_same h7)).lt hg
  have Ed := (Eb.same (shown_same hc)).kept kcd (fun hb => by have := (hOb _ hb.1).1; omega) (fun ad2 had2 hb => by have := (hOb _ hb.1).1; have := hRlt ad2 had2; omega) (fun ad2 had2 hb => hOne _ hb.1 ad2 had2 rfl)
  have Md := (Mb.same (shown_same hc)).kept kcd fun g hg hb => by have := hlo g hg; have := o7 g hb.1; omega
  have zw7 : w.heap.size ≤ w7.heap.size := h7.base.size
  have hOb' : ∀ g, out'.ownBlock = some g → w.heap.size ≤ g ∧ g ≠ b1 ∧ ∀ gm, (Value.slice xa (e'.L.eraseIdx i).length xc).ownBlock = some gm → gm ≠ g := fun g hg => by
    rcases hfr with ⟨e1, _⟩ | ⟨b', e1, hb', _⟩
    · rw [e1] at hg
      exact ⟨(hOb g hg).1, (hOb g hg).2, fun gm hgm e2 => by have := hlo gm hgm; have := o7 g hg; omega⟩
    · rw [e1] at hg
      have e2 : b' = g := Option.some.inj hg
      exact ⟨by omega, by omega, fun gm hgm e3 => by have := Mb.lt hgm; omega⟩
  have lb15 : b15 < wd.heap.size := Nat.lt_of_lt_of_le (hc.lt (i := 22) (by simp [keys]) rfl) kcd.size
  have lb11 : b11 < wd.heap.size := Nat.lt_of_lt_of_le (hc.lt (i := 19) (by simp [keys]) rfl) kcd.size
  intro we he
  refine ⟨fun y => y = b15 ∨ y = b11 ∨ y = b1 ∨ y = b, fun y hy => by simp [BlkIn, nth, blkOf, vaddr] at hy; omega, ?_⟩
  have Ee := Ed.same (shown_same he)
  have Me := Md.same (shown_same he)
  have Oe := hO'.same (shown_same he)
  have hrc : e'.R.length ≤ rc := hE.r.2.2.1
  refine den_slice ra e'.R.length rc (some (1 : Int)) none none 1 e'.R.length rc 1 u35 st37 (fun ρ h => h.1) (fun ρ h => congrArg some h.2.1) (fun _ _ => rfl) (fun _ _ => rfl) (.inl ⟨rfl, rfl⟩) (.inl ⟨rfl, rfl, rfl⟩) (.inr ⟨rfl, by omega⟩) (fun _ => rfl) (den_norm (by simp only [List.cons_append, List.nil_append]; rfl) ?_)
  intro wf hf
  refine ⟨fun y => y = b15 ∨ y = b11 ∨ y = b1 ∨ y = b ∨ y = m, fun y hy => by simp [BlkIn, nth, blkOf, vaddr] at hy; omega, ?_⟩
  have nbm : b ≠ m := h.ne
  have mb9 : ∀ g, (Value.slice xa (e'.L.eraseIdx i).length xc).ownBlock = some g → g ≠ b ∧ g ≠ m := fun g hg => by have := hlo g hg; omega
  have Ef := Ee.kept hf.kept (fun hy => by simp [BlkIn, nth, blkOf, vaddr] at hy; omega) (fun ad2 had2 hy => by have := (hE.ne1 ad2 had2).1; simp [BlkIn, nth, blkOf, vaddr] at hy; omega) (fun ad2 had2 hy => by have := (hE.ne2 ad2 had2).1; simp [BlkIn, nth, blkOf, vaddr] at hy; omega)
  have Mf := Me.kept hf.kept fun g hg hy => by have := (mb9 g hg).1; simp [BlkIn, nth, blkOf, vaddr] at hy; omega
  have Of := Oe.kept hf.kept fun g hg hy => by have := (hOb' g hg).1; simp [BlkIn, nth, blkOf, vaddr] at hy; omega
  refine den_update (ky := .u8) (vy := .u8) (.inl rfl) m e'.B u69 u5 rfl (fun wg hg => (Ef.same (shown_same hg)).map) (fun wg hg => ⟨fun _ => .inr (.inr (.inr (.inr rfl))), fun _ => .inr rfl, fun hin => by simp [BlkIn, nth, blkOf, vaddr] at hin; omega, fun hx => by cases hx⟩) (fun wg wh hg hM' kgh => ?_)
  have Eh : Rest wh b m (.slice ra e'.R.length rc) (.slice la e'.L.length lc) { e' with B := upd e'.B x.t x.p } := ⟨(Ef.r.same (shown_same hg)).kept kgh fun ad2 had2 => (hE.ne1 ad2 had2).2, (Ef.l.same (shown_same hg)).kept kgh fun ad2 had2 => (hE.ne2 ad2 had2).2, hM', hE.ne1, hE.ne2⟩
  have Mh := (Mf.same (shown_same hg)).kept kgh fun g hg2 hb => (mb9 g hg2).2 hb
  have Oh := (Of.same (shown_same hg)).kept kgh fun g hg2 hb => by have := (hOb' g hg2).1; omega
  have rt : Arr Go.Proofs.Ytfjlnfgbfclgbaa.hE wh (sliced ra 1 e'.R.length rc 1) R' := by
    have := Arr.sub (E := Go.Proofs.Ytfjlnfgbfclgbaa.hE) (l := 1) (k := e'.R.length) (m := rc) Eh.r.1 hR0 (Nat.le_refl _) (by omega)
    rw [List.take_length, hRe] at this
    rw [hRe]
    exact this
  have hsl : ∃ sa1 sc1, sliced ra 1 e'.R.length rc 1 = .slice sa1 R'.length sc1 ∧ (∀ ad2, sa1 = some ad2 → ∃ ad3, ra = some ad3 ∧ ad3.block = ad2.block) := by
    refine ⟨_, _, by unfold sliced; rw [show R'.length = e'.R.length - 1 by rw [hRe]; simp], fun ad2 h2 => ?_⟩
    split at h2
    · exact ⟨ad2, h2, rfl⟩
    · rw [hadv] at h2
      cases h2
      exact ⟨ad, hadv, (add_block ad _).symm⟩
  obtain ⟨sa1, sc1, hs1, hs1b⟩ := hsl
  rw [hs1] at rt
  have hs1a : ∀ ad2, vaddr (Value.slice sa1 R'.length sc1) = some ad2 → ∃ ad3, ra = some ad3 ∧ ad3.block = ad2.block := hs1b
  have hgiv : Given Go.Proofs.Ytfjlnfgbfclgbaa.hE wh (.slice sa1 R'.length sc1) R' := by
    refine ⟨rt, fun n' c' ee => ?_, ?_, fun ad2 h2 => ?_⟩
    · unfold sliced at hs1
      rw [hadv] at hs1
      simp only [Option.map_some] at hs1
      rw [ee] at hs1
      split at hs1 <;> cases hs1
    · have e5 : sc1 = rc - 1 := by unfold sliced at hs1; injection hs1 with _ _ e6; exact e6.symm
      show R'.length ≤ sc1
      have : (r0 :: R').length = R'.length + 1 := rfl
      omega
    · obtain ⟨ad3, h3, h4⟩ := hs1a ad2 h2
      rw [← h4]
      exact Eh.r.2.2.2 ad3 h3
  rw [hs1]
  have fOut : ∀ g, out'.ownBlock = some g → ∀ ad2, vaddr (Value.slice xa (e'.L.eraseIdx i).length xc) = some ad2 → ad2.block ≠ g := fun g hg2 ad2 h2 => (hOb' g hg2).2.2 ad2.block (hM.own h2)
  have lenN : (O ++ [(r0, resI x)]).length + R'.length = e.R.length := by
    have q : (r0 :: R').length = R'.length + 1 := rfl
    have q2 : (O ++ [(r0, resI x)]).length = O.length + 1 := by simp
    omega
  refine (den_leaf' fun wi hi2 => (if_pos rfl).mpr ⟨⟨out', O ++ [(r0, resI x)], ⟨e'.lim, e'.cfg, R', e'.L.eraseIdx i, upd e'.B x.t x.p⟩, .slice sa1 R'.length sc1, .slice xa (e'.L.eraseIdx i).length xc, by simp [SV.den, denL, IE.den, BE.den, nth, vint, vbool, vaddr, addO, addr_add], Oh.same (shown_same hi2), fun g hg2 => ⟨(hOb' g hg2).1, (hOb' g hg2).2.1⟩, ⟨hgiv.same (shown_same hi2), Mh.given.same (shown_same hi2), hM'.same (shown_same hi2), fun ad2 h2 => ?_, fun ad2 h2 => mb9 _ (hM.own h2)⟩, fun ad2 h2 => ?_, ⟨fun ad2 h2 => ?_, fun ad2 h2 => .inr (by have := hlo _ (hM.own h2); omega)⟩, fOut, hlim, hcfg, lenN, fun n hn => hok' n (List.mem_of_mem_eraseIdx hn), by rw [List.length_eraseIdx]; split <;> omega, ?_, ?_, ?_, ?_⟩, ?_⟩)
  · obtain ⟨ad3, h3, h4⟩ := hs1a ad2 h2
    rw [← h4]
    exact hE.ne1 ad3 h3
  · obtain ⟨ad3, h3, h4⟩ := hs1a ad2 h2
    rw [← h4]
    exact hRlt ad3 h3
  · obtain ⟨ad3, h3, h4⟩ := hs1a ad2 h2
    obtain ⟨ad4, h5, h6⟩ := hF1 ad3 h3
    exact ⟨ad4, h5, h6.trans h4⟩
  · rw [← d1, hstep]; simp
  · rw [← d2, hstep]
  · rw [← d3, hstep]
  · rw [← d4, hstep]
  · have q : (r0 :: R').length = R'.length + 1 := rfl
    show R'.length < e'.R.length
    omega
end Go.Proofs.Ytfjlnfgbfclgbaa
