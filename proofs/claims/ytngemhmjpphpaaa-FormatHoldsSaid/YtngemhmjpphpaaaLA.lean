/- What the specification's Unpack returns. No conditions beyond those that each theorem names. -/
import Derived.Test.YtngemhmjpphpaaaKA
import Derived.Test.YtngemhmjpphpaaaI
set_option maxRecDepth 100000
set_option maxHeartbeats 4000000
set_option linter.unusedVariables false
set_option linter.unusedSimpArgs false
namespace Go.Proofs.Ytngemhmjpphpaaa
open Go.Sx

def upE (z m : Int) (x : Bool) (t : Int) (fi : Bool) (A : Int) : Int := if fOk z m x t fi then exE A 4160 else 2
def blkU (z m : Nat) (D : List Int) (i : Nat) : Bl := ((D.drop (i * (z + m))).take z, (D.drop (i * (z + m) + z)).take m)
def upL (z m : Int) (x : Bool) (t : Int) (fi : Bool) (D : List Int) : List Bl :=
  if upE z m x t fi D.length = 0 then (List.range (per z m x t fi).toNat).map (blkU z.toNat m.toNat D) else []
/-- a result of Unpack -/
def UR (lo : Nat) (z m : Int) (x : Bool) (t : Int) (fi : Bool) (D : List Int) (v : Value) (w : World) : Prop :=
  ∃ s LV, v = .tuple #[s, .int .i64 (upE z m x t fi D.length)] ∧ Blks lo w s LV (upL z m x t fi D) ∧ LV.length ≤ vcap s
theorem ur_no {lo : Nat} {z m : Int} {x : Bool} {t : Int} {fi : Bool} {D : List Int} {w : World} (h : upE z m x t fi D.length ≠ 0) (e : Int) (he : e = upE z m x t fi D.length) : UR lo z m x t fi D (.tuple #[.slice none 0 0, .int .i64 e]) w := by
  subst he
  refine ⟨_, [], rfl, ?_, Nat.zero_le _⟩
  unfold upL
  rw [if_neg h]
  exact blks_nil

theorem c33 (z m : Int) (x : Bool) (t : Int) (fi : Bool) (sd : Value) (D : List Int) (w : World) (hd : Given byteE w sd D) :
    GivesR Try.prog 33 [fmtV z m x t fi, sd] w (fun v w' => UR w.heap.size z m x t fi D v w') := by
  obtain ⟨da, dc, rfl⟩ := hd.1.slice
  have hdc : D.length ≤ dc := hd.2.2.1
  refine givesR mix t33 rfl rfl (ε := [.int .i64 z, .int .i64 m, .bool x, .int .i64 t, .bool fi, .slice da D.length dc]) ⟨⟨_, rfl⟩, ⟨_, rfl⟩, ⟨_, rfl⟩, ⟨_, rfl⟩, ⟨_, rfl⟩, ⟨_, _, _, rfl⟩, trivial⟩ (den_blk fun b6 k6 _ _ => den_norm (by simp only [List.cons_append, List.nil_append]; rfl) ?_)
  have z6 : w.heap.size ≤ b6 := k6
  refine den_call_bool (b := fOk z m x t fi) (fun w1 h1 => c15 z m x t fi w1) rfl (fun w1 w2 h1 h2 => den_norm (by simp only [List.cons_append, List.nil_append]; rfl) (den_splitNot (fun hf => ?_) (fun hf => ?_)))
  · have hf' : fOk z m x t fi = false := by simpa [BE.den, nth, vbool] using hf
    have e : upE z m x t fi D.length = 2 := by simp [upE, hf']
    exact den_leafR _ rfl fun w3 h3 => ur_no (by rw [e]; decide) _ e.symm
  have hf' : fOk z m x t fi = true := by simpa [BE.den, nth, vbool] using hf
  have hp := fOk_parts hf'
  have eE : upE z m x t fi D.length = exE D.length 4160 := by simp [upE, hf']
  clear hf
  refine den_splitLt (fun e1 => ?_) (fun e1 => den_splitLt (fun e2 => ?_) (fun e2 => ?_))
  · have e1' : (D.length : Int) < 4160 := e1
    have e : upE z m x t fi D.length = 4 := by rw [eE]; simp [exE, e1']
    exact den_leafR _ rfl fun w3 h3 => ur_no (by rw [e]; decide) _ e.symm
  · have e2' : (4160 : Int) < (D.length : Int) := e2
    have e : upE z m x t fi D.length = 5 := by rw [eE]; simp [exE, e2', show ¬ (D.length : Int) < 4160 by omega]
    exact den_leafR _ rfl fun w3 h3 => ur_no (by rw [e]; decide) _ e.symm
  have hDl : D.length = 4160 := by
    have e1' : (4160 : Int) ≤ (D.length : Int) := e1
    have e2' : (D.length : Int) ≤ 4160 := e2
    omega
  clear e1 e2
  have hs0 : upE z m x t fi D.length = 0 := by rw [eE, hDl]; rfl
  obtain ⟨zz, rfl⟩ : ∃ k : Nat, z = k := ⟨z.toNat, by omega⟩
  obtain ⟨mm, rfl⟩ : ∃ k : Nat, m = k := ⟨m.toNat, by omega⟩
  have hpr := per_range hf'
  obtain ⟨nn, hnn⟩ : ∃ k : Nat, per zz mm x t fi = k := ⟨(per zz mm x t fi).toNat, by omega⟩
  have hul : upL zz mm x t fi D = (List.range nn).map (blkU zz mm D) := by
    unfold upL
    rw [if_pos hs0, hnn]
    rfl
  refine den_loop (fun ls w' => ∃ (j : Nat) (out : Value) (LV : List (Sl × Sl)), ls = [.int .i64 j, out] ∧ w2.heap.size ≤ w'.heap.size ∧ j ≤ nn ∧ LV.length = j ∧ Grow w2.heap.size w' out LV (blkU zz mm D)) (fun ls _ => nn - (vint (nth ls 0)).toNat) (fun w5 h5 => ⟨0, _, [], rfl, h5.kept.size, Nat.zero_le _, rfl, grow_nil⟩) ?_
  rintro w5 l w6 h5 hfl ⟨j, out, LV, rfl, z26, hj, hLn, hG⟩ hk6 hfa6
  obtain ⟨oa, oc, hov⟩ := hG.mine.slice
  have zw2 : w.heap.size ≤ w2.heap.size := Nat.le_trans h1.base.size h2.size
  have l6 : b6 < w2.heap.size := Nat.lt_of_lt_of_le (h1.lt (i := 6) (by simp [keys]) rfl) h2.size
  refine den_norm (by simp only [List.cons_append, List.nil_append]; rfl) ?_
  refine den_call_int (x := (nn : Int)) (fun w7 h7 => (c17 zz mm x t fi w7).to (by rw [hnn])) rfl (fun w7 w8 h7 h78 => den_norm (by simp only [List.cons_append, List.nil_append]; rfl) ?_)
  have hG8 := (hG.same (shown_same h7)).same h78
  have z28 : w2.heap.size ≤ w8.heap.size := Nat.le_trans z26 (Nat.le_trans h7.kept.size h78.size)
  refine den_splitLt (fun hlt => ?_) (fun hge => ?_)
  · have hjn : j < nn := by have h' : (j : Int) < nn := hlt
                            omega
    have hfit := per_fit hf' (j := j) (by omega)
    have eat : (j : Int) * ((zz : Int) + (mm : Int)) = ((j * (zz + mm) : Nat) : Int) := by push_cast; rfl
    have hblk : blkU zz mm D j = ((D.drop (j * (zz + mm))).take zz, (D.drop (j * (zz + mm) + zz)).take mm) := rfl
    generalize j * (zz + mm) = at0 at hfit eat hblk
    refine den_ob64 (by simp only [IE.den, nth, vint]; omega) (den_ob64 (by simp only [IE.den, nth, vint]; rw [eat]; omega) ?_)
    intro w9 h9
    have hG9 := hG8.same (shown_same h9)
    have z29 : w2.heap.size ≤ w9.heap.size := Nat.le_trans z28 h9.kept.size
    have hoM : ∀ g, out.ownBlock = some g → g < w9.heap.size := fun g hg => hG9.mine.lt hg
    refine ⟨fun _ => True, fun _ _ => trivial, ?_⟩
    refine den_ob64 (by simp only [IE.den, nth, vint]; rw [eat]; omega) ?_
    refine den_slice da D.length dc (some (at0 : Int)) (some ((at0 + zz : Nat) : Int)) none at0 (at0 + zz) dc 1 u40 st5 (fun ρ h => h.1) (fun ρ h => congrArg some (h.2.1.trans (by simp only [SV.den, IE.den, nth, vint]; rw [eat]))) (fun ρ h => congrArg some (h.2.2.1.trans (by simp only [SV.den, IE.den, nth, vint]; rw [eat]; push_cast; rfl))) (fun _ _ => rfl) (.inl ⟨rfl, rfl⟩) (.inr ⟨rfl, by omega⟩) (.inr ⟨rfl, by omega⟩) (fun _ => rfl) (den_norm (by simp only [List.cons_append, List.nil_append]; rfl) ?_)
    refine den_ob64 (by simp only [IE.den, nth, vint]; rw [eat]; omega) (den_ob64 (by simp only [IE.den, nth, vint]; rw [eat]; omega) (den_ob64 (by simp only [IE.den, nth, vint]; rw [eat]; omega) ?_))
    refine den_slice da D.length dc (some ((at0 + zz : Nat) : Int)) (some ((at0 + zz + mm : Nat) : Int)) none (at0 + zz) (at0 + zz + mm) dc 1 u40 st5 (fun ρ h => h.1) (fun ρ h => congrArg some (h.2.1.trans (by simp only [SV.den, IE.den, nth, vint]; rw [eat]; push_cast; rfl))) (fun ρ h => congrArg some (h.2.2.1.trans (by simp only [SV.den, IE.den, nth, vint]; rw [eat]; push_cast; rfl))) (fun _ _ => rfl) (.inl ⟨rfl, rfl⟩) (.inr ⟨rfl, by omega⟩) (.inr ⟨rfl, by omega⟩) (fun _ => rfl) (den_norm (by simp only [List.cons_append, List.nil_append]; rfl) ?_)
    have part1 : ∀ w', Same w w' → Arr byteE w' (sliced da at0 (at0 + zz) dc 1) ((D.drop at0).take zz) := fun w' hw' => by
      have := Arr.sub (E := byteE) (l := at0) (k := at0 + zz) (m := dc) (hd.same hw').1 (by omega) (by omega) (by omega)
      rw [List.drop_take, Nat.add_sub_cancel_left] at this
      exact this
    have part2 : ∀ w', Same w w' → Arr byteE w' (sliced da (at0 + zz) (at0 + zz + mm) dc 1) ((D.drop (at0 + zz)).take mm) := fun w' hw' => by
      have := Arr.sub (E := byteE) (l := at0 + zz) (k := at0 + zz + mm) (m := dc) (hd.same hw').1 (by omega) (by omega) (by omega)
      rw [List.drop_take, Nat.add_sub_cancel_left] at this
      exact this
    have len1 : ((D.drop at0).take zz).length ≤ 4096 := by rw [List.length_take]; omega
    have len2 : ((D.drop (at0 + zz)).take mm).length ≤ 64 := by rw [List.length_take]; omega
    have nil1 : ∀ n c, sliced da at0 (at0 + zz) dc 1 = .slice none n c → n = 0 ∧ c = 0 := sliced_nil (n := D.length) (c := dc) (fun n' c' e => hd.2.1 n' c' e) (by omega) (Nat.le_refl _)
    have nil2 : ∀ n c, sliced da (at0 + zz) (at0 + zz + mm) dc 1 = .slice none n c → n = 0 ∧ c = 0 := sliced_nil (n := D.length) (c := dc) (fun n' c' e => hd.2.1 n' c' e) (by omega) (Nat.le_refl _)
    have mine0 : ∀ {w' : World} {b : Nat} {p : Value}, p = .pointer (some ⟨b, 0, none⟩) → HasBlk w' p [] → Mine byteE 5 w' (.slice (some ⟨b, 0, none⟩) 0 0) ([] : List Int) := fun {w' b p} e hb => by
      obtain ⟨b', ty, hb', hh⟩ := hb
      rw [e] at hb'
      cases hb'
      exact .inr ⟨rfl, b, _, ty, rfl, hh⟩
    -- the end of each order: the block is appended
    have own_lo : ∀ {b0 : Nat} {wa : World} {d : Value} {N : Nat}, w9.heap.size ≤ b0 → w9.heap.size ≤ wa.heap.size → ((d.ownBlock = (Value.slice (some ⟨b0, 0, none⟩) 0 0).ownBlock ∧ vcap d = vcap (Value.slice (some ⟨b0, 0, none⟩) 0 0)) ∨ ∃ b, d.ownBlock = some b ∧ wa.heap.size ≤ b ∧ vcap (Value.slice (some ⟨b0, 0, none⟩) 0 0) < N) → ∀ g, d.ownBlock = some g → w9.heap.size ≤ g := fun h0 ha hfr g hg => by
      rcases hfr with ⟨e, _⟩ | ⟨b, e, hb, _⟩
      · rw [e] at hg; cases hg; exact h0
      · rw [e] at hg; cases hg; exact Nat.le_trans ha hb
    refine den_both (den_blk fun b13 k13 k13' _ => den_norm (by simp only [List.cons_append, List.nil_append]; rfl) (den_both ?_ (den_blk fun b14 k14 k14' _ => den_norm (by simp only [List.cons_append, List.nil_append]; rfl) ?_))) (den_blk fun b13 k13 k13' _ => den_norm (by simp only [List.cons_append, List.nil_append]; rfl) (den_blk fun b14 k14 k14' _ => den_norm (by simp only [List.cons_append, List.nil_append]; rfl) ?_))
    · refine den_appendL (E := byteE) (T := 5) rfl u40 i5 z5 s5 rfl (by decide) by5 byte_one (.slice (some ⟨b13, 0, none⟩) 0 0) _ [] _ (by simp [SV.den, nth, vaddr, addO, addr_add]) rfl nil1 (by simp; omega) (fun g hg hc => by simp [vcap] at hc) (by simp [keys]) (fun wa ha => ⟨mine0 rfl ha.facts.1, part1 wa ha.base⟩) (fun g hg hc => by simp [vcap] at hc) (fun _ g hg hc => by simp [vcap] at hc) (fun _ => rfl) (fun wa d1 wb ha hod1 ka fr1 hapd1 => den_norm (by simp only [List.cons_append, List.nil_append]; rfl) ?_)
      rw [List.nil_append] at hod1
      have ska : Same wa wb := ka.mono fun b _ hb => by simp [vcap] at hb
      have zwb : w9.heap.size ≤ wa.heap.size := Nat.le_trans (Nat.le_refl _) ha.kept.size

      have zb1 : w9.heap.size ≤ b13 := k13'
      have lo1 := own_lo zb1 zwb fr1
      have zwbb : w9.heap.size ≤ wb.heap.size := Nat.le_trans zwb ska.size
      refine den_blk fun b15 k15 k15' _ => den_norm (by simp only [List.cons_append, List.nil_append]; rfl) ?_
      refine den_appendL (E := byteE) (T := 5) rfl u40 i5 z5 s5 rfl (by decide) by5 byte_one (.slice (some ⟨b15, 0, none⟩) 0 0) _ [] _ (by simp [SV.den, nth, vaddr, addO, addr_add]) rfl nil2 (by simp; omega) (fun g hg hc => by simp [vcap] at hc) (by simp [keys]) (fun wc hc => ⟨mine0 rfl hc.facts.1, part2 wc hc.base⟩) (fun g hg hc => by simp [vcap] at hc) (fun _ g hg hc => by simp [vcap] at hc) (fun _ => rfl) (fun wc d2 wd hc hod2 kc fr2 hapd2 => den_norm (by simp only [List.cons_append, List.nil_append]; rfl) ?_)
      rw [List.nil_append] at hod2
      have skc : Same wc wd := kc.mono fun b _ hb => by simp [vcap] at hb
      have zwd : w9.heap.size ≤ wc.heap.size := Nat.le_trans (zwbb) hc.kept.size
      have zb2 : w9.heap.size ≤ b15 := k15'
      have lo2 := own_lo zb2 zwd fr2
      have hd1d := (hod1.same (shown_same hc)).same skc
      obtain ⟨e1, c1, hd1v⟩ := hod1.slice
      obtain ⟨e2, c2, hd2v⟩ := hod2.slice
      subst hd1v
      subst hd2v
      have hGd := (((hG9.same (shown_same ha)).same ska).same (shown_same hc)).same skc
      have zwdd : w9.heap.size ≤ wd.heap.size := Nat.le_trans zwd skc.size
      refine den_blk fun b17 k17 k17' _ => den_norm (by simp only [List.cons_append, List.nil_append]; rfl) ?_
      refine den_push (E := bvE) (T := 70) rfl u42 i70 z70 s70 rfl (by decide) by70 bv_one out LV (⟨e1, _, c1⟩, ⟨e2, _, c2⟩) rfl rfl rfl (by omega) (fun g hg _ => .inl (by have := hG9.lv g hg; exact Nat.le_trans zw2 this)) (by simp [keys]) (fun we he => (hGd.same (shown_same he)).mine) ?_ (fun _ _ _ _ => trivial) (fun _ => rfl) (fun we out' wf he hof kf hfrf hapf => den_norm (by simp only [List.cons_append, List.nil_append]; rfl) ?_)
      · intro g hg _ hin
        have q1 := hoM g hg
        have q2 := hG9.lv g hg
        have q3 : w9.heap.size ≤ b17 := k17'
        simp [BlkIn, nth, blkOf, vaddr] at hin
        omega
      have hGe := hGd.same (shown_same he)
      have hGf := hGe.push (by have q : wd.heap.size ≤ we.heap.size := he.kept.size; omega) (p := (⟨e1, _, c1⟩, ⟨e2, _, c2⟩)) ⟨by rw [hLn, hblk]; exact hd1d.same (shown_same he), by rw [hLn, hblk]; exact hod2.same (shown_same he), fun g hg => Nat.le_trans z29 (lo1 g hg), fun g hg => Nat.le_trans z29 (lo2 g hg)⟩ (fun g hg => ⟨fun e => by have := lo1 g e; have := hoM g hg; omega, fun e => by have := lo2 g e; have := hoM g hg; omega⟩) kf hof hfrf
      refine den_ob64 (by simp only [IE.den, nth, vint]; omega) (den_leaf' fun wg hg => (if_pos rfl).mpr ⟨⟨j + 1, out', LV ++ [(⟨e1, _, c1⟩, ⟨e2, _, c2⟩)], by simp [SV.den, denL, IE.den, BE.den, nth, vint, vbool, vaddr, addO, addr_add], Nat.le_trans z29 (Nat.le_trans zwdd (Nat.le_trans he.kept.size (Nat.le_trans kf.size hg.kept.size))), by omega, by simp [hLn], hGf.same (shown_same hg)⟩, ?_⟩)
      simp [SV.den, denL, IE.den, BE.den, nth, vint, vbool, vaddr, addO, addr_add]
      omega
    · refine den_appendL (E := byteE) (T := 5) rfl u40 i5 z5 s5 rfl (by decide) by5 byte_one (.slice (some ⟨b13, 0, none⟩) 0 0) _ [] _ (by simp [SV.den, nth, vaddr, addO, addr_add]) rfl nil1 (by simp; omega) (fun g hg hc => by simp [vcap] at hc) (by simp [keys]) (fun wa ha => ⟨mine0 rfl ha.facts.2.1, part1 wa ha.base⟩) (fun g hg hc => by simp [vcap] at hc) (fun _ g hg hc => by simp [vcap] at hc) (fun _ => rfl) (fun wa d1 wb ha hod1 ka fr1 hapd1 => den_norm (by simp only [List.cons_append, List.nil_append]; rfl) ?_)
      rw [List.nil_append] at hod1
      have ska : Same wa wb := ka.mono fun b _ hb => by simp [vcap] at hb
      have zwb : w9.heap.size ≤ wa.heap.size := Nat.le_trans (Nat.le_refl _) ha.kept.size

      have zb1 : w9.heap.size ≤ b13 := k13'
      have lo1 := own_lo zb1 zwb fr1
      have zwbb : w9.heap.size ≤ wb.heap.size := Nat.le_trans zwb ska.size
      refine den_appendL (E := byteE) (T := 5) rfl u40 i5 z5 s5 rfl (by decide) by5 byte_one (.slice (some ⟨b14, 0, none⟩) 0 0) _ [] _ (by simp [SV.den, nth, vaddr, addO, addr_add]) rfl nil2 (by simp; omega) (fun g hg hc => by simp [vcap] at hc) (by simp [keys]) (fun wc hc => ⟨mine0 rfl hc.facts.1, part2 wc hc.base⟩) (fun g hg hc => by simp [vcap] at hc) (fun _ g hg hc => by simp [vcap] at hc) (fun _ => rfl) (fun wc d2 wd hc hod2 kc fr2 hapd2 => den_norm (by simp only [List.cons_append, List.nil_append]; rfl) ?_)
      rw [List.nil_append] at hod2
      have skc : Same wc wd := kc.mono fun b _ hb => by simp [vcap] at hb
      have zwd : w9.heap.size ≤ wc.heap.size := Nat.le_trans (zwbb) hc.kept.size
      have zb2 : w9.heap.size ≤ b14 := k14'
      have lo2 := own_lo zb2 zwd fr2
      have hd1d := (hod1.same (shown_same hc)).same skc
      obtain ⟨e1, c1, hd1v⟩ := hod1.slice
      obtain ⟨e2, c2, hd2v⟩ := hod2.slice
      subst hd1v
      subst hd2v
      have hGd := (((hG9.same (shown_same ha)).same ska).same (shown_same hc)).same skc
      have zwdd : w9.heap.size ≤ wd.heap.size := Nat.le_trans zwd skc.size
      refine den_blk fun b17 k17 k17' _ => den_norm (by simp only [List.cons_append, List.nil_append]; rfl) ?_
      refine den_push (E := bvE) (T := 70) rfl u42 i70 z70 s70 rfl (by decide) by70 bv_one out LV (⟨e1, _, c1⟩, ⟨e2, _, c2⟩) rfl rfl rfl (by omega) (fun g hg _ => .inl (by have := hG9.lv g hg; exact Nat.le_trans zw2 this)) (by simp [keys]) (fun we he => (hGd.same (shown_same he)).mine) ?_ (fun _ _ _ _ => trivial) (fun _ => rfl) (fun we out' wf he hof kf hfrf hapf => den_norm (by simp only [List.cons_append, List.nil_append]; rfl) ?_)
      · intro g hg _ hin
        have q1 := hoM g hg
        have q2 := hG9.lv g hg
        have q3 : w9.heap.size ≤ b17 := k17'
        simp [BlkIn, nth, blkOf, vaddr] at hin
        omega
      have hGe := hGd.same (shown_same he)
      have hGf := hGe.push (by have q : wd.heap.size ≤ we.heap.size := he.kept.size; omega) (p := (⟨e1, _, c1⟩, ⟨e2, _, c2⟩)) ⟨by rw [hLn, hblk]; exact hd1d.same (shown_same he), by rw [hLn, hblk]; exact hod2.same (shown_same he), fun g hg => Nat.le_trans z29 (lo1 g hg), fun g hg => Nat.le_trans z29 (lo2 g hg)⟩ (fun g hg => ⟨fun e => by have := lo1 g e; have := hoM g hg; omega, fun e => by have := lo2 g e; have := hoM g hg; omega⟩) kf hof hfrf
      refine den_ob64 (by simp only [IE.den, nth, vint]; omega) (den_leaf' fun wg hg => (if_pos rfl).mpr ⟨⟨j + 1, out', LV ++ [(⟨e1, _, c1⟩, ⟨e2, _, c2⟩)], by simp [SV.den, denL, IE.den, BE.den, nth, vint, vbool, vaddr, addO, addr_add], Nat.le_trans z29 (Nat.le_trans zwdd (Nat.le_trans he.kept.size (Nat.le_trans kf.size hg.kept.size))), by omega, by simp [hLn], hGf.same (shown_same hg)⟩, ?_⟩)
      simp [SV.den, denL, IE.den, BE.den, nth, vint, vbool, vaddr, addO, addr_add]
      omega
    · refine den_appendL (E := byteE) (T := 5) rfl u40 i5 z5 s5 rfl (by decide) by5 byte_one (.slice (some ⟨b14, 0, none⟩) 0 0) _ [] _ (by simp [SV.den, nth, vaddr, addO, addr_add]) rfl nil1 (by simp; omega) (fun g hg hc => by simp [vcap] at hc) (by simp [keys]) (fun wa ha => ⟨mine0 rfl ha.facts.1, part1 wa ha.base⟩) (fun g hg hc => by simp [vcap] at hc) (fun _ g hg hc => by simp [vcap] at hc) (fun _ => rfl) (fun wa d1 wb ha hod1 ka fr1 hapd1 => den_norm (by simp only [List.cons_append, List.nil_append]; rfl) ?_)
      rw [List.nil_append] at hod1
      have ska : Same wa wb := ka.mono fun b _ hb => by simp [vcap] at hb
      have zwb : w9.heap.size ≤ wa.heap.size := Nat.le_trans (Nat.le_refl _) ha.kept.size

      have zb1 : w9.heap.size ≤ b14 := k14'
      have lo1 := own_lo zb1 zwb fr1
      have zwbb : w9.heap.size ≤ wb.heap.size := Nat.le_trans zwb ska.size
      refine den_appendL (E := byteE) (T := 5) rfl u40 i5 z5 s5 rfl (by decide) by5 byte_one (.slice (some ⟨b13, 0, none⟩) 0 0) _ [] _ (by simp [SV.den, nth, vaddr, addO, addr_add]) rfl nil2 (by simp; omega) (fun g hg hc => by simp [vcap] at hc) (by simp [keys]) (fun wc hc => ⟨mine0 rfl hc.facts.2.1, part2 wc hc.base⟩) (fun g hg hc => by simp [vcap] at hc) (fun _ g hg hc => by simp [vcap] at hc) (fun _ => rfl) (fun wc d2 wd hc hod2 kc fr2 hapd2 => den_norm (by simp only [List.cons_append, List.nil_append]; rfl) ?_)
      rw [List.nil_append] at hod2
      have skc : Same wc wd := kc.mono fun b _ hb => by simp [vcap] at hb
      have zwd : w9.heap.size ≤ wc.heap.size := Nat.le_trans (zwbb) hc.kept.size
      have zb2 : w9.heap.size ≤ b13 := k13'
      have lo2 := own_lo zb2 zwd fr2
      have hd1d := (hod1.same (shown_same hc)).same skc
      obtain ⟨e1, c1, hd1v⟩ := hod1.slice
      obtain ⟨e2, c2, hd2v⟩ := hod2.slice
      subst hd1v
      subst hd2v
      have hGd := (((hG9.same (shown_same ha)).same ska).same (shown_same hc)).same skc
      have zwdd : w9.heap.size ≤ wd.heap.size := Nat.le_trans zwd skc.size
      refine den_blk fun b17 k17 k17' _ => den_norm (by simp only [List.cons_append, List.nil_append]; rfl) ?_
      refine den_push (E := bvE) (T := 70) rfl u42 i70 z70 s70 rfl (by decide) by70 bv_one out LV (⟨e1, _, c1⟩, ⟨e2, _, c2⟩) rfl rfl rfl (by omega) (fun g hg _ => .inl (by have := hG9.lv g hg; exact Nat.le_trans zw2 this)) (by simp [keys]) (fun we he => (hGd.same (shown_same he)).mine) ?_ (fun _ _ _ _ => trivial) (fun _ => rfl) (fun we out' wf he hof kf hfrf hapf => den_norm (by simp only [List.cons_append, List.nil_append]; rfl) ?_)
      · intro g hg _ hin
        have q1 := hoM g hg
        have q2 := hG9.lv g hg
        have q3 : w9.heap.size ≤ b17 := k17'
        simp [BlkIn, nth, blkOf, vaddr] at hin
        omega
      have hGe := hGd.same (shown_same he)
      have hGf := hGe.push (by have q : wd.heap.size ≤ we.heap.size := he.kept.size; omega) (p := (⟨e1, _, c1⟩, ⟨e2, _, c2⟩)) ⟨by rw [hLn, hblk]; exact hd1d.same (shown_same he), by rw [hLn, hblk]; exact hod2.same (shown_same he), fun g hg => Nat.le_trans z29 (lo1 g hg), fun g hg => Nat.le_trans z29 (lo2 g hg)⟩ (fun g hg => ⟨fun e => by have := lo1 g e; have := hoM g hg; omega, fun e => by have := lo2 g e; have := hoM g hg; omega⟩) kf hof hfrf
      refine den_ob64 (by simp only [IE.den, nth, vint]; omega) (den_leaf' fun wg hg => (if_pos rfl).mpr ⟨⟨j + 1, out', LV ++ [(⟨e1, _, c1⟩, ⟨e2, _, c2⟩)], by simp [SV.den, denL, IE.den, BE.den, nth, vint, vbool, vaddr, addO, addr_add], Nat.le_trans z29 (Nat.le_trans zwdd (Nat.le_trans he.kept.size (Nat.le_trans kf.size hg.kept.size))), by omega, by simp [hLn], hGf.same (shown_same hg)⟩, ?_⟩)
      simp [SV.den, denL, IE.den, BE.den, nth, vint, vbool, vaddr, addO, addr_add]
      omega
  · have hjn : j = nn := by have h' : (nn : Int) ≤ j := hge
                            omega
    refine den_leaf' fun w9 h9 => (if_neg (by decide)).mpr ⟨_, rfl, ⟨out, LV, by simp [SV.den, denL, IE.den, BE.den, nth, vint, vbool, vaddr, addO, addr_add, hs0], ?_, hG8.mine.cap⟩, h9.base⟩
    rw [hul]
    have hB := (hG8.same (shown_same h9)).blks (n := nn) (by omega)
    exact ⟨hB.arr, hB.len, fun ad had => Nat.le_trans zw2 (hB.at_ ad had), fun i p q hp hq => by
      obtain ⟨q1, q2, q3, q4⟩ := hB.each i p q hp hq
      exact ⟨q1, q2, fun ad had => Nat.le_trans zw2 (q3 ad had), fun ad had => Nat.le_trans zw2 (q4 ad had)⟩⟩
end Go.Proofs.Ytngemhmjpphpaaa

/- What Unpack returns. No conditions beyond those that each theorem names. -/
set_option maxRecDepth 100000
set_option maxHeartbeats 4000000
set_option linter.unusedVariables false
set_option linter.unusedSimpArgs false
namespace Go.Proofs.Ytngemhmjpphpaaa
open Go.Sx

theorem c50 (p1 p2 z m : Nat) (x : Bool) (t : Int) (fi : Bool) (lo pd : Nat) (D : List Int) (k : Int) (w : World)
    (hp1 : PtsTo w (pt p1) [.func (.func 53) #[] #[pt pd]]) (hp2 : PtsTo w (pt p2) [.int .i64 z, .int .i64 m, .bool x, .int .i64 t, .bool fi]) (hs : Src lo pd w D) (hlo : lo ≤ pd) (hne : pd ≠ p1 ∧ pd ≠ p2) (hl : z + m ≤ D.length) (hz : z ≤ 4096) (hm : m ≤ 64) :
    Runs Try.prog 50 [.int .i64 k, pt p1, pt p2] w (fun b => b = pd) (fun v w' => ∃ q : Sl × Sl, v = .agg #[q.1.v, q.2.v] ∧ BlkIs w.heap.size w' q (D.take z, (D.drop z).take m) ∧ Src lo pd w' (D.drop (z + m))) := by
  have h := runs mix t50 rfl rfl (ε := [.int .i64 k, pt p1, pt p2]) (heap := []) (w := w) (M := fun b => b = pd) (R := fun v w' => ∃ q : Sl × Sl, v = .agg #[q.1.v, q.2.v] ∧ BlkIs w.heap.size w' q (D.take z, (D.drop z).take m) ∧ Src lo pd w' (D.drop (z + m))) ⟨⟨_, rfl⟩, ⟨_, rfl⟩, ⟨_, rfl⟩, trivial⟩ trivial (by simp [keys]) (by simp [keys]) (by simp [keys]) ?_
  · simpa [denL, SV.den, IE.den, nth, vint, vaddr, addO, addr_add] using h
  have l1 := hp1.lt (by simp) p1 rfl
  have l2 := hp2.lt (by simp) p2 rfl
  have lpd := hs.lt
  have z0s : ∀ (i : Nat) (v : Value), [Value.int .i64 z][i]? = some v → [Value.int .i64 z, .int .i64 m, .bool x, .int .i64 t, .bool fi][0 + i]? = some v := fun i v hv => by cases i with | zero => exact hv | succ i => simp at hv
  have z1s : ∀ (i : Nat) (v : Value), [Value.int .i64 m][i]? = some v → [Value.int .i64 z, .int .i64 m, .bool x, .int .i64 t, .bool fi][1 + i]? = some v := fun i v hv => by cases i with | zero => exact hv | succ i => simp at hv
  have Xno : ∀ b, b < w.heap.size → (b = p1 ∨ b = p2) → ¬ (b = pd ∨ w.heap.size ≤ b) := fun b hb he hx => by omega
  refine den_blk fun b3 k3 _ _ => den_norm (by simp only [List.cons_append, List.nil_append]; rfl) ?_
  have z3 : w.heap.size ≤ b3 := k3
  intro w1 h1w
  refine ⟨fun b => b = pd ∨ w.heap.size ≤ b, fun b hb => by simp [BlkIn, nth, blkOf, vaddr] at hb; subst hb; exact .inr z3, ?_⟩
  have s01 : Same w w1 := shown_same h1w
  have z01 := s01.size
  refine den_ldpD (i := 1) [.func (.func 53) #[] #[pt pd]] _ ⟨rfl, trivial⟩ (whole _) (hp1.same s01) (fun b hb => by cases hb; exact Xno p1 l1 (.inl rfl)) (den_norm (by simp only [List.cons_append, List.nil_append]; rfl) ?_)
  refine den_notnil (i := 2) (hp2.same s01) ?_
  refine den_ldpD (i := 2) [.int .i64 z] _ ⟨⟨_, rfl⟩, trivial⟩ z0s (hp2.same s01) (fun b hb => by cases hb; exact Xno p2 l2 (.inr rfl)) (den_norm (by simp only [List.cons_append, List.nil_append]; rfl) ?_)
  refine den_ldpD (i := 1) [.func (.func 53) #[] #[pt pd]] _ ⟨rfl, trivial⟩ (whole _) (hp1.same s01) (fun b hb => by cases hb; exact Xno p1 l1 (.inl rfl)) (den_norm (by simp only [List.cons_append, List.nil_append]; rfl) ?_)
  refine den_ldpD (i := 2) [.int .i64 m] _ ⟨⟨_, rfl⟩, trivial⟩ z1s (hp2.same s01) (fun b hb => by cases hb; exact Xno p2 l2 (.inr rfl)) (den_norm (by simp only [List.cons_append, List.nil_append]; rfl) ?_)
  have hs1 := hs.kept s01 fun _ h => h.elim
  refine den_callF (caps := [pt pd]) (g := 53) rfl rfl go53 (fun _ b => b = pd) (fun _ l w3 => ∃ s : Sl, l = [s.v] ∧ Old lo w3 s (D.take z) ∧ Src lo pd w3 (D.drop z)) (fun w2 hw2 b hb _ => ⟨fun _ => .inl hb, fun _ => hb, fun hin => ?_, fun hx => (by cases hx)⟩) (fun w2 hw2 => ?_) (fun w2 l w3 hw2 hfl hR kw3 => ?_)
  · simp [BlkIn, nth, blkOf, vaddr] at hin
    omega
  · exact (c53 lo pd z D w2 (hs1.kept (shown_same hw2) fun _ h => h.elim) hlo (by omega)).mono (fun v w' ⟨s, hv, ho, hj⟩ _ => ⟨[s.v], ⟨⟨_, _, _, rfl⟩, trivial⟩, hv, s, rfl, ho, hj⟩) (fun _ _ h => h)
  obtain ⟨s1, rfl, hO, hs3⟩ := hR
  have z3w : w.heap.size ≤ w3.heap.size := Nat.le_trans z01 (Nat.le_trans hw2.kept.size kw3.size)
  have lb3 : b3 < w3.heap.size := Nat.lt_of_lt_of_le (hw2.lt (i := 3) (by simp [keys]) rfl) kw3.size
  refine den_norm (by simp only [List.cons_append, List.nil_append]; rfl) ?_
  refine den_callR (fun w2 l w3 => ∃ v, l = [v] ∧ Mine byteE 5 w3 v (D.take z) ∧ ∀ g, v.ownBlock = some g → w2.heap.size ≤ g) (fun w4 hw4 => ?_) (fun w4 l w5 hw4 hfl hR kw5 => ?_)
  · refine (c45 _ (D.take z) w4 (hO.same (shown_same hw4)).1.1 (by rw [List.length_take]; omega)).mono fun v w' ⟨q1, q2, _⟩ => ?_
    obtain ⟨va, vc, hv⟩ := q1.slice
    exact ⟨[v], ⟨⟨_, _, _, hv⟩, trivial⟩, rfl, v, rfl, q1, q2⟩
  obtain ⟨cl, rfl, hC, oC⟩ := hR
  have hs5 := (hs3.kept (shown_same hw4) fun _ h => h.elim).kept kw5 fun _ h => h.elim
  have z34 : w3.heap.size ≤ w4.heap.size := hw4.kept.size
  have oC' : ∀ g, cl.ownBlock = some g → w3.heap.size ≤ g := fun g hg => Nat.le_trans z34 (oC g hg)
  refine den_norm (by simp only [List.cons_append, List.nil_append]; rfl) ?_
  refine den_callF (caps := [pt pd]) (g := 53) rfl rfl go53 (fun _ b => b = pd) (fun _ l w3 => ∃ s : Sl, l = [s.v] ∧ Old lo w3 s ((D.drop z).take m) ∧ Src lo pd w3 ((D.drop z).drop m)) (fun w2 hw2 b hb _ => ⟨fun _ => .inl hb, fun _ => hb, fun hin => ?_, fun hx => (by cases hx)⟩) (fun w6 hw6 => ?_) (fun w6 l w7 hw6 hfl hR kw7 => ?_)
  · simp [BlkIn, nth, blkOf, vaddr] at hin
    omega
  · exact (c53 lo pd m _ w6 (hs5.kept (shown_same hw6) fun _ h => h.elim) hlo (by rw [List.length_drop]; omega)).mono (fun v w' ⟨s, hv, ho, hj⟩ _ => ⟨[s.v], ⟨⟨_, _, _, rfl⟩, trivial⟩, hv, s, rfl, ho, hj⟩) (fun _ _ h => h)
  obtain ⟨s2, rfl, hO2, hs7⟩ := hR
  have hC7 := (hC.same (shown_same hw6)).kept kw7 fun g hg hb => by have := oC' g hg; omega
  refine den_norm (by simp only [List.cons_append, List.nil_append]; rfl) ?_
  refine den_callR (fun w2 l w3 => ∃ v, l = [v] ∧ Mine byteE 5 w3 v ((D.drop z).take m) ∧ ∀ g, v.ownBlock = some g → w2.heap.size ≤ g) (fun w8 hw8 => ?_) (fun w8 l w9 hw8 hfl hR kw9 => ?_)
  · refine (c45 _ ((D.drop z).take m) w8 (hO2.same (shown_same hw8)).1.1 (by rw [List.length_take]; omega)).mono fun v w' ⟨q1, q2, _⟩ => ?_
    obtain ⟨va, vc, hv⟩ := q1.slice
    exact ⟨[v], ⟨⟨_, _, _, hv⟩, trivial⟩, rfl, v, rfl, q1, q2⟩
  obtain ⟨cm, rfl, hM, oM⟩ := hR
  have z78 : w3.heap.size ≤ w8.heap.size := by
    have q1 := kw5.size
    have q2 : w5.heap.size ≤ w6.heap.size := hw6.kept.size
    have q3 := kw7.size
    have q4 : w7.heap.size ≤ w8.heap.size := hw8.kept.size
    omega
  have oM' : ∀ g, cm.ownBlock = some g → w3.heap.size ≤ g := fun g hg => Nat.le_trans z78 (oM g hg)
  have hC9 := (hC7.same (shown_same hw8)).same kw9
  have hs9 := (hs7.kept (shown_same hw8) fun _ h => h.elim).kept kw9 fun _ h => h.elim
  rw [List.drop_drop] at hs9
  obtain ⟨ca, cc, hcl⟩ := hC9.slice
  subst hcl
  obtain ⟨ma, mc, hcm⟩ := hM.slice
  subst hcm
  refine den_norm (by simp only [List.cons_append, List.nil_append]; rfl) (den_leafA _ rfl (fun w13 hw13 => ?_))
  refine ⟨(⟨ca, _, cc⟩, ⟨ma, _, mc⟩), rfl, ⟨hC9.kept hw13.kept fun g hg hb => ?_, hM.kept hw13.kept fun g hg hb => ?_, fun g hg => Nat.le_trans z3w (oC' g hg), fun g hg => Nat.le_trans z3w (oM' g hg)⟩, hs9.kept hw13.kept fun b hb => ?_⟩
  · have := oC' g hg
    have e : b3 = g := (by simpa [BlkIn, nth, blkOf, vaddr] using hb)
    omega
  · have := oM' g hg
    have e : b3 = g := (by simpa [BlkIn, nth, blkOf, vaddr] using hb)
    omega
  · have e : b3 = b := (by simpa [BlkIn, nth, blkOf, vaddr] using hb)
    subst e
    omega
theorem go50 : goFunc Try.prog 50 = true := by kernel_rfl
/-- all blocks of a sector -/
theorem c43u (n z m : Nat) (x : Bool) (t : Int) (fi : Bool) (lo p1 p2 pd : Nat) (D : List Int) (w : World) (hn : n ≤ 65536) (hm : m ≤ 64) (hz : z ≤ 4096) (hlen : n * (z + m) ≤ D.length)
    (h1 : PtsTo w (pt p1) [.func (.func 53) #[] #[pt pd]]) (h2 : PtsTo w (pt p2) [.int .i64 z, .int .i64 m, .bool x, .int .i64 t, .bool fi])
    (hd : Src lo pd w D) (hlo : lo ≤ pd) (hpd : pd ≠ p1 ∧ pd ≠ p2) :
    Runs Try.prog 43 [.int .i64 n, .func (.func 50) #[] #[pt p1, pt p2]] w (fun b => b = pd) (fun v w' => ∃ LV, BlksNew w.heap.size w' v LV ((List.range n).map (blkU z m D))) := by
  have l1 := h1.lt (by simp) p1 rfl
  have l2 := h2.lt (by simp) p2 rfl
  have lpd := hd.lt
  refine (c43 n 50 [pt p1, pt p2] _ (blkU z m D) (fun k w' => (PtsTo w' (pt p1) [.func (.func 53) #[] #[pt pd]] ∧ PtsTo w' (pt p2) [.int .i64 z, .int .i64 m, .bool x, .int .i64 t, .bool fi]) ∧ Src lo pd w' (D.drop (k * (z + m)))) (fun b => b = pd) w hn rfl go50 (fun b hb => by rw [hb]; exact lpd) ⟨⟨h1, h2⟩, by simpa using hd⟩ ?_ ?_).mono (fun v w' ⟨LV, h, _⟩ _ => ⟨LV, h⟩) (fun _ _ h => h)
  · rintro k w1 w2 N ⟨⟨h1, h2⟩, h3⟩ hk hN
    exact ⟨⟨h1.kept hk fun b hb hm => by have e : p1 = b := Option.some.inj hb; have := hN b hm; omega, h2.kept hk fun b hb hm => by have e : p2 = b := Option.some.inj hb; have := hN b hm; omega⟩, h3.kept hk fun b hb => by have := hN b hb; omega⟩
  rintro k w1 hkn ⟨⟨hj1, hj2⟩, hs1⟩ hw1
  have hkl : k * (z + m) + (z + m) ≤ D.length := by
    have : (k + 1) * (z + m) ≤ n * (z + m) := Nat.mul_le_mul_right _ hkn
    rw [Nat.succ_mul] at this
    omega
  refine (c50 p1 p2 z m x t fi lo pd _ k w1 hj1 hj2 hs1 hlo hpd (by rw [List.length_drop]; omega) hz hm).mono (fun v w2 ⟨q, hv, hq, hs2⟩ hk2 => ⟨q, hv, ?_, ⟨⟨hj1.kept hk2 fun b hb hm => by have e : p1 = b := Option.some.inj hb; omega, hj2.kept hk2 fun b hb hm => by have e : p2 = b := Option.some.inj hb; omega⟩, ?_⟩⟩) (fun _ _ h => h)
  · rw [List.drop_drop] at hq
    exact hq
  · rw [List.drop_drop] at hs2
    rw [Nat.succ_mul]
    exact hs2

theorem c32 (z m : Int) (x : Bool) (t : Int) (fi : Bool) (sd : Value) (D : List Int) (w : World) (hd : Given byteE w sd D) :
    GivesR Try.prog 32 [fmtV z m x t fi, sd] w (fun v w' => UR w.heap.size z m x t fi D v w') := by
  obtain ⟨da, dc, rfl⟩ := hd.1.slice
  refine givesR mix t32 rfl rfl (ε := [.int .i64 z, .int .i64 m, .bool x, .int .i64 t, .bool fi, .slice da D.length dc]) ⟨⟨_, rfl⟩, ⟨_, rfl⟩, ⟨_, rfl⟩, ⟨_, rfl⟩, ⟨_, rfl⟩, ⟨_, _, _, rfl⟩, trivial⟩ (den_blk fun b6 k6 _ _ => den_norm (by simp only [List.cons_append, List.nil_append]; rfl) ?_)
  have z6 : w.heap.size ≤ b6 := k6
  refine den_call_bool (b := fOk z m x t fi) (fun w1 h1 => c14 z m x t fi w1) rfl (fun w1 w2 h1 h2 => den_norm (by simp only [List.cons_append, List.nil_append]; rfl) (den_splitNot (fun hf => ?_) (fun hf => ?_)))
  · have hf' : fOk z m x t fi = false := by simpa [BE.den, nth, vbool] using hf
    have e : upE z m x t fi D.length = 2 := by simp [upE, hf']
    exact den_leafR _ rfl fun w3 h3 => ur_no (by rw [e]; decide) _ e.symm
  have hf' : fOk z m x t fi = true := by simpa [BE.den, nth, vbool] using hf
  have hp := fOk_parts hf'
  have eE : upE z m x t fi D.length = exE D.length 4160 := by simp [upE, hf']
  clear hf
  refine den_call_int (x := exE D.length 4160) (fun w5 _ => c41 _ _ _ _ w5) rfl (fun w5 w6 h5 h6 => den_norm (by simp only [List.cons_append, List.nil_append]; rfl) (den_splitNot (fun e1 => ?_) (fun e1 => ?_)))
  · have e1' : exE D.length 4160 ≠ 0 := by
      simp only [BE.den, IE.den, nth, vint] at e1
      exact of_decide_eq_false e1
    exact den_leafR _ rfl fun w7 _ => ur_no (by rw [eE]; exact e1') _ eE.symm
  have e1' : exE D.length 4160 = 0 := by
    simp only [BE.den, IE.den, nth, vint] at e1
    exact of_decide_eq_true e1
  clear e1
  have hDl : D.length = 4160 := by have := exE_zero e1'; omega
  have hs0 : upE z m x t fi D.length = 0 := by rw [eE]; exact e1'
  obtain ⟨zz, rfl⟩ : ∃ k : Nat, z = k := ⟨z.toNat, by omega⟩
  obtain ⟨mm, rfl⟩ : ∃ k : Nat, m = k := ⟨m.toNat, by omega⟩
  have hpr := per_range hf'
  obtain ⟨nn, hnn⟩ : ∃ k : Nat, per zz mm x t fi = k := ⟨(per zz mm x t fi).toNat, by omega⟩
  have hul : upL zz mm x t fi D = (List.range nn).map (blkU zz mm D) := by
    unfold upL
    rw [if_pos hs0, hnn]
    rfl
  have hfit := per_fit hf' (j := nn - 1) (by omega)
  have hfit' : nn * (zz + mm) ≤ D.length := by
    rw [← Nat.succ_mul, show (nn - 1).succ = nn by omega] at hfit
    omega
  refine den_callR (fun w9 l w10 => ∃ b, l = [.func (.func 53) #[] #[pt b]] ∧ w9.heap.size ≤ b ∧ HasBlk w10 (pt b) [.slice da D.length dc]) (fun w9 h9 => ?_) (fun w9 l w10 h9 hfl hR h910 => ?_)
  · refine (c42 _ w9 ⟨_, _, _, rfl⟩).mono fun v w' ⟨b, hb, hv, hh⟩ => ⟨[v], ?_, rfl, b, by rw [hv], hb, hh⟩
    subst hv
    exact ⟨rfl, trivial⟩
  obtain ⟨pd, rfl, hpd, hbd⟩ := hR
  have z9w : w.heap.size ≤ w9.heap.size := h9.base.size
  have lpd : pd < w10.heap.size := hbd.pts.lt (by simp) pd rfl
  have l6 : b6 < w9.heap.size := h9.lt (i := 6) (by simp [keys]) rfl
  refine den_norm (by simp only [List.cons_append, List.nil_append]; rfl) (den_blk fun b10 k10 k10' k100 => den_norm (by simp only [List.cons_append, List.nil_append]; rfl) ?_)
  have z10 : w.heap.size ≤ b10 := k100
  have n10 : w10.heap.size ≤ b10 := k10'
  refine den_call_int (x := (nn : Int)) (fun w11 h11 => (c16 zz mm x t fi w11).to (by rw [hnn])) rfl (fun w11 w12 h11 h1112 => den_norm (by simp only [List.cons_append, List.nil_append]; rfl) ?_)
  have hbd12 : HasBlk w12 (pt pd) [.slice da D.length dc] := by
    obtain ⟨b, ty, e, hh⟩ := hbd
    cases e
    have s1 : w11.heap[pd]? = w10.heap[pd]? := h11.kept.block pd lpd fun hb => by have e : b10 = pd := (by simpa [BlkIn, nth, blkOf, vaddr] using hb); omega
    have s2 : w12.heap[pd]? = w11.heap[pd]? := h1112.block pd (Nat.lt_of_lt_of_le lpd h11.kept.size) fun h => h
    exact ⟨pd, ty, rfl, s2.trans (s1.trans hh)⟩
  refine den_callM (fun _ b => b = pd) (fun w14 l w15 => ∃ s LV, l = [s] ∧ Blks w.heap.size w15 s LV ((List.range nn).map (blkU zz mm D)) ∧ LV.length ≤ vcap s) (fun w14 h14 b hb hlt => ⟨fun hd => (by cases hd), fun hlt2 => absurd (show b < w.heap.size from hlt2) (by omega), fun hin => ?_, fun hx => (by cases hx)⟩) (fun w14 h14 => ?_) (fun w14 l w15 h14 hfl hR hk15 => ?_)
  · simp [BlkIn, nth, blkOf, vaddr] at hin
    omega
  · have hbd14 : HasBlk w14 (pt pd) [.slice da D.length dc] := by
      obtain ⟨b, ty, e, hh⟩ := hbd12
      cases e
      exact ⟨pd, ty, rfl, ((shown_same h14).block pd (Array.getElem?_eq_some_iff.1 hh).1 (fun h => h)).trans hh⟩
    have f10 : HasBlk w14 (pt b10) _ := h14.facts.1
    have f6 : HasBlk w14 (pt b6) _ := h14.facts.2.1
    have oldD : Old w.heap.size w14 ⟨da, D.length, dc⟩ D := (given_old hd).same h14.base
    have srcD : Src w.heap.size pd w14 D := ⟨⟨da, D.length, dc⟩, hbd14, oldD⟩
    have := c43u nn zz mm x t fi w.heap.size b10 b6 pd D w14 (by omega) (by omega) (by omega) hfit' f10.pts f6.pts srcD (by omega) ⟨by omega, by omega⟩
    refine Runs.mono (R := fun v w' => ∃ LV, BlksNew w14.heap.size w' v LV ((List.range nn).map (blkU zz mm D))) (M := fun b => b = pd) (by simpa [denL, SV.den, IE.den, nth, vint, vaddr, addO, addr_add] using this) (fun v w' ⟨LV, hn⟩ _ => ?_) (fun _ _ h => h)
    obtain ⟨va, vc, hv⟩ := hn.mine.slice
    have hz := h14.base.size
    have hB := hn.blks
    exact ⟨[v], ⟨⟨_, _, _, hv⟩, trivial⟩, rfl, ⟨v, LV, rfl, ⟨hB.arr, hB.len, fun ad had => Nat.le_trans hz (hB.at_ ad had), fun i p q hp hq => by
      obtain ⟨q1, q2, q3, q4⟩ := hB.each i p q hp hq
      exact ⟨q1, q2, fun ad had => Nat.le_trans hz (q3 ad had), fun ad had => Nat.le_trans hz (q4 ad had)⟩⟩, hn.mine.cap⟩, trivial⟩
  obtain ⟨s, LV, rfl, hB, hcap⟩ := hR
  refine den_norm (by simp only [List.cons_append, List.nil_append]; rfl) (den_leafR _ rfl fun w16 h16 => ⟨s, LV, by simp [SV.den, denL, IE.den, BE.den, nth, vint, vbool, vaddr, addO, addr_add, hs0], ?_, hcap⟩)
  rw [hul]
  exact hB.same (shown_same h16)
end Go.Proofs.Ytngemhmjpphpaaa
