/- The comparison of a device with its reference. No conditions beyond those that each theorem names. -/
import Derived.Test.YtppbapnibpeolaaZA
set_option maxRecDepth 100000
set_option maxHeartbeats 4000000
set_option linter.unusedVariables false
set_option linter.unusedSimpArgs false
namespace Go.Proofs.Ytppbapnibpeolaa
open Go.Sx

section
variable {w w' : World} {S T S' T' M : Nat → Prop} {b mf : Nat} {sB : Value} {Lb : List Bv} {d : Dv} {fv pv ev : Value} {Fl : List Int} {PV : List Sl} {RP : List (List Rv)}
theorem c16 (w : World) (h : DevM w S T b mf sB Lb d) (hw : Wf d) (hr : RfAt w S d fv pv ev Fl PV RP) : Gives Try.prog 16 [pt b, refV d.g fv pv ev d.n d.cut d.cb d.off] w (.bool true) := by
  obtain ⟨fa, fc, e1⟩ := hr.f.1.slice
  obtain ⟨pa, pc, e2⟩ := hr.p.1.slice
  obtain ⟨ea, ec, e3⟩ := hr.e.1.slice
  subst e1 e2 e3
  have b0 := hw.b0
  have b1 := hw.b1
  have p0 := hw.p0
  have p1 := hw.p1
  refine gives mix t16 rfl rfl (ε := [pt b, .int .i64 d.g.b, .int .i64 d.g.p, .int .i64 d.g.s, .int .i64 d.g.e, .slice fa Fl.length fc, .slice pa PV.length pc, .slice ea d.ers.length ec, .int .i64 d.n, .int .i64 d.cut, .int .i64 d.cb, .bool d.off]) ⟨⟨_, rfl⟩, ⟨_, rfl⟩, ⟨_, rfl⟩, ⟨_, rfl⟩, ⟨_, rfl⟩, ⟨_, _, _, rfl⟩, ⟨_, _, _, rfl⟩, ⟨_, _, _, rfl⟩, ⟨_, rfl⟩, ⟨_, rfl⟩, ⟨_, rfl⟩, ⟨_, rfl⟩, trivial⟩ (den_blk fun b12 k12 _ _ => den_norm (by simp only [List.cons_append, List.nil_append]; rfl) ?_)
  have z12 : w.heap.size ≤ b12 := k12
  refine den_start1 fun w1 h1 => ?_
  have s1 : Same w w1 := h1.base
  refine den_m23 rfl (!d.off) rfl rfl (fun _ => rfl) (fun wa ha => (h.same s1).same (shown_same ha)) hw (fun w2 w3 h2 k23 => den_norm (by simp only [List.cons_append, List.nil_append]; rfl) ?_)
  have s3 := (s1.trans (shown_same h2)).trans k23
  refine den_split_false (by show ((!d.off) == d.off) = false; cases d.off <;> rfl) ?_
  refine den_call [.int .i64 d.g.b, .int .i64 d.g.p, .int .i64 d.g.s, .int .i64 d.g.e] ⟨⟨_, rfl⟩, ⟨_, rfl⟩, ⟨_, rfl⟩, ⟨_, rfl⟩, trivial⟩ rfl (fun w4 h4 => c24 w4 ((h.same s3).same (shown_same h4)) hw) (fun w4 w5 h4 k45 => den_norm (by simp only [List.cons_append, List.nil_append]; rfl) ?_)
  have s5 := (s3.trans (shown_same h4)).trans k45
  refine den_pur [.bool false] ⟨⟨_, rfl⟩, trivial⟩ (fun ρ hρ w' _ => ?_) (den_norm (by simp only [List.cons_append, List.nil_append]; rfl) ?_)
  · have e1 := hρ _ (List.mem_cons_self ..)
    have e2 := hρ _ (List.mem_cons_of_mem _ (List.mem_cons_self ..))
    obtain ⟨k1, k2⟩ := flatG d.g d.g
    have := run_neqFlat un23 sh23 gu23 _ _ k1 ρ _ _ 23 4 e1 e2 w'
    rw [k2, eqG_refl] at this
    exact this
  refine den_split_false rfl ?_
  refine den_m25 rfl d.n rfl rfl (fun _ => rfl) (fun wa ha => (h.same s5).same (shown_same ha)) hw (fun w6 w7 h6 k67 => den_norm (by simp only [List.cons_append, List.nil_append]; rfl) ?_)
  have s7 := (s5.trans (shown_same h6)).trans k67
  refine den_split_false (by simp [BE.den, IE.den, nth, vint]) ?_
  refine den_loop (fun ls w' => ∃ B : Int, ls = [.int .i64 B] ∧ -1 ≤ B ∧ B ≤ d.g.b + 1 ∧ Same w w') (fun ls _ => (d.g.b + 1 - vint (nth ls 0)).toNat) (fun w8 g8 => ⟨-1, rfl, by omega, by omega, s7.trans (shown_same g8)⟩) ?_
  rintro w8 l w9 g8 hfl ⟨B, rfl, hB1, hB2, s9⟩ hk9 hfa9
  refine den_norm (by simp only [List.cons_append, List.nil_append]; rfl) (den_splitLe (fun hle => ?_) (fun hgt => ?_))
  rotate_left
  · exact den_leaf_ne (by decide) (den_leaf rfl)
  have hle' : B ≤ d.g.b := hle
  refine den_call_bool (b := d.hasB B) (fun w10 h10 => c45 B w10 ((hr.same s9).same (shown_same h10))) rfl (fun w10 w11 h10 k11 => den_norm (by simp only [List.cons_append, List.nil_append]; rfl) (den_split (fun hb => ?_) (fun hb => ?_)))
  · have hb' : d.hasB B = true := hb
    have s11 := (s9.trans (shown_same h10)).trans k11
    obtain ⟨j, ej, hj, hx⟩ := Dv.blkAt hb'
    have hers : d.ers[j]? = some (d.blk B).er := by unfold Dv.ers; rw [List.getElem?_map, hx]; rfl
    have eB : d.erases B = (d.blk B).er := by unfold Dv.erases; rw [if_pos hb']
    have R11 := hr.same s11
    refine den_idx2 (E := intE) (L := d.ers) (d.blk B).er j [.int .i64 (d.blk B).er] R11.e.1 rfl (by decide) ej hers ⟨⟨_, rfl⟩, trivial⟩ (whole _) (fun wa ha => (R11.same (shown_same ha)).e.1) (fun ad had hin => by simp [BlkIn, nth, blkOf, vaddr] at hin) fun w12 h12 => den_norm (by simp only [List.cons_append, List.nil_append]; rfl) ?_
    have s12 := s11.trans (shown_same h12)
    refine den_start1 fun w13 h13 => ?_
    have s13 := s12.trans (shown_same h13)
    refine den_m26 rfl B (d.next B) rfl rfl (fun _ => rfl) (fun wa ha => (h.same s13).same (shown_same ha)) hw (fun w14 w15 h14 k15 => den_norm (by simp only [List.cons_append, List.nil_append]; rfl) ?_)
    have s15 := (s13.trans (shown_same h14)).trans k15
    refine den_call_int (x := d.next B) (fun w16 h16 => c46 B w16 ((hr.same s15).same (shown_same h16)) hw) rfl (fun w16 w17 h16 k17 => den_norm (by simp only [List.cons_append, List.nil_append]; rfl) ?_)
    have s17 := (s15.trans (shown_same h16)).trans k17
    refine den_split_false (by simp [BE.den, IE.den, nth, vint]) ?_
    refine den_m27 rfl B (d.erases B) rfl rfl (fun _ => rfl) (fun wa ha => (h.same s17).same (shown_same ha)) hw (fun w18 w19 h18 k19 => den_norm (by simp only [List.cons_append, List.nil_append]; rfl) ?_)
    have s19 := (s17.trans (shown_same h18)).trans k19
    refine den_split_false (by simp [BE.den, IE.den, nth, vint, eB]) ?_
    refine den_loop (fun ls w' => ∃ A : Int, ls = [.int .i64 A] ∧ -1 ≤ A ∧ A ≤ d.g.p + 1 ∧ Same w w') (fun ls _ => (d.g.p + 1 - vint (nth ls 0)).toNat) (fun w20 g20 => ⟨-1, rfl, by omega, by omega, s19.trans (shown_same g20)⟩) ?_
    rintro w20 l w21 g20 hfl2 ⟨A, rfl, hA1, hA2, s21⟩ hk21 hfa21
    refine den_norm (by simp only [List.cons_append, List.nil_append]; rfl) (den_splitLe (fun hle2 => ?_) (fun hgt2 => ?_))
    rotate_left
    · refine den_ob64 ⟨by simp only [IE.den, nth, vint]; omega, by simp only [IE.den, nth, vint]; omega⟩ (den_leaf_ne (by decide) (den_leaf_eq fun wa ha => ⟨⟨B + 1, rfl, by omega, by omega, s21.trans (shown_same ha)⟩, ?_⟩))
      show (d.g.b + 1 - (B + 1)).toNat < (d.g.b + 1 - B).toNat
      omega
    have hle2' : A ≤ d.g.p := hle2
    refine den_m13 rfl B A (d.rdE B A) (d.rdA B A) (d.rdB B A) rfl (fun _ _ _ => ⟨rfl, rfl, rfl⟩) (fun wa ha => (h.same s21).same (shown_same ha)) hw rfl rfl rfl (fun w22 va vb w23 h22 k23' m1 m2 _ _ => den_norm (by simp only [List.cons_append, List.nil_append]; rfl) ?_)
    have s23 := (s21.trans (shown_same h22)).trans k23'
    refine den_callR (fun wa l wb => ∃ sa sb, l = [sa, sb, .int .i64 (d.rdE B A)] ∧ Src wb sa (d.rdA B A) ∧ Src wb sb (d.rdB B A)) (fun w24 h24 => ?_) (fun w24 l w25 h24 hfl hR k25 => ?_)
    · refine (c42 B A w24 ((hr.same s23).same (shown_same h24)) hw).mono fun r w' ⟨x, y, q1, q2, q3, _, _⟩ => ?_
      obtain ⟨_, _, ex⟩ := q2.1.slice
      obtain ⟨_, _, ey⟩ := q3.1.slice
      exact ⟨[x, y, .int .i64 (d.rdE B A)], ⟨⟨_, _, _, ex⟩, ⟨_, _, _, ey⟩, ⟨_, rfl⟩, trivial⟩, by rw [q1]; rfl, x, y, rfl, q2, q3⟩
    obtain ⟨x, y, rfl, sx, sy⟩ := hR
    have s25 := (s23.trans (shown_same h24)).trans k25
    have m1' := ((m1.same (shown_same h24)).same k25)
    have m2' := ((m2.same (shown_same h24)).same k25)
    refine den_norm (by simp only [List.cons_append, List.nil_append]; rfl) (den_start1 fun w26 h26 => ?_)
    have s26 := s25.trans (shown_same h26)
    refine den_m28 rfl B A (d.state B A) rfl rfl (fun _ => rfl) (fun wa ha => (h.same s26).same (shown_same ha)) hw (fun w27 w28 h27 k28 => den_norm (by simp only [List.cons_append, List.nil_append]; rfl) ?_)
    have s28 := (s26.trans (shown_same h27)).trans k28
    refine den_call_int (x := d.state B A) (fun w29 h29 => c47 B A w29 ((hr.same s28).same (shown_same h29)) hw) rfl (fun w29 w30 h29 k30 => den_norm (by simp only [List.cons_append, List.nil_append]; rfl) ?_)
    have sx30 : Same w25 w30 := ((((shown_same h26).trans (shown_same h27)).trans k28).trans (shown_same h29)).trans k30
    have s30 := s25.trans sx30
    refine den_split_false (by simp [BE.den, IE.den, nth, vint]) ?_
    refine den_m30 rfl _ _ _ _ true (strEq_refl _) rfl (fun _ => rfl) (fun wa ha => ((m1'.same sx30).same (shown_same ha)).given.src) (fun wa ha => (sx.same sx30).same (shown_same ha)) (fun w31 w32 h31 k32 => den_norm (by simp only [List.cons_append, List.nil_append]; rfl) (den_split_false rfl ?_))
    have sx32 := (sx30.trans (shown_same h31)).trans k32
    refine den_m30 rfl _ _ _ _ true (strEq_refl _) rfl (fun _ => rfl) (fun wa ha => ((m2'.same sx32).same (shown_same ha)).given.src) (fun wa ha => (sy.same sx32).same (shown_same ha)) (fun w33 w34 h33 k34 => den_norm (by simp only [List.cons_append, List.nil_append]; rfl) (den_split_false rfl ?_))
    have sx34 := (sx32.trans (shown_same h33)).trans k34
    refine den_m18 rfl _ rfl (fun _ => rfl) (fun w35 w36 h35 k36 => den_norm (by simp only [List.cons_append, List.nil_append]; rfl) ?_)
    have sx36 := (sx34.trans (shown_same h35)).trans k36
    refine den_split_false (by simp [BE.den, IE.den, nth, vint]) ?_
    refine den_ob64 ⟨by simp only [IE.den, nth, vint]; omega, by simp only [IE.den, nth, vint]; omega⟩ (den_leaf_eq fun wa ha => ⟨⟨A + 1, rfl, by omega, by omega, (s25.trans sx36).trans (shown_same ha)⟩, ?_⟩)
    show (d.g.p + 1 - (A + 1)).toNat < (d.g.p + 1 - A).toNat
    omega
  · have hb' : d.hasB B = false := hb
    have s12 := (s9.trans (shown_same h10)).trans k11
    have eB : d.erases B = 0 := by unfold Dv.erases; rw [if_neg (by rw [hb']; decide)]
    refine den_start1 fun w13 h13 => ?_
    have s13 := s12.trans (shown_same h13)
    refine den_m26 rfl B (d.next B) rfl rfl (fun _ => rfl) (fun wa ha => (h.same s13).same (shown_same ha)) hw (fun w14 w15 h14 k15 => den_norm (by simp only [List.cons_append, List.nil_append]; rfl) ?_)
    have s15 := (s13.trans (shown_same h14)).trans k15
    refine den_call_int (x := d.next B) (fun w16 h16 => c46 B w16 ((hr.same s15).same (shown_same h16)) hw) rfl (fun w16 w17 h16 k17 => den_norm (by simp only [List.cons_append, List.nil_append]; rfl) ?_)
    have s17 := (s15.trans (shown_same h16)).trans k17
    refine den_split_false (by simp [BE.den, IE.den, nth, vint]) ?_
    refine den_m27 rfl B (d.erases B) rfl rfl (fun _ => rfl) (fun wa ha => (h.same s17).same (shown_same ha)) hw (fun w18 w19 h18 k19 => den_norm (by simp only [List.cons_append, List.nil_append]; rfl) ?_)
    have s19 := (s17.trans (shown_same h18)).trans k19
    refine den_split_false (by simp [BE.den, IE.den, nth, vint, eB]) ?_
    refine den_loop (fun ls w' => ∃ A : Int, ls = [.int .i64 A] ∧ -1 ≤ A ∧ A ≤ d.g.p + 1 ∧ Same w w') (fun ls _ => (d.g.p + 1 - vint (nth ls 0)).toNat) (fun w20 g20 => ⟨-1, rfl, by omega, by omega, s19.trans (shown_same g20)⟩) ?_
    rintro w20 l w21 g20 hfl2 ⟨A, rfl, hA1, hA2, s21⟩ hk21 hfa21
    refine den_norm (by simp only [List.cons_append, List.nil_append]; rfl) (den_splitLe (fun hle2 => ?_) (fun hgt2 => ?_))
    rotate_left
    · refine den_ob64 ⟨by simp only [IE.den, nth, vint]; omega, by simp only [IE.den, nth, vint]; omega⟩ (den_leaf_ne (by decide) (den_leaf_eq fun wa ha => ⟨⟨B + 1, rfl, by omega, by omega, s21.trans (shown_same ha)⟩, ?_⟩))
      show (d.g.b + 1 - (B + 1)).toNat < (d.g.b + 1 - B).toNat
      omega
    have hle2' : A ≤ d.g.p := hle2
    refine den_m13 rfl B A (d.rdE B A) (d.rdA B A) (d.rdB B A) rfl (fun _ _ _ => ⟨rfl, rfl, rfl⟩) (fun wa ha => (h.same s21).same (shown_same ha)) hw rfl rfl rfl (fun w22 va vb w23 h22 k23' m1 m2 _ _ => den_norm (by simp only [List.cons_append, List.nil_append]; rfl) ?_)
    have s23 := (s21.trans (shown_same h22)).trans k23'
    refine den_callR (fun wa l wb => ∃ sa sb, l = [sa, sb, .int .i64 (d.rdE B A)] ∧ Src wb sa (d.rdA B A) ∧ Src wb sb (d.rdB B A)) (fun w24 h24 => ?_) (fun w24 l w25 h24 hfl hR k25 => ?_)
    · refine (c42 B A w24 ((hr.same s23).same (shown_same h24)) hw).mono fun r w' ⟨x, y, q1, q2, q3, _, _⟩ => ?_
      obtain ⟨_, _, ex⟩ := q2.1.slice
      obtain ⟨_, _, ey⟩ := q3.1.slice
      exact ⟨[x, y, .int .i64 (d.rdE B A)], ⟨⟨_, _, _, ex⟩, ⟨_, _, _, ey⟩, ⟨_, rfl⟩, trivial⟩, by rw [q1]; rfl, x, y, rfl, q2, q3⟩
    obtain ⟨x, y, rfl, sx, sy⟩ := hR
    have s25 := (s23.trans (shown_same h24)).trans k25
    have m1' := ((m1.same (shown_same h24)).same k25)
    have m2' := ((m2.same (shown_same h24)).same k25)
    refine den_norm (by simp only [List.cons_append, List.nil_append]; rfl) (den_start1 fun w26 h26 => ?_)
    have s26 := s25.trans (shown_same h26)
    refine den_m28 rfl B A (d.state B A) rfl rfl (fun _ => rfl) (fun wa ha => (h.same s26).same (shown_same ha)) hw (fun w27 w28 h27 k28 => den_norm (by simp only [List.cons_append, List.nil_append]; rfl) ?_)
    have s28 := (s26.trans (shown_same h27)).trans k28
    refine den_call_int (x := d.state B A) (fun w29 h29 => c47 B A w29 ((hr.same s28).same (shown_same h29)) hw) rfl (fun w29 w30 h29 k30 => den_norm (by simp only [List.cons_append, List.nil_append]; rfl) ?_)
    have sx30 : Same w25 w30 := ((((shown_same h26).trans (shown_same h27)).trans k28).trans (shown_same h29)).trans k30
    have s30 := s25.trans sx30
    refine den_split_false (by simp [BE.den, IE.den, nth, vint]) ?_
    refine den_m30 rfl _ _ _ _ true (strEq_refl _) rfl (fun _ => rfl) (fun wa ha => ((m1'.same sx30).same (shown_same ha)).given.src) (fun wa ha => (sx.same sx30).same (shown_same ha)) (fun w31 w32 h31 k32 => den_norm (by simp only [List.cons_append, List.nil_append]; rfl) (den_split_false rfl ?_))
    have sx32 := (sx30.trans (shown_same h31)).trans k32
    refine den_m30 rfl _ _ _ _ true (strEq_refl _) rfl (fun _ => rfl) (fun wa ha => ((m2'.same sx32).same (shown_same ha)).given.src) (fun wa ha => (sy.same sx32).same (shown_same ha)) (fun w33 w34 h33 k34 => den_norm (by simp only [List.cons_append, List.nil_append]; rfl) (den_split_false rfl ?_))
    have sx34 := (sx32.trans (shown_same h33)).trans k34
    refine den_m18 rfl _ rfl (fun _ => rfl) (fun w35 w36 h35 k36 => den_norm (by simp only [List.cons_append, List.nil_append]; rfl) ?_)
    have sx36 := (sx34.trans (shown_same h35)).trans k36
    refine den_split_false (by simp [BE.den, IE.den, nth, vint]) ?_
    refine den_ob64 ⟨by simp only [IE.den, nth, vint]; omega, by simp only [IE.den, nth, vint]; omega⟩ (den_leaf_eq fun wa ha => ⟨⟨A + 1, rfl, by omega, by omega, (s25.trans sx36).trans (shown_same ha)⟩, ?_⟩)
    show (d.g.p + 1 - (A + 1)).toNat < (d.g.p + 1 - A).toNat
    omega
end
end Go.Proofs.Ytppbapnibpeolaa
