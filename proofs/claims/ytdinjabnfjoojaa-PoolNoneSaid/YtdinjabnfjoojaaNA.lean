/- What the methods of a nil pool and of a zero pool return. No conditions beyond those that each theorem names. -/
import Derived.Test.YtdinjabnfjoojaaK
import Derived.Test.YtdinjabnfjoojaaNT
import Derived.Test.YtdinjabnfjoojaaSxZG
set_option maxRecDepth 100000
set_option maxHeartbeats 1000000
set_option linter.unusedVariables false
set_option linter.unusedSimpArgs false
namespace Go.Proofs.Ytdinjabnfjoojaa
open Go.Sx

/-- nil, or a pool without blocks -/
def NoneP (w : World) (p : Value) : Prop := p = .pointer none ∨ PtsTo w p [.slice none 0 0]
theorem NoneP.kept {w w' : World} {p : Value} {M : Nat → Prop} (h : NoneP w p) (hk : Kept M w w') (hM : ∀ b, blkOf p = some b → ¬ M b) : NoneP w' p := h.imp id fun h => h.kept hk hM
theorem NoneP.same {w w' : World} {p : Value} (h : NoneP w p) (hk : Same w w') : NoneP w' p := h.kept hk fun _ _ h => h
theorem NoneP.fits {w : World} {p : Value} (h : NoneP w p) : Base.ptr.fits p := by
  rcases h with rfl | h
  · exact ⟨_, rfl⟩
  · exact h.fits
theorem c30n (p : Value) (w : World) (h : NoneP w p) : Gives Try.prog 30 [p] w (.bool true) := by
  refine gives mix t30 rfl rfl (ε := [p]) ⟨h.fits, trivial⟩ ?_
  rcases h with rfl | h
  · exact den_split_true rfl (den_leaf rfl)
  · obtain ⟨b, rfl, hc⟩ := h.at_
    refine den_split_false rfl (den_ldp [.slice none 0 0] [.slice none 0 0] ⟨⟨_, _, _, rfl⟩, trivial⟩ (whole _) (fun w1 h1 => h.same h1.base) (fun _ _ => by simp [BlkIn]) fun w1 h1 => den_norm (by simp only [List.cons_append, List.nil_append]; rfl) (den_leaf ?_))
    rfl
theorem c50n (b : Nat) (i : Int) (w : World) (h : PtsTo w (pt b) [.slice none 0 0]) : Gives Try.prog 50 [pt b, .int .i64 i] w (.bool false) := by
  refine gives mix t50 rfl rfl (ε := [pt b, .int .i64 i]) ⟨⟨_, rfl⟩, ⟨_, rfl⟩, trivial⟩ (den_splitLe (fun h1 => ?_) (fun _ => den_leaf rfl))
  have h1' : 0 ≤ i := h1
  refine den_notnil (i := 0) h (den_ldp [.slice none 0 0] [.slice none 0 0] ⟨⟨_, _, _, rfl⟩, trivial⟩ (whole _) (fun w1 h1 => h.same h1.base) (fun _ _ => by simp [BlkIn]) fun w1 h1 => den_norm (by simp only [List.cons_append, List.nil_append]; rfl) (den_leaf ?_))
  have : ¬ i < 0 := by omega
  simp [SV.den, denL, IE.den, BE.den, nth, vint, vbool, vaddr, addO, addr_add, vlen, this]
theorem c11n (p : Value) (w : World) (h : NoneP w p) : Gives Try.prog 11 [p] w (.tuple #[.int .i64 0, .int .i64 1]) :=
  gives mix t11z rfl rfl (ε := [p]) ⟨h.fits, trivial⟩ (den_call_bool (b := true) (fun w1 h1 => c30n p w1 (h.same h1.base)) rfl fun _ _ _ _ => den_split_true rfl (den_leaf rfl))
theorem c20n (p : Value) (w : World) (h : NoneP w p) : Gives Try.prog 20 [p] w (.tuple #[.int .i64 0, .bool false]) :=
  gives mix t20 rfl rfl (ε := [p]) ⟨h.fits, trivial⟩ (den_call_bool (b := true) (fun w1 h1 => c30n p w1 (h.same h1.base)) rfl fun _ _ _ _ => den_split_true rfl (den_leaf rfl))
theorem c13n (p : Value) (w : World) (h : NoneP w p) : Gives Try.prog 13 [p] w (.tuple #[.int .i64 0, .int .i64 0]) :=
  gives mix t13z rfl rfl (ε := [p]) ⟨h.fits, trivial⟩ (den_call_bool (b := true) (fun w1 h1 => c30n p w1 (h.same h1.base)) rfl fun _ _ _ _ => den_split_true rfl (den_leaf rfl))
theorem c19n (p : Value) (w : World) (h : NoneP w p) : Gives Try.prog 19 [p] w (.pointer none) :=
  gives mix t19 rfl rfl (ε := [p]) ⟨h.fits, trivial⟩ (den_call_bool (b := true) (fun w1 h1 => c30n p w1 (h.same h1.base)) rfl fun _ _ _ _ => den_split_true rfl (den_leaf rfl))
theorem c33n (p fv : Value) (i : Int) (w : World) (h : NoneP w p) (hf : isFn fv = true) : Gives Try.prog 33 [p, .int .i64 i, fv] w (.int .i64 1) :=
  gives mix t33 rfl rfl (ε := [p, .int .i64 i, fv]) ⟨h.fits, ⟨_, rfl⟩, hf, trivial⟩ (den_call_bool (b := true) (fun w1 h1 => c30n p w1 (h.same h1.base)) rfl fun _ _ _ _ => den_split_true rfl (den_leaf rfl))
theorem c12n (p : Value) (i : Int) (w : World) (h : NoneP w p) : Gives Try.prog 12 [p, .int .i64 i] w (.int .i64 1) :=
  gives mix t12z rfl rfl (ε := [p, .int .i64 i]) ⟨h.fits, ⟨_, rfl⟩, trivial⟩ (den_call_int (x := 1) (fun w1 h1 => c33n p _ i w1 (h.same h1.base) rfl) rfl fun _ _ _ _ => den_split_false rfl (den_leaf rfl))
theorem c21n (p : Value) (i : Int) (w : World) (h : NoneP w p) : Gives Try.prog 21 [p, .int .i64 i] w (.int .i64 1) :=
  gives mix t21z rfl rfl (ε := [p, .int .i64 i]) ⟨h.fits, ⟨_, rfl⟩, trivial⟩ (den_call_int (x := 1) (fun w1 h1 => c33n p _ i w1 (h.same h1.base) rfl) rfl fun _ _ _ _ => den_split_false rfl (den_leaf rfl))
theorem c22n (p : Value) (i : Int) (w : World) (h : NoneP w p) : Gives Try.prog 22 [p, .int .i64 i] w (.int .i64 1) :=
  gives mix t22z rfl rfl (ε := [p, .int .i64 i]) ⟨h.fits, ⟨_, rfl⟩, trivial⟩ (den_call_int (x := 1) (fun w1 h1 => c33n p _ i w1 (h.same h1.base) rfl) rfl fun _ _ _ _ => den_split_false rfl (den_leaf rfl))
theorem c23n (p : Value) (i s e : Int) (w : World) (h : NoneP w p) : Gives Try.prog 23 [p, .int .i64 i, .int .i64 s, .int .i64 e] w (.int .i64 1) :=
  gives mix t23z rfl rfl (ε := [p, .int .i64 i, .int .i64 s, .int .i64 e]) ⟨h.fits, ⟨_, rfl⟩, ⟨_, rfl⟩, ⟨_, rfl⟩, trivial⟩ (den_call_bool (b := true) (fun w1 h1 => c30n p w1 (h.same h1.base)) rfl fun _ _ _ _ => den_split_true rfl (den_leaf rfl))
theorem c26n (p : Value) (s : Int) (w : World) (h : NoneP w p) : Gives Try.prog 26 [p, .int .i64 s] w (.int .i64 0) :=
  gives mix t26z rfl rfl (ε := [p, .int .i64 s]) ⟨h.fits, ⟨_, rfl⟩, trivial⟩ (den_call_bool (b := true) (fun w1 h1 => c30n p w1 (h.same h1.base)) rfl fun _ _ _ _ => den_split_true rfl (den_leaf rfl))
theorem c24n (p : Value) (i : Int) (w : World) (h : NoneP w p) : Gives Try.prog 24 [p, .int .i64 i] w (.int .i64 0) := by
  refine gives mix t24 rfl rfl (ε := [p, .int .i64 i]) ⟨h.fits, ⟨_, rfl⟩, trivial⟩ ?_
  rcases h with rfl | h
  · exact den_split_true rfl (den_leaf rfl)
  · obtain ⟨b, rfl, hc⟩ := h.at_
    exact den_split_false rfl (den_call_bool (b := false) (fun w1 h1 => c50n b i w1 (h.same h1.base)) rfl fun _ _ _ _ => den_split_true rfl (den_leaf rfl))
theorem c25n (p : Value) (i : Int) (w : World) (h : NoneP w p) : Gives Try.prog 25 [p, .int .i64 i] w (.int .i64 0) := by
  refine gives mix t25z rfl rfl (ε := [p, .int .i64 i]) ⟨h.fits, ⟨_, rfl⟩, trivial⟩ ?_
  rcases h with rfl | h
  · exact den_split_true rfl (den_leaf rfl)
  · obtain ⟨b, rfl, hc⟩ := h.at_
    exact den_split_false rfl (den_call_bool (b := false) (fun w1 h1 => c50n b i w1 (h.same h1.base)) rfl fun _ _ _ _ => den_split_true rfl (den_leaf rfl))
theorem c17n (p : Value) (st : Int) (w : World) (h : NoneP w p) : GivesR Try.prog 17 [p, .int .i64 st] w (fun v w' => SeqAt Try.prog w.heap.size w'.heap.size w' v []) := by
  refine givesR mix t17 rfl rfl (ε := [p, .int .i64 st]) ⟨h.fits, ⟨_, rfl⟩, trivial⟩ (den_blk fun b2 k2 _ k20 => den_blk fun b3 k3 _ k30 => den_norm (by simp only [List.cons_append, List.nil_append]; rfl) ?_)
  have z2 : w.heap.size ≤ b2 := k20
  have z3 : w.heap.size ≤ b3 := k30
  refine den_call_bool (b := true) (fun w1 h1 => c30n p w1 (h.same h1.base)) rfl fun w1 w2 h1 h2 => den_norm (by simp only [List.cons_append, List.nil_append]; rfl) (den_splitNot (fun hx => by cases hx) (fun _ => den_leafR _ rfl fun w6 h6 => ?_))
  have f3 : HasBlk w6 (pt b3) [.slice none 0 0] := h6.facts.1
  have f2 : HasBlk w6 (pt b2) [.int .i64 st] := h6.facts.2.1
  have nrec : ∀ {b : Nat} {l : List Value}, HasBlk w6 (pt b) l → ¬ IsRec w6 b := by
    rintro b l ⟨x', ty, e, hh⟩ ⟨o, ho, hr⟩
    cases e
    rw [hh] at ho; cases ho; cases hr
  refine ⟨48, _, fun x => x = b3 ∨ x = b2 ∨ (Value.slice none 0 0).ownBlock = some x, by simp [SV.den, denL, IE.den, BE.den, nth, vint, vbool, vaddr, addO, addr_add], by kernel_rfl, seq48 b3 b2 (.slice none 0 0) st [] w6 f3 f2 Mine.nil (by decide), fun x hx => ?_⟩
  rcases hx with rfl | rfl | hx
  · have := f3.pts.lt (by simp) _ rfl
    exact ⟨z3, this, this, nrec f3⟩
  · have := f2.pts.lt (by simp) _ rfl
    exact ⟨z2, this, this, nrec f2⟩
  · cases hx

theorem c6 (a0 i st er : Int) (zero : Bool) (w : World) : Gives Try.prog 6 [.agg #[.int .i64 a0, .int .i64 i, .int .i64 st, .int .i64 er], .bool zero] w (.bool true) := by
  refine Runs.gives ?_
  have h := runs mix t6 rfl rfl (ε := [.int .i64 a0, .int .i64 i, .int .i64 st, .int .i64 er, .bool zero]) (w := w) (M := fun _ => False) (R := fun v _ => v = .bool true) ⟨⟨_, rfl⟩, ⟨_, rfl⟩, ⟨_, rfl⟩, ⟨_, rfl⟩, ⟨_, rfl⟩, trivial⟩ trivial (by simp [keys]) (by simp [keys]) (by simp [keys]) ?_
  · simpa [denL, SV.den, IE.den, BE.den, nth, vint, vbool] using h
  refine den_blk fun b5 k5 _ k50 => den_blk fun b6 k6 _ k60 => den_norm (by simp only [List.cons_append, List.nil_append]; rfl) ?_
  have z5 : w.heap.size ≤ b5 := k50
  have z6 : w.heap.size ≤ b6 := k60
  refine den_cut (fun ls w' => ∃ p, ls = [p] ∧ NoneP w' p) ?_ ?_
  · refine den_split (fun _ => den_blk fun b7 k7 _ k70 => den_norm (by simp only [List.cons_append, List.nil_append]; rfl) (den_leaf_eq fun w1 h1 => ⟨pt b7, by simp [SV.den, denL, IE.den, BE.den, nth, vint, vbool, vaddr, addO, addr_add, pt], .inr ?_⟩)) (fun _ => den_leaf_eq fun w1 h1 => ⟨.pointer none, rfl, .inl rfl⟩)
    have hb : HasBlk w1 (pt b7) _ := h1.facts.1
    obtain ⟨b, e, hc⟩ := hb.pts.at_
    exact ⟨b, e, fun m v hv => hc m v (by cases m with | zero => exact hv | succ m => simp at hv)⟩
  rintro l w1 hf1 ⟨p, rfl, hN⟩ hk1 hfa1
  have hb5 : HasBlk w1 (pt b5) _ := hfa1.2.1
  have l5 : b5 < w1.heap.size := hb5.pts.lt (by simp [denL]) _ rfl
  have hb6 : HasBlk w1 (pt b6) _ := hfa1.1
  have l6 : b6 < w1.heap.size := hb6.pts.lt (by simp [denL]) _ rfl
  refine den_norm (by simp only [List.cons_append, List.nil_append]; rfl) ?_
  refine den_call [.int .i64 0, .int .i64 1] ⟨⟨_, rfl⟩, ⟨_, rfl⟩, trivial⟩ rfl (fun w2 h2 => c11n p w2 (hN.same (shown_same h2))) fun w2 w3 h2 h3 => den_norm (by simp only [List.cons_append, List.nil_append]; rfl) ?_
  have hN3 := (hN.same (shown_same h2)).same h3
  refine den_call [.int .i64 0, .bool false] ⟨⟨_, rfl⟩, ⟨_, rfl⟩, trivial⟩ rfl (fun w4 h4 => c20n p w4 (hN3.same (shown_same h4))) fun w4 w5 h4 h5 => den_norm (by simp only [List.cons_append, List.nil_append]; rfl) ?_
  have hN5 := (hN3.same (shown_same h4)).same h5
  refine den_call [.int .i64 0, .int .i64 0] ⟨⟨_, rfl⟩, ⟨_, rfl⟩, trivial⟩ rfl (fun w6 h6 => c13n p w6 (hN5.same (shown_same h6))) fun w6 w7 h6 h7 => den_norm (by simp only [List.cons_append, List.nil_append]; rfl) ?_
  have hN7 := (hN5.same (shown_same h6)).same h7
  have z17 : w1.heap.size ≤ w7.heap.size := by
    have a1 : w1.heap.size ≤ w2.heap.size := h2.kept.size
    have a2 := h3.size
    have a3 : w3.heap.size ≤ w4.heap.size := h4.kept.size
    have a4 := h5.size
    have a5 : w5.heap.size ≤ w6.heap.size := h6.kept.size
    have a6 := h7.size
    omega
  refine den_callR (fun w l w' => ∃ v, l = [v] ∧ SeqAt Try.prog w.heap.size w'.heap.size w' v []) (fun w8 h8 => ?_) (fun w8 l w9 h8 hf hR hs89 => ?_)
  · refine (c17n p st w8 (hN7.same (shown_same h8))).mono fun v w' hv => ?_
    obtain ⟨g, caps, Ft, rfl, h2⟩ := hv.ex
    exact ⟨[.func (.func g) #[] caps], ⟨rfl, trivial⟩, rfl, _, rfl, hv⟩
  obtain ⟨v, rfl, hv⟩ := hR
  have hN9 := (hN7.same (shown_same h8)).same hs89
  have z78 : w7.heap.size ≤ w8.heap.size := h8.kept.size
  refine den_norm (by simp only [List.cons_append, List.nil_append]; rfl) (den_split_false ?_ ?_)
  · obtain ⟨g, caps, Ft, rfl, h2⟩ := hv.ex
    rfl
  have nrP : ∀ {W W' : World}, NoneP W p → Quiet W W' → NoneP W' p := by
    intro W W' hn hq
    rcases hn with rfl | hn
    · exact .inl rfl
    · refine .inr (hn.kept hq fun b hb hr => ?_)
      obtain ⟨b', rfl, hc⟩ := hn.at_
      cases hb
      exact not_rec_of_cell (hc 0 _ rfl) hr
  refine den_range [] (fun k l w' => l = [] ∧ NoneP w' p) w8.heap.size w9.heap.size (by simp) ?_ ?_ (fun w3 h3 => ⟨rfl, hN9.same (shown_same h3)⟩) (fun w Ft _ k x hx => by cases hx) ?_
  · intro b hb
    simp [BlkIn, nth, blkOf, vaddr] at hb
    omega
  · intro w3 h3
    exact hv.kept (shown_same h3) fun b _ _ _ h => h
  · rintro w10 h10 l hl w11 w12 ⟨rfl, hJ⟩ hq hk hfa
    have hN12 := nrP hJ hq
    refine den_norm (by simp only [List.cons_append, List.nil_append]; rfl) ?_
    refine den_start1 fun w13 h13 => ?_
    have hN13 := hN12.same (shown_same h13)
    refine den_ob64 (by simp only [IE.den, nth, vint]; omega) (den_ob64 (by simp only [IE.den, nth, vint]; omega) (den_ob64 (by simp only [IE.den, nth, vint]; omega) (den_split_true rfl (den_split_true rfl ?_))))
    refine den_call_int (x := 1) (fun w14 h14 => c10 1 w14) rfl fun w14 w15 h14 h15 => den_norm (by simp only [List.cons_append, List.nil_append]; rfl) (den_split_true rfl ?_)
    have hN15 := (hN13.same (shown_same h14)).same h15
    refine den_call_int (x := 1) (fun w16 h16 => c21n p i w16 (hN15.same (shown_same h16))) rfl fun w16 w17 h16 h17 => den_norm (by simp only [List.cons_append, List.nil_append]; rfl) ?_
    have hN17 := (hN15.same (shown_same h16)).same h17
    refine den_call_int (x := 1) (fun w18 h18 => c10 1 w18) rfl fun w18 w19 h18 h19 => den_norm (by simp only [List.cons_append, List.nil_append]; rfl) (den_split_true rfl ?_)
    have hN19 := (hN17.same (shown_same h18)).same h19
    refine den_call_int (x := 1) (fun w20 h20 => c12n p i w20 (hN19.same (shown_same h20))) rfl fun w20 w21 h20 h21 => den_norm (by simp only [List.cons_append, List.nil_append]; rfl) ?_
    have hN21 := (hN19.same (shown_same h20)).same h21
    refine den_call_int (x := 1) (fun w22 h22 => c10 1 w22) rfl fun w22 w23 h22 h23 => den_norm (by simp only [List.cons_append, List.nil_append]; rfl) (den_split_true rfl ?_)
    have hN23 := (hN21.same (shown_same h22)).same h23
    refine den_call_int (x := 1) (fun w24 h24 => c22n p i w24 (hN23.same (shown_same h24))) rfl fun w24 w25 h24 h25 => den_norm (by simp only [List.cons_append, List.nil_append]; rfl) ?_
    have hN25 := (hN23.same (shown_same h24)).same h25
    refine den_call_int (x := 1) (fun w26 h26 => c10 1 w26) rfl fun w26 w27 h26 h27 => den_norm (by simp only [List.cons_append, List.nil_append]; rfl) (den_split_true rfl ?_)
    have hN27 := (hN25.same (shown_same h26)).same h27
    refine den_call_int (x := 1) (fun w28 h28 => c23n p i st er w28 (hN27.same (shown_same h28))) rfl fun w28 w29 h28 h29 => den_norm (by simp only [List.cons_append, List.nil_append]; rfl) ?_
    have hN29 := (hN27.same (shown_same h28)).same h29
    refine den_call_int (x := 1) (fun w30 h30 => c10 1 w30) rfl fun w30 w31 h30 h31 => den_norm (by simp only [List.cons_append, List.nil_append]; rfl) (den_split_true rfl ?_)
    have hN31 := (hN29.same (shown_same h30)).same h31
    refine den_call_int (x := 0) (fun w32 h32 => c24n p i w32 (hN31.same (shown_same h32))) rfl fun w32 w33 h32 h33 => den_norm (by simp only [List.cons_append, List.nil_append]; rfl) (den_split_true rfl ?_)
    have hN33 := (hN31.same (shown_same h32)).same h33
    refine den_call_int (x := 0) (fun w34 h34 => c25n p i w34 (hN33.same (shown_same h34))) rfl fun w34 w35 h34 h35 => den_norm (by simp only [List.cons_append, List.nil_append]; rfl) ?_
    have hN35 := (hN33.same (shown_same h34)).same h35
    refine den_call_int (x := 0) (fun w36 h36 => c26n p st w36 (hN35.same (shown_same h36))) rfl fun w36 w37 h36 h37 => den_norm (by simp only [List.cons_append, List.nil_append]; rfl) ?_
    have hN37 := (hN35.same (shown_same h36)).same h37
    refine den_ob64 (by simp only [IE.den, nth, vint]; omega) (den_split_true rfl ?_)
    refine den_call [.pointer none] ⟨⟨_, rfl⟩, trivial⟩ rfl (fun w38 h38 => c19n p w38 (hN37.same (shown_same h38))) fun w38 w39 h38 h39 => den_norm (by simp only [List.cons_append, List.nil_append]; rfl) (den_split_true rfl ?_)
    refine den_call_bool (b := true) (fun w40 h40 => c8 w40) rfl fun w40 w41 h40 h41 => den_norm (by simp only [List.cons_append, List.nil_append]; rfl) (den_leafMA _ rfl fun w42 w43 h42 _ => rfl)
end Go.Proofs.Ytdinjabnfjoojaa
