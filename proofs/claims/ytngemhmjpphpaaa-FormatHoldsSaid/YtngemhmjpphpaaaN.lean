/- The iterator over places. No conditions beyond those that each theorem names. -/
import Derived.Test.YtngemhmjpphpaaaF
import Derived.Test.YtngemhmjpphpaaaTE
import Derived.Test.YtngemhmjpphpaaaSxZH
set_option maxRecDepth 100000
set_option maxHeartbeats 2000000
set_option linter.unusedVariables false
set_option linter.unusedSimpArgs false
namespace Go.Proofs.Ytngemhmjpphpaaa
open Go.Sx

def eachN (z m : Int) (x : Bool) (t : Int) (fi : Bool) (lba n : Int) : Nat := if plOk z m x t fi lba = true ∧ n ≤ 65536 then n.toNat else 0
def eachAt (z m : Int) (x : Bool) (t : Int) (fi : Bool) (lba : Int) (k : Nat) : List Value := [.int .i64 (plS z m x t fi (lba + k)), .int .i64 (plI z m x t fi (lba + k))]
def eachP (z m : Int) (x : Bool) (t : Int) (fi : Bool) (lba n : Int) : List (List Value) := (List.range (eachN z m x t fi lba n)).map (eachAt z m x t fi lba)
theorem eachP_length {z m : Int} {x : Bool} {t : Int} {fi : Bool} {lba n : Int} : (eachP z m x t fi lba n).length = eachN z m x t fi lba n := by simp [eachP]
theorem eachP_get {z m : Int} {x : Bool} {t : Int} {fi : Bool} {lba n : Int} {k : Nat} (h : k < eachN z m x t fi lba n) : (eachP z m x t fi lba n)[k]? = some (eachAt z m x t fi lba k) := by
  simp [eachP, h]
theorem eachP_mem {z m : Int} {x : Bool} {t : Int} {fi : Bool} {lba n : Int} {k : Nat} {y : List Value} (h : (eachP z m x t fi lba n)[k]? = some y) : k < eachN z m x t fi lba n ∧ y = eachAt z m x t fi lba k := by
  have h1 : k < eachN z m x t fi lba n := by
    have := (List.getElem?_eq_some_iff.1 h).1
    rwa [eachP_length] at this
  rw [eachP_get h1] at h
  exact ⟨h1, (Option.some.inj h).symm⟩
theorem plE_zero {z m : Int} {x : Bool} {t : Int} {fi : Bool} {l : Int} : plE z m x t fi l = 0 ↔ plOk z m x t fi l = true := by
  unfold plE
  cases plOk z m x t fi l <;> simp
theorem plOk_add {z m : Int} {x : Bool} {t : Int} {fi : Bool} {l : Int} (h : plOk z m x t fi l = true) (k : Nat) : plOk z m x t fi (l + k) = true := by
  simp only [plOk, Bool.and_eq_true, decide_eq_true_eq] at h ⊢
  exact ⟨h.1, by omega⟩
/-- from one place to the next -/
theorem pl_step {z m : Int} {x : Bool} {t : Int} {fi : Bool} {l : Int} (h : plOk z m x t fi l = true) :
    (plI z m x t fi l + 1 = per z m x t fi → plS z m x t fi (l + 1) = plS z m x t fi l + 1 ∧ plI z m x t fi (l + 1) = 0) ∧
    (plI z m x t fi l + 1 ≠ per z m x t fi → plS z m x t fi (l + 1) = plS z m x t fi l ∧ plI z m x t fi (l + 1) = plI z m x t fi l + 1) ∧
    0 ≤ plI z m x t fi l ∧ plI z m x t fi l < 8 ∧ 0 ≤ plS z m x t fi l ∧ plS z m x t fi l ≤ l := by
  have h1 : plOk z m x t fi (l + 1) = true := plOk_add h 1
  have hp : fOk z m x t fi = true ∧ 0 ≤ l := by simpa [plOk] using h
  have hr := per_range hp.1
  unfold plS plI
  rw [if_pos h, if_pos h1, if_pos h, if_pos h1]
  generalize per z m x t fi = p at hr
  have h0 := hp.2
  rw [Int.tdiv_eq_ediv_of_nonneg h0, Int.tmod_eq_emod_of_nonneg h0, Int.tdiv_eq_ediv_of_nonneg (by omega : 0 ≤ l + 1), Int.tmod_eq_emod_of_nonneg (by omega : 0 ≤ l + 1)]
  have : p = 1 ∨ p = 2 ∨ p = 3 ∨ p = 4 ∨ p = 5 ∨ p = 6 ∨ p = 7 ∨ p = 8 := by omega
  rcases this with rfl | rfl | rfl | rfl | rfl | rfl | rfl | rfl <;> omega
theorem zero3 : (Try.prog.info? 3).bind (·.zero) = some (.int .i64 0) := by kernel_rfl
theorem yv (a b : Value) : yvals Try.prog [3, 3] [a, b] = [a, b] := by
  unfold yvals
  rw [zero3]
  unfold yvals
  rw [zero3]
  rfl
/-- what the iterator has captured -/
structure Cap (c1 c2 c3 : Nat) (z m : Int) (x : Bool) (t : Int) (fi : Bool) (lba n : Int) (w : World) : Prop where
  h1 : HasBlk w (pt c1) [.int .i64 z, .int .i64 m, .bool x, .int .i64 t, .bool fi]
  h2 : HasBlk w (pt c2) [.int .i64 lba]
  h3 : HasBlk w (pt c3) [.int .i64 n]
theorem Cap.of_eq {c1 c2 c3 : Nat} {z m : Int} {x : Bool} {t : Int} {fi : Bool} {lba n : Int} {w w' : World} (h : Cap c1 c2 c3 z m x t fi lba n w) (he : ∀ b, b = c1 ∨ b = c2 ∨ b = c3 → w'.heap[b]? = w.heap[b]?) : Cap c1 c2 c3 z m x t fi lba n w' :=
  ⟨h.h1.of_eq fun b hb => he b (.inl (Option.some.inj hb).symm), h.h2.of_eq fun b hb => he b (.inr (.inl (Option.some.inj hb).symm)), h.h3.of_eq fun b hb => he b (.inr (.inr (Option.some.inj hb).symm))⟩
theorem Cap.lt {c1 c2 c3 : Nat} {z m : Int} {x : Bool} {t : Int} {fi : Bool} {lba n : Int} {w : World} (h : Cap c1 c2 c3 z m x t fi lba n w) : ∀ b, b = c1 ∨ b = c2 ∨ b = c3 → b < w.heap.size := by
  rintro b (rfl | rfl | rfl)
  · exact h.h1.pts.lt (by simp) _ rfl
  · exact h.h2.pts.lt (by simp) _ rfl
  · exact h.h3.pts.lt (by simp) _ rfl
theorem Cap.same {c1 c2 c3 : Nat} {z m : Int} {x : Bool} {t : Int} {fi : Bool} {lba n : Int} {w w' : World} (h : Cap c1 c2 c3 z m x t fi lba n w) (hk : Same w w') : Cap c1 c2 c3 z m x t fi lba n w' :=
  h.of_eq fun b hb => hk.block b (h.lt b hb) fun h => h

theorem seq47 (c1 c2 c3 : Nat) (z m : Int) (x : Bool) (t : Int) (fi : Bool) (lba n : Int) (w : World) (hc : Cap c1 c2 c3 z m x t fi lba n w) (hl : lba ≤ 1152921504606846976) :
    SeqOk Try.prog 47 #[pt c1, pt c2, pt c3] w (fun b => b = c1 ∨ b = c2 ∨ b = c3) ((eachP z m x t fi lba n).map fun x => (yvals Try.prog [3, 3] x).toArray) := by
  intro l J Jx W hFt hY hJ
  have obs : ∀ W' : World, (∀ b, b = c1 ∨ b = c2 ∨ b = c3 → W'.heap[b]? = w.heap[b]?) → Cap c1 c2 c3 z m x t fi lba n W' := fun W' h => hc.of_eq h
  have oW := obs W (hFt 0 W hJ)
  have h := runs mix t47 rfl rfl (ε := [.func (.yield l) #[] #[], pt c1, pt c2, pt c3]) (w := W) (M := fun x => ¬ (x = c1 ∨ x = c2 ∨ x = c3)) (R := fun v w' => v = .tuple #[] ∧ ∃ W0, (J (eachN z m x t fi lba n) W0 ∨ Jx W0) ∧ Same W0 w') ⟨rfl, ⟨_, rfl⟩, ⟨_, rfl⟩, ⟨_, rfl⟩, trivial⟩ trivial (by simp [keys]) (by simp [keys]) (by simp [keys]) ?_
  · have h' : Runs Try.prog 47 [.func (.yield l) #[] #[], pt c1, pt c2, pt c3] W (fun x => ¬ (x = c1 ∨ x = c2 ∨ x = c3)) (fun v w' => v = .tuple #[] ∧ ∃ W0, (J (eachN z m x t fi lba n) W0 ∨ Jx W0) ∧ Same W0 w') := by simpa [SV.den, denL, IE.den, BE.den, nth, vint, vbool, vaddr, addO, addr_add] using h
    refine Calls.mono h'.run fun e w' ⟨v, h1, ⟨_, h2⟩, _⟩ => ⟨v, h1, ?_⟩
    rw [List.length_map, eachP_length]
    exact h2
  refine den_ldp [.int .i64 z, .int .i64 m, .bool x, .int .i64 t, .bool fi] _ ⟨⟨_, rfl⟩, ⟨_, rfl⟩, ⟨_, rfl⟩, ⟨_, rfl⟩, ⟨_, rfl⟩, trivial⟩ (whole _) (fun w1 h1 => (oW.same (shown_same h1)).h1.pts) (fun _ _ => by simp [BlkIn]) fun w1 h1 => den_norm (by simp only [List.cons_append, List.nil_append]; rfl) ?_
  have s1 := shown_same h1
  refine den_ldp [.int .i64 lba] _ ⟨⟨_, rfl⟩, trivial⟩ (whole _) (fun w2 h2 => (oW.same (s1.trans (shown_same h2))).h2.pts) (fun _ _ => by simp [BlkIn]) fun w2 h2 => den_norm (by simp only [List.cons_append, List.nil_append]; rfl) ?_
  have s2 := s1.trans (shown_same h2)
  refine den_call [.int .i64 (plS z m x t fi lba), .int .i64 (plI z m x t fi lba), .int .i64 (plE z m x t fi lba)] ⟨⟨_, rfl⟩, ⟨_, rfl⟩, ⟨_, rfl⟩, trivial⟩ rfl (fun w3 h3 => c10 z m x t fi lba (by omega) w3) (fun w3 w4 h3 h4 => den_norm (by simp only [List.cons_append, List.nil_append]; rfl) (den_splitNot (fun he => ?_) (fun he => ?_)))
  · have s4 := (s2.trans (shown_same h3)).trans h4
    have he' : plE z m x t fi lba ≠ 0 := by
      simp only [BE.den, IE.den, nth, vint] at he
      exact of_decide_eq_false he
    have e0 : eachN z m x t fi lba n = 0 := if_neg fun hh => he' (plE_zero.2 hh.1)
    exact den_leafA _ rfl fun w5 h5 => ⟨rfl, W, .inl (by rw [e0]; exact hJ), s4.trans (shown_same h5)⟩
  have s4 := (s2.trans (shown_same h3)).trans h4
  have he' : plE z m x t fi lba = 0 := by
    simp only [BE.den, IE.den, nth, vint] at he
    exact of_decide_eq_true he
  have hpl := plE_zero.1 he'
  have hp0 : fOk z m x t fi = true ∧ 0 ≤ lba := by simpa [plOk] using hpl
  refine den_ldp [.int .i64 n] _ ⟨⟨_, rfl⟩, trivial⟩ (whole _) (fun w5 h5 => (oW.same (s4.trans (shown_same h5))).h3.pts) (fun _ _ => by simp [BlkIn]) fun w5 h5 => den_norm (by simp only [List.cons_append, List.nil_append]; rfl) ?_
  have s5 := s4.trans (shown_same h5)
  refine den_splitLt (fun hn => ?_) (fun hn => ?_)
  · have hn' : (65536 : Int) < n := hn
    have e0 : eachN z m x t fi lba n = 0 := if_neg fun hh => by omega
    exact den_leafA _ rfl fun w6 h6 => ⟨rfl, W, .inl (by rw [e0]; exact hJ), s5.trans (shown_same h6)⟩
  have hn' : n ≤ (65536 : Int) := hn
  have eN : eachN z m x t fi lba n = n.toNat := if_pos ⟨hpl, hn'⟩
  refine den_ldp [.int .i64 n] _ ⟨⟨_, rfl⟩, trivial⟩ (whole _) (fun w6 h6 => (oW.same (s5.trans (shown_same h6))).h3.pts) (fun _ _ => by simp [BlkIn]) fun w6 h6 => den_norm (by simp only [List.cons_append, List.nil_append]; rfl) ?_
  have s6 := s5.trans (shown_same h6)
  refine den_loop (fun ls w' => ∃ (j : Nat) (W0 : World), ls = [.int .i64 j, .int .i64 (plS z m x t fi (lba + j)), .int .i64 (plI z m x t fi (lba + j))] ∧ j ≤ n.toNat ∧ J j W0 ∧ Same W0 w') (fun ls _ => n.toNat - (vint (nth ls 0)).toNat) (fun w7 h7 => ⟨0, W, by simp [SV.den, denL, IE.den, BE.den, nth, vint, vbool, vaddr, addO, addr_add], Nat.zero_le _, hJ, s6.trans (shown_same h7)⟩) ?_
  rintro w7 ll w8 h7 hfl ⟨j, W0, rfl, hj, hJj, hs0⟩ hk8 hfa8
  have o0 := obs W0 (hFt j W0 hJj)
  have hst := pl_step (plOk_add hpl j)
  refine den_norm (by simp only [List.cons_append, List.nil_append]; rfl) (den_splitLt (fun hlt => ?_) (fun hge => ?_))
  · have hlt' : (j : Int) < n := hlt
    have hjn : j < eachN z m x t fi lba n := by rw [eN]; omega
    refine den_yield rfl (l := l) rfl (fun _ y => y < W0.heap.size ∧ ¬ (y = c1 ∨ y = c2 ∨ y = c3)) (fun _ v w' => if v then J (j + 1) w' else Jx w') (fun _ => rfl) (fun w9 h9 y hy _ => ?_) (fun w9 h9 => ?_) (fun w9 v w10 h9 hR hk10 => den_norm (by simp only [List.cons_append, List.nil_append]; rfl) ?_)
    · exact ⟨fun hd => (by cases hd), fun _ => hy.2, fun hin => by simp [BlkIn, nth, blkOf, vaddr] at hin, fun hx => by cases hx⟩
    · obtain ⟨fn, tm, as_, bd, hy1, hy2⟩ := hY j (#[.int .i64 (plS z m x t fi (lba + j)), .int .i64 (plI z m x t fi (lba + j))]) W0 w9 (by rw [List.getElem?_map, eachP_get hjn, Option.map_some, eachAt, yv]) hJj (hs0.trans (shown_same h9))
      exact ⟨fn, tm, as_, bd, hy1, hy2.mono fun e w' ⟨v, h1, h2, h3⟩ => ⟨v, h1, h3, h2.mono fun _ _ h => h⟩⟩
    refine den_splitNot (fun hv => ?_) (fun hv => ?_)
    · have hv' : v = false := hv
      subst hv'
      exact den_leaf_ne (by decide) (den_leafA _ rfl fun w11 h11 => ⟨rfl, w10, .inr hR, shown_same h11⟩)
    have hv' : v = true := hv
    subst hv'
    have hJ1 : J (j + 1) w10 := hR
    have o10 := obs w10 (hFt (j + 1) w10 hJ1)
    generalize hI : plI z m x t fi (lba + j) = ii at hst
    generalize hS : plS z m x t fi (lba + j) = ss at hst
    refine den_ob64 (by simp only [IE.den, nth, vint]; omega) ?_
    refine den_ldp [.int .i64 z, .int .i64 m, .bool x, .int .i64 t, .bool fi] _ ⟨⟨_, rfl⟩, ⟨_, rfl⟩, ⟨_, rfl⟩, ⟨_, rfl⟩, ⟨_, rfl⟩, trivial⟩ (whole _) (fun w11 h11 => (o10.same (shown_same h11)).h1.pts) (fun _ _ => by simp [BlkIn]) fun w11 h11 => den_norm (by simp only [List.cons_append, List.nil_append]; rfl) ?_
    refine den_call_int (x := per z m x t fi) (fun w12 h12 => c16 z m x t fi w12) rfl (fun w12 w13 h12 h13 => den_norm (by simp only [List.cons_append, List.nil_append]; rfl) (den_split (fun hp => ?_) (fun hp => ?_)))
    · have hp' : ii + 1 = per z m x t fi := by
        simp only [BE.den, IE.den, nth, vint] at hp
        exact of_decide_eq_true hp
      have hx := hst.1 hp'
      refine den_ob64 (by simp only [IE.den, nth, vint]; omega) (den_ob64 (by simp only [IE.den, nth, vint]; omega) (den_leaf' fun w14 h14 => (if_pos rfl).mpr ⟨⟨j + 1, w10, ?_, by omega, hJ1, ((shown_same h11).trans (shown_same h12)).trans (h13.trans (shown_same h14))⟩, ?_⟩))
      · have e : lba + ((j + 1 : Nat) : Int) = lba + j + 1 := by push_cast; omega
        rw [e, hx.1, hx.2]
        simp [SV.den, denL, IE.den, BE.den, nth, vint, vbool, vaddr, addO, addr_add]
      · simp [SV.den, denL, IE.den, BE.den, nth, vint, vbool, vaddr, addO, addr_add]
        omega
    · have hp' : ii + 1 ≠ per z m x t fi := by
        simp only [BE.den, IE.den, nth, vint] at hp
        exact of_decide_eq_false hp
      have hx := hst.2.1 hp'
      refine den_ob64 (by simp only [IE.den, nth, vint]; omega) (den_leaf' fun w14 h14 => (if_pos rfl).mpr ⟨⟨j + 1, w10, ?_, by omega, hJ1, ((shown_same h11).trans (shown_same h12)).trans (h13.trans (shown_same h14))⟩, ?_⟩)
      · have e : lba + ((j + 1 : Nat) : Int) = lba + j + 1 := by push_cast; omega
        rw [e, hx.1, hx.2]
        simp [SV.den, denL, IE.den, BE.den, nth, vint, vbool, vaddr, addO, addr_add]
      · simp [SV.den, denL, IE.den, BE.den, nth, vint, vbool, vaddr, addO, addr_add]
        omega
  · have hge' : n ≤ (j : Int) := hge
    have : j = eachN z m x t fi lba n := by rw [eN]; omega
    exact den_leaf_ne (by decide) (den_leafA _ rfl fun w9 h9 => ⟨rfl, W0, .inl (by rw [← this]; exact hJj), hs0.trans (shown_same h9)⟩)

theorem c26 (z m : Int) (x : Bool) (t : Int) (fi : Bool) (lba n : Int) (w : World) : GivesR Try.prog 26 [fmtV z m x t fi, .int .i64 lba, .int .i64 n] w (fun v w' => ∃ c1 c2 c3, v = .func (.func 47) #[] #[pt c1, pt c2, pt c3] ∧ Cap c1 c2 c3 z m x t fi lba n w' ∧ w.heap.size ≤ c1 ∧ w.heap.size ≤ c2 ∧ w.heap.size ≤ c3) := by
  refine givesR mix t26 rfl rfl (ε := [.int .i64 z, .int .i64 m, .bool x, .int .i64 t, .bool fi, .int .i64 lba, .int .i64 n]) ⟨⟨_, rfl⟩, ⟨_, rfl⟩, ⟨_, rfl⟩, ⟨_, rfl⟩, ⟨_, rfl⟩, ⟨_, rfl⟩, ⟨_, rfl⟩, trivial⟩ ?_
  refine den_blk fun b1 k1 _ _ => den_norm (by simp only [List.cons_append, List.nil_append]; rfl) (den_blk fun b2 k2 _ _ => den_norm (by simp only [List.cons_append, List.nil_append]; rfl) (den_blk fun b3 k3 _ _ => den_norm (by simp only [List.cons_append, List.nil_append]; rfl) ?_))
  exact den_leafR _ rfl fun w1 h1 => ⟨b1, b2, b3, by simp [SV.den, denL, IE.den, BE.den, nth, vint, vbool, vaddr, addO, addr_add], ⟨h1.facts.2.2.1, h1.facts.2.1, h1.facts.1⟩, k1, k2, k3⟩
theorem go47 : goFunc Try.prog 47 = true := by kernel_rfl
theorem Cap.seq {c1 c2 c3 : Nat} {z m : Int} {x : Bool} {t : Int} {fi : Bool} {lba n : Int} {w : World} {lo hi : Nat} (h : Cap c1 c2 c3 z m x t fi lba n w) (hl : lba ≤ 1152921504606846976) (hb : ∀ b, b = c1 ∨ b = c2 ∨ b = c3 → lo ≤ b ∧ b < hi) :
    SeqAt Try.prog lo hi w (.func (.func 47) #[] #[pt c1, pt c2, pt c3]) ((eachP z m x t fi lba n).map fun x => (yvals Try.prog [3, 3] x).toArray) := by
  refine ⟨47, _, fun b => b = c1 ∨ b = c2 ∨ b = c3, rfl, go47, seq47 c1 c2 c3 z m x t fi lba n w h hl, fun b hb' => ⟨(hb b hb').1, (hb b hb').2, h.lt b hb', ?_⟩⟩
  have nr : ∀ {p : Nat} {l : List Value}, HasBlk w (pt p) l → ¬ IsRec w p := by
    rintro p l ⟨b, ty, e, hh⟩ ⟨o, ho, hr⟩
    cases e
    rw [hh] at ho; cases ho; cases hr
  rcases hb' with rfl | rfl | rfl
  · exact nr h.h1
  · exact nr h.h2
  · exact nr h.h3
theorem Cap.quiet {c1 c2 c3 : Nat} {z m : Int} {x : Bool} {t : Int} {fi : Bool} {lba n : Int} {w w' : World} (h : Cap c1 c2 c3 z m x t fi lba n w) (hk : Quiet w w') : Cap c1 c2 c3 z m x t fi lba n w' :=
  ⟨h.h1.quiet hk, h.h2.quiet hk, h.h3.quiet hk⟩
end Go.Proofs.Ytngemhmjpphpaaa
