/- The law PoolHolds' walk: it returns true for every number of blocks, erases and turns. No conditions beyond those that each theorem names. -/
import Derived.Test.YtdinjabnfjoojaaPD
set_option maxRecDepth 100000
set_option maxHeartbeats 2000000
set_option linter.unusedVariables false
set_option linter.unusedSimpArgs false
namespace Go.Proofs.Ytdinjabnfjoojaa
open Go.Sx



theorem size3 : Try.t3.size = 1 := by kernel_rfl
theorem mine_make {w : World} {b m : Nat} (hm : m ≤ 20) (h : w.heap[b]? = some (.cells (madeCells (Value.int .i64 0).cells (m * Try.t3.size)) 3 (0, 0))) : Mine intE 3 w (.slice (some ⟨b, 0, none⟩) m m) (List.replicate m (0 : Int)) := by
  rw [size3] at h
  refine .inl ⟨by simp [intE], .inr ⟨b, m, _, by simp, Nat.zero_le _, h, by simp, by simp [maxLen]; omega, by simp [size_madeCells, intE], ?_⟩⟩
  rw [show (Value.int .i64 0).cells = #[.int .i64 0] from rfl, toList_madeCells_one]
  clear h
  induction m with
  | zero => rfl
  | succ m ih =>
    have := ih (by omega)
    simp [intE, List.replicate_succ] at this ⊢
    exact this
theorem newE_rep {m : Nat} {e : Int} (h1 : 1 ≤ m) (h2 : m ≤ 20) (h3 : 0 ≤ e) (h4 : e ≤ 1000000) : newE (List.replicate m e) = 0 := by
  unfold newE
  rw [if_pos]
  refine ⟨by simpa using h1, by simp; omega, ?_⟩
  rw [List.all_eq_true]
  intro x hx
  obtain ⟨_, rfl⟩ := List.mem_replicate.1 hx
  unfold cnt
  simp only [Bool.and_eq_true, decide_eq_true_eq]
  omega
theorem newL_rep {m : Nat} {e : Int} : newL (List.replicate m e) = hL m 0 e := by
  apply List.ext_getElem?
  intro j
  by_cases hj : j < m
  · rw [hL_get hj]
    simp [newL, hj, hB]
  · rw [List.getElem?_eq_none (by simp [newL]; omega), List.getElem?_eq_none (by rw [hL_length]; omega)]

theorem c3 (n e turns : Int) (w : World) : Gives Try.prog 3 [.int .i64 n, .int .i64 e, .int .i64 turns] w (.bool true) := by
  refine gives mix t3 rfl rfl (ε := [.int .i64 n, .int .i64 e, .int .i64 turns]) ⟨⟨_, rfl⟩, ⟨_, rfl⟩, ⟨_, rfl⟩, trivial⟩ (den_splitLt (fun h => ?_) (fun a1 => den_splitLt (fun h => ?_) (fun a2 => den_splitLt (fun h => ?_) (fun a3 => den_splitLt (fun h => ?_) (fun a4 => den_splitLt (fun h => ?_) (fun a5 => ?_))))))
  · exact den_call_bool (b := true) (fun w1 _ => c8 w1) rfl fun _ _ _ _ => den_leaf rfl
  · exact den_call_bool (b := true) (fun w1 _ => c8 w1) rfl fun _ _ _ _ => den_leaf rfl
  · exact den_call_bool (b := true) (fun w1 _ => c8 w1) rfl fun _ _ _ _ => den_leaf rfl
  · exact den_call_bool (b := true) (fun w1 _ => c8 w1) rfl fun _ _ _ _ => den_leaf rfl
  · exact den_call_bool (b := true) (fun w1 _ => c8 w1) rfl fun _ _ _ _ => den_leaf rfl
  have a1' : 1 ≤ n := a1
  have a2' : n ≤ 20 := a2
  have a3' : 0 ≤ e := a3
  have a4' : e ≤ 1000000 := a4
  have a5' : turns ≤ 200 := a5
  clear a1 a2 a3 a4 a5
  obtain ⟨m, rfl⟩ : ∃ m : Nat, n = m := ⟨n.toNat, by omega⟩
  have hbytes := bytes3
  have hu : Try.prog.underlying 23 = some (.slice 3) := Try.underlying23
  have hbm : (Try.t3.bytes : Int) * m ≤ 281474976710656 := by
    have h1 : (Try.t3.bytes : Int) ≤ 1000 := by omega
    have h2 : (Try.t3.bytes : Int) * m ≤ 1000 * 20 := Int.mul_le_mul h1 (by omega) (by omega) (by omega)
    exact Int.le_trans h2 (by decide)
  refine den_make (n := m) hu info3 zero3' rfl rfl hbm (by omega) (fun v => rfl) (fun w1 b1 w2 k1 hb1 hh1 s12 => ?_)
  have hm2 := mine_make (by omega) hh1
  have z1 : w.heap.size ≤ w1.heap.size := k1.base.size
  refine den_norm (by simp only [List.cons_append, List.nil_append]; rfl) ?_
  refine den_loop (fun ls w' => ∃ (j : Nat) (L : List Int), ls = [.int .i64 j] ∧ j ≤ m ∧ L.length = m ∧ (∀ i, i < j → L[i]? = some e) ∧ Mine intE 3 w' (.slice (some ⟨b1, 0, none⟩) m m) L) (fun ls _ => m - (vint (nth ls 0)).toNat) (fun w3 k3 => ⟨0, List.replicate m 0, rfl, Nat.zero_le _, by simp, fun i hi => by omega, hm2.same (shown_same k3)⟩) ?_
  clear hm2 hh1
  rintro w3 l w4 k3 hf ⟨j, L, rfl, hj, hlL, hLe, hm⟩ hk hfa
  refine den_norm (by simp only [List.cons_append, List.nil_append]; rfl) (den_splitLt (fun h => ?_) (fun h => ?_))
  · have hlt : j < m := by simpa [IE.den, nth, vint, vlen] using h
    have hx : L[j]? = some (L[j]'(by omega)) := by simp
    generalize L[j]'(by omega) = x at hx
    refine den_obs (E := intE) (L := L) j (show Arr intE w4 (.slice (some ⟨b1, 0, none⟩) m m) L from hm.arr) (by decide) rfl (by omega) ?_
    refine den_storeM (E := intE) (T := 3) (.slice (some ⟨b1, 0, none⟩) m m) L j x e (.int .i64 e) [.int .i64 e] (by kernel_rfl) rfl rfl rfl hx rfl rfl rfl (by intro u hu; simp at hu; subst hu; rfl) (by simp [intE]) (by decide) rfl (fun w5 h5 => hm.same (shown_same h5)) (fun w5 h5 g hg => ?_) ⟨w4, hm⟩ (fun w5 w6 h5 hm6 hk6 => ?_)
    · cases hg
      exact ⟨fun hd => (by cases hd), fun hlt => absurd (show b1 < w.heap.size from hlt) (by omega), fun hin => (by first | (simp [BlkIn, nth, blkOf, vaddr] at hin; done) | cases hin), fun hx => (by cases hx)⟩
    refine den_ob64 (by simp only [IE.den, nth, vint]; omega) (den_leaf' fun w7 k7 => (if_pos rfl).mpr ⟨⟨j + 1, L.set j e, by simp [SV.den, denL, IE.den, BE.den, nth, vint, vbool, vaddr, addO, addr_add], by omega, by simp [hlL], fun i hi => ?_, hm6.same (shown_same k7)⟩, ?_⟩)
    · rw [List.getElem?_set]
      by_cases hij : j = i
      · rw [if_pos hij, if_pos (by omega)]
      · rw [if_neg hij]; exact hLe i (by omega)
    · simp [SV.den, denL, IE.den, BE.den, nth, vint, vbool, vaddr, addO, addr_add]
      omega
  have hmj : m ≤ j := by have h' : (m : Int) ≤ j := h
                         omega
  obtain rfl : L = List.replicate m e := by
    apply List.ext_getElem?
    intro i
    by_cases hi : i < m
    · rw [hLe i (by omega)]; simp [hi]
    · rw [List.getElem?_eq_none (by omega), List.getElem?_eq_none (by simp; omega)]
  have he := newE_rep (by omega) (by omega) a3' a4' (m := m)
  refine den_callR (fun w1 l w2 => ∃ p, l = [p, .int .i64 (newE (List.replicate m e))] ∧ NewR (List.replicate m e) w1 w2 p) (fun w5 k5 => ?_) (fun w5 l w6 k5 hf hR hs56 => ?_)
  · refine (c9 _ (List.replicate m e) w5 (hm.arr.same (shown_same k5)) (by simp; omega)).mono fun v w' ⟨p, hv, h3, h4⟩ => ?_
    have hp : Base.ptr.fits p := by
      obtain ⟨b, s, rfl, _⟩ := h4 he; exact ⟨_, rfl⟩
    exact ⟨[p, .int .i64 (newE (List.replicate m e))], ⟨hp, ⟨_, rfl⟩, trivial⟩, hv, p, rfl, h3, h4⟩
  obtain ⟨p, rfl, hN⟩ := hR
  obtain ⟨b, s, rfl, hP, hb, hg⟩ := hN.2 he
  rw [he]
  rw [newL_rep] at hP
  have z5 := k5.base.size
  refine den_norm (by simp only [List.cons_append, List.nil_append]; rfl) ?_
  refine den_call_int (x := 0) (fun w7 k7 => c10 0 w7) rfl fun w7 w8 k7 k8 => den_norm (by simp only [List.cons_append, List.nil_append]; rfl) (den_splitNot (fun e => ?_) (fun _ => ?_))
  · simp [BE.den, IE.den, nth, vint] at e
  refine den_split_false rfl ?_
  have hP8 := hP.same ((shown_same k7).trans k8)
  have hfo : ∀ x, MP b s x → w.heap.size ≤ x := fun x hx => by
    have z5' : w.heap.size ≤ w5.heap.size := z5
    rcases hx with rfl | hx
    · omega
    · have := hg x hx; omega
  have hok0 : OkL (hL m 0 e) := by rw [← newL_rep]; exact newL_ok he
  refine den_loop (fun ls w' => ∃ (i : Nat), ls = [.int .i64 i] ∧ (i = 0 ∨ (i : Int) ≤ turns) ∧ PoolAt w' b s (hL m i e) ∧ OkL (hL m i e)) (fun ls _ => turns.toNat - (vint (nth ls 0)).toNat) (fun w9 k9 => ⟨0, rfl, .inl rfl, hP8.same (shown_same k9), hok0⟩) ?_
  clear hP hP8
  rintro w9 l w10 k9 hf ⟨i, rfl, hit, hp, hok⟩ hk hfa
  refine den_norm (by simp only [List.cons_append, List.nil_append]; rfl) (den_splitLt (fun h => ?_) (fun h => ?_))
  · have hlt : (i : Int) < turns := h
    have hm0 : 0 < m := by omega
    have hdiv : i / m ≤ i := Nat.div_le_self _ _
    have hdiv1 : (i + 1) / m ≤ i + 1 := Nat.div_le_self _ _
    obtain ⟨hE, hI, hch, hR⟩ := hL_turn (n := m) (i := i) (e := e) hm0 a3' (by omega)
    have hlen : (hL m i e).length = m := hL_length
    refine den_callM (fun _ => MP b s) (fun w11 l w12 => l = [.int .i64 (takI (hL m i e)), .int .i64 0] ∧ PoolAt w12 b s (takL (hL m i e))) (fun w11 k11 y hy _ => ?_) (fun w11 k11 => ?_) (fun w11 l w12 k11 hf hR' k12 => ?_)
    · have := hfo y hy
      exact ⟨fun hd => (by cases hd), fun hlt => absurd (show y < w.heap.size from hlt) (by omega), fun hin => (by first | (simp [BlkIn, nth, blkOf, vaddr] at hin; done) | cases hin), fun hx => (by cases hx)⟩
    · refine (c11 b s _ w11 (hp.same (shown_same k11)) hok).mono (fun v w' ⟨hv, hp2⟩ _ => ?_) (fun _ _ h => h)
      rw [hE] at hv
      exact ⟨[.int .i64 (takI (hL m i e)), .int .i64 0], ⟨⟨_, rfl⟩, ⟨_, rfl⟩, trivial⟩, hv, ⟨rfl, hp2⟩, trivial⟩
    obtain ⟨rfl, hp12⟩ := hR'
    refine den_norm (by simp only [List.cons_append, List.nil_append]; rfl) ?_
    refine den_callM (fun _ => MP b s) (fun w13 l w14 => l = [.int .i64 0] ∧ PoolAt w14 b s (hL m (i + 1) e)) (fun w13 k13 y hy _ => ?_) (fun w13 k13 => ?_) (fun w13 l w14 k13 hf hR' k14 => ?_)
    · have := hfo y hy
      exact ⟨fun hd => (by cases hd), fun hlt => absurd (show y < w.heap.size from hlt) (by omega), fun hin => (by first | (simp [BlkIn, nth, blkOf, vaddr] at hin; done) | cases hin), fun hx => (by cases hx)⟩
    · refine (c12 b s _ (takI (hL m i e)) w13 (hp12.same (shown_same k13)) (takL_ok hok)).mono (fun v w' ⟨hv, hp2⟩ _ => ?_) (fun _ _ h => h)
      rw [hch] at hv
      rw [hR] at hp2
      subst hv
      exact ⟨[.int .i64 0], ⟨⟨_, rfl⟩, trivial⟩, rfl, ⟨rfl, hp2⟩, trivial⟩
    obtain ⟨rfl, hp14⟩ := hR'
    have hlo := hL_lo (n := m) (i := i + 1) (e := e) hm0
    have hhi := hL_hi (n := m) (i := i + 1) (e := e) hm0
    have hok' : OkL (hL m (i + 1) e) := by rw [← hR]; exact relL_ok (takL_ok hok)
    refine den_norm (by simp only [List.cons_append, List.nil_append]; rfl) ?_
    refine den_call [.int .i64 (lo (hL m (i + 1) e)), .int .i64 (hi (hL m (i + 1) e))] ⟨⟨_, rfl⟩, ⟨_, rfl⟩, trivial⟩ rfl (fun w15 k15 => c13 (pt b) _ w15 (hp14.same (shown_same k15)).r hok'.ne (by rw [hL_length]; omega)) fun w15 w16 k15 k16 => den_norm (by simp only [List.cons_append, List.nil_append]; rfl) ?_
    have hp16 := (hp14.same (shown_same k15)).same k16
    refine den_call_int (x := 0) (fun w17 k17 => c10 0 w17) rfl fun w17 w18 k17 k18 => den_norm (by simp only [List.cons_append, List.nil_append]; rfl) ?_
    refine den_call_int (x := 0) (fun w19 k19 => c10 0 w19) rfl fun w19 w20 k19 k20 => den_norm (by simp only [List.cons_append, List.nil_append]; rfl) ?_
    have hp20 := (((hp16.same (shown_same k17)).same k18).same (shown_same k19)).same k20
    generalize hi (hL m (i + 1) e) = ht at hhi ⊢
    rw [hlo]
    have hq : ((i : Int) + 1).tdiv m = ((i + 1) / m : Nat) := by
      rw [show ((i : Int) + 1) = ((i + 1 : Nat) : Int) by push_cast; rfl]
      exact Int.ofNat_tdiv _ _
    generalize (i + 1) / m = q at hdiv1 hhi hlo hq ⊢
    refine den_ob64 (by simp only [IE.den, nth, vint]; omega) (den_splitNot (fun e => ?_) (fun _ => ?_))
    · simp [BE.den, IE.den, nth, vint] at e
    refine den_ob64 (by simp only [IE.den, nth, vint]; omega) (den_splitLt (fun h2 => ?_) (fun _ => ?_))
    · have h2' : 1 < ht - (e + (q : Nat)) := h2
      omega
    refine den_ob64 (by simp only [IE.den, nth, vint]; omega) ?_
    refine den_ob (by simp [BE.den, IE.den, nth, vint]; omega) ?_
    refine den_ob64 (by simp only [IE.den, nth, vint]; rw [hq]; omega) ?_
    refine den_ob64 (by simp only [IE.den, nth, vint]; rw [hq]; omega) (den_splitNot (fun e2 => ?_) (fun _ => ?_))
    · exfalso
      simp only [BE.den, IE.den, nth, vint] at e2
      have := of_decide_eq_false e2
      simp [hq] at this
    refine den_ob64 (by simp only [IE.den, nth, vint]; omega) (den_leaf' fun w21 k21 => (if_pos rfl).mpr ⟨⟨i + 1, by simp [SV.den, denL, IE.den, BE.den, nth, vint, vbool, vaddr, addO, addr_add], .inr (by push_cast; omega), hp20.same (shown_same k21), hok'⟩, ?_⟩)
    simp [SV.den, denL, IE.den, BE.den, nth, vint, vbool, vaddr, addO, addr_add]
    omega
  · exact den_call_bool (b := true) (fun w9 _ => c8 w9) rfl fun _ _ _ _ => den_leaf' fun w10 k10 => (if_neg (by decide)).mpr ⟨by simp [SV.den, denL, IE.den, BE.den, nth, vint, vbool, vaddr, addO, addr_add], k10.base⟩
end Go.Proofs.Ytdinjabnfjoojaa
