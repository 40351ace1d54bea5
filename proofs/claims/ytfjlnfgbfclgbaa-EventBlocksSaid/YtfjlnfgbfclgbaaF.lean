/- The iterator over the pending notices. No conditions beyond those that each theorem names. -/
import Derived.Test.YtfjlnfgbfclgbaaE
set_option maxRecDepth 100000
set_option maxHeartbeats 2000000
set_option linter.unusedVariables false
set_option linter.unusedSimpArgs false
namespace Go.Proofs.Ytfjlnfgbfclgbaa
open Go.Sx

theorem yvN (n : Ntc) : yvals Try.prog [23] n.cells = [n.v] := by
  have : (Try.prog.info? 23).bind (·.zero) = some zN := by kernel_rfl
  unfold yvals
  rw [this]
  rfl
noncomputable abbrev ysN (L : List Ntc) : List (Array Value) := (L.map Ntc.cells).map fun x => (yvals Try.prog [23] x).toArray
theorem seq48 (bc : Nat) (s : Value) (L : List Ntc) (w : World) (hc : HasBlk w (pt bc) [s]) (hM : Mine ntcE 23 w s L) (hm : L.length ≤ 60000000000) :
    SeqOk Try.prog 48 #[pt bc] w (fun x => x = bc ∨ s.ownBlock = some x) (ysN L) := by
  intro l J Jx W hFt hY hJ
  obtain ⟨a, cp, hsl⟩ := hM.slice
  have obs : ∀ W' : World, (∀ x, x = bc ∨ s.ownBlock = some x → W'.heap[x]? = w.heap[x]?) → HasBlk W' (pt bc) [s] ∧ Mine ntcE 23 W' s L := fun W' h =>
    ⟨hc.of_eq fun x hx => by cases hx; exact h _ (.inl rfl), hM.of_eq fun g hg => h g (.inr hg)⟩
  have same : ∀ {W1 W2 : World}, HasBlk W1 (pt bc) [s] ∧ Mine ntcE 23 W1 s L → Same W1 W2 → HasBlk W2 (pt bc) [s] ∧ Mine ntcE 23 W2 s L := fun h hs => by
    refine ⟨?_, h.2.same hs⟩
    obtain ⟨b', ty, e, hh⟩ := h.1
    cases e
    exact ⟨bc, ty, rfl, (hs.block bc (Array.getElem?_eq_some_iff.1 hh).1 (fun h => h)).trans hh⟩
  have lts : ∀ {W' : World}, HasBlk W' (pt bc) [s] ∧ Mine ntcE 23 W' s L → ∀ x, x = bc ∨ s.ownBlock = some x → x < W'.heap.size := by
    rintro W' ⟨h1, h2⟩ x (rfl | hx)
    · exact h1.pts.lt (by simp) _ rfl
    · exact h2.lt hx
  have oW := obs W (hFt 0 W hJ)
  have hlen : (ysN L).length = L.length := by simp [ysN]
  have h := runs mix t48 rfl rfl (ε := [.func (.yield l) #[] #[], pt bc]) (w := W) (M := fun x => ¬ (x = bc ∨ s.ownBlock = some x)) (R := fun v w' => v = .tuple #[] ∧ ∃ W0, (J L.length W0 ∨ Jx W0) ∧ Same W0 w') ⟨rfl, ⟨_, rfl⟩, trivial⟩ trivial (by simp [keys]) (by simp [keys]) (by simp [keys]) ?_
  · have h' : Runs Try.prog 48 [.func (.yield l) #[] #[], pt bc] W (fun x => ¬ (x = bc ∨ s.ownBlock = some x)) (fun v w' => v = .tuple #[] ∧ ∃ W0, (J L.length W0 ∨ Jx W0) ∧ Same W0 w') := by simpa [SV.den, denL, IE.den, BE.den, nth, vint, vbool, vaddr, addO, addr_add] using h
    refine Calls.mono h'.run fun e w' ⟨v, h1, ⟨_, h2⟩, _⟩ => ⟨v, h1, ?_⟩
    rw [hlen]
    exact h2
  subst hsl
  refine den_ldp [.slice a L.length cp] [.slice a L.length cp] ⟨⟨_, _, _, rfl⟩, trivial⟩ (whole _) (fun w1 h1 => (same oW (shown_same h1)).1.pts) (fun _ _ => by simp [BlkIn]) fun w1 h1 => den_norm (by simp only [List.cons_append, List.nil_append]; rfl) ?_
  refine den_for L.length (fun j w' => ∃ W0, J j W0 ∧ Same W0 w') ⟨rfl, fun w4 h4 => ⟨W, hJ, (shown_same h1).trans (shown_same h4)⟩⟩ ?_
  rintro j w4 hj ⟨W0, hJ0, hs0⟩ hk hfa
  have o0 := obs W0 (hFt j W0 hJ0)
  have o4 := same o0 hs0
  refine den_norm (by simp only [List.cons_append, List.nil_append]; rfl) (den_splitLt (fun hlt => ?_) (fun hge => ?_))
  · have hlt' : j < L.length := by simpa [IE.den, nth, vint, vlen] using hlt
    have hx : L[j]? = some L[j] := by simp [hlt']
    generalize L[j] = c at hx
    refine den_idx2 (E := ntcE) (L := L) c j [.int .u8 c.t, .int .u8 c.i, .int .u8 c.p] o4.2.arr rfl (by decide) rfl hx ⟨⟨_, rfl⟩, ⟨_, rfl⟩, ⟨_, rfl⟩, trivial⟩ (whole _) (fun w5 h5 => (same o4 (shown_same h5)).2.arr) (fun _ _ => by simp [BlkIn]) fun w5 h5 => den_norm (by simp only [List.cons_append, List.nil_append]; rfl) ?_
    have o5 := same o4 (shown_same h5)
    have s5 := hs0.trans (shown_same h5)
    refine den_blk fun b7 k7 _ _ => den_norm (by simp only [List.cons_append, List.nil_append]; rfl) ?_
    have z7 : w5.heap.size ≤ b7 := k7
    refine den_yield rfl (l := l) rfl (fun _ x => x < W0.heap.size ∧ ¬ (x = bc ∨ (Value.slice a L.length cp).ownBlock = some x)) (fun _ v w' => if v then J (j + 1) w' else Jx w') (fun _ => rfl) (fun w9 h9 x hx _ => ?_) (fun w9 h9 => ?_) (fun w9 v w10 h9 hR hk10 => den_norm (by simp only [List.cons_append, List.nil_append]; rfl) ?_)
    · refine ⟨fun hd => (by cases hd), fun _ => hx.2, fun hin => ?_, fun hx => by cases hx⟩
      have : W0.heap.size ≤ w5.heap.size := s5.size
      simp [BlkIn, nth, blkOf, vaddr] at hin
      omega
    · have n9 : Same w5 w9 := shown_new h9 fun x hx => by simp [BlkIn, nth, blkOf, vaddr] at hx; omega
      obtain ⟨fn, tm, as_, bd, hy1, hy2⟩ := hY j (#[c.v]) W0 w9 (by rw [List.getElem?_map, List.getElem?_map, hx, Option.map_some, Option.map_some, yvN]) hJ0 (s5.trans n9)
      exact ⟨fn, tm, as_, bd, hy1, hy2.mono fun e w' ⟨v, h1, h2, h3⟩ => ⟨v, h1, h3, h2.mono fun _ _ h => h⟩⟩
    · refine den_splitNot (fun hv => ?_) (fun hv => ?_)
      · have hv' : v = false := hv
        subst hv'
        refine den_leaf_ne (by decide) (den_leafA _ rfl fun w11 h11 => ⟨rfl, w10, .inr hR, shown_same h11⟩)
      · have hv' : v = true := hv
        subst hv'
        exact den_ob64 (by simp only [IE.den, nth, vint]; omega) (den_next rfl hlt' fun w11 h11 => ⟨w10, hR, shown_same h11⟩)
  · have hge' : L.length ≤ j := by simpa [IE.den, nth, vint, vlen] using hge
    obtain rfl : j = L.length := by omega
    exact den_leaf_ne (by decide) (den_leafA _ rfl fun w5 h5 => ⟨rfl, W0, .inl hJ0, hs0.trans (shown_same h5)⟩)
theorem go48 : goFunc Try.prog 48 = true := by kernel_rfl
theorem c24 (b m : Nat) (s1 s2 : Value) (e : Ev) (w : World) (h : EvAt w b m s1 s2 e) (hl : e.lim ≠ 0) (hm : e.L.length ≤ 60000000000) : GivesR Try.prog 24 [pt b] w (fun v w' => SeqAt Try.prog w.heap.size w'.heap.size w' v (ysN e.L)) := by
  obtain ⟨a, c, rfl⟩ := h.l.1.slice
  refine givesR mix t24 rfl rfl (ε := [pt b]) ⟨⟨_, rfl⟩, trivial⟩ (den_blk fun b1 k1 _ _ => den_norm (by simp only [List.cons_append, List.nil_append]; rfl) ?_)
  have z1 : w.heap.size ≤ b1 := k1
  refine den_call_bool (b := decide (e.lim = 0)) (fun w1 h1 => c39 b m s1 _ e w1 (h.same h1.base)) rfl (fun w1 w2 h1 h2 => den_norm (by simp only [List.cons_append, List.nil_append]; rfl) (den_splitNot (fun hf => ?_) (fun hf => ?_)))
  · refine den_notnil (i := 0) h.blk.pts ?_
    refine den_ldp [.slice a e.L.length c] _ ⟨⟨_, _, _, rfl⟩, trivial⟩ (cellk _ 3 _ rfl) (fun w3 h3 => (h.same h3.base).blk.pts) (fun _ _ => by simp [BlkIn]) fun w3 h3 => den_norm (by simp only [List.cons_append, List.nil_append]; rfl) ?_
    refine den_callR (fun w1 l w2 => ∃ v, l = [v] ∧ Mine ntcE 23 w2 v e.L ∧ ∀ g, v.ownBlock = some g → w1.heap.size ≤ g) (fun w4 h4 => ?_) (fun w4 l w5 h4 hfl hR k45 => ?_)
    · refine (c36 _ e.L w4 (h.same h4.base).l.1 hm).mono fun v w' ⟨q1, q2, _⟩ => ?_
      obtain ⟨va, vc, hv⟩ := q1.slice
      exact ⟨[v], ⟨⟨_, _, _, hv⟩, trivial⟩, rfl, v, rfl, q1, q2⟩
    obtain ⟨v, rfl, hM, hlo⟩ := hR
    have z4 : w.heap.size ≤ w4.heap.size := h4.base.size
    have l1 : b1 < w4.heap.size := h4.lt (i := 1) (by simp [keys]) rfl
    refine den_norm (by simp only [List.cons_append, List.nil_append]; rfl) ?_
    refine den_leafR _ rfl fun w6 h6 => ?_
    have hc6 : HasBlk w6 (pt b1) [v] := h6.facts.1
    have hM6 : Mine ntcE 23 w6 v e.L := hM.kept h6.kept fun g hg hin => by have := hlo g hg; simp [BlkIn, nth, blkOf, vaddr] at hin; omega
    refine ⟨48, _, fun x => x = b1 ∨ v.ownBlock = some x, rfl, go48, seq48 b1 v e.L w6 hc6 hM6 hm, fun x hx => ?_⟩
    rcases hx with rfl | hx
    · have lx := hc6.pts.lt (by simp) x rfl
      refine ⟨z1, lx, lx, ?_⟩
      obtain ⟨x', ty, e', hh⟩ := hc6
      cases e'
      rintro ⟨o, ho, hr⟩
      rw [hh] at ho; cases ho; cases hr
    · exact ⟨Nat.le_trans z4 (hlo x hx), hM6.lt hx, hM6.lt hx, hM6.notRec hx⟩
  · exfalso
    simp [BE.den, nth, vbool] at hf
    exact hl hf
end Go.Proofs.Ytfjlnfgbfclgbaa
