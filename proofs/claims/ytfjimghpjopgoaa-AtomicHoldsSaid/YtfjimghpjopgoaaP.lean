/- What the iterator over an order hands out, and what the law's loop over it says. No conditions beyond those that each theorem names. -/
import Derived.Test.YtfjimghpjopgoaaO
import Derived.Test.YtfjimghpjopgoaaU
import Derived.Test.YtfjimghpjopgoaaV
import Derived.Test.YtfjimghpjopgoaaSxZC
set_option maxRecDepth 100000
set_option linter.unusedVariables false
set_option linter.unusedSimpArgs false
namespace Go.Proofs.Ytfjimghpjopgoaa
open Go.Sx

def eachL (L : List Cmd) : List (List Value) := L.mapIdx fun i c => [.int .i64 c.id, .bool (rdy L i)]
theorem eachL_length (L : List Cmd) : (eachL L).length = L.length := by simp [eachL]
theorem eachL_get (L : List Cmd) (j : Nat) (c : Cmd) (h : L[j]? = some c) : (eachL L)[j]? = some [.int .i64 c.id, .bool (rdy L j)] := by
  simp [eachL, List.getElem?_mapIdx, h]
theorem zero3 : (Try.prog.info? 3).bind (·.zero) = some (.int .i64 0) := by kernel_rfl
theorem zero4 : (Try.prog.info? 4).bind (·.zero) = some (.bool false) := by kernel_rfl
theorem yv (a b : Value) : yvals Try.prog [3, 4] [a, b] = [a, b] := by
  unfold yvals
  rw [zero3]
  unfold yvals
  rw [zero4]
  rfl
abbrev pt (b : Nat) : Value := .pointer (some ⟨b, 0, none⟩)
theorem OrdAt.of_eq {w w' : World} {b : Nat} {s : Value} {L : List Cmd} (h : OrdAt w b s L) (h1 : w'.heap[b]? = w.heap[b]?) (h2 : ∀ g, s.ownBlock = some g → w'.heap[g]? = w.heap[g]?) : OrdAt w' b s L :=
  ⟨h.blk.of_eq fun x hx => by cases hx; exact h1, h.mine.of_eq h2, h.apart⟩

theorem seq45 (bc b : Nat) (s : Value) (L : List Cmd) (w : World) (hc : HasBlk w (pt bc) [pt b]) (hO : OrdAt w b s L) (hm : L.length < 4611686018427387904) :
    SeqOk Try.prog 45 #[pt bc] w (fun x => x = bc ∨ x = b ∨ s.ownBlock = some x) ((eachL L).map fun x => (yvals Try.prog [3, 4] x).toArray) := by
  intro l J Jx W hFt hY hJ
  obtain ⟨a, cp, hsl⟩ := hO.mine.slice
  have obs : ∀ W' : World, (∀ x, x = bc ∨ x = b ∨ s.ownBlock = some x → W'.heap[x]? = w.heap[x]?) → HasBlk W' (pt bc) [pt b] ∧ OrdAt W' b s L := fun W' h =>
    ⟨hc.of_eq fun x hx => by cases hx; exact h _ (.inl rfl), hO.of_eq (h _ (.inr (.inl rfl))) fun g hg => h g (.inr (.inr hg))⟩
  have lts : ∀ {W' : World}, HasBlk W' (pt bc) [pt b] ∧ OrdAt W' b s L → ∀ x, x = bc ∨ x = b ∨ s.ownBlock = some x → x < W'.heap.size := by
    rintro W' ⟨h1, h2⟩ x (rfl | rfl | hx)
    · exact h1.pts.lt (by simp) _ rfl
    · exact h2.lt
    · exact h2.mine.lt hx
  have same : ∀ {W1 W2 : World}, HasBlk W1 (pt bc) [pt b] ∧ OrdAt W1 b s L → Same W1 W2 → HasBlk W2 (pt bc) [pt b] ∧ OrdAt W2 b s L := fun h hs => ⟨HasBlk.kept' h.1 hs fun h => h, h.2.same hs⟩
  have oW := obs W (hFt 0 W hJ)
  have h := runs mix t45 rfl rfl (ε := [.func (.yield l) #[] #[], pt bc]) (w := W) (M := fun x => ¬ (x = bc ∨ x = b ∨ s.ownBlock = some x)) (R := fun v w' => v = .tuple #[] ∧ ∃ W0, (J L.length W0 ∨ Jx W0) ∧ Same W0 w') ⟨rfl, ⟨_, rfl⟩, trivial⟩ trivial (by simp [keys]) (by simp [keys]) (by simp [keys]) ?_
  · have h' : Runs Try.prog 45 [.func (.yield l) #[] #[], pt bc] W (fun x => ¬ (x = bc ∨ x = b ∨ s.ownBlock = some x)) (fun v w' => v = .tuple #[] ∧ ∃ W0, (J L.length W0 ∨ Jx W0) ∧ Same W0 w') := by simpa [SV.den, denL, IE.den, BE.den, nth, vint, vbool, vaddr, addO, addr_add] using h
    refine Calls.mono h'.run fun e w' ⟨v, h1, ⟨_, h2⟩, _⟩ => ⟨v, h1, ?_⟩
    rw [List.length_map, eachL_length]
    exact h2
  refine den_ldp [pt b] [pt b] ⟨⟨_, rfl⟩, trivial⟩ (whole _) (fun w1 h1 => (same oW (shown_same h1)).1.pts) (fun _ _ => by simp [BlkIn]) fun w1 h1 => den_norm (by simp only [List.cons_append, List.nil_append]; rfl) (den_split_false rfl ?_)
  refine den_ldp [pt b] [pt b] ⟨⟨_, rfl⟩, trivial⟩ (whole _) (fun w2 h2 => (same oW ((shown_same h1).trans (shown_same h2))).1.pts) (fun _ _ => by simp [BlkIn]) fun w2 h2 => den_norm (by simp only [List.cons_append, List.nil_append]; rfl) (den_notnil (i := 3) oW.2.blk.pts ?_)
  subst hsl
  refine den_ldp [.slice a L.length cp] [.slice a L.length cp] ⟨⟨_, _, _, rfl⟩, trivial⟩ (whole _) (fun w3 h3 => (same oW (((shown_same h1).trans (shown_same h2)).trans (shown_same h3))).2.blk.pts) (fun _ _ => by simp [BlkIn]) fun w3 h3 => den_norm (by simp only [List.cons_append, List.nil_append]; rfl) ?_
  refine den_for L.length (fun j w' => ∃ W0, J j W0 ∧ Same W0 w') ⟨rfl, fun w4 h4 => ⟨W, hJ, (((shown_same h1).trans (shown_same h2)).trans (shown_same h3)).trans (shown_same h4)⟩⟩ ?_
  rintro j w4 hj ⟨W0, hJ0, hs0⟩ hk hfa
  have o0 := obs W0 (hFt j W0 hJ0)
  have o4 := same o0 hs0
  refine den_norm (by simp only [List.cons_append, List.nil_append]; rfl) (den_splitLt (fun hlt => ?_) (fun hge => ?_))
  · have hlt' : j < L.length := by simpa [IE.den, nth, vint, vlen] using hlt
    have hx : L[j]? = some L[j] := by simp [hlt']
    generalize L[j] = c at hx
    refine den_idx2 (E := cmdE) (L := L) c j (cmdE.enc c) o4.2.mine.arr rfl (by decide) rfl hx (fit4 _ _ _ _) (whole _) (fun w5 h5 => (same o4 (shown_same h5)).2.mine.arr) (fun _ _ => by simp [BlkIn]) fun w5 h5 => ?_
    have o5 := same o4 (shown_same h5)
    have s5 := hs0.trans (shown_same h5)
    refine den_norm (by simp only [List.cons_append, List.nil_append, cmdE]; rfl) (den_blk fun b10 k10 _ _ => den_norm (by simp only [List.cons_append, List.nil_append]; rfl) ?_)
    intro w6 h6
    have n6 := shown_new h6 fun x hx => by simp [BlkIn, nth, blkOf, vaddr] at hx; omega
    have s6 := s5.trans n6
    have o6 := same o5 n6
    refine ⟨fun x => ¬ (x = bc ∨ x = b ∨ (Value.slice a L.length cp).ownBlock = some x), fun x hx hf => ?_, ?_⟩
    · have := lts o5 x hf
      simp [BlkIn, nth, blkOf, vaddr] at hx
      omega
    refine den_ldpD [pt b] [pt b] ⟨⟨_, rfl⟩, trivial⟩ (whole _) o6.1.pts (fun x hx hn => hn (.inl (by cases hx; rfl))) (den_norm (by simp only [List.cons_append, List.nil_append]; rfl) (den_notnil (i := 11) o6.2.blk.pts ?_))
    refine den_call_bool (b := rdy L j) (fun w7 h7 => ?_) rfl (fun w7 w8 h7 h8 => den_norm (by simp only [List.cons_append, List.nil_append]; rfl) ?_)
    · have := c36 (pt b) L j w7 (same o6 (shown_same h7)).2.r hlt' hm
      simpa [SV.den, denL, IE.den, BE.den, nth, vint, vbool, vaddr, addO, addr_add] using this
    have s8 := (s6.trans (shown_same h7)).trans h8
    refine den_yield rfl (l := l) rfl (fun _ x => x < W0.heap.size ∧ ¬ (x = bc ∨ x = b ∨ (Value.slice a L.length cp).ownBlock = some x)) (fun _ v w' => if v then J (j + 1) w' else Jx w') (fun _ => rfl) (fun w9 h9 x hx _ => ?_) (fun w9 h9 => ?_) (fun w9 v w10 h9 hR hk10 => den_norm (by simp only [List.cons_append, List.nil_append]; rfl) ?_)
    · refine ⟨fun _ => hx.2, fun _ => hx.2, fun hin => ?_, fun hx => by cases hx⟩
      have : W0.heap.size ≤ w5.heap.size := s5.size
      simp [BlkIn, nth, blkOf, vaddr] at hin
      omega
    · obtain ⟨fn, tm, as_, bd, hy1, hy2⟩ := hY j (#[.int .i64 c.id, .bool (rdy L j)]) W0 w9 (by rw [List.getElem?_map, eachL_get L j c hx, Option.map_some, yv]) hJ0 (s8.trans (shown_same h9))
      exact ⟨fn, tm, as_, bd, hy1, hy2.mono fun e w' ⟨v, h1, h2, h3⟩ => ⟨v, h1, h3, h2.mono fun _ _ h => h⟩⟩
    · refine den_splitNot (fun hv => ?_) (fun hv => ?_)
      · have hv' : v = false := hv
        subst hv'
        refine den_leaf_ne (by decide) (den_leafA _ rfl fun w11 h11 => ⟨rfl, w10, .inr hR, shown_same h11⟩)
      · have hv' : v = true := hv
        subst hv'
        exact den_ob64 (by simp only [IE.den, nth, vint]; omega) (den_next rfl hlt' fun w11 h11 => ⟨w10, hR, shown_same h11⟩)
  · have hge' : L.length ≤ j := by simpa [IE.den, nth, vint, vlen] using hge
    obtain rfl : j = L.length := by omega
    exact den_leaf_ne (by decide) (den_leafA _ rfl fun w5 h5 => ⟨rfl, W0, .inl hJ0, hs0.trans (shown_same h5)⟩)

theorem c25 (o : Value) (L : List Cmd) (w : World) (hO : OrdR w o L) (hm : L.length ≤ 60000000000) : GivesR Try.prog 25 [o] w (fun v w' => SeqAt Try.prog w.heap.size w'.heap.size w' v ((eachL L).map fun x => (yvals Try.prog [3, 4] x).toArray)) := by
  obtain ⟨s, ho, hs, hcap⟩ := hO.ex
  obtain ⟨bo, rfl, hbo⟩ := ho.at_
  refine givesR mix t25 rfl rfl (ε := [pt bo]) ⟨⟨_, rfl⟩, trivial⟩ ?_
  refine den_callR (fun w l w' => ∃ b s, l = [pt b] ∧ OrdAt w' b s L ∧ w.heap.size ≤ b ∧ ∀ g, s.ownBlock = some g → w.heap.size ≤ g) (fun w1 h1 => ?_) (fun w1 l w2 h1 hf hR hs12 => ?_)
  · refine (c24 (pt bo) L w1 (hO.same h1.base) hm).mono fun v w' ⟨b, s, hv, h2, h3, h4⟩ => ?_
    exact ⟨[pt b], ⟨⟨_, rfl⟩, trivial⟩, hv, b, s, rfl, h2, h3, h4⟩
  · obtain ⟨b, s, rfl, hO2, hb, hg⟩ := hR
    have z1 : w.heap.size ≤ w1.heap.size := h1.base.size
    refine den_norm (by simp only [List.cons_append, List.nil_append]; rfl) (den_blk fun bc k1 _ _ => den_norm (by simp only [List.cons_append, List.nil_append]; rfl) (den_leafR _ rfl fun w3 h3 => ?_))
    have hO3 := hO2.same (shown_new h3 fun x hx => by simp [BlkIn, nth, blkOf, vaddr] at hx; omega)
    have hc3 : HasBlk w3 (pt bc) [pt b] := h3.facts.1
    refine ⟨45, _, fun x => x = bc ∨ x = b ∨ s.ownBlock = some x, rfl, by kernel_rfl, seq45 bc b s L w3 hc3 hO3 (by omega), fun x hx => ?_⟩
    have hbc := hc3.pts.lt (by simp) bc rfl
    have z2 : w1.heap.size ≤ w2.heap.size := hs12.size
    rcases hx with rfl | rfl | hx
    · refine ⟨by omega, hbc, hbc, ?_⟩
      obtain ⟨x', ty, e, hh⟩ := hc3
      cases e
      rintro ⟨o, ho, hr⟩
      rw [hh] at ho; cases ho; cases hr
    · refine ⟨by omega, hO3.lt, hO3.lt, ?_⟩
      obtain ⟨x', ty, e, hh⟩ := hO3.blk
      cases e
      rintro ⟨o, ho, hr⟩
      rw [hh] at ho; cases ho; cases hr
    · have := hg x hx
      exact ⟨by omega, hO3.mine.lt hx, hO3.mine.lt hx, hO3.mine.notRec hx⟩
end Go.Proofs.Ytfjimghpjopgoaa
