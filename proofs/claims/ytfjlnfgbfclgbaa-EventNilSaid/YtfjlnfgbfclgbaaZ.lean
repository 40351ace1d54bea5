/- The methods without an object, and the law EventNil. No conditions beyond those that each theorem names. -/
import Derived.Test.YtfjlnfgbfclgbaaW
import Derived.Test.YtfjlnfgbfclgbaaTM
set_option maxRecDepth 100000
set_option maxHeartbeats 4000000
set_option linter.unusedVariables false
set_option linter.unusedSimpArgs false
namespace Go.Proofs.Ytfjlnfgbfclgbaa
open Go.Sx

/-- no object: nil, or a pointer to one whose limit is 0 -/
def NoObj (w : World) (v : Value) : Prop := v = .pointer none ∨ ∃ b, v = pt b ∧ PtsTo w (pt b) [.int .i64 0]
theorem NoObj.same {w w' : World} {v : Value} (h : NoObj w v) (hs : Same w w') : NoObj w' v := by
  rcases h with h | ⟨b, rfl, hp⟩
  · exact .inl h
  · exact .inr ⟨b, rfl, hp.same hs⟩
theorem NoObj.ptr {w : World} {v : Value} (h : NoObj w v) : ∃ r, v = .pointer r := by
  rcases h with rfl | ⟨b, rfl, _⟩
  · exact ⟨_, rfl⟩
  · exact ⟨_, rfl⟩
theorem n39 {w : World} {v : Value} (h : NoObj w v) : Gives Try.prog 39 [v] w (.bool true) := by
  rcases h with rfl | ⟨b, rfl, hp⟩
  · exact c39n w
  · refine gives mix t39 rfl rfl (ε := [pt b]) ⟨⟨_, rfl⟩, trivial⟩ (den_split_false rfl ?_)
    exact den_ldp [.int .i64 0] _ ⟨⟨_, rfl⟩, trivial⟩ (cellk _ 0 _ rfl) (fun w1 h1 => hp.same h1.base) (fun _ _ => by simp [BlkIn]) fun w1 h1 => den_norm (by simp only [List.cons_append, List.nil_append]; rfl) (den_leaf rfl)
section
variable {w : World} {v : Value}
theorem n20 (h : NoObj w v) (id : Int) : Gives Try.prog 20 [v, .int .u16 id] w (stV 0 6 false false) := by
  obtain ⟨r, rfl⟩ := h.ptr
  refine gives mix t20 rfl rfl (ε := [.pointer r, .int .u16 id]) ⟨⟨_, rfl⟩, ⟨_, rfl⟩, trivial⟩ (den_blk fun b2 k2 _ _ => den_norm (by simp only [List.cons_append, List.nil_append]; rfl) ?_)
  refine den_call_bool (b := true) (fun w1 h1 => n39 (h.same h1.base)) rfl (fun w1 w2 h1 h2 => den_norm (by simp only [List.cons_append, List.nil_append]; rfl) (den_split_true rfl ?_))
  exact den_call [.int .u8 0, .int .u8 6, .bool false, .bool false] ⟨⟨_, rfl⟩, ⟨_, rfl⟩, ⟨_, rfl⟩, ⟨_, rfl⟩, trivial⟩ rfl (fun w6 _ => c40 6 (by decide) false w6) (fun w6 w7 h6 h7 => den_norm (by simp only [List.cons_append, List.nil_append]; rfl) (den_leaf rfl))
theorem n21 (h : NoObj w v) (n : Ntc) : Gives Try.prog 21 [v, n.v] w (.tuple #[.bool false, .int .i64 1]) := by
  obtain ⟨r, rfl⟩ := h.ptr
  refine Runs.gives ?_
  have hh := runs mix t21n rfl rfl (ε := [.pointer r, .int .u8 n.t, .int .u8 n.i, .int .u8 n.p]) (heap := []) (w := w) (M := fun _ => False) (R := fun v _ => v = .tuple #[.bool false, .int .i64 1]) ⟨⟨_, rfl⟩, ⟨_, rfl⟩, ⟨_, rfl⟩, ⟨_, rfl⟩, trivial⟩ trivial (by simp [keys]) (by simp [keys]) (by simp [keys]) ?_
  · exact hh
  refine den_blk fun b2 k2 _ _ => den_norm (by simp only [List.cons_append, List.nil_append]; rfl) (den_blk fun b2 k2 _ _ => den_norm (by simp only [List.cons_append, List.nil_append]; rfl) (den_blk fun b2 k2 _ _ => den_norm (by simp only [List.cons_append, List.nil_append]; rfl) ?_))
  exact den_call_bool (b := true) (fun w1 h1 => n39 (h.same h1.base)) rfl (fun w1 w2 h1 h2 => den_norm (by simp only [List.cons_append, List.nil_append]; rfl) (den_split_true rfl (den_leafMA _ rfl fun _ _ _ _ => rfl)))
theorem n22 (h : NoObj w v) : Gives Try.prog 22 [v] w (.slice none 0 0) := by
  obtain ⟨r, rfl⟩ := h.ptr
  refine gives mix t22n rfl rfl (ε := [.pointer r]) ⟨⟨_, rfl⟩, trivial⟩ (den_blk fun b2 k2 _ _ => den_norm (by simp only [List.cons_append, List.nil_append]; rfl) ?_)
  refine den_loop (fun ls _ => ls = [.slice none 0 0]) (fun _ _ => 0) (fun _ _ => rfl) ?_
  rintro w1 l w2 h1 _ rfl hk _
  refine den_norm (by simp only [List.cons_append, List.nil_append]; rfl) ?_
  exact den_call_bool (b := true) (fun w1 h1 => n39 (h.same h1.base)) rfl (fun w1 w2 h1 h2 => den_norm (by simp only [List.cons_append, List.nil_append]; rfl) (den_split_false rfl (den_leaf' fun wz hz => (if_neg (by decide)).mpr ⟨rfl, hz.base⟩)))
theorem n33 (h : NoObj w v) (g : Nat) (caps : List Value) : Gives Try.prog 33 [v, .func (.func g) #[] caps.toArray] w (.int .i64 1) := by
  obtain ⟨r, rfl⟩ := h.ptr
  refine gives mix t33 rfl rfl (ε := [.pointer r, .func (.func g) #[] caps.toArray]) ⟨⟨_, rfl⟩, rfl, trivial⟩ ?_
  exact den_call_bool (b := true) (fun w1 h1 => n39 (h.same h1.base)) rfl (fun w1 w2 h1 h2 => den_norm (by simp only [List.cons_append, List.nil_append]; rfl) (den_split_true rfl (den_leaf rfl)))
theorem n23 (h : NoObj w v) (p : Int) : Gives Try.prog 23 [v, .int .u8 p] w (.int .i64 1) := by
  obtain ⟨r, rfl⟩ := h.ptr
  refine gives mix t23 rfl rfl (ε := [.pointer r, .int .u8 p]) ⟨⟨_, rfl⟩, ⟨_, rfl⟩, trivial⟩ (den_blk fun b2 k2 _ _ => den_norm (by simp only [List.cons_append, List.nil_append]; rfl) (den_blk fun b3 k3 _ _ => den_norm (by simp only [List.cons_append, List.nil_append]; rfl) ?_))
  exact den_call_int (x := 1) (fun w1 h1 => n33 (h.same h1.base) 45 [pt b2, pt b3]) rfl (fun _ _ _ _ => den_norm (by simp only [List.cons_append, List.nil_append]; rfl) (den_leaf rfl))
theorem n18 (h : NoObj w v) (c : Int) : Gives Try.prog 18 [v, .int .u32 c] w (.int .i64 1) := by
  obtain ⟨r, rfl⟩ := h.ptr
  refine gives mix t18 rfl rfl (ε := [.pointer r, .int .u32 c]) ⟨⟨_, rfl⟩, ⟨_, rfl⟩, trivial⟩ (den_blk fun b2 k2 _ _ => den_norm (by simp only [List.cons_append, List.nil_append]; rfl) (den_blk fun b3 k3 _ _ => den_norm (by simp only [List.cons_append, List.nil_append]; rfl) ?_))
  exact den_call_int (x := 1) (fun w1 h1 => n33 (h.same h1.base) 34 [pt b3, pt b2]) rfl (fun _ _ _ _ => den_norm (by simp only [List.cons_append, List.nil_append]; rfl) (den_leaf rfl))
theorem n27 (h : NoObj w v) : Gives Try.prog 27 [v] w (.int .i64 1) := by
  obtain ⟨r, rfl⟩ := h.ptr
  refine gives mix t27 rfl rfl (ε := [.pointer r]) ⟨⟨_, rfl⟩, trivial⟩ (den_blk fun b2 k2 _ _ => den_norm (by simp only [List.cons_append, List.nil_append]; rfl) ?_)
  exact den_call_int (x := 1) (fun w1 h1 => n33 (h.same h1.base) 55 [pt b2]) rfl (fun _ _ _ _ => den_norm (by simp only [List.cons_append, List.nil_append]; rfl) (den_leaf rfl))
theorem n30 (h : NoObj w v) (id : Int) : Gives Try.prog 30 [v, .int .u16 id] w (.int .i64 1) := by
  obtain ⟨r, rfl⟩ := h.ptr
  refine gives mix t30 rfl rfl (ε := [.pointer r, .int .u16 id]) ⟨⟨_, rfl⟩, ⟨_, rfl⟩, trivial⟩ (den_blk fun b2 k2 _ _ => den_norm (by simp only [List.cons_append, List.nil_append]; rfl) ?_)
  exact den_call_bool (b := true) (fun w1 h1 => n39 (h.same h1.base)) rfl (fun w1 w2 h1 h2 => den_norm (by simp only [List.cons_append, List.nil_append]; rfl) (den_split_true rfl (den_leaf rfl)))
theorem n25 (h : NoObj w v) : Gives Try.prog 25 [v] w (.slice none 0 0) := by
  obtain ⟨r, rfl⟩ := h.ptr
  refine gives mix t25 rfl rfl (ε := [.pointer r]) ⟨⟨_, rfl⟩, trivial⟩ ?_
  exact den_call_bool (b := true) (fun w1 h1 => n39 (h.same h1.base)) rfl (fun w1 w2 h1 h2 => den_norm (by simp only [List.cons_append, List.nil_append]; rfl) (den_split_true rfl (den_leaf rfl)))
theorem n28 (h : NoObj w v) : Gives Try.prog 28 [v] w (.pointer none) := by
  obtain ⟨r, rfl⟩ := h.ptr
  refine gives mix t28 rfl rfl (ε := [.pointer r]) ⟨⟨_, rfl⟩, trivial⟩ ?_
  exact den_call_bool (b := true) (fun w1 h1 => n39 (h.same h1.base)) rfl (fun w1 w2 h1 h2 => den_norm (by simp only [List.cons_append, List.nil_append]; rfl) (den_split_true rfl (den_leaf rfl)))
theorem n24 (h : NoObj w v) : GivesR Try.prog 24 [v] w (fun v w' => SeqAt Try.prog w.heap.size w'.heap.size w' v (ysN [])) := by
  obtain ⟨r, rfl⟩ := h.ptr
  refine givesR mix t24 rfl rfl (ε := [.pointer r]) ⟨⟨_, rfl⟩, trivial⟩ (den_blk fun b1 k1 _ _ => den_norm (by simp only [List.cons_append, List.nil_append]; rfl) ?_)
  have z1 : w.heap.size ≤ b1 := k1
  refine den_call_bool (b := true) (fun w1 h1 => n39 (h.same h1.base)) rfl (fun w1 w2 h1 h2 => den_norm (by simp only [List.cons_append, List.nil_append]; rfl) (den_split_false rfl ?_))
  refine den_leafR _ rfl fun w6 h6 => ?_
  have hc6 : HasBlk w6 (pt b1) [.slice none 0 0] := h6.facts.1
  refine ⟨48, _, fun x => x = b1 ∨ (Value.slice none 0 0).ownBlock = some x, rfl, go48, seq48 b1 (.slice none 0 0) [] w6 hc6 Mine.nil (by simp), fun x hx => ?_⟩
  rcases hx with rfl | hx
  · have lx := hc6.pts.lt (by simp) x rfl
    refine ⟨z1, lx, lx, ?_⟩
    obtain ⟨x', ty, e', hh⟩ := hc6
    cases e'
    rintro ⟨o, ho, hr⟩
    rw [hh] at ho; cases ho; cases hr
  · cases hx
end
theorem c9 (a : Cl) (ha : a.Ok) (w : World) : Gives Try.prog 9 [a.v] w (.bool true) := by
  refine Runs.gives ?_
  have hh := runs mix t9 rfl rfl (ε := a.cells) (heap := []) (w := w) (M := fun _ => False) (R := fun v _ => v = .bool true) ⟨⟨_, rfl⟩, ⟨_, rfl⟩, ⟨_, rfl⟩, ⟨_, rfl⟩, ⟨_, rfl⟩, ⟨_, rfl⟩, trivial⟩ trivial (by simp [keys]) (by simp [keys]) (by simp [keys]) ?_
  · exact hh
  refine den_norm (by simp only [Cl.cells]; rfl) (den_blk fun b6 k6 _ _ => den_norm (by simp only [List.cons_append, List.nil_append]; rfl) (den_blk fun b7 k7 _ _ => den_norm (by simp only [List.cons_append, List.nil_append]; rfl) (den_blk fun b8 k8 _ _ => den_norm (by simp only [List.cons_append, List.nil_append]; rfl) (den_blk fun b9 k9 _ _ => den_norm (by simp only [List.cons_append, List.nil_append]; rfl) ?_))))
  refine den_for 2 (fun _ _ => True) ⟨rfl, fun _ _ => trivial⟩ ?_
  intro j w1 hj _ hk hfa
  refine den_norm (by simp only [List.cons_append, List.nil_append]; rfl) (den_splitLt (fun hlt => ?_) (fun hge => ?_))
  rotate_left
  · exact den_call_bool (b := true) (fun wa _ => c16 wa) rfl (fun _ _ _ _ => den_norm (by simp only [List.cons_append, List.nil_append]; rfl) (den_leafM_ne (by decide) (den_leafMA _ rfl fun _ _ _ _ => rfl)))
  have hlt' : j < 2 := by
    have : (j : Int) < 2 := hlt
    omega
  have h9 : HasBlk w1 (pt b9) [.pointer none, pt b8] := hfa.1
  have h8 : HasBlk w1 (pt b8) [.int .i64 0, .int .u32 0, .slice none 0 0, .slice none 0 0, .map none] := hfa.2.1
  have sb : ∀ {wa wb : World} {x : Nat} {l : List Value}, HasBlk wa (pt x) l → Same wa wb → HasBlk wb (pt x) l := fun {wa wb x l} hx hs => by
    obtain ⟨b', ty, q, hh⟩ := hx
    cases q
    exact ⟨_, ty, rfl, (hs.block _ (Array.getElem?_eq_some_iff.1 hh).1 (fun h => h)).trans hh⟩
  obtain ⟨r, hr⟩ : ∃ r, ([.pointer none, pt b8] : List Value)[j]? = some (.pointer r) := by
    match j, hlt' with
    | 0, _ => exact ⟨_, rfl⟩
    | 1, _ => exact ⟨_, rfl⟩
  have hv0 : ∀ {wa : World}, Same w1 wa → NoObj wa (.pointer r) := fun {wa} hs => by
    match j, hlt', hr with
    | 0, _, hr => cases hr; exact .inl rfl
    | 1, _, hr => cases hr; exact .inr ⟨b8, rfl, ⟨b8, rfl, fun m v hv => by
      have := (sb h8 hs).pts.at_
      obtain ⟨b', e1, hc⟩ := this
      cases e1
      cases m with
      | zero => cases hv; exact hc 0 _ rfl
      | succ m => simp at hv⟩⟩
  refine den_ob (by simp [BE.den, IE.den, nth, vint]) (den_ob (by simp [BE.den, IE.den, nth, vint]; omega) ?_)
  refine den_lda j [.pointer r] [.pointer none, pt b8] rfl ⟨⟨_, rfl⟩, trivial⟩ (fun m v hv => by
    cases m with
    | zero => cases hv; simpa using hr
    | succ m => simp at hv) (fun wa ha => (sb h9 (shown_same ha)).pts) (fun b hb => by simp [BlkIn, nth, blkOf, vaddr]) (fun w2 h2 => den_norm (by simp only [List.cons_append, List.nil_append]; rfl) ?_)
  have s2 := shown_same h2
  refine den_call [.bool false, .int .i64 1] ⟨⟨_, rfl⟩, ⟨_, rfl⟩, trivial⟩ rfl (fun wa ha2 => n21 (hv0 (s2.trans (shown_same ha2))) a.n) (fun w3 w4 h3 h34 => den_norm (by simp only [List.cons_append, List.nil_append]; rfl) ?_)
  have s4 := (s2.trans (shown_same h3)).trans h34
  refine den_call [.int .u8 0, .int .u8 6, .bool false, .bool false] ⟨⟨_, rfl⟩, ⟨_, rfl⟩, ⟨_, rfl⟩, ⟨_, rfl⟩, trivial⟩ rfl (fun wa ha2 => n20 (hv0 (s4.trans (shown_same ha2))) a.id) (fun w5 w6 h5 h56 => den_norm (by simp only [List.cons_append, List.nil_append]; rfl) ?_)
  have s6 := (s4.trans (shown_same h5)).trans h56
  refine den_call_bool (b := true) (fun wa _ => (c19 0 6 false false 6 (by decide) (by decide) wa).to (by rw [show isI 0 6 false false 6 = true by decide])) rfl (fun w7 w8 h7 h78 => den_norm (by simp only [List.cons_append, List.nil_append]; rfl) (den_split_false rfl (den_split_false rfl (den_split_false rfl ?_))))
  have s8 := (s6.trans (shown_same h7)).trans h78
  refine den_call [.slice none 0 0] ⟨⟨_, _, _, rfl⟩, trivial⟩ rfl (fun wa ha2 => n22 (hv0 (s8.trans (shown_same ha2)))) (fun w9 wa h9 h9a => den_norm (by simp only [List.cons_append, List.nil_append]; rfl) (den_split_false rfl ?_))
  have sa := (s8.trans (shown_same h9)).trans h9a
  refine den_call_int (x := 1) (fun wx hx => n23 (hv0 (sa.trans (shown_same hx))) a.n.p) rfl (fun wb wc hb hbc => den_norm (by simp only [List.cons_append, List.nil_append]; rfl) (den_split_false rfl ?_))
  have sc := (sa.trans (shown_same hb)).trans hbc
  refine den_call_int (x := 1) (fun wx hx => n18 (hv0 (sc.trans (shown_same hx))) a.c) rfl (fun wd we hd hde => den_norm (by simp only [List.cons_append, List.nil_append]; rfl) (den_split_false rfl ?_))
  have se := (sc.trans (shown_same hd)).trans hde
  refine den_call_int (x := 1) (fun wx hx => n30 (hv0 (se.trans (shown_same hx))) a.id) rfl (fun wf wg hf hfg => den_norm (by simp only [List.cons_append, List.nil_append]; rfl) (den_split_false rfl ?_))
  have sg := (se.trans (shown_same hf)).trans hfg
  refine den_call_int (x := 1) (fun wx hx => n27 (hv0 (sg.trans (shown_same hx)))) rfl (fun wh wi hh hhi => den_norm (by simp only [List.cons_append, List.nil_append]; rfl) (den_split_false rfl ?_))
  have si := (sg.trans (shown_same hh)).trans hhi
  refine den_call [.slice none 0 0] ⟨⟨_, _, _, rfl⟩, trivial⟩ rfl (fun wx hx => n25 (hv0 (si.trans (shown_same hx)))) (fun wj wk hj2 hjk => den_norm (by simp only [List.cons_append, List.nil_append]; rfl) (den_split_false rfl ?_))
  have sk := (si.trans (shown_same hj2)).trans hjk
  refine den_call [.pointer none] ⟨⟨_, rfl⟩, trivial⟩ rfl (fun wx hx => n28 (hv0 (sk.trans (shown_same hx)))) (fun wl wm hl hlm => den_norm (by simp only [List.cons_append, List.nil_append]; rfl) (den_split_false rfl ?_))
  have sm := (sk.trans (shown_same hl)).trans hlm
  refine den_callR (fun w5 l w6 => ∃ v, l = [v] ∧ SeqAt Try.prog w5.heap.size w6.heap.size w6 v (ysN [])) (fun wx hx => ?_) ?_
  · refine (n24 (hv0 (sm.trans (shown_same hx)))).mono fun v w' hs => ⟨[v], ?_, ?_, v, rfl, hs⟩
    · obtain ⟨g, caps, Ft, rfl, _⟩ := hs.ex
      exact ⟨rfl, trivial⟩
    · rfl
  rintro wn l wo hn _ ⟨fv, rfl, hsq⟩ hno
  have hfn : vnil fv = false := by
    obtain ⟨g, caps, Ft, rfl, _⟩ := hsq.ex
    rfl
  have l6 : b6 < wn.heap.size := hn.lt (i := 6) (by simp [keys]) rfl
  have l7 : b7 < wn.heap.size := hn.lt (i := 7) (by simp [keys]) rfl
  have l8 : b8 < wn.heap.size := hn.lt (i := 8) (by simp [keys]) rfl
  have l9 : b9 < wn.heap.size := hn.lt (i := 9) (by simp [keys]) rfl
  refine den_norm (by simp only [List.cons_append, List.nil_append]; rfl) (den_split_false (by simp [BE.den, nth, hfn]) ?_)
  refine den_range [] (fun _ l _ => l = []) wn.heap.size wo.heap.size ?_ ?_ ?_ ?_ ?_ ?_
  · intro x hx
    simp at hx
  · intro y hy
    simp [BlkIn, nth, blkOf, vaddr] at hy
    omega
  · intro wx hx
    exact hsq.kept (M := fun _ => False) (shown_same hx) fun _ _ _ _ h => h
  · intro wx hx
    rfl
  · intro wx Ft hx k y hy
    simp at hy
  · rintro wx hx l hl wy wz rfl hq hk2 hfa2
    exact den_norm (by simp only [List.cons_append, List.nil_append]; rfl) (den_ob64 (by simp only [IE.den, nth, vint]; omega) (den_next rfl hlt' fun _ _ => trivial))
end Go.Proofs.Ytfjlnfgbfclgbaa
