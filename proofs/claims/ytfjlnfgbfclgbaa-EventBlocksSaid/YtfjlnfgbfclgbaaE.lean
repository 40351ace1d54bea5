/- The specification's Request, and the iterator over notices. No conditions beyond those that each theorem names. -/
import Derived.Test.YtfjlnfgbfclgbaaD
import Derived.Test.YtfjlnfgbfclgbaaTC
set_option maxRecDepth 100000
set_option maxHeartbeats 2000000
set_option linter.unusedVariables false
set_option linter.unusedSimpArgs false
namespace Go.Proofs.Ytfjlnfgbfclgbaa
open Go.Sx

/-- the slice lies where the other lies, or in a new block -/
def Fr (w : World) (s s' : Value) : Prop := ∀ ad, vaddr s' = some ad → (∃ ad0, vaddr s = some ad0 ∧ ad0.block = ad.block) ∨ w.heap.size ≤ ad.block
theorem Fr.refl (w : World) (s : Value) : Fr w s s := fun ad had => .inl ⟨ad, had, rfl⟩
theorem Fr.new {w : World} {s s' : Value} (h : ∀ ad, vaddr s' = some ad → w.heap.size ≤ ad.block) : Fr w s s' := fun ad had => .inr (h ad had)
/-- the cells of the specification's events -/
def refC (lim cfg : Int) (s1 s2 : Value) (Bl : Nat → Bool) (Pg : Nat → Int) : List Value :=
  [.int .i64 lim, .int .u32 cfg, s1, s2, .bool (Bl 0), .bool (Bl 1), .bool (Bl 2), .bool (Bl 3), .bool (Bl 4), .bool (Bl 5), .bool (Bl 6), .bool (Bl 7),
   .int .u8 (Pg 0), .int .u8 (Pg 1), .int .u8 (Pg 2), .int .u8 (Pg 3), .int .u8 (Pg 4), .int .u8 (Pg 5), .int .u8 (Pg 6), .int .u8 (Pg 7)]
abbrev refV (lim cfg : Int) (s1 s2 : Value) (Bl : Nat → Bool) (Pg : Nat → Int) : Value := .agg (refC lim cfg s1 s2 Bl Pg).toArray

theorem c49 (e : Ev) (s1 s2 : Value) (Bl : Nat → Bool) (Pg : Nat → Int) (id : Int) (w : World) (h1 : Given hE w s1 e.R) (h2 : ∃ a n c, s2 = .slice a n c) (hle : (e.R.length : Int) ≤ e.lim) (hm : e.R.length ≤ 60000000) :
    GivesR Try.prog 49 [refV e.lim e.cfg s1 s2 Bl Pg, .int .u16 id] w (fun v w' => ∃ s1', v = .tuple #[refV e.lim e.cfg s1' s2 Bl Pg, .int .i64 (reqC e id)] ∧ Given hE w' s1' (reqE e id).R ∧ Fr w s1 s1') := by
  obtain ⟨a, c, rfl⟩ := h1.1.slice
  obtain ⟨a2, n2, c2, rfl⟩ := h2
  refine givesR mix t49 rfl rfl (ε := [.int .i64 e.lim, .int .u32 e.cfg, .slice a e.R.length c, .slice a2 n2 c2, .bool (Bl 0), .bool (Bl 1), .bool (Bl 2), .bool (Bl 3), .bool (Bl 4), .bool (Bl 5), .bool (Bl 6), .bool (Bl 7), .int .u8 (Pg 0), .int .u8 (Pg 1), .int .u8 (Pg 2), .int .u8 (Pg 3), .int .u8 (Pg 4), .int .u8 (Pg 5), .int .u8 (Pg 6), .int .u8 (Pg 7), .int .u16 id]) ⟨⟨_, rfl⟩, ⟨_, rfl⟩, ⟨_, _, _, rfl⟩, ⟨_, _, _, rfl⟩, ⟨_, rfl⟩, ⟨_, rfl⟩, ⟨_, rfl⟩, ⟨_, rfl⟩, ⟨_, rfl⟩, ⟨_, rfl⟩, ⟨_, rfl⟩, ⟨_, rfl⟩, ⟨_, rfl⟩, ⟨_, rfl⟩, ⟨_, rfl⟩, ⟨_, rfl⟩, ⟨_, rfl⟩, ⟨_, rfl⟩, ⟨_, rfl⟩, ⟨_, rfl⟩, ⟨_, rfl⟩, trivial⟩ (den_blk fun b1 k1 _ _ => ?_)
  refine den_norm (by simp only [List.cons_append, List.nil_append]; rfl) (den_blk fun b2 k2 _ _ => den_norm (by simp only [List.cons_append, List.nil_append]; rfl) ?_)
  have z1 : w.heap.size ≤ b1 := k1
  have z2 : w.heap.size ≤ b2 := k2
  refine den_for e.R.length (fun j w' => ∀ (i : Nat) y, i < j → e.R[i]? = some y → decide (id = y) = false) ⟨rfl, fun w _ i y hi => by omega⟩ ?_
  intro j w1 hj hI hk hfa
  refine den_norm (by simp only [List.cons_append, List.nil_append]; rfl) (den_splitLt (fun hlt => ?_) (fun hge => ?_))
  · have hlt' : j < e.R.length := by simpa [IE.den, nth, vint, vlen] using hlt
    have hx : e.R[j]? = some (e.R[j]'hlt') := by simp
    generalize e.R[j]'hlt' = x at hx
    refine den_idx2 (E := hE) (L := e.R) x j [.int .u16 x] (h1.same hk).1 rfl (by decide) rfl hx ⟨⟨_, rfl⟩, trivial⟩ (whole _) (fun w2 h2 => (h1.same h2.base).1) (fun ad had => by simp [BlkIn, nth, blkOf, vaddr]) (fun w2 h2 => den_norm (by simp only [List.cons_append, List.nil_append]; rfl) ?_)
    refine den_splitEq (fun h4 => ?_) (fun h4 => ?_)
    · have h4' : x = id := h4
      have hany : e.R.any (fun x => decide (id = x)) = true := List.any_eq_true.2 ⟨x, List.mem_of_getElem? hx, decide_eq_true h4'.symm⟩
      have e3 : reqC e id = 3 := by unfold reqC; rw [if_pos hany]
      refine den_leaf_ne (by decide) (den_leafR _ rfl fun w3 h3 => ⟨.slice a e.R.length c, by rw [e3]; rfl, ?_⟩)
      have : reqE e id = e := by unfold reqE; rw [e3]; rfl
      rw [this]
      exact ⟨h1.kept h3.base fun ad had hx => hx, Fr.refl _ _⟩
    · have h4' : x ≠ id := h4
      refine den_ob64 (by simp only [IE.den, nth, vint]; omega) (den_next rfl hlt' fun w5 _ i y hi hy => ?_)
      by_cases hij : i = j
      · subst hij
        rw [hx] at hy
        cases hy
        exact decide_eq_false fun e => h4' e.symm
      · exact hI i y (by omega) hy
  · have hge' : e.R.length ≤ j := by simpa [IE.den, nth, vint, vlen] using hge
    have hany : e.R.any (fun x => decide (id = x)) = false := by
      rw [List.any_eq_false]
      intro x hx
      obtain ⟨i, hi⟩ := List.getElem?_of_mem hx
      rw [hI i x (Nat.lt_of_lt_of_le (List.getElem?_eq_some_iff.1 hi).1 hge') hi]
      decide
    refine den_splitLe (fun h4 => ?_) (fun h4 => ?_)
    · have h4' : e.lim ≤ (e.R.length : Int) := h4
      have e3 : reqC e id = 261 := by unfold reqC; rw [if_neg (by rw [hany]; decide), if_pos (by omega)]
      refine den_leaf_ne (by decide) (den_leafR _ rfl fun w3 h3 => ⟨.slice a e.R.length c, by rw [e3]; rfl, ?_⟩)
      have : reqE e id = e := by unfold reqE; rw [e3]; rfl
      rw [this]
      exact ⟨h1.kept h3.base fun ad had hx => hx, Fr.refl _ _⟩
    · have h4' : (e.R.length : Int) < e.lim := h4
      have e3 : reqC e id = 0 := by unfold reqC; rw [if_neg (by rw [hany]; decide), if_neg (by omega)]
      have er : (reqE e id).R = e.R ++ [id] := by unfold reqE; rw [if_pos e3]
      refine den_appendL (E := hE) (T := 37) rfl u35 i37 z37 s37 rfl (by decide) by37 h_one (.slice none 0 0) (.slice a e.R.length c) [] e.R rfl rfl h1.2.1 (by simp; omega) (fun g hg _ => by cases hg) (by simp [keys]) (fun wa ha => ⟨Mine.nil, (h1.same ha.base).1⟩) (fun g hg _ => by cases hg) (fun hd => by cases hd) (fun _ => rfl) (fun wa v wb ha hv kab hfr hap => den_norm (by simp only [List.cons_append, List.nil_append]; rfl) ?_)
      rw [List.nil_append] at hv
      have za : w.heap.size ≤ wa.heap.size := ha.base.size
      have hlo : ∀ g, v.ownBlock = some g → wa.heap.size ≤ g := fun g hg => by
        rcases hfr with ⟨e1, _⟩ | ⟨b', e1, hb', _⟩
        · rw [e1] at hg; cases hg
        · rw [e1] at hg; cases hg; exact hb'
      have lb1 : b1 < wa.heap.size := ha.lt (i := 21) (by simp [keys]) rfl
      have lb2 : b2 < wa.heap.size := ha.lt (i := 22) (by simp [keys]) rfl
      refine den_blk fun b3 k3 _ _ => den_norm (by simp only [List.cons_append, List.nil_append]; rfl) ?_
      have z3 : wb.heap.size ≤ b3 := k3
      refine den_push (E := hE) (T := 37) rfl u35 i37 z37 s37 rfl (by decide) by37 h_one v e.R id rfl rfl rfl (by omega) (fun g hg _ => .inl (Nat.le_trans za (hlo g hg))) (by simp [keys]) (fun wc hc => hv.same (shown_same hc)) ?_ (fun hd => by cases hd) (fun _ => rfl) (fun wc v' wd hc hv' kcd hfr' hap' => den_norm (by simp only [List.cons_append, List.nil_append]; rfl) ?_)
      · intro g hg _ hin2
        have q1 := hlo g hg
        have q2 := hv.lt hg
        simp [BlkIn, nth, blkOf, vaddr] at hin2
        omega
      refine den_leaf_ne (by decide) (den_leafR _ rfl fun we he => ⟨v', by rw [e3]; rfl, ?_⟩)
      rw [er]
      refine ⟨(hv'.kept he.kept fun g hg hin2 => ?_).given, Fr.new fun ad had => ?_⟩
      rotate_left
      · have hg := hv'.own had
        rcases hfr' with ⟨e1, _⟩ | ⟨b', e1, hb', _⟩
        · rw [e1] at hg
          have q1 := hlo _ hg
          omega
        · rw [e1] at hg
          have q4 : b' = ad.block := Option.some.inj hg
          have q5 : wb.heap.size ≤ wc.heap.size := hc.kept.size
          have q6 := kab.size
          omega
      rcases hfr' with ⟨e1, _⟩ | ⟨b', e1, hb', _⟩
      · rw [e1] at hg
        have q1 := hlo g hg
        simp [BlkIn, nth, blkOf, vaddr] at hin2
        omega
      · rw [e1] at hg
        have q4 : b' = g := Option.some.inj hg
        have q5 : wb.heap.size ≤ wc.heap.size := hc.kept.size
        have q6 := kab.size
        simp [BlkIn, nth, blkOf, vaddr] at hin2
        omega
end Go.Proofs.Ytfjlnfgbfclgbaa
