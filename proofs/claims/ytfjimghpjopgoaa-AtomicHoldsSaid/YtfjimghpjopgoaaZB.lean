/- The law AtomicHolds' walk: it returns true for every input. No conditions beyond those that each theorem names. -/
import Derived.Test.YtfjimghpjopgoaaZA
import Derived.Test.YtfjimghpjopgoaaZT
import Derived.Test.YtfjimghpjopgoaaSxZG
set_option maxRecDepth 100000
set_option maxHeartbeats 2000000
set_option linter.unusedVariables false
set_option linter.unusedSimpArgs false
namespace Go.Proofs.Ytfjimghpjopgoaa
open Go.Sx

theorem underlying52 : Try.prog.underlying 52 = some (.slice 3) := by kernel_rfl
theorem info3 : Try.prog.info? 3 = some Try.t3 := by kernel_rfl
theorem zero3' : Try.t3.zero = some (.int .i64 0) := by kernel_rfl
theorem bytes3 : Try.t3.bytes ≤ 1000 := by decide +kernel
theorem size3 : Try.t3.size = 1 := by kernel_rfl
theorem one_int (x : Int) : ∀ u ∈ intE.enc x, u.oneCell' = true := by intro u hu; simp [intE] at hu; subst hu; rfl
def nums (l : List Nat) : List Int := l.map fun (x : Nat) => (x : Int)
theorem nums_length (l : List Nat) : (nums l).length = l.length := by simp [nums]

theorem GoodP.le {lim b o : Int} : ∀ {a : Int} {L : List (Int × Int)} {e : Int}, GoodP lim b o a L e → a ≤ e
  | a, [], e, h => by cases h; exact Int.le_refl _
  | a, x :: L, e, ⟨h1, h2, h3, h4, h5⟩ => by have := GoodP.le h5; omega
theorem tdiv_bounds {y b : Int} (hy : 0 ≤ y) (hb : 0 < b) : 0 ≤ y.tdiv b ∧ y.tdiv b ≤ y := by
  rw [Int.tdiv_eq_ediv_of_nonneg hy]
  exact ⟨Int.ediv_nonneg hy (by omega), Int.ediv_le_self b hy⟩

/-- the order, the open ones and the ended ones, apart from each other -/
structure Q5 (w0 : World) (b9 b15 : Nat) (w' : World) (op en s : Value) (NL EL : List Int) (CL : List Cmd) : Prop where
  top : Tail intE 3 w' op NL
  ten : Tail intE 3 w' en EL
  ord : OrdAt w' b15 s CL
  sz : w0.heap.size ≤ w'.heap.size ∧ b9 < w'.heap.size
  fo : ∀ g, op.ownBlock = some g → w0.heap.size ≤ g ∧ g ≠ b9 ∧ g ≠ b15 ∧ en.ownBlock ≠ some g ∧ s.ownBlock ≠ some g
  fe : ∀ g, en.ownBlock = some g → w0.heap.size ≤ g ∧ g ≠ b9 ∧ g ≠ b15 ∧ s.ownBlock ≠ some g
  fs : ∀ g, s.ownBlock = some g → w0.heap.size ≤ g ∧ g ≠ b9
/-- its blocks -/
def Foot5 (b15 : Nat) (op en s : Value) (x : Nat) : Prop := x = b15 ∨ op.ownBlock = some x ∨ en.ownBlock = some x ∨ s.ownBlock = some x
section
variable {w0 : World} {b9 b15 : Nat} {w' : World} {op en s : Value} {NL EL : List Int} {CL : List Cmd}
theorem Q5.kept {w2 : World} {M : Nat → Prop} (h : Q5 w0 b9 b15 w' op en s NL EL CL) (hk : Kept M w' w2) (hM : ∀ x, Foot5 b15 op en s x → ¬ M x) : Q5 w0 b9 b15 w2 op en s NL EL CL :=
  ⟨h.top.kept hk fun g hg => hM g (.inr (.inl hg)), h.ten.kept hk fun g hg => hM g (.inr (.inr (.inl hg))), h.ord.kept hk (hM _ (.inl rfl)) fun g hg => hM g (.inr (.inr (.inr hg))), ⟨Nat.le_trans h.sz.1 hk.size, Nat.lt_of_lt_of_le h.sz.2 hk.size⟩, h.fo, h.fe, h.fs⟩
theorem Q5.same {w2 : World} (h : Q5 w0 b9 b15 w' op en s NL EL CL) (hk : Same w' w2) : Q5 w0 b9 b15 w2 op en s NL EL CL := h.kept hk fun _ _ h => h
theorem Q5.lt (h : Q5 w0 b9 b15 w' op en s NL EL CL) : ∀ x, Foot5 b15 op en s x → x < w'.heap.size := by
  rintro x (rfl | hx | hx | hx)
  · exact h.ord.lt
  · exact h.top.lt hx
  · exact h.ten.lt hx
  · exact h.ord.mine.lt hx
theorem Q5.new {w2 : World} {M : Nat → Prop} (h : Q5 w0 b9 b15 w' op en s NL EL CL) (hk : Kept M w' w2) (hM : ∀ x, M x → w'.heap.size ≤ x) : Q5 w0 b9 b15 w2 op en s NL EL CL :=
  h.kept hk fun x hx hm => by have := h.lt x hx; have := hM x hm; omega
theorem Q5.setOrd {w2 : World} {s' : Value} {CL' : List Cmd} (h : Q5 w0 b9 b15 w' op en s NL EL CL) (hk : Kept (fun x => x = b15 ∨ s.ownBlock = some x) w' w2) (hO : OrdAt w2 b15 s' CL') (hfr : ∀ g, s'.ownBlock = some g → s.ownBlock = some g ∨ w'.heap.size ≤ g) :
    Q5 w0 b9 b15 w2 op en s' NL EL CL' := by
  refine ⟨h.top.kept hk fun g hg e => ?_, h.ten.kept hk fun g hg e => ?_, hO, ⟨Nat.le_trans h.sz.1 hk.size, Nat.lt_of_lt_of_le h.sz.2 hk.size⟩, fun g hg => ?_, fun g hg => ?_, fun g hg => ?_⟩
  · have := h.fo g hg
    rcases e with e | e
    · exact this.2.2.1 e
    · exact this.2.2.2.2 e
  · have := h.fe g hg
    rcases e with e | e
    · exact this.2.2.1 e
    · exact this.2.2.2 e
  · obtain ⟨h1, h2, h3, h4, h5⟩ := h.fo g hg
    refine ⟨h1, h2, h3, h4, fun e => ?_⟩
    have := h.lt g (.inr (.inl hg))
    rcases hfr g e with e | e
    · exact h5 e
    · omega
  · obtain ⟨h1, h2, h3, h4⟩ := h.fe g hg
    refine ⟨h1, h2, h3, fun e => ?_⟩
    have := h.lt g (.inr (.inr (.inl hg)))
    rcases hfr g e with e | e
    · exact h4 e
    · omega
  · have := h.sz
    rcases hfr g hg with e | e
    · exact h.fs g e
    · omega
theorem Q5.setTop {w2 : World} {op' : Value} {NL' : List Int} (h : Q5 w0 b9 b15 w' op en s NL EL CL) (hk : Kept (fun x => op.ownBlock = some x) w' w2) (ht : Tail intE 3 w2 op' NL') (hfr : ∀ g, op'.ownBlock = some g → op.ownBlock = some g ∨ w'.heap.size ≤ g) :
    Q5 w0 b9 b15 w2 op' en s NL' EL CL := by
  have hsz := h.sz
  refine ⟨ht, h.ten.kept hk fun g hg e => (h.fo g e).2.2.2.1 hg, h.ord.kept hk (fun e => (h.fo _ e).2.2.1 rfl) fun g hg e => (h.fo g e).2.2.2.2 hg, ⟨Nat.le_trans h.sz.1 hk.size, Nat.lt_of_lt_of_le h.sz.2 hk.size⟩, fun g hg => ?_, h.fe, h.fs⟩
  rcases hfr g hg with e | e
  · exact h.fo g e
  · have l1 := h.ord.lt
    refine ⟨by omega, by omega, by omega, fun e2 => ?_, fun e2 => ?_⟩
    · have := h.lt g (.inr (.inr (.inl e2))); omega
    · have := h.lt g (.inr (.inr (.inr e2))); omega
theorem Q5.setEn {w2 : World} {en' : Value} {EL' : List Int} (h : Q5 w0 b9 b15 w' op en s NL EL CL) (hk : Kept (fun x => en.ownBlock = some x) w' w2) (ht : Tail intE 3 w2 en' EL') (hfr : ∀ g, en'.ownBlock = some g → en.ownBlock = some g ∨ w'.heap.size ≤ g) :
    Q5 w0 b9 b15 w2 op en' s NL EL' CL := by
  have hsz := h.sz
  refine ⟨h.top.kept hk fun g hg e => (h.fo g hg).2.2.2.1 e, ht, h.ord.kept hk (fun e => (h.fe _ e).2.2.1 rfl) fun g hg e => (h.fe g e).2.2.2 hg, ⟨Nat.le_trans h.sz.1 hk.size, Nat.lt_of_lt_of_le h.sz.2 hk.size⟩, fun g hg => ?_, fun g hg => ?_, h.fs⟩
  · obtain ⟨h1, h2, h3, h4, h5⟩ := h.fo g hg
    refine ⟨h1, h2, h3, fun e2 => ?_, h5⟩
    rcases hfr g e2 with e | e
    · exact h4 e
    · have := h.lt g (.inr (.inl hg)); omega
  · rcases hfr g hg with e | e
    · exact h.fe g e
    · have l1 := h.ord.lt
      refine ⟨by omega, by omega, by omega, fun e2 => ?_⟩
      have := h.lt g (.inr (.inr (.inr e2))); omega
theorem Q5.cutTop {op' : Value} {NL' : List Int} (h : Q5 w0 b9 b15 w' op en s NL EL CL) (ht : Tail intE 3 w' op' NL') (he : op'.ownBlock = op.ownBlock) : Q5 w0 b9 b15 w' op' en s NL' EL CL :=
  ⟨ht, h.ten, h.ord, h.sz, fun g hg => h.fo g (by rw [← he]; exact hg), h.fe, h.fs⟩
end
/-- between two rounds -/
structure St5 (w0 : World) (b9 b15 : Nat) (A : List ActT) (i : Nat) (w' : World) (op en s : Value) (oL : List Nat) (eL : List Int) : Prop where
  opn : Open A i oL
  q : Q5 w0 b9 b15 w' op en s (nums oL) eL (cmdsOf A oL)
  len : oL.length + eL.length ≤ i
theorem cmdsOf_length {A : List ActT} {l : List Nat} : (cmdsOf A l).length = l.length := by simp [cmdsOf]
theorem nums_get {l : List Nat} {j x : Nat} (h : l[j]? = some x) : (nums l)[j]? = some (x : Int) := by simp [nums, h]

theorem c5 (u p b o lba n : Int) (power : Bool) (s0 tv : Value) (A : List ActT) (T : List Int) (w : World) (hs : Arr actE w s0 A) (ht : Arr byteE w tv T) :
    Gives Try.prog 5 [.agg #[.int .i64 u, .int .i64 p, .int .i64 b, .int .i64 o], .int .i64 lba, .int .i64 n, .bool power, s0, tv] w (.bool true) := by
  obtain ⟨a0, c0, rfl⟩ := hs.slice
  obtain ⟨at0, ct0, rfl⟩ := ht.slice
  have works : ∀ (w1 : World), Gives Try.prog 9 [] w1 (.bool true) := c9
  refine gives mix t5 rfl rfl (ε := [.int .i64 u, .int .i64 p, .int .i64 b, .int .i64 o, .int .i64 lba, .int .i64 n, .bool power, .slice a0 A.length c0, .slice at0 T.length ct0]) ⟨⟨_, rfl⟩, ⟨_, rfl⟩, ⟨_, rfl⟩, ⟨_, rfl⟩, ⟨_, rfl⟩, ⟨_, rfl⟩, ⟨_, rfl⟩, ⟨_, _, _, rfl⟩, ⟨_, _, _, rfl⟩, trivial⟩ (den_blk fun b9 k9 _ _ => den_norm (by simp only [List.cons_append, List.nil_append]; rfl) (den_splitLt (fun h => ?_) (fun hn3 => den_splitLt (fun h => ?_) (fun hA4 => den_splitLt (fun h => ?_) (fun hTA => ?_)))))
  · exact den_call_bool (b := true) (fun w1 _ => works w1) rfl fun _ _ _ _ => den_leaf rfl
  · exact den_call_bool (b := true) (fun w1 _ => works w1) rfl fun _ _ _ _ => den_leaf rfl
  · exact den_call_bool (b := true) (fun w1 _ => works w1) rfl fun _ _ _ _ => den_leaf rfl
  have hA : A.length ≤ 40 := by have h' : (A.length : Int) ≤ 40 := hA4
                                omega
  have hT : A.length ≤ T.length := by have h' : (A.length : Int) ≤ T.length := hTA
                                      omega
  clear hA4 hTA hn3
  have z9 : w.heap.size ≤ b9 := k9
  refine den_callR (fun w1 l w2 => ∃ s e L, l = [s, .int .i64 e] ∧ Mine pcE 36 w2 s L ∧ (∀ g, s.ownBlock = some g → w1.heap.size ≤ g) ∧ ((e ≠ 0 ∧ L = []) ∨ (e = 0 ∧ (Fine u p b o lba n ∧ (L.length : Int) ≤ n) ∧ GoodP (limOf u p power) b o lba L (lba + n)))) (fun w1 h1 => ?_) (fun w1 l w2 h1 hf hR hs12 => ?_)
  · refine (c20 u p b o lba n power w1).mono fun v w' ⟨s, e, hv, hr⟩ => ?_
    rcases hr with ⟨_, rfl, rfl⟩ | ⟨hok, rfl, L, hcut, hlen, hm, hg⟩
    · exact ⟨[.slice none 0 0, .int .i64 2], ⟨⟨_, _, _, rfl⟩, ⟨_, rfl⟩, trivial⟩, hv, _, 2, [], rfl, Mine.nil, (fun g hg => by cases hg), .inl ⟨by decide, rfl⟩⟩
    · obtain ⟨hc1, hc2⟩ := Bool.and_eq_true_iff.1 hok
      have F := fine_of hc1 hc2
      have Fu := F.hu; have Fp := F.hp; have Fb := F.hb; have Fl := F.hl; have Fn := F.hn
      obtain ⟨as_, cs_, hss⟩ := hm.slice
      refine ⟨[s, .int .i64 0], ⟨⟨_, _, _, hss⟩, ⟨_, rfl⟩, trivial⟩, hv, s, 0, L, rfl, hm, hg, .inr ⟨rfl, ⟨F, hlen⟩, goodP_cut ?_ ?_ hcut Fl (by omega)⟩⟩
      · unfold limOf; split <;> omega
      · omega
  obtain ⟨sp, e, L, rfl, hmL, hgL, hcase⟩ := hR
  obtain ⟨spa, spc, rfl⟩ := hmL.slice
  have l9 := h1.lt (i := 9) (b := b9) (by simp [keys]) rfl
  have s9 : ∀ g, (Value.slice spa L.length spc).ownBlock = some g → g ≠ b9 ∧ w.heap.size ≤ g := fun g hg => by
    have := hgL g hg
    have : w.heap.size ≤ w1.heap.size := h1.base.size
    omega
  refine den_norm (by simp only [List.cons_append, List.nil_append]; rfl) (den_cut (fun ls w' => ls = [.int .i64 (limOf u p power)] ∧ Mine pcE 36 w' (.slice spa L.length spc) L) ?_ ?_)
  · refine den_split (fun hp => ?_) (fun hp => ?_)
    · have hp' : power = true := hp
      exact den_leaf_eq fun w3 h3 => ⟨by rw [hp']; rfl, hmL.same (shown_same h3)⟩
    · have hp' : power = false := hp
      exact den_leaf_eq fun w3 h3 => ⟨by rw [hp']; rfl, hmL.same (shown_same h3)⟩
  clear hmL
  rintro l w3 hf3 ⟨rfl, hmL⟩ hk3 hfa3
  refine den_norm (by simp only [List.cons_append, List.nil_append]; rfl) ?_
  refine den_loop (fun ls w' => ∃ (j : Nat) (pos : Int), ls = [.int .i64 j, .int .i64 pos] ∧ j ≤ L.length ∧ Mine pcE 36 w' (.slice spa L.length spc) L ∧ (e = 0 → lba ≤ pos ∧ GoodP (limOf u p power) b o pos (L.drop j) (lba + n))) (fun ls _ => L.length - (vint (nth ls 0)).toNat) (fun w4 h4 => ?_) ?_
  · refine ⟨0, lba, rfl, Nat.zero_le _, hmL.same (shown_same h4), fun he => ?_⟩
    rcases hcase with ⟨h, _⟩ | ⟨_, _, hg⟩
    · exact absurd he h
    · exact ⟨Int.le_refl _, hg⟩
  clear hmL
  rintro w4 l w5 h4 hf ⟨j, pos, rfl, hj, hmL, hgd⟩ hk5 hfa5
  refine den_norm (by simp only [List.cons_append, List.nil_append]; rfl) (den_splitLt (fun h => ?_) (fun h => ?_))
  · -- one piece
    have hlt : j < L.length := by simpa [IE.den, nth, vint, vlen] using h
    have hx : L[j]? = some (L[j]'hlt) := by simp
    obtain ⟨he, ⟨F, hLn⟩, _⟩ : e = 0 ∧ (Fine u p b o lba n ∧ (L.length : Int) ≤ n) ∧ GoodP (limOf u p power) b o lba L (lba + n) := by
      rcases hcase with ⟨_, rfl⟩ | h
      · simp at hlt
      · exact h
    obtain ⟨hpos, hgp⟩ := hgd he
    rw [List.drop_eq_getElem_cons hlt] at hgp
    generalize L[j]'hlt = x at hx hgp
    obtain ⟨g1, g2, g3, g4, g5⟩ := hgp
    have g6 := g5.le
    have Fu := F.hu; have Fp := F.hp; have Fb := F.hb; have Fl := F.hl; have Fn := F.hn; have Ft := F.ht
    refine den_idx2 (E := pcE) (L := L) x j [.int .i64 x.1, .int .i64 x.2] (show Arr pcE w5 _ L from hmL.arr) rfl (by decide) rfl hx ⟨⟨_, rfl⟩, ⟨_, rfl⟩, trivial⟩ (whole _) (fun w6 h6 => (hmL.same (shown_same h6)).arr) (fun ad had => by simp [BlkIn, nth, blkOf, vaddr]) (fun w6 h6 => ?_)
    have hm6 := hmL.same (shown_same h6)
    refine den_norm (by simp only [List.cons_append, List.nil_append]; rfl) (den_blk fun b17 k17 _ k170 => den_norm (by simp only [List.cons_append, List.nil_append]; rfl) (den_cut (fun ls w' => ls = [] ∧ Mine pcE 36 w' (.slice spa L.length spc) L) ?_ ?_))
    · refine den_start1 fun w7 h7 => ?_
      have hm7 : Mine pcE 36 w7 (.slice spa L.length spc) L := hm6.kept h7.kept fun g hg hin => by
        have := hm6.lt hg
        simp [BlkIn, nth, blkOf, vaddr] at hin
        omega
      have fin : ∀ w8 : World, Same w7 w8 → Mine pcE 36 w8 (.slice spa L.length spc) L := fun w8 h8 => hm7.same h8
      refine den_splitNot (fun hc => ?_) (fun _ => den_splitLt (fun hc => ?_) (fun _ => den_splitLt (fun hc => ?_) (fun _ => den_splitLt (fun hb0 => ?_) (fun _ => ?_))))
      · exfalso
        simp only [BE.den, IE.den, nth, vint] at hc
        exact absurd g1 (of_decide_eq_false hc)
      · exfalso
        simp only [IE.den, nth, vint] at hc
        omega
      · exfalso
        simp only [IE.den, nth, vint] at hc
        omega
      · have hb1 : 0 < b := hb0
        have q1 := tdiv_bounds (y := x.1 - o + b) (b := b) (by omega) hb1
        have q2 := tdiv_bounds (y := x.1 + x.2 - 1 - o + b) (b := b) (by omega) hb1
        have q3 := g4 hb1
        rw [← g1] at q3
        refine den_ob64 (by simp only [IE.den, nth, vint]; omega) (den_ob64 (by simp only [IE.den, nth, vint]; omega) (den_obNe (by simp only [IE.den, nth, vint]; omega) (den_ob64 (by simp only [IE.den, nth, vint]; omega) ?_)))
        refine den_ob64 (by simp only [IE.den, nth, vint]; omega) (den_ob64 (by simp only [IE.den, nth, vint]; omega) (den_ob64 (by simp only [IE.den, nth, vint]; omega) (den_ob64 (by simp only [IE.den, nth, vint]; omega) ?_)))
        refine den_obNe (by simp only [IE.den, nth, vint]; omega) (den_ob64 (by simp only [IE.den, nth, vint]; omega) (den_splitNot (fun hc => ?_) (fun _ => ?_)))
        · exfalso
          simp only [BE.den, IE.den, nth, vint] at hc
          exact absurd q3 (of_decide_eq_false hc)
        · exact den_leaf_eq fun w8 h8 => ⟨rfl, fin w8 (shown_same h8)⟩
      · exact den_leaf_eq fun w8 h8 => ⟨rfl, fin w8 (shown_same h8)⟩
    · rintro l w7 hf7 ⟨rfl, hm7⟩ hk7 hfa7
      refine den_norm (by simp only [List.cons_append, List.nil_append]; rfl) (den_ob64 (by simp only [IE.den, nth, vint]; omega) (den_ob64 (by simp only [IE.den, nth, vint]; omega) (den_leaf' fun w8 h8 => (if_pos rfl).mpr ⟨⟨j + 1, pos + x.2, by simp [SV.den, denL, IE.den, BE.den, nth, vint, vbool, vaddr, addO, addr_add], by omega, hm7.same (shown_same h8), fun _ => ⟨by omega, g5⟩⟩, ?_⟩)))
      simp [SV.den, denL, IE.den, BE.den, nth, vint, vbool, vaddr, addO, addr_add]
      omega
  -- behind the pieces
  have hjL : j = L.length := by have h' : (L.length : Int) ≤ j := h
                                omega
  have hend : e = 0 → pos = lba + n := fun he => by
    have := (hgd he).2
    rw [hjL, List.drop_length] at this
    exact this.symm
  refine den_cut (fun ls w' => ls = []) ?_ ?_
  · refine den_call_int (x := e) (fun w6 h6 => c15 e w6) rfl fun w6 w7 h6 h7 => den_norm (by simp only [List.cons_append, List.nil_append]; rfl) (den_splitEq (fun he => ?_) (fun _ => den_leaf_eq fun w8 h8 => rfl))
    have he' : e = 0 := he
    have hp := hend he'
    obtain ⟨_, ⟨F, _⟩, _⟩ : e = 0 ∧ (Fine u p b o lba n ∧ (L.length : Int) ≤ n) ∧ GoodP (limOf u p power) b o lba L (lba + n) := by
      rcases hcase with ⟨h, _⟩ | h
      · exact absurd he' h
      · exact h
    have Fl := F.hl; have Fn := F.hn; have Ft := F.ht
    refine den_ob64 (by simp only [IE.den, nth, vint]; omega) (den_splitNot (fun hc => ?_) (fun _ => den_leaf_eq fun w8 h8 => rfl))
    exfalso
    simp only [BE.den, IE.den, nth, vint] at hc
    exact absurd hp (of_decide_eq_false hc)
  rintro l w6 hf6 rfl hk6 hfa6
  clear hgd hend hcase hmL
  have l96 : b9 < w6.heap.size := by
    obtain ⟨b', hb', hlt⟩ := hfa6.1.lt
    cases hb'
    exact hlt
  refine den_norm (by simp only [List.cons_append, List.nil_append]; rfl) (den_blk fun b15 k15 _ k150 => den_norm (by simp only [List.cons_append, List.nil_append]; rfl) ?_)
  have z15 : w.heap.size ≤ b15 := k150
  have n15 : b15 ≠ b9 := by omega
  refine den_loop (fun ls w' => ∃ (i : Nat) (op en s : Value) (oL : List Nat) (eL : List Int), ls = [.int .i64 i, op, en, s] ∧ i ≤ A.length ∧ St5 w b9 b15 A i w' op en s oL eL) (fun ls _ => A.length - (vint (nth ls 0)).toNat) (fun w7 h7 => ?_) ?_
  · refine ⟨0, .slice none 0 0, .slice none 0 0, .slice none 0 0, [], [], rfl, Nat.zero_le _, ⟨List.Pairwise.nil, fun x hx => by simp at hx, fun x hx => by simp at hx⟩, ?_, Nat.le_refl _⟩
    refine ⟨.inl ⟨rfl, rfl⟩, .inl ⟨rfl, rfl⟩, ⟨h7.facts.1, Mine.nil, by simp [Value.ownBlock]⟩, ⟨h7.base.size, ?_⟩, (fun g hg => by cases hg), (fun g hg => by cases hg), (fun g hg => by cases hg)⟩
    have : w6.heap.size ≤ w7.heap.size := h7.kept.size
    omega
  rintro w7 l w8 h7 hf ⟨i, op, en, s, oL, eL, rfl, hi, hS⟩ hk8 hfa8
  obtain ⟨opa, opc, rfl⟩ := hS.q.top.slice
  obtain ⟨ena, enc_, rfl⟩ := hS.q.ten.slice
  obtain ⟨sa, sc, rfl⟩ := hS.q.ord.mine.slice
  have hlen := hS.len
  refine den_norm (by simp only [List.cons_append, List.nil_append]; rfl) (den_splitLt (fun h => ?_) (fun h => ?_))
  · have hlt : i < A.length := by simpa [IE.den, nth, vint, vlen] using h
    have hx : A[i]? = some (A[i]'hlt) := by simp
    generalize A[i]'hlt = x at hx
    have hcmd : cmdAt A i = ⟨i, x.c.lba, x.c.n, x.c.wr⟩ := by simp [cmdAt, hx]
    refine den_cut (fun ls w' => ∃ op' s' oL', ls = [op', s'] ∧ St5 w b9 b15 A (i + 1) w' op' (.slice ena eL.length enc_) s' oL' eL) ?_ ?_
    · -- Begin
      obtain ⟨hbE, hbL⟩ := hS.opn.begun hlt (by omega)
      rw [hcmd] at hbE hbL
      dsimp only at hbE hbL
      intro w9 h9
      have hS9 := hS.q.same (shown_same h9)
      refine ⟨fun y => w.heap.size ≤ y, fun y hy => by simp [BlkIn, nth, blkOf, vaddr] at hy; omega, ?_⟩
      have old : ∀ ad, vaddr (.slice a0 A.length c0) = some ad → ¬ w.heap.size ≤ ad.block := fun ad had => by have := hs.lt hx (by decide) ad had; omega
      refine den_idxD (E := actE) (L := A) x i [.int .i64 x.c.lba] rfl (by decide) rfl hx ⟨⟨_, rfl⟩, trivial⟩ (fun m v hv => by cases m with | zero => exact hv | succ m => simp at hv) (hs.same h9.base) old (den_norm (by simp only [List.cons_append, List.nil_append]; rfl) ?_)
      refine den_idxD2 (E := actE) (L := A) x i [.int .i64 x.c.n] rfl (by decide) rfl hx ⟨⟨_, rfl⟩, trivial⟩ (fun m v hv => by cases m with | zero => exact hv | succ m => simp at hv) (hs.same h9.base) old (den_norm (by simp only [List.cons_append, List.nil_append]; rfl) ?_)
      refine den_idxD2 (E := actE) (L := A) x i [.bool x.c.wr] rfl (by decide) rfl hx ⟨⟨_, rfl⟩, trivial⟩ (fun m v hv => by cases m with | zero => exact hv | succ m => simp at hv) (hs.same h9.base) old (den_norm (by simp only [List.cons_append, List.nil_append]; rfl) ?_)
      refine den_meth (b := b15) (s := .slice sa (cmdsOf A oL).length sc) (L := cmdsOf A oL) (L' := begL (cmdsOf A oL) ⟨i, x.c.lba, x.c.n, x.c.wr⟩) (e := begE (cmdsOf A oL) ⟨i, x.c.lba, x.c.n, x.c.wr⟩) rfl rfl rfl hS9.ord ⟨fun hx => absurd (show b15 < w.heap.size from hx) (by omega), fun g hg hx => absurd (show g < w.heap.size from hx) (by have := hS9.fs g hg; omega)⟩
        (fun g hg hin => by simp [BlkIn, nth, blkOf, vaddr] at hin) ⟨fun hin => by simp [BlkIn, nth, blkOf, vaddr] at hin; omega, fun g hg hin => by have := hS9.fs g hg; simp [BlkIn, nth, blkOf, vaddr] at hin; omega⟩ (fun _ => ⟨z15, fun g hg => (hS9.fs g hg).1⟩) (fun w10 hO => ?_) (fun v => ⟨rfl, rfl, rfl⟩) (fun w10 s' w11 h10 k11 hO11 hfr => den_norm (by simp only [List.cons_append, List.nil_append]; rfl) ?_)
      · have := c16 b15 (.slice sa (cmdsOf A oL).length sc) (cmdsOf A oL) ⟨i, x.c.lba, x.c.n, x.c.wr⟩ w10 hO (by rw [cmdsOf_length]; omega)
        simpa [SV.den, denL, IE.den, BE.den, nth, vint, vbool, vaddr, addO, addr_add] using this
      have hS10 := hS9.same (shown_same h10)
      have hS11 := hS10.setOrd k11 hO11 hfr
      rw [hbE]
      rw [hbL] at hS11
      refine den_call_int (x := if okBlk x.c.lba x.c.n then 0 else 2) (fun w12 h12 => c15 _ w12) rfl fun w12 w13 h12 h13 => den_norm (by simp only [List.cons_append, List.nil_append]; rfl) (den_splitEq (fun he => ?_) (fun he => ?_))
      · have hok : okBlk x.c.lba x.c.n = true := by
          cases hq : okBlk x.c.lba x.c.n with
          | true => rfl
          | false => rw [hq] at he; simp [IE.den, nth, vint] at he
        rw [if_pos hok] at hS11
        have hS13 := (hS11.same (shown_same h12)).same h13
        refine den_blk fun b26 k26 _ _ => den_norm (by simp only [List.cons_append, List.nil_append]; rfl) ?_
        have hb26 : ∀ g, Foot5 b15 (.slice opa (nums oL).length opc) (.slice ena eL.length enc_) s' g → g ≠ b26 := fun g hg => by have := hS13.lt g hg; omega
        refine den_pushT (E := intE) (T := 3) rfl underlying52 info3 zero3' size3 rfl (by decide) bytes3 one_int (.slice opa (nums oL).length opc) (nums oL) (i : Int) rfl rfl rfl (by rw [nums_length]; omega) (fun w14 h14 g hg => ?_) (fun w14 h14 => (hS13.same (shown_same h14)).top) (fun _ => rfl) (fun w14 op' w15 h14 ht15 k15 hfr15 => den_norm (by simp only [List.cons_append, List.nil_append]; rfl) ?_)
        · have h1 := hS13.fo g hg
          have h2 := hb26 g (.inr (.inl hg))
          exact ⟨fun hd => (by cases hd), fun hlt => absurd (show g < w.heap.size from hlt) (by omega), fun hin => (by simp [BlkIn, nth, blkOf, vaddr] at hin; omega), fun hx => (by cases hx)⟩
        have hS15 := (hS13.same (shown_same h14)).setTop k15 ht15 hfr15
        refine den_leaf_eq fun w16 h16 => ⟨op', s', oL ++ [i], rfl, hS.opn.push hlt (by rw [hcmd]; exact hok), ?_, by rw [List.length_append]; simp; omega⟩
        have := hS15.same (shown_same h16)
        simpa [nums] using this
      · have hok : okBlk x.c.lba x.c.n = false := by
          cases hq : okBlk x.c.lba x.c.n with
          | false => rfl
          | true => rw [hq] at he; simp [IE.den, nth, vint] at he
        rw [if_neg (by rw [hok]; decide)] at hS11
        have hS13 := (hS11.same (shown_same h12)).same h13
        exact den_leaf_eq fun w16 h16 => ⟨_, s', oL, rfl, hS.opn.next, hS13.same (shown_same h16), by omega⟩
    rintro l w9 hf9 ⟨op1, s1, oL1, rfl, hS1⟩ hk9 hfa9
    clear hS hk8 hfa8 hlen
    refine den_norm (by simp only [List.cons_append, List.nil_append]; rfl) (den_cut (fun ls w' => ∃ op' en' s' oL' eL', ls = [op', en', s'] ∧ St5 w b9 b15 A (i + 1) w' op' en' s' oL' eL') ?_ ?_)
    · -- Next and End
      refine den_loop (fun ls w' => ∃ (j : Nat) (op' en' s' : Value) (oL' : List Nat) (eL' : List Int), ls = [.int .i64 j, op', en', s'] ∧ j + oL'.length ≤ 1000 ∧ St5 w b9 b15 A (i + 1) w' op' en' s' oL' eL') (fun ls _ => vlen (nth ls 1)) (fun w10 h10 => ?_) ?_
      · exact ⟨0, op1, _, s1, oL1, eL, rfl, by have := hS1.len; omega, hS1.opn, hS1.q.same (shown_same h10), hS1.len⟩
      rintro w10 l w11 h10 hf ⟨j, op, en, s, oL, eL, rfl, hjl, hS⟩ hk11 hfa11
      obtain ⟨opa, opc, rfl⟩ := hS.q.top.slice
      obtain ⟨ena, enc_, rfl⟩ := hS.q.ten.slice
      obtain ⟨sa, sc, rfl⟩ := hS.q.ord.mine.slice
      have hlen := hS.len
      have hTi : T[i]? = some (T[i]'(by omega)) := by simp
      generalize T[i]'(by omega) = tn at hTi
      refine den_norm (by simp only [List.cons_append, List.nil_append]; rfl) ?_
      refine den_idx2 (E := byteE) (L := T) tn i [.int .u8 tn] ((ht.same (hk11)) : Arr byteE w11 _ T) rfl (by decide) rfl hTi ⟨⟨_, rfl⟩, trivial⟩ (whole _) (fun w12 h12 => ht.same h12.base) (fun ad had => by simp [BlkIn, nth, blkOf, vaddr]) (fun w12 h12 => den_norm (by simp only [List.cons_append, List.nil_append]; rfl) ?_)
      have hS12 := hS.q.same (shown_same h12)
      refine den_splitLt (fun _ => den_splitLt (fun h => ?_) (fun _ => ?_)) (fun _ => ?_)
      · cases oL with
        | nil => simp [IE.den, nth, vlen, nums] at h
        | cons x oL =>
        obtain ⟨f1, f2, f3, f4⟩ := hS.opn.first
        have hcl : (cmdsOf A (x :: oL)).length ≤ 100 := by rw [cmdsOf_length]; omega
        refine den_call [.int .i64 (nxI (cmdsOf A (x :: oL))), .int .i64 (nxE (cmdsOf A (x :: oL)))] ⟨⟨_, rfl⟩, ⟨_, rfl⟩, trivial⟩ rfl (fun w13 h13 => c21 (pt b15) _ w13 (hS12.same (shown_same h13)).ord.r (by omega)) (fun w13 w14 h13 h14 => ?_)
        have hS14 := (hS12.same (shown_same h13)).same h14
        rw [f1, f2]
        refine den_norm (by simp only [List.cons_append, List.nil_append]; rfl) ?_
        refine den_call_int (x := 0) (fun w15 h15 => c15 0 w15) rfl fun w15 w16 h15 h16 => den_norm (by simp only [List.cons_append, List.nil_append]; rfl) (den_splitNot (fun e => ?_) (fun _ => ?_))
        · simp [BE.den, IE.den, nth, vint] at e
        have hS16 := (hS14.same (shown_same h15)).same h16
        have hx0 : (nums (x :: oL))[0]? = some (x : Int) := rfl
        refine den_obLt h (den_ob ?_ ?_)
        · obtain ⟨ad, had, _⟩ := hS16.top.arr.elem hx0 (by decide)
          simp only [vaddr] at had
          subst had
          simp [BE.den, nth, vnil]
        refine den_ldi (E := intE) (L := nums (x :: oL)) (x : Int) 0 [.int .i64 x] rfl (by decide) rfl hx0 ⟨⟨_, rfl⟩, trivial⟩ (whole _) (fun w17 h17 => (hS16.same (shown_same h17)).top.arr) (fun ad had => by simp [BlkIn, nth, blkOf, vaddr]) (fun w17 h17 => den_norm (by simp only [List.cons_append, List.nil_append]; rfl) ?_)
        have hS17 := hS16.same (shown_same h17)
        refine den_splitNot (fun e => ?_) (fun _ => ?_)
        · simp [BE.den, IE.den, nth, vint] at e
        refine den_meth (b := b15) (s := .slice sa (cmdsOf A (x :: oL)).length sc) (L := cmdsOf A (x :: oL)) (L' := endL (cmdsOf A (x :: oL)) x) (e := endE (cmdsOf A (x :: oL)) x) rfl rfl rfl hS17.ord ⟨fun hx => absurd (show b15 < w.heap.size from hx) (by omega), fun g hg hx => absurd (show g < w.heap.size from hx) (by have := hS17.fs g hg; omega)⟩
          (fun g hg hin => by simp [BlkIn, nth, blkOf, vaddr] at hin) ⟨fun hin => by simp [BlkIn, nth, blkOf, vaddr] at hin; omega, fun g hg hin => by have := hS17.fs g hg; simp [BlkIn, nth, blkOf, vaddr] at hin; omega⟩ (fun hd => by cases hd) (fun w18 hO => ?_) (fun v => ⟨rfl, rfl, rfl⟩) (fun w18 s' w19 h18 k19 hO19 hfr => den_norm (by simp only [List.cons_append, List.nil_append]; rfl) ?_)
        · have := c19' b15 (.slice sa (cmdsOf A (x :: oL)).length sc) (cmdsOf A (x :: oL)) x w18 hO (by omega)
          simpa [SV.den, denL, IE.den, BE.den, nth, vint, vbool, vaddr, addO, addr_add] using this
        have hS19 := (hS17.same (shown_same h18)).setOrd k19 hO19 hfr
        rw [f4] at hS19
        rw [f3]
        refine den_call_int (x := 0) (fun w20 h20 => c15 0 w20) rfl fun w20 w21 h20 h21 => den_norm (by simp only [List.cons_append, List.nil_append]; rfl) (den_splitNot (fun e => ?_) (fun _ => ?_))
        · simp [BE.den, IE.den, nth, vint] at e
        have hS21 := (hS19.same (shown_same h20)).same h21
        refine den_blk fun b34 k34 _ _ => den_norm (by simp only [List.cons_append, List.nil_append]; rfl) ?_
        have hb34 : ∀ g, Foot5 b15 (.slice opa (nums (x :: oL)).length opc) (.slice ena eL.length enc_) s' g → g ≠ b34 := fun g hg => by have := hS21.lt g hg; omega
        simp only [List.length_cons] at hlen
        refine den_pushT (E := intE) (T := 3) rfl underlying52 info3 zero3' size3 rfl (by decide) bytes3 one_int (.slice ena eL.length enc_) eL (x : Int) rfl rfl rfl (by omega) (fun w22 h22 g hg => ?_) (fun w22 h22 => (hS21.same (shown_same h22)).ten) (fun _ => rfl) (fun w22 en' w23 h22 ht23 k23 hfr23 => den_norm (by simp only [List.cons_append, List.nil_append]; rfl) ?_)
        · have h1 := hS21.fe g hg
          have h2 := hb34 g (.inr (.inr (.inl hg)))
          exact ⟨fun hd => (by cases hd), fun hlt => absurd (show g < w.heap.size from hlt) (by omega), fun hin => (by simp [BlkIn, nth, blkOf, vaddr] at hin; omega), fun hx => (by cases hx)⟩
        have hS23 := (hS21.same (shown_same h22)).setEn k23 ht23 hfr23
        refine den_start0 fun w24 h24 => ?_
        have hS24 := hS23.same (shown_same h24)
        obtain ⟨hT1, hT2⟩ := hS24.top.drop 1 (by simp [nums])
        refine den_slice opa (nums (x :: oL)).length opc (some 1) none none 1 (nums (x :: oL)).length opc 1 underlying52 (by kernel_rfl) (fun ρ h => h.1) (fun ρ h => congrArg some h.2.1) (fun _ _ => rfl) (fun _ _ => rfl) (.inl ⟨rfl, rfl⟩) (.inl ⟨rfl, rfl, rfl⟩) (.inr ⟨rfl, by simp [nums]⟩) (fun _ => rfl) (den_norm (by simp only [List.cons_append, List.nil_append]; rfl) ?_)
        have hS25 := hS24.cutTop hT1 hT2
        simp only [List.length_cons] at hjl
        refine den_ob64 (by simp only [IE.den, nth, vint]; omega) (den_leaf' fun w25 h25 => (if_pos rfl).mpr ⟨⟨j + 1, _, en', s', oL, eL ++ [(x : Int)], by simp [SV.den, denL, IE.den, BE.den, nth, vint, vbool, vaddr, addO, addr_add]; rfl, by omega, hS.opn.tail, hS25.same (shown_same h25), by rw [List.length_append]; simp; omega⟩, ?_⟩)
        simp [SV.den, denL, IE.den, BE.den, nth, vint, vbool, vaddr, addO, addr_add, vlen, sliced, nums]
      · exact den_leaf' fun w13 h13 => (if_neg (by decide)).mpr ((if_pos rfl).mpr ⟨_, _, _, oL, eL, rfl, hS.opn, hS12.same (shown_same h13), hS.len⟩)
      · exact den_leaf' fun w13 h13 => (if_neg (by decide)).mpr ((if_pos rfl).mpr ⟨_, _, _, oL, eL, rfl, hS.opn, hS12.same (shown_same h13), hS.len⟩)
    clear hS1 hk9 hfa9
    rintro l w10 hf10 ⟨op, en, s, oL, eL, rfl, hS⟩ hk10 hfa10
    obtain ⟨opa, opc, rfl⟩ := hS.q.top.slice
    obtain ⟨ena, enc_, rfl⟩ := hS.q.ten.slice
    obtain ⟨sa, sc, rfl⟩ := hS.q.ord.mine.slice
    have hlen := hS.len
    have hcl : (cmdsOf A oL).length ≤ 100 := by rw [cmdsOf_length]; omega
    refine den_norm (by simp only [List.cons_append, List.nil_append]; rfl) (den_loop (fun ls w' => ∃ k : Nat, ls = [.int .i64 k] ∧ k ≤ oL.length ∧ Q5 w b9 b15 w' (.slice opa (nums oL).length opc) (.slice ena eL.length enc_) (.slice sa (cmdsOf A oL).length sc) (nums oL) eL (cmdsOf A oL)) (fun ls _ => oL.length - (vint (nth ls 0)).toNat) (fun w11 h11 => ⟨0, rfl, Nat.zero_le _, hS.q.same (shown_same h11)⟩) ?_)
    rintro w11 l w12 h11 hf ⟨k, rfl, hk, hQ⟩ hk12 hfa12
    refine den_norm (by simp only [List.cons_append, List.nil_append]; rfl) (den_splitLt (fun h => ?_) (fun h => ?_))
    · have hkl : k < oL.length := by have h' : (k : Int) < ((nums oL).length : Int) := h
                                     rw [nums_length] at h'
                                     omega
      have hy : oL[k]? = some (oL[k]'hkl) := by simp
      generalize oL[k]'hkl = y at hy
      refine den_loop (fun ls w' => ∃ m : Nat, ls = [.int .i64 m] ∧ m ≤ k ∧ Q5 w b9 b15 w' (.slice opa (nums oL).length opc) (.slice ena eL.length enc_) (.slice sa (cmdsOf A oL).length sc) (nums oL) eL (cmdsOf A oL)) (fun ls _ => k - (vint (nth ls 0)).toNat) (fun w13 h13 => ⟨0, rfl, Nat.zero_le _, hQ.same (shown_same h13)⟩) ?_
      clear hQ
      rintro w13 l w14 h13 hf ⟨m, rfl, hm, hQ⟩ hk14 hfa14
      refine den_norm (by simp only [List.cons_append, List.nil_append]; rfl) (den_splitLt (fun h => ?_) (fun h => ?_))
      · have hmk : m < k := by have h' : (m : Int) < (k : Int) := h
                               omega
        have hz : oL[m]? = some (oL[m]'(by omega)) := by simp
        generalize oL[m]'(by omega) = z at hz
        obtain ⟨hzA, hzok⟩ := hS.opn.ok z (List.mem_of_getElem? hz)
        obtain ⟨hyA, hyok⟩ := hS.opn.ok y (List.mem_of_getElem? hy)
        have hza : A[z]? = some (A[z]'hzA) := by simp
        generalize A[z]'hzA = az at hza
        have hya : A[y]? = some (A[y]'hyA) := by simp
        generalize A[y]'hyA = ay at hya
        have cz : cmdAt A z = ⟨z, az.c.lba, az.c.n, az.c.wr⟩ := by simp [cmdAt, hza]
        have cy : cmdAt A y = ⟨y, ay.c.lba, ay.c.n, ay.c.wr⟩ := by simp [cmdAt, hya]
        rw [cz] at hzok
        rw [cy] at hyok
        have old : ∀ ad, vaddr (.slice a0 A.length c0) = some ad → ad.block < w.heap.size := fun ad had => hs.lt hya (by decide) ad had
        refine den_start1 fun w15 h15 => ?_
        have hQ15 := hQ.same (shown_same h15)
        have no : ∀ ad, vaddr (.slice a0 A.length c0) = some ad → ¬ (ad.block = b15 ∨ ad.block = b9) := fun ad had => by have := old ad had; omega
        have no2 : ∀ ad, vaddr (.slice opa (nums oL).length opc) = some ad → ¬ (ad.block = b15 ∨ ad.block = b9) := fun ad had => by
          have := hQ15.fo ad.block (ownBlock_addr had ⟨_, _, _, rfl⟩)
          omega
        have ry := hS.opn.at_old hy
        have rz := hS.opn.at_old hz
        have apart : rdy (cmdsOf A oL) k = true → conf ⟨z, az.c.lba, az.c.n, az.c.wr⟩ ⟨y, ay.c.lba, ay.c.n, ay.c.wr⟩ = false := fun hr => by
          have := ready_apart hz hy hmk hr
          rw [cz, cy] at this
          exact this
        have ha1 : IntKind.i64.wrap (ay.c.lba + ay.c.n) = ay.c.lba + ay.c.n := by
          unfold okBlk at hyok
          simp only [Bool.and_eq_true, decide_eq_true_eq] at hyok
          exact wrap_id (by omega) (by omega)
        have ha2 : IntKind.i64.wrap (az.c.lba + az.c.n) = az.c.lba + az.c.n := by
          unfold okBlk at hzok
          simp only [Bool.and_eq_true, decide_eq_true_eq] at hzok
          exact wrap_id (by omega) (by omega)
        have hb1 : -9223372036854775808 ≤ ay.c.lba + ay.c.n ∧ ay.c.lba + ay.c.n ≤ 9223372036854775807 := by
          unfold okBlk at hyok
          simp only [Bool.and_eq_true, decide_eq_true_eq] at hyok
          omega
        have hb2 : -9223372036854775808 ≤ az.c.lba + az.c.n ∧ az.c.lba + az.c.n ≤ 9223372036854775807 := by
          unfold okBlk at hzok
          simp only [Bool.and_eq_true, decide_eq_true_eq] at hzok
          omega
        clear hzok hyok
        unfold conf at apart
        simp only [ha1, ha2] at apart
        refine den_idxD (E := intE) (L := nums oL) (z : Int) m [.int .i64 z] rfl (by decide) rfl (nums_get hz) ⟨⟨_, rfl⟩, trivial⟩ (whole _) hQ15.top.arr (fun ad had hin => no2 ad had (by simp [BlkIn, nth, blkOf, vaddr] at hin; omega)) (den_norm (by simp only [List.cons_append, List.nil_append]; rfl) ?_)
        refine den_idxD (E := actE) (L := A) az z (actE.enc az) rfl (by decide) rfl hza ⟨⟨_, rfl⟩, ⟨_, rfl⟩, ⟨_, rfl⟩, ⟨_, rfl⟩, ⟨_, rfl⟩, trivial⟩ (whole _) (hs.same h15.base) (fun ad had hin => no ad had (by simp [BlkIn, nth, blkOf, vaddr] at hin; omega)) ?_
        refine den_norm (by simp only [List.cons_append, List.nil_append, actE]; rfl) ?_
        refine den_idxD2 (E := intE) (L := nums oL) (y : Int) k [.int .i64 y] rfl (by decide) rfl (nums_get hy) ⟨⟨_, rfl⟩, trivial⟩ (whole _) hQ15.top.arr (fun ad had hin => no2 ad had (by simp [BlkIn, nth, blkOf, vaddr] at hin; omega)) (den_norm (by simp only [List.cons_append, List.nil_append]; rfl) ?_)
        refine den_idxD2 (E := actE) (L := A) ay y (actE.enc ay) rfl (by decide) rfl hya ⟨⟨_, rfl⟩, ⟨_, rfl⟩, ⟨_, rfl⟩, ⟨_, rfl⟩, ⟨_, rfl⟩, trivial⟩ (whole _) (hs.same h15.base) (fun ad had hin => no ad had (by simp [BlkIn, nth, blkOf, vaddr] at hin; omega)) ?_
        refine den_norm (by simp only [List.cons_append, List.nil_append, actE]; rfl) ?_
        have hcl2 : (nums oL).length = oL.length := nums_length oL
        refine den_both ?_ ?_
        all_goals
          refine den_blk fun b39 k39 _ _ => den_blk fun b40 k40 _ _ => den_norm (by simp only [List.cons_append, List.nil_append]; rfl) ?_
          refine den_obLe (by simp only [IE.den, nth, vint]; omega) (den_obLt (by simp only [IE.den, nth, vint, vlen]; omega) ?_)
          refine den_ldi (E := intE) (L := nums oL) (z : Int) m [.int .i64 z] rfl (by decide) rfl (nums_get hz) ⟨⟨_, rfl⟩, trivial⟩ (whole _) (fun w16 h16 => (hQ15.new h16.kept fun q hq => by simp [BlkIn, nth, blkOf, vaddr] at hq; omega).top.arr) (fun ad had => by simp [BlkIn, nth, blkOf, vaddr]) (fun w16 h16 => den_norm (by simp only [List.cons_append, List.nil_append]; rfl) ?_)
          have hQ16 := hQ15.new h16.kept fun q hq => by simp [BlkIn, nth, blkOf, vaddr] at hq; omega
          refine den_call [.bool (rdB (cmdsOf A oL) z), .int .i64 (atE (cmdsOf A oL) z)] ⟨⟨_, rfl⟩, ⟨_, rfl⟩, trivial⟩ rfl (fun w17 h17 => c22 (pt b15) _ z w17 (hQ16.same (shown_same h17)).ord.r (by omega)) (fun w17 w18 h17 h18 => ?_)
          have hQ18 := (hQ16.same (shown_same h17)).same h18
          rw [rz.1, rz.2.2]
          refine den_norm (by simp only [List.cons_append, List.nil_append]; rfl) (den_obLe (by simp only [IE.den, nth, vint]; omega) (den_obLt (by simp only [IE.den, nth, vint, vlen]; omega) ?_))
          refine den_ldi (E := intE) (L := nums oL) (y : Int) k [.int .i64 y] rfl (by decide) rfl (nums_get hy) ⟨⟨_, rfl⟩, trivial⟩ (whole _) (fun w19 h19 => (hQ18.same (shown_same h19)).top.arr) (fun ad had => by simp [BlkIn, nth, blkOf, vaddr]) (fun w19 h19 => den_norm (by simp only [List.cons_append, List.nil_append]; rfl) ?_)
          have hQ19 := hQ18.same (shown_same h19)
          refine den_call [.bool (rdB (cmdsOf A oL) y), .int .i64 (atE (cmdsOf A oL) y)] ⟨⟨_, rfl⟩, ⟨_, rfl⟩, trivial⟩ rfl (fun w20 h20 => c22 (pt b15) _ y w20 (hQ19.same (shown_same h20)).ord.r (by omega)) (fun w20 w21 h20 h21 => ?_)
          have hQ21 := (hQ19.same (shown_same h20)).same h21
          rw [ry.1, ry.2.2]
          refine den_norm (by simp only [List.cons_append, List.nil_append]; rfl) ?_
          refine den_call_int (x := 0) (fun w22 h22 => c15 0 w22) rfl fun w22 w23 h22 h23 => den_norm (by simp only [List.cons_append, List.nil_append]; rfl) ?_
          refine den_call_int (x := 0) (fun w24 h24 => c15 0 w24) rfl fun w24 w25 h24 h25 => den_norm (by simp only [List.cons_append, List.nil_append]; rfl) ?_
          have hQ25 := (((hQ21.same (shown_same h22)).same h23).same (shown_same h24)).same h25
          have fin : ∀ {ε : List Value} {fs : Facts} {w26 : World}, Shown (G0 Try.prog w) ε [] fs w25 w26 → Q5 w b9 b15 w26 (.slice opa (nums oL).length opc) (.slice ena eL.length enc_) (.slice sa (cmdsOf A oL).length sc) (nums oL) eL (cmdsOf A oL) := fun h26 => hQ25.same (shown_same h26)
          have meas : ∀ v : Int, v = (m : Int) + 1 → k - v.toNat < k - ((m : Nat) : Int).toNat := fun v hv => by omega
          refine den_ob64 (by simp only [IE.den, nth, vint]; omega) (den_splitNot (fun e => ?_) (fun _ => ?_))
          · simp [BE.den, IE.den, nth, vint] at e
          have hm64 : -9223372036854775808 ≤ (m : Int) + 1 ∧ (m : Int) + 1 ≤ 9223372036854775807 := by omega
          refine den_split (fun e1 => den_split (fun e2 => ?_) (fun _ => ?_)) (fun _ => ?_)
          · have hry : rdy (cmdsOf A oL) k = true := e2
            have hcf := apart hry
            refine den_split (fun e3 => ?_) (fun e3 => den_split (fun e4 => ?_) (fun _ => ?_))
            · have hw3 : az.c.wr = true := e3
              rw [hw3] at hcf
              refine den_ob64 (by simp only [IE.den, nth, vint]; exact hb1) (den_splitLt (fun e5 => den_ob64 (by simp only [IE.den, nth, vint]; exact hb2) (den_splitLt (fun e6 => ?_) (fun _ => ?_))) (fun _ => ?_))
              · exfalso
                simp only [IE.den, nth, vint] at e5 e6
                simp [e5, e6] at hcf
              · exact den_ob64 (by simp only [IE.den, nth, vint]; exact hm64) (den_leaf' fun w26 h26 => (if_pos rfl).mpr ⟨⟨m + 1, by simp [SV.den, denL, IE.den, BE.den, nth, vint, vbool, vaddr, addO, addr_add], by omega, fin h26⟩, meas _ (by simp [SV.den, denL, IE.den, BE.den, nth, vint, vbool, vaddr, addO, addr_add])⟩)
              · exact den_ob64 (by simp only [IE.den, nth, vint]; exact hm64) (den_leaf' fun w26 h26 => (if_pos rfl).mpr ⟨⟨m + 1, by simp [SV.den, denL, IE.den, BE.den, nth, vint, vbool, vaddr, addO, addr_add], by omega, fin h26⟩, meas _ (by simp [SV.den, denL, IE.den, BE.den, nth, vint, vbool, vaddr, addO, addr_add])⟩)
            · have hw3 : az.c.wr = false := e3
              have hw4 : ay.c.wr = true := e4
              rw [hw3, hw4] at hcf
              refine den_ob64 (by simp only [IE.den, nth, vint]; exact hb1) (den_splitLt (fun e5 => den_ob64 (by simp only [IE.den, nth, vint]; exact hb2) (den_splitLt (fun e6 => ?_) (fun _ => ?_))) (fun _ => ?_))
              · exfalso
                simp only [IE.den, nth, vint] at e5 e6
                simp [e5, e6] at hcf
              · exact den_ob64 (by simp only [IE.den, nth, vint]; exact hm64) (den_leaf' fun w26 h26 => (if_pos rfl).mpr ⟨⟨m + 1, by simp [SV.den, denL, IE.den, BE.den, nth, vint, vbool, vaddr, addO, addr_add], by omega, fin h26⟩, meas _ (by simp [SV.den, denL, IE.den, BE.den, nth, vint, vbool, vaddr, addO, addr_add])⟩)
              · exact den_ob64 (by simp only [IE.den, nth, vint]; exact hm64) (den_leaf' fun w26 h26 => (if_pos rfl).mpr ⟨⟨m + 1, by simp [SV.den, denL, IE.den, BE.den, nth, vint, vbool, vaddr, addO, addr_add], by omega, fin h26⟩, meas _ (by simp [SV.den, denL, IE.den, BE.den, nth, vint, vbool, vaddr, addO, addr_add])⟩)
            · exact den_ob64 (by simp only [IE.den, nth, vint]; exact hm64) (den_leaf' fun w26 h26 => (if_pos rfl).mpr ⟨⟨m + 1, by simp [SV.den, denL, IE.den, BE.den, nth, vint, vbool, vaddr, addO, addr_add], by omega, fin h26⟩, meas _ (by simp [SV.den, denL, IE.den, BE.den, nth, vint, vbool, vaddr, addO, addr_add])⟩)
          · exact den_ob64 (by simp only [IE.den, nth, vint]; exact hm64) (den_leaf' fun w26 h26 => (if_pos rfl).mpr ⟨⟨m + 1, by simp [SV.den, denL, IE.den, BE.den, nth, vint, vbool, vaddr, addO, addr_add], by omega, fin h26⟩, meas _ (by simp [SV.den, denL, IE.den, BE.den, nth, vint, vbool, vaddr, addO, addr_add])⟩)
          · exact den_ob64 (by simp only [IE.den, nth, vint]; exact hm64) (den_leaf' fun w26 h26 => (if_pos rfl).mpr ⟨⟨m + 1, by simp [SV.den, denL, IE.den, BE.den, nth, vint, vbool, vaddr, addO, addr_add], by omega, fin h26⟩, meas _ (by simp [SV.den, denL, IE.den, BE.den, nth, vint, vbool, vaddr, addO, addr_add])⟩)
      · have hmk : m = k := by have h' : (k : Int) ≤ (m : Int) := h
                               omega
        refine den_ob64 (by simp only [IE.den, nth, vint]; omega) (den_leaf' fun w15 h15 => (if_neg (by decide)).mpr ((if_pos rfl).mpr ⟨⟨k + 1, by simp [SV.den, denL, IE.den, BE.den, nth, vint, vbool, vaddr, addO, addr_add], by omega, hQ.same (shown_same h15)⟩, ?_⟩))
        simp [SV.den, denL, IE.den, BE.den, nth, vint, vbool, vaddr, addO, addr_add]
        omega
    · have hkl : k = oL.length := by have h' : ((nums oL).length : Int) ≤ (k : Int) := h
                                     rw [nums_length] at h'
                                     omega
      refine den_ob64 (by simp only [IE.den, nth, vint]; omega) (den_leaf' fun w13 h13 => (if_neg (by decide)).mpr ((if_pos rfl).mpr ⟨⟨i + 1, _, _, _, oL, eL, by simp [SV.den, denL, IE.den, BE.den, nth, vint, vbool, vaddr, addO, addr_add], by omega, hS.opn, hQ.same (shown_same h13), hS.len⟩, ?_⟩))
      simp [SV.den, denL, IE.den, BE.den, nth, vint, vbool, vaddr, addO, addr_add]
      omega
  · refine den_call_int (x := (cmdsOf A oL).length) (fun w9 h9 => c17 (pt b15) _ w9 (hS.q.same (shown_same h9)).ord.r) rfl fun w9 w10 h9 h10 => den_norm (by simp only [List.cons_append, List.nil_append]; rfl) (den_splitEq (fun _ => ?_) (fun e => ?_))
    · exact den_call_bool (b := true) (fun w11 _ => works w11) rfl fun _ _ _ _ => den_leaf' fun w12 h12 => (if_neg (by decide)).mpr ⟨by simp [SV.den, denL, IE.den, BE.den, nth, vint, vbool, vaddr, addO, addr_add], h12.base⟩
    · exfalso
      simp [IE.den, nth, vint, vlen, cmdsOf_length, nums_length] at e
end Go.Proofs.Ytfjimghpjopgoaa
