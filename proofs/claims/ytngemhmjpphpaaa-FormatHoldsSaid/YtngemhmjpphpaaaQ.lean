/- The law FormatHolds: the blocks that it makes. No conditions beyond those that each theorem names. -/
import Derived.Test.YtngemhmjpphpaaaP
import Derived.Test.YtngemhmjpphpaaaN
set_option maxRecDepth 100000
set_option maxHeartbeats 8000000
set_option linter.unusedVariables false
set_option linter.unusedSimpArgs false
namespace Go.Proofs.Ytngemhmjpphpaaa
open Go.Sx

abbrev sOf (g n : Nat) : Value := .slice (some ⟨g, 0, none⟩) n n
theorem Grow.congr {lo : Nat} {w : World} {out : Value} {LV : List (Sl × Sl)} {F F' : Nat → Bl} (h : Grow lo w out LV F) (he : ∀ i, i < LV.length → F i = F' i) : Grow lo w out LV F' :=
  ⟨h.mine, h.lv, fun i p hp => by
    have := h.each i p hp
    rwa [he i (List.getElem?_eq_some_iff.1 hp).1] at this⟩
/-- a new block with zeros, and the pointer to it -/
structure NewB (lo px g1 g2 : Nat) (z m : Nat) (A B : List Int) (w : World) : Prop where
  p : HasBlk w (pt px) [sOf g1 z, sOf g2 m]
  a : Mine byteE 5 w (sOf g1 z) A
  b : Mine byteE 5 w (sOf g2 m) B
  ne : g1 ≠ g2 ∧ px ≠ g1 ∧ px ≠ g2
  lo : lo ≤ px ∧ lo ≤ g1 ∧ lo ≤ g2
theorem NewB.kept {lo px g1 g2 z m : Nat} {A B : List Int} {w w' : World} {M : Nat → Prop} (h : NewB lo px g1 g2 z m A B w) (hk : Kept M w w') (hM : ∀ b, lo ≤ b → b < w.heap.size → ¬ M b) : NewB lo px g1 g2 z m A B w' := by
  refine ⟨?_, h.a.kept hk fun g hg => ?_, h.b.kept hk fun g hg => ?_, h.ne, h.lo⟩
  · obtain ⟨b', ty, e, hh⟩ := h.p
    cases e
    exact ⟨px, ty, rfl, (hk.block px (Array.getElem?_eq_some_iff.1 hh).1 (hM px h.lo.1 (Array.getElem?_eq_some_iff.1 hh).1)).trans hh⟩
  · have := h.a.lt hg
    cases hg
    exact hM _ h.lo.2.1 this
  · have := h.b.lt hg
    cases hg
    exact hM _ h.lo.2.2 this
theorem NewB.same {lo px g1 g2 z m : Nat} {A B : List Int} {w w' : World} (h : NewB lo px g1 g2 z m A B w) (hk : Same w w') : NewB lo px g1 g2 z m A B w' := h.kept hk fun _ _ _ h => h
theorem mod_cast' {a n : Nat} : Int.tmod (a : Int) (n : Int) = ((a % n : Nat) : Int) := by
  rw [Int.tmod_eq_emod_of_nonneg (by omega)]
  rfl

theorem Blks.mono {lo lo' : Nat} {w : World} {s : Value} {LV : List (Sl × Sl)} {L : List Bl} (h : Blks lo w s LV L) (hl : lo' ≤ lo) : Blks lo' w s LV L :=
  ⟨h.arr, h.len, fun ad had => Nat.le_trans hl (h.at_ ad had), fun i p q hp hq => by
    obtain ⟨q1, q2, q3, q4⟩ := h.each i p q hp hq
    exact ⟨q1, q2, fun ad had => Nat.le_trans hl (q3 ad had), fun ad had => Nat.le_trans hl (q4 ad had)⟩⟩
theorem sliced00 (a : Option Addr) (k c sz : Nat) : sliced a 0 k c sz = .slice a k c := by
  unfold sliced
  cases a <;> simp [Addr.add]
/-- what holds behind the loop that makes the blocks -/
def Made (lo : Nat) (z m n : Nat) (ls : List Value) (w : World) : Prop :=
  ∃ (out : Value) (LV : List (Sl × Sl)) (L : List Bl) (at0 : Nat), ls = [.int .i64 n, out, .int .i64 at0] ∧ LV.length = n ∧ L.length = n ∧ at0 ≤ n * 4160 ∧ (∀ q ∈ L, q.1.length = z ∧ q.2.length = m) ∧ lo ≤ w.heap.size ∧ Grow lo w out LV (fun i => L.getD i ([], []))


theorem c9 (z m : Int) (x : Bool) (t : Int) (fi act : Bool) (sb : Value) (B : List Int) (n pa pb : Int) (w : World) (hb : Given byteE w sb B) (ha63 : pa ≤ 9223372036854775807) (hb63 : pb ≤ 9223372036854775807) :
    Gives Try.prog 9 [fmtV z m x t fi, .bool act, sb, .int .i64 n, .int .i64 pa, .int .i64 pb] w (.bool true) := by
  obtain ⟨ba, bc, rfl⟩ := hb.1.slice
  refine gives mix t9 rfl rfl (ε := [.int .i64 z, .int .i64 m, .bool x, .int .i64 t, .bool fi, .bool act, .slice ba B.length bc, .int .i64 n, .int .i64 pa, .int .i64 pb]) ⟨⟨_, rfl⟩, ⟨_, rfl⟩, ⟨_, rfl⟩, ⟨_, rfl⟩, ⟨_, rfl⟩, ⟨_, rfl⟩, ⟨_, _, _, rfl⟩, ⟨_, rfl⟩, ⟨_, rfl⟩, ⟨_, rfl⟩, trivial⟩ (den_blk fun b10 k10 _ _ => den_norm (by simp only [List.cons_append, List.nil_append]; rfl) ?_)
  have z10 : w.heap.size ≤ b10 := k10
  refine den_cut (fun ls w' => ls = [] ∧ fOk z m x t fi = true ∧ (act = true → t ≠ 0) ∧ 1 ≤ B.length ∧ B.length ≤ 500 ∧ 0 ≤ n ∧ n ≤ 20 ∧ 0 ≤ pa ∧ 0 ≤ pb) ?_ ?_
  · refine den_call_bool (b := fOk z m x t fi) (fun w1 h1 => c15 z m x t fi w1) rfl (fun w1 w2 h1 h2 => den_norm (by simp only [List.cons_append, List.nil_append]; rfl) (den_splitNot (fun hf => ?_) (fun hf => ?_)))
    · exact den_call_bool (b := true) (fun w1 _ => c19 w1) rfl (fun w1 w2 _ _ => den_leaf_ne (by decide) (den_leaf rfl))
    have hf' : fOk z m x t fi = true := by simpa [BE.den, nth, vbool] using hf
    refine den_split (fun ha => ?_) (fun ha => ?_)
    · have ha' : act = true := ha
      refine den_splitEq (fun h3 => ?_) (fun h3 => ?_)
      · exact den_call_bool (b := true) (fun w1 _ => c19 w1) rfl (fun w1 w2 _ _ => den_leaf_ne (by decide) (den_leaf rfl))
      have h3' : t ≠ 0 := h3
      refine den_splitLt (fun h4 => ?_) (fun h4 => den_splitLt (fun h5 => ?_) (fun h5 => den_splitLt (fun h6 => ?_) (fun h6 => den_splitLt (fun h7 => ?_) (fun h7 => den_splitLt (fun h8 => ?_) (fun h8 => den_splitLt (fun h9 => ?_) (fun h9 => ?_))))))
      iterate 6 exact den_call_bool (b := true) (fun w1 _ => c19 w1) rfl (fun w1 w2 _ _ => den_leaf_ne (by decide) (den_leaf rfl))
      exact den_leaf_eq fun w3 h10 => by
        have h4' : (1 : Int) ≤ (B.length : Int) := h4
        have h5' : (B.length : Int) ≤ 500 := h5
        exact ⟨rfl, hf', fun _ => h3', by omega, by omega, h6, h7, h8, h9⟩
    · have ha' : act = false := ha
      refine den_splitLt (fun h4 => ?_) (fun h4 => den_splitLt (fun h5 => ?_) (fun h5 => den_splitLt (fun h6 => ?_) (fun h6 => den_splitLt (fun h7 => ?_) (fun h7 => den_splitLt (fun h8 => ?_) (fun h8 => den_splitLt (fun h9 => ?_) (fun h9 => ?_))))))
      iterate 6 exact den_call_bool (b := true) (fun w1 _ => c19 w1) rfl (fun w1 w2 _ _ => den_leaf_ne (by decide) (den_leaf rfl))
      exact den_leaf_eq fun w3 h10 => by
        have h4' : (1 : Int) ≤ (B.length : Int) := h4
        have h5' : (B.length : Int) ≤ 500 := h5
        exact ⟨rfl, hf', fun h => absurd h (by rw [ha']; decide), by omega, by omega, h6, h7, h8, h9⟩
  rintro l w0 hf0 ⟨rfl, hf, hact, hB1, hB2, hn0, hn20, ha0, hb0⟩ hk0 hfa0
  have l10 : b10 < w0.heap.size := by
    obtain ⟨b', hb', hlt'⟩ := hfa0.1.lt
    cases hb'
    exact hlt'
  have zw0 : w.heap.size ≤ w0.heap.size := hk0.size
  have hp := fOk_parts hf
  obtain ⟨nn, rfl⟩ : ∃ k : Nat, n = k := ⟨n.toNat, by omega⟩
  obtain ⟨zz, rfl⟩ : ∃ k : Nat, z = k := ⟨z.toNat, by omega⟩
  obtain ⟨mm, rfl⟩ : ∃ k : Nat, m = k := ⟨m.toNat, by omega⟩
  have hb5 : ∀ k : Nat, k ≤ 4096 → (Try.t5.bytes : Int) * k ≤ 281474976710656 := fun k hk => by
    have q1 : (Try.t5.bytes : Int) ≤ 1000 := by have := by5; omega
    have q2 : (Try.t5.bytes : Int) * k ≤ 1000 * 4096 := Int.mul_le_mul q1 (by omega) (by omega) (by omega)
    exact Int.le_trans q2 (by decide)
  refine den_norm (by simp only [List.cons_append, List.nil_append]; rfl) ?_
  refine den_loop (fun ls w' => ∃ j : Nat, j ≤ nn ∧ Made w0.heap.size zz mm j ls w') (fun ls _ => nn - (vint (nth ls 0)).toNat) (fun w1 h1 => ⟨0, Nat.zero_le _, _, [], [], 0, rfl, rfl, rfl, by omega, by simp, h1.kept.size, grow_nil⟩) ?_
  rintro w1 l w2 h1 hfl ⟨j, hj, out, LV, L, at0, rfl, hLV, hL, hat, hLq, z02, hG⟩ hk2 hfa2
  obtain ⟨oa, oc, hov⟩ := hG.mine.slice
  refine den_norm (by simp only [List.cons_append, List.nil_append]; rfl) (den_splitLt (fun hlt => ?_) (fun hge => ?_))
  · have hjn : j < nn := by have h' : (j : Int) < nn := hlt
                            omega
    refine den_cut (fun ls w' => ∃ px g1 g2 : Nat, ls = [pt px] ∧ NewB w2.heap.size px g1 g2 zz mm (List.replicate zz (0 : Int)) (List.replicate mm (0 : Int)) w' ∧ Kept (fun b => w2.heap.size ≤ b) w2 w') ?_ ?_
    · intro w3 h3
      refine ⟨fun _ => True, fun _ _ => trivial, ?_⟩
      have z23 : w2.heap.size ≤ w3.heap.size := h3.kept.size
      have h3w := h3

      have fin : ∀ {w4 : World} {px g1 g2 : Nat}, Kept (fun b => w3.heap.size ≤ b) w3 w4 → HasBlk w4 (pt px) [sOf g1 zz, sOf g2 mm] → Mine byteE 5 w4 (sOf g1 zz) (List.replicate zz (0 : Int)) → Mine byteE 5 w4 (sOf g2 mm) (List.replicate mm (0 : Int)) → (g1 ≠ g2 ∧ px ≠ g1 ∧ px ≠ g2) → (w3.heap.size ≤ px ∧ w3.heap.size ≤ g1 ∧ w3.heap.size ≤ g2) →
          NewB w2.heap.size px g1 g2 zz mm (List.replicate zz (0 : Int)) (List.replicate mm (0 : Int)) w4 ∧ Kept (fun b => w2.heap.size ≤ b) w2 w4 :=
        fun {w4 px g1 g2} hk h1 h2 h3 h4 h5 => ⟨⟨h1, h2, h3, h4, by omega⟩, ((shown_same h3w).mono fun _ _ h => h.elim).trans (hk.mono fun b _ hb => Nat.le_trans z23 hb)⟩
      refine den_both ?_ ?_
      · skip
        refine den_make (n := zz) u40 i5 z5 rfl rfl (hb5 zz (by omega)) (by omega) (fun v => rfl) (fun u0 gA v0 hu0 hgA hhA s0 => den_norm (by simp only [List.cons_append, List.nil_append]; rfl) ?_)
        have zu0 : w3.heap.size ≤ u0.heap.size := hu0.kept.size
        have MA := mine_zeros (m := zz) (by omega) hhA
        have qA : gA < v0.heap.size := MA.lt rfl
        have z3u0 : w3.heap.size ≤ u0.heap.size := Nat.le_trans (Nat.le_refl _) zu0
        have kk0 : Kept (fun b => w3.heap.size ≤ b) w3 v0 := ((Kept.refl _ w3).trans ((shown_same hu0).mono fun _ _ h => h.elim)).trans (s0.mono fun _ _ h => h.elim)
        have z3v0 : w3.heap.size ≤ v0.heap.size := Nat.le_trans z3u0 s0.size
        refine den_both ?_ ?_
        · skip
          refine den_make (n := mm) u40 i5 z5 rfl rfl (hb5 mm (by omega)) (by omega) (fun v => rfl) (fun u1 gB v1 hu1 hgB hhB s1 => den_norm (by simp only [List.cons_append, List.nil_append]; rfl) ?_)
          have zu1 : v0.heap.size ≤ u1.heap.size := hu1.kept.size
          have MB := mine_zeros (m := mm) (by omega) hhB
          have qB : gB < v1.heap.size := MB.lt rfl
          have z3u1 : w3.heap.size ≤ u1.heap.size := Nat.le_trans z3v0 zu1
          have kk1 : Kept (fun b => w3.heap.size ≤ b) w3 v1 := (kk0.trans ((shown_same hu1).mono fun _ _ h => h.elim)).trans (s1.mono fun _ _ h => h.elim)
          have MA := (MA.same (shown_same hu1)).same s1
          have nYX : gA < gB := by have := hu1.kept.size; omega
          have z3v1 : w3.heap.size ≤ v1.heap.size := Nat.le_trans z3u1 s1.size
          refine den_blk fun pb kpb kpb' _ => den_norm (by simp only [List.cons_append, List.nil_append]; rfl) ?_
          have zpb : v1.heap.size ≤ pb := kpb
          have nAb : gA < pb := Nat.lt_of_lt_of_le (MA.lt rfl) zpb
          have nBb : gB < pb := Nat.lt_of_lt_of_le (MB.lt rfl) zpb
          refine den_leaf_eq fun wl hl => ?_
          have kl : Kept (fun b => w3.heap.size ≤ b) w3 wl := kk1.trans (hl.kept.mono fun b _ hin => by simp [BlkIn, nth, blkOf, vaddr] at hin; omega)
          have hpl : HasBlk wl (pt pb) [sOf gA zz, sOf gB mm] := by have := hl.facts.1; simpa [SV.den, denL, IE.den, BE.den, nth, vint, vbool, vaddr, addO, addr_add] using this
          have e := fin kl hpl (MA.kept hl.kept fun g hg hin => by cases hg; simp [BlkIn, nth, blkOf, vaddr] at hin; omega) (MB.kept hl.kept fun g hg hin => by cases hg; simp [BlkIn, nth, blkOf, vaddr] at hin; omega) (by omega) (by omega)
          exact ⟨pb, gA, gB, by simp [SV.den, denL, IE.den, BE.den, nth, vint, vbool, vaddr, addO, addr_add], e.1, e.2⟩
        · skip
          refine den_blk fun pb kpb kpb' _ => den_norm (by simp only [List.cons_append, List.nil_append]; rfl) ?_
          have zpb : v0.heap.size ≤ pb := kpb
          have nAb : gA < pb := Nat.lt_of_lt_of_le (MA.lt rfl) zpb
          refine den_make (n := mm) u40 i5 z5 rfl rfl (hb5 mm (by omega)) (by omega) (fun v => rfl) (fun u2 gB v2 hu2 hgB hhB s2 => den_norm (by simp only [List.cons_append, List.nil_append]; rfl) ?_)
          have zu2 : v0.heap.size ≤ u2.heap.size := hu2.kept.size
          have MB := mine_zeros (m := mm) (by omega) hhB
          have qB : gB < v2.heap.size := MB.lt rfl
          have z3u2 : w3.heap.size ≤ u2.heap.size := Nat.le_trans z3v0 zu2
          have kk2 : Kept (fun b => w3.heap.size ≤ b) w3 v2 := (kk0.trans ((shown_same hu2).mono fun _ _ h => h.elim)).trans (s2.mono fun _ _ h => h.elim)
          have MA := (MA.same (shown_same hu2)).same s2
          have nYX : gA < gB := by have := hu2.kept.size; omega
          have nbB : pb < u2.heap.size := hu2.lt (i := 15) (by simp [keys]) rfl
          have z3v2 : w3.heap.size ≤ v2.heap.size := Nat.le_trans z3u2 s2.size
          refine den_leaf_eq fun wl hl => ?_
          have kl : Kept (fun b => w3.heap.size ≤ b) w3 wl := kk2.trans (hl.kept.mono fun b _ hin => by simp [BlkIn, nth, blkOf, vaddr] at hin; omega)
          have hpl : HasBlk wl (pt pb) [sOf gA zz, sOf gB mm] := by have := hl.facts.1; simpa [SV.den, denL, IE.den, BE.den, nth, vint, vbool, vaddr, addO, addr_add] using this
          have e := fin kl hpl (MA.kept hl.kept fun g hg hin => by cases hg; simp [BlkIn, nth, blkOf, vaddr] at hin; omega) (MB.kept hl.kept fun g hg hin => by cases hg; simp [BlkIn, nth, blkOf, vaddr] at hin; omega) (by omega) (by omega)
          exact ⟨pb, gA, gB, by simp [SV.den, denL, IE.den, BE.den, nth, vint, vbool, vaddr, addO, addr_add], e.1, e.2⟩
      · skip
        refine den_both ?_ ?_
        · skip
          refine den_make (n := mm) u40 i5 z5 rfl rfl (hb5 mm (by omega)) (by omega) (fun v => rfl) (fun u0 gB v0 hu0 hgB hhB s0 => den_norm (by simp only [List.cons_append, List.nil_append]; rfl) ?_)
          have zu0 : w3.heap.size ≤ u0.heap.size := hu0.kept.size
          have MB := mine_zeros (m := mm) (by omega) hhB
          have qB : gB < v0.heap.size := MB.lt rfl
          have z3u0 : w3.heap.size ≤ u0.heap.size := Nat.le_trans (Nat.le_refl _) zu0
          have kk0 : Kept (fun b => w3.heap.size ≤ b) w3 v0 := ((Kept.refl _ w3).trans ((shown_same hu0).mono fun _ _ h => h.elim)).trans (s0.mono fun _ _ h => h.elim)
          have z3v0 : w3.heap.size ≤ v0.heap.size := Nat.le_trans z3u0 s0.size
          refine den_both ?_ ?_
          · skip
            refine den_make (n := zz) u40 i5 z5 rfl rfl (hb5 zz (by omega)) (by omega) (fun v => rfl) (fun u1 gA v1 hu1 hgA hhA s1 => den_norm (by simp only [List.cons_append, List.nil_append]; rfl) ?_)
            have zu1 : v0.heap.size ≤ u1.heap.size := hu1.kept.size
            have MA := mine_zeros (m := zz) (by omega) hhA
            have qA : gA < v1.heap.size := MA.lt rfl
            have z3u1 : w3.heap.size ≤ u1.heap.size := Nat.le_trans z3v0 zu1
            have kk1 : Kept (fun b => w3.heap.size ≤ b) w3 v1 := (kk0.trans ((shown_same hu1).mono fun _ _ h => h.elim)).trans (s1.mono fun _ _ h => h.elim)
            have MB := (MB.same (shown_same hu1)).same s1
            have nYX : gB < gA := by have := hu1.kept.size; omega
            have z3v1 : w3.heap.size ≤ v1.heap.size := Nat.le_trans z3u1 s1.size
            refine den_blk fun pb kpb kpb' _ => den_norm (by simp only [List.cons_append, List.nil_append]; rfl) ?_
            have zpb : v1.heap.size ≤ pb := kpb
            have nAb : gA < pb := Nat.lt_of_lt_of_le (MA.lt rfl) zpb
            have nBb : gB < pb := Nat.lt_of_lt_of_le (MB.lt rfl) zpb
            refine den_leaf_eq fun wl hl => ?_
            have kl : Kept (fun b => w3.heap.size ≤ b) w3 wl := kk1.trans (hl.kept.mono fun b _ hin => by simp [BlkIn, nth, blkOf, vaddr] at hin; omega)
            have hpl : HasBlk wl (pt pb) [sOf gA zz, sOf gB mm] := by have := hl.facts.1; simpa [SV.den, denL, IE.den, BE.den, nth, vint, vbool, vaddr, addO, addr_add] using this
            have e := fin kl hpl (MA.kept hl.kept fun g hg hin => by cases hg; simp [BlkIn, nth, blkOf, vaddr] at hin; omega) (MB.kept hl.kept fun g hg hin => by cases hg; simp [BlkIn, nth, blkOf, vaddr] at hin; omega) (by omega) (by omega)
            exact ⟨pb, gA, gB, by simp [SV.den, denL, IE.den, BE.den, nth, vint, vbool, vaddr, addO, addr_add], e.1, e.2⟩
          · skip
            refine den_blk fun pb kpb kpb' _ => den_norm (by simp only [List.cons_append, List.nil_append]; rfl) ?_
            have zpb : v0.heap.size ≤ pb := kpb
            have nBb : gB < pb := Nat.lt_of_lt_of_le (MB.lt rfl) zpb
            refine den_make (n := zz) u40 i5 z5 rfl rfl (hb5 zz (by omega)) (by omega) (fun v => rfl) (fun u2 gA v2 hu2 hgA hhA s2 => den_norm (by simp only [List.cons_append, List.nil_append]; rfl) ?_)
            have zu2 : v0.heap.size ≤ u2.heap.size := hu2.kept.size
            have MA := mine_zeros (m := zz) (by omega) hhA
            have qA : gA < v2.heap.size := MA.lt rfl
            have z3u2 : w3.heap.size ≤ u2.heap.size := Nat.le_trans z3v0 zu2
            have kk2 : Kept (fun b => w3.heap.size ≤ b) w3 v2 := (kk0.trans ((shown_same hu2).mono fun _ _ h => h.elim)).trans (s2.mono fun _ _ h => h.elim)
            have MB := (MB.same (shown_same hu2)).same s2
            have nYX : gB < gA := by have := hu2.kept.size; omega
            have nbA : pb < u2.heap.size := hu2.lt (i := 15) (by simp [keys]) rfl
            have z3v2 : w3.heap.size ≤ v2.heap.size := Nat.le_trans z3u2 s2.size
            refine den_leaf_eq fun wl hl => ?_
            have kl : Kept (fun b => w3.heap.size ≤ b) w3 wl := kk2.trans (hl.kept.mono fun b _ hin => by simp [BlkIn, nth, blkOf, vaddr] at hin; omega)
            have hpl : HasBlk wl (pt pb) [sOf gA zz, sOf gB mm] := by have := hl.facts.1; simpa [SV.den, denL, IE.den, BE.den, nth, vint, vbool, vaddr, addO, addr_add] using this
            have e := fin kl hpl (MA.kept hl.kept fun g hg hin => by cases hg; simp [BlkIn, nth, blkOf, vaddr] at hin; omega) (MB.kept hl.kept fun g hg hin => by cases hg; simp [BlkIn, nth, blkOf, vaddr] at hin; omega) (by omega) (by omega)
            exact ⟨pb, gA, gB, by simp [SV.den, denL, IE.den, BE.den, nth, vint, vbool, vaddr, addO, addr_add], e.1, e.2⟩
        · skip
          refine den_blk fun pb kpb kpb' _ => den_norm (by simp only [List.cons_append, List.nil_append]; rfl) ?_
          have zpb : w3.heap.size ≤ pb := kpb
          refine den_both ?_ ?_
          · skip
            refine den_make (n := zz) u40 i5 z5 rfl rfl (hb5 zz (by omega)) (by omega) (fun v => rfl) (fun u1 gA v1 hu1 hgA hhA s1 => den_norm (by simp only [List.cons_append, List.nil_append]; rfl) ?_)
            have zu1 : w3.heap.size ≤ u1.heap.size := hu1.kept.size
            have MA := mine_zeros (m := zz) (by omega) hhA
            have qA : gA < v1.heap.size := MA.lt rfl
            have z3u1 : w3.heap.size ≤ u1.heap.size := Nat.le_trans (Nat.le_refl _) zu1
            have kk1 : Kept (fun b => w3.heap.size ≤ b) w3 v1 := ((Kept.refl _ w3).trans ((shown_same hu1).mono fun _ _ h => h.elim)).trans (s1.mono fun _ _ h => h.elim)
            have nbA : pb < u1.heap.size := hu1.lt (i := 14) (by simp [keys]) rfl
            have z3v1 : w3.heap.size ≤ v1.heap.size := Nat.le_trans z3u1 s1.size
            refine den_make (n := mm) u40 i5 z5 rfl rfl (hb5 mm (by omega)) (by omega) (fun v => rfl) (fun u2 gB v2 hu2 hgB hhB s2 => den_norm (by simp only [List.cons_append, List.nil_append]; rfl) ?_)
            have zu2 : v1.heap.size ≤ u2.heap.size := hu2.kept.size
            have MB := mine_zeros (m := mm) (by omega) hhB
            have qB : gB < v2.heap.size := MB.lt rfl
            have z3u2 : w3.heap.size ≤ u2.heap.size := Nat.le_trans z3v1 zu2
            have kk2 : Kept (fun b => w3.heap.size ≤ b) w3 v2 := (kk1.trans ((shown_same hu2).mono fun _ _ h => h.elim)).trans (s2.mono fun _ _ h => h.elim)
            have MA := (MA.same (shown_same hu2)).same s2
            have nYX : gA < gB := by have := hu2.kept.size; omega
            have nbB : pb < u2.heap.size := hu2.lt (i := 14) (by simp [keys]) rfl
            have z3v2 : w3.heap.size ≤ v2.heap.size := Nat.le_trans z3u2 s2.size
            refine den_leaf_eq fun wl hl => ?_
            have kl : Kept (fun b => w3.heap.size ≤ b) w3 wl := kk2.trans (hl.kept.mono fun b _ hin => by simp [BlkIn, nth, blkOf, vaddr] at hin; omega)
            have hpl : HasBlk wl (pt pb) [sOf gA zz, sOf gB mm] := by have := hl.facts.1; simpa [SV.den, denL, IE.den, BE.den, nth, vint, vbool, vaddr, addO, addr_add] using this
            have e := fin kl hpl (MA.kept hl.kept fun g hg hin => by cases hg; simp [BlkIn, nth, blkOf, vaddr] at hin; omega) (MB.kept hl.kept fun g hg hin => by cases hg; simp [BlkIn, nth, blkOf, vaddr] at hin; omega) (by omega) (by omega)
            exact ⟨pb, gA, gB, by simp [SV.den, denL, IE.den, BE.den, nth, vint, vbool, vaddr, addO, addr_add], e.1, e.2⟩
          · skip
            refine den_make (n := mm) u40 i5 z5 rfl rfl (hb5 mm (by omega)) (by omega) (fun v => rfl) (fun u1 gB v1 hu1 hgB hhB s1 => den_norm (by simp only [List.cons_append, List.nil_append]; rfl) ?_)
            have zu1 : w3.heap.size ≤ u1.heap.size := hu1.kept.size
            have MB := mine_zeros (m := mm) (by omega) hhB
            have qB : gB < v1.heap.size := MB.lt rfl
            have z3u1 : w3.heap.size ≤ u1.heap.size := Nat.le_trans (Nat.le_refl _) zu1
            have kk1 : Kept (fun b => w3.heap.size ≤ b) w3 v1 := ((Kept.refl _ w3).trans ((shown_same hu1).mono fun _ _ h => h.elim)).trans (s1.mono fun _ _ h => h.elim)
            have nbB : pb < u1.heap.size := hu1.lt (i := 14) (by simp [keys]) rfl
            have z3v1 : w3.heap.size ≤ v1.heap.size := Nat.le_trans z3u1 s1.size
            refine den_make (n := zz) u40 i5 z5 rfl rfl (hb5 zz (by omega)) (by omega) (fun v => rfl) (fun u2 gA v2 hu2 hgA hhA s2 => den_norm (by simp only [List.cons_append, List.nil_append]; rfl) ?_)
            have zu2 : v1.heap.size ≤ u2.heap.size := hu2.kept.size
            have MA := mine_zeros (m := zz) (by omega) hhA
            have qA : gA < v2.heap.size := MA.lt rfl
            have z3u2 : w3.heap.size ≤ u2.heap.size := Nat.le_trans z3v1 zu2
            have kk2 : Kept (fun b => w3.heap.size ≤ b) w3 v2 := (kk1.trans ((shown_same hu2).mono fun _ _ h => h.elim)).trans (s2.mono fun _ _ h => h.elim)
            have MB := (MB.same (shown_same hu2)).same s2
            have nYX : gB < gA := by have := hu2.kept.size; omega
            have nbA : pb < u2.heap.size := hu2.lt (i := 14) (by simp [keys]) rfl
            have z3v2 : w3.heap.size ≤ v2.heap.size := Nat.le_trans z3u2 s2.size
            refine den_leaf_eq fun wl hl => ?_
            have kl : Kept (fun b => w3.heap.size ≤ b) w3 wl := kk2.trans (hl.kept.mono fun b _ hin => by simp [BlkIn, nth, blkOf, vaddr] at hin; omega)
            have hpl : HasBlk wl (pt pb) [sOf gA zz, sOf gB mm] := by have := hl.facts.1; simpa [SV.den, denL, IE.den, BE.den, nth, vint, vbool, vaddr, addO, addr_add] using this
            have e := fin kl hpl (MA.kept hl.kept fun g hg hin => by cases hg; simp [BlkIn, nth, blkOf, vaddr] at hin; omega) (MB.kept hl.kept fun g hg hin => by cases hg; simp [BlkIn, nth, blkOf, vaddr] at hin; omega) (by omega) (by omega)
            exact ⟨pb, gA, gB, by simp [SV.den, denL, IE.den, BE.den, nth, vint, vbool, vaddr, addO, addr_add], e.1, e.2⟩
    rintro l w3 hf3 ⟨px, g1, g2, rfl, hN3, hK3⟩ hk3 hfa3
    refine den_norm (by simp only [List.cons_append, List.nil_append]; rfl) ?_
    have hBin : ∀ a : Nat, a % B.length < B.length := fun a => Nat.mod_lt _ (by omega)
    have oldB : ∀ {wa : World}, Kept (fun _ => False) w wa → Given byteE wa (.slice ba B.length bc) B := fun hk => hb.kept hk fun _ _ h => h
    have lBa : ∀ ad, vaddr (.slice ba B.length bc) = some ad → ad.block < w.heap.size := hb.2.2.2
    have hN2 := hN3.lo
    have hNn := hN3.ne
    have KS : ∀ {wa wb : World}, Kept (fun b => w2.heap.size ≤ b) w2 wa → Same wa wb → Kept (fun b => w2.heap.size ≤ b) w2 wb := fun h1 h2 => h1.trans (h2.mono fun _ _ h => h.elim)
    have KG : ∀ {wa wb : World} {g : Nat}, Kept (fun b => w2.heap.size ≤ b) w2 wa → Kept (fun b => b = g) wa wb → w2.heap.size ≤ g → Kept (fun b => w2.heap.size ≤ b) w2 wb := fun h1 h2 hg => h1.trans (h2.mono fun b _ hb => by omega)

    refine den_loop (fun ls w' => ∃ (k : Nat) (D : List Int), ls = [.int .i64 k, .int .i64 (at0 + k : Nat)] ∧ k ≤ zz ∧ D.length = zz ∧ NewB w2.heap.size px g1 g2 zz mm D (List.replicate mm (0 : Int)) w' ∧ Kept (fun b => w2.heap.size ≤ b) w2 w') (fun ls _ => zz - (vint (nth ls 0)).toNat) (fun w4 h4 => ⟨0, (List.replicate zz (0 : Int)), by simp [SV.den, denL, IE.den, BE.den, nth, vint, vbool, vaddr, addO, addr_add], Nat.zero_le _, by simp, hN3.same (shown_same h4), KS hK3 (shown_same h4)⟩) ?_
    clear hN3 hK3
    rintro w4 l4 w5 h4 hfl4 ⟨k, D, rfl, hk, hDl, hN5, hK5⟩ hk5 hfa5
    refine den_norm (by simp only [List.cons_append, List.nil_append]; rfl) (den_splitLt (fun hlt2 => ?_) (fun hge2 => ?_))
    · have hkz : k < zz := by have h' : (k : Int) < zz := hlt2
                              omega
      intro w6 h6
      refine ⟨fun b => b = g1 ∨ b = b10, fun b hin => (by simp [BlkIn, nth, blkOf, vaddr] at hin; exact .inr hin.symm), ?_⟩
      have hN6 := hN5.same (shown_same h6)
      have hK6 := KS hK5 (shown_same h6)
      refine den_notnil (i := 14) hN6.p.pts ?_
      refine den_ldpD (i := 14) [sOf g1 zz] [sOf g1 zz, sOf g2 mm] ⟨⟨_, _, _, rfl⟩, trivial⟩ (fun m v hv => by cases m with | zero => exact hv | succ m => simp at hv) hN6.p.pts (fun b hb hx => by have e : px = b := Option.some.inj hb; omega) (den_norm (by simp only [List.cons_append, List.nil_append]; rfl) ?_)
      refine den_ob (show (!decide ((B.length : Int) = 0)) = true from by rw [decide_eq_false (by omega)]; rfl) ?_
      have hx : B[(at0 + k) % B.length]? = some (B[(at0 + k) % B.length]'(hBin _)) := by simp [hBin]
      generalize B[(at0 + k) % B.length]'(hBin _) = y at hx
      refine den_idxD (E := byteE) (L := B) y ((at0 + k) % B.length) [.int .u8 y] rfl (by decide) mod_cast' hx ⟨⟨_, rfl⟩, trivial⟩ (whole _) (oldB h6.base).1 (fun ad had hx => by have := lBa ad had; omega) (den_norm (by simp only [List.cons_append, List.nil_append]; rfl) ?_)
      have hx1 : D[k]? = some (D[k]'(by omega)) := by simp
      generalize D[k]'(by omega) = y0 at hx1
      refine den_obs (E := byteE) (L := D) k (show Arr byteE w6 (sOf g1 zz) D from hN6.a.arr) (by decide) rfl (by omega) ?_
      refine den_storeM (E := byteE) (T := 5) (sOf g1 zz) D k y0 y (.int .u8 y) [.int .u8 y] (by kernel_rfl) rfl rfl rfl hx1 rfl rfl rfl (by intro u hu; simp at hu; subst hu; rfl) (by simp [byteE]) (by decide) rfl (fun w7 h7 => hN6.a.same (shown_same h7)) (fun w7 h7 g hg => ?_) ⟨w6, hN6.a⟩ (fun w7 w8 h7 hm8 hk8 => ?_)
      · have e : g1 = g := Option.some.inj hg
        subst e
        exact ⟨fun _ => .inl rfl, fun hlt => absurd (show g1 < w.heap.size from hlt) (by omega), fun hin => (by simp [BlkIn, nth, blkOf, vaddr] at hin; omega), fun hx => (by cases hx)⟩
      have kk8 : Kept (fun b => b = g1) w7 w8 := hk8.mono fun b _ hb => (Option.some.inj hb).symm
      have hN7 := hN6.same (shown_same h7)
      have hN8 : NewB w2.heap.size px g1 g2 zz mm (D.set k y) (List.replicate mm (0 : Int)) w8 := by
        refine ⟨?_, hm8, hN7.b.kept kk8 fun g hg hb => by have e : g2 = g := Option.some.inj hg; omega, hN7.ne, hN7.lo⟩
        obtain ⟨b', ty, e, hh⟩ := hN7.p
        cases e
        exact ⟨px, ty, rfl, (kk8.block px (Array.getElem?_eq_some_iff.1 hh).1 (by omega)).trans hh⟩
      have hK8 := KG (KS hK6 (shown_same h7)) kk8 (by omega)
      refine den_ob64 (by simp only [IE.den, nth, vint]; omega) (den_ob64 (by simp only [IE.den, nth, vint]; omega) (den_leaf' fun w9 h9 => (if_pos rfl).mpr ⟨⟨k + 1, D.set k y, by simp [SV.den, denL, IE.den, BE.den, nth, vint, vbool, vaddr, addO, addr_add]; omega, by omega, by simp [hDl], hN8.same (shown_same h9), KS hK8 (shown_same h9)⟩, ?_⟩))
      simp [SV.den, denL, IE.den, BE.den, nth, vint, vbool, vaddr, addO, addr_add]
      omega
    have hkz : zz = k := by have h' : (zz : Int) ≤ k := hge2
                            omega
    subst hkz
    have hAl := hDl
    have hNA := hN5
    have hKA := hK5
    clear hk hDl hN5 hK5

    refine den_loop (fun ls w' => ∃ (k : Nat) (E : List Int), ls = [.int .i64 k, .int .i64 ((at0 + zz) + k : Nat)] ∧ k ≤ mm ∧ E.length = mm ∧ NewB w2.heap.size px g1 g2 zz mm D E w' ∧ Kept (fun b => w2.heap.size ≤ b) w2 w') (fun ls _ => mm - (vint (nth ls 0)).toNat) (fun w4 h4 => ⟨0, (List.replicate mm (0 : Int)), by simp [SV.den, denL, IE.den, BE.den, nth, vint, vbool, vaddr, addO, addr_add], Nat.zero_le _, by simp, hNA.same (shown_same h4), KS hKA (shown_same h4)⟩) ?_
    clear hNA hKA
    rintro w4b l4b w5b h4b hfl4b ⟨k, E, rfl, hk, hDl, hN5, hK5⟩ hk5b hfa5b
    refine den_norm (by simp only [List.cons_append, List.nil_append]; rfl) (den_splitLt (fun hlt2 => ?_) (fun hge2 => ?_))
    · have hkz : k < mm := by have h' : (k : Int) < mm := hlt2
                              omega
      intro w6 h6
      refine ⟨fun b => b = g2 ∨ b = b10, fun b hin => (by simp [BlkIn, nth, blkOf, vaddr] at hin; exact .inr hin.symm), ?_⟩
      have hN6 := hN5.same (shown_same h6)
      have hK6 := KS hK5 (shown_same h6)
      refine den_notnil (i := 14) hN6.p.pts ?_
      refine den_ldpD (i := 14) [sOf g2 mm] [sOf g1 zz, sOf g2 mm] ⟨⟨_, _, _, rfl⟩, trivial⟩ (fun m v hv => by cases m with | zero => exact hv | succ m => simp at hv) hN6.p.pts (fun b hb hx => by have e : px = b := Option.some.inj hb; omega) (den_norm (by simp only [List.cons_append, List.nil_append]; rfl) ?_)
      refine den_ob (show (!decide ((B.length : Int) = 0)) = true from by rw [decide_eq_false (by omega)]; rfl) ?_
      have hx : B[((at0 + zz) + k) % B.length]? = some (B[((at0 + zz) + k) % B.length]'(hBin _)) := by simp [hBin]
      generalize B[((at0 + zz) + k) % B.length]'(hBin _) = y at hx
      refine den_idxD (E := byteE) (L := B) y (((at0 + zz) + k) % B.length) [.int .u8 y] rfl (by decide) mod_cast' hx ⟨⟨_, rfl⟩, trivial⟩ (whole _) (oldB h6.base).1 (fun ad had hx => by have := lBa ad had; omega) (den_norm (by simp only [List.cons_append, List.nil_append]; rfl) ?_)
      have hx1 : E[k]? = some (E[k]'(by omega)) := by simp
      generalize E[k]'(by omega) = y0 at hx1
      refine den_obs (E := byteE) (L := E) k (show Arr byteE w6 (sOf g2 mm) E from hN6.b.arr) (by decide) rfl (by omega) ?_
      refine den_storeM (E := byteE) (T := 5) (sOf g2 mm) E k y0 y (.int .u8 y) [.int .u8 y] (by kernel_rfl) rfl rfl rfl hx1 rfl rfl rfl (by intro u hu; simp at hu; subst hu; rfl) (by simp [byteE]) (by decide) rfl (fun w7 h7 => hN6.b.same (shown_same h7)) (fun w7 h7 g hg => ?_) ⟨w6, hN6.b⟩ (fun w7 w8 h7 hm8 hk8 => ?_)
      · have e : g2 = g := Option.some.inj hg
        subst e
        exact ⟨fun _ => .inl rfl, fun hlt => absurd (show g2 < w.heap.size from hlt) (by omega), fun hin => (by simp [BlkIn, nth, blkOf, vaddr] at hin; omega), fun hx => (by cases hx)⟩
      have kk8 : Kept (fun b => b = g2) w7 w8 := hk8.mono fun b _ hb => (Option.some.inj hb).symm
      have hN7 := hN6.same (shown_same h7)
      have hN8 : NewB w2.heap.size px g1 g2 zz mm D (E.set k y) w8 := by
        refine ⟨?_, hN7.a.kept kk8 fun g hg hb => by have e : g1 = g := Option.some.inj hg; omega, hm8, hN7.ne, hN7.lo⟩
        obtain ⟨b', ty, e, hh⟩ := hN7.p
        cases e
        exact ⟨px, ty, rfl, (kk8.block px (Array.getElem?_eq_some_iff.1 hh).1 (by omega)).trans hh⟩
      have hK8 := KG (KS hK6 (shown_same h7)) kk8 (by omega)
      refine den_ob64 (by simp only [IE.den, nth, vint]; omega) (den_ob64 (by simp only [IE.den, nth, vint]; omega) (den_leaf' fun w9 h9 => (if_pos rfl).mpr ⟨⟨k + 1, E.set k y, by simp [SV.den, denL, IE.den, BE.den, nth, vint, vbool, vaddr, addO, addr_add]; omega, by omega, by simp [hDl], hN8.same (shown_same h9), KS hK8 (shown_same h9)⟩, ?_⟩))
      simp [SV.den, denL, IE.den, BE.den, nth, vint, vbool, vaddr, addO, addr_add]
      omega
    have hkz : mm = k := by have h' : (mm : Int) ≤ k := hge2
                            omega
    subst hkz
    have hG5 := hG.kept hK5 fun b _ hb2 h => by omega
    have hoM : ∀ g, out.ownBlock = some g → g < w2.heap.size := fun g hg => hG.mine.lt hg
    refine den_ldp (i := 14) [sOf g1 zz, sOf g2 mm] [sOf g1 zz, sOf g2 mm] ⟨⟨_, _, _, rfl⟩, ⟨_, _, _, rfl⟩, trivial⟩ (whole _) (fun w6 h6 => (hN5.same (shown_same h6)).p.pts) (fun _ _ => by simp [BlkIn]) fun w6 h6 => den_norm (by simp only [List.cons_append, List.nil_append]; rfl) ?_
    have hN6 := hN5.same (shown_same h6)
    have hG6 := hG5.same (shown_same h6)
    have z26 : w2.heap.size ≤ w6.heap.size := Nat.le_trans hK5.size h6.kept.size
    refine den_blk fun b21 k21 k21' _ => den_norm (by simp only [List.cons_append, List.nil_append]; rfl) ?_
    have z21 : w6.heap.size ≤ b21 := k21
    refine den_push (E := bvE) (T := 70) rfl u42 i70 z70 s70 rfl (by decide) by70 bv_one out LV (⟨some ⟨g1, 0, none⟩, zz, zz⟩, ⟨some ⟨g2, 0, none⟩, mm, mm⟩) rfl rfl rfl (by omega) (fun g hg _ => .inl (by have := hG.lv g hg; exact Nat.le_trans zw0 this)) (by simp [keys]) (fun we he => (hG6.same (shown_same he)).mine) ?_ (fun hd => by cases hd) (fun _ => rfl) (fun we out' wf he hof kf hfrf hapf => den_norm (by simp only [List.cons_append, List.nil_append]; rfl) ?_)
    · intro g hg _ hin
      have q1 := hoM g hg
      have q2 := hG.lv g hg
      simp [BlkIn, nth, blkOf, vaddr] at hin
      omega
    have hNe := hN6.same (shown_same he)
    have hGe : Grow w0.heap.size we out LV (fun i => (L ++ [(D, E)]).getD i ([], [])) := (hG6.same (shown_same he)).congr fun i hi => by
      simp only [List.getD_eq_getElem?_getD]
      rw [List.getElem?_append_left (by omega)]
    have hFj : (L ++ [(D, E)]).getD LV.length ([], []) = (D, E) := by
      rw [hLV, ← hL]
      simp [List.getD_eq_getElem?_getD]
    have hGf := hGe.push (by have q : w6.heap.size ≤ we.heap.size := he.kept.size; omega) (p := ((⟨some ⟨g1, 0, none⟩, zz, zz⟩ : Sl), (⟨some ⟨g2, 0, none⟩, mm, mm⟩ : Sl))) ⟨by rw [hFj]; exact hNe.a, by rw [hFj]; exact hNe.b, fun g hg => by have e : g1 = g := Option.some.inj hg; omega, fun g hg => by have e : g2 = g := Option.some.inj hg; omega⟩ (fun g hg => ⟨fun e => by have e1 : g1 = g := Option.some.inj e; have := hoM g hg; omega, fun e => by have e1 : g2 = g := Option.some.inj e; have := hoM g hg; omega⟩) kf hof hfrf
    refine den_ob64 (by simp only [IE.den, nth, vint]; omega) (den_leaf' fun wg hg => (if_neg (by decide)).mpr ((if_neg (by decide)).mpr ((if_pos rfl).mpr ⟨⟨j + 1, by omega, out', LV ++ [((⟨some ⟨g1, 0, none⟩, zz, zz⟩ : Sl), (⟨some ⟨g2, 0, none⟩, mm, mm⟩ : Sl))], L ++ [(D, E)], at0 + zz + mm, by simp [SV.den, denL, IE.den, BE.den, nth, vint, vbool, vaddr, addO, addr_add] <;> omega, by simp [hLV], by simp [hL], by omega, ?_, ?_, hGf.same (shown_same hg)⟩, ?_⟩)))
    · intro q hq
      rcases List.mem_append.1 hq with hq | hq
      · exact hLq q hq
      · simp at hq
        subst hq
        exact ⟨hAl, hDl⟩
    · have q1 : w6.heap.size ≤ we.heap.size := he.kept.size
      have q2 := kf.size
      have q3 : wf.heap.size ≤ wg.heap.size := hg.kept.size
      omega
    · simp [SV.den, denL, IE.den, BE.den, nth, vint, vbool, vaddr, addO, addr_add]
      omega
  have hjn : nn = j := by have h' : (nn : Int) ≤ j := hge
                          omega
  subst hjn
  subst hov
  have hBl : Blks w0.heap.size w2 (.slice oa LV.length oc) LV L := by
    have := hG.blks (n := nn) hLV
    rwa [range_map (n := nn) hL.symm (fun i q hq => by simp [List.getD_eq_getElem?_getD, hq])] at this
  have hoc : LV.length ≤ oc := hG.mine.cap
  clear hG
  obtain ⟨mv, hmv⟩ : ∃ k : Nat, mvd (mm : Int) act = k := ⟨(mvd (mm : Int) act).toNat, by have := mvd_range (act := act) hp.2; omega⟩
  have hmvc : (act = true ∧ mm = 8 ∧ mv = 0) ∨ (¬ (act = true ∧ (mm : Int) = 8) ∧ mv = mm) := by
    unfold mvd at hmv
    split at hmv
    · rename_i h
      exact .inl ⟨h.1, by omega, by omega⟩
    · rename_i h
      exact .inr ⟨h, by omega⟩
  have hmvm : mv ≤ mm := by omega
  have hfew : fewB L = true := by
    unfold fewB
    simp only [Bool.and_eq_true, List.all_eq_true, decide_eq_true_eq]
    exact ⟨fun q hq => by have := hLq q hq; omega, by omega⟩
  have hfit : fitsB zz mm L = true := List.all_eq_true.2 fun q hq => by
    have := hLq q hq
    simp only [Bool.and_eq_true, decide_eq_true_eq]
    omega
  have ht0 := fOk_t hf
  have hlok : lOk zz mm x t fi nn act = true := by
    simp only [lOk, Bool.and_eq_true, Bool.or_eq_true, decide_eq_true_eq, Bool.not_eq_true']
    refine ⟨⟨⟨hf, by omega⟩, by omega⟩, ?_⟩
    cases act with
    | false => exact .inl rfl
    | true => exact .inr (by have := hact rfl; omega)
  have hjok : jOk zz mm x t fi act L = true := by
    unfold jOk
    rw [hL, hlok, hfit]
    rfl
  have hDl := jD_len (x := x) hLq hmvm
  have hMl := jM_len (x := x) hLq hmvm
  generalize hD : jD x mv L = D at *
  generalize hM : jM x mv L = M at *
  have hsp : spE zz mm x t fi nn act D.length M.length = 0 := by
    unfold spE
    rw [if_pos hlok, hmv, hDl, hMl, hL]
    simp [exE]
  have hspl : splL zz mm x t fi nn act D M = (List.range nn).map (blkAt zz mm mv x D M) := by
    unfold splL
    rw [if_pos hsp, hmv]
    simp
  have hQL : ∀ (i : Nat) q, L[i]? = some q → blkAt zz mm mv x D M i = (q.1, pad mm (q.2.take mv)) := fun i q hq => by rw [← hD, ← hM]; exact blkAt_join hLq hmvm hq
  refine den_callR (fun w3 l w4 => ∃ a c a' c', l = [.slice a D.length c, .slice a' M.length c', .int .i64 0] ∧ Two w3.heap.size w4 (.slice a D.length c) (.slice a' M.length c') D M) (fun w3 h3 => (c28 zz mm x t fi act _ LV L w3 ((hBl.mono (Nat.zero_le _)).same (shown_same h3)) hfew).mono fun v w4 hJ => ?_) ?_
  · obtain ⟨d, m', rfl, hT⟩ := hJ
    rw [if_pos hjok, if_pos hjok, hmv, Int.toNat_natCast, hD, hM] at hT
    obtain ⟨a, c, e1⟩ := hT.hd.slice
    obtain ⟨a', c', e2⟩ := hT.hm.slice
    subst e1
    subst e2
    exact ⟨[.slice a D.length c, .slice a' M.length c', .int .i64 0], ⟨⟨_, _, _, rfl⟩, ⟨_, _, _, rfl⟩, ⟨_, rfl⟩, trivial⟩, by rw [if_pos hjok]; rfl, a, c, a', c', rfl, hT⟩
  rintro w3 l w4 h3 _ ⟨a1, c1, a2, c2, rfl, hT⟩ h34
  have hBl4 := (hBl.same (shown_same h3)).same h34
  have z04 : w0.heap.size ≤ w4.heap.size := Nat.le_trans z02 (Nat.le_trans h3.kept.size h34.size)
  clear hBl
  refine den_norm (by simp only [List.cons_append, List.nil_append]; rfl) ?_
  refine den_callR (fun w5 l w6 => ∃ a LQ c, l = [.slice a LQ.length c, .int .i64 0] ∧ Blks w5.heap.size w6 (.slice a LQ.length c) LQ ((List.range nn).map (blkAt zz mm mv x D M))) (fun w5 h5 => (c21 zz mm x t fi nn act _ _ D M w5 (hT.hd.same (shown_same h5)).given (hT.hm.same (shown_same h5)).given).mono fun v w6 hS => ?_) ?_
  · obtain ⟨a, LQ, c, rfl, hB⟩ := hS.fits
    rw [hspl] at hB
    exact ⟨[.slice a LQ.length c, .int .i64 0], ⟨⟨_, _, _, rfl⟩, ⟨_, rfl⟩, trivial⟩, by rw [hsp]; rfl, a, LQ, c, rfl, hB⟩
  rintro w5 l w6 h5 _ ⟨qa, LQ, qc, rfl, hQ6⟩ h56
  have hBl6 := (hBl4.same (shown_same h5)).same h56
  have hQ6' := hQ6.mono (Nat.le_trans z04 h5.kept.size : w0.heap.size ≤ w5.heap.size)
  have hLQ : LQ.length = nn := by have := hQ6.len; simpa using this
  clear hBl4 hQ6 hT
  refine den_norm (by simp only [List.cons_append, List.nil_append]; rfl) ?_
  refine den_call_int (x := 0) (fun w _ => c18 0 w) rfl (fun w7 w8 h7 h8 => den_norm (by simp only [List.cons_append, List.nil_append]; rfl) ?_)
  refine den_call_int (x := 0) (fun w _ => c18 0 w) rfl (fun w9 w10 h9 h10 => den_norm (by simp only [List.cons_append, List.nil_append]; rfl) ?_)
  refine den_ob64 (by simp only [IE.den, nth, vint]; omega) (den_split_false rfl ?_)
  refine den_splitNot (fun h => ?_) (fun _ => ?_)
  · exfalso
    simp only [BE.den, IE.den, nth, vlen, vint] at h
    exact of_decide_eq_false h (by omega)
  have hBl10 := (((hBl6.same (shown_same h7)).same h8).same (shown_same h9)).same h10
  have hQ10 := (((hQ6'.same (shown_same h7)).same h8).same (shown_same h9)).same h10
  clear hBl6 hQ6'
  refine den_loop (fun ls w' => ∃ i : Nat, ls = [.int .i64 i] ∧ i ≤ nn ∧ Blks w0.heap.size w' (.slice oa LV.length oc) LV L ∧ Blks w0.heap.size w' (.slice qa LQ.length qc) LQ ((List.range nn).map (blkAt zz mm mv x D M))) (fun ls _ => nn - (vint (nth ls 0)).toNat) (fun w11 h11 => ⟨0, rfl, Nat.zero_le _, hBl10.same (shown_same h11), hQ10.same (shown_same h11)⟩) ?_
  clear hBl10 hQ10
  rintro w11 l w12 h11 hfl ⟨i, rfl, hi, hBl12, hQ12⟩ hk12 hfa12
  refine den_norm (by simp only [List.cons_append, List.nil_append]; rfl) (den_splitLt (fun hlt => ?_) (fun hge => ?_))
  · have hin : i < nn := by have h' : (i : Int) < nn := hlt
                            omega
    obtain ⟨p, q, hp1, hq1, g1, g2, n1, n2⟩ := hBl12.pick (j := i) (by omega)
    obtain ⟨p', q', hp1', hq1', g1', g2', n1', n2'⟩ := hQ12.pick (j := i) (by omega)
    have hq' : q' = (q.1, pad mm (q.2.take mv)) := by
      rw [List.getElem?_map, List.getElem?_range hin, Option.map_some, hQL i q hq1] at hq1'
      exact (Option.some.inj hq1').symm
    subst hq'
    refine den_idx2 (E := bvE) (L := LV) p i [p.2.v] hBl12.arr rfl (by decide) rfl hp1 ⟨⟨_, _, _, rfl⟩, trivial⟩ (fun m v hv => by cases m with | zero => exact hv | succ m => simp at hv) (fun w13 h13 => (hBl12.same (shown_same h13)).arr) (fun ad had hin => by simp [BlkIn, nth, blkOf, vaddr] at hin) (fun w13 h13 => den_norm (by simp only [List.cons_append, List.nil_append]; rfl) ?_)
    refine den_start0 fun w14 h14 => den_str q.2 p.2.v u40 u5 u9 rfl ((g2.same (shown_same h13)).same (shown_same h14)).1 (fun ad had _ => by simp [BlkIn, nth, blkOf, vaddr]) (fun v => rfl) (den_norm (by simp only [List.cons_append, List.nil_append]; rfl) ?_)
    have s14 := (shown_same h13).trans (shown_same h14)
    refine den_cut (fun ls w' => ls = [strV (pad mm (q.2.take mv))] ∧ Blks w0.heap.size w' (.slice oa LV.length oc) LV L ∧ Blks w0.heap.size w' (.slice qa LQ.length qc) LQ ((List.range nn).map (blkAt zz mm mv x D M))) ?_ ?_
    · have hqm := hLq q (List.mem_of_getElem? hq1)
      have whole2 : ¬ (act = true ∧ (mm : Int) = 8) → pad mm (q.2.take mv) = q.2 := fun hno => by
        have : mv = mm := by
          rcases hmvc with h | h
          · exact absurd ⟨h.1, by omega⟩ hno
          · exact h.2
        rw [this, ← hqm.2, List.take_length]
        unfold pad
        simp
      refine den_split (fun ha => den_splitEq (fun h8 => ?_) (fun h8 => ?_)) (fun ha => ?_)
      · have ha' : act = true := ha
        have h8' : (mm : Int) = 8 := h8
        have e : pad mm (q.2.take mv) = List.replicate 8 0 := by
          rcases hmvc with h | h
          · rw [h.2.2, h.2.1]
            rfl
          · exact absurd ⟨ha', h8'⟩ h.1
        exact den_leaf_eq fun w15 h15 => ⟨by rw [e, strEq_zeros]; rfl, hBl12.same (s14.trans (shown_same h15)), hQ12.same (s14.trans (shown_same h15))⟩
      · have h8' : (mm : Int) ≠ 8 := h8
        exact den_leaf_eq fun w15 h15 => ⟨by rw [whole2 fun h => h8' h.2]; rfl, hBl12.same (s14.trans (shown_same h15)), hQ12.same (s14.trans (shown_same h15))⟩
      · have ha' : act = false := ha
        exact den_leaf_eq fun w15 h15 => ⟨by rw [whole2 fun h => by rw [ha'] at h; exact absurd h.1 (by decide)]; rfl, hBl12.same (s14.trans (shown_same h15)), hQ12.same (s14.trans (shown_same h15))⟩
    rintro l w15 hf15 ⟨rfl, hBl15, hQ15⟩ hk15 hfa15
    obtain ⟨p2, q2, hp2, hq2, k1, k2, _, _⟩ := hBl15.pick (j := i) (by omega)
    obtain ⟨p2', q2', hp2', hq2', k1', k2', _, _⟩ := hQ15.pick (j := i) (by omega)
    obtain rfl : p = p2 := Option.some.inj (hp1.symm.trans hp2)
    obtain rfl : q = q2 := Option.some.inj (hq1.symm.trans hq2)
    obtain rfl : p' = p2' := Option.some.inj (hp1'.symm.trans hp2')
    obtain rfl : (q.1, pad mm (q.2.take mv)) = q2' := Option.some.inj (hq1'.symm.trans hq2')
    have l10' : b10 < w0.heap.size := l10
    refine den_norm (by simp only [List.cons_append, List.nil_append]; rfl) ?_
    intro w16 h16
    refine ⟨fun b => b = b10, fun b hin => (by simp [BlkIn, nth, blkOf, vaddr] at hin; exact hin.symm), ?_⟩
    have s16 := shown_same h16
    have oldO : ∀ ad, vaddr (.slice oa LV.length oc) = some ad → ¬ (ad.block = b10) := fun ad had e => by have := hBl15.at_ ad had; omega
    have oldQ : ∀ ad, vaddr (.slice qa LQ.length qc) = some ad → ¬ (ad.block = b10) := fun ad had e => by have := hQ15.at_ ad had; omega
    obtain ⟨_, _, e1, e2⟩ := hBl15.each i p q hp1 hq1
    obtain ⟨_, _, e1', e2'⟩ := hQ15.each i p' _ hp1' hq1'
    refine den_idxD (E := bvE) (L := LQ) p' i [p'.1.v] rfl (by decide) rfl hp1' ⟨⟨_, _, _, rfl⟩, trivial⟩ (fun m v hv => by cases m with | zero => exact hv | succ m => simp at hv) (hQ15.same s16).arr oldQ (den_norm (by simp only [List.cons_append, List.nil_append]; rfl) ?_)
    refine den_str q.1 p'.1.v u40 u5 u9 rfl (k1'.same s16).1 (fun ad had _ e => by have := e1' ad had; omega) (fun v => rfl) (den_norm (by simp only [List.cons_append, List.nil_append]; rfl) ?_)
    refine den_idxD2 (E := bvE) (L := LV) p i [p.1.v] rfl (by decide) rfl hp1 ⟨⟨_, _, _, rfl⟩, trivial⟩ (fun m v hv => by cases m with | zero => exact hv | succ m => simp at hv) (hBl15.same s16).arr oldO (den_norm (by simp only [List.cons_append, List.nil_append]; rfl) ?_)
    refine den_str q.1 p.1.v u40 u5 u9 rfl (k1.same s16).1 (fun ad had _ e => by have := e1 ad had; omega) (fun v => rfl) (den_norm (by simp only [List.cons_append, List.nil_append]; rfl) ?_)
    refine den_strNe q.1 q.1 rfl rfl (fun v => rfl) ?_
    rw [strEq_refl]
    refine den_norm (by simp only [List.cons_append, List.nil_append]; rfl) (den_split_false rfl ?_)
    refine den_idxD2 (E := bvE) (L := LQ) p' i [p'.2.v] rfl (by decide) rfl hp1' ⟨⟨_, _, _, rfl⟩, trivial⟩ (fun m v hv => by cases m with | zero => exact hv | succ m => simp at hv) (hQ15.same s16).arr oldQ (den_norm (by simp only [List.cons_append, List.nil_append]; rfl) ?_)
    refine den_str (pad mm (q.2.take mv)) p'.2.v u40 u5 u9 rfl (k2'.same s16).1 (fun ad had _ e => by have := e2' ad had; omega) (fun v => rfl) (den_norm (by simp only [List.cons_append, List.nil_append]; rfl) ?_)
    refine den_strNe (pad mm (q.2.take mv)) (pad mm (q.2.take mv)) rfl rfl (fun v => rfl) ?_
    rw [strEq_refl]
    refine den_norm (by simp only [List.cons_append, List.nil_append]; rfl) (den_split_false rfl ?_)
    refine den_ob64 (by simp only [IE.den, nth, vint]; omega) (den_leaf' fun w17 h17 => (if_pos rfl).mpr ⟨⟨i + 1, by simp [SV.den, denL, IE.den, BE.den, nth, vint, vbool, vaddr, addO, addr_add], by omega, hBl15.same (s16.trans (shown_same h17)), hQ15.same (s16.trans (shown_same h17))⟩, ?_⟩)
    simp [SV.den, denL, IE.den, BE.den, nth, vint, vbool, vaddr, addO, addr_add]
    omega
  have hpr := per_range hf
  obtain ⟨pp, hpp⟩ : ∃ k : Nat, per zz mm x t fi = k := ⟨(per zz mm x t fi).toNat, by omega⟩
  obtain ⟨kk, hkk⟩ : ∃ k : Nat, (if (pp : Int) < (nn : Int) then (pp : Int) else (nn : Int)) = k := ⟨if pp < nn then pp else nn, by split <;> split <;> omega⟩
  have hkn : kk ≤ nn ∧ kk ≤ pp := by split at hkk <;> omega
  have hLk : (L.take kk).length = kk := by rw [List.length_take]; omega
  have hLqk : ∀ q ∈ L.take kk, q.1.length = zz ∧ q.2.length = mm := fun q hq => hLq q (List.mem_of_mem_take hq)
  refine den_call_int (x := (pp : Int)) (fun w13 h13 => (c16 zz mm x t fi w13).to (by rw [hpp])) rfl (fun w13 w14 h13 h14 => den_norm (by simp only [List.cons_append, List.nil_append]; rfl) ?_)
  refine den_start1 fun w15 h15 => ?_
  have hBl15 := ((hBl12.same (shown_same h13)).same h14).same (shown_same h15)
  refine den_slice oa LV.length oc none (some (kk : Int)) none 0 kk oc 2 u42 st70 (fun ρ h => h.1) (fun _ _ => rfl) (fun ρ h => congrArg some (h.2.1.trans (by rw [← hkk]; rfl))) (fun _ _ => rfl) (.inl ⟨rfl, rfl⟩) (.inr ⟨rfl, by omega⟩) (.inl ⟨rfl, rfl⟩) (fun _ => rfl) ?_
  rw [sliced00]
  have hT15 := hBl15.take (k := kk) (by omega) (by omega)
  have hpk : pkOk zz mm x t fi (L.take kk) = true := by
    have e1 : fitsB zz mm (L.take kk) = true := List.all_eq_true.2 fun q hq => by
      have := hLqk q hq
      simp only [Bool.and_eq_true, decide_eq_true_eq]
      omega
    unfold pkOk
    rw [hf, e1, hpp, hLk, decide_eq_true (by omega)]
    rfl
  have hfitk : (L.take kk).length * (zz + mm) ≤ 4160 := by
    rw [hLk]
    have h1 := per_fit hf (j := pp - 1) (by omega)
    rw [← Nat.succ_mul, show (pp - 1).succ = pp by omega] at h1
    exact Nat.le_trans (Nat.mul_le_mul_right _ hkn.2) h1
  have hSl : (pad 4160 (catB (L.take kk))).length = 4160 := pad_len (by rw [catB_length hLqk]; exact hfitk)
  have hSU : ∀ (i : Nat) q, (L.take kk)[i]? = some q → blkU zz mm (pad 4160 (catB (L.take kk))) i = q := fun i q hq => blkU_pack hLqk hq
  generalize hS : pad 4160 (catB (L.take kk)) = S at hSl hSU
  refine den_norm (by simp only [List.cons_append, List.nil_append]; rfl) ?_
  refine den_callR (fun w1 l w2 => ∃ a c, l = [.slice a S.length c, .int .i64 0] ∧ Mine byteE 5 w2 (.slice a S.length c) S) (fun wa ha => (c30 zz mm x t fi _ (LV.take kk) (L.take kk) wa ((hT15.mono (Nat.zero_le _)).same (shown_same ha)) (by rw [hLk]; omega)).mono fun v w2 hP => ?_) ?_
  · obtain ⟨s, rfl, hM, _⟩ := hP
    rw [if_pos hpk, hS] at hM
    obtain ⟨a, c, e1⟩ := hM.slice
    subst e1
    exact ⟨[.slice a S.length c, .int .i64 0], ⟨⟨_, _, _, rfl⟩, ⟨_, rfl⟩, trivial⟩, by rw [if_pos hpk]; rfl, a, c, rfl, hM⟩
  rintro wa l wb ha _ ⟨a3, c3, rfl, hMb⟩ sab
  have hBlb := (hBl15.same (shown_same ha)).same sab
  have hU0 : upE zz mm x t fi S.length = 0 := by
    unfold upE
    rw [if_pos hf, hSl]
    rfl
  have hUL : upL zz mm x t fi S = (List.range pp).map (blkU zz mm S) := by
    unfold upL
    rw [if_pos hU0, hpp]
    rfl
  refine den_norm (by simp only [List.cons_append, List.nil_append]; rfl) ?_
  refine den_callR (fun w1 l w2 => ∃ a LU c, l = [.slice a LU.length c, .int .i64 0] ∧ Blks w1.heap.size w2 (.slice a LU.length c) LU ((List.range pp).map (blkU zz mm S)) ∧ LU.length ≤ c) (fun wc hc => (c32 zz mm x t fi _ S wc (hMb.same (shown_same hc)).given).mono fun v w2 hP => ?_) ?_
  · obtain ⟨a, LU, c, rfl, hB, hcap⟩ := hP.fits'
    rw [hUL] at hB
    exact ⟨[.slice a LU.length c, .int .i64 0], ⟨⟨_, _, _, rfl⟩, ⟨_, rfl⟩, trivial⟩, by rw [hU0]; rfl, a, LU, c, rfl, hB, hcap⟩
  rintro wc l wd hc _ ⟨a4, LU, c4, rfl, hUd, hUc⟩ scd
  have hBld := (hBlb.same (shown_same hc)).same scd
  have hLU : LU.length = pp := by have := hUd.len; simpa using this
  refine den_norm (by simp only [List.cons_append, List.nil_append]; rfl) ?_
  refine den_start1 fun we he => ?_
  refine den_call_int (x := 0) (fun w _ => c18 0 w) rfl (fun w17 w18 h17 h18 => den_norm (by simp only [List.cons_append, List.nil_append]; rfl) ?_)
  refine den_call_int (x := 0) (fun w _ => c18 0 w) rfl (fun w19 w20 h19 h20 => den_norm (by simp only [List.cons_append, List.nil_append]; rfl) ?_)
  refine den_ob64 (by simp only [IE.den, nth, vint]; omega) (den_split_false rfl ?_)
  refine den_call_int (x := (pp : Int)) (fun w13 h13 => (c16 zz mm x t fi w13).to (by rw [hpp])) rfl (fun w21 w22 h21 h22 => den_norm (by simp only [List.cons_append, List.nil_append]; rfl) ?_)
  refine den_splitNot (fun h => ?_) (fun _ => ?_)
  · exfalso
    simp only [BE.den, IE.den, nth, vlen, vint] at h
    exact of_decide_eq_false h (by omega)
  refine den_slice a4 LU.length c4 none (some (kk : Int)) none 0 kk c4 2 u42 st70 (fun ρ h => h.1) (fun _ _ => rfl) (fun ρ h => congrArg some (h.2.1.trans (by rw [← hkk]; rfl))) (fun _ _ => rfl) (.inl ⟨rfl, rfl⟩) (.inr ⟨rfl, by omega⟩) (.inl ⟨rfl, rfl⟩) (fun _ => rfl) ?_
  rw [sliced00]
  refine den_norm (by simp only [List.cons_append, List.nil_append]; rfl) ?_
  refine den_slice oa LV.length oc none (some (kk : Int)) none 0 kk oc 2 u42 st70 (fun ρ h => h.1) (fun _ _ => rfl) (fun ρ h => congrArg some (h.2.1.trans (by rw [← hkk]; rfl))) (fun _ _ => rfl) (.inl ⟨rfl, rfl⟩) (.inr ⟨rfl, by omega⟩) (.inl ⟨rfl, rfl⟩) (fun _ => rfl) ?_
  rw [sliced00]
  refine den_norm (by simp only [List.cons_append, List.nil_append]; rfl) ?_
  have hUt := hUd.take (k := kk) (by omega) (by omega)
  rw [range_map_take (L := L.take kk) hLk.symm hkn.2 hSU] at hUt
  have hOt := hBld.take (k := kk) (by omega) (by omega)
  have kept22 : Same wd w22 := ((((((shown_same he).trans (shown_same h17)).trans h18).trans (shown_same h19)).trans h20).trans (shown_same h21)).trans h22
  refine den_call_bool (b := true) (fun w23 h23 => c24 _ _ _ _ _ _ (L.take kk) w23 (hUt.same (kept22.trans (shown_same h23))) (hOt.same (kept22.trans (shown_same h23))) (by rw [hLk]; omega)) rfl (fun w23 w24 h23 h24 => den_norm (by simp only [List.cons_append, List.nil_append]; rfl) (den_split_false rfl ?_))
  have oka : plOk zz mm x t fi pa = true := by unfold plOk; rw [hf, decide_eq_true ha0]; rfl
  have okb : plOk zz mm x t fi pb = true := by unfold plOk; rw [hf, decide_eq_true hb0]; rfl
  have pl := places oka okb
  refine den_call [.int .i64 (plS zz mm x t fi pa), .int .i64 (plI zz mm x t fi pa), .int .i64 0] ⟨⟨_, rfl⟩, ⟨_, rfl⟩, ⟨_, rfl⟩, trivial⟩ rfl (fun w _ => by have := c10 zz mm x t fi pa ha63 w; rw [plE_zero.2 oka] at this; exact this) (fun w25 w26 h25 h26 => den_norm (by simp only [List.cons_append, List.nil_append]; rfl) ?_)
  refine den_call [.int .i64 (plS zz mm x t fi pb), .int .i64 (plI zz mm x t fi pb), .int .i64 0] ⟨⟨_, rfl⟩, ⟨_, rfl⟩, ⟨_, rfl⟩, trivial⟩ rfl (fun w _ => by have := c10 zz mm x t fi pb hb63 w; rw [plE_zero.2 okb] at this; exact this) (fun w27 w28 h27 h28 => den_norm (by simp only [List.cons_append, List.nil_append]; rfl) ?_)
  refine den_call_int (x := 0) (fun w _ => c18 0 w) rfl (fun w29 w30 h29 h30 => den_norm (by simp only [List.cons_append, List.nil_append]; rfl) ?_)
  refine den_call_int (x := 0) (fun w _ => c18 0 w) rfl (fun w31 w32 h31 h32 => den_norm (by simp only [List.cons_append, List.nil_append]; rfl) ?_)
  refine den_ob64 (by simp only [IE.den, nth, vint]; omega) (den_split_true rfl ?_)
  refine den_splitEq (fun hS1 => ?_) (fun hS1 => ?_)
  · have hS1' : plS zz mm x t fi pa = plS zz mm x t fi pb := hS1
    refine den_split (fun h => ?_) (fun h => ?_)
    · exact den_call_bool (b := true) (fun w1 h1 => c19 w1) rfl (fun w1 w2 h1 h2 => den_leaf' fun w3 h3 => (if_neg (by decide)).mpr ⟨rfl, h3.base⟩)
    · exfalso
      simp only [BE.den, IE.den, nth, vint, beq_eq_false_iff_ne, ne_eq, eqB_eq, decide_eq_decide] at h
      exact h ⟨fun hi => pl.1 ⟨hS1', hi⟩, fun he => (pl.2 he).2⟩
  · have hS1' : plS zz mm x t fi pa ≠ plS zz mm x t fi pb := hS1
    refine den_split (fun h => ?_) (fun h => ?_)
    · exact den_call_bool (b := true) (fun w1 h1 => c19 w1) rfl (fun w1 w2 h1 h2 => den_leaf' fun w3 h3 => (if_neg (by decide)).mpr ⟨rfl, h3.base⟩)
    · exfalso
      have hne : pa ≠ pb := fun e => hS1' (pl.2 e).1
      simp [BE.den, IE.den, nth, vint, hne] at h
end Go.Proofs.Ytngemhmjpphpaaa
