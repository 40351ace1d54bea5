/- What the specification of Split returns. No conditions beyond those that each theorem names. -/
import Derived.Test.YtngemhmjpphpaaaEC
set_option maxRecDepth 100000
set_option maxHeartbeats 4000000
set_option linter.unusedVariables false
set_option linter.unusedSimpArgs false
namespace Go.Proofs.Ytngemhmjpphpaaa
open Go.Sx

/-- a slice of blocks that grows -/
structure Grow (lo : Nat) (w : World) (out : Value) (LV : List (Sl × Sl)) (F : Nat → Bl) : Prop where
  mine : Mine bvE 70 w out LV
  lv : ∀ g, out.ownBlock = some g → lo ≤ g
  each : ∀ (i : Nat) p, LV[i]? = some p → BlkIs lo w p (F i) ∧ ∀ g, out.ownBlock = some g → p.1.v.ownBlock ≠ some g ∧ p.2.v.ownBlock ≠ some g
theorem Grow.kept {lo : Nat} {w w' : World} {out : Value} {LV : List (Sl × Sl)} {F : Nat → Bl} {M : Nat → Prop} (h : Grow lo w out LV F) (hk : Kept M w w') (hM : ∀ b, lo ≤ b → b < w.heap.size → ¬ M b) : Grow lo w' out LV F :=
  ⟨h.mine.kept hk fun g hg => hM g (h.lv g hg) (h.mine.lt hg), h.lv, fun i p hp => ⟨(h.each i p hp).1.kept hk hM, (h.each i p hp).2⟩⟩
theorem Grow.same {lo : Nat} {w w' : World} {out : Value} {LV : List (Sl × Sl)} {F : Nat → Bl} (h : Grow lo w out LV F) (hk : Same w w') : Grow lo w' out LV F := h.kept hk fun _ _ _ h => h
/-- one block more -/
theorem Grow.push {lo : Nat} {w w' : World} {out out' : Value} {LV : List (Sl × Sl)} {F : Nat → Bl} {p : Sl × Sl} (h : Grow lo w out LV F) (hlo : lo ≤ w.heap.size) (hp : BlkIs lo w p (F LV.length)) (hne : ∀ g, out.ownBlock = some g → p.1.v.ownBlock ≠ some g ∧ p.2.v.ownBlock ≠ some g)
    (hk : Kept (fun b => out.ownBlock = some b ∧ 0 < vcap out) w w') (hm : Mine bvE 70 w' out' (LV ++ [p])) (hfr : (out'.ownBlock = out.ownBlock ∧ vcap out' = vcap out) ∨ ∃ b, out'.ownBlock = some b ∧ w.heap.size ≤ b ∧ vcap out < LV.length + 1) : Grow lo w' out' (LV ++ [p]) F := by
  have own : ∀ {q : Sl × Sl} {D : Bl}, BlkIs lo w q D → (∀ g, out.ownBlock = some g → q.1.v.ownBlock ≠ some g ∧ q.2.v.ownBlock ≠ some g) → BlkIs lo w' q D ∧ ∀ g, out'.ownBlock = some g → q.1.v.ownBlock ≠ some g ∧ q.2.v.ownBlock ≠ some g := by
    intro q D hq hn
    refine ⟨⟨hq.d.kept hk fun g hg hb => (hn g hb.1).1 hg, hq.m.kept hk fun g hg hb => (hn g hb.1).2 hg, hq.ld, hq.lm⟩, fun g hg => ?_⟩
    rcases hfr with ⟨e, _⟩ | ⟨b, e, hb, _⟩
    · rw [e] at hg; exact hn g hg
    · rw [e] at hg
      cases hg
      refine ⟨fun e2 => ?_, fun e2 => ?_⟩
      · have := hq.d.lt e2; omega
      · have := hq.m.lt e2; omega
  refine ⟨hm, fun g hg => ?_, fun i q hq => ?_⟩
  · rcases hfr with ⟨e, _⟩ | ⟨b, e, hb, _⟩
    · rw [e] at hg; exact h.lv g hg
    · rw [e] at hg; cases hg; omega
  · by_cases hi : i < LV.length
    · rw [List.getElem?_append_left hi] at hq
      obtain ⟨h1, h2⟩ := h.each i q hq
      exact own h1 h2
    · rw [List.getElem?_append_right (by omega)] at hq
      have hi2 : i - LV.length = 0 := by
        have := (List.getElem?_eq_some_iff.1 hq).1
        simp at this
        omega
      rw [hi2] at hq
      cases hq
      rw [show i = LV.length by omega]
      exact own hp hne
theorem Grow.blks {lo : Nat} {w : World} {out : Value} {LV : List (Sl × Sl)} {F : Nat → Bl} {n : Nat} (h : Grow lo w out LV F) (hn : LV.length = n) : Blks lo w out LV ((List.range n).map F) := by
  refine BlksNew.blks ⟨h.mine, h.lv, by simp [hn], fun i p q hp hq => ?_⟩
  have hi : i < n := by rw [← hn]; exact (List.getElem?_eq_some_iff.1 hp).1
  simp only [List.getElem?_map, List.getElem?_range hi, Option.map_some, Option.some.injEq] at hq
  subst hq
  exact (h.each i p hp).1
theorem grow_nil {lo : Nat} {w : World} {F : Nat → Bl} : Grow lo w (.slice none 0 0) [] F := ⟨Mine.nil, fun g hg => (by cases hg), fun i p hp => by simp at hp⟩

theorem c22 (z m : Int) (x : Bool) (t : Int) (fi : Bool) (n : Int) (act : Bool) (sd sm : Value) (D M : List Int) (w : World) (hd : Given byteE w sd D) (hm : Given byteE w sm M) :
    GivesR Try.prog 22 [fmtV z m x t fi, .int .i64 n, .bool act, sd, sm] w (fun v w' => SR w.heap.size z m x t fi n act D M v w') := by
  obtain ⟨da, dc, rfl⟩ := hd.1.slice
  obtain ⟨ma, mc, rfl⟩ := hm.1.slice
  have hdc : D.length ≤ dc := hd.2.2.1
  have hmc : M.length ≤ mc := hm.2.2.1
  refine givesR mix t22 rfl rfl (ε := [.int .i64 z, .int .i64 m, .bool x, .int .i64 t, .bool fi, .int .i64 n, .bool act, .slice da D.length dc, .slice ma M.length mc]) ⟨⟨_, rfl⟩, ⟨_, rfl⟩, ⟨_, rfl⟩, ⟨_, rfl⟩, ⟨_, rfl⟩, ⟨_, rfl⟩, ⟨_, rfl⟩, ⟨_, _, _, rfl⟩, ⟨_, _, _, rfl⟩, trivial⟩ (den_blk fun b9 k9 _ _ => den_norm (by simp only [List.cons_append, List.nil_append]; rfl) ?_)
  have z9 : w.heap.size ≤ b9 := k9
  refine den_call [.int .i64 (leA z m x t fi n act), .int .i64 (leB z m x t fi n act), .int .i64 (leE z m x t fi n act)] ⟨⟨_, rfl⟩, ⟨_, rfl⟩, ⟨_, rfl⟩, trivial⟩ rfl (fun w1 h1 => c20 z m x t fi n act w1) (fun w1 w2 h1 h2 => den_norm (by simp only [List.cons_append, List.nil_append]; rfl) (den_splitNot (fun he => ?_) (fun he => ?_)))
  · have hlok : lOk z m x t fi n act = false := by
      cases hq : lOk z m x t fi n act with
      | false => rfl
      | true => simp [BE.den, IE.den, nth, vint, leE, hq] at he
    have e2 : spE z m x t fi n act D.length M.length = 2 := by simp [spE, hlok]
    exact den_leafR _ rfl fun w3 h3 => sr_no (by rw [e2]; decide) _ (by rw [e2]; simp [SV.den, denL, IE.den, BE.den, nth, vint, vbool, vaddr, addO, addr_add, leE, hlok])
  have h : lOk z m x t fi n act = true := by
    cases hq : lOk z m x t fi n act with
    | true => rfl
    | false => simp [BE.den, IE.den, nth, vint, leE, hq] at he
  have hp := lOk_parts h
  have hf := fOk_parts hp.1
  have hmr := mvd_range (act := act) hf.2
  have eA : leA z m x t fi n act = lenA z x (mvd m act) n := by simp [leA, h]
  have eB : leB z m x t fi n act = lenB x (mvd m act) n := by simp [leB, h]
  have hsp : spE z m x t fi n act D.length M.length = (if exE D.length (lenA z x (mvd m act) n) = 0 then exE M.length (lenB x (mvd m act) n) else exE D.length (lenA z x (mvd m act) n)) := by simp [spE, h]
  clear he
  rw [eA, eB]
  refine den_splitLt (fun e1 => ?_) (fun e1 => den_splitLt (fun e2 => ?_) (fun e2 => den_splitLt (fun e3 => ?_) (fun e3 => den_splitLt (fun e4 => ?_) (fun e4 => ?_))))
  · have e1' : (D.length : Int) < lenA z x (mvd m act) n := e1
    have e5 : spE z m x t fi n act D.length M.length = 4 := by rw [hsp]; simp [exE, e1']
    exact den_leafR _ rfl fun w3 h3 => sr_no (by rw [e5]; decide) _ e5.symm
  · have e1' : lenA z x (mvd m act) n ≤ (D.length : Int) := e1
    have e2' : lenA z x (mvd m act) n < (D.length : Int) := e2
    have e5 : spE z m x t fi n act D.length M.length = 5 := by rw [hsp]; simp [exE, e2', Int.not_lt.2 e1']
    exact den_leafR _ rfl fun w3 h3 => sr_no (by rw [e5]; decide) _ e5.symm
  · have e1' : lenA z x (mvd m act) n ≤ (D.length : Int) := e1
    have e2' : (D.length : Int) ≤ lenA z x (mvd m act) n := e2
    have e3' : (M.length : Int) < lenB x (mvd m act) n := e3
    have e5 : spE z m x t fi n act D.length M.length = 4 := by rw [hsp]; simp [exE, e3', Int.not_lt.2 e1', Int.not_lt.2 e2']
    exact den_leafR _ rfl fun w3 h3 => sr_no (by rw [e5]; decide) _ e5.symm
  · have e1' : lenA z x (mvd m act) n ≤ (D.length : Int) := e1
    have e2' : (D.length : Int) ≤ lenA z x (mvd m act) n := e2
    have e3' : lenB x (mvd m act) n ≤ (M.length : Int) := e3
    have e4' : lenB x (mvd m act) n < (M.length : Int) := e4
    have e5 : spE z m x t fi n act D.length M.length = 5 := by rw [hsp]; simp [exE, e4', Int.not_lt.2 e1', Int.not_lt.2 e2', Int.not_lt.2 e3']
    exact den_leafR _ rfl fun w3 h3 => sr_no (by rw [e5]; decide) _ e5.symm
  have hA : (D.length : Int) = lenA z x (mvd m act) n := Int.le_antisymm e2 e1
  have hB : (M.length : Int) = lenB x (mvd m act) n := Int.le_antisymm e4 e3
  have hs0 : spE z m x t fi n act D.length M.length = 0 := by rw [hsp, hA, hB]; simp [exE]
  clear e1 e2 e3 e4 hsp
  obtain ⟨nn, rfl⟩ : ∃ k : Nat, n = k := ⟨n.toNat, by omega⟩
  obtain ⟨zz, rfl⟩ : ∃ k : Nat, z = k := ⟨z.toNat, by omega⟩
  obtain ⟨mm, rfl⟩ : ∃ k : Nat, m = k := ⟨m.toNat, by omega⟩
  generalize hmv : mvd (mm : Int) act = mv0 at *
  obtain ⟨mv, rfl⟩ : ∃ k : Nat, mv0 = k := ⟨mv0.toNat, by omega⟩
  have hmvm : mv ≤ mm := by
    have : mvd (mm : Int) act ≤ mm := by unfold mvd; split <;> omega
    omega
  have hspl : splL zz mm x t fi nn act D M = (List.range nn).map (blkAt zz mm mv x D M) := by
    unfold splL
    rw [if_pos hs0, hmv]
    simp
  have hb5 : (Try.t5.bytes : Int) * (mm : Nat) ≤ 281474976710656 := by
    have q1 : (Try.t5.bytes : Int) ≤ 1000 := by have := by5; omega
    have q2 : (Try.t5.bytes : Int) * (mm : Nat) ≤ 1000 * 64 := Int.mul_le_mul q1 (by omega) (by omega) (by omega)
    exact Int.le_trans q2 (by decide)
  have hDM : D.length ≤ 272629760 ∧ M.length ≤ 272629760 := by
    have q1 := mul_range (n := (nn : Int)) (a := (zz : Int) + mv) hp.2.1 hp.2.2.1 (by omega) (by omega)
    have q2 := mul_range (n := (nn : Int)) (a := (zz : Int)) hp.2.1 hp.2.2.1 (by omega) (by omega)
    have q3 := mul_range (n := (nn : Int)) (a := (mv : Int)) hp.2.1 hp.2.2.1 (by omega) (by omega)
    unfold lenA at hA
    unfold lenB at hB
    cases x <;> simp only [if_true, Bool.false_eq_true, if_false] at hA hB <;> omega
  refine den_call_int (x := (mv : Int)) (fun w3 h3 => (c25 zz mm x t fi act w3).to (by rw [hmv])) rfl fun w3 w4 h3 h4 => den_norm (by simp only [List.cons_append, List.nil_append]; rfl) ?_
  have z4 : w.heap.size ≤ w4.heap.size := Nat.le_trans h3.base.size h4.size
  have l9 : b9 < w4.heap.size := Nat.lt_of_lt_of_le (h3.lt (i := 9) (by simp [keys]) rfl) h4.size
  refine den_loop (fun ls w' => ∃ (j : Nat) (out : Value) (LV : List (Sl × Sl)), ls = [.int .i64 j, out] ∧ w4.heap.size ≤ w'.heap.size ∧ j ≤ nn ∧ LV.length = j ∧ Grow w4.heap.size w' out LV (blkAt zz mm mv x D M)) (fun ls _ => nn - (vint (nth ls 0)).toNat) (fun w5 h5 => ⟨0, _, [], rfl, h5.kept.size, Nat.zero_le _, rfl, grow_nil⟩) ?_
  rintro w5 l w6 h5 hfl ⟨j, out, LV, rfl, z46, hj, hLn, hG⟩ hk6 hfa6
  obtain ⟨oa, oc, hov⟩ := hG.mine.slice
  refine den_norm (by simp only [List.cons_append, List.nil_append]; rfl) (den_splitLt (fun hlt => ?_) (fun hge => ?_))
  · have hjn : j < nn := by have h' : (j : Int) < nn := hlt
                            omega
    refine den_make (n := mm) u40 i5 z5 rfl rfl hb5 (by omega) (fun v => rfl) (fun w7 bm w8 h7 hbm hhm h78 => den_norm (by simp only [List.cons_append, List.nil_append]; rfl) ?_)
    have hM8 : Mine byteE 5 w8 (.slice (some ⟨bm, 0, none⟩) mm mm) (List.replicate mm (0 : Int)) := mine_zeros (by omega) hhm
    have hG7 := hG.same (shown_same h7)
    have z67 : w6.heap.size ≤ w7.heap.size := h7.kept.size
    have l97 : b9 < w7.heap.size := h7.lt (i := 9) (by simp [keys]) rfl
    have zw7 : w.heap.size ≤ w7.heap.size := h7.base.size
    refine den_blk fun b17 k17 _ k170 => den_norm (by simp only [List.cons_append, List.nil_append]; rfl) ?_
    have z17 : w.heap.size ≤ b17 := k170
    have lm8 : bm < w8.heap.size := hM8.lt rfl
    have nm17 : bm ≠ b17 := by omega
    have nm9 : bm ≠ b9 := by omega
    have hoM : ∀ g, out.ownBlock = some g → g < w7.heap.size := fun g hg => (hG.same (shown_same h7)).mine.lt hg
    refine den_cut (fun ls w' => ∃ p : Sl × Sl, ls = [p.1.v, p.2.v] ∧ Grow w4.heap.size w' out LV (blkAt zz mm mv x D M) ∧ Mine byteE 5 w' p.1.v (blkAt zz mm mv x D M j).1 ∧ Mine byteE 5 w' p.2.v (blkAt zz mm mv x D M j).2 ∧ (∀ g, p.1.v.ownBlock = some g → w7.heap.size ≤ g) ∧ (∀ g, p.2.v.ownBlock = some g → w7.heap.size ≤ g) ∧ w7.heap.size ≤ w'.heap.size) ?_ ?_
    · refine den_split (fun hx => ?_) (fun hx => ?_)
      · have hx' : x = true := hx
        subst hx'
        have hlen : D.length = nn * (zz + mv) := by
          have : lenA (zz : Int) true (mv : Int) (nn : Int) = ((nn * (zz + mv) : Nat) : Int) := by simp [lenA]
          rw [this] at hA
          exact_mod_cast hA
        have hkl : j * (zz + mv) + (zz + mv) ≤ D.length := by rw [hlen, ← Nat.succ_mul]; exact Nat.mul_le_mul_right _ hjn
        have eat : (j : Int) * ((zz : Int) + (mv : Int)) = ((j * (zz + mv) : Nat) : Int) := by push_cast; rfl
        have hblk : blkAt zz mm mv true D M j = ((D.drop (j * (zz + mv))).take zz, pad mm ((D.drop (j * (zz + mv) + zz)).take mv)) := rfl
        rw [hblk]
        generalize j * (zz + mv) = at0 at hkl eat
        refine den_ob64 (by simp only [IE.den, nth, vint]; omega) (den_ob64 (by simp only [IE.den, nth, vint]; rw [eat]; omega) ?_)
        intro w9 h9
        refine ⟨fun _ => True, fun _ _ => trivial, ?_⟩
        refine den_ob64 (by simp only [IE.den, nth, vint]; rw [eat]; omega) ?_
        refine den_slice da D.length dc (some (at0 : Int)) (some ((at0 + zz : Nat) : Int)) none at0 (at0 + zz) dc 1 u40 st5 (fun ρ h => h.1) (fun ρ h => congrArg some (h.2.1.trans (by simp only [SV.den, IE.den, nth, vint]; rw [eat]))) (fun ρ h => congrArg some (h.2.2.1.trans (by simp only [SV.den, IE.den, nth, vint]; rw [eat]; push_cast; rfl))) (fun _ _ => rfl) (.inl ⟨rfl, rfl⟩) (.inr ⟨rfl, by omega⟩) (.inr ⟨rfl, by omega⟩) (fun _ => rfl) (den_norm (by simp only [List.cons_append, List.nil_append]; rfl) ?_)
        have hM9 := hM8.kept h9.kept fun g hg hin => by cases hg; exact nm17 (by simpa [BlkIn, nth, blkOf, vaddr] using hin : b17 = bm).symm
        refine den_appendL (E := byteE) (T := 5) rfl u40 i5 z5 s5 rfl (by decide) by5 byte_one (.slice none 0 0) (sliced da at0 (at0 + zz) dc 1) [] ((D.take (at0 + zz)).drop at0) rfl rfl (sliced_nil (n := D.length) (c := dc) (fun n' c' e => hd.2.1 n' c' e) (by omega) (Nat.le_refl _)) (by rw [List.length_drop, List.length_take]; simp; omega) (fun g hg _ => by cases hg) (by simp [keys]) (fun w10 h10 => ⟨Mine.nil, Arr.sub (E := byteE) (hd.same h10.base).1 (by omega) (by omega) (by omega)⟩) (fun g hg _ => by cases hg) (fun _ _ hg _ => trivial) (fun _ => rfl) (fun w10 d w11 h10 hd11 k11 hfr11 hap11 => den_norm (by simp only [List.cons_append, List.nil_append]; rfl) ?_)
        rw [List.nil_append, List.drop_take, Nat.add_sub_cancel_left] at hd11
        have hS11 : Same w10 w11 := k11.mono fun b _ hb => by cases hb.1
        have hM11 := (hM9.same (shown_same h10)).same hS11
        have od11 : ∀ g, d.ownBlock = some g → w10.heap.size ≤ g := fun g hg => by
          rcases hfr11 with ⟨e, _⟩ | ⟨b, e, hb, _⟩
          · rw [e] at hg; cases hg
          · rw [e] at hg; cases hg; exact hb
        have z89 : w8.heap.size ≤ w9.heap.size := h9.kept.size
        have z910 : w9.heap.size ≤ w10.heap.size := h10.kept.size
        have l17 : b17 < w10.heap.size := h10.lt (i := 17) (by simp [keys]) rfl
        intro w12 h12
        refine ⟨fun _ => True, fun _ _ => trivial, ?_⟩
        have hM12 := hM11.kept h12.kept fun g hg hin => by cases hg; exact nm17 (by simpa [BlkIn, nth, blkOf, vaddr] using hin : b17 = bm).symm
        have hd12 := hd11.kept h12.kept fun g hg hin => by have := od11 g hg; have e : b17 = g := (by simpa [BlkIn, nth, blkOf, vaddr] using hin); omega
        refine den_ob64 (by simp only [IE.den, nth, vint]; rw [eat]; omega) (den_ob64 (by simp only [IE.den, nth, vint]; rw [eat]; omega) (den_ob64 (by simp only [IE.den, nth, vint]; rw [eat]; omega) ?_))
        refine den_slice da D.length dc (some ((at0 + zz : Nat) : Int)) (some ((at0 + zz + mv : Nat) : Int)) none (at0 + zz) (at0 + zz + mv) dc 1 u40 st5 (fun ρ h => h.1) (fun ρ h => congrArg some (h.2.1.trans (by simp only [SV.den, IE.den, nth, vint]; rw [eat]; push_cast; rfl))) (fun ρ h => congrArg some (h.2.2.1.trans (by simp only [SV.den, IE.den, nth, vint]; rw [eat]; push_cast; rfl))) (fun _ _ => rfl) (.inl ⟨rfl, rfl⟩) (.inr ⟨rfl, by omega⟩) (.inr ⟨rfl, by omega⟩) (fun _ => rfl) (den_norm (by simp only [List.cons_append, List.nil_append]; rfl) ?_)
        have hl2 : ((D.drop (at0 + zz)).take mv).length = mv := by rw [List.length_take, List.length_drop]; omega
        refine den_copyM (T := 5) rfl u40 st5 bm mm mm (List.replicate mm (0 : Int)) (.slice (some ⟨bm, 0, none⟩) mm mm) 0 mm mm rfl (.inl rfl) (by omega) (sliced da (at0 + zz) (at0 + zz + mv) dc 1) ((D.drop (at0 + zz)).take mv) rfl (fun w13 h13 => ⟨hM12.same (shown_same h13), ?_⟩) (fun w13 h13 => ?_) (fun _ => rfl) (fun w13 w14 h13 hM14 k14 => den_norm (by simp only [List.cons_append, List.nil_append]; rfl) ?_)
        · have := Arr.sub (E := byteE) (l := (at0 + zz)) (k := (at0 + zz + mv)) (m := dc) (hd.same h13.base).1 (by omega) (by omega) (by omega)
          rw [List.drop_take, Nat.add_sub_cancel_left] at this
          exact this
        · exact ⟨fun _ => trivial, fun hlt => absurd (show bm < w.heap.size from hlt) (by omega), fun hin => (by simp [BlkIn, nth, blkOf, vaddr] at hin; omega), fun hx => (by cases hx)⟩
        rw [pad_copy (by rw [hl2]; exact hmvm)] at hM14
        obtain ⟨ca, cc, hcl⟩ := hd12.slice
        have ndm : ∀ g, d.ownBlock = some g → g ≠ bm := fun g hg e => by have := od11 g hg; omega
        have hd14 := (hd12.same (shown_same h13)).kept k14 fun g hg hb => ndm g hg hb
        have kk : Kept (fun b => w7.heap.size ≤ b) w7 w14 := (((((((h78.mono fun _ _ h => h.elim).trans (h9.kept.mono fun b _ hin => by simp [BlkIn, nth, blkOf, vaddr] at hin; omega)).trans ((shown_same h10).mono fun _ _ h => h.elim)).trans (hS11.mono fun _ _ h => h.elim)).trans (h12.kept.mono fun b _ hin => by simp [BlkIn, nth, blkOf, vaddr] at hin; omega)).trans ((shown_same h13).mono fun _ _ h => h.elim)).trans (k14.mono fun b _ hb => by omega))
        have hG14 := hG7.kept kk fun b _ hb2 h => by omega
        refine den_leaf_eq fun w15 h15 => ⟨(⟨ca, _, cc⟩, ⟨some ⟨bm, 0, none⟩, mm, mm⟩), by simp only [denL, SV.den, nth]; rw [hcl]; rfl, hG14.same (shown_same h15), ?_, hM14.same (shown_same h15), ?_, fun g hg => by cases hg; exact hbm, ?_⟩
        · have := hd14.same (shown_same h15)
          rw [hcl] at this
          exact this
        · intro g hg
          rw [← show d = Sl.v ⟨ca, _, cc⟩ from hcl] at hg
          have := od11 g hg
          omega
        · have q1 := k14.size
          have q2 : w12.heap.size ≤ w13.heap.size := h13.kept.size
          have q3 : w14.heap.size ≤ w15.heap.size := h15.kept.size
          have q4 := hS11.size
          have q5 : w11.heap.size ≤ w12.heap.size := h12.kept.size
          have q6 := h78.size
          omega
      · have hx' : x = false := hx
        subst hx'
        have hlen : D.length = nn * zz := by
          have : lenA (zz : Int) false (mv : Int) (nn : Int) = ((nn * zz : Nat) : Int) := by simp [lenA]
          rw [this] at hA
          exact_mod_cast hA
        have hlenM : M.length = nn * mv := by
          have : lenB false (mv : Int) (nn : Int) = ((nn * mv : Nat) : Int) := by simp [lenB]
          rw [this] at hB
          exact_mod_cast hB
        have hkl : j * zz + zz ≤ D.length := by rw [hlen, ← Nat.succ_mul]; exact Nat.mul_le_mul_right _ hjn
        have hkm : j * mv + mv ≤ M.length := by rw [hlenM, ← Nat.succ_mul]; exact Nat.mul_le_mul_right _ hjn
        have eat : (j : Int) * (zz : Int) = ((j * zz : Nat) : Int) := by push_cast; rfl
        have eatm : (j : Int) * (mv : Int) = ((j * mv : Nat) : Int) := by push_cast; rfl
        have eat1 : ((j : Int) + 1) * (zz : Int) = ((j * zz + zz : Nat) : Int) := by rw [Int.add_mul]; push_cast; omega
        have eatm1 : ((j : Int) + 1) * (mv : Int) = ((j * mv + mv : Nat) : Int) := by rw [Int.add_mul]; push_cast; omega
        have hblk : blkAt zz mm mv false D M j = ((D.drop (j * zz)).take zz, pad mm ((M.drop (j * mv)).take mv)) := rfl
        rw [hblk]
        generalize j * zz = at0 at hkl eat eat1
        generalize j * mv = atm at hkm eatm eatm1
        intro w9 h9
        refine ⟨fun _ => True, fun _ _ => trivial, ?_⟩
        refine den_ob64 (by simp only [IE.den, nth, vint]; rw [eat]; omega) (den_ob64 (by simp only [IE.den, nth, vint]; omega) (den_ob64 (by simp only [IE.den, nth, vint]; rw [eat1]; omega) ?_))
        refine den_slice da D.length dc (some (at0 : Int)) (some ((at0 + zz : Nat) : Int)) none at0 (at0 + zz) dc 1 u40 st5 (fun ρ h => h.1) (fun ρ h => congrArg some (h.2.1.trans (by simp only [SV.den, IE.den, nth, vint]; rw [eat]))) (fun ρ h => congrArg some (h.2.2.1.trans (by simp only [SV.den, IE.den, nth, vint]; rw [eat1]))) (fun _ _ => rfl) (.inl ⟨rfl, rfl⟩) (.inr ⟨rfl, by omega⟩) (.inr ⟨rfl, by omega⟩) (fun _ => rfl) (den_norm (by simp only [List.cons_append, List.nil_append]; rfl) ?_)
        have hM9 := hM8.kept h9.kept fun g hg hin => by cases hg; exact nm17 (by simpa [BlkIn, nth, blkOf, vaddr] using hin : b17 = bm).symm
        refine den_appendL (E := byteE) (T := 5) rfl u40 i5 z5 s5 rfl (by decide) by5 byte_one (.slice none 0 0) (sliced da at0 (at0 + zz) dc 1) [] ((D.take (at0 + zz)).drop at0) rfl rfl (sliced_nil (n := D.length) (c := dc) (fun n' c' e => hd.2.1 n' c' e) (by omega) (Nat.le_refl _)) (by rw [List.length_drop, List.length_take]; simp; omega) (fun g hg _ => by cases hg) (by simp [keys]) (fun w10 h10 => ⟨Mine.nil, Arr.sub (E := byteE) (hd.same h10.base).1 (by omega) (by omega) (by omega)⟩) (fun g hg _ => by cases hg) (fun _ _ hg _ => trivial) (fun _ => rfl) (fun w10 d w11 h10 hd11 k11 hfr11 hap11 => den_norm (by simp only [List.cons_append, List.nil_append]; rfl) ?_)
        rw [List.nil_append, List.drop_take, Nat.add_sub_cancel_left] at hd11
        have hS11 : Same w10 w11 := k11.mono fun b _ hb => by cases hb.1
        have hM11 := (hM9.same (shown_same h10)).same hS11
        have od11 : ∀ g, d.ownBlock = some g → w10.heap.size ≤ g := fun g hg => by
          rcases hfr11 with ⟨e, _⟩ | ⟨b, e, hb, _⟩
          · rw [e] at hg; cases hg
          · rw [e] at hg; cases hg; exact hb
        have z89 : w8.heap.size ≤ w9.heap.size := h9.kept.size
        have z910 : w9.heap.size ≤ w10.heap.size := h10.kept.size
        have l17 : b17 < w10.heap.size := h10.lt (i := 17) (by simp [keys]) rfl
        intro w12 h12
        refine ⟨fun _ => True, fun _ _ => trivial, ?_⟩
        have hM12 := hM11.kept h12.kept fun g hg hin => by cases hg; exact nm17 (by simpa [BlkIn, nth, blkOf, vaddr] using hin : b17 = bm).symm
        have hd12 := hd11.kept h12.kept fun g hg hin => by have := od11 g hg; have e : b17 = g := (by simpa [BlkIn, nth, blkOf, vaddr] using hin); omega
        refine den_ob64 (by simp only [IE.den, nth, vint]; rw [eatm]; omega) (den_ob64 (by simp only [IE.den, nth, vint]; omega) (den_ob64 (by simp only [IE.den, nth, vint]; rw [eatm1]; omega) ?_))
        refine den_slice ma M.length mc (some (atm : Int)) (some ((atm + mv : Nat) : Int)) none atm (atm + mv) mc 1 u40 st5 (fun ρ h => h.1) (fun ρ h => congrArg some (h.2.1.trans (by simp only [SV.den, IE.den, nth, vint]; rw [eatm]))) (fun ρ h => congrArg some (h.2.2.1.trans (by simp only [SV.den, IE.den, nth, vint]; rw [eatm1]))) (fun _ _ => rfl) (.inl ⟨rfl, rfl⟩) (.inr ⟨rfl, by omega⟩) (.inr ⟨rfl, by omega⟩) (fun _ => rfl) (den_norm (by simp only [List.cons_append, List.nil_append]; rfl) ?_)
        have hl2 : ((M.drop atm).take mv).length = mv := by rw [List.length_take, List.length_drop]; omega
        refine den_copyM (T := 5) rfl u40 st5 bm mm mm (List.replicate mm (0 : Int)) (.slice (some ⟨bm, 0, none⟩) mm mm) 0 mm mm rfl (.inl rfl) (by omega) (sliced ma atm (atm + mv) mc 1) ((M.drop atm).take mv) rfl (fun w13 h13 => ⟨hM12.same (shown_same h13), ?_⟩) (fun w13 h13 => ?_) (fun _ => rfl) (fun w13 w14 h13 hM14 k14 => den_norm (by simp only [List.cons_append, List.nil_append]; rfl) ?_)
        · have := Arr.sub (E := byteE) (l := atm) (k := (atm + mv)) (m := mc) (hm.same h13.base).1 (by omega) (by omega) (by omega)
          rw [List.drop_take, Nat.add_sub_cancel_left] at this
          exact this
        · exact ⟨fun _ => trivial, fun hlt => absurd (show bm < w.heap.size from hlt) (by omega), fun hin => (by simp [BlkIn, nth, blkOf, vaddr] at hin; omega), fun hx => (by cases hx)⟩
        rw [pad_copy (by rw [hl2]; exact hmvm)] at hM14
        obtain ⟨ca, cc, hcl⟩ := hd12.slice
        have ndm : ∀ g, d.ownBlock = some g → g ≠ bm := fun g hg e => by have := od11 g hg; omega
        have hd14 := (hd12.same (shown_same h13)).kept k14 fun g hg hb => ndm g hg hb
        have kk : Kept (fun b => w7.heap.size ≤ b) w7 w14 := (((((((h78.mono fun _ _ h => h.elim).trans (h9.kept.mono fun b _ hin => by simp [BlkIn, nth, blkOf, vaddr] at hin; omega)).trans ((shown_same h10).mono fun _ _ h => h.elim)).trans (hS11.mono fun _ _ h => h.elim)).trans (h12.kept.mono fun b _ hin => by simp [BlkIn, nth, blkOf, vaddr] at hin; omega)).trans ((shown_same h13).mono fun _ _ h => h.elim)).trans (k14.mono fun b _ hb => by omega))
        have hG14 := hG7.kept kk fun b _ hb2 h => by omega
        refine den_leaf_eq fun w15 h15 => ⟨(⟨ca, _, cc⟩, ⟨some ⟨bm, 0, none⟩, mm, mm⟩), by simp only [denL, SV.den, nth]; rw [hcl]; rfl, hG14.same (shown_same h15), ?_, hM14.same (shown_same h15), ?_, fun g hg => by cases hg; exact hbm, ?_⟩
        · have := hd14.same (shown_same h15)
          rw [hcl] at this
          exact this
        · intro g hg
          rw [← show d = Sl.v ⟨ca, _, cc⟩ from hcl] at hg
          have := od11 g hg
          omega
        · have q1 := k14.size
          have q2 : w12.heap.size ≤ w13.heap.size := h13.kept.size
          have q3 : w14.heap.size ≤ w15.heap.size := h15.kept.size
          have q4 := hS11.size
          have q5 : w11.heap.size ≤ w12.heap.size := h12.kept.size
          have q6 := h78.size
          omega
    rintro l w16 hf16 ⟨p, rfl, hG16, hd16, hm16, od, om, zw16⟩ hk16 hfa16
    have l17' : b17 < w16.heap.size := by
      obtain ⟨b', hb', hlt'⟩ := hfa16.1.lt
      cases hb'
      exact hlt'
    refine den_norm (by simp only [List.cons_append, List.nil_append]; rfl) (den_blk fun b20 k20 _ _ => den_norm (by simp only [List.cons_append, List.nil_append]; rfl) ?_)
    have hop : ∀ g, out.ownBlock = some g → p.1.v.ownBlock ≠ some g ∧ p.2.v.ownBlock ≠ some g := fun g hg => by
      have := hoM g hg
      refine ⟨fun e => ?_, fun e => ?_⟩
      · have := od g e; omega
      · have := om g e; omega
    have h47 : w4.heap.size ≤ w7.heap.size := by
      exact Nat.le_trans z46 z67
    refine den_push (E := bvE) (T := 70) rfl u42 i70 z70 s70 rfl (by decide) by70 bv_one out LV p rfl rfl rfl (by omega) (fun g hg _ => .inl (by have := hG16.lv g hg; exact Nat.le_trans z4 this)) (by simp [keys]) (fun w17 h17 => (hG16.same (shown_same h17)).mine) ?_ (fun hd => by cases hd) (fun _ => rfl) (fun w17 out' w18 h17 ho18 k18 hfr18 hap18 => den_norm (by simp only [List.cons_append, List.nil_append]; rfl) ?_)
    · intro g hg _ hin
      have q1 := hoM g hg
      have q2 := hG16.lv g hg
      simp [BlkIn, nth, blkOf, vaddr] at hin
      omega
    have hG17 := hG16.same (shown_same h17)
    have hG18 := hG17.push (by have := hG17; have q : w16.heap.size ≤ w17.heap.size := h17.kept.size; omega) (p := p) ⟨by rw [hLn]; exact hd16.same (shown_same h17), by rw [hLn]; exact hm16.same (shown_same h17), fun g hg => Nat.le_trans h47 (od g hg), fun g hg => Nat.le_trans h47 (om g hg)⟩ hop k18 ho18 hfr18
    refine den_ob64 (by simp only [IE.den, nth, vint]; omega) (den_leaf' fun w19 h19 => (if_pos rfl).mpr ⟨⟨j + 1, out', LV ++ [p], by simp [SV.den, denL, IE.den, BE.den, nth, vint, vbool, vaddr, addO, addr_add], Nat.le_trans (Nat.le_trans h47 zw16) (Nat.le_trans h17.kept.size (Nat.le_trans k18.size h19.kept.size)), by omega, by simp [hLn], hG18.same (shown_same h19)⟩, ?_⟩)
    simp [SV.den, denL, IE.den, BE.den, nth, vint, vbool, vaddr, addO, addr_add]
    omega
  · have hjn : j = nn := by have h' : (nn : Int) ≤ j := hge
                            omega
    refine den_leaf' fun w7 h7 => (if_neg (by decide)).mpr ⟨_, rfl, ⟨out, LV, by simp [SV.den, denL, IE.den, BE.den, nth, vint, vbool, vaddr, addO, addr_add, hs0], ?_⟩, h7.base⟩
    rw [hspl]
    have hB := (hG.same (shown_same h7)).blks (n := nn) (by omega)
    exact ⟨hB.arr, hB.len, fun ad had => Nat.le_trans z4 (hB.at_ ad had), fun i p q hp hq => by
      obtain ⟨q1, q2, q3, q4⟩ := hB.each i p q hp hq
      exact ⟨q1, q2, fun ad had => Nat.le_trans z4 (q3 ad had), fun ad had => Nat.le_trans z4 (q4 ad had)⟩⟩
end Go.Proofs.Ytngemhmjpphpaaa
