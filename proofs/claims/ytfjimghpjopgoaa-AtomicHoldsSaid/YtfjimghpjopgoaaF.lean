/- What the specification's function that cuts a write into pieces returns. No conditions beyond those that each theorem names. -/
import Derived.Test.YtfjimghpjopgoaaE
set_option maxRecDepth 100000
set_option linter.unusedVariables false
set_option linter.unusedSimpArgs false
namespace Go.Proofs.Ytfjimghpjopgoaa
open Go.Sx

theorem partA_div {b o lba n j : Int} (hb : 1 ≤ b ∧ 0 ≤ o ∧ o < b) (hl : 0 ≤ lba) (hn : 1 ≤ n) (h1 : 1 ≤ j) (h2 : j ≤ partA b o lba n) :
    ((lba + j - o).tmod b = 0 → j = partA b o lba n) ∧ (j = partA b o lba n → j < n → (lba + j - o).tmod b = 0) := by
  have hx : 0 < lba - o + b := by omega
  have e : (lba - o + b).tmod b = (lba - o + b) % b := Int.tmod_eq_emod_of_nonneg (by omega)
  have hr := Int.emod_lt_of_pos (lba - o + b) (show 0 < b by omega)
  have hr0 := Int.emod_nonneg (lba - o + b) (show b ≠ 0 by omega)
  have hdm := Int.emod_add_mul_ediv (lba - o + b) b
  unfold partA at *
  rw [if_neg (by omega)] at h2 ⊢
  rw [e] at h2 ⊢
  have key : lba + j - o = ((lba - o + b) % b + j) + b * ((lba - o + b) / b - 1) := by
    rw [Int.mul_sub, Int.mul_one]
    omega
  constructor
  · intro h
    have hd : b ∣ lba + j - o := Int.dvd_of_tmod_eq_zero h
    rw [key] at hd
    have hd2 : b ∣ (lba - o + b) % b + j := (Int.dvd_add_left (Int.dvd_mul_right b _)).1 hd
    have hle := Int.le_of_dvd (by omega) hd2
    split at h2 <;> split <;> omega
  · intro h hlt
    have hj : (lba - o + b) % b + j = b := by
      split at h <;> omega
    refine Int.tmod_eq_zero_of_dvd ?_
    rw [key, hj]
    exact Int.dvd_add (Int.dvd_refl b) (Int.dvd_mul_right b _)

def tailV (lim : IE) : VC := (VC.split (BE.le (IE.sub (IE.var 12) (IE.var 10)) lim) (VC.ob (BE.le (IE.lit (-9223372036854775808)) (IE.sub (IE.var 12) (IE.var 10))) (VC.ob (BE.le (IE.sub (IE.var 12) (IE.var 10)) (IE.lit 9223372036854775807)) (VC.blk (VC.gen (Op.call { callee := Callee.builtin Builtin.append, args := { toList := [Operand.tmp 64, Operand.tmp 70] }, argTypes := { toList := [25, 25] } }) 25 [(Operand.tmp 64, SV.var 11), (Operand.tmp 70, SV.slc 13 0 1 1)] [Base.slice] (SV.var 14) [] false [] [] [13, 7] [(13, [SV.int IntKind.i64 (IE.var 10), SV.int IntKind.i64 (IE.sub (IE.var 12) (IE.var 10))]), (7, [SV.int IntKind.i64 (IE.var 0), SV.int IntKind.i64 (IE.var 1), SV.int IntKind.i64 (IE.var 2), SV.int IntKind.i64 (IE.var 3)])] (VC.leaf 1 [SV.int IntKind.i64 (IE.var 12), SV.var 14] [] [(13, [SV.int IntKind.i64 (IE.var 10), SV.int IntKind.i64 (IE.sub (IE.var 12) (IE.var 10))]), (7, [SV.int IntKind.i64 (IE.var 0), SV.int IntKind.i64 (IE.var 1), SV.int IntKind.i64 (IE.var 2), SV.int IntKind.i64 (IE.var 3)])]))))) (VC.loop 3 [SV.int IntKind.i64 (IE.var 10), SV.var 11] [Base.int IntKind.i64, Base.slice] [] [7] [(7, [SV.int IntKind.i64 (IE.var 0), SV.int IntKind.i64 (IE.var 1), SV.int IntKind.i64 (IE.var 2), SV.int IntKind.i64 (IE.var 3)])] [(7, [SV.int IntKind.i64 (IE.var 0), SV.int IntKind.i64 (IE.var 1), SV.int IntKind.i64 (IE.var 2), SV.int IntKind.i64 (IE.var 3)])] (VC.split (BE.lt (IE.var 13) (IE.var 12)) (VC.blk (VC.gen (Op.call { callee := Callee.builtin Builtin.append, args := { toList := [Operand.tmp 78, Operand.tmp 81] }, argTypes := { toList := [25, 25] } }) 25 [(Operand.tmp 78, SV.var 14), (Operand.tmp 81, SV.slc 15 0 1 1)] [Base.slice] (SV.var 16) [] false [] [] [15, 7] [(15, [SV.int IntKind.i64 (IE.var 13), SV.int IntKind.i64 (IE.lit 1)]), (7, [SV.int IntKind.i64 (IE.var 0), SV.int IntKind.i64 (IE.var 1), SV.int IntKind.i64 (IE.var 2), SV.int IntKind.i64 (IE.var 3)])] (VC.ob (BE.le (IE.lit (-9223372036854775808)) (IE.add (IE.var 13) (IE.lit 1))) (VC.ob (BE.le (IE.add (IE.var 13) (IE.lit 1)) (IE.lit 9223372036854775807)) (VC.leaf 3 [SV.int IntKind.i64 (IE.add (IE.var 13) (IE.lit 1)), SV.var 16] [] [(15, [SV.int IntKind.i64 (IE.var 13), SV.int IntKind.i64 (IE.lit 1)]), (7, [SV.int IntKind.i64 (IE.var 0), SV.int IntKind.i64 (IE.var 1), SV.int IntKind.i64 (IE.var 2), SV.int IntKind.i64 (IE.var 3)])]))))) (VC.leaf 1 [SV.int IntKind.i64 (IE.var 12), SV.var 14] [] [(7, [SV.int IntKind.i64 (IE.var 0), SV.int IntKind.i64 (IE.var 1), SV.int IntKind.i64 (IE.var 2), SV.int IntKind.i64 (IE.var 3)])]))))

abbrev env10 (u p b o lba n : Int) (power : Bool) (b7 : Nat) (c k : Bool) (from_ : Int) (s : Value) (to : Int) : List Value := [.int .i64 u, .int .i64 p, .int .i64 b, .int .i64 o, .int .i64 lba, .int .i64 n, .bool power, .pointer (some ⟨b7, 0, none⟩), .bool c, .bool k, .int .i64 from_, s, .int .i64 to]

theorem tail10 {w wx ws : World} {X : Nat → Prop} {Λ : Nat → List Value → World → Prop} {u p b o lba n n' from_ to lv : Int} {power c k : Bool} {b7 : Nat} {s : Value} {L : List (Int × Int)} (lim : IE)
    (hlim : lim.den (env10 u p b o lba n power b7 c k from_ s to) = lv) (hI : CutI w [b7] lv b o lba n wx s L from_ n') (hto : to = from_ + partA b o from_ n') (hk1 : 1 ≤ partA b o from_ n' ∧ partA b o from_ n' ≤ n') (h0 : 0 ≤ from_ ∧ to ≤ 1099511627776) (hn : n ≤ 65536)
    (hb7 : w.heap.size ≤ wx.heap.size) (hΛ : ∀ s' L' w', CutI w [b7] lv b o lba n w' s' L' to (n' - partA b o from_ n') → Kept (fun _ => False) w w' → Λ 1 [.int .i64 to, s'] w') :
    (tailV lim).den (G0 Try.prog w) Λ (env10 u p b o lba n power b7 c k from_ s to) wx ws X := by
  have hlen := hI.len; have hle := hI.le; have hat := hI.at_
  unfold tailV
  refine den_splitLe (fun h => ?_) (fun h => ?_)
  · have h' : to - from_ ≤ lv := by rw [← hlim]; exact h
    refine den_ob64 (by simp only [env10, IE.den, nth, vint]; omega) (den_blk fun b13 h13 _ _ => den_norm (by simp only [env10, List.cons_append, List.nil_append]; rfl) ?_)
    refine den_push (E := pcE) (T := 36) rfl underlying25 info36 zero36 (by kernel_rfl) (by kernel_rfl) (by decide) bytes36 one2 s L (from_, to - from_) rfl rfl rfl (by omega) (fun g hg _ => .inl (hI.own g hg).1) (by simp [keys]) (fun w1 h1 => hI.mine.kept h1.kept fun g hg hin => ?_) (fun g hg _ hin => ?_) (fun hd => by cases hd) (fun _ => rfl) ?_
    · have := (hI.own g hg).2
      simp [BlkIn, nth, blkOf, vaddr] at hin
      all_goals
        simp at this
        omega
    · have := (hI.own g hg).2
      have := hI.mine.lt hg
      simp [BlkIn, nth, blkOf, vaddr] at hin
      all_goals
        simp at *
        omega
    · intro w1 s2 w2 h1 ho hk hfr hap
      refine den_norm (by simp only [List.cons_append, List.nil_append]; rfl) (den_leaf' fun w3 h3 => ?_)
      have own2 : ∀ g, s2.ownBlock = some g → w.heap.size ≤ g ∧ g ≠ b7 ∧ g ≠ b13 := by
        intro g hg
        rcases hfr with ⟨e3, _⟩ | ⟨b', e3, hle, _⟩
        · rw [e3] at hg
          have h1 := hI.own g hg
          have h2 := hI.mine.lt hg
          simp at h1
          exact ⟨h1.1, h1.2, by omega⟩
        · rw [e3] at hg
          cases hg
          have e7 := h1.lt (i := 7) (b := b7) (by simp [keys]) rfl
          have e13 := h1.lt (i := 13) (b := b13) (by simp [keys]) rfl
          have e0 : w.heap.size ≤ w1.heap.size := h1.base.size
          exact ⟨by omega, by omega, by omega⟩
      refine hΛ s2 (L ++ chunk lv from_ (partA b o from_ n')) w3 ⟨?_, by omega, by omega, ?_, fun R hR => ?_, fun g hg => ⟨(own2 g hg).1, by simp; exact (own2 g hg).2.1⟩⟩ h3.base
      · have e : chunk lv from_ (partA b o from_ n') = [(from_, to - from_)] := by unfold chunk; rw [if_pos (by omega), show to - from_ = partA b o from_ n' from by omega]
        rw [e]
        exact ho.kept h3.kept fun g hg hin => by
          have := own2 g hg
          simp [BlkIn, nth, blkOf, vaddr] at hin
          all_goals
            omega
      · have e : chunk lv from_ (partA b o from_ n') = [(from_, to - from_)] := by unfold chunk; rw [if_pos (by omega), show to - from_ = partA b o from_ n' from by omega]
        rw [e]
        simp
        omega
      · rw [List.append_assoc]
        refine hI.cut _ (.cons (by omega) ?_)
        rw [← hto]; exact hR
  · have h' : lv < to - from_ := by rw [← hlim]; exact h
    refine den_loop (fun ls w' => ∃ (j : Int) (s' : Value), ls = [.int .i64 j, s'] ∧ from_ ≤ j ∧ j ≤ to ∧ Mine pcE 36 w' s' (L ++ singles from_ (j - from_).toNat) ∧ ∀ g, s'.ownBlock = some g → w.heap.size ≤ g ∧ g ≠ b7) (fun ls _ => (to - vint (nth ls 0)).toNat) (fun w1 h1 => ⟨from_, s, by simp [denL, SV.den, IE.den, nth, env10, vint], by omega, by omega, ?_, fun g hg => by have := hI.own g hg; simp at this; exact this⟩) ?_
    · rw [show L ++ singles from_ (from_ - from_).toNat = L from by simp [singles]]
      exact hI.mine.kept h1.kept fun g hg hin => by
        have := (hI.own g hg).2
        simp [BlkIn, nth, blkOf, vaddr] at hin
        all_goals
          simp at this
          omega
    · rintro w1 l w2 h1 hf ⟨j, s', rfl, hj1, hj2, hm, hown⟩ hk hfa
      refine den_norm (by simp only [env10, List.cons_append, List.nil_append]; rfl) (den_splitLt (fun hlt => ?_) (fun hge => ?_))
      · have hlt' : j < to := hlt
        refine den_blk fun b15 h15 _ _ => den_norm (by simp only [List.cons_append, List.nil_append]; rfl) ?_
        refine den_push (E := pcE) (T := 36) rfl underlying25 info36 zero36 (by kernel_rfl) (by kernel_rfl) (by decide) bytes36 one2 s' (L ++ singles from_ (j - from_).toNat) (j, 1) rfl rfl rfl (by simp [singles_length]; omega) (fun g hg _ => .inl (hown g hg).1) (by simp [keys]) (fun w3 h3 => hm.kept h3.kept fun g hg hin => ?_) (fun g hg _ hin => ?_) (fun hd => by cases hd) (fun _ => rfl) ?_
        · have := (hown g hg).2
          simp [BlkIn, nth, blkOf, vaddr] at hin
          all_goals
            omega
        · have := (hown g hg).2
          have := hm.lt hg
          simp [BlkIn, nth, blkOf, vaddr] at hin
          all_goals
            omega
        · intro w3 s2 w4 h3 ho hk3 hfr hap
          have own2 : ∀ g, s2.ownBlock = some g → w.heap.size ≤ g ∧ g ≠ b7 ∧ g ≠ b15 := by
            intro g hg
            rcases hfr with ⟨e3, _⟩ | ⟨b', e3, hle, _⟩
            · rw [e3] at hg
              have h1 := hown g hg
              have h2 := hm.lt hg
              exact ⟨h1.1, h1.2, by omega⟩
            · rw [e3] at hg
              cases hg
              have e7 := h3.lt (i := 7) (b := b7) (by simp [keys]) rfl
              have e15 := h3.lt (i := 15) (b := b15) (by simp [keys]) rfl
              have e0 : w.heap.size ≤ w3.heap.size := h3.base.size
              exact ⟨by omega, by omega, by omega⟩
          refine den_norm (by simp only [List.cons_append, List.nil_append]; rfl) (den_ob64 (by simp only [IE.den, nth, vint]; omega) (den_leaf' fun w5 h5 => (if_pos rfl).mpr ⟨⟨j + 1, s2, rfl, by omega, by omega, ?_, fun g hg => ⟨(own2 g hg).1, (own2 g hg).2.1⟩⟩, ?_⟩))
          · have e : (j + 1 - from_).toNat = (j - from_).toNat + 1 := by omega
            rw [e, singles_succ, ← List.append_assoc, show from_ + ((j - from_).toNat : Int) = j from by omega]
            exact ho.kept h5.kept fun g hg hin => by
              have := own2 g hg
              simp [BlkIn, nth, blkOf, vaddr] at hin
              all_goals
                omega
          · show (to - (j + 1)).toNat < (to - j).toNat
            omega
      · have hge' : to ≤ j := hge
        obtain rfl : j = to := by omega
        refine den_leaf' fun w3 h3 => (if_neg (by decide)).mpr (hΛ s' (L ++ chunk lv from_ (partA b o from_ n')) w3 ⟨?_, by omega, by omega, ?_, fun R hR => ?_, fun g hg => ⟨(hown g hg).1, by simp; exact (hown g hg).2⟩⟩ h3.base)
        · have e : chunk lv from_ (partA b o from_ n') = singles from_ (j - from_).toNat := by unfold chunk; rw [if_neg (by omega), show j - from_ = partA b o from_ n' from by omega]
          rw [e]
          exact hm.kept h3.kept fun g hg hin => by
            have := (hown g hg).2
            simp [BlkIn, nth, blkOf, vaddr] at hin
            all_goals
              omega
        · have e : chunk lv from_ (partA b o from_ n') = singles from_ (j - from_).toNat := by unfold chunk; rw [if_neg (by omega), show j - from_ = partA b o from_ n' from by omega]
          rw [e]
          simp [singles_length]
          omega
        · rw [List.append_assoc]
          refine hI.cut _ (.cons (by omega) ?_)
          rw [← hto]; exact hR

theorem c10 (u p b o lba n : Int) (power : Bool) (w : World) : GivesR Try.prog 10 [.agg #[.int .i64 u, .int .i64 p, .int .i64 b, .int .i64 o], .int .i64 lba, .int .i64 n, .bool power] w (fun v w' => ∃ s e, v = .tuple #[s, .int .i64 e] ∧
    ((cfgOk u p b o && okBlk lba n) = false ∧ s = .slice none 0 0 ∧ e = 2 ∨ (cfgOk u p b o && okBlk lba n) = true ∧ e = 0 ∧ ∃ L, Cut (limOf u p power) b o lba n L ∧ (L.length : Int) ≤ n ∧ Mine pcE 36 w' s L ∧ ∀ g, s.ownBlock = some g → w.heap.size ≤ g)) := by
  refine givesR mix t10 rfl rfl (ε := [.int .i64 u, .int .i64 p, .int .i64 b, .int .i64 o, .int .i64 lba, .int .i64 n, .bool power]) ⟨⟨_, rfl⟩, ⟨_, rfl⟩, ⟨_, rfl⟩, ⟨_, rfl⟩, ⟨_, rfl⟩, ⟨_, rfl⟩, ⟨_, rfl⟩, trivial⟩ (den_blk fun b7 h7 _ _ => ?_)
  refine den_norm (by simp only [List.cons_append, List.nil_append]; rfl) ?_
  refine den_call_bool (b := cfgOk u p b o) (fun w _ => c13 u p b o w) rfl (fun w1 w2 h1 h2 => den_norm (by simp only [List.cons_append, List.nil_append]; rfl) ?_)
  refine den_splitNot (fun h => den_leafR _ rfl fun w7 h7 => ⟨_, _, rfl, .inl ⟨by have h' : cfgOk u p b o = false := h
                                                                                  rw [h']; rfl, rfl, rfl⟩⟩) (fun hc1' => ?_)
  have hc1 : cfgOk u p b o = true := hc1'
  refine den_call_bool (b := okBlk lba n) (fun w _ => c30 lba n w) rfl (fun w3 w4 h3 h4 => den_norm (by simp only [List.cons_append, List.nil_append]; rfl) ?_)
  refine den_splitNot (fun h => den_leafR _ rfl fun w7 h7 => ⟨_, _, rfl, .inl ⟨by have h' : okBlk lba n = false := h
                                                                                  rw [h', Bool.and_false], rfl, rfl⟩⟩) (fun hc2' => ?_)
  have hc2 : okBlk lba n = true := hc2'
  have hok : (cfgOk u p b o && okBlk lba n) = true := by rw [hc1, hc2]; rfl
  have F := fine_of hc1 hc2
  have Fu := F.hu; have Fp := F.hp; have Fb := F.hb; have Fl := F.hl; have Fn := F.hn; have Ft := F.ht
  have hb'' : (b = 0 ∧ o = 0) ∨ (1 ≤ b ∧ 0 ≤ o ∧ o < b) := by omega
  refine den_split (fun hp => ?_) (fun hp => ?_)
  · have hpw : power = true := hp
    have hlim : limOf u p power = p := by rw [hpw]; rfl
    rw [hlim]
    refine den_loop (fun ls w' => ∃ from_ s L, ls = [.int .i64 from_, s] ∧ CutI w [b7] p b o lba n w' s L from_ (n - (from_ - lba)) ∧ w.heap.size ≤ w'.heap.size) (fun ls _ => (lba + n - vint (nth ls 0)).toNat) (fun w7 h8 => ⟨lba, _, [], rfl, ⟨Mine.nil, by omega, by omega, by simp, fun R hR => by rw [show n - (lba - lba) = n from by omega] at hR; simpa using hR, fun g hg => by cases hg⟩, h8.base.size⟩) ?_
    rintro w7 l w8 h8 hf ⟨from_, s, L, rfl, hI, hsz⟩ hk hfa
    have ha := hI.at_; have hle := hI.le
    refine den_norm (by simp only [List.cons_append, List.nil_append]; rfl) (den_ob64 (by simp only [IE.den, nth, vint]; omega) (den_splitLt (fun hn => ?_) (fun hn => den_leaf' fun w9 h9 => (if_neg (by decide)).mpr ?_)))
    · have hn' : from_ < lba + n := hn
      have hpb := partA_bounds (b := b) (o := o) (lba := from_) (n := n - (from_ - lba)) hb'' (by omega) (by omega)
      refine den_ob64 (by simp only [IE.den, nth, vint]; omega) ?_
      refine den_loop (fun ls w' => ∃ to : Int, ls = [.int .i64 to] ∧ from_ + 1 ≤ to ∧ to ≤ from_ + partA b o from_ (n - (from_ - lba)) ∧ Mine pcE 36 w' s L ∧ w.heap.size ≤ w'.heap.size) (fun ls _ => (from_ + partA b o from_ (n - (from_ - lba)) - vint (nth ls 0)).toNat) (fun w9 h9 => ⟨from_ + 1, rfl, by omega, by omega, ?_, h9.base.size⟩) ?_
      · exact hI.mine.kept h9.kept fun g hg hin => by
          have := (hI.own g hg).2
          simp [BlkIn, nth, blkOf, vaddr] at hin
          all_goals
            simp at this
            omega
      · rintro w9 l w10 h9 hf9 ⟨to, rfl, ht1, ht2, hm, hsz2⟩ hk9 hfa9
        have hI10 : CutI w [b7] p b o lba n w10 s L from_ (n - (from_ - lba)) := ⟨hm, hI.at_, hI.le, hI.len, hI.cut, hI.own⟩
        have fin : ∀ {Λ : Nat → List Value → World → Prop}, to = from_ + partA b o from_ (n - (from_ - lba)) →
            (∀ s' L' w', CutI w [b7] p b o lba n w' s' L' to (n - (from_ - lba) - partA b o from_ (n - (from_ - lba))) → Kept (fun _ => False) w w' → Λ 1 [.int .i64 to, s'] w') →
            ∀ {ws : World} {X : Nat → Prop}, (tailV (IE.var 1)).den (G0 Try.prog w) Λ (env10 u p b o lba n power b7 (cfgOk u p b o) (okBlk lba n) from_ s to) w10 ws X := fun hto hΛ => fun {ws X} =>
          tail10 (IE.var 1) rfl hI10 hto hpb (by omega) Fn.2 hsz2 hΛ
        have next : ∀ s' L' w', to = from_ + partA b o from_ (n - (from_ - lba)) → CutI w [b7] p b o lba n w' s' L' to (n - (from_ - lba) - partA b o from_ (n - (from_ - lba))) → Kept (fun _ => False) w w' →
            (∃ from_' s'' L'', [Value.int .i64 to, s'] = [.int .i64 from_', s''] ∧ CutI w [b7] p b o lba n w' s'' L'' from_' (n - (from_' - lba)) ∧ w.heap.size ≤ w'.heap.size) ∧ (lba + n - vint (nth [Value.int .i64 to, s'] 0)).toNat < (lba + n - vint (nth [Value.int .i64 from_, s] 0)).toNat := fun s' L' w' hto hC hk' =>
          ⟨⟨to, s', L', rfl, by rw [show n - (to - lba) = n - (from_ - lba) - partA b o from_ (n - (from_ - lba)) from by omega]; exact hC, hk'.size⟩, by show (lba + n - to).toNat < (lba + n - from_).toNat; omega⟩
        refine den_norm (by simp only [List.cons_append, List.nil_append]; rfl) (den_ob64 (by simp only [IE.den, nth, vint]; omega) (den_splitLt (fun hlt => ?_) (fun hge => ?_)))
        · have hlt' : to < lba + n := hlt
          refine den_splitEq (fun hb0 => ?_) (fun hb0 => ?_)
          · have hb0' : b = 0 := hb0
            have hp0 : partA b o from_ (n - (from_ - lba)) = n - (from_ - lba) := by unfold partA; rw [if_pos hb0']
            refine den_ob64 (by simp only [IE.den, nth, vint]; omega) (den_leaf' fun w11 h11 => (if_pos rfl).mpr ⟨⟨to + 1, rfl, by omega, by omega, ?_, Nat.le_trans hsz2 h11.kept.size⟩, ?_⟩)
            · exact hm.kept h11.kept fun g hg hin => by
                have := (hI.own g hg).2
                simp [BlkIn, nth, blkOf, vaddr] at hin
                all_goals
                  simp at this
                  omega
            · show (from_ + partA b o from_ (n - (from_ - lba)) - (to + 1)).toNat < (from_ + partA b o from_ (n - (from_ - lba)) - to).toNat
              omega
          · have hb0' : b ≠ 0 := hb0
            have hdv := partA_div (b := b) (o := o) (lba := from_) (n := n - (from_ - lba)) (j := to - from_) (by omega) (by omega) (by omega) (by omega) (by omega)
            rw [show from_ + (to - from_) - o = to - o from by omega] at hdv
            refine den_ob64 (by simp only [IE.den, nth, vint]; omega) (den_obNe hb0 (den_splitNot (fun hr => ?_) (fun hr => ?_)))
            · have hr' : (to - o).tmod b ≠ 0 := by simpa [BE.den, IE.den, nth, vint] using hr
              have hne : to - from_ ≠ partA b o from_ (n - (from_ - lba)) := fun e => hr' (hdv.2 e (by omega))
              refine den_ob64 (by simp only [IE.den, nth, vint]; omega) (den_leaf' fun w11 h11 => (if_pos rfl).mpr ⟨⟨to + 1, rfl, by omega, by omega, ?_, Nat.le_trans hsz2 h11.kept.size⟩, ?_⟩)
              · exact hm.kept h11.kept fun g hg hin => by
                  have := (hI.own g hg).2
                  simp [BlkIn, nth, blkOf, vaddr] at hin
                  all_goals
                    simp at this
                    omega
              · show (from_ + partA b o from_ (n - (from_ - lba)) - (to + 1)).toNat < (from_ + partA b o from_ (n - (from_ - lba)) - to).toNat
                omega
            · have hr' : (to - o).tmod b = 0 := by simpa [BE.den, IE.den, nth, vint] using hr
              have hto : to = from_ + partA b o from_ (n - (from_ - lba)) := by have := hdv.1 hr'; omega
              refine den_ob64 (by simp only [IE.den, nth, vint]; omega) (fin hto fun s' L' w' hC hk' => (if_neg (by decide)).mpr ((if_pos rfl).mpr (next s' L' w' hto hC hk')))
        · have hge' : lba + n ≤ to := hge
          have hto : to = from_ + partA b o from_ (n - (from_ - lba)) := by omega
          refine den_ob64 (by simp only [IE.den, nth, vint]; omega) (fin hto fun s' L' w' hC hk' => (if_neg (by decide)).mpr ((if_pos rfl).mpr (next s' L' w' hto hC hk')))
    · have hn' : lba + n ≤ from_ := hn
      refine ⟨_, rfl, ⟨s, 0, rfl, .inr ⟨hok, rfl, L, ?_, ?_, ?_, fun g hg => (hI.own g hg).1⟩⟩, h9.base⟩
      · have := hI.cut [] (.nil (by omega)); simpa using this
      · have := hI.len; omega
      · exact hI.mine.kept h9.kept fun g hg hin => by
          have := (hI.own g hg).2
          simp [BlkIn, nth, blkOf, vaddr] at hin
          all_goals
            simp at this
            omega
  · have hpw : power = false := hp
    have hlim : limOf u p power = u := by rw [hpw]; rfl
    rw [hlim]
    refine den_loop (fun ls w' => ∃ from_ s L, ls = [.int .i64 from_, s] ∧ CutI w [b7] u b o lba n w' s L from_ (n - (from_ - lba)) ∧ w.heap.size ≤ w'.heap.size) (fun ls _ => (lba + n - vint (nth ls 0)).toNat) (fun w7 h8 => ⟨lba, _, [], rfl, ⟨Mine.nil, by omega, by omega, by simp, fun R hR => by rw [show n - (lba - lba) = n from by omega] at hR; simpa using hR, fun g hg => by cases hg⟩, h8.base.size⟩) ?_
    rintro w7 l w8 h8 hf ⟨from_, s, L, rfl, hI, hsz⟩ hk hfa
    have ha := hI.at_; have hle := hI.le
    refine den_norm (by simp only [List.cons_append, List.nil_append]; rfl) (den_ob64 (by simp only [IE.den, nth, vint]; omega) (den_splitLt (fun hn => ?_) (fun hn => den_leaf' fun w9 h9 => (if_neg (by decide)).mpr ?_)))
    · have hn' : from_ < lba + n := hn
      have hpb := partA_bounds (b := b) (o := o) (lba := from_) (n := n - (from_ - lba)) hb'' (by omega) (by omega)
      refine den_ob64 (by simp only [IE.den, nth, vint]; omega) ?_
      refine den_loop (fun ls w' => ∃ to : Int, ls = [.int .i64 to] ∧ from_ + 1 ≤ to ∧ to ≤ from_ + partA b o from_ (n - (from_ - lba)) ∧ Mine pcE 36 w' s L ∧ w.heap.size ≤ w'.heap.size) (fun ls _ => (from_ + partA b o from_ (n - (from_ - lba)) - vint (nth ls 0)).toNat) (fun w9 h9 => ⟨from_ + 1, rfl, by omega, by omega, ?_, h9.base.size⟩) ?_
      · exact hI.mine.kept h9.kept fun g hg hin => by
          have := (hI.own g hg).2
          simp [BlkIn, nth, blkOf, vaddr] at hin
          all_goals
            simp at this
            omega
      · rintro w9 l w10 h9 hf9 ⟨to, rfl, ht1, ht2, hm, hsz2⟩ hk9 hfa9
        have hI10 : CutI w [b7] u b o lba n w10 s L from_ (n - (from_ - lba)) := ⟨hm, hI.at_, hI.le, hI.len, hI.cut, hI.own⟩
        have fin : ∀ {Λ : Nat → List Value → World → Prop}, to = from_ + partA b o from_ (n - (from_ - lba)) →
            (∀ s' L' w', CutI w [b7] u b o lba n w' s' L' to (n - (from_ - lba) - partA b o from_ (n - (from_ - lba))) → Kept (fun _ => False) w w' → Λ 1 [.int .i64 to, s'] w') →
            ∀ {ws : World} {X : Nat → Prop}, (tailV (IE.var 0)).den (G0 Try.prog w) Λ (env10 u p b o lba n power b7 (cfgOk u p b o) (okBlk lba n) from_ s to) w10 ws X := fun hto hΛ => fun {ws X} =>
          tail10 (IE.var 0) rfl hI10 hto hpb (by omega) Fn.2 hsz2 hΛ
        have next : ∀ s' L' w', to = from_ + partA b o from_ (n - (from_ - lba)) → CutI w [b7] u b o lba n w' s' L' to (n - (from_ - lba) - partA b o from_ (n - (from_ - lba))) → Kept (fun _ => False) w w' →
            (∃ from_' s'' L'', [Value.int .i64 to, s'] = [.int .i64 from_', s''] ∧ CutI w [b7] u b o lba n w' s'' L'' from_' (n - (from_' - lba)) ∧ w.heap.size ≤ w'.heap.size) ∧ (lba + n - vint (nth [Value.int .i64 to, s'] 0)).toNat < (lba + n - vint (nth [Value.int .i64 from_, s] 0)).toNat := fun s' L' w' hto hC hk' =>
          ⟨⟨to, s', L', rfl, by rw [show n - (to - lba) = n - (from_ - lba) - partA b o from_ (n - (from_ - lba)) from by omega]; exact hC, hk'.size⟩, by show (lba + n - to).toNat < (lba + n - from_).toNat; omega⟩
        refine den_norm (by simp only [List.cons_append, List.nil_append]; rfl) (den_ob64 (by simp only [IE.den, nth, vint]; omega) (den_splitLt (fun hlt => ?_) (fun hge => ?_)))
        · have hlt' : to < lba + n := hlt
          refine den_splitEq (fun hb0 => ?_) (fun hb0 => ?_)
          · have hb0' : b = 0 := hb0
            have hp0 : partA b o from_ (n - (from_ - lba)) = n - (from_ - lba) := by unfold partA; rw [if_pos hb0']
            refine den_ob64 (by simp only [IE.den, nth, vint]; omega) (den_leaf' fun w11 h11 => (if_pos rfl).mpr ⟨⟨to + 1, rfl, by omega, by omega, ?_, Nat.le_trans hsz2 h11.kept.size⟩, ?_⟩)
            · exact hm.kept h11.kept fun g hg hin => by
                have := (hI.own g hg).2
                simp [BlkIn, nth, blkOf, vaddr] at hin
                all_goals
                  simp at this
                  omega
            · show (from_ + partA b o from_ (n - (from_ - lba)) - (to + 1)).toNat < (from_ + partA b o from_ (n - (from_ - lba)) - to).toNat
              omega
          · have hb0' : b ≠ 0 := hb0
            have hdv := partA_div (b := b) (o := o) (lba := from_) (n := n - (from_ - lba)) (j := to - from_) (by omega) (by omega) (by omega) (by omega) (by omega)
            rw [show from_ + (to - from_) - o = to - o from by omega] at hdv
            refine den_ob64 (by simp only [IE.den, nth, vint]; omega) (den_obNe hb0 (den_splitNot (fun hr => ?_) (fun hr => ?_)))
            · have hr' : (to - o).tmod b ≠ 0 := by simpa [BE.den, IE.den, nth, vint] using hr
              have hne : to - from_ ≠ partA b o from_ (n - (from_ - lba)) := fun e => hr' (hdv.2 e (by omega))
              refine den_ob64 (by simp only [IE.den, nth, vint]; omega) (den_leaf' fun w11 h11 => (if_pos rfl).mpr ⟨⟨to + 1, rfl, by omega, by omega, ?_, Nat.le_trans hsz2 h11.kept.size⟩, ?_⟩)
              · exact hm.kept h11.kept fun g hg hin => by
                  have := (hI.own g hg).2
                  simp [BlkIn, nth, blkOf, vaddr] at hin
                  all_goals
                    simp at this
                    omega
              · show (from_ + partA b o from_ (n - (from_ - lba)) - (to + 1)).toNat < (from_ + partA b o from_ (n - (from_ - lba)) - to).toNat
                omega
            · have hr' : (to - o).tmod b = 0 := by simpa [BE.den, IE.den, nth, vint] using hr
              have hto : to = from_ + partA b o from_ (n - (from_ - lba)) := by have := hdv.1 hr'; omega
              refine den_ob64 (by simp only [IE.den, nth, vint]; omega) (fin hto fun s' L' w' hC hk' => (if_neg (by decide)).mpr ((if_pos rfl).mpr (next s' L' w' hto hC hk')))
        · have hge' : lba + n ≤ to := hge
          have hto : to = from_ + partA b o from_ (n - (from_ - lba)) := by omega
          refine den_ob64 (by simp only [IE.den, nth, vint]; omega) (fin hto fun s' L' w' hC hk' => (if_neg (by decide)).mpr ((if_pos rfl).mpr (next s' L' w' hto hC hk')))
    · have hn' : lba + n ≤ from_ := hn
      refine ⟨_, rfl, ⟨s, 0, rfl, .inr ⟨hok, rfl, L, ?_, ?_, ?_, fun g hg => (hI.own g hg).1⟩⟩, h9.base⟩
      · have := hI.cut [] (.nil (by omega)); simpa using this
      · have := hI.len; omega
      · exact hI.mine.kept h9.kept fun g hg hin => by
          have := (hI.own g hg).2
          simp [BlkIn, nth, blkOf, vaddr] at hin
          all_goals
            simp at this
            omega
end Go.Proofs.Ytfjimghpjopgoaa
