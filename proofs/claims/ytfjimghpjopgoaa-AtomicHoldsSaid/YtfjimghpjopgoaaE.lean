/- What the functions that cut a write into pieces return. No conditions beyond those that each theorem names. -/
import Derived.Test.YtfjimghpjopgoaaD
set_option maxRecDepth 100000
set_option linter.unusedVariables false
set_option linter.unusedSimpArgs false
namespace Go.Proofs.Ytfjimghpjopgoaa
open Go.Sx

def pcE : Enc (Int × Int) := ⟨fun c => [.int .i64 c.1, .int .i64 c.2], 2, fun _ => rfl⟩
theorem underlying25 : Try.prog.underlying 25 = some (.slice 36) := by kernel_rfl
theorem info36 : Try.prog.info? 36 = some Try.t36 := by kernel_rfl
def z36 : Value := .agg #[.int .i64 0, .int .i64 0]
theorem zero36 : Try.t36.zero = some z36 := by kernel_rfl
theorem bytes36 : Try.t36.bytes ≤ 1000 := by decide +kernel
theorem one2 (x : Int × Int) : ∀ u ∈ pcE.enc x, u.oneCell' = true := by intro u hu; simp [pcE] at hu; rcases hu with rfl | rfl <;> rfl

/-- the number of blocks up to the next boundary, at most n -/
def partA (b o lba n : Int) : Int := if b = 0 then n else (if b - (lba - o + b).tmod b < n then b - (lba - o + b).tmod b else n)
/-- what is known of a valid configuration and valid blocks -/
structure Fine (u p b o lba n : Int) : Prop where
  hu : 1 ≤ u ∧ u ≤ 65536
  hp : 1 ≤ p ∧ p ≤ u
  hb : (b = 0 ∧ o = 0) ∨ (u ≤ b ∧ b ≤ 1048576 ∧ 0 ≤ o ∧ o < b)
  hl : 0 ≤ lba
  hn : 1 ≤ n ∧ n ≤ 65536
  ht : lba ≤ 1099511627776 - n
theorem fine_of {u p b o lba n : Int} (h1 : cfgOk u p b o = true) (h2 : okBlk lba n = true) : Fine u p b o lba n := by
  unfold cfgOk at h1
  unfold okBlk at h2
  simp only [Bool.and_eq_true, Bool.or_eq_true, decide_eq_true_eq, Bool.not_eq_true', decide_eq_false_iff_not] at h1 h2
  refine ⟨⟨?_, ?_⟩, ⟨?_, ?_⟩, ?_, ?_, ⟨?_, ?_⟩, ?_⟩ <;> omega
theorem partA_bounds {b o lba n : Int} (hb : (b = 0 ∧ o = 0) ∨ (1 ≤ b ∧ 0 ≤ o ∧ o < b)) (hl : 0 ≤ lba) (hn : 1 ≤ n) : 1 ≤ partA b o lba n ∧ partA b o lba n ≤ n := by
  unfold partA
  split
  · omega
  · rename_i h0
    have hx : 0 < lba - o + b := by omega
    have e : (lba - o + b).tmod b = (lba - o + b) % b := Int.tmod_eq_emod_of_nonneg (by omega)
    have h1 := Int.emod_lt_of_pos (lba - o + b) (show 0 < b by omega)
    rw [e]
    split <;> omega

theorem c38 (u p b o lba n : Int) (w : World) (hb : (b = 0 ∧ o = 0) ∨ (1 ≤ b ∧ b ≤ 1048576 ∧ 0 ≤ o ∧ o < b)) (hl : 0 ≤ lba) (hl2 : lba ≤ 1099511627776) :
    Gives Try.prog 38 [.agg #[.int .i64 u, .int .i64 p, .int .i64 b, .int .i64 o], .int .i64 lba, .int .i64 n] w (.int .i64 (partA b o lba n)) := by
  refine gives mix t38 rfl rfl (ε := [.int .i64 u, .int .i64 p, .int .i64 b, .int .i64 o, .int .i64 lba, .int .i64 n]) ⟨⟨_, rfl⟩, ⟨_, rfl⟩, ⟨_, rfl⟩, ⟨_, rfl⟩, ⟨_, rfl⟩, ⟨_, rfl⟩, trivial⟩ (den_blk fun _ _ _ _ => ?_)
  refine den_norm (by simp only [List.cons_append, List.nil_append]; rfl) (den_splitEq (fun h => den_leaf ?_) (fun h => den_start1 fun w1 h1 => ?_))
  · have h' : b = 0 := h
    simp only [denL, SV.den, IE.den, nth, vint, partA, if_pos h']
  · have h' : ¬ b = 0 := h
    have e : (lba - o + b).tmod b = (lba - o + b) % b := Int.tmod_eq_emod_of_nonneg (by omega)
    have h1 := Int.emod_lt_of_pos (lba - o + b) (show 0 < b by omega)
    have h2 := Int.emod_nonneg (lba - o + b) (show b ≠ 0 by omega)
    refine den_ob64 (by simp only [IE.den, nth, vint]; omega) (den_ob64 (by simp only [IE.den, nth, vint]; omega) (den_obNe (by simpa only [IE.den, nth, vint] using h') (den_ob64 (by simp only [IE.den, nth, vint]; omega) (den_leaf ?_))))
    unfold partA
    rw [if_neg h']
    rfl

/-- the pieces of k blocks without a boundary -/
def singles (lba : Int) (k : Nat) : List (Int × Int) := (List.range k).map fun j : Nat => (lba + (j : Int), (1 : Int))
def chunk (lim lba k : Int) : List (Int × Int) := if k ≤ lim then [(lba, k)] else singles lba k.toNat
theorem singles_succ (lba : Int) (k : Nat) : singles lba (k + 1) = singles lba k ++ [(lba + (k : Int), 1)] := by simp [singles, List.range_succ]
theorem singles_length (lba : Int) (k : Nat) : (singles lba k).length = k := by simp [singles]
/-- the pieces of n blocks from lba on -/
inductive Cut (lim b o : Int) : Int → Int → List (Int × Int) → Prop where
  | nil {lba n : Int} : n ≤ 0 → Cut lim b o lba n []
  | cons {lba n : Int} {L : List (Int × Int)} : 0 < n → Cut lim b o (lba + partA b o lba n) (n - partA b o lba n) L → Cut lim b o lba n (chunk lim lba (partA b o lba n) ++ L)
theorem Cut.unique {lim b o : Int} : ∀ {lba n : Int} {L L' : List (Int × Int)}, Cut lim b o lba n L → Cut lim b o lba n L' → L = L'
  | _, _, _, _, .nil h, .nil _ => rfl
  | _, _, _, _, .nil h, .cons h' _ => by omega
  | _, _, _, _, .cons h _, .nil h' => by omega
  | _, _, _, _, .cons h c, .cons h' c' => by rw [Cut.unique c c']
def limOf (u p : Int) (power : Bool) : Int := if power then p else u

/-- the invariant of the loops that cut: what has been cut, in a slice of its own -/
structure CutI (w0 : World) (bs : List Nat) (lim b o lba0 n0 : Int) (w : World) (s : Value) (L : List (Int × Int)) (lba n : Int) : Prop where
  mine : Mine pcE 36 w s L
  at_ : lba = lba0 + (n0 - n)
  le : 0 ≤ n ∧ n ≤ n0
  len : (L.length : Int) + n ≤ n0
  cut : ∀ R, Cut lim b o lba n R → Cut lim b o lba0 n0 (L ++ R)
  own : ∀ g, s.ownBlock = some g → w0.heap.size ≤ g ∧ g ∉ bs

theorem c20 (u p b o lba n : Int) (power : Bool) (w : World) : GivesR Try.prog 20 [.agg #[.int .i64 u, .int .i64 p, .int .i64 b, .int .i64 o], .int .i64 lba, .int .i64 n, .bool power] w (fun v w' => ∃ s e, v = .tuple #[s, .int .i64 e] ∧
    ((cfgOk u p b o && okBlk lba n) = false ∧ s = .slice none 0 0 ∧ e = 2 ∨ (cfgOk u p b o && okBlk lba n) = true ∧ e = 0 ∧ ∃ L, Cut (limOf u p power) b o lba n L ∧ (L.length : Int) ≤ n ∧ Mine pcE 36 w' s L ∧ ∀ g, s.ownBlock = some g → w.heap.size ≤ g)) := by
  refine givesR mix t20 rfl rfl (ε := [.int .i64 u, .int .i64 p, .int .i64 b, .int .i64 o, .int .i64 lba, .int .i64 n, .bool power]) ⟨⟨_, rfl⟩, ⟨_, rfl⟩, ⟨_, rfl⟩, ⟨_, rfl⟩, ⟨_, rfl⟩, ⟨_, rfl⟩, ⟨_, rfl⟩, trivial⟩ (den_blk fun b7 h7 _ _ => ?_)
  refine den_norm (by simp only [List.cons_append, List.nil_append]; rfl) ?_
  refine den_call_bool (b := cfgOk u p b o) (fun w _ => c12 u p b o w) rfl (fun w1 w2 h1 h2 => den_norm (by simp only [List.cons_append, List.nil_append]; rfl) ?_)
  refine den_call_bool (b := okBlk lba n) (fun w _ => c33 lba n w) rfl (fun w3 w4 h3 h4 => den_norm (by simp only [List.cons_append, List.nil_append]; rfl) (den_blk fun b10 h10 _ _ => ?_))
  refine den_norm (by simp only [List.cons_append, List.nil_append]; rfl) (den_all _ c31 rfl rfl rfl (by decide) (fun _ => rfl) (fun w5 w6 h5 h6 => ?_))
  refine den_norm (ε' := [.int .i64 u, .int .i64 p, .int .i64 b, .int .i64 o, .int .i64 lba, .int .i64 n, .bool power, .pointer (some ⟨b7, 0, none⟩), .bool (cfgOk u p b o), .bool (okBlk lba n), .pointer (some ⟨b10, 0, none⟩), .bool (cfgOk u p b o && okBlk lba n)]) (by simp [boolsOf, sBE, BE.den, nth, vbool]) ?_
  refine den_splitNot (fun h => den_leafR _ rfl fun w7 h7 => ⟨_, _, rfl, .inl ⟨h, rfl, rfl⟩⟩) (fun h => den_blk fun b12 h12 _ hW => ?_)
  have hok : (cfgOk u p b o && okBlk lba n) = true := h
  obtain ⟨hc1, hc2⟩ := Bool.and_eq_true_iff.1 hok
  have F := fine_of hc1 hc2
  have Fu := F.hu; have Fp := F.hp; have Fb := F.hb; have Fl := F.hl; have Fn := F.hn; have Ft := F.ht
  have hb' : (b = 0 ∧ o = 0) ∨ (1 ≤ b ∧ b ≤ 1048576 ∧ 0 ≤ o ∧ o < b) := by omega
  have hb'' : (b = 0 ∧ o = 0) ∨ (1 ≤ b ∧ 0 ≤ o ∧ o < b) := by omega
  refine den_norm (by simp only [List.cons_append, List.nil_append]; rfl) (den_split (fun hp => ?_) (fun hp => ?_))
  · have hpw : power = true := hp
    have hlim : limOf u p power = p := by rw [hpw]; rfl
    rw [hlim]
    refine den_loop (fun ls w' => ∃ lba' n' s L, ls = [.int .i64 lba', .int .i64 n', s] ∧ CutI w [b7, b10, b12] (p) b o lba n w' s L lba' n') (fun ls _ => (vint (nth ls 1)).toNat) (fun w7 h8 => ⟨lba, n, _, [], rfl, Mine.nil, by omega, by omega, by simp, fun R hR => hR, fun g hg => by cases hg⟩) ?_
    rintro w7 l w8 h8 hf ⟨lba', n', s, L, rfl, hI⟩ hk hfa
    refine den_norm (by simp only [List.cons_append, List.nil_append]; rfl) (den_splitLt (fun hn => ?_) (fun hn => den_leaf' fun w9 h9 => (if_neg (by decide)).mpr ?_))
    · have hn' : 0 < n' := hn
      have ha := hI.at_; have hle := hI.le
      have hpb := partA_bounds (b := b) (o := o) (lba := lba') (n := n') hb'' (by omega) (by omega)
      refine den_call_int (x := partA b o lba' n') (fun w9 h9 => c38 u p b o lba' n' w9 hb' (by omega) (by omega)) rfl (fun w9 w10 h9 h10 => den_norm (by simp only [List.cons_append, List.nil_append]; rfl) ?_)
      have f10 : ∀ i ∈ [b7, b10, b12], i < w10.heap.size := by
        have e7 := h9.lt (i := 7) (b := b7) (by simp [keys]) rfl
        have e10 := h9.lt (i := 10) (b := b10) (by simp [keys]) rfl
        have e12 := h9.lt (i := 12) (b := b12) (by simp [keys]) rfl
        have := h10.size
        intro i hi; simp at hi; rcases hi with rfl | rfl | rfl <;> omega
      have m10 : Mine pcE 36 w10 s L := (hI.mine.kept h9.kept fun g hg hin => by
        have := (hI.own g hg).2
        simp [BlkIn, nth, blkOf, vaddr] at hin
        all_goals
          simp at this
          omega).same h10
      refine den_splitLt (fun hgt => ?_) (fun hgt => ?_)
      · have hgt' : (p) < partA b o lba' n' := hgt
        refine den_loop (fun ls w' => ∃ (i : Nat) (s' : Value), ls = [.int .i64 (i : Int), s'] ∧ Mine pcE 36 w' s' (L ++ singles lba' i) ∧ (i : Int) ≤ partA b o lba' n' ∧ ∀ g, s'.ownBlock = some g → w.heap.size ≤ g ∧ g ∉ [b7, b10, b12]) (fun ls _ => ((partA b o lba' n') - vint (nth ls 0)).toNat) (fun w11 h11 => ⟨0, s, by simp [denL, SV.den, IE.den, nth], ?_, by omega, fun g hg => hI.own g hg⟩) ?_
        · rw [show L ++ (singles lba' 0) = L from by simp [singles]]
          exact m10.kept h11.kept fun g hg hin => by
            have := (hI.own g hg).2
            simp [BlkIn, nth, blkOf, vaddr] at hin
            all_goals
              simp at this
              omega
        · rintro w11 l w12 h11 hf2 ⟨i, s', rfl, hm, hbnd, hown⟩ hk2 hfa2
          refine den_norm (by simp only [List.cons_append, List.nil_append]; rfl) (den_splitLt (fun hi => ?_) (fun hi => ?_))
          · have hi' : (i : Int) < partA b o lba' n' := hi
            refine den_ob64 (by simp only [IE.den, nth, vint]; omega) (den_blk fun b19 h19 _ hW19 => ?_)
            refine den_norm (by simp only [List.cons_append, List.nil_append]; rfl) ?_
            have hlen := hI.len
            refine den_push (E := pcE) (T := 36) rfl underlying25 info36 zero36 (by kernel_rfl) (by kernel_rfl) (by decide) bytes36 one2 s' (L ++ singles lba' i) (lba' + (i : Int), 1) rfl rfl rfl (by simp [singles_length]; omega) (fun g hg _ => .inl (hown g hg).1) (by simp [keys]) (fun w13 h13 => hm.kept h13.kept fun g hg hin => ?_) (fun g hg _ hin => ?_) (fun hd => by cases hd) (fun _ => rfl) ?_
            · have := (hown g hg).2
              simp [BlkIn, nth, blkOf, vaddr] at hin
              all_goals
                simp at this
                omega
            · have := (hown g hg).2
              have := hm.lt hg
              simp [BlkIn, nth, blkOf, vaddr] at hin
              all_goals
                simp at *
                omega
            · intro w13 s2 w14 h13 ho hk13 hfr hap
              refine den_norm (by simp only [List.cons_append, List.nil_append]; rfl) (den_ob64 (by simp only [IE.den, nth, vint]; omega) (den_leaf' fun w15 h15 => (if_pos rfl).mpr ⟨⟨i + 1, s2, ?_, ?_, by omega, ?_⟩, ?_⟩))
              · simp [denL, SV.den, IE.den, nth, vint]
              · rw [show L ++ singles lba' (i + 1) = L ++ singles lba' i ++ [(lba' + (i : Int), 1)] from by rw [singles_succ, List.append_assoc]]
                refine ho.kept h15.kept fun g hg hin => ?_
                have : w.heap.size ≤ g ∧ g ≠ b7 ∧ g ≠ b10 ∧ g ≠ b12 ∧ g ≠ b19 := by
                  rcases hfr with ⟨e3, _⟩ | ⟨b', e3, hle, _⟩
                  · rw [e3] at hg
                    have h1 := hown g hg
                    have h2 := hm.lt hg
                    simp at h1
                    exact ⟨h1.1, h1.2.1, h1.2.2.1, h1.2.2.2, by omega⟩
                  · rw [e3] at hg
                    cases hg
                    have e7 := h13.lt (i := 7) (b := b7) (by simp [keys]) rfl
                    have e10 := h13.lt (i := 10) (b := b10) (by simp [keys]) rfl
                    have e12 := h13.lt (i := 12) (b := b12) (by simp [keys]) rfl
                    have e19 := h13.lt (i := 19) (b := b19) (by simp [keys]) rfl
                    have e0 : w.heap.size ≤ w13.heap.size := h13.base.size
                    exact ⟨by omega, by omega, by omega, by omega, by omega⟩
                simp [BlkIn, nth, blkOf, vaddr] at hin
                all_goals
                  simp at this
                  omega
              · intro g hg
                have : w.heap.size ≤ g ∧ g ≠ b7 ∧ g ≠ b10 ∧ g ≠ b12 ∧ g ≠ b19 := by
                  rcases hfr with ⟨e3, _⟩ | ⟨b', e3, hle, _⟩
                  · rw [e3] at hg
                    have h1 := hown g hg
                    have h2 := hm.lt hg
                    simp at h1
                    exact ⟨h1.1, h1.2.1, h1.2.2.1, h1.2.2.2, by omega⟩
                  · rw [e3] at hg
                    cases hg
                    have e7 := h13.lt (i := 7) (b := b7) (by simp [keys]) rfl
                    have e10 := h13.lt (i := 10) (b := b10) (by simp [keys]) rfl
                    have e12 := h13.lt (i := 12) (b := b12) (by simp [keys]) rfl
                    have e19 := h13.lt (i := 19) (b := b19) (by simp [keys]) rfl
                    have e0 : w.heap.size ≤ w13.heap.size := h13.base.size
                    exact ⟨by omega, by omega, by omega, by omega, by omega⟩
                exact ⟨this.1, by simp; omega⟩
              · simp only [denL, SV.den, IE.den, nth, vint]
                omega
          · have hi' : partA b o lba' n' ≤ (i : Int) := hi
            refine den_ob64 (by simp only [IE.den, nth, vint]; omega) (den_ob64 (by simp only [IE.den, nth, vint]; omega) (den_leaf' fun w13 h13 => (if_neg (by decide)).mpr ((if_pos rfl).mpr ⟨⟨lba' + partA b o lba' n', n' - partA b o lba' n', s', L ++ chunk (p) lba' (partA b o lba' n'), rfl, ?_, by omega, by omega, ?_, fun R hR => ?_, hown⟩, ?_⟩)))
            · rw [show chunk (p) lba' (partA b o lba' n') = singles lba' i from by unfold chunk; rw [if_neg (by omega), show (partA b o lba' n').toNat = i from by omega]]
              exact hm.kept h13.kept fun g hg hin => by
                have := (hown g hg).2
                simp [BlkIn, nth, blkOf, vaddr] at hin
                all_goals
                  simp at this
                  omega
            · have hlen := hI.len
              rw [show chunk (p) lba' (partA b o lba' n') = singles lba' i from by unfold chunk; rw [if_neg (by omega), show (partA b o lba' n').toNat = i from by omega]]
              simp [singles_length]
              omega
            · rw [List.append_assoc]
              exact hI.cut _ (.cons hn' hR)
            · show (n' - partA b o lba' n').toNat < n'.toNat
              omega
      · have hgt' : partA b o lba' n' ≤ (p) := hgt
        refine den_loop (fun ls w' => ∃ (x : Int) (s' : Value), ls = [.int .i64 x, s'] ∧ Mine pcE 36 w' s' (L ++ (if x = 0 then [] else [(lba', partA b o lba' n')])) ∧ (x = 0 ∨ x = partA b o lba' n') ∧ ∀ g, s'.ownBlock = some g → w.heap.size ≤ g ∧ g ∉ [b7, b10, b12]) (fun ls _ => ((partA b o lba' n') - vint (nth ls 0)).toNat) (fun w11 h11 => ⟨0, s, by simp [denL, SV.den, IE.den, nth], ?_, by omega, fun g hg => hI.own g hg⟩) ?_
        · rw [show L ++ (if (0 : Int) = 0 then [] else [(lba', partA b o lba' n')]) = L from by simp [singles]]
          exact m10.kept h11.kept fun g hg hin => by
            have := (hI.own g hg).2
            simp [BlkIn, nth, blkOf, vaddr] at hin
            all_goals
              simp at this
              omega
        · rintro w11 l w12 h11 hf2 ⟨x, s', rfl, hm, hbnd, hown⟩ hk2 hfa2
          refine den_norm (by simp only [List.cons_append, List.nil_append]; rfl) (den_splitLt (fun hi => ?_) (fun hi => ?_))
          · have hi' : x < partA b o lba' n' := hi
            have hx0 : x = 0 := hbnd.resolve_right (fun e => by rw [e] at hi'; exact absurd hi' (Int.lt_irrefl _))
            refine den_ob64 (by simp only [IE.den, nth, vint]; omega) (den_blk fun b19 h19 _ hW19 => ?_)
            refine den_norm (by simp only [List.cons_append, List.nil_append]; rfl) ?_
            have hlen := hI.len
            refine den_push (E := pcE) (T := 36) rfl underlying25 info36 zero36 (by kernel_rfl) (by kernel_rfl) (by decide) bytes36 one2 s' (L ++ (if x = 0 then [] else [(lba', partA b o lba' n')])) (lba' + x, partA b o lba' n') rfl rfl rfl (by rw [if_pos hx0]; simp; omega) (fun g hg _ => .inl (hown g hg).1) (by simp [keys]) (fun w13 h13 => hm.kept h13.kept fun g hg hin => ?_) (fun g hg _ hin => ?_) (fun hd => by cases hd) (fun _ => rfl) ?_
            · have := (hown g hg).2
              simp [BlkIn, nth, blkOf, vaddr] at hin
              all_goals
                simp at this
                omega
            · have := (hown g hg).2
              have := hm.lt hg
              simp [BlkIn, nth, blkOf, vaddr] at hin
              all_goals
                simp at *
                omega
            · intro w13 s2 w14 h13 ho hk13 hfr hap
              refine den_norm (by simp only [List.cons_append, List.nil_append]; rfl) (den_ob64 (by simp only [IE.den, nth, vint]; omega) (den_leaf' fun w15 h15 => (if_pos rfl).mpr ⟨⟨x + partA b o lba' n', s2, ?_, ?_, by omega, ?_⟩, ?_⟩))
              · simp [denL, SV.den, IE.den, nth, vint]
              · rw [show L ++ (if x + partA b o lba' n' = 0 then [] else [(lba', partA b o lba' n')]) = L ++ (if x = 0 then [] else [(lba', partA b o lba' n')]) ++ [(lba' + x, partA b o lba' n')] from by rw [if_neg (by rw [hx0]; omega), if_pos hx0, hx0]; simp]
                refine ho.kept h15.kept fun g hg hin => ?_
                have : w.heap.size ≤ g ∧ g ≠ b7 ∧ g ≠ b10 ∧ g ≠ b12 ∧ g ≠ b19 := by
                  rcases hfr with ⟨e3, _⟩ | ⟨b', e3, hle, _⟩
                  · rw [e3] at hg
                    have h1 := hown g hg
                    have h2 := hm.lt hg
                    simp at h1
                    exact ⟨h1.1, h1.2.1, h1.2.2.1, h1.2.2.2, by omega⟩
                  · rw [e3] at hg
                    cases hg
                    have e7 := h13.lt (i := 7) (b := b7) (by simp [keys]) rfl
                    have e10 := h13.lt (i := 10) (b := b10) (by simp [keys]) rfl
                    have e12 := h13.lt (i := 12) (b := b12) (by simp [keys]) rfl
                    have e19 := h13.lt (i := 19) (b := b19) (by simp [keys]) rfl
                    have e0 : w.heap.size ≤ w13.heap.size := h13.base.size
                    exact ⟨by omega, by omega, by omega, by omega, by omega⟩
                simp [BlkIn, nth, blkOf, vaddr] at hin
                all_goals
                  simp at this
                  omega
              · intro g hg
                have : w.heap.size ≤ g ∧ g ≠ b7 ∧ g ≠ b10 ∧ g ≠ b12 ∧ g ≠ b19 := by
                  rcases hfr with ⟨e3, _⟩ | ⟨b', e3, hle, _⟩
                  · rw [e3] at hg
                    have h1 := hown g hg
                    have h2 := hm.lt hg
                    simp at h1
                    exact ⟨h1.1, h1.2.1, h1.2.2.1, h1.2.2.2, by omega⟩
                  · rw [e3] at hg
                    cases hg
                    have e7 := h13.lt (i := 7) (b := b7) (by simp [keys]) rfl
                    have e10 := h13.lt (i := 10) (b := b10) (by simp [keys]) rfl
                    have e12 := h13.lt (i := 12) (b := b12) (by simp [keys]) rfl
                    have e19 := h13.lt (i := 19) (b := b19) (by simp [keys]) rfl
                    have e0 : w.heap.size ≤ w13.heap.size := h13.base.size
                    exact ⟨by omega, by omega, by omega, by omega, by omega⟩
                exact ⟨this.1, by simp; omega⟩
              · simp only [denL, SV.den, IE.den, nth, vint]
                omega
          · have hi' : partA b o lba' n' ≤ x := hi
            refine den_ob64 (by simp only [IE.den, nth, vint]; omega) (den_ob64 (by simp only [IE.den, nth, vint]; omega) (den_leaf' fun w13 h13 => (if_neg (by decide)).mpr ((if_pos rfl).mpr ⟨⟨lba' + partA b o lba' n', n' - partA b o lba' n', s', L ++ chunk (p) lba' (partA b o lba' n'), rfl, ?_, by omega, by omega, ?_, fun R hR => ?_, hown⟩, ?_⟩)))
            · rw [show chunk (p) lba' (partA b o lba' n') = (if x = 0 then [] else [(lba', partA b o lba' n')]) from by unfold chunk; rw [if_pos (by omega), if_neg (by omega)]]
              exact hm.kept h13.kept fun g hg hin => by
                have := (hown g hg).2
                simp [BlkIn, nth, blkOf, vaddr] at hin
                all_goals
                  simp at this
                  omega
            · have hlen := hI.len
              rw [show chunk (p) lba' (partA b o lba' n') = (if x = 0 then [] else [(lba', partA b o lba' n')]) from by unfold chunk; rw [if_pos (by omega), if_neg (by omega)]]
              rw [if_neg (by omega)]
              simp
              omega
            · rw [List.append_assoc]
              exact hI.cut _ (.cons hn' hR)
            · show (n' - partA b o lba' n').toNat < n'.toNat
              omega
    · have hn' : n' ≤ 0 := hn
      refine ⟨_, rfl, ⟨s, 0, rfl, .inr ⟨hok, rfl, L, ?_, ?_, ?_, fun g hg => (hI.own g hg).1⟩⟩, h9.base⟩
      · have := hI.cut [] (.nil hn'); simpa using this
      · have := hI.len; have := hI.le; omega
      · exact hI.mine.kept h9.kept fun g hg hin => by
          have := (hI.own g hg).2
          simp [BlkIn, nth, blkOf, vaddr] at hin
          all_goals
            simp at this
            omega
  · have hpw : power = false := hp
    have hlim : limOf u p power = u := by rw [hpw]; rfl
    rw [hlim]
    refine den_loop (fun ls w' => ∃ lba' n' s L, ls = [.int .i64 lba', .int .i64 n', s] ∧ CutI w [b7, b10, b12] (u) b o lba n w' s L lba' n') (fun ls _ => (vint (nth ls 1)).toNat) (fun w7 h8 => ⟨lba, n, _, [], rfl, Mine.nil, by omega, by omega, by simp, fun R hR => hR, fun g hg => by cases hg⟩) ?_
    rintro w7 l w8 h8 hf ⟨lba', n', s, L, rfl, hI⟩ hk hfa
    refine den_norm (by simp only [List.cons_append, List.nil_append]; rfl) (den_splitLt (fun hn => ?_) (fun hn => den_leaf' fun w9 h9 => (if_neg (by decide)).mpr ?_))
    · have hn' : 0 < n' := hn
      have ha := hI.at_; have hle := hI.le
      have hpb := partA_bounds (b := b) (o := o) (lba := lba') (n := n') hb'' (by omega) (by omega)
      refine den_call_int (x := partA b o lba' n') (fun w9 h9 => c38 u p b o lba' n' w9 hb' (by omega) (by omega)) rfl (fun w9 w10 h9 h10 => den_norm (by simp only [List.cons_append, List.nil_append]; rfl) ?_)
      have f10 : ∀ i ∈ [b7, b10, b12], i < w10.heap.size := by
        have e7 := h9.lt (i := 7) (b := b7) (by simp [keys]) rfl
        have e10 := h9.lt (i := 10) (b := b10) (by simp [keys]) rfl
        have e12 := h9.lt (i := 12) (b := b12) (by simp [keys]) rfl
        have := h10.size
        intro i hi; simp at hi; rcases hi with rfl | rfl | rfl <;> omega
      have m10 : Mine pcE 36 w10 s L := (hI.mine.kept h9.kept fun g hg hin => by
        have := (hI.own g hg).2
        simp [BlkIn, nth, blkOf, vaddr] at hin
        all_goals
          simp at this
          omega).same h10
      refine den_splitLt (fun hgt => ?_) (fun hgt => ?_)
      · have hgt' : (u) < partA b o lba' n' := hgt
        refine den_loop (fun ls w' => ∃ (i : Nat) (s' : Value), ls = [.int .i64 (i : Int), s'] ∧ Mine pcE 36 w' s' (L ++ singles lba' i) ∧ (i : Int) ≤ partA b o lba' n' ∧ ∀ g, s'.ownBlock = some g → w.heap.size ≤ g ∧ g ∉ [b7, b10, b12]) (fun ls _ => ((partA b o lba' n') - vint (nth ls 0)).toNat) (fun w11 h11 => ⟨0, s, by simp [denL, SV.den, IE.den, nth], ?_, by omega, fun g hg => hI.own g hg⟩) ?_
        · rw [show L ++ (singles lba' 0) = L from by simp [singles]]
          exact m10.kept h11.kept fun g hg hin => by
            have := (hI.own g hg).2
            simp [BlkIn, nth, blkOf, vaddr] at hin
            all_goals
              simp at this
              omega
        · rintro w11 l w12 h11 hf2 ⟨i, s', rfl, hm, hbnd, hown⟩ hk2 hfa2
          refine den_norm (by simp only [List.cons_append, List.nil_append]; rfl) (den_splitLt (fun hi => ?_) (fun hi => ?_))
          · have hi' : (i : Int) < partA b o lba' n' := hi
            refine den_ob64 (by simp only [IE.den, nth, vint]; omega) (den_blk fun b19 h19 _ hW19 => ?_)
            refine den_norm (by simp only [List.cons_append, List.nil_append]; rfl) ?_
            have hlen := hI.len
            refine den_push (E := pcE) (T := 36) rfl underlying25 info36 zero36 (by kernel_rfl) (by kernel_rfl) (by decide) bytes36 one2 s' (L ++ singles lba' i) (lba' + (i : Int), 1) rfl rfl rfl (by simp [singles_length]; omega) (fun g hg _ => .inl (hown g hg).1) (by simp [keys]) (fun w13 h13 => hm.kept h13.kept fun g hg hin => ?_) (fun g hg _ hin => ?_) (fun hd => by cases hd) (fun _ => rfl) ?_
            · have := (hown g hg).2
              simp [BlkIn, nth, blkOf, vaddr] at hin
              all_goals
                simp at this
                omega
            · have := (hown g hg).2
              have := hm.lt hg
              simp [BlkIn, nth, blkOf, vaddr] at hin
              all_goals
                simp at *
                omega
            · intro w13 s2 w14 h13 ho hk13 hfr hap
              refine den_norm (by simp only [List.cons_append, List.nil_append]; rfl) (den_ob64 (by simp only [IE.den, nth, vint]; omega) (den_leaf' fun w15 h15 => (if_pos rfl).mpr ⟨⟨i + 1, s2, ?_, ?_, by omega, ?_⟩, ?_⟩))
              · simp [denL, SV.den, IE.den, nth, vint]
              · rw [show L ++ singles lba' (i + 1) = L ++ singles lba' i ++ [(lba' + (i : Int), 1)] from by rw [singles_succ, List.append_assoc]]
                refine ho.kept h15.kept fun g hg hin => ?_
                have : w.heap.size ≤ g ∧ g ≠ b7 ∧ g ≠ b10 ∧ g ≠ b12 ∧ g ≠ b19 := by
                  rcases hfr with ⟨e3, _⟩ | ⟨b', e3, hle, _⟩
                  · rw [e3] at hg
                    have h1 := hown g hg
                    have h2 := hm.lt hg
                    simp at h1
                    exact ⟨h1.1, h1.2.1, h1.2.2.1, h1.2.2.2, by omega⟩
                  · rw [e3] at hg
                    cases hg
                    have e7 := h13.lt (i := 7) (b := b7) (by simp [keys]) rfl
                    have e10 := h13.lt (i := 10) (b := b10) (by simp [keys]) rfl
                    have e12 := h13.lt (i := 12) (b := b12) (by simp [keys]) rfl
                    have e19 := h13.lt (i := 19) (b := b19) (by simp [keys]) rfl
                    have e0 : w.heap.size ≤ w13.heap.size := h13.base.size
                    exact ⟨by omega, by omega, by omega, by omega, by omega⟩
                simp [BlkIn, nth, blkOf, vaddr] at hin
                all_goals
                  simp at this
                  omega
              · intro g hg
                have : w.heap.size ≤ g ∧ g ≠ b7 ∧ g ≠ b10 ∧ g ≠ b12 ∧ g ≠ b19 := by
                  rcases hfr with ⟨e3, _⟩ | ⟨b', e3, hle, _⟩
                  · rw [e3] at hg
                    have h1 := hown g hg
                    have h2 := hm.lt hg
                    simp at h1
                    exact ⟨h1.1, h1.2.1, h1.2.2.1, h1.2.2.2, by omega⟩
                  · rw [e3] at hg
                    cases hg
                    have e7 := h13.lt (i := 7) (b := b7) (by simp [keys]) rfl
                    have e10 := h13.lt (i := 10) (b := b10) (by simp [keys]) rfl
                    have e12 := h13.lt (i := 12) (b := b12) (by simp [keys]) rfl
                    have e19 := h13.lt (i := 19) (b := b19) (by simp [keys]) rfl
                    have e0 : w.heap.size ≤ w13.heap.size := h13.base.size
                    exact ⟨by omega, by omega, by omega, by omega, by omega⟩
                exact ⟨this.1, by simp; omega⟩
              · simp only [denL, SV.den, IE.den, nth, vint]
                omega
          · have hi' : partA b o lba' n' ≤ (i : Int) := hi
            refine den_ob64 (by simp only [IE.den, nth, vint]; omega) (den_ob64 (by simp only [IE.den, nth, vint]; omega) (den_leaf' fun w13 h13 => (if_neg (by decide)).mpr ((if_pos rfl).mpr ⟨⟨lba' + partA b o lba' n', n' - partA b o lba' n', s', L ++ chunk (u) lba' (partA b o lba' n'), rfl, ?_, by omega, by omega, ?_, fun R hR => ?_, hown⟩, ?_⟩)))
            · rw [show chunk (u) lba' (partA b o lba' n') = singles lba' i from by unfold chunk; rw [if_neg (by omega), show (partA b o lba' n').toNat = i from by omega]]
              exact hm.kept h13.kept fun g hg hin => by
                have := (hown g hg).2
                simp [BlkIn, nth, blkOf, vaddr] at hin
                all_goals
                  simp at this
                  omega
            · have hlen := hI.len
              rw [show chunk (u) lba' (partA b o lba' n') = singles lba' i from by unfold chunk; rw [if_neg (by omega), show (partA b o lba' n').toNat = i from by omega]]
              simp [singles_length]
              omega
            · rw [List.append_assoc]
              exact hI.cut _ (.cons hn' hR)
            · show (n' - partA b o lba' n').toNat < n'.toNat
              omega
      · have hgt' : partA b o lba' n' ≤ (u) := hgt
        refine den_loop (fun ls w' => ∃ (x : Int) (s' : Value), ls = [.int .i64 x, s'] ∧ Mine pcE 36 w' s' (L ++ (if x = 0 then [] else [(lba', partA b o lba' n')])) ∧ (x = 0 ∨ x = partA b o lba' n') ∧ ∀ g, s'.ownBlock = some g → w.heap.size ≤ g ∧ g ∉ [b7, b10, b12]) (fun ls _ => ((partA b o lba' n') - vint (nth ls 0)).toNat) (fun w11 h11 => ⟨0, s, by simp [denL, SV.den, IE.den, nth], ?_, by omega, fun g hg => hI.own g hg⟩) ?_
        · rw [show L ++ (if (0 : Int) = 0 then [] else [(lba', partA b o lba' n')]) = L from by simp [singles]]
          exact m10.kept h11.kept fun g hg hin => by
            have := (hI.own g hg).2
            simp [BlkIn, nth, blkOf, vaddr] at hin
            all_goals
              simp at this
              omega
        · rintro w11 l w12 h11 hf2 ⟨x, s', rfl, hm, hbnd, hown⟩ hk2 hfa2
          refine den_norm (by simp only [List.cons_append, List.nil_append]; rfl) (den_splitLt (fun hi => ?_) (fun hi => ?_))
          · have hi' : x < partA b o lba' n' := hi
            have hx0 : x = 0 := hbnd.resolve_right (fun e => by rw [e] at hi'; exact absurd hi' (Int.lt_irrefl _))
            refine den_ob64 (by simp only [IE.den, nth, vint]; omega) (den_blk fun b19 h19 _ hW19 => ?_)
            refine den_norm (by simp only [List.cons_append, List.nil_append]; rfl) ?_
            have hlen := hI.len
            refine den_push (E := pcE) (T := 36) rfl underlying25 info36 zero36 (by kernel_rfl) (by kernel_rfl) (by decide) bytes36 one2 s' (L ++ (if x = 0 then [] else [(lba', partA b o lba' n')])) (lba' + x, partA b o lba' n') rfl rfl rfl (by rw [if_pos hx0]; simp; omega) (fun g hg _ => .inl (hown g hg).1) (by simp [keys]) (fun w13 h13 => hm.kept h13.kept fun g hg hin => ?_) (fun g hg _ hin => ?_) (fun hd => by cases hd) (fun _ => rfl) ?_
            · have := (hown g hg).2
              simp [BlkIn, nth, blkOf, vaddr] at hin
              all_goals
                simp at this
                omega
            · have := (hown g hg).2
              have := hm.lt hg
              simp [BlkIn, nth, blkOf, vaddr] at hin
              all_goals
                simp at *
                omega
            · intro w13 s2 w14 h13 ho hk13 hfr hap
              refine den_norm (by simp only [List.cons_append, List.nil_append]; rfl) (den_ob64 (by simp only [IE.den, nth, vint]; omega) (den_leaf' fun w15 h15 => (if_pos rfl).mpr ⟨⟨x + partA b o lba' n', s2, ?_, ?_, by omega, ?_⟩, ?_⟩))
              · simp [denL, SV.den, IE.den, nth, vint]
              · rw [show L ++ (if x + partA b o lba' n' = 0 then [] else [(lba', partA b o lba' n')]) = L ++ (if x = 0 then [] else [(lba', partA b o lba' n')]) ++ [(lba' + x, partA b o lba' n')] from by rw [if_neg (by rw [hx0]; omega), if_pos hx0, hx0]; simp]
                refine ho.kept h15.kept fun g hg hin => ?_
                have : w.heap.size ≤ g ∧ g ≠ b7 ∧ g ≠ b10 ∧ g ≠ b12 ∧ g ≠ b19 := by
                  rcases hfr with ⟨e3, _⟩ | ⟨b', e3, hle, _⟩
                  · rw [e3] at hg
                    have h1 := hown g hg
                    have h2 := hm.lt hg
                    simp at h1
                    exact ⟨h1.1, h1.2.1, h1.2.2.1, h1.2.2.2, by omega⟩
                  · rw [e3] at hg
                    cases hg
                    have e7 := h13.lt (i := 7) (b := b7) (by simp [keys]) rfl
                    have e10 := h13.lt (i := 10) (b := b10) (by simp [keys]) rfl
                    have e12 := h13.lt (i := 12) (b := b12) (by simp [keys]) rfl
                    have e19 := h13.lt (i := 19) (b := b19) (by simp [keys]) rfl
                    have e0 : w.heap.size ≤ w13.heap.size := h13.base.size
                    exact ⟨by omega, by omega, by omega, by omega, by omega⟩
                simp [BlkIn, nth, blkOf, vaddr] at hin
                all_goals
                  simp at this
                  omega
              · intro g hg
                have : w.heap.size ≤ g ∧ g ≠ b7 ∧ g ≠ b10 ∧ g ≠ b12 ∧ g ≠ b19 := by
                  rcases hfr with ⟨e3, _⟩ | ⟨b', e3, hle, _⟩
                  · rw [e3] at hg
                    have h1 := hown g hg
                    have h2 := hm.lt hg
                    simp at h1
                    exact ⟨h1.1, h1.2.1, h1.2.2.1, h1.2.2.2, by omega⟩
                  · rw [e3] at hg
                    cases hg
                    have e7 := h13.lt (i := 7) (b := b7) (by simp [keys]) rfl
                    have e10 := h13.lt (i := 10) (b := b10) (by simp [keys]) rfl
                    have e12 := h13.lt (i := 12) (b := b12) (by simp [keys]) rfl
                    have e19 := h13.lt (i := 19) (b := b19) (by simp [keys]) rfl
                    have e0 : w.heap.size ≤ w13.heap.size := h13.base.size
                    exact ⟨by omega, by omega, by omega, by omega, by omega⟩
                exact ⟨this.1, by simp; omega⟩
              · simp only [denL, SV.den, IE.den, nth, vint]
                omega
          · have hi' : partA b o lba' n' ≤ x := hi
            refine den_ob64 (by simp only [IE.den, nth, vint]; omega) (den_ob64 (by simp only [IE.den, nth, vint]; omega) (den_leaf' fun w13 h13 => (if_neg (by decide)).mpr ((if_pos rfl).mpr ⟨⟨lba' + partA b o lba' n', n' - partA b o lba' n', s', L ++ chunk (u) lba' (partA b o lba' n'), rfl, ?_, by omega, by omega, ?_, fun R hR => ?_, hown⟩, ?_⟩)))
            · rw [show chunk (u) lba' (partA b o lba' n') = (if x = 0 then [] else [(lba', partA b o lba' n')]) from by unfold chunk; rw [if_pos (by omega), if_neg (by omega)]]
              exact hm.kept h13.kept fun g hg hin => by
                have := (hown g hg).2
                simp [BlkIn, nth, blkOf, vaddr] at hin
                all_goals
                  simp at this
                  omega
            · have hlen := hI.len
              rw [show chunk (u) lba' (partA b o lba' n') = (if x = 0 then [] else [(lba', partA b o lba' n')]) from by unfold chunk; rw [if_pos (by omega), if_neg (by omega)]]
              rw [if_neg (by omega)]
              simp
              omega
            · rw [List.append_assoc]
              exact hI.cut _ (.cons hn' hR)
            · show (n' - partA b o lba' n').toNat < n'.toNat
              omega
    · have hn' : n' ≤ 0 := hn
      refine ⟨_, rfl, ⟨s, 0, rfl, .inr ⟨hok, rfl, L, ?_, ?_, ?_, fun g hg => (hI.own g hg).1⟩⟩, h9.base⟩
      · have := hI.cut [] (.nil hn'); simpa using this
      · have := hI.len; have := hI.le; omega
      · exact hI.mine.kept h9.kept fun g hg hin => by
          have := (hI.own g hg).2
          simp [BlkIn, nth, blkOf, vaddr] at hin
          all_goals
            simp at this
            omega
end Go.Proofs.Ytfjimghpjopgoaa
