/- What law.works returns. No conditions. -/
import Derived.Test.YtngemhmjpphpaaaEC
import Derived.Test.YtngemhmjpphpaaaED
set_option maxRecDepth 100000
set_option maxHeartbeats 4000000
set_option linter.unusedVariables false
set_option linter.unusedSimpArgs false
namespace Go.Proofs.Ytngemhmjpphpaaa
open Go.Sx

theorem c38 (w : World) : Gives Try.prog 38 [] w (fmtV 512 8 false 1 false) := by
  refine gives mix t38 rfl rfl (ε := []) trivial (den_blk fun b _ _ _ => den_leaf rfl)
theorem g10 (w : World) : Gives Try.prog 10 [fmtV 512 8 false 1 false, .int .i64 17] w (.tuple #[.int .i64 2, .int .i64 1, .int .i64 0]) := by
  have h := c10 512 8 false 1 false 17 (by decide) w
  rwa [show plS 512 8 false 1 false 17 = 2 by decide +kernel, show plI 512 8 false 1 false 17 = 1 by decide +kernel, show plE 512 8 false 1 false 17 = 0 by decide +kernel] at h
theorem g12 (w : World) : Gives Try.prog 12 [fmtV 512 8 false 1 false, .int .i64 17] w (.tuple #[.int .i64 3, .int .i64 0]) := by
  have h := c12 512 8 false 1 false 17 (by decide) w
  rwa [show scN 512 8 false 1 false 17 = 3 by decide +kernel, show plE 512 8 false 1 false 17 = 0 by decide +kernel] at h
theorem g16a (w : World) : Gives Try.prog 16 [fmtV 512 8 false 1 false] w (.int .i64 8) := by
  have h := c16 512 8 false 1 false w
  rwa [show per 512 8 false 1 false = 8 by decide +kernel] at h
theorem g16b (w : World) : Gives Try.prog 16 [fmtV 4096 0 false 0 false] w (.int .i64 1) := by
  have h := c16 4096 0 false 0 false w
  rwa [show per 4096 0 false 0 false = 1 by decide +kernel] at h
theorem g16c (w : World) : Gives Try.prog 16 [fmtV 512 64 false 1 false] w (.int .i64 7) := by
  have h := c16 512 64 false 1 false w
  rwa [show per 512 64 false 1 false = 7 by decide +kernel] at h
theorem g23a (w : World) : Gives Try.prog 23 [fmtV 512 8 false 1 false, .int .i64 2, .bool false, .int .i64 1024, .int .i64 16, .int .i64 0] w (.bool true) :=
  (c23 512 8 false 1 false 2 false 1024 16 0 w).to (congrArg Value.bool (by decide +kernel))
theorem g23b (w : World) : Gives Try.prog 23 [fmtV 512 8 false 1 false, .int .i64 2, .bool true, .int .i64 1024, .int .i64 0, .int .i64 0] w (.bool true) :=
  (c23 512 8 false 1 false 2 true 1024 0 0 w).to (congrArg Value.bool (by decide +kernel))
theorem g23c (w : World) : Gives Try.prog 23 [fmtV 512 8 true 1 false, .int .i64 2, .bool false, .int .i64 1040, .int .i64 0, .int .i64 0] w (.bool true) :=
  (c23 512 8 true 1 false 2 false 1040 0 0 w).to (congrArg Value.bool (by decide +kernel))
theorem g23d (w : World) : Gives Try.prog 23 [fmtV 4096 0 false 0 false, .int .i64 2, .bool true, .int .i64 0, .int .i64 0, .int .i64 2] w (.bool true) :=
  (c23 4096 0 false 0 false 2 true 0 0 2 w).to (congrArg Value.bool (by decide +kernel))

theorem g21a (s s' : Value) (w : World) (hd : Given byteE w s (List.replicate 512 (0 : Int))) (hm : Given byteE w s' (List.replicate 7 (0 : Int))) :
    GivesR Try.prog 21 [fmtV 512 8 false 1 false, .int .i64 1, .bool false, s, s'] w (fun v _ => ∃ l : List Value, Fits [Base.slice, Base.int .i64] l ∧ v = .tuple l.toArray ∧ ∃ a c, l = [.slice a 0 c, .int .i64 4]) := by
  refine (c21 512 8 false 1 false 1 false s s' _ _ w hd hm).mono ?_
  rintro v w' ⟨r, LV, rfl, hB⟩
  have e : spE 512 8 false 1 false 1 false (List.replicate 512 (0 : Int)).length (List.replicate 7 (0 : Int)).length = 4 := by
    rw [List.length_replicate, List.length_replicate]; decide +kernel
  have hl := hB.len
  unfold splL at hl
  rw [if_neg (by rw [e]; decide)] at hl
  obtain ⟨a, c, rfl⟩ := hB.slice
  exact ⟨[.slice a LV.length c, .int .i64 4], ⟨⟨_, _, _, rfl⟩, ⟨_, rfl⟩, trivial⟩, by rw [e], a, c, by rw [hl]; rfl⟩
theorem g21b (w : World) : GivesR Try.prog 21 [fmtV 512 8 false 1 false, .int .i64 0, .bool false, .slice none 0 0, .slice none 0 0] w (fun v _ => ∃ l : List Value, Fits [Base.slice, Base.int .i64] l ∧ v = .tuple l.toArray ∧ ∃ a c, l = [.slice a 0 c, .int .i64 0]) := by
  refine (c21 512 8 false 1 false 0 false _ _ _ _ w given_nil given_nil).mono ?_
  rintro v w' ⟨r, LV, rfl, hB⟩
  have e : spE 512 8 false 1 false 0 false ([] : List Int).length ([] : List Int).length = 0 := by decide +kernel
  have hl := hB.len
  unfold splL at hl
  rw [if_pos e] at hl
  obtain ⟨a, c, rfl⟩ := hB.slice
  exact ⟨[.slice a LV.length c, .int .i64 0], ⟨⟨_, _, _, rfl⟩, ⟨_, rfl⟩, trivial⟩, by rw [e], a, c, by rw [hl]; rfl⟩

theorem c19 (w : World) : Gives Try.prog 19 [] w (.bool true) := by
  refine gives mix t19 rfl rfl (ε := []) trivial ?_
  refine den_call [.int .i64 512, .int .i64 8, .bool false, .int .i64 1, .bool false] ⟨⟨_, rfl⟩, ⟨_, rfl⟩, ⟨_, rfl⟩, ⟨_, rfl⟩, ⟨_, rfl⟩, trivial⟩ rfl (fun w _ => c38 w) (fun _ _ _ _ => den_norm (by simp only [List.cons_append, List.nil_append]; rfl) ?_)
  refine den_call [.int .i64 512, .int .i64 8, .bool false, .int .i64 1, .bool false] ⟨⟨_, rfl⟩, ⟨_, rfl⟩, ⟨_, rfl⟩, ⟨_, rfl⟩, ⟨_, rfl⟩, trivial⟩ rfl (fun w _ => c38 w) (fun _ _ _ _ => den_norm (by simp only [List.cons_append, List.nil_append]; rfl) ?_)
  refine den_call [.int .i64 512, .int .i64 8, .bool false, .int .i64 1, .bool false] ⟨⟨_, rfl⟩, ⟨_, rfl⟩, ⟨_, rfl⟩, ⟨_, rfl⟩, ⟨_, rfl⟩, trivial⟩ rfl (fun w _ => c38 w) (fun _ _ _ _ => den_norm (by simp only [List.cons_append, List.nil_append]; rfl) ?_)
  refine den_blk fun b1 k1 _ _ => den_norm (by simp only [List.cons_append, List.nil_append]; rfl) (den_blk fun b2 k2 _ _ => den_norm (by simp only [List.cons_append, List.nil_append]; rfl) (den_blk fun b3 k3 _ _ => den_norm (by simp only [List.cons_append, List.nil_append]; rfl) (den_blk fun b4 k4 _ _ => den_norm (by simp only [List.cons_append, List.nil_append]; rfl) ?_)))
  refine den_call [.int .i64 2, .int .i64 1, .int .i64 0] ⟨⟨_, rfl⟩, ⟨_, rfl⟩, ⟨_, rfl⟩, trivial⟩ rfl (fun w _ => g10 w) (fun _ _ _ _ => den_norm (by simp only [List.cons_append, List.nil_append]; rfl) ?_)
  refine den_call [.int .i64 3, .int .i64 0] ⟨⟨_, rfl⟩, ⟨_, rfl⟩, trivial⟩ rfl (fun w _ => g12 w) (fun _ _ _ _ => den_norm (by simp only [List.cons_append, List.nil_append]; rfl) ?_)
  refine den_call_int (x := 8) (fun w _ => g16a w) rfl (fun _ _ _ _ => den_norm (by simp only [List.cons_append, List.nil_append]; rfl) ?_)
  repeat' (first | refine den_ob rfl ?_ | refine den_split_false rfl ?_ | refine den_split_true rfl ?_)
  refine den_call_int (x := 1) (fun w _ => g16b w) rfl (fun _ _ _ _ => den_norm (by simp only [List.cons_append, List.nil_append]; rfl) ?_)
  repeat' (first | refine den_ob rfl ?_ | refine den_split_false rfl ?_ | refine den_split_true rfl ?_)
  refine den_call_int (x := 7) (fun w _ => g16c w) rfl (fun _ _ _ _ => den_norm (by simp only [List.cons_append, List.nil_append]; rfl) ?_)
  repeat' (first | refine den_ob rfl ?_ | refine den_split_false rfl ?_ | refine den_split_true rfl ?_)
  refine den_call_int (x := 0) (fun w _ => c18 0 w) rfl (fun _ _ _ _ => den_norm (by simp only [List.cons_append, List.nil_append]; rfl) ?_)
  refine den_call_int (x := 0) (fun w _ => c18 0 w) rfl (fun _ _ _ _ => den_norm (by simp only [List.cons_append, List.nil_append]; rfl) ?_)
  repeat' (first | refine den_ob rfl ?_ | refine den_split_false rfl ?_ | refine den_split_true rfl ?_)
  refine den_start1 (fun _ _ => den_both ?_ ?_)
  · refine den_make (n := 512) u40 i5 z5 rfl rfl (by have := by5; omega) (by omega) (fun v => rfl) (fun w7 bm w8 h7 hbm hhm h78 => den_norm (by simp only [List.cons_append, List.nil_append]; rfl) ?_)
    have hM8 := mine_zeros (m := 512) (by omega) hhm
    refine den_make (n := 7) u40 i5 z5 rfl rfl (by have := by5; omega) (by omega) (fun v => rfl) (fun w9 bn w10 h9 hbn hhn h910 => den_norm (by simp only [List.cons_append, List.nil_append]; rfl) ?_)
    have hM10 := (hM8.same (shown_same h9)).same h910
    have hN10 := mine_zeros (m := 7) (by omega) hhn
    refine den_callR (fun _ l _ => ∃ a c, l = [.slice a 0 c, .int .i64 4]) (fun w hw => (g21a _ _ w (hM10.same (shown_same hw)).given (hN10.same (shown_same hw)).given).mono ?_) ?_
    · rintro v w' ⟨l, h1, h2, a, c, rfl⟩; exact ⟨_, h1, h2, a, c, rfl⟩
    rintro w1 _ w2 _ _ ⟨a5, c5, rfl⟩ _
    refine den_norm (by simp only [List.cons_append, List.nil_append]; rfl) ?_
    refine den_callR (fun _ l _ => ∃ a c, l = [.slice a 0 c, .int .i64 0]) (fun w _ => (g21b w).mono ?_) ?_
    · rintro v w' ⟨l, h1, h2, a, c, rfl⟩; exact ⟨_, h1, h2, a, c, rfl⟩
    rintro w3 _ w4 _ _ ⟨a3, c3, rfl⟩ _
    refine den_norm (by simp only [List.cons_append, List.nil_append]; rfl) ?_
    refine den_call_bool (b := true) (fun w _ => g23a w) rfl (fun _ _ _ _ => den_norm (by simp only [List.cons_append, List.nil_append]; rfl) ?_)
    repeat' (first | refine den_ob rfl ?_ | refine den_split_false rfl ?_ | refine den_split_true rfl ?_)
    refine den_call_bool (b := true) (fun w _ => g23b w) rfl (fun _ _ _ _ => den_norm (by simp only [List.cons_append, List.nil_append]; rfl) ?_)
    repeat' (first | refine den_ob rfl ?_ | refine den_split_false rfl ?_ | refine den_split_true rfl ?_)
    refine den_call_bool (b := true) (fun w _ => g23c w) rfl (fun _ _ _ _ => den_norm (by simp only [List.cons_append, List.nil_append]; rfl) ?_)
    repeat' (first | refine den_ob rfl ?_ | refine den_split_false rfl ?_ | refine den_split_true rfl ?_)
    refine den_call_bool (b := true) (fun w _ => g23d w) rfl (fun _ _ _ _ => den_norm (by simp only [List.cons_append, List.nil_append]; rfl) ?_)
    repeat' (first | refine den_ob rfl ?_ | refine den_split_false rfl ?_ | refine den_split_true rfl ?_)
    refine den_call_int (x := 4) (fun w _ => c18 4 w) rfl (fun _ _ _ _ => den_norm (by simp only [List.cons_append, List.nil_append]; rfl) ?_)
    repeat' (first | refine den_ob rfl ?_ | refine den_split_false rfl ?_ | refine den_split_true rfl ?_)
    refine den_call_int (x := 0) (fun w _ => c18 0 w) rfl (fun _ _ _ _ => den_norm (by simp only [List.cons_append, List.nil_append]; rfl) ?_)
    repeat' (first | refine den_ob rfl ?_ | refine den_split_false rfl ?_ | refine den_split_true rfl ?_)
    exact den_leaf rfl
  · refine den_make (n := 7) u40 i5 z5 rfl rfl (by have := by5; omega) (by omega) (fun v => rfl) (fun w7 bm w8 h7 hbm hhm h78 => den_norm (by simp only [List.cons_append, List.nil_append]; rfl) ?_)
    have hM8 := mine_zeros (m := 7) (by omega) hhm
    refine den_make (n := 512) u40 i5 z5 rfl rfl (by have := by5; omega) (by omega) (fun v => rfl) (fun w9 bn w10 h9 hbn hhn h910 => den_norm (by simp only [List.cons_append, List.nil_append]; rfl) ?_)
    have hM10 := (hM8.same (shown_same h9)).same h910
    have hN10 := mine_zeros (m := 512) (by omega) hhn
    refine den_callR (fun _ l _ => ∃ a c, l = [.slice a 0 c, .int .i64 4]) (fun w hw => (g21a _ _ w (hN10.same (shown_same hw)).given (hM10.same (shown_same hw)).given).mono ?_) ?_
    · rintro v w' ⟨l, h1, h2, a, c, rfl⟩; exact ⟨_, h1, h2, a, c, rfl⟩
    rintro w1 _ w2 _ _ ⟨a5, c5, rfl⟩ _
    refine den_norm (by simp only [List.cons_append, List.nil_append]; rfl) ?_
    refine den_callR (fun _ l _ => ∃ a c, l = [.slice a 0 c, .int .i64 0]) (fun w _ => (g21b w).mono ?_) ?_
    · rintro v w' ⟨l, h1, h2, a, c, rfl⟩; exact ⟨_, h1, h2, a, c, rfl⟩
    rintro w3 _ w4 _ _ ⟨a3, c3, rfl⟩ _
    refine den_norm (by simp only [List.cons_append, List.nil_append]; rfl) ?_
    refine den_call_bool (b := true) (fun w _ => g23a w) rfl (fun _ _ _ _ => den_norm (by simp only [List.cons_append, List.nil_append]; rfl) ?_)
    repeat' (first | refine den_ob rfl ?_ | refine den_split_false rfl ?_ | refine den_split_true rfl ?_)
    refine den_call_bool (b := true) (fun w _ => g23b w) rfl (fun _ _ _ _ => den_norm (by simp only [List.cons_append, List.nil_append]; rfl) ?_)
    repeat' (first | refine den_ob rfl ?_ | refine den_split_false rfl ?_ | refine den_split_true rfl ?_)
    refine den_call_bool (b := true) (fun w _ => g23c w) rfl (fun _ _ _ _ => den_norm (by simp only [List.cons_append, List.nil_append]; rfl) ?_)
    repeat' (first | refine den_ob rfl ?_ | refine den_split_false rfl ?_ | refine den_split_true rfl ?_)
    refine den_call_bool (b := true) (fun w _ => g23d w) rfl (fun _ _ _ _ => den_norm (by simp only [List.cons_append, List.nil_append]; rfl) ?_)
    repeat' (first | refine den_ob rfl ?_ | refine den_split_false rfl ?_ | refine den_split_true rfl ?_)
    refine den_call_int (x := 4) (fun w _ => c18 4 w) rfl (fun _ _ _ _ => den_norm (by simp only [List.cons_append, List.nil_append]; rfl) ?_)
    repeat' (first | refine den_ob rfl ?_ | refine den_split_false rfl ?_ | refine den_split_true rfl ?_)
    refine den_call_int (x := 0) (fun w _ => c18 0 w) rfl (fun _ _ _ _ => den_norm (by simp only [List.cons_append, List.nil_append]; rfl) ?_)
    repeat' (first | refine den_ob rfl ?_ | refine den_split_false rfl ?_ | refine den_split_true rfl ?_)
    exact den_leaf rfl
end Go.Proofs.Ytngemhmjpphpaaa