/- What the functions of the law FormatPlaces return, each for every argument that its theorem names. No conditions beyond those. -/
import Derived.Test.YtngemhmjpphpaaaD
import Derived.Test.YtngemhmjpphpaaaProg
import Derived.KernelRfl
set_option maxRecDepth 100000
set_option maxHeartbeats 4000000
set_option linter.unusedVariables false
set_option linter.unusedSimpArgs false
namespace Go.Proofs.Ytngemhmjpphpaaa
open Go.Sx

theorem c19 (w : World) : Gives Try.prog 19 [] w (.bool true) := by
  refine gives mix t19 rfl rfl (ε := []) trivial ?_
  refine den_call [.int .i64 512, .int .i64 8, .bool false, .int .i64 1, .bool false] (fitsF _ _ _ _ _ trivial) rfl (fun w _ => c38 w) (fun _ _ _ _ => ?_)
  refine den_norm (by simp only [List.cons_append, List.nil_append]; rfl) ?_
  refine den_call [.int .i64 512, .int .i64 8, .bool false, .int .i64 1, .bool false] (fitsF _ _ _ _ _ trivial) rfl (fun w _ => c38 w) (fun _ _ _ _ => ?_)
  refine den_norm (by simp only [List.cons_append, List.nil_append]; rfl) ?_
  refine den_call [.int .i64 512, .int .i64 8, .bool false, .int .i64 1, .bool false] (fitsF _ _ _ _ _ trivial) rfl (fun w _ => c38 w) (fun _ _ _ _ => ?_)
  refine den_norm (by simp only [List.cons_append, List.nil_append]; rfl) ?_
  refine den_blk (fun _ _ _ _ => den_blk (fun _ _ _ _ => den_blk (fun _ _ _ _ => den_blk (fun _ _ _ _ => ?_))))
  refine den_norm (by simp only [List.cons_append, List.nil_append]; rfl) ?_
  refine den_call [.int .i64 2, .int .i64 1, .int .i64 0] ⟨⟨_, rfl⟩, ⟨_, rfl⟩, ⟨_, rfl⟩, trivial⟩ rfl (fun w _ => g10 w) (fun _ _ _ _ => ?_)
  refine den_norm (by simp only [List.cons_append, List.nil_append]; rfl) ?_
  refine den_call [.int .i64 3, .int .i64 0] ⟨⟨_, rfl⟩, ⟨_, rfl⟩, trivial⟩ rfl (fun w _ => g12 w) (fun _ _ _ _ => ?_)
  refine den_norm (by simp only [List.cons_append, List.nil_append]; rfl) ?_
  refine den_call_int (x := 8) (fun w _ => g16a w) rfl (fun _ _ _ _ => ?_)
  refine den_norm (by simp only [List.cons_append, List.nil_append]; rfl) ?_
  repeat' (first | refine den_ob rfl ?_ | refine den_split_false rfl ?_ | refine den_split_true rfl ?_)
  refine den_call_int (x := 1) (fun w _ => g16b w) rfl (fun _ _ _ _ => ?_)
  refine den_norm (by simp only [List.cons_append, List.nil_append]; rfl) ?_
  repeat' (first | refine den_ob rfl ?_ | refine den_split_false rfl ?_ | refine den_split_true rfl ?_)
  refine den_call_int (x := 7) (fun w _ => g16c w) rfl (fun _ _ _ _ => ?_)
  refine den_norm (by simp only [List.cons_append, List.nil_append]; rfl) ?_
  repeat' (first | refine den_ob rfl ?_ | refine den_split_false rfl ?_ | refine den_split_true rfl ?_)
  refine den_call_int (x := 0) (fun w _ => c18 0 w) rfl (fun _ _ _ _ => ?_)
  refine den_norm (by simp only [List.cons_append, List.nil_append]; rfl) ?_
  refine den_call_int (x := 0) (fun w _ => c18 0 w) rfl (fun _ _ _ _ => ?_)
  refine den_norm (by simp only [List.cons_append, List.nil_append]; rfl) ?_
  repeat' (first | refine den_ob rfl ?_ | refine den_split_false rfl ?_ | refine den_split_true rfl ?_)
  refine den_start1 (fun _ _ => den_both ?_ ?_)
  · refine den_make40 512 rfl (by decide) (fun _ => rfl) (fun _ b1 _ _ _ _ _ => den_norm (by simp only [List.cons_append, List.nil_append]; rfl) (den_make40 7 rfl (by decide) (fun _ => rfl) (fun _ b2 _ _ _ _ _ => ?_)))
    refine den_norm (by simp only [List.cons_append, List.nil_append]; rfl) ?_
    refine den_call [.slice none 0 0, .int .i64 4] ⟨⟨_, _, _, rfl⟩, ⟨_, rfl⟩, trivial⟩ rfl (fun w _ => g21a _ _ w) (fun _ _ _ _ => ?_)
    refine den_norm (by simp only [List.cons_append, List.nil_append]; rfl) ?_
    refine den_callR (fun _ l _ => ∃ a c, l = [.slice a 0 c, .int .i64 0]) (fun w _ => (g21b w).mono ?_) ?_
    · rintro v w' ⟨l, h1, h2, a, c, rfl⟩; exact ⟨_, h1, h2, a, c, rfl⟩
    rintro w1 _ w2 _ _ ⟨a3, c3, rfl⟩ _
    refine den_norm (by simp only [List.cons_append, List.nil_append]; rfl) ?_
    refine den_call_bool (b := true) (fun w _ => g23a w) rfl (fun _ _ _ _ => ?_)
    refine den_norm (by simp only [List.cons_append, List.nil_append]; rfl) ?_
    repeat' (first | refine den_ob rfl ?_ | refine den_split_false rfl ?_ | refine den_split_true rfl ?_)
    refine den_call_bool (b := true) (fun w _ => g23b w) rfl (fun _ _ _ _ => ?_)
    refine den_norm (by simp only [List.cons_append, List.nil_append]; rfl) ?_
    repeat' (first | refine den_ob rfl ?_ | refine den_split_false rfl ?_ | refine den_split_true rfl ?_)
    refine den_call_bool (b := true) (fun w _ => g23c w) rfl (fun _ _ _ _ => ?_)
    refine den_norm (by simp only [List.cons_append, List.nil_append]; rfl) ?_
    repeat' (first | refine den_ob rfl ?_ | refine den_split_false rfl ?_ | refine den_split_true rfl ?_)
    refine den_call_bool (b := true) (fun w _ => g23d w) rfl (fun _ _ _ _ => ?_)
    refine den_norm (by simp only [List.cons_append, List.nil_append]; rfl) ?_
    repeat' (first | refine den_ob rfl ?_ | refine den_split_false rfl ?_ | refine den_split_true rfl ?_)
    refine den_call_int (x := 4) (fun w _ => c18 4 w) rfl (fun _ _ _ _ => ?_)
    refine den_norm (by simp only [List.cons_append, List.nil_append]; rfl) ?_
    repeat' (first | refine den_ob rfl ?_ | refine den_split_false rfl ?_ | refine den_split_true rfl ?_)
    refine den_call_int (x := 0) (fun w _ => c18 0 w) rfl (fun _ _ _ _ => ?_)
    refine den_norm (by simp only [List.cons_append, List.nil_append]; rfl) ?_
    repeat' (first | refine den_ob rfl ?_ | refine den_split_false rfl ?_ | refine den_split_true rfl ?_)
    exact den_leaf rfl
  · refine den_make40 7 rfl (by decide) (fun _ => rfl) (fun _ b1 _ _ _ _ _ => den_norm (by simp only [List.cons_append, List.nil_append]; rfl) (den_make40 512 rfl (by decide) (fun _ => rfl) (fun _ b2 _ _ _ _ _ => ?_)))
    refine den_norm (by simp only [List.cons_append, List.nil_append]; rfl) ?_
    refine den_call [.slice none 0 0, .int .i64 4] ⟨⟨_, _, _, rfl⟩, ⟨_, rfl⟩, trivial⟩ rfl (fun w _ => g21a _ _ w) (fun _ _ _ _ => ?_)
    refine den_norm (by simp only [List.cons_append, List.nil_append]; rfl) ?_
    refine den_callR (fun _ l _ => ∃ a c, l = [.slice a 0 c, .int .i64 0]) (fun w _ => (g21b w).mono ?_) ?_
    · rintro v w' ⟨l, h1, h2, a, c, rfl⟩; exact ⟨_, h1, h2, a, c, rfl⟩
    rintro w1 _ w2 _ _ ⟨a3, c3, rfl⟩ _
    refine den_norm (by simp only [List.cons_append, List.nil_append]; rfl) ?_
    refine den_call_bool (b := true) (fun w _ => g23a w) rfl (fun _ _ _ _ => ?_)
    refine den_norm (by simp only [List.cons_append, List.nil_append]; rfl) ?_
    repeat' (first | refine den_ob rfl ?_ | refine den_split_false rfl ?_ | refine den_split_true rfl ?_)
    refine den_call_bool (b := true) (fun w _ => g23b w) rfl (fun _ _ _ _ => ?_)
    refine den_norm (by simp only [List.cons_append, List.nil_append]; rfl) ?_
    repeat' (first | refine den_ob rfl ?_ | refine den_split_false rfl ?_ | refine den_split_true rfl ?_)
    refine den_call_bool (b := true) (fun w _ => g23c w) rfl (fun _ _ _ _ => ?_)
    refine den_norm (by simp only [List.cons_append, List.nil_append]; rfl) ?_
    repeat' (first | refine den_ob rfl ?_ | refine den_split_false rfl ?_ | refine den_split_true rfl ?_)
    refine den_call_bool (b := true) (fun w _ => g23d w) rfl (fun _ _ _ _ => ?_)
    refine den_norm (by simp only [List.cons_append, List.nil_append]; rfl) ?_
    repeat' (first | refine den_ob rfl ?_ | refine den_split_false rfl ?_ | refine den_split_true rfl ?_)
    refine den_call_int (x := 4) (fun w _ => c18 4 w) rfl (fun _ _ _ _ => ?_)
    refine den_norm (by simp only [List.cons_append, List.nil_append]; rfl) ?_
    repeat' (first | refine den_ob rfl ?_ | refine den_split_false rfl ?_ | refine den_split_true rfl ?_)
    refine den_call_int (x := 0) (fun w _ => c18 0 w) rfl (fun _ _ _ _ => ?_)
    refine den_norm (by simp only [List.cons_append, List.nil_append]; rfl) ?_
    repeat' (first | refine den_ob rfl ?_ | refine den_split_false rfl ?_ | refine den_split_true rfl ?_)
    exact den_leaf rfl
end Go.Proofs.Ytngemhmjpphpaaa
