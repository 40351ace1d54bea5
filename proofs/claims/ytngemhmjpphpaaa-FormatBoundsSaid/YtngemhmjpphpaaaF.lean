/- What the functions of the law FormatPlaces return, each for every argument that its theorem names. No conditions beyond those. -/
import Derived.Test.YtngemhmjpphpaaaE
import Derived.Test.YtngemhmjpphpaaaProg
import Derived.KernelRfl
set_option maxRecDepth 100000
set_option maxHeartbeats 4000000
set_option linter.unusedVariables false
set_option linter.unusedSimpArgs false
namespace Go.Proofs.Ytngemhmjpphpaaa
open Go.Sx

theorem c3 (z m : Int) (x : Bool) (t : Int) (fi : Bool) (lba blocks : Int) (h1 : lba ≤ 9223372036854775807) (h2 : blocks ≤ 9223372036854775807) (w : World) :
    Gives Try.prog 3 [fmtV z m x t fi, .int .i64 lba, .int .i64 blocks] w (.bool true) := by
  refine gives mix t3 rfl rfl (ε := [.int .i64 z, .int .i64 m, .bool x, .int .i64 t, .bool fi, .int .i64 lba, .int .i64 blocks]) (fitsF _ _ _ _ _ ⟨⟨_, rfl⟩, ⟨_, rfl⟩, trivial⟩) (den_blk fun b _ _ _ => ?_)
  refine den_norm (by simp only [List.cons_append, List.nil_append]; rfl) ?_
  refine den_call [.int .i64 (plS z m x t fi lba), .int .i64 (plI z m x t fi lba), .int .i64 (plE z m x t fi lba)] ⟨⟨_, rfl⟩, ⟨_, rfl⟩, ⟨_, rfl⟩, trivial⟩ rfl (fun w _ => c10 z m x t fi lba h1 w) (fun _ _ _ _ => ?_)
  refine den_norm (by simp only [List.cons_append, List.nil_append]; rfl) ?_
  refine den_call [.int .i64 (plS z m x t fi lba), .int .i64 (plI z m x t fi lba), .int .i64 (plE z m x t fi lba)] ⟨⟨_, rfl⟩, ⟨_, rfl⟩, ⟨_, rfl⟩, trivial⟩ rfl (fun w _ => c11 z m x t fi lba h1 w) (fun _ _ _ _ => ?_)
  refine den_norm (by simp only [List.cons_append, List.nil_append]; rfl) ?_
  refine den_call [.int .i64 (scN z m x t fi blocks), .int .i64 (plE z m x t fi blocks)] ⟨⟨_, rfl⟩, ⟨_, rfl⟩, trivial⟩ rfl (fun w _ => c12 z m x t fi blocks h2 w) (fun _ _ _ _ => ?_)
  refine den_norm (by simp only [List.cons_append, List.nil_append]; rfl) ?_
  refine den_call [.int .i64 (scN z m x t fi blocks), .int .i64 (plE z m x t fi blocks)] ⟨⟨_, rfl⟩, ⟨_, rfl⟩, trivial⟩ rfl (fun w _ => c13 z m x t fi blocks h2 w) (fun _ _ _ _ => ?_)
  refine den_norm (by simp only [List.cons_append, List.nil_append]; rfl) (den_start1 fun _ _ => ?_)
  refine den_call_bool (b := fOk z m x t fi) (fun w _ => c14 z m x t fi w) rfl (fun _ _ _ _ => ?_)
  refine den_norm (by simp only [List.cons_append, List.nil_append]; rfl) ?_
  refine den_call_bool (b := fOk z m x t fi) (fun w _ => c15 z m x t fi w) rfl (fun _ _ _ _ => ?_)
  refine den_norm (by simp only [List.cons_append, List.nil_append]; rfl) (den_split_true (by simp [BE.den, nth, vbool]) ?_)
  refine den_call_int (x := per z m x t fi) (fun w _ => c16 z m x t fi w) rfl (fun _ _ _ _ => ?_)
  refine den_norm (by simp only [List.cons_append, List.nil_append]; rfl) ?_
  refine den_call_int (x := per z m x t fi) (fun w _ => c17 z m x t fi w) rfl (fun _ _ _ _ => ?_)
  refine den_norm (by simp only [List.cons_append, List.nil_append]; rfl) ?_
  refine den_split_true (by simp [BE.den, IE.den, nth, vint]) (den_split_true (by simp [BE.den, IE.den, nth, vint]) (den_split_true (by simp [BE.den, IE.den, nth, vint]) ?_))
  refine den_call_int (x := plE z m x t fi lba) (fun w _ => c18 _ w) rfl (fun _ _ _ _ => ?_)
  refine den_norm (by simp only [List.cons_append, List.nil_append]; rfl) ?_
  refine den_split_true (by simp [BE.den, IE.den, nth, vint]) (den_split_true (by simp [BE.den, IE.den, nth, vint]) ?_)
  refine den_call_int (x := plE z m x t fi blocks) (fun w _ => c18 _ w) rfl (fun _ _ _ _ => ?_)
  refine den_norm (by simp only [List.cons_append, List.nil_append]; rfl) (den_split_true (by simp [BE.den, IE.den, nth, vint]) ?_)
  exact den_call_bool (b := true) (fun w _ => c19 w) rfl (fun _ _ _ _ => den_leaf rfl)
end Go.Proofs.Ytngemhmjpphpaaa
