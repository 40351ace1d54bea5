/- What the functions of the chapter come to, printed by a program of the prover's and checked by the kernel. No conditions. -/
import Derived.Test.YtfjlnfgbfclgbaaSxZI
import Derived.Test.YtfjlnfgbfclgbaaProg
import Derived.KernelRfl
set_option maxRecDepth 100000
set_option linter.unusedVariables false
namespace Go.Proofs.Ytfjlnfgbfclgbaa
open Go.Sx

theorem t34k : exFn { P := Try.prog } 34 [.ptr 0 0, .ptr 2 0] [.ptr, .int .u32, .ptr, .ptr, .int .i64, .int .u32, .slice, .slice, .map] [(0, [.int .u32 (.var 1)]), (2, [.ptr 3 0]), (3, [.int .i64 (.var 4), .int .u32
 (.var 5), .var 6, .var 7, .var 8])] = .start true [3] [0, 2, 3] [(0, [.int .u32 (.var 1)]), (2, [.ptr 3 0]), (3, [.int .i64 (.var 4), .int .u32 (.var 1), .var 6, .var 7, .var
 8])] (.call 36 [.var 7] [.slice] (.var 9) [] true [] [] [0, 2, 3] [(0, [.int .u32 (.var 1)]), (2, [.ptr 3 0]), (3, [.int .i64 (.var 4), .int .u32 (.var 1), .var 6, .var
 7, .var 8])] (.call 35 [.var 9, .fn 37 [.ptr 0 0]] [.slice] (.var 10) [] true [] [] [0, 2, 3] [(0, [.int .u32 (.var 1)]), (2, [.ptr 3 0]), (3, [.int .i64 (.var 4), .int
 .u32 (.var 1), .var 6, .var 7, .var 8])] (.leaf 0 [.tuple []] [3] [(0, [.int .u32 (.var 1)]), (2, [.ptr 3 0]), (3, [.int .i64 (.var 4), .int .u32 (.var 1), .var 6,
 .var 10, .var 8])]))) := by kernel_rfl

theorem t55k : exFn { P := Try.prog } 55 [.ptr 0 0] [.ptr, .ptr, .int .i64, .int .u32, .slice, .slice, .map] [(0, [.ptr 1 0]), (1, [.int .i64 (.var 2), .int .u32 (.var 3), .var 4, .var 5, .var 6])] = .start true [] [0,
 1] [(0, [.ptr 1 0]), (1, [.int .i64 (.var 2), .int .u32 (.var 3), .var 4, .var 5, .var 6])] (.both (.gen (.makeMap 69 none) 69 [] [.map] (.var 7) [] true [] [] [0, 1] [(0,
 [.ptr 1 0]), (1, [.int .i64 (.var 2), .int .u32 (.var 3), .var 4, .var 5, .var 6])] (.leaf 0 [.tuple []] [1] [(0, [.ptr 1 0]), (1, [.int .i64 (.var 2), .int .u32
 (.lit 0), .cst (.slice none 0 0), .cst (.slice none 0 0), .var 7])])) (.gen (.makeMap 69 none) 69 [] [.map] (.var 7) [] true [] [] [0, 1] [(0, [.ptr 1 0]), (1, [.int .i64 (.var
 2), .int .u32 (.var 3), .var 4, .var 5, .var 6])] (.leaf 0 [.tuple []] [1] [(0, [.ptr 1 0]), (1, [.int .i64 (.var 2), .int .u32 (.lit 0), .cst (.slice none 0 0),
 .cst (.slice none 0 0), .var 7])]))) := by kernel_rfl

end Go.Proofs.Ytfjlnfgbfclgbaa
