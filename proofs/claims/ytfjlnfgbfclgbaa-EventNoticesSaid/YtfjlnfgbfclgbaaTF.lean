/- What the functions of the chapter come to, printed by a program of the prover's and checked by the kernel. No conditions. -/
import Derived.Test.YtfjlnfgbfclgbaaSxZI
import Derived.Test.YtfjlnfgbfclgbaaProg
import Derived.KernelRfl
set_option maxRecDepth 100000
set_option linter.unusedVariables false
namespace Go.Proofs.Ytfjlnfgbfclgbaa
open Go.Sx

theorem t34k : exFn { P := Try.prog } 34 [.ptr 0 0, .ptr 2 0] [.ptr, .int .u32, .ptr, .ptr, .int .i64, .int .u32, .slice, .slice, .map] [(0, [.int .u32 (.var 1)]), (2, [.ptr 3 0]), (3, [.int .i64 (.var 4), .int .u32
 (.var 5), .var 6, .var 7, .var 8])] = VC.start true [3] [0, 2, 3] [(0, [SV.int IntKind.u32 (IE.var 1)]), (2, [SV.ptr 3 0]), (3, [SV.int IntKind.i64 (IE.var 4), SV.int IntKind.u32 (IE.var 1), SV.var 6, SV.var 7, SV.var
 8])] (VC.call 36 [SV.var 7] [Base.slice] (SV.var 9) [] true [] [] [0, 2, 3] [(0, [SV.int IntKind.u32 (IE.var 1)]), (2, [SV.ptr 3 0]), (3, [SV.int IntKind.i64 (IE.var 4), SV.int IntKind.u32 (IE.var 1), SV.var 6, SV.var
 7, SV.var 8])] (VC.call 35 [SV.var 9, SV.fn 37 [SV.ptr 0 0]] [Base.slice] (SV.var 10) [] true [] [] [0, 2, 3] [(0, [SV.int IntKind.u32 (IE.var 1)]), (2, [SV.ptr 3 0]), (3, [SV.int IntKind.i64 (IE.var 4), SV.int
 IntKind.u32 (IE.var 1), SV.var 6, SV.var 7, SV.var 8])] (VC.leaf 0 [SV.tuple []] [3] [(0, [SV.int IntKind.u32 (IE.var 1)]), (2, [SV.ptr 3 0]), (3, [SV.int IntKind.i64 (IE.var 4), SV.int IntKind.u32 (IE.var 1), SV.var 6,
 SV.var 10, SV.var 8])]))) := by kernel_rfl

theorem t55k : exFn { P := Try.prog } 55 [.ptr 0 0] [.ptr, .ptr, .int .i64, .int .u32, .slice, .slice, .map] [(0, [.ptr 1 0]), (1, [.int .i64 (.var 2), .int .u32 (.var 3), .var 4, .var 5, .var 6])] = VC.start true [] [0,
 1] [(0, [SV.ptr 1 0]), (1, [SV.int IntKind.i64 (IE.var 2), SV.int IntKind.u32 (IE.var 3), SV.var 4, SV.var 5, SV.var 6])] (VC.both (VC.gen (Op.makeMap 69 none) 69 [] [Base.map] (SV.var 7) [] true [] [] [0, 1] [(0,
 [SV.ptr 1 0]), (1, [SV.int IntKind.i64 (IE.var 2), SV.int IntKind.u32 (IE.var 3), SV.var 4, SV.var 5, SV.var 6])] (VC.leaf 0 [SV.tuple []] [1] [(0, [SV.ptr 1 0]), (1, [SV.int IntKind.i64 (IE.var 2), SV.int IntKind.u32
 (IE.lit 0), SV.cst (Value.slice none 0 0), SV.cst (Value.slice none 0 0), SV.var 7])])) (VC.gen (Op.makeMap 69 none) 69 [] [Base.map] (SV.var 7) [] true [] [] [0, 1] [(0, [SV.ptr 1 0]), (1, [SV.int IntKind.i64 (IE.var
 2), SV.int IntKind.u32 (IE.var 3), SV.var 4, SV.var 5, SV.var 6])] (VC.leaf 0 [SV.tuple []] [1] [(0, [SV.ptr 1 0]), (1, [SV.int IntKind.i64 (IE.var 2), SV.int IntKind.u32 (IE.lit 0), SV.cst (Value.slice none 0 0),
 SV.cst (Value.slice none 0 0), SV.var 7])]))) := by kernel_rfl

end Go.Proofs.Ytfjlnfgbfclgbaa
