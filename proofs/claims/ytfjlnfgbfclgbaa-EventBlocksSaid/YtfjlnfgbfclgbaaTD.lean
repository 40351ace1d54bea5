/- What the functions of the chapter come to, printed by a program of the prover's and checked by the kernel. No conditions. -/
import Derived.Test.YtfjlnfgbfclgbaaSxZI
import Derived.Test.YtfjlnfgbfclgbaaProg
import Derived.KernelRfl
set_option maxRecDepth 100000
set_option linter.unusedVariables false
namespace Go.Proofs.Ytfjlnfgbfclgbaa
open Go.Sx

theorem t22 : exFn { P := Try.prog, loops := fun r => if Nat.beq r 1 then some ⟨1, [(2, .slice)], [0]⟩ else none } 22 [.ptr 0 0] [.ptr, .int .i64, .int .u32, .slice, .slice, .map] [(0, [.int .i64 (.var 1), .int .u32
 (.var 2), .var 3, .var 4, .var 5])] = .blk (.loop 1 [.cst (.slice none 0 0), .int .i64 (.var 1), .int .u32 (.var 2), .var 3, .var 4, .var 5] [.slice, .int .i64,
 .int .u32, .slice, .slice, .map] [] [6, 0] [(6, [.ptr 0 0]), (0, [.int .i64 (.var 1), .int .u32 (.var 2), .var 3, .var 4, .var 5])] [(6, [.ptr 0 0]), (0, [.int
 .i64 (.var 8), .int .u32 (.var 9), .var 10, .var 11, .var 12])] (.call 39 [.ptr 0 0] [.bool] (.bool (.var 13)) [] false [] [] [6, 0] [(6, [.ptr 0 0]), (0, [.int .i64
 (.var 8), .int .u32 (.var 9), .var 10, .var 11, .var 12])] (.split (.not (.var 13)) (.split (.lt (.lit 0) (.len 10)) (.call 43 [.var 11, .fn 44 [.ptr 6 0]] [.slice, .int
 .u8, .int .u8, .int .u8, .bool] (.tuple [.var 14, .agg [.int .u8 (.var 15), .int .u8 (.var 16), .int .u8 (.var 17)], .bool (.var 18)]) [] false
 [] [] [6, 0] [(6, [.ptr 0 0]), (0, [.int .i64 (.var 8), .int .u32 (.var 9), .var 10, .var 11, .var 12])] (.blk (.split (.not (.var 18)) (.leaf 0 [.var 7] [19] [(19, [.int
 .u8 (.var 15), .int .u8 (.var 16), .int .u8 (.var 17)]), (6, [.ptr 0 0]), (0, [.int .i64 (.var 8), .int .u32 (.var 9), .var 10, .var 11, .var 12])]) (.start
 true [19] [19, 6, 0] [(19, [.int .u8 (.var 15), .int .u8 (.var 16), .int .u8 (.var 17)]), (6, [.ptr 0 0]), (0, [.int .i64 (.var 8), .int .u32 (.var 9), .var 10,
 .var 11, .var 12])] (.ob (.lt (.lit 0) (.len 10)) (.ob (.not (.nil 10)) (.load (.elt 10 0 (.lit 0) 1 0) [.int .u16] (.call 10 [.agg [.int .u8 (.var 15), .int
 .u8 (.var 16), .int .u8 (.var 17)]] [.int .u32] (.int .u32 (.var 21)) [] true [] [] [19, 6, 0] [(19, [.int .u8 (.var 15), .int .u8 (.var 16), .int
 .u8 (.var 17)]), (6, [.ptr 0 0]), (0, [.int .i64 (.var 8), .int .u32 (.var 9), .var 10, .var 11, .var 12])] (.blk (.gen (.call { callee := .builtin .append, args := #[.tmp 29, .tmp 39], argTypes := #[46, 46] })
 46 [(.tmp 29, .var 7), (.tmp 39, .slc 22 0 1 1)] [.slice] (.var 23) [] true [] [] [22, 19, 6, 0] [(22, [.int .u16 (.var 20), .int .u32 (.var 21)]), (19, [.int .u8
 (.var 15), .int .u8 (.var 16), .int .u8 (.var 17)]), (6, [.ptr 0 0]), (0, [.int .i64 (.var 8), .int .u32 (.var 9), .var 10, .var 11, .var 12])] (.start true []
 [22, 19, 6, 0] [(22, [.int .u16 (.var 20), .int .u32 (.var 21)]), (19, [.int .u8 (.var 15), .int .u8 (.var 16), .int .u8 (.var 17)]), (6, [.ptr 0 0]), (0, [.int
 .i64 (.var 8), .int .u32 (.var 9), .var 10, .var 11, .var 12])] (.pur (.slice 35 (.tmp 46) (some (.const (.int .i64 1))) none none) 35 [(.tmp 46, .var
 10), (.const (.int .i64 1), .int .i64 (.lit 1))] [.slice] (.var 24) (.start true [0] [22, 19, 6, 0] [(22, [.int .u16 (.var 20), .int .u32 (.var 21)]), (19,
 [.int .u8 (.var 15), .int .u8 (.var 16), .int .u8 (.var 17)]), (6, [.ptr 0 0]), (0, [.int .i64 (.var 8), .int .u32 (.var 9), .var 24, .var 14, .var 12])]
 (.gen (.mapUpdate 69 (.tmp 56) (.tmp 58) (.tmp 60)) 0 [(.tmp 56, .var 12), (.tmp 58, .int .u8 (.var 15)), (.tmp 60, .int .u8 (.var 17))] [] (.cst
 (.tuple #[])) [] true [] [] [22, 19, 6, 0] [(22, [.int .u16 (.var 20), .int .u32 (.var 21)]), (19, [.int .u8 (.var 15), .int .u8 (.var 16), .int .u8 (.var
 17)]), (6, [.ptr 0 0]), (0, [.int .i64 (.var 8), .int .u32 (.var 9), .var 24, .var 14, .var 12])] (.leaf 1 [.var 23, .int .i64 (.var 8), .int .u32 (.var 9), .var
 24, .var 14, .var 12] [] [(22, [.int .u16 (.var 20), .int .u32 (.var 21)]), (19, [.int .u8 (.var 15), .int .u8 (.var 16), .int .u8 (.var 17)]), (6, [.ptr 0
 0]), (0, [.int .i64 (.var 8), .int .u32 (.var 9), .var 24, .var 14, .var 12])]))))))))))))))) (.leaf 0 [.var 7] [] [(6, [.ptr 0 0]), (0, [.int .i64 (.var 8), .int
 .u32 (.var 9), .var 10, .var 11, .var 12])])) (.leaf 0 [.var 7] [] [(6, [.ptr 0 0]), (0, [.int .i64 (.var 8), .int .u32 (.var 9), .var 10, .var 11, .var 12])])))) := by
 kernel_rfl

end Go.Proofs.Ytfjlnfgbfclgbaa
