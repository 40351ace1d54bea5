/- What the functions of the chapter come to, printed by a program of the prover's and checked by the kernel. No conditions. -/
import Derived.Test.YtfjlnfgbfclgbaaSxZI
import Derived.Test.YtfjlnfgbfclgbaaProg
import Derived.KernelRfl
set_option maxRecDepth 100000
set_option linter.unusedVariables false
namespace Go.Proofs.Ytfjlnfgbfclgbaa
open Go.Sx

theorem t20 : exFn { P := Try.prog } 20 [.var 0, .int .u16 (.var 1)] [.ptr, .int .u16] [] = .blk (.call 39 [.var 0] [.bool] (.bool (.var 3)) [] false [] [] [2] [(2, [.int .u8 (.lit 0), .int
 .u8 (.lit 0), .bool (.lit false), .bool (.lit false)])] (.split (.var 3) (.call 40 [.int .u16 (.lit 6), .bool (.lit false)] [.int .u8, .int .u8, .bool,
 .bool] (.agg [.int .u8 (.var 4), .int .u8 (.var 5), .bool (.var 6), .bool (.var 7)]) [] false [] [] [2] [(2, [.int .u8 (.lit 0), .int .u8 (.lit 0), .bool
 (.lit false), .bool (.lit false)])] (.leaf 0 [.agg [.int .u8 (.var 4), .int .u8 (.var 5), .bool (.var 6), .bool (.var 7)]] [2] [(2, [.int .u8 (.var 4), .int
 .u8 (.var 5), .bool (.var 6), .bool (.var 7)])])) (.ob (.not (.nil 0)) (.start false [] [] [(2, [.int .u8 (.lit 0), .int .u8 (.lit 0), .bool (.lit false), .bool
 (.lit false)])] (.load (.ptr 0 2) [.slice] (.call 41 [.var 4, .int .u16 (.var 1)] [.bool] (.bool (.var 5)) [] false [] [] [2] [(2, [.int .u8 (.lit 0), .int .u8
 (.lit 0), .bool (.lit false), .bool (.lit false)])] (.split (.var 5) (.call 40 [.int .u16 (.lit 3), .bool (.lit false)] [.int .u8, .int .u8, .bool, .bool]
 (.agg [.int .u8 (.var 6), .int .u8 (.var 7), .bool (.var 8), .bool (.var 9)]) [] false [] [] [2] [(2, [.int .u8 (.lit 0), .int .u8 (.lit 0), .bool (.lit false),
 .bool (.lit false)])] (.leaf 0 [.agg [.int .u8 (.var 6), .int .u8 (.var 7), .bool (.var 8), .bool (.var 9)]] [2] [(2, [.int .u8 (.var 6), .int .u8 (.var 7),
 .bool (.var 8), .bool (.var 9)])])) (.start true [] [2] [(2, [.int .u8 (.lit 0), .int .u8 (.lit 0), .bool (.lit false), .bool (.lit false)])] (.load (.ptr 0 2) [.slice]
 (.load (.ptr 0 0) [.int .i64] (.split (.eq (.len 6) (.var 7)) (.call 40 [.int .u16 (.lit 261), .bool (.lit false)] [.int .u8, .int .u8, .bool, .bool]
 (.agg [.int .u8 (.var 8), .int .u8 (.var 9), .bool (.var 10), .bool (.var 11)]) [] false [] [] [2] [(2, [.int .u8 (.lit 0), .int .u8 (.lit 0), .bool (.lit
 false), .bool (.lit false)])] (.leaf 0 [.agg [.int .u8 (.var 8), .int .u8 (.var 9), .bool (.var 10), .bool (.var 11)]] [2] [(2, [.int .u8 (.var 8), .int .u8
 (.var 9), .bool (.var 10), .bool (.var 11)])])) (.start false [] [] [(2, [.int .u8 (.lit 0), .int .u8 (.lit 0), .bool (.lit false), .bool (.lit false)])] (.load (.ptr 0 2)
 [.slice] (.call 42 [.var 8] [.slice] (.var 9) [] false [] [] [2] [(2, [.int .u8 (.lit 0), .int .u8 (.lit 0), .bool (.lit false), .bool (.lit false)])] (.blk (.gen (.call
 { callee := .builtin .append, args := #[.tmp 34, .tmp 36], argTypes := #[35, 35] }) 35 [(.tmp 34, .var 9), (.tmp 36, .slc 10 0 1 1)] [.slice] (.var 11) [] false [] []
 [10, 2] [(10, [.int .u16 (.var 1)]), (2, [.int .u8 (.lit 0), .int .u8 (.lit 0), .bool (.lit false), .bool (.lit false)])] (.gen (.store 35 (.tmp 39) (.tmp 37))
 0 [(.tmp 39, .ptr 0 2), (.tmp 37, .var 11)] [] (.cst (.tuple #[])) [] false [] [] [10, 2] [(10, [.int .u16 (.var 1)]), (2, [.int .u8 (.lit 0), .int .u8 (.lit 0),
 .bool (.lit false), .bool (.lit false)])] (.leaf 0 [.agg [.int .u8 (.lit 0), .int .u8 (.lit 0), .bool (.lit false), .bool (.lit false)]] [2] [(10, [.int .u16 (.var
 1)]), (2, [.int .u8 (.lit 0), .int .u8 (.lit 0), .bool (.lit false), .bool (.lit false)])])))))))))))))))))) := by kernel_rfl

theorem t24 : exFn { P := Try.prog } 24 [.var 0] [.ptr] [] = .blk (.call 39 [.var 0] [.bool] (.bool (.var 2)) [] false [] [] [1] [(1, [.cst (.slice none 0 0)])] (.split (.not (.var 2)) (.ob
 (.not (.nil 0)) (.start false [] [] [(1, [.cst (.slice none 0 0)])] (.load (.ptr 0 3) [.slice] (.call 36 [.var 3] [.slice] (.var 4) [] false [] [] [1] [(1, [.cst (.slice none 0
 0)])] (.leaf 0 [.fn 48 [.ptr 1 0]] [1] [(1, [.var 4])]))))) (.leaf 0 [.fn 48 [.ptr 1 0]] [] [(1, [.cst (.slice none 0 0)])]))) := by kernel_rfl

theorem t25 : exFn { P := Try.prog } 25 [.var 0] [.ptr] [] = .call 39 [.var 0] [.bool] (.bool (.var 1)) [] false [] [] [] [] (.split (.var 1) (.leaf 0 [.cst (.slice none 0 0)] [] []) (.ob
 (.not (.nil 0)) (.start false [] [] [] (.load (.ptr 0 2) [.slice] (.call 42 [.var 2] [.slice] (.var 3) [] false [] [] [] [] (.leaf 0 [.var 3] [] [])))))) := by kernel_rfl

theorem t23 : exFn { P := Try.prog } 23 [.var 0, .int .u8 (.var 1)] [.ptr, .int .u8] [] = .blk (.blk (.call 33 [.var 0, .fn 45 [.ptr 2 0, .ptr 3 0]] [.int .i64] (.int .i64 (.var 4)) []
 false [] [] [3, 2] [(3, [.int .u8 (.var 1)]), (2, [.var 0])] (.leaf 0 [.int .i64 (.var 4)] [] [(3, [.int .u8 (.var 1)]), (2, [.var 0])]))) := by kernel_rfl

theorem t33 : exFn { P := Try.prog } 33 [.var 0, .var 1] [.ptr, .func] [] = .call 39 [.var 0] [.bool] (.bool (.var 2)) [] false [] [] [] [] (.split (.var 2) (.leaf 0 [.int .i64 (.lit 1)] []
 []) (.gen (.call { callee := .value (.tmp 7), args := #[], argTypes := #[] }) 0 [(.tmp 7, .var 1)] [] (.tuple []) [] false [] [] [] [] (.leaf 0 [.int .i64 (.lit 0)] [] []))) :=
 by kernel_rfl

theorem t18 : exFn { P := Try.prog } 18 [.var 0, .int .u32 (.var 1)] [.ptr, .int .u32] [] = .blk (.blk (.call 33 [.var 0, .fn 34 [.ptr 3 0, .ptr 2 0]] [.int .i64] (.int .i64 (.var 4))
 [] false [] [] [3, 2] [(3, [.int .u32 (.var 1)]), (2, [.var 0])] (.leaf 0 [.int .i64 (.var 4)] [] [(3, [.int .u32 (.var 1)]), (2, [.var 0])]))) := by kernel_rfl

theorem t30 : exFn { P := Try.prog } 30 [.var 0, .int .u16 (.var 1)] [.ptr, .int .u16] [] = .blk (.call 39 [.var 0] [.bool] (.bool (.var 3)) [] false [] [] [2] [(2, [.int .u16 (.var 1)])]
 (.split (.var 3) (.leaf 0 [.int .i64 (.lit 1)] [] [(2, [.int .u16 (.var 1)])]) (.ob (.not (.nil 0)) (.start false [] [] [(2, [.int .u16 (.var 1)])] (.load (.ptr 0 2)
 [.slice] (.call 57 [.var 4, .fn 58 [.ptr 2 0]] [.slice, .int .u16, .bool] (.tuple [.var 5, .int .u16 (.var 6), .bool (.var 7)]) [] false [] [] [2] [(2, [.int
 .u16 (.var 1)])] (.split (.not (.var 7)) (.leaf 0 [.int .i64 (.lit 9)] [] [(2, [.int .u16 (.var 1)])]) (.gen (.store 35 (.tmp 25) (.tmp 23)) 0 [(.tmp 25,
 .ptr 0 2), (.tmp 23, .var 5)] [] (.cst (.tuple #[])) [] false [] [] [2] [(2, [.int .u16 (.var 1)])] (.leaf 0 [.int .i64 (.lit 0)] [] [(2, [.int .u16 (.var
 1)])]))))))))) := by kernel_rfl

theorem t34 : exFn { P := Try.prog } 34 [.ptr 0 0, .ptr 1 0] [.ptr, .ptr] [] = .start false [] [] [] (.load (.ptr 1 0) [.ptr] (.start false [] [] [] (.load (.ptr 0 0) [.int .u32] (.ob (.not
 (.nil 2)) (.gen (.store 24 (.tmp 5) (.tmp 3)) 0 [(.tmp 5, .ptr 2 1), (.tmp 3, .int .u32 (.var 3))] [] (.cst (.tuple #[])) [] false [] [] [] [] (.start true [] []
 [] (.load (.ptr 1 0) [.ptr] (.load (.ptr 1 0) [.ptr] (.ob (.not (.nil 5)) (.load (.ptr 5 3) [.slice] (.call 36 [.var 6] [.slice] (.var 7) [] true [] [] [] [] (.call 35 [.var
 7, .fn 37 [.ptr 0 0]] [.slice] (.var 8) [] true [] [] [] [] (.ob (.not (.nil 4)) (.gen (.store 57 (.tmp 15) (.tmp 13)) 0 [(.tmp 15, .ptr 4 3), (.tmp 13, .var 8)] []
 (.cst (.tuple #[])) [] true [] [] [] [] (.leaf 0 [.tuple []] [] []))))))))))))))) := by kernel_rfl

theorem t45 : exFn { P := Try.prog } 45 [.ptr 0 0, .ptr 1 0] [.ptr, .ptr] [] = .start false [] [] [] (.load (.ptr 0 0) [.ptr] (.ob (.not (.nil 2)) (.start false [] [] [] (.load (.ptr 2 4) [.map]
 (.call 46 [.var 3, .fn 47 [.ptr 1 0]] [] (.tuple []) [] false [] [] [] [] (.leaf 0 [.tuple []] [] [])))))) := by kernel_rfl

theorem t55 : exFn { P := Try.prog } 55 [.ptr 0 0] [.ptr] [] = .start true [] [] [] (.load (.ptr 0 0) [.ptr] (.load (.ptr 0 0) [.ptr] (.ob (.not (.nil 2)) (.load (.ptr 2 0) [.int
 .i64] (.gen (.makeMap 69 none) 69 [] [.map] (.var 4) [] true [] [] [] [] (.ob (.not (.nil 1)) (.gen (.store 71 (.tmp 8) (.tmp 7)) 0 [(.tmp 8, .ptr 1 0), (.tmp 7,
 .agg [.int .i64 (.var 3), .int .u32 (.lit 0), .cst (.slice none 0 0), .cst (.slice none 0 0), .var 4])] [] (.cst (.tuple #[])) [] true [] [] [] [] (.leaf 0 [.tuple []]
 [] [])))))))) := by kernel_rfl

theorem t27 : exFn { P := Try.prog } 27 [.var 0] [.ptr] [] = .blk (.call 33 [.var 0, .fn 55 [.ptr 1 0]] [.int .i64] (.int .i64 (.var 2)) [] false [] [] [1] [(1, [.var 0])] (.leaf 0
 [.int .i64 (.var 2)] [] [(1, [.var 0])])) := by kernel_rfl

theorem t28 : exFn { P := Try.prog } 28 [.var 0] [.ptr] [] = .call 39 [.var 0] [.bool] (.bool (.var 1)) [] false [] [] [] [] (.split (.var 1) (.leaf 0 [.cst (.pointer none)] [] []) (.ob (.not
 (.nil 0)) (.start false [] [] [] (.load (.ptr 0 0) [.int .i64, .int .u32, .slice, .slice, .map] (.blk (.start true [7] [7] [(7, [.int .i64 (.var 2), .int
 .u32 (.var 3), .var 4, .var 5, .var 6])] (.load (.ptr 0 2) [.slice] (.load (.ptr 0 3) [.slice] (.load (.ptr 0 4) [.map] (.call 42 [.var 8] [.slice] (.var 11) [] true []
 [] [7] [(7, [.int .i64 (.var 2), .int .u32 (.var 3), .var 4, .var 5, .var 6])] (.call 36 [.var 9] [.slice] (.var 12) [] true [] [] [7] [(7, [.int .i64 (.var 2), .int
 .u32 (.var 3), .var 4, .var 5, .var 6])] (.call 56 [.var 10] [.map] (.var 13) [] true [] [] [7] [(7, [.int .i64 (.var 2), .int .u32 (.var 3), .var 4, .var 5, .var
 6])] (.leaf 0 [.ptr 7 0] [7] [(7, [.int .i64 (.var 2), .int .u32 (.var 3), .var 11, .var 12, .var 13])]))))))))))))) := by kernel_rfl

end Go.Proofs.Ytfjlnfgbfclgbaa
