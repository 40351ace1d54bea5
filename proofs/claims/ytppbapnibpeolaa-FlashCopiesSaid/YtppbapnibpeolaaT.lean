/- What the functions of the chapter come to, printed by a program of the prover's and checked by the kernel. No conditions. -/
import Derived.Test.YtppbapnibpeolaaSxZI
import Derived.Test.YtppbapnibpeolaaProg
import Derived.KernelRfl
set_option maxRecDepth 100000
set_option linter.unusedVariables false
namespace Go.Proofs.Ytppbapnibpeolaa
open Go.Sx

theorem t8 : exFn { P := Try.prog } 8 [.agg [.int .i64 (.var 0), .int .i64 (.var 1), .int .i64 (.var 2), .int .i64 (.var 3)]] [.int .i64, .int .i64, .int .i64, .int .i64] [] = .blk (.call 10 [.agg [.int
 .i64 (.var 0), .int .i64 (.var 1), .int .i64 (.var 2), .int .i64 (.var 3)]] [.bool] (.bool (.var 5)) [] false [] [] [4] [(4, [.int .i64 (.var 0), .int
 .i64 (.var 1), .int .i64 (.var 2), .int .i64 (.var 3)])] (.split (.not (.var 5)) (.leaf 0 [.bool (.lit true)] [] [(4, [.int .i64 (.var 0), .int .i64 (.var
 1), .int .i64 (.var 2), .int .i64 (.var 3)])]) (.split (.le (.var 0) (.lit 8)) (.split (.le (.var 1) (.lit 8)) (.leaf 0 [.bool (.le (.var 2) (.lit 40))] [] [(4, [.int
 .i64 (.var 0), .int .i64 (.var 1), .int .i64 (.var 2), .int .i64 (.var 3)])]) (.leaf 0 [.bool (.lit false)] [] [(4, [.int .i64 (.var 0), .int .i64
 (.var 1), .int .i64 (.var 2), .int .i64 (.var 3)])])) (.leaf 0 [.bool (.lit false)] [] [(4, [.int .i64 (.var 0), .int .i64 (.var 1), .int .i64 (.var 2),
 .int .i64 (.var 3)])])))) := by kernel_rfl

theorem t10 : exFn { P := Try.prog } 10 [.agg [.int .i64 (.var 0), .int .i64 (.var 1), .int .i64 (.var 2), .int .i64 (.var 3)]] [.int .i64, .int .i64, .int .i64, .int .i64] [] = .blk (.split (.le (.lit 2) (.var
 0)) (.split (.le (.var 0) (.lit 4096)) (.split (.le (.lit 2) (.var 1)) (.split (.le (.var 1) (.lit 512)) (.split (.le (.lit 1) (.var 2)) (.split (.le (.var 2) (.lit 8192))
 (.split (.le (.lit 1) (.var 3)) (.leaf 0 [.bool (.le (.var 3) (.lit 1048576))] [] [(4, [.int .i64 (.var 0), .int .i64 (.var 1), .int .i64 (.var 2), .int .i64
 (.var 3)])]) (.leaf 0 [.bool (.lit false)] [] [(4, [.int .i64 (.var 0), .int .i64 (.var 1), .int .i64 (.var 2), .int .i64 (.var 3)])])) (.leaf 0 [.bool (.lit
 false)] [] [(4, [.int .i64 (.var 0), .int .i64 (.var 1), .int .i64 (.var 2), .int .i64 (.var 3)])])) (.leaf 0 [.bool (.lit false)] [] [(4, [.int .i64 (.var
 0), .int .i64 (.var 1), .int .i64 (.var 2), .int .i64 (.var 3)])])) (.leaf 0 [.bool (.lit false)] [] [(4, [.int .i64 (.var 0), .int .i64 (.var 1), .int
 .i64 (.var 2), .int .i64 (.var 3)])])) (.leaf 0 [.bool (.lit false)] [] [(4, [.int .i64 (.var 0), .int .i64 (.var 1), .int .i64 (.var 2), .int .i64
 (.var 3)])])) (.leaf 0 [.bool (.lit false)] [] [(4, [.int .i64 (.var 0), .int .i64 (.var 1), .int .i64 (.var 2), .int .i64 (.var 3)])])) (.leaf 0 [.bool (.lit
 false)] [] [(4, [.int .i64 (.var 0), .int .i64 (.var 1), .int .i64 (.var 2), .int .i64 (.var 3)])])) := by kernel_rfl

theorem t18 : exFn { P := Try.prog } 18 [.int .i64 (.var 0)] [.int .i64] [] = .leaf 0 [.int .i64 (.var 0)] [] [] := by kernel_rfl

theorem t30 : exFn { P := Try.prog } 30 [.var 0, .var 1] [.slice, .slice] [] = .start false [] [] [] (.pur (.convert 26 9 (.tmp 5)) 9 [(.tmp 5, .var 0)] [.any] (.var 2) (.start false [] []
 [] (.pur (.convert 26 9 (.tmp 7)) 9 [(.tmp 7, .var 1)] [.any] (.var 3) (.start false [] [] [] (.pur (.binOp .eql 9 (.tmp 6) (.tmp 8) 9) 4 [(.tmp 6, .var 2),
 (.tmp 8, .var 3)] [.bool] (.bool (.var 4)) (.leaf 0 [.bool (.var 4)] [] [])))))) := by kernel_rfl

theorem t32 : exFn { P := Try.prog, loops := fun r => if Nat.beq r 3 then some ⟨1, [(6, .int .i64)], []⟩ else none } 32 [.int .i64 (.var 0), .int .u8 (.var 1)] [.int .i64, .int .u8] [] = .gen (.makeSlice 26
 (.tmp 7) (.tmp 7)) 26 [(.tmp 7, .int .i64 (.var 0)), (.tmp 7, .int .i64 (.var 0))] [.slice] (.var 2) [] false [] [] [] [] (.loop 1 [.int .i64 (.lit
 0)] [.int .i64] [] [] [] [] (.split (.lt (.var 3) (.var 0)) (.ob (.le (.lit 0) (.var 3)) (.ob (.lt (.var 3) (.len 2)) (.ob (.not (.nil 2)) (.gen (.store 5 (.tmp 17)
 (.tmp 16)) 0 [(.tmp 17, .elt 2 0 (.var 3) 1 0), (.tmp 16, .int .u8 (.var 1))] [] (.cst (.tuple #[])) [] false [] [] [] [] (.ob (.le (.lit (-9223372036854775808)) (.add
 (.var 3) (.lit 1))) (.ob (.le (.add (.var 3) (.lit 1)) (.lit 9223372036854775807)) (.leaf 1 [.int .i64 (.add (.var 3) (.lit 1))] [] []))))))) (.leaf 0 [.var 2] [] []))) := by
 kernel_rfl

theorem t33 : exFn { P := Try.prog } 33 [.var 0] [.ptr] [] = .split (.nil 0) (.leaf 0 [.bool (.lit true)] [] []) (.start false [] [] [] (.load (.ptr 0 5) [.slice] (.leaf 0 [.bool (.nil 1)] []
 []))) := by kernel_rfl

theorem t53 : exFn { P := Try.prog } 53 [.var 0, .int .i64 (.var 1)] [.ptr, .int .i64] [] = .split (.le (.lit 0) (.var 1)) (.ob (.not (.nil 0)) (.start false [] [] [] (.load (.ptr 0 5) [.slice]
 (.leaf 0 [.bool (.lt (.var 1) (.len 2))] [] [])))) (.leaf 0 [.bool (.lit false)] [] []) := by kernel_rfl

theorem t34 : exFn { P := Try.prog } 34 [.var 0, .int .i64 (.var 1), .int .i64 (.var 2)] [.ptr, .int .i64, .int .i64] [] = .call 53 [.var 0, .int .i64 (.var 1)] [.bool] (.bool (.var 3)) [] false []
 [] [] [] (.split (.var 3) (.split (.le (.lit 0) (.var 2)) (.ob (.not (.nil 0)) (.start false [] [] [] (.load (.ptr 0 1) [.int .i64] (.leaf 0 [.bool (.lt (.var 2) (.var 4))]
 [] [])))) (.leaf 0 [.bool (.lit false)] [] [])) (.leaf 0 [.bool (.lit false)] [] [])) := by kernel_rfl

theorem t70 : exFn { P := Try.prog } 70 [.int .i64 (.var 0), .int .i64 (.var 1), .int .i64 (.var 2)] [.int .i64, .int .i64, .int .i64] [] = .split (.le (.var 1) (.var 0)) (.leaf 0 [.bool (.le (.var 0)
 (.var 2))] [] []) (.leaf 0 [.bool (.lit false)] [] []) := by kernel_rfl

theorem t55 : exFn { P := Try.prog } 55 [.agg [.int .i64 (.var 0), .int .i64 (.var 1), .int .i64 (.var 2), .int .i64 (.var 3)]] [.int .i64, .int .i64, .int .i64, .int .i64] [] = .blk (.call 70 [.int .i64
 (.var 0), .int .i64 (.lit 2), .int .i64 (.lit 4096)] [.bool] (.bool (.var 5)) [] false [] [] [4] [(4, [.int .i64 (.var 0), .int .i64 (.var 1), .int .i64
 (.var 2), .int .i64 (.var 3)])] (.split (.var 5) (.call 70 [.int .i64 (.var 1), .int .i64 (.lit 2), .int .i64 (.lit 512)] [.bool] (.bool (.var 6)) [] false []
 [] [4] [(4, [.int .i64 (.var 0), .int .i64 (.var 1), .int .i64 (.var 2), .int .i64 (.var 3)])] (.split (.var 6) (.call 70 [.int .i64 (.var 2), .int
 .i64 (.lit 1), .int .i64 (.lit 8192)] [.bool] (.bool (.var 7)) [] false [] [] [4] [(4, [.int .i64 (.var 0), .int .i64 (.var 1), .int .i64 (.var 2), .int
 .i64 (.var 3)])] (.split (.var 7) (.call 70 [.int .i64 (.var 3), .int .i64 (.lit 1), .int .i64 (.lit 1048576)] [.bool] (.bool (.var 8)) [] false [] [] [4] [(4,
 [.int .i64 (.var 0), .int .i64 (.var 1), .int .i64 (.var 2), .int .i64 (.var 3)])] (.leaf 0 [.bool (.var 8)] [] [(4, [.int .i64 (.var 0), .int .i64
 (.var 1), .int .i64 (.var 2), .int .i64 (.var 3)])])) (.leaf 0 [.bool (.lit false)] [] [(4, [.int .i64 (.var 0), .int .i64 (.var 1), .int .i64 (.var 2),
 .int .i64 (.var 3)])]))) (.leaf 0 [.bool (.lit false)] [] [(4, [.int .i64 (.var 0), .int .i64 (.var 1), .int .i64 (.var 2), .int .i64 (.var 3)])]))) (.leaf
 0 [.bool (.lit false)] [] [(4, [.int .i64 (.var 0), .int .i64 (.var 1), .int .i64 (.var 2), .int .i64 (.var 3)])]))) := by kernel_rfl

theorem t57 : exFn { P := Try.prog } 57 [.int .i64 (.var 0)] [.int .i64] [] = .leaf 0 [.bool (.lt (.var 0) (.lit 0))] [] [] := by kernel_rfl

theorem t71 : exFn { P := Try.prog, loops := fun r => if Nat.beq r 2 then some ⟨1, [(8, .int .i64)], []⟩ else none } 71 [.var 0, .var 1] [.slice, .func] [] = .loop 1 [.int .i64 (.lit 0)] [.int
 .i64] [] [] [] [] (.split (.lt (.var 2) (.len 0)) (.ob (.le (.lit 0) (.var 2)) (.ob (.lt (.var 2) (.len 0)) (.ob (.not (.nil 0)) (.start false [] [] [] (.load (.elt 0 0 (.var
 2) 1 0) [.int .i64] (.gen (.call { callee := .value (.tmp 11), args := #[.tmp 15], argTypes := #[3] }) 4 [(.tmp 11, .var 1), (.tmp 15, .int .i64 (.var 3))]
 [.bool] (.bool (.var 4)) [] false [] [] [] [] (.split (.var 4) (.leaf 0 [.int .i64 (.var 2)] [] []) (.ob (.le (.lit (-9223372036854775808)) (.add (.var 2) (.lit 1))) (.ob (.le
 (.add (.var 2) (.lit 1)) (.lit 9223372036854775807)) (.leaf 1 [.int .i64 (.add (.var 2) (.lit 1))] [] [])))))))))) (.leaf 0 [.int .i64 (.lit (-1))] [] [])) := by kernel_rfl

theorem t56 : exFn { P := Try.prog } 56 [.var 0, .var 1] [.slice, .func] [] = .call 71 [.var 0, .var 1] [.int .i64] (.int .i64 (.var 2)) [] false [] [] [] [] (.leaf 0 [.bool (.le (.lit
 0) (.var 2))] [] []) := by kernel_rfl

theorem t35 : exFn { P := Try.prog } 35 [.var 0] [.slice] [] = .split (.nil 0) (.leaf 0 [.cst (.slice none 0 0)] [] []) (.blk (.gen (.call { callee := .builtin .append, args := #[.tmp 5, .tmp 6], argTypes := #[26, 26] })
 26 [(.tmp 5, .slc 1 0 0 0), (.tmp 6, .var 0)] [.slice] (.var 2) [] false [] [] [1] [(1, [])] (.leaf 0 [.var 2] [] [(1, [])]))) := by kernel_rfl

theorem t39 : exFn { P := Try.prog } 39 [.var 0] [.slice] [] = .split (.nil 0) (.leaf 0 [.cst (.slice none 0 0)] [] []) (.blk (.gen (.call { callee := .builtin .append, args := #[.tmp 5, .tmp 6], argTypes := #[79, 79] })
 79 [(.tmp 5, .slc 1 0 0 0), (.tmp 6, .var 0)] [.slice] (.var 2) [] false [] [] [1] [(1, [])] (.leaf 0 [.var 2] [] [(1, [])]))) := by kernel_rfl

theorem t23 : exFn { P := Try.prog } 23 [.var 0] [.ptr] [] = .call 33 [.var 0] [.bool] (.bool (.var 1)) [] false [] [] [] [] (.split (.not (.var 1)) (.ob (.not (.nil 0)) (.start false [] [] []
 (.load (.ptr 0 9) [.bool] (.leaf 0 [.bool (.not (.var 2))] [] [])))) (.leaf 0 [.bool (.lit false)] [] [])) := by kernel_rfl

theorem t24 : exFn { P := Try.prog } 24 [.var 0] [.ptr] [] = .blk (.call 33 [.var 0] [.bool] (.bool (.var 2)) [] false [] [] [1] [(1, [.int .i64 (.lit 0), .int .i64 (.lit 0), .int
 .i64 (.lit 0), .int .i64 (.lit 0)])] (.split (.var 2) (.leaf 0 [.agg [.int .i64 (.lit 0), .int .i64 (.lit 0), .int .i64 (.lit 0), .int .i64 (.lit
 0)]] [1] [(1, [.int .i64 (.lit 0), .int .i64 (.lit 0), .int .i64 (.lit 0), .int .i64 (.lit 0)])]) (.ob (.not (.nil 0)) (.start false [] [] [(1, [.int .i64
 (.lit 0), .int .i64 (.lit 0), .int .i64 (.lit 0), .int .i64 (.lit 0)])] (.load (.ptr 0 0) [.int .i64, .int .i64, .int .i64, .int .i64]
 (.leaf 0 [.agg [.int .i64 (.var 3), .int .i64 (.var 4), .int .i64 (.var 5), .int .i64 (.var 6)]] [1] [(1, [.int .i64 (.var 3), .int .i64 (.var 4),
 .int .i64 (.var 5), .int .i64 (.var 6)])])))))) := by kernel_rfl

theorem t25 : exFn { P := Try.prog } 25 [.var 0] [.ptr] [] = .call 33 [.var 0] [.bool] (.bool (.var 1)) [] false [] [] [] [] (.split (.var 1) (.leaf 0 [.int .i64 (.lit 0)] [] []) (.ob
 (.not (.nil 0)) (.start false [] [] [] (.load (.ptr 0 6) [.int .i64] (.leaf 0 [.int .i64 (.var 2)] [] []))))) := by kernel_rfl

theorem t26 : exFn { P := Try.prog } 26 [.var 0, .int .i64 (.var 1)] [.ptr, .int .i64] [] = .call 33 [.var 0] [.bool] (.bool (.var 2)) [] false [] [] [] [] (.split (.var 2) (.leaf 0 [.int .i64
 (.lit 0)] [] []) (.call 53 [.var 0, .int .i64 (.var 1)] [.bool] (.bool (.var 3)) [] false [] [] [] [] (.split (.not (.var 3)) (.leaf 0 [.int .i64 (.lit 0)] [] []) (.ob
 (.not (.nil 0)) (.start false [] [] [] (.load (.ptr 0 5) [.slice] (.ob (.le (.lit 0) (.var 1)) (.ob (.lt (.var 1) (.len 4)) (.ob (.not (.nil 4)) (.start false [] [] [] (.load
 (.elt 4 0 (.var 1) 3 1) [.int .i64] (.leaf 0 [.int .i64 (.var 5)] [] [])))))))))))) := by kernel_rfl

theorem t22 : exFn { P := Try.prog } 22 [.var 0] [.ptr] [] = .call 33 [.var 0] [.bool] (.bool (.var 1)) [] false [] [] [] [] (.split (.var 1) (.leaf 0 [.int .i64 (.lit 1)] [] []) (.ob
 (.not (.nil 0)) (.gen (.store 3 (.tmp 8) (.const (.int .i64 (-1)))) 0 [(.tmp 8, .ptr 0 7), (.const (.int .i64 (-1)), .int .i64 (.lit (-1)))] []
 (.cst (.tuple #[])) [] false [] [] [] [] (.gen (.store 4 (.tmp 10) (.const (.bool false))) 0 [(.tmp 10, .ptr 0 9), (.const (.bool false), .bool (.lit false))] []
 (.cst (.tuple #[])) [] false [] [] [] [] (.leaf 0 [.int .i64 (.lit 0)] [] []))))) := by kernel_rfl

theorem t21 : exFn { P := Try.prog } 21 [.var 0, .int .i64 (.var 1), .int .i64 (.var 2)] [.ptr, .int .i64, .int .i64] [] = .call 33 [.var 0] [.bool] (.bool (.var 3)) [] false [] [] [] [] (.split (.var 3)
 (.leaf 0 [.int .i64 (.lit 1)] [] []) (.ob (.not (.nil 0)) (.start false [] [] [] (.load (.ptr 0 6) [.int .i64] (.split (.lt (.var 1) (.var 4)) (.leaf 0 [.int .i64
 (.lit 2)] [] []) (.split (.lt (.var 2) (.lit 0)) (.leaf 0 [.int .i64 (.lit 2)] [] []) (.start false [] [] [] (.load (.ptr 0 2) [.int .i64] (.ob (.le (.lit
 (-9223372036854775808)) (.add (.var 5) (.lit 64))) (.ob (.le (.add (.var 5) (.lit 64)) (.lit 9223372036854775807)) (.split (.lt (.add (.var 5) (.lit 64)) (.var 2)) (.leaf 0 [.int
 .i64 (.lit 2)] [] []) (.start false [] [] [] (.load (.ptr 0 9) [.bool] (.split (.var 6) (.leaf 0 [.int .i64 (.lit 50)] [] []) (.gen (.store 3 (.tmp 41) (.tmp 38)) 0
 [(.tmp 41, .ptr 0 7), (.tmp 38, .int .i64 (.var 1))] [] (.cst (.tuple #[])) [] false [] [] [] [] (.gen (.store 3 (.tmp 43) (.tmp 39)) 0 [(.tmp 43, .ptr 0 8),
 (.tmp 39, .int .i64 (.var 2))] [] (.cst (.tuple #[])) [] false [] [] [] [] (.leaf 0 [.int .i64 (.lit 0)] [] []))))))))))))))))) := by kernel_rfl

theorem t28 : exFn { P := Try.prog } 28 [.var 0, .int .i64 (.var 1), .int .i64 (.var 2)] [.ptr, .int .i64, .int .i64] [] = .call 33 [.var 0] [.bool] (.bool (.var 3)) [] false [] [] [] [] (.split (.var 3)
 (.leaf 0 [.int .i64 (.lit 0)] [] []) (.call 34 [.var 0, .int .i64 (.var 1), .int .i64 (.var 2)] [.bool] (.bool (.var 4)) [] false [] [] [] [] (.split (.not (.var 4))
 (.leaf 0 [.int .i64 (.lit 0)] [] []) (.ob (.not (.nil 0)) (.start false [] [] [] (.load (.ptr 0 5) [.slice] (.ob (.le (.lit 0) (.var 1)) (.ob (.lt (.var 1) (.len 5)) (.ob
 (.not (.nil 5)) (.start false [] [] [] (.load (.elt 5 0 (.var 1) 3 0) [.slice] (.ob (.le (.lit 0) (.var 2)) (.ob (.lt (.var 2) (.len 6)) (.ob (.not (.nil 6)) (.start false [] []
 [] (.load (.elt 6 0 (.var 2) 2 1) [.int .i64] (.leaf 0 [.int .i64 (.var 7)] [] []))))))))))))))))) := by kernel_rfl

theorem t13 : exFn { P := Try.prog } 13 [.var 0, .int .i64 (.var 1), .int .i64 (.var 2)] [.ptr, .int .i64, .int .i64] [] = .call 33 [.var 0] [.bool] (.bool (.var 3)) [] false [] [] [] [] (.split (.var 3)
 (.leaf 0 [.tuple [.cst (.slice none 0 0), .cst (.slice none 0 0), .int .i64 (.lit 1)]] [] []) (.call 34 [.var 0, .int .i64 (.var 1), .int .i64 (.var 2)] [.bool]
 (.bool (.var 4)) [] false [] [] [] [] (.split (.not (.var 4)) (.leaf 0 [.tuple [.cst (.slice none 0 0), .cst (.slice none 0 0), .int .i64 (.lit 2)]] [] []) (.ob (.not (.nil
 0)) (.start false [] [] [] (.load (.ptr 0 9) [.bool] (.split (.var 5) (.leaf 0 [.tuple [.cst (.slice none 0 0), .cst (.slice none 0 0), .int .i64 (.lit 50)]] [] []) (.start
 false [] [] [] (.load (.ptr 0 5) [.slice] (.ob (.le (.lit 0) (.var 1)) (.ob (.lt (.var 1) (.len 6)) (.ob (.not (.nil 6)) (.start false [] [] [] (.load (.elt 6 0 (.var 1) 3 0)
 [.slice] (.ob (.le (.lit 0) (.var 2)) (.ob (.lt (.var 2) (.len 7)) (.ob (.not (.nil 7)) (.start false [] [] [] (.load (.elt 7 0 (.var 2) 2 0) [.slice, .int .i64] (.blk
 (.split (.eq (.var 9) (.lit 1)) (.leaf 0 [.tuple [.cst (.slice none 0 0), .cst (.slice none 0 0), .int .i64 (.lit 52)]] [10] [(10, [.var 8, .int .i64 (.var 9)])])
 (.split (.eq (.var 9) (.lit 4)) (.leaf 0 [.tuple [.cst (.slice none 0 0), .cst (.slice none 0 0), .int .i64 (.lit 53)]] [10] [(10, [.var 8, .int .i64 (.var 9)])])
 (.split (.eq (.var 9) (.lit 5)) (.leaf 0 [.tuple [.cst (.slice none 0 0), .cst (.slice none 0 0), .int .i64 (.lit 53)]] [10] [(10, [.var 8, .int .i64 (.var 9)])])
 (.start false [10] [] [(10, [.var 8, .int .i64 (.var 9)])] (.load (.ptr 0 2) [.int .i64] (.start true [] [10] [(10, [.var 8, .int .i64 (.var 9)])] (.pur (.slice 26
 (.tmp 50) none (some (.tmp 51)) (some (.tmp 52))) 26 [(.tmp 50, .var 8), (.tmp 51, .int .i64 (.var 11)), (.tmp 52, .int .i64 (.var 11))] [.slice]
 (.var 12) (.pur (.slice 26 (.tmp 57) (some (.tmp 58)) none none) 26 [(.tmp 57, .var 8), (.tmp 58, .int .i64 (.var 11))] [.slice] (.var 13) (.call 35 [.var 12]
 [.slice] (.var 14) [] true [] [] [10] [(10, [.var 8, .int .i64 (.var 9)])] (.call 35 [.var 13] [.slice] (.var 15) [] true [] [] [10] [(10, [.var 8, .int .i64 (.var 9)])]
 (.leaf 0 [.tuple [.var 14, .var 15, .int .i64 (.lit 0)]] [] [(10, [.var 8, .int .i64 (.var 9)])]))))))))))))))))))))))))))))))) := by kernel_rfl

theorem t20 : exFn { P := Try.prog } 20 [.var 0, .int .i64 (.var 1)] [.ptr, .int .i64] [] = .call 33 [.var 0] [.bool] (.bool (.var 2)) [] false [] [] [] [] (.split (.var 2) (.leaf 0 [.int .i64
 (.lit 1)] [] []) (.call 53 [.var 0, .int .i64 (.var 1)] [.bool] (.bool (.var 3)) [] false [] [] [] [] (.split (.not (.var 3)) (.leaf 0 [.int .i64 (.lit 2)] [] []) (.ob
 (.not (.nil 0)) (.start false [] [] [] (.load (.ptr 0 9) [.bool] (.split (.var 4) (.leaf 0 [.int .i64 (.lit 50)] [] []) (.start true [] [] [] (.load (.ptr 0 5) [.slice] (.ob
 (.le (.lit 0) (.var 1)) (.ob (.lt (.var 1) (.len 5)) (.ob (.not (.nil 5)) (.load (.elt 5 0 (.var 1) 3 2) [.int .i64] (.load (.ptr 0 3) [.int .i64] (.split (.le
 (.var 7) (.var 6)) (.leaf 0 [.int .i64 (.lit 56)] [] []) (.start false [] [] [] (.load (.ptr 0 5) [.slice] (.ob (.le (.lit 0) (.var 1)) (.ob (.lt (.var 1) (.len 8)) (.ob
 (.not (.nil 8)) (.call 54 [.var 0, .elt 8 0 (.var 1) 3 0] [.int .i64] (.int .i64 (.var 9)) [] false [] [] [] [] (.leaf 0 [.int .i64 (.var 9)] [] [])))))))))))))))))))))) :=
 by kernel_rfl

theorem t19 : exFn { P := Try.prog } 19 [.var 0, .int .i64 (.var 1), .int .i64 (.var 2), .var 3, .var 4] [.ptr, .int .i64, .int .i64, .slice, .slice] [] = .call 33 [.var 0] [.bool] (.bool (.var 5)) [] false
 [] [] [] [] (.split (.var 5) (.leaf 0 [.int .i64 (.lit 1)] [] []) (.call 34 [.var 0, .int .i64 (.var 1), .int .i64 (.var 2)] [.bool] (.bool (.var 6)) [] false [] [] []
 [] (.split (.not (.var 6)) (.leaf 0 [.int .i64 (.lit 2)] [] []) (.ob (.not (.nil 0)) (.start false [] [] [] (.load (.ptr 0 2) [.int .i64] (.split (.not (.eq (.len 3)
 (.var 7))) (.leaf 0 [.int .i64 (.lit 2)] [] []) (.split (.not (.eq (.len 4) (.lit 64))) (.leaf 0 [.int .i64 (.lit 2)] [] []) (.start false [] [] [] (.load (.ptr 0 9)
 [.bool] (.split (.var 8) (.leaf 0 [.int .i64 (.lit 50)] [] []) (.start false [] [] [] (.load (.ptr 0 5) [.slice] (.ob (.le (.lit 0) (.var 1)) (.ob (.lt (.var 1) (.len 9))
 (.ob (.not (.nil 9)) (.start false [] [] [] (.load (.elt 9 0 (.var 1) 3 1) [.int .i64] (.split (.not (.eq (.var 2) (.var 10))) (.leaf 0 [.int .i64 (.lit 51)] [] [])
 (.blk (.call 52 [.slc 11 0 2 2] [.slice] (.var 12) [] false [] [] [11] [(11, [.var 3, .var 4])] (.call 51 [.var 0, .int .i64 (.var 1), .int .i64 (.var 2), .var 12] [.int
 .i64] (.int .i64 (.var 13)) [] false [] [] [11] [(11, [.var 3, .var 4])] (.leaf 0 [.int .i64 (.var 13)] [] [(11, [.var 3, .var 4])]))))))))))))))))))))))) := by kernel_rfl

theorem t51 : exFn { P := Try.prog } 51 [.var 0, .int .i64 (.var 1), .int .i64 (.var 2), .var 3] [.ptr, .int .i64, .int .i64, .slice] [] = .blk (.blk (.ob (.not (.nil 0)) (.start false [] [] [(5, [.var 3]),
 (4, [.var 0])] (.load (.ptr 0 5) [.slice] (.ob (.le (.lit 0) (.var 1)) (.ob (.lt (.var 1) (.len 6)) (.ob (.not (.nil 6)) (.start false [] [] [(5, [.var 3]), (4, [.var 0])] (.load
 (.elt 6 0 (.var 1) 3 1) [.int .i64] (.ob (.le (.lit (-9223372036854775808)) (.add (.var 7) (.lit 1))) (.ob (.le (.add (.var 7) (.lit 1)) (.lit 9223372036854775807)) (.gen
 (.store 3 (.tmp 23) (.tmp 21)) 0 [(.tmp 23, .elt 6 0 (.var 1) 3 1), (.tmp 21, .int .i64 (.add (.var 7) (.lit 1)))] [] (.cst (.tuple #[])) [] false [] [] [5, 4]
 [(5, [.var 3]), (4, [.var 0])] (.start false [] [] [(5, [.var 3]), (4, [.var 0])] (.load (.elt 6 0 (.var 1) 3 0) [.slice] (.ob (.le (.lit 0) (.var 2)) (.ob (.lt (.var 2) (.len 8))
 (.ob (.not (.nil 8)) (.blk (.call 63 [.var 0, .fn 64 [.ptr 5 0, .ptr 9 0], .fn 65 [.ptr 9 0], .fn 66 [.ptr 5 0, .ptr 9 0, .ptr 4 0], .int .i64 (.lit 54)] [.int .i64]
 (.int .i64 (.var 10)) [] false [9] [] [9, 5, 4] [(9, [.elt 8 0 (.var 2) 2 0]), (5, [.var 3]), (4, [.var 0])] (.leaf 0 [.int .i64 (.var 10)] [] [(9, [.elt 8 0 (.var 2) 2 0]), (5,
 [.var 3]), (4, [.var 0])])))))))))))))))))))) := by kernel_rfl

theorem t64 : exFn { P := Try.prog } 64 [.ptr 0 0, .ptr 1 0] [.ptr, .ptr] [] = .start false [] [] [] (.load (.ptr 1 0) [.ptr] (.start false [] [] [] (.load (.ptr 0 0) [.slice] (.ob (.not (.nil
 2)) (.gen (.store 78 (.tmp 6) (.tmp 5)) 0 [(.tmp 6, .ptr 2 0), (.tmp 5, .agg [.var 3, .int .i64 (.lit 2)])] [] (.cst (.tuple #[])) [] false [] [] [] [] (.leaf 0
 [.tuple []] [] [])))))) := by kernel_rfl

theorem t65 : exFn { P := Try.prog } 65 [.ptr 0 0] [.ptr] [] = .start false [] [] [] (.load (.ptr 0 0) [.ptr] (.ob (.not (.nil 1)) (.gen (.store 78 (.tmp 3) (.tmp 2)) 0 [(.tmp 3,
 .ptr 1 0), (.tmp 2, .agg [.cst (.slice none 0 0), .int .i64 (.lit 4)])] [] (.cst (.tuple #[])) [] false [] [] [] [] (.leaf 0 [.tuple []] [] [])))) := by kernel_rfl

theorem t66 : exFn { P := Try.prog, loops := fun r => if Nat.beq r 4 then some ⟨1, [(26, .int .i64)], []⟩ else none } 66 [.ptr 0 0, .ptr 1 0, .ptr 2 0] [.ptr, .ptr, .ptr] [] = .start false [] [] [] (.load (.ptr 1
 0) [.ptr] (.start false [] [] [] (.load (.ptr 0 0) [.slice] (.ob (.not (.nil 3)) (.gen (.store 78 (.tmp 8) (.tmp 7)) 0 [(.tmp 8, .ptr 3 0), (.tmp 7, .agg [.var
 4, .int .i64 (.lit 3)])] [] (.cst (.tuple #[])) [] false [] [] [] [] (.start true [] [] [] (.load (.ptr 2 0) [.ptr] (.ob (.not (.nil 5)) (.load (.ptr 5 8) [.int .i64]
 (.load (.ptr 0 0) [.slice] (.split (.eq (.var 6) (.len 7)) (.start false [] [] [] (.load (.ptr 1 0) [.ptr] (.ob (.not (.nil 8)) (.gen (.store 62 (.tmp 18) (.const
 (.int .i64 2))) 0 [(.tmp 18, .ptr 8 1), (.const (.int .i64 2), .int .i64 (.lit 2))] [] (.cst (.tuple #[])) [] false [] [] [] [] (.start true [] [] [] (.load
 (.ptr 0 0) [.slice] (.load (.ptr 2 0) [.ptr] (.ob (.not (.nil 10)) (.load (.ptr 10 8) [.int .i64] (.pur (.slice 26 (.tmp 19) (some (.tmp 23)) none none) 26
 [(.tmp 19, .var 9), (.tmp 23, .int .i64 (.var 11))] [.slice] (.var 12) (.loop 1 [.int .i64 (.lit 0)] [.int .i64] [] [] [] [] (.split (.lt (.var 13) (.len
 12)) (.start true [] [] [] (.load (.ptr 0 0) [.slice] (.load (.ptr 2 0) [.ptr] (.ob (.not (.nil 15)) (.load (.ptr 15 8) [.int .i64] (.ob (.le (.lit (-9223372036854775808))
 (.add (.var 16) (.var 13))) (.ob (.le (.add (.var 16) (.var 13)) (.lit 9223372036854775807)) (.ob (.le (.lit 0) (.add (.var 16) (.var 13))) (.ob (.lt (.add (.var 16) (.var 13))
 (.len 14)) (.ob (.not (.nil 14)) (.gen (.store 5 (.tmp 36) (.const (.int .u8 255))) 0 [(.tmp 36, .elt 14 0 (.add (.var 16) (.var 13)) 1 0), (.const (.int
 .u8 255), .int .u8 (.lit 255))] [] (.cst (.tuple #[])) [] true [] [] [] [] (.ob (.le (.lit (-9223372036854775808)) (.add (.var 13) (.lit 1))) (.ob (.le (.add (.var 13)
 (.lit 1)) (.lit 9223372036854775807)) (.leaf 1 [.int .i64 (.add (.var 13) (.lit 1))] [] [])))))))))))))) (.leaf 0 [.tuple []] [] []))))))))))))) (.start true [] [] [] (.load (.ptr 0 0)
 [.slice] (.load (.ptr 2 0) [.ptr] (.ob (.not (.nil 9)) (.load (.ptr 9 8) [.int .i64] (.pur (.slice 26 (.tmp 19) (some (.tmp 23)) none none) 26 [(.tmp 19, .var
 8), (.tmp 23, .int .i64 (.var 10))] [.slice] (.var 11) (.loop 1 [.int .i64 (.lit 0)] [.int .i64] [] [] [] [] (.split (.lt (.var 12) (.len 11)) (.start true [] []
 [] (.load (.ptr 0 0) [.slice] (.load (.ptr 2 0) [.ptr] (.ob (.not (.nil 14)) (.load (.ptr 14 8) [.int .i64] (.ob (.le (.lit (-9223372036854775808)) (.add (.var 15) (.var
 12))) (.ob (.le (.add (.var 15) (.var 12)) (.lit 9223372036854775807)) (.ob (.le (.lit 0) (.add (.var 15) (.var 12))) (.ob (.lt (.add (.var 15) (.var 12)) (.len 13)) (.ob (.not
 (.nil 13)) (.gen (.store 5 (.tmp 36) (.const (.int .u8 255))) 0 [(.tmp 36, .elt 13 0 (.add (.var 15) (.var 12)) 1 0), (.const (.int .u8 255), .int
 .u8 (.lit 255))] [] (.cst (.tuple #[])) [] true [] [] [] [] (.ob (.le (.lit (-9223372036854775808)) (.add (.var 12) (.lit 1))) (.ob (.le (.add (.var 12) (.lit 1)) (.lit
 9223372036854775807)) (.leaf 1 [.int .i64 (.add (.var 12) (.lit 1))] [] [])))))))))))))) (.leaf 0 [.tuple []] [] [])))))))))))))))))))) := by kernel_rfl

theorem t54 : exFn { P := Try.prog } 54 [.var 0, .var 1] [.ptr, .ptr] [] = .blk (.blk (.ob (.not (.nil 1)) (.start false [] [] [(3, [.var 1]), (2, [.var 0])] (.load (.ptr 1 2) [.int .i64]
 (.ob (.le (.lit (-9223372036854775808)) (.add (.var 4) (.lit 1))) (.ob (.le (.add (.var 4) (.lit 1)) (.lit 9223372036854775807)) (.gen (.store 3 (.tmp 12) (.tmp 10)) 0
 [(.tmp 12, .ptr 1 2), (.tmp 10, .int .i64 (.add (.var 4) (.lit 1)))] [] (.cst (.tuple #[])) [] false [] [] [3, 2] [(3, [.var 1]), (2, [.var 0])] (.call 63 [.var 0, .fn 69
 [.ptr 3 0, .ptr 2 0], .fn 68 [.ptr 3 0, .ptr 2 0], .fn 68 [.ptr 3 0, .ptr 2 0], .int .i64 (.lit 55)] [.int .i64] (.int .i64 (.var 5)) [] false [] [] [3, 2] [(3, [.var
 1]), (2, [.var 0])] (.leaf 0 [.int .i64 (.var 5)] [] [(3, [.var 1]), (2, [.var 0])]))))))))) := by kernel_rfl

theorem t68 : exFn { P := Try.prog } 68 [.ptr 0 0, .ptr 1 0] [.ptr, .ptr] [] = .start true [] [] [] (.load (.ptr 0 0) [.ptr] (.load (.ptr 1 0) [.ptr] (.ob (.not (.nil 3)) (.load (.ptr 3 1)
 [.int .i64] (.call 58 [.var 2, .int .i64 (.var 4), .int .i64 (.lit 5)] [] (.tuple []) [] true [] [] [] [] (.leaf 0 [.tuple []] [] [])))))) := by kernel_rfl

theorem t69 : exFn { P := Try.prog } 69 [.ptr 0 0, .ptr 1 0] [.ptr, .ptr] [] = .start true [] [] [] (.load (.ptr 0 0) [.ptr] (.load (.ptr 1 0) [.ptr] (.ob (.not (.nil 3)) (.load (.ptr 3 1)
 [.int .i64] (.call 58 [.var 2, .int .i64 (.var 4), .int .i64 (.lit 1)] [] (.tuple []) [] true [] [] [] [] (.leaf 0 [.tuple []] [] [])))))) := by kernel_rfl

theorem t58 : exFn { P := Try.prog, loops := fun r => if Nat.beq r 2 then some ⟨1, [(17, .int .i64)], []⟩ else none } 58 [.var 0, .int .i64 (.var 1), .int .i64 (.var 2)] [.ptr, .int .i64, .int .i64] [] = .gen
 (.makeSlice 79 (.tmp 8) (.tmp 8)) 79 [(.tmp 8, .int .i64 (.var 1)), (.tmp 8, .int .i64 (.var 1))] [.slice] (.var 3) [] false [] [] [] [] (.ob (.not (.nil
 0)) (.gen (.store 79 (.tmp 11) (.tmp 9)) 0 [(.tmp 11, .ptr 0 0), (.tmp 9, .var 3)] [] (.cst (.tuple #[])) [] false [] [] [] [] (.start false [] [] [] (.load (.ptr 0 0)
 [.slice] (.loop 1 [.int .i64 (.lit 0)] [.int .i64] [] [] [] [] (.split (.lt (.var 5) (.len 4)) (.start false [] [] [] (.load (.ptr 0 0) [.slice] (.ob (.le (.lit 0)
 (.var 5)) (.ob (.lt (.var 5) (.len 6)) (.ob (.not (.nil 6)) (.gen (.store 62 (.tmp 27) (.tmp 25)) 0 [(.tmp 27, .elt 6 0 (.var 5) 2 1), (.tmp 25, .int .i64
 (.var 2))] [] (.cst (.tuple #[])) [] false [] [] [] [] (.ob (.le (.lit (-9223372036854775808)) (.add (.var 5) (.lit 1))) (.ob (.le (.add (.var 5) (.lit 1)) (.lit 9223372036854775807))
 (.leaf 1 [.int .i64 (.add (.var 5) (.lit 1))] [] []))))))))) (.gen (.store 3 (.tmp 31) (.const (.int .i64 0))) 0 [(.tmp 31, .ptr 0 1), (.const (.int
 .i64 0), .int .i64 (.lit 0))] [] (.cst (.tuple #[])) [] false [] [] [] [] (.split (.not (.eq (.var 2) (.lit 1))) (.gen (.store 3 (.tmp 37) (.tmp 35)) 0 [(.tmp
 37, .ptr 0 1), (.tmp 35, .int .i64 (.var 1))] [] (.cst (.tuple #[])) [] false [] [] [] [] (.leaf 0 [.tuple []] [] [])) (.leaf 0 [.tuple []] [] []))))))))) := by kernel_rfl

theorem t52 : exFn { P := Try.prog, loops := fun r => if Nat.beq r 3 then some ⟨1, [(3, .int .i64), (11, .int .i64)], []⟩ else if Nat.beq r 11 then some ⟨2, [(6, .slice), (27, .int .i64)], []⟩ else none } 52 [.var 0]
 [.slice] [] = .loop 1 [.int .i64 (.lit 0), .int .i64 (.lit 0)] [.int .i64, .int .i64] [] [] [] [] (.split (.lt (.var 2) (.len 0)) (.ob (.le (.lit 0) (.var
 2)) (.ob (.lt (.var 2) (.len 0)) (.ob (.not (.nil 0)) (.start false [] [] [] (.load (.elt 0 0 (.var 2) 1 0) [.slice] (.ob (.le (.lit (-9223372036854775808)) (.add (.var 1) (.len
 3))) (.ob (.le (.add (.var 1) (.len 3)) (.lit 9223372036854775807)) (.split (.lt (.add (.var 1) (.len 3)) (.lit 0)) (.gen (.makeInterface 9 (.const (.string { data := #[108, 101, 110, 32, 111, 117, 116, 32, 111, 102, 32, 114, 97, 110, 103, 101] })))
 20 [(.const (.string { data := #[108, 101, 110, 32, 111, 117, 116, 32, 111, 102, 32, 114, 97, 110, 103, 101] }), .cst (.string { data := #[108, 101, 110, 32, 111, 117, 116, 32, 111, 102, 32, 114, 97, 110, 103, 101] }))]
 [.any] (.var 4) [] false [] [] [] [] (.bad "panic")) (.ob (.le (.lit (-9223372036854775808)) (.add (.var 2) (.lit 1))) (.ob (.le (.add (.var 2) (.lit 1)) (.lit 9223372036854775807))
 (.leaf 1 [.int .i64 (.add (.var 1) (.len 3)), .int .i64 (.add (.var 2) (.lit 1))] [] []))))))))))) (.call 67 [.cst (.slice none 0 0), .int .i64 (.var 1)] [.slice]
 (.var 3) [] false [] [] [] [] (.loop 2 [.var 3, .int .i64 (.lit 0)] [.slice, .int .i64] [] [] [] [] (.split (.lt (.var 5) (.len 0)) (.ob (.le (.lit 0) (.var 5)) (.ob
 (.lt (.var 5) (.len 0)) (.ob (.not (.nil 0)) (.start false [] [] [] (.load (.elt 0 0 (.var 5) 1 0) [.slice] (.gen (.call { callee := .builtin .append, args := #[.tmp 31, .tmp 32], argTypes := #[26, 26] })
 26 [(.tmp 31, .var 4), (.tmp 32, .var 6)] [.slice] (.var 7) [] false [] [] [] [] (.ob (.le (.lit (-9223372036854775808)) (.add (.var 5) (.lit 1))) (.ob (.le (.add (.var 5)
 (.lit 1)) (.lit 9223372036854775807)) (.leaf 2 [.var 7, .int .i64 (.add (.var 5) (.lit 1))] [] []))))))))) (.leaf 0 [.var 4] [] []))))) := by kernel_rfl

theorem t67 : exFn { P := Try.prog } 67 [.var 0, .int .i64 (.var 1)] [.slice, .int .i64] [] = .split (.lt (.var 1) (.lit 0)) (.gen (.makeInterface 9 (.const (.string { data := #[99, 97, 110, 110, 111, 116, 32, 98, 101, 32, 110, 101, 103, 97, 116, 105, 118, 101] })))
 20 [(.const (.string { data := #[99, 97, 110, 110, 111, 116, 32, 98, 101, 32, 110, 101, 103, 97, 116, 105, 118, 101] }), .cst (.string { data := #[99, 97, 110, 110, 111, 116, 32, 98, 101, 32, 110, 101, 103, 97, 116, 105, 118, 101] }))]
 [.any] (.var 2) [] false [] [] [] [] (.bad "panic")) (.ob (.le (.lit (-9223372036854775808)) (.sub (.cap 0) (.len 0))) (.ob (.le (.sub (.cap 0) (.len 0)) (.lit 9223372036854775807))
 (.ob (.le (.lit (-9223372036854775808)) (.sub (.var 1) (.sub (.cap 0) (.len 0)))) (.ob (.le (.sub (.var 1) (.sub (.cap 0) (.len 0))) (.lit 9223372036854775807)) (.split (.lt (.lit
 0) (.sub (.var 1) (.sub (.cap 0) (.len 0)))) (.start false [] [] [] (.pur (.slice 26 (.tmp 17) none (some (.tmp 19)) none) 26 [(.tmp 17, .var 0), (.tmp 19, .int
 .i64 (.cap 0))] [.slice] (.var 2) (.gen (.call { callee := .builtin .append, args := #[.tmp 20, .tmp 21], argTypes := #[26, 3] }) 26 [(.tmp 20, .var 2),
 (.tmp 21, .int .i64 (.sub (.var 1) (.sub (.cap 0) (.len 0))))] [.slice] (.var 3) [] false [] [] [] [] (.start false [] [] [] (.pur (.slice 26 (.tmp 22) none (some
 (.tmp 24)) none) 26 [(.tmp 22, .var 3), (.tmp 24, .int .i64 (.len 0))] [.slice] (.var 4) (.leaf 0 [.var 4] [] [])))))) (.leaf 0 [.var 0] [] [])))))) := by kernel_rfl

theorem t17 : exFn { P := Try.prog } 17 [.var 0] [.ptr] [] = .blk (.call 33 [.var 0] [.bool] (.bool (.var 2)) [] false [] [] [1] [(1, [.cst (.slice none 0 0)])] (.split (.not (.var 2)) (.ob
 (.not (.nil 0)) (.start false [] [] [(1, [.cst (.slice none 0 0)])] (.load (.ptr 0 5) [.slice] (.call 48 [.var 3, .fn 49 []] [.slice] (.var 4) [] false [] [] [1] [(1, [.cst
 (.slice none 0 0)])] (.leaf 0 [.fn 50 [.ptr 1 0]] [1] [(1, [.var 4])]))))) (.leaf 0 [.fn 50 [.ptr 1 0]] [] [(1, [.cst (.slice none 0 0)])]))) := by kernel_rfl

theorem t48 : exFn { P := Try.prog, loops := fun r => if Nat.beq r 2 then some ⟨1, [(9, .int .i64), (4, .slice)], []⟩ else none } 48 [.var 0, .var 1] [.slice, .func] [] = .loop 1 [.int .i64 (.lit 0), .cst
 (.slice none 0 0)] [.int .i64, .slice] [] [] [] [] (.split (.lt (.var 2) (.len 0)) (.ob (.le (.lit 0) (.var 2)) (.ob (.lt (.var 2) (.len 0)) (.ob (.not (.nil 0))
 (.start false [] [] [] (.load (.elt 0 0 (.var 2) 3 0) [.slice, .int .i64, .int .i64] (.blk (.gen (.call { callee := .value (.tmp 14), args := #[.tmp 15], argTypes := #[81] })
 3 [(.tmp 14, .var 1), (.tmp 15, .agg [.var 4, .int .i64 (.var 5), .int .i64 (.var 6)])] [.int .i64] (.int .i64 (.var 8)) [] false [7] [] [7] [(7, [.var
 4, .int .i64 (.var 5), .int .i64 (.var 6)])] (.blk (.gen (.call { callee := .builtin .append, args := #[.tmp 13, .tmp 17], argTypes := #[24, 24] }) 24 [(.tmp
 13, .var 3), (.tmp 17, .slc 9 0 1 1)] [.slice] (.var 10) [] false [] [] [9, 7] [(9, [.int .i64 (.var 8)]), (7, [.var 4, .int .i64 (.var 5), .int .i64 (.var 6)])]
 (.ob (.le (.lit (-9223372036854775808)) (.add (.var 2) (.lit 1))) (.ob (.le (.add (.var 2) (.lit 1)) (.lit 9223372036854775807)) (.leaf 1 [.int .i64 (.add (.var 2) (.lit 1)),
 .var 10] [] [(9, [.int .i64 (.var 8)]), (7, [.var 4, .int .i64 (.var 5), .int .i64 (.var 6)])])))))))))))) (.leaf 0 [.var 3] [] [])) := by kernel_rfl

theorem t37 : exFn { P := Try.prog, loops := fun r => if Nat.beq r 2 then some ⟨1, [(9, .int .i64), (4, .slice)], []⟩ else none } 37 [.var 0, .var 1] [.slice, .func] [] = .loop 1 [.int .i64 (.lit 0), .cst
 (.slice none 0 0)] [.int .i64, .slice] [] [] [] [] (.split (.lt (.var 2) (.len 0)) (.ob (.le (.lit 0) (.var 2)) (.ob (.lt (.var 2) (.len 0)) (.ob (.not (.nil 0))
 (.start false [] [] [] (.load (.elt 0 0 (.var 2) 3 0) [.slice, .int .i64, .int .i64] (.blk (.gen (.call { callee := .value (.tmp 14), args := #[.tmp 15], argTypes := #[81] })
 81 [(.tmp 14, .var 1), (.tmp 15, .agg [.var 4, .int .i64 (.var 5), .int .i64 (.var 6)])] [.slice, .int .i64, .int .i64] (.agg [.var 8, .int
 .i64 (.var 9), .int .i64 (.var 10)]) [] false [7] [] [7] [(7, [.var 4, .int .i64 (.var 5), .int .i64 (.var 6)])] (.blk (.gen (.call { callee := .builtin .append, args := #[.tmp 13, .tmp 17], argTypes := #[48, 48] })
 48 [(.tmp 13, .var 3), (.tmp 17, .slc 11 0 1 1)] [.slice] (.var 12) [] false [] [] [11, 7] [(11, [.var 8, .int .i64 (.var 9), .int .i64 (.var 10)]), (7, [.var 4, .int
 .i64 (.var 5), .int .i64 (.var 6)])] (.ob (.le (.lit (-9223372036854775808)) (.add (.var 2) (.lit 1))) (.ob (.le (.add (.var 2) (.lit 1)) (.lit 9223372036854775807)) (.leaf
 1 [.int .i64 (.add (.var 2) (.lit 1)), .var 12] [] [(11, [.var 8, .int .i64 (.var 9), .int .i64 (.var 10)]), (7, [.var 4, .int .i64 (.var 5), .int .i64
 (.var 6)])])))))))))))) (.leaf 0 [.var 3] [] [])) := by kernel_rfl

theorem t49 : exFn { P := Try.prog } 49 [.agg [.var 0, .int .i64 (.var 1), .int .i64 (.var 2)]] [.slice, .int .i64, .int .i64] [] = .blk (.leaf 0 [.int .i64 (.var 2)] [] [(3, [.var 0, .int .i64
 (.var 1), .int .i64 (.var 2)])]) := by kernel_rfl

theorem t38 : exFn { P := Try.prog } 38 [.agg [.var 0, .int .i64 (.var 1), .int .i64 (.var 2)]] [.slice, .int .i64, .int .i64] [] = .blk (.blk (.call 39 [.var 0] [.slice] (.var 5) [] false [] [] [4, 3] [(4,
 [.cst (.slice none 0 0), .int .i64 (.lit 0), .int .i64 (.lit 0)]), (3, [.var 0, .int .i64 (.var 1), .int .i64 (.var 2)])] (.leaf 0 [.agg [.var 5, .int
 .i64 (.var 1), .int .i64 (.var 2)]] [4, 3] [(4, [.var 5, .int .i64 (.var 1), .int .i64 (.var 2)]), (3, [.var 5, .int .i64 (.var 1), .int .i64 (.var
 2)])]))) := by kernel_rfl

theorem t50 : exFn { P := Try.prog, loops := fun r => if Nat.beq r 1 then some ⟨1, [(7, .int .i64)], []⟩ else none } 50 [.var 0, .ptr 1 0] [.func, .ptr] [] = .start false [] [] [] (.load (.ptr 1 0) [.slice]
 (.loop 1 [.int .i64 (.lit 0)] [.int .i64] [] [] [] [] (.split (.lt (.var 3) (.len 2)) (.ob (.le (.lit 0) (.var 3)) (.ob (.lt (.var 3) (.len 2)) (.ob (.not (.nil 2))
 (.start false [] [] [] (.load (.elt 2 0 (.var 3) 1 0) [.int .i64] (.gen (.call { callee := .value (.tmp 12), args := #[.tmp 13, .tmp 14], argTypes := #[3, 3] }) 4
 [(.tmp 12, .var 0), (.tmp 13, .int .i64 (.var 3)), (.tmp 14, .int .i64 (.var 4))] [.bool] (.bool (.var 5)) [] false [] [] [] [] (.split (.not (.var 5)) (.leaf
 0 [.tuple []] [] []) (.ob (.le (.lit (-9223372036854775808)) (.add (.var 3) (.lit 1))) (.ob (.le (.add (.var 3) (.lit 1)) (.lit 9223372036854775807)) (.leaf 1 [.int .i64 (.add
 (.var 3) (.lit 1))] [] [])))))))))) (.leaf 0 [.tuple []] [] [])))) := by kernel_rfl

theorem t27 : exFn { P := Try.prog, ranged := true, ranges := fun t => if Nat.beq t 8 then some ⟨2, [3, 3], []⟩ else none } 27 [.var 0, .int .i64 (.var 1)] [.ptr, .int .i64] [] = .blk (.blk (.call 17 [.var 0]
 [.func] (.var 4) [] false [] [] [3, 2] [(3, [.int .i64 (.lit 0)]), (2, [.int .i64 (.var 1)])] (.range 2 (.var 4) [.int .i64, .int .i64] [3, 3] [] [] [] [3, 2] [(3,
 [.int .i64 (.lit 0)]), (2, [.int .i64 (.var 1)])] [(3, [.int .i64 (.lit 0)]), (2, [.int .i64 (.var 1)])] (.split (.eq (.var 5) (.var 1)) (.resume [3] [3, 2] [(3,
 [.int .i64 (.var 6)]), (2, [.int .i64 (.var 1)])] (.leafM 0 [.int .i64 (.var 6)] [] [(3, [.int .i64 (.var 6)]), (2, [.int .i64 (.var 1)])])) (.leaf 2 [] [] [(3,
 [.int .i64 (.lit 0)]), (2, [.int .i64 (.var 1)])])) (.leafM 0 [.int .i64 (.lit 0)] [3] [(3, [.int .i64 (.lit 0)]), (2, [.int .i64 (.var 1)])])))) := by kernel_rfl

theorem t14 : exFn { P := Try.prog } 14 [.var 0] [.ptr] [] = .call 33 [.var 0] [.bool] (.bool (.var 1)) [] false [] [] [] [] (.split (.var 1) (.leaf 0 [.cst (.pointer none)] [] []) (.ob (.not
 (.nil 0)) (.start false [] [] [] (.load (.ptr 0 0) [.int .i64, .int .i64, .int .i64, .int .i64, .map, .slice, .int .i64, .int .i64,
 .int .i64, .bool] (.blk (.start false [12] [] [(12, [.int .i64 (.var 2), .int .i64 (.var 3), .int .i64 (.var 4), .int .i64 (.var 5), .var 6, .var 7,
 .int .i64 (.var 8), .int .i64 (.var 9), .int .i64 (.var 10), .bool (.var 11)])] (.load (.ptr 0 4) [.map] (.call 36 [.var 13] [.map] (.var 14) [] false [] [] [12]
 [(12, [.int .i64 (.var 2), .int .i64 (.var 3), .int .i64 (.var 4), .int .i64 (.var 5), .var 6, .var 7, .int .i64 (.var 8), .int .i64 (.var 9), .int
 .i64 (.var 10), .bool (.var 11)])] (.start false [12] [] [(12, [.int .i64 (.var 2), .int .i64 (.var 3), .int .i64 (.var 4), .int .i64 (.var 5), .var 14,
 .var 7, .int .i64 (.var 8), .int .i64 (.var 9), .int .i64 (.var 10), .bool (.var 11)])] (.load (.ptr 0 5) [.slice] (.call 37 [.var 15, .fn 38 []] [.slice] (.var
 16) [] false [] [] [12] [(12, [.int .i64 (.var 2), .int .i64 (.var 3), .int .i64 (.var 4), .int .i64 (.var 5), .var 14, .var 7, .int .i64 (.var 8), .int
 .i64 (.var 9), .int .i64 (.var 10), .bool (.var 11)])] (.leaf 0 [.ptr 12 0] [12] [(12, [.int .i64 (.var 2), .int .i64 (.var 3), .int .i64 (.var 4), .int
 .i64 (.var 5), .var 14, .var 16, .int .i64 (.var 8), .int .i64 (.var 9), .int .i64 (.var 10), .bool (.var 11)])])))))))))))) := by kernel_rfl

end Go.Proofs.Ytppbapnibpeolaa
