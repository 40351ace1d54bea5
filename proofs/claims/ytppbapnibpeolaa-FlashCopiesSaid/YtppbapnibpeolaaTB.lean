/- What the functions of the chapter come to, printed by a program of the prover's and checked by the kernel. No conditions. -/
import Derived.Test.YtppbapnibpeolaaSxZI
import Derived.Test.YtppbapnibpeolaaProg
import Derived.KernelRfl
set_option maxRecDepth 100000
set_option linter.unusedVariables false
namespace Go.Proofs.Ytppbapnibpeolaa
open Go.Sx

theorem t59 : exFn { P := Try.prog, loops := fun r => if Nat.beq r 3 then some ⟨1, [(6, .int .i64)], []⟩ else none } 59 [.int .i64 (.var 0), .int .i64 (.var 1)] [.int .i64, .int .i64] [] = .gen (.makeSlice 102
 (.tmp 7) (.tmp 7)) 102 [(.tmp 7, .int .i64 (.var 0)), (.tmp 7, .int .i64 (.var 0))] [.slice] (.var 2) [] false [] [] [] [] (.loop 1 [.int .i64 (.lit
 0)] [.int .i64] [] [] [] [] (.split (.lt (.var 3) (.var 0)) (.ob (.le (.lit 0) (.var 3)) (.ob (.lt (.var 3) (.len 2)) (.ob (.not (.nil 2)) (.gen (.store 62 (.tmp 18)
 (.tmp 16)) 0 [(.tmp 18, .elt 2 0 (.var 3) 2 0), (.tmp 16, .int .i64 (.var 1))] [] (.cst (.tuple #[])) [] false [] [] [] [] (.ob (.le (.lit (-9223372036854775808)) (.add
 (.var 3) (.lit 1))) (.ob (.le (.add (.var 3) (.lit 1)) (.lit 9223372036854775807)) (.leaf 1 [.int .i64 (.add (.var 3) (.lit 1))] [] []))))))) (.leaf 0 [.var 2] [] []))) := by
 kernel_rfl

theorem t40 : exFn { P := Try.prog, loops := fun r => if Nat.beq r 11 then some ⟨1, [(15, .int .i64)], []⟩ else none } 40 [.agg [.int .i64 (.var 0), .int .i64 (.var 1), .int .i64 (.var 2), .int .i64 (.var 3), .var 4,
 .var 5, .var 6, .int .i64 (.var 7), .int .i64 (.var 8), .int .i64 (.var 9), .bool (.var 10)], .int .i64 (.var 11), .int .i64 (.var 12), .var 13, .var 14] [.int .i64, .int .i64, .int .i64, .int .i64, .slice, .slice,
 .slice, .int .i64, .int .i64, .int .i64, .bool, .int .i64, .int .i64, .slice, .slice] [] = .blk (.blk (.call 45 [.agg [.int .i64 (.var 0), .int .i64 (.var 1), .int .i64 (.var 2),
 .int .i64 (.var 3), .var 4, .var 5, .var 6, .int .i64 (.var 7), .int .i64 (.var 8), .int .i64 (.var 9), .bool (.var 10)], .int .i64 (.var 11)] [.bool]
 (.bool (.var 17)) [] false [] [] [16, 15] [(16, [.int .i64 (.lit 0), .int .i64 (.lit 0), .int .i64 (.lit 0), .int .i64 (.lit 0), .cst (.slice none 0 0), .cst
 (.slice none 0 0), .cst (.slice none 0 0), .int .i64 (.lit 0), .int .i64 (.lit 0), .int .i64 (.lit 0), .bool (.lit false)]), (15, [.int .i64 (.var 0), .int
 .i64 (.var 1), .int .i64 (.var 2), .int .i64 (.var 3), .var 4, .var 5, .var 6, .int .i64 (.var 7), .int .i64 (.var 8), .int .i64 (.var 9), .bool
 (.var 10)])] (.split (.not (.var 17)) (.leaf 0 [.tuple [.agg [.int .i64 (.var 0), .int .i64 (.var 1), .int .i64 (.var 2), .int .i64 (.var 3), .var 4, .var 5,
 .var 6, .int .i64 (.var 7), .int .i64 (.var 8), .int .i64 (.var 9), .bool (.var 10)], .int .i64 (.lit 2)]] [16] [(16, [.int .i64 (.var 0), .int .i64
 (.var 1), .int .i64 (.var 2), .int .i64 (.var 3), .var 4, .var 5, .var 6, .int .i64 (.var 7), .int .i64 (.var 8), .int .i64 (.var 9), .bool (.var 10)]),
 (15, [.int .i64 (.var 0), .int .i64 (.var 1), .int .i64 (.var 2), .int .i64 (.var 3), .var 4, .var 5, .var 6, .int .i64 (.var 7), .int .i64 (.var
 8), .int .i64 (.var 9), .bool (.var 10)])]) (.split (.lt (.var 12) (.lit 0)) (.leaf 0 [.tuple [.agg [.int .i64 (.var 0), .int .i64 (.var 1), .int .i64 (.var
 2), .int .i64 (.var 3), .var 4, .var 5, .var 6, .int .i64 (.var 7), .int .i64 (.var 8), .int .i64 (.var 9), .bool (.var 10)], .int .i64 (.lit 2)]] [16]
 [(16, [.int .i64 (.var 0), .int .i64 (.var 1), .int .i64 (.var 2), .int .i64 (.var 3), .var 4, .var 5, .var 6, .int .i64 (.var 7), .int .i64 (.var
 8), .int .i64 (.var 9), .bool (.var 10)]), (15, [.int .i64 (.var 0), .int .i64 (.var 1), .int .i64 (.var 2), .int .i64 (.var 3), .var 4, .var 5, .var 6,
 .int .i64 (.var 7), .int .i64 (.var 8), .int .i64 (.var 9), .bool (.var 10)])]) (.split (.le (.var 1) (.var 12)) (.leaf 0 [.tuple [.agg [.int .i64 (.var 0),
 .int .i64 (.var 1), .int .i64 (.var 2), .int .i64 (.var 3), .var 4, .var 5, .var 6, .int .i64 (.var 7), .int .i64 (.var 8), .int .i64 (.var 9),
 .bool (.var 10)], .int .i64 (.lit 2)]] [16] [(16, [.int .i64 (.var 0), .int .i64 (.var 1), .int .i64 (.var 2), .int .i64 (.var 3), .var 4, .var 5, .var 6,
 .int .i64 (.var 7), .int .i64 (.var 8), .int .i64 (.var 9), .bool (.var 10)]), (15, [.int .i64 (.var 0), .int .i64 (.var 1), .int .i64 (.var 2),
 .int .i64 (.var 3), .var 4, .var 5, .var 6, .int .i64 (.var 7), .int .i64 (.var 8), .int .i64 (.var 9), .bool (.var 10)])]) (.split (.not (.eq (.len 13)
 (.var 2))) (.leaf 0 [.tuple [.agg [.int .i64 (.var 0), .int .i64 (.var 1), .int .i64 (.var 2), .int .i64 (.var 3), .var 4, .var 5, .var 6, .int .i64
 (.var 7), .int .i64 (.var 8), .int .i64 (.var 9), .bool (.var 10)], .int .i64 (.lit 2)]] [16] [(16, [.int .i64 (.var 0), .int .i64 (.var 1), .int
 .i64 (.var 2), .int .i64 (.var 3), .var 4, .var 5, .var 6, .int .i64 (.var 7), .int .i64 (.var 8), .int .i64 (.var 9), .bool (.var 10)]), (15, [.int
 .i64 (.var 0), .int .i64 (.var 1), .int .i64 (.var 2), .int .i64 (.var 3), .var 4, .var 5, .var 6, .int .i64 (.var 7), .int .i64 (.var 8), .int
 .i64 (.var 9), .bool (.var 10)])]) (.split (.not (.eq (.len 14) (.lit 64))) (.leaf 0 [.tuple [.agg [.int .i64 (.var 0), .int .i64 (.var 1), .int .i64 (.var
 2), .int .i64 (.var 3), .var 4, .var 5, .var 6, .int .i64 (.var 7), .int .i64 (.var 8), .int .i64 (.var 9), .bool (.var 10)], .int .i64 (.lit 2)]] [16]
 [(16, [.int .i64 (.var 0), .int .i64 (.var 1), .int .i64 (.var 2), .int .i64 (.var 3), .var 4, .var 5, .var 6, .int .i64 (.var 7), .int .i64 (.var
 8), .int .i64 (.var 9), .bool (.var 10)]), (15, [.int .i64 (.var 0), .int .i64 (.var 1), .int .i64 (.var 2), .int .i64 (.var 3), .var 4, .var 5, .var 6,
 .int .i64 (.var 7), .int .i64 (.var 8), .int .i64 (.var 9), .bool (.var 10)])]) (.split (.var 10) (.leaf 0 [.tuple [.agg [.int .i64 (.var 0), .int .i64
 (.var 1), .int .i64 (.var 2), .int .i64 (.var 3), .var 4, .var 5, .var 6, .int .i64 (.var 7), .int .i64 (.var 8), .int .i64 (.var 9), .bool (.var 10)],
 .int .i64 (.lit 50)]] [16] [(16, [.int .i64 (.var 0), .int .i64 (.var 1), .int .i64 (.var 2), .int .i64 (.var 3), .var 4, .var 5, .var 6, .int .i64
 (.var 7), .int .i64 (.var 8), .int .i64 (.var 9), .bool (.var 10)]), (15, [.int .i64 (.var 0), .int .i64 (.var 1), .int .i64 (.var 2), .int .i64
 (.var 3), .var 4, .var 5, .var 6, .int .i64 (.var 7), .int .i64 (.var 8), .int .i64 (.var 9), .bool (.var 10)])]) (.call 46 [.agg [.int .i64 (.var 0), .int
 .i64 (.var 1), .int .i64 (.var 2), .int .i64 (.var 3), .var 4, .var 5, .var 6, .int .i64 (.var 7), .int .i64 (.var 8), .int .i64 (.var 9), .bool
 (.var 10)], .int .i64 (.var 11)] [.int .i64] (.int .i64 (.var 18)) [] false [] [] [16, 15] [(16, [.int .i64 (.lit 0), .int .i64 (.lit 0), .int .i64
 (.lit 0), .int .i64 (.lit 0), .cst (.slice none 0 0), .cst (.slice none 0 0), .cst (.slice none 0 0), .int .i64 (.lit 0), .int .i64 (.lit 0), .int .i64
 (.lit 0), .bool (.lit false)]), (15, [.int .i64 (.var 0), .int .i64 (.var 1), .int .i64 (.var 2), .int .i64 (.var 3), .var 4, .var 5, .var 6, .int .i64
 (.var 7), .int .i64 (.var 8), .int .i64 (.var 9), .bool (.var 10)])] (.split (.not (.eq (.var 12) (.var 18))) (.leaf 0 [.tuple [.agg [.int .i64 (.var 0), .int
 .i64 (.var 1), .int .i64 (.var 2), .int .i64 (.var 3), .var 4, .var 5, .var 6, .int .i64 (.var 7), .int .i64 (.var 8), .int .i64 (.var 9), .bool
 (.var 10)], .int .i64 (.lit 51)]] [16] [(16, [.int .i64 (.var 0), .int .i64 (.var 1), .int .i64 (.var 2), .int .i64 (.var 3), .var 4, .var 5, .var 6, .int
 .i64 (.var 7), .int .i64 (.var 8), .int .i64 (.var 9), .bool (.var 10)]), (15, [.int .i64 (.var 0), .int .i64 (.var 1), .int .i64 (.var 2), .int
 .i64 (.var 3), .var 4, .var 5, .var 6, .int .i64 (.var 7), .int .i64 (.var 8), .int .i64 (.var 9), .bool (.var 10)])]) (.blk (.gen (.call { callee := .builtin .append, args := #[.tmp 55, .tmp 56], argTypes := #[26, 26] })
 26 [(.tmp 55, .slc 19 0 0 0), (.tmp 56, .var 13)] [.slice] (.var 20) [] false [] [] [19, 16, 15] [(19, []), (16, [.int .i64 (.lit 0), .int .i64 (.lit 0), .int .i64
 (.lit 0), .int .i64 (.lit 0), .cst (.slice none 0 0), .cst (.slice none 0 0), .cst (.slice none 0 0), .int .i64 (.lit 0), .int .i64 (.lit 0), .int .i64
 (.lit 0), .bool (.lit false)]), (15, [.int .i64 (.var 0), .int .i64 (.var 1), .int .i64 (.var 2), .int .i64 (.var 3), .var 4, .var 5, .var 6, .int .i64
 (.var 7), .int .i64 (.var 8), .int .i64 (.var 9), .bool (.var 10)])] (.gen (.call { callee := .builtin .append, args := #[.tmp 57, .tmp 58], argTypes := #[26, 26] })
 26 [(.tmp 57, .var 20), (.tmp 58, .var 14)] [.slice] (.var 21) [] false [] [] [19, 16, 15] [(19, []), (16, [.int .i64 (.lit 0), .int .i64 (.lit 0), .int .i64
 (.lit 0), .int .i64 (.lit 0), .cst (.slice none 0 0), .cst (.slice none 0 0), .cst (.slice none 0 0), .int .i64 (.lit 0), .int .i64 (.lit 0), .int .i64
 (.lit 0), .bool (.lit false)]), (15, [.int .i64 (.var 0), .int .i64 (.var 1), .int .i64 (.var 2), .int .i64 (.var 3), .var 4, .var 5, .var 6, .int .i64
 (.var 7), .int .i64 (.var 8), .int .i64 (.var 9), .bool (.var 10)])] (.blk (.split (.eq (.var 7) (.var 8)) (.loop 1 [.int .i64 (.var 9)] [.int .i64] [22]
 [22, 19, 16, 15] [(22, [.int .i64 (.lit 2), .var 21]), (19, []), (16, [.int .i64 (.lit 0), .int .i64 (.lit 0), .int .i64 (.lit 0), .int .i64 (.lit 0), .cst
 (.slice none 0 0), .cst (.slice none 0 0), .cst (.slice none 0 0), .int .i64 (.lit 0), .int .i64 (.lit 0), .int .i64 (.lit 0), .bool (.lit false)]), (15, [.int
 .i64 (.var 0), .int .i64 (.var 1), .int .i64 (.var 2), .int .i64 (.var 3), .var 4, .var 5, .var 6, .int .i64 (.var 7), .int .i64 (.var 8), .int
 .i64 (.var 9), .bool (.var 10)])] [(22, [.int .i64 (.lit 2), .var 21]), (19, []), (16, [.int .i64 (.lit 0), .int .i64 (.lit 0), .int .i64 (.lit 0), .int
 .i64 (.lit 0), .cst (.slice none 0 0), .cst (.slice none 0 0), .cst (.slice none 0 0), .int .i64 (.lit 0), .int .i64 (.lit 0), .int .i64 (.lit 0), .bool
 (.lit false)]), (15, [.int .i64 (.var 0), .int .i64 (.var 1), .int .i64 (.var 2), .int .i64 (.var 3), .var 4, .var 5, .var 6, .int .i64 (.var 7), .int
 .i64 (.var 8), .int .i64 (.var 9), .bool (.var 10)])] (.split (.lt (.var 23) (.len 21)) (.ob (.le (.lit 0) (.var 23)) (.ob (.lt (.var 23) (.len 21)) (.ob (.not (.nil
 21)) (.gen (.store 5 (.tmp 77) (.const (.int .u8 255))) 0 [(.tmp 77, .elt 21 0 (.var 23) 1 0), (.const (.int .u8 255), .int .u8 (.lit 255))] []
 (.cst (.tuple #[])) [] false [] [] [22, 19, 16, 15] [(22, [.int .i64 (.lit 2), .var 21]), (19, []), (16, [.int .i64 (.lit 0), .int .i64 (.lit 0), .int .i64 (.lit 0),
 .int .i64 (.lit 0), .cst (.slice none 0 0), .cst (.slice none 0 0), .cst (.slice none 0 0), .int .i64 (.lit 0), .int .i64 (.lit 0), .int .i64 (.lit 0),
 .bool (.lit false)]), (15, [.int .i64 (.var 0), .int .i64 (.var 1), .int .i64 (.var 2), .int .i64 (.var 3), .var 4, .var 5, .var 6, .int .i64 (.var 7),
 .int .i64 (.var 8), .int .i64 (.var 9), .bool (.var 10)])] (.ob (.le (.lit (-9223372036854775808)) (.add (.var 23) (.lit 1))) (.ob (.le (.add (.var 23) (.lit 1)) (.lit
 9223372036854775807)) (.leaf 1 [.int .i64 (.add (.var 23) (.lit 1))] [] [(22, [.int .i64 (.lit 2), .var 21]), (19, []), (16, [.int .i64 (.lit 0), .int .i64 (.lit 0),
 .int .i64 (.lit 0), .int .i64 (.lit 0), .cst (.slice none 0 0), .cst (.slice none 0 0), .cst (.slice none 0 0), .int .i64 (.lit 0), .int .i64 (.lit 0),
 .int .i64 (.lit 0), .bool (.lit false)]), (15, [.int .i64 (.var 0), .int .i64 (.var 1), .int .i64 (.var 2), .int .i64 (.var 3), .var 4, .var 5, .var 6,
 .int .i64 (.var 7), .int .i64 (.var 8), .int .i64 (.var 9), .bool (.var 10)])]))))))) (.split (.lt (.var 9) (.len 21)) (.blk (.ob (.le (.lit 0) (.var 11)) (.ob
 (.lt (.var 11) (.len 5)) (.ob (.not (.nil 5)) (.start false [15, 22] [] [(24, []), (22, [.int .i64 (.lit 3), .var 21]), (19, []), (16, [.int .i64 (.lit 0), .int .i64
 (.lit 0), .int .i64 (.lit 0), .int .i64 (.lit 0), .cst (.slice none 0 0), .cst (.slice none 0 0), .cst (.slice none 0 0), .int .i64 (.lit 0), .int .i64
 (.lit 0), .int .i64 (.lit 0), .bool (.lit false)]), (15, [.int .i64 (.var 0), .int .i64 (.var 1), .int .i64 (.var 2), .int .i64 (.var 3), .var 4, .var 5,
 .var 6, .int .i64 (.var 7), .int .i64 (.var 8), .int .i64 (.var 9), .bool (.lit true)])] (.load (.elt 5 0 (.var 11) 1 0) [.slice] (.gen (.call { callee := .builtin .append, args := #[.tmp 88, .tmp 93], argTypes := #[102, 102] })
 102 [(.tmp 88, .slc 24 0 0 0), (.tmp 93, .var 25)] [.slice] (.var 26) [] false [] [] [24, 22, 19, 16, 15] [(24, []), (22, [.int .i64 (.lit 3), .var 21]), (19, []), (16, [.int
 .i64 (.lit 0), .int .i64 (.lit 0), .int .i64 (.lit 0), .int .i64 (.lit 0), .cst (.slice none 0 0), .cst (.slice none 0 0), .cst (.slice none 0 0), .int
 .i64 (.lit 0), .int .i64 (.lit 0), .int .i64 (.lit 0), .bool (.lit false)]), (15, [.int .i64 (.var 0), .int .i64 (.var 1), .int .i64 (.var 2), .int
 .i64 (.var 3), .var 4, .var 5, .var 6, .int .i64 (.var 7), .int .i64 (.var 8), .int .i64 (.var 9), .bool (.lit true)])] (.ob (.le (.lit 0) (.var 12)) (.ob
 (.lt (.var 12) (.len 26)) (.ob (.not (.nil 26)) (.gen (.store 106 (.tmp 98) (.tmp 97)) 0 [(.tmp 98, .elt 26 0 (.var 12) 2 0), (.tmp 97, .agg [.int .i64 (.lit
 3), .var 21])] [] (.cst (.tuple #[])) [] false [] [] [24, 22, 19, 16, 15] [(24, []), (22, [.int .i64 (.lit 3), .var 21]), (19, []), (16, [.int .i64 (.lit 0), .int .i64 (.lit
 0), .int .i64 (.lit 0), .int .i64 (.lit 0), .cst (.slice none 0 0), .cst (.slice none 0 0), .cst (.slice none 0 0), .int .i64 (.lit 0), .int .i64 (.lit
 0), .int .i64 (.lit 0), .bool (.lit false)]), (15, [.int .i64 (.var 0), .int .i64 (.var 1), .int .i64 (.var 2), .int .i64 (.var 3), .var 4, .var 5, .var
 6, .int .i64 (.var 7), .int .i64 (.var 8), .int .i64 (.var 9), .bool (.lit true)])] (.call 62 [.agg [.int .i64 (.var 0), .int .i64 (.var 1), .int
 .i64 (.var 2), .int .i64 (.var 3), .var 4, .var 5, .var 6, .int .i64 (.var 7), .int .i64 (.var 8), .int .i64 (.var 9), .bool (.lit true)], .int
 .i64 (.var 11), .var 26] [.int .i64, .int .i64, .int .i64, .int .i64, .slice, .slice, .slice, .int .i64, .int .i64, .int
 .i64, .bool] (.agg [.int .i64 (.var 27), .int .i64 (.var 28), .int .i64 (.var 29), .int .i64 (.var 30), .var 31, .var 32, .var 33, .int .i64
 (.var 34), .int .i64 (.var 35), .int .i64 (.var 36), .bool (.var 37)]) [] false [] [] [24, 22, 19, 16, 15] [(24, []), (22, [.int .i64 (.lit 3), .var 21]), (19, []), (16, [.int
 .i64 (.lit 0), .int .i64 (.lit 0), .int .i64 (.lit 0), .int .i64 (.lit 0), .cst (.slice none 0 0), .cst (.slice none 0 0), .cst (.slice none 0 0), .int
 .i64 (.lit 0), .int .i64 (.lit 0), .int .i64 (.lit 0), .bool (.lit false)]), (15, [.int .i64 (.var 0), .int .i64 (.var 1), .int .i64 (.var 2), .int
 .i64 (.var 3), .var 4, .var 5, .var 6, .int .i64 (.var 7), .int .i64 (.var 8), .int .i64 (.var 9), .bool (.lit true)])] (.ob (.le (.lit (-9223372036854775808))
 (.add (.var 34) (.lit 1))) (.ob (.le (.add (.var 34) (.lit 1)) (.lit 9223372036854775807)) (.leaf 0 [.tuple [.agg [.int .i64 (.var 27), .int .i64 (.var 28), .int
 .i64 (.var 29), .int .i64 (.var 30), .var 31, .var 32, .var 33, .int .i64 (.add (.var 34) (.lit 1)), .int .i64 (.var 35), .int .i64 (.var 36), .bool
 (.var 37)], .int .i64 (.lit 50)]] [16, 15] [(24, []), (22, [.int .i64 (.lit 3), .var 21]), (19, []), (16, [.int .i64 (.var 27), .int .i64 (.var 28), .int .i64
 (.var 29), .int .i64 (.var 30), .var 31, .var 32, .var 33, .int .i64 (.add (.var 34) (.lit 1)), .int .i64 (.var 35), .int .i64 (.var 36), .bool (.var 37)]),
 (15, [.int .i64 (.var 27), .int .i64 (.var 28), .int .i64 (.var 29), .int .i64 (.var 30), .var 31, .var 32, .var 33, .int .i64 (.add (.var 34) (.lit 1)),
 .int .i64 (.var 35), .int .i64 (.var 36), .bool (.var 37)])]))))))))))))))) (.blk (.ob (.le (.lit 0) (.var 11)) (.ob (.lt (.var 11) (.len 5)) (.ob (.not (.nil 5))
 (.start false [15] [] [(24, []), (22, [.int .i64 (.lit 2), .var 21]), (19, []), (16, [.int .i64 (.lit 0), .int .i64 (.lit 0), .int .i64 (.lit 0), .int .i64
 (.lit 0), .cst (.slice none 0 0), .cst (.slice none 0 0), .cst (.slice none 0 0), .int .i64 (.lit 0), .int .i64 (.lit 0), .int .i64 (.lit 0), .bool (.lit
 false)]), (15, [.int .i64 (.var 0), .int .i64 (.var 1), .int .i64 (.var 2), .int .i64 (.var 3), .var 4, .var 5, .var 6, .int .i64 (.var 7), .int .i64
 (.var 8), .int .i64 (.var 9), .bool (.lit true)])] (.load (.elt 5 0 (.var 11) 1 0) [.slice] (.gen (.call { callee := .builtin .append, args := #[.tmp 88, .tmp 93], argTypes := #[102, 102] })
 102 [(.tmp 88, .slc 24 0 0 0), (.tmp 93, .var 25)] [.slice] (.var 26) [] false [] [] [24, 22, 19, 16, 15] [(24, []), (22, [.int .i64 (.lit 2), .var 21]), (19, []), (16, [.int
 .i64 (.lit 0), .int .i64 (.lit 0), .int .i64 (.lit 0), .int .i64 (.lit 0), .cst (.slice none 0 0), .cst (.slice none 0 0), .cst (.slice none 0 0), .int
 .i64 (.lit 0), .int .i64 (.lit 0), .int .i64 (.lit 0), .bool (.lit false)]), (15, [.int .i64 (.var 0), .int .i64 (.var 1), .int .i64 (.var 2), .int
 .i64 (.var 3), .var 4, .var 5, .var 6, .int .i64 (.var 7), .int .i64 (.var 8), .int .i64 (.var 9), .bool (.lit true)])] (.ob (.le (.lit 0) (.var 12)) (.ob
 (.lt (.var 12) (.len 26)) (.ob (.not (.nil 26)) (.gen (.store 106 (.tmp 98) (.tmp 97)) 0 [(.tmp 98, .elt 26 0 (.var 12) 2 0), (.tmp 97, .agg [.int .i64 (.lit
 2), .var 21])] [] (.cst (.tuple #[])) [] false [] [] [24, 22, 19, 16, 15] [(24, []), (22, [.int .i64 (.lit 2), .var 21]), (19, []), (16, [.int .i64 (.lit 0), .int .i64 (.lit
 0), .int .i64 (.lit 0), .int .i64 (.lit 0), .cst (.slice none 0 0), .cst (.slice none 0 0), .cst (.slice none 0 0), .int .i64 (.lit 0), .int .i64 (.lit
 0), .int .i64 (.lit 0), .bool (.lit false)]), (15, [.int .i64 (.var 0), .int .i64 (.var 1), .int .i64 (.var 2), .int .i64 (.var 3), .var 4, .var 5, .var
 6, .int .i64 (.var 7), .int .i64 (.var 8), .int .i64 (.var 9), .bool (.lit true)])] (.call 62 [.agg [.int .i64 (.var 0), .int .i64 (.var 1), .int
 .i64 (.var 2), .int .i64 (.var 3), .var 4, .var 5, .var 6, .int .i64 (.var 7), .int .i64 (.var 8), .int .i64 (.var 9), .bool (.lit true)], .int
 .i64 (.var 11), .var 26] [.int .i64, .int .i64, .int .i64, .int .i64, .slice, .slice, .slice, .int .i64, .int .i64, .int
 .i64, .bool] (.agg [.int .i64 (.var 27), .int .i64 (.var 28), .int .i64 (.var 29), .int .i64 (.var 30), .var 31, .var 32, .var 33, .int .i64
 (.var 34), .int .i64 (.var 35), .int .i64 (.var 36), .bool (.var 37)]) [] false [] [] [24, 22, 19, 16, 15] [(24, []), (22, [.int .i64 (.lit 2), .var 21]), (19, []), (16, [.int
 .i64 (.lit 0), .int .i64 (.lit 0), .int .i64 (.lit 0), .int .i64 (.lit 0), .cst (.slice none 0 0), .cst (.slice none 0 0), .cst (.slice none 0 0), .int
 .i64 (.lit 0), .int .i64 (.lit 0), .int .i64 (.lit 0), .bool (.lit false)]), (15, [.int .i64 (.var 0), .int .i64 (.var 1), .int .i64 (.var 2), .int
 .i64 (.var 3), .var 4, .var 5, .var 6, .int .i64 (.var 7), .int .i64 (.var 8), .int .i64 (.var 9), .bool (.lit true)])] (.ob (.le (.lit (-9223372036854775808))
 (.add (.var 34) (.lit 1))) (.ob (.le (.add (.var 34) (.lit 1)) (.lit 9223372036854775807)) (.leaf 0 [.tuple [.agg [.int .i64 (.var 27), .int .i64 (.var 28), .int
 .i64 (.var 29), .int .i64 (.var 30), .var 31, .var 32, .var 33, .int .i64 (.add (.var 34) (.lit 1)), .int .i64 (.var 35), .int .i64 (.var 36), .bool
 (.var 37)], .int .i64 (.lit 50)]] [16, 15] [(24, []), (22, [.int .i64 (.lit 2), .var 21]), (19, []), (16, [.int .i64 (.var 27), .int .i64 (.var 28), .int .i64
 (.var 29), .int .i64 (.var 30), .var 31, .var 32, .var 33, .int .i64 (.add (.var 34) (.lit 1)), .int .i64 (.var 35), .int .i64 (.var 36), .bool (.var 37)]),
 (15, [.int .i64 (.var 27), .int .i64 (.var 28), .int .i64 (.var 29), .int .i64 (.var 30), .var 31, .var 32, .var 33, .int .i64 (.add (.var 34) (.lit 1)),
 .int .i64 (.var 35), .int .i64 (.var 36), .bool (.var 37)])])))))))))))))))))) (.call 61 [.agg [.int .i64 (.var 0), .int .i64 (.var 1), .int .i64 (.var 2),
 .int .i64 (.var 3), .var 4, .var 5, .var 6, .int .i64 (.var 7), .int .i64 (.var 8), .int .i64 (.var 9), .bool (.var 10)]] [.bool] (.bool (.var 23)) [] false
 [22] [] [22, 19, 16, 15] [(22, [.int .i64 (.lit 2), .var 21]), (19, []), (16, [.int .i64 (.lit 0), .int .i64 (.lit 0), .int .i64 (.lit 0), .int .i64 (.lit 0),
 .cst (.slice none 0 0), .cst (.slice none 0 0), .cst (.slice none 0 0), .int .i64 (.lit 0), .int .i64 (.lit 0), .int .i64 (.lit 0), .bool (.lit false)]), (15,
 [.int .i64 (.var 0), .int .i64 (.var 1), .int .i64 (.var 2), .int .i64 (.var 3), .var 4, .var 5, .var 6, .int .i64 (.var 7), .int .i64 (.var 8),
 .int .i64 (.var 9), .bool (.var 10)])] (.split (.var 23) (.blk (.ob (.le (.lit 0) (.var 11)) (.ob (.lt (.var 11) (.len 5)) (.ob (.not (.nil 5)) (.start false [22] [] [(24,
 []), (22, [.int .i64 (.lit 4), .cst (.slice none 0 0)]), (19, []), (16, [.int .i64 (.lit 0), .int .i64 (.lit 0), .int .i64 (.lit 0), .int .i64 (.lit 0),
 .cst (.slice none 0 0), .cst (.slice none 0 0), .cst (.slice none 0 0), .int .i64 (.lit 0), .int .i64 (.lit 0), .int .i64 (.lit 0), .bool (.lit false)]), (15,
 [.int .i64 (.var 0), .int .i64 (.var 1), .int .i64 (.var 2), .int .i64 (.var 3), .var 4, .var 5, .var 6, .int .i64 (.var 7), .int .i64 (.var 8),
 .int .i64 (.var 9), .bool (.var 10)])] (.load (.elt 5 0 (.var 11) 1 0) [.slice] (.gen (.call { callee := .builtin .append, args := #[.tmp 88, .tmp 93], argTypes := #[102, 102] })
 102 [(.tmp 88, .slc 24 0 0 0), (.tmp 93, .var 25)] [.slice] (.var 26) [] false [] [] [24, 22, 19, 16, 15] [(24, []), (22, [.int .i64 (.lit 4), .cst (.slice none 0 0)]), (19,
 []), (16, [.int .i64 (.lit 0), .int .i64 (.lit 0), .int .i64 (.lit 0), .int .i64 (.lit 0), .cst (.slice none 0 0), .cst (.slice none 0 0), .cst (.slice
 none 0 0), .int .i64 (.lit 0), .int .i64 (.lit 0), .int .i64 (.lit 0), .bool (.lit false)]), (15, [.int .i64 (.var 0), .int .i64 (.var 1), .int .i64
 (.var 2), .int .i64 (.var 3), .var 4, .var 5, .var 6, .int .i64 (.var 7), .int .i64 (.var 8), .int .i64 (.var 9), .bool (.var 10)])] (.ob (.le (.lit 0)
 (.var 12)) (.ob (.lt (.var 12) (.len 26)) (.ob (.not (.nil 26)) (.gen (.store 106 (.tmp 98) (.tmp 97)) 0 [(.tmp 98, .elt 26 0 (.var 12) 2 0), (.tmp 97, .agg [.int
 .i64 (.lit 4), .cst (.slice none 0 0)])] [] (.cst (.tuple #[])) [] false [] [] [24, 22, 19, 16, 15] [(24, []), (22, [.int .i64 (.lit 4), .cst (.slice none 0 0)]), (19, []), (16,
 [.int .i64 (.lit 0), .int .i64 (.lit 0), .int .i64 (.lit 0), .int .i64 (.lit 0), .cst (.slice none 0 0), .cst (.slice none 0 0), .cst (.slice none 0 0),
 .int .i64 (.lit 0), .int .i64 (.lit 0), .int .i64 (.lit 0), .bool (.lit false)]), (15, [.int .i64 (.var 0), .int .i64 (.var 1), .int .i64 (.var 2),
 .int .i64 (.var 3), .var 4, .var 5, .var 6, .int .i64 (.var 7), .int .i64 (.var 8), .int .i64 (.var 9), .bool (.var 10)])] (.call 62 [.agg [.int .i64
 (.var 0), .int .i64 (.var 1), .int .i64 (.var 2), .int .i64 (.var 3), .var 4, .var 5, .var 6, .int .i64 (.var 7), .int .i64 (.var 8), .int .i64
 (.var 9), .bool (.var 10)], .int .i64 (.var 11), .var 26] [.int .i64, .int .i64, .int .i64, .int .i64, .slice, .slice, .slice, .int
 .i64, .int .i64, .int .i64, .bool] (.agg [.int .i64 (.var 27), .int .i64 (.var 28), .int .i64 (.var 29), .int .i64 (.var 30), .var 31,
 .var 32, .var 33, .int .i64 (.var 34), .int .i64 (.var 35), .int .i64 (.var 36), .bool (.var 37)]) [] false [] [] [24, 22, 19, 16, 15] [(24, []), (22, [.int .i64 (.lit
 4), .cst (.slice none 0 0)]), (19, []), (16, [.int .i64 (.lit 0), .int .i64 (.lit 0), .int .i64 (.lit 0), .int .i64 (.lit 0), .cst (.slice none 0 0), .cst
 (.slice none 0 0), .cst (.slice none 0 0), .int .i64 (.lit 0), .int .i64 (.lit 0), .int .i64 (.lit 0), .bool (.lit false)]), (15, [.int .i64 (.var 0), .int
 .i64 (.var 1), .int .i64 (.var 2), .int .i64 (.var 3), .var 4, .var 5, .var 6, .int .i64 (.var 7), .int .i64 (.var 8), .int .i64 (.var 9), .bool
 (.var 10)])] (.ob (.le (.lit (-9223372036854775808)) (.add (.var 34) (.lit 1))) (.ob (.le (.add (.var 34) (.lit 1)) (.lit 9223372036854775807)) (.leaf 0 [.tuple [.agg [.int .i64
 (.var 27), .int .i64 (.var 28), .int .i64 (.var 29), .int .i64 (.var 30), .var 31, .var 32, .var 33, .int .i64 (.add (.var 34) (.lit 1)), .int .i64
 (.var 35), .int .i64 (.var 36), .bool (.var 37)], .int .i64 (.lit 54)]] [16, 15] [(24, []), (22, [.int .i64 (.lit 4), .cst (.slice none 0 0)]), (19, []), (16, [.int
 .i64 (.var 27), .int .i64 (.var 28), .int .i64 (.var 29), .int .i64 (.var 30), .var 31, .var 32, .var 33, .int .i64 (.add (.var 34) (.lit 1)), .int
 .i64 (.var 35), .int .i64 (.var 36), .bool (.var 37)]), (15, [.int .i64 (.var 27), .int .i64 (.var 28), .int .i64 (.var 29), .int .i64 (.var 30),
 .var 31, .var 32, .var 33, .int .i64 (.add (.var 34) (.lit 1)), .int .i64 (.var 35), .int .i64 (.var 36), .bool (.var 37)])]))))))))))))))) (.blk (.ob (.le (.lit 0)
 (.var 11)) (.ob (.lt (.var 11) (.len 5)) (.ob (.not (.nil 5)) (.start false [] [] [(24, []), (22, [.int .i64 (.lit 2), .var 21]), (19, []), (16, [.int .i64 (.lit 0), .int
 .i64 (.lit 0), .int .i64 (.lit 0), .int .i64 (.lit 0), .cst (.slice none 0 0), .cst (.slice none 0 0), .cst (.slice none 0 0), .int .i64 (.lit 0), .int
 .i64 (.lit 0), .int .i64 (.lit 0), .bool (.lit false)]), (15, [.int .i64 (.var 0), .int .i64 (.var 1), .int .i64 (.var 2), .int .i64 (.var 3), .var
 4, .var 5, .var 6, .int .i64 (.var 7), .int .i64 (.var 8), .int .i64 (.var 9), .bool (.var 10)])] (.load (.elt 5 0 (.var 11) 1 0) [.slice] (.gen (.call { callee := .builtin .append, args := #[.tmp 88, .tmp 93], argTypes := #[102, 102] })
 102 [(.tmp 88, .slc 24 0 0 0), (.tmp 93, .var 25)] [.slice] (.var 26) [] false [] [] [24, 22, 19, 16, 15] [(24, []), (22, [.int .i64 (.lit 2), .var 21]), (19, []), (16, [.int
 .i64 (.lit 0), .int .i64 (.lit 0), .int .i64 (.lit 0), .int .i64 (.lit 0), .cst (.slice none 0 0), .cst (.slice none 0 0), .cst (.slice none 0 0), .int
 .i64 (.lit 0), .int .i64 (.lit 0), .int .i64 (.lit 0), .bool (.lit false)]), (15, [.int .i64 (.var 0), .int .i64 (.var 1), .int .i64 (.var 2), .int
 .i64 (.var 3), .var 4, .var 5, .var 6, .int .i64 (.var 7), .int .i64 (.var 8), .int .i64 (.var 9), .bool (.var 10)])] (.ob (.le (.lit 0) (.var 12)) (.ob
 (.lt (.var 12) (.len 26)) (.ob (.not (.nil 26)) (.gen (.store 106 (.tmp 98) (.tmp 97)) 0 [(.tmp 98, .elt 26 0 (.var 12) 2 0), (.tmp 97, .agg [.int .i64 (.lit
 2), .var 21])] [] (.cst (.tuple #[])) [] false [] [] [24, 22, 19, 16, 15] [(24, []), (22, [.int .i64 (.lit 2), .var 21]), (19, []), (16, [.int .i64 (.lit 0), .int .i64 (.lit
 0), .int .i64 (.lit 0), .int .i64 (.lit 0), .cst (.slice none 0 0), .cst (.slice none 0 0), .cst (.slice none 0 0), .int .i64 (.lit 0), .int .i64 (.lit
 0), .int .i64 (.lit 0), .bool (.lit false)]), (15, [.int .i64 (.var 0), .int .i64 (.var 1), .int .i64 (.var 2), .int .i64 (.var 3), .var 4, .var 5, .var
 6, .int .i64 (.var 7), .int .i64 (.var 8), .int .i64 (.var 9), .bool (.var 10)])] (.call 62 [.agg [.int .i64 (.var 0), .int .i64 (.var 1), .int
 .i64 (.var 2), .int .i64 (.var 3), .var 4, .var 5, .var 6, .int .i64 (.var 7), .int .i64 (.var 8), .int .i64 (.var 9), .bool (.var 10)], .int .i64
 (.var 11), .var 26] [.int .i64, .int .i64, .int .i64, .int .i64, .slice, .slice, .slice, .int .i64, .int .i64, .int .i64,
 .bool] (.agg [.int .i64 (.var 27), .int .i64 (.var 28), .int .i64 (.var 29), .int .i64 (.var 30), .var 31, .var 32, .var 33, .int .i64 (.var 34), .int
 .i64 (.var 35), .int .i64 (.var 36), .bool (.var 37)]) [] false [] [] [24, 22, 19, 16, 15] [(24, []), (22, [.int .i64 (.lit 2), .var 21]), (19, []), (16, [.int .i64 (.lit
 0), .int .i64 (.lit 0), .int .i64 (.lit 0), .int .i64 (.lit 0), .cst (.slice none 0 0), .cst (.slice none 0 0), .cst (.slice none 0 0), .int .i64 (.lit
 0), .int .i64 (.lit 0), .int .i64 (.lit 0), .bool (.lit false)]), (15, [.int .i64 (.var 0), .int .i64 (.var 1), .int .i64 (.var 2), .int .i64 (.var
 3), .var 4, .var 5, .var 6, .int .i64 (.var 7), .int .i64 (.var 8), .int .i64 (.var 9), .bool (.var 10)])] (.ob (.le (.lit (-9223372036854775808)) (.add (.var 34)
 (.lit 1))) (.ob (.le (.add (.var 34) (.lit 1)) (.lit 9223372036854775807)) (.leaf 0 [.tuple [.agg [.int .i64 (.var 27), .int .i64 (.var 28), .int .i64 (.var 29),
 .int .i64 (.var 30), .var 31, .var 32, .var 33, .int .i64 (.add (.var 34) (.lit 1)), .int .i64 (.var 35), .int .i64 (.var 36), .bool (.var 37)], .int
 .i64 (.lit 0)]] [16, 15] [(24, []), (22, [.int .i64 (.lit 2), .var 21]), (19, []), (16, [.int .i64 (.var 27), .int .i64 (.var 28), .int .i64 (.var 29), .int
 .i64 (.var 30), .var 31, .var 32, .var 33, .int .i64 (.add (.var 34) (.lit 1)), .int .i64 (.var 35), .int .i64 (.var 36), .bool (.var 37)]), (15, [.int
 .i64 (.var 27), .int .i64 (.var 28), .int .i64 (.var 29), .int .i64 (.var 30), .var 31, .var 32, .var 33, .int .i64 (.add (.var 34) (.lit 1)), .int
 .i64 (.var 35), .int .i64 (.var 36), .bool (.var 37)])])))))))))))))))))))))))))))))))) := by kernel_rfl

theorem t41 : exFn { P := Try.prog } 41 [.agg [.int .i64 (.var 0), .int .i64 (.var 1), .int .i64 (.var 2), .int .i64 (.var 3), .var 4, .var 5, .var 6, .int .i64 (.var 7), .int .i64 (.var 8), .int .i64 (.var 9), .bool
 (.var 10)], .int .i64 (.var 11)] [.int .i64, .int .i64, .int .i64, .int .i64, .slice, .slice, .slice, .int .i64, .int .i64, .int .i64, .bool, .int .i64] [] = .blk (.blk (.call 45 [.agg [.int .i64
 (.var 0), .int .i64 (.var 1), .int .i64 (.var 2), .int .i64 (.var 3), .var 4, .var 5, .var 6, .int .i64 (.var 7), .int .i64 (.var 8), .int .i64
 (.var 9), .bool (.var 10)], .int .i64 (.var 11)] [.bool] (.bool (.var 14)) [] false [] [] [13, 12] [(13, [.int .i64 (.lit 0), .int .i64 (.lit 0), .int .i64 (.lit
 0), .int .i64 (.lit 0), .cst (.slice none 0 0), .cst (.slice none 0 0), .cst (.slice none 0 0), .int .i64 (.lit 0), .int .i64 (.lit 0), .int .i64 (.lit
 0), .bool (.lit false)]), (12, [.int .i64 (.var 0), .int .i64 (.var 1), .int .i64 (.var 2), .int .i64 (.var 3), .var 4, .var 5, .var 6, .int .i64 (.var
 7), .int .i64 (.var 8), .int .i64 (.var 9), .bool (.var 10)])] (.split (.not (.var 14)) (.leaf 0 [.tuple [.agg [.int .i64 (.var 0), .int .i64 (.var 1), .int
 .i64 (.var 2), .int .i64 (.var 3), .var 4, .var 5, .var 6, .int .i64 (.var 7), .int .i64 (.var 8), .int .i64 (.var 9), .bool (.var 10)], .int .i64
 (.lit 2)]] [13] [(13, [.int .i64 (.var 0), .int .i64 (.var 1), .int .i64 (.var 2), .int .i64 (.var 3), .var 4, .var 5, .var 6, .int .i64 (.var 7), .int
 .i64 (.var 8), .int .i64 (.var 9), .bool (.var 10)]), (12, [.int .i64 (.var 0), .int .i64 (.var 1), .int .i64 (.var 2), .int .i64 (.var 3), .var 4,
 .var 5, .var 6, .int .i64 (.var 7), .int .i64 (.var 8), .int .i64 (.var 9), .bool (.var 10)])]) (.split (.var 10) (.leaf 0 [.tuple [.agg [.int .i64 (.var 0),
 .int .i64 (.var 1), .int .i64 (.var 2), .int .i64 (.var 3), .var 4, .var 5, .var 6, .int .i64 (.var 7), .int .i64 (.var 8), .int .i64 (.var 9),
 .bool (.var 10)], .int .i64 (.lit 50)]] [13] [(13, [.int .i64 (.var 0), .int .i64 (.var 1), .int .i64 (.var 2), .int .i64 (.var 3), .var 4, .var 5, .var
 6, .int .i64 (.var 7), .int .i64 (.var 8), .int .i64 (.var 9), .bool (.var 10)]), (12, [.int .i64 (.var 0), .int .i64 (.var 1), .int .i64 (.var 2),
 .int .i64 (.var 3), .var 4, .var 5, .var 6, .int .i64 (.var 7), .int .i64 (.var 8), .int .i64 (.var 9), .bool (.var 10)])]) (.start true [] [13, 12] [(13, [.int
 .i64 (.lit 0), .int .i64 (.lit 0), .int .i64 (.lit 0), .int .i64 (.lit 0), .cst (.slice none 0 0), .cst (.slice none 0 0), .cst (.slice none 0 0), .int
 .i64 (.lit 0), .int .i64 (.lit 0), .int .i64 (.lit 0), .bool (.lit false)]), (12, [.int .i64 (.var 0), .int .i64 (.var 1), .int .i64 (.var 2), .int
 .i64 (.var 3), .var 4, .var 5, .var 6, .int .i64 (.var 7), .int .i64 (.var 8), .int .i64 (.var 9), .bool (.var 10)])] (.ob (.le (.lit 0) (.var 11)) (.ob
 (.lt (.var 11) (.len 6)) (.ob (.not (.nil 6)) (.load (.elt 6 0 (.var 11) 1 0) [.int .i64] (.split (.le (.var 3) (.var 15)) (.leaf 0 [.tuple [.agg [.int .i64 (.var
 0), .int .i64 (.var 1), .int .i64 (.var 2), .int .i64 (.var 3), .var 4, .var 5, .var 6, .int .i64 (.var 7), .int .i64 (.var 8), .int .i64 (.var 9),
 .bool (.var 10)], .int .i64 (.lit 56)]] [13] [(13, [.int .i64 (.var 0), .int .i64 (.var 1), .int .i64 (.var 2), .int .i64 (.var 3), .var 4, .var 5, .var
 6, .int .i64 (.var 7), .int .i64 (.var 8), .int .i64 (.var 9), .bool (.var 10)]), (12, [.int .i64 (.var 0), .int .i64 (.var 1), .int .i64 (.var 2),
 .int .i64 (.var 3), .var 4, .var 5, .var 6, .int .i64 (.var 7), .int .i64 (.var 8), .int .i64 (.var 9), .bool (.var 10)])]) (.split (.eq (.var 7) (.var 8))
 (.start true [12] [13, 12] [(13, [.int .i64 (.lit 0), .int .i64 (.lit 0), .int .i64 (.lit 0), .int .i64 (.lit 0), .cst (.slice none 0 0), .cst (.slice none 0
 0), .cst (.slice none 0 0), .int .i64 (.lit 0), .int .i64 (.lit 0), .int .i64 (.lit 0), .bool (.lit false)]), (12, [.int .i64 (.var 0), .int .i64 (.var
 1), .int .i64 (.var 2), .int .i64 (.var 3), .var 4, .var 5, .var 6, .int .i64 (.var 7), .int .i64 (.var 8), .int .i64 (.var 9), .bool (.lit true)])]
 (.both (.call 59 [.int .i64 (.var 1), .int .i64 (.lit 5)] [.slice] (.var 16) [] true [] [] [13, 12] [(13, [.int .i64 (.lit 0), .int .i64 (.lit 0), .int .i64
 (.lit 0), .int .i64 (.lit 0), .cst (.slice none 0 0), .cst (.slice none 0 0), .cst (.slice none 0 0), .int .i64 (.lit 0), .int .i64 (.lit 0), .int .i64
 (.lit 0), .bool (.lit false)]), (12, [.int .i64 (.var 0), .int .i64 (.var 1), .int .i64 (.var 2), .int .i64 (.var 3), .var 4, .var 5, .var 6, .int .i64
 (.var 7), .int .i64 (.var 8), .int .i64 (.var 9), .bool (.lit true)])] (.call 62 [.agg [.int .i64 (.var 0), .int .i64 (.var 1), .int .i64 (.var 2), .int
 .i64 (.var 3), .var 4, .var 5, .var 6, .int .i64 (.var 7), .int .i64 (.var 8), .int .i64 (.var 9), .bool (.lit true)], .int .i64 (.var 11), .var 16]
 [.int .i64, .int .i64, .int .i64, .int .i64, .slice, .slice, .slice, .int .i64, .int .i64, .int .i64, .bool] (.agg [.int
 .i64 (.var 17), .int .i64 (.var 18), .int .i64 (.var 19), .int .i64 (.var 20), .var 21, .var 22, .var 23, .int .i64 (.var 24), .int .i64 (.var 25),
 .int .i64 (.var 26), .bool (.var 27)]) [] true [] [] [13, 12] [(13, [.int .i64 (.lit 0), .int .i64 (.lit 0), .int .i64 (.lit 0), .int .i64 (.lit 0), .cst
 (.slice none 0 0), .cst (.slice none 0 0), .cst (.slice none 0 0), .int .i64 (.lit 0), .int .i64 (.lit 0), .int .i64 (.lit 0), .bool (.lit false)]), (12, [.int
 .i64 (.var 0), .int .i64 (.var 1), .int .i64 (.var 2), .int .i64 (.var 3), .var 4, .var 5, .var 6, .int .i64 (.var 7), .int .i64 (.var 8), .int
 .i64 (.var 9), .bool (.lit true)])] (.blk (.gen (.call { callee := .builtin .append, args := #[.tmp 42, .tmp 44], argTypes := #[24, 24] }) 24 [(.tmp 42, .slc 28 0 0
 0), (.tmp 44, .var 23)] [.slice] (.var 29) [] false [12] [] [28, 13, 12] [(28, []), (13, [.int .i64 (.lit 0), .int .i64 (.lit 0), .int .i64 (.lit 0), .int .i64
 (.lit 0), .cst (.slice none 0 0), .cst (.slice none 0 0), .cst (.slice none 0 0), .int .i64 (.lit 0), .int .i64 (.lit 0), .int .i64 (.lit 0), .bool (.lit
 false)]), (12, [.int .i64 (.var 17), .int .i64 (.var 18), .int .i64 (.var 19), .int .i64 (.var 20), .var 21, .var 22, .var 23, .int .i64 (.var 24), .int
 .i64 (.var 25), .int .i64 (.var 26), .bool (.var 27)])] (.ob (.le (.lit 0) (.var 11)) (.ob (.lt (.var 11) (.len 29)) (.ob (.not (.nil 29)) (.start false [12] [] [(28, []),
 (13, [.int .i64 (.lit 0), .int .i64 (.lit 0), .int .i64 (.lit 0), .int .i64 (.lit 0), .cst (.slice none 0 0), .cst (.slice none 0 0), .cst (.slice none 0
 0), .int .i64 (.lit 0), .int .i64 (.lit 0), .int .i64 (.lit 0), .bool (.lit false)]), (12, [.int .i64 (.var 17), .int .i64 (.var 18), .int .i64 (.var
 19), .int .i64 (.var 20), .var 21, .var 22, .var 29, .int .i64 (.var 24), .int .i64 (.var 25), .int .i64 (.var 26), .bool (.var 27)])] (.load (.elt 29 0 (.var
 11) 1 0) [.int .i64] (.ob (.le (.lit (-9223372036854775808)) (.add (.var 30) (.lit 1))) (.ob (.le (.add (.var 30) (.lit 1)) (.lit 9223372036854775807)) (.ob (.le (.lit 0) (.var
 11)) (.ob (.lt (.var 11) (.len 29)) (.gen (.store 3 (.tmp 53) (.tmp 52)) 0 [(.tmp 53, .elt 29 0 (.var 11) 1 0), (.tmp 52, .int .i64 (.add (.var 30) (.lit 1)))]
 [] (.cst (.tuple #[])) [] false [] [] [28, 13, 12] [(28, []), (13, [.int .i64 (.lit 0), .int .i64 (.lit 0), .int .i64 (.lit 0), .int .i64 (.lit 0), .cst (.slice
 none 0 0), .cst (.slice none 0 0), .cst (.slice none 0 0), .int .i64 (.lit 0), .int .i64 (.lit 0), .int .i64 (.lit 0), .bool (.lit false)]), (12, [.int .i64
 (.var 17), .int .i64 (.var 18), .int .i64 (.var 19), .int .i64 (.var 20), .var 21, .var 22, .var 29, .int .i64 (.var 24), .int .i64 (.var 25), .int
 .i64 (.var 26), .bool (.var 27)])] (.ob (.le (.lit (-9223372036854775808)) (.add (.var 24) (.lit 1))) (.ob (.le (.add (.var 24) (.lit 1)) (.lit 9223372036854775807)) (.leaf 0
 [.tuple [.agg [.int .i64 (.var 17), .int .i64 (.var 18), .int .i64 (.var 19), .int .i64 (.var 20), .var 21, .var 22, .var 29, .int .i64 (.add (.var 24)
 (.lit 1)), .int .i64 (.var 25), .int .i64 (.var 26), .bool (.var 27)], .int .i64 (.lit 50)]] [13, 12] [(28, []), (13, [.int .i64 (.var 17), .int .i64 (.var
 18), .int .i64 (.var 19), .int .i64 (.var 20), .var 21, .var 22, .var 29, .int .i64 (.add (.var 24) (.lit 1)), .int .i64 (.var 25), .int .i64 (.var 26),
 .bool (.var 27)]), (12, [.int .i64 (.var 17), .int .i64 (.var 18), .int .i64 (.var 19), .int .i64 (.var 20), .var 21, .var 22, .var 29, .int .i64 (.add
 (.var 24) (.lit 1)), .int .i64 (.var 25), .int .i64 (.var 26), .bool (.var 27)])]))))))))))))))))) (.both (.call 59 [.int .i64 (.var 1), .int .i64 (.lit 5)]
 [.slice] (.var 16) [] true [] [] [13, 12] [(13, [.int .i64 (.lit 0), .int .i64 (.lit 0), .int .i64 (.lit 0), .int .i64 (.lit 0), .cst (.slice none 0 0), .cst
 (.slice none 0 0), .cst (.slice none 0 0), .int .i64 (.lit 0), .int .i64 (.lit 0), .int .i64 (.lit 0), .bool (.lit false)]), (12, [.int .i64 (.var 0), .int
 .i64 (.var 1), .int .i64 (.var 2), .int .i64 (.var 3), .var 4, .var 5, .var 6, .int .i64 (.var 7), .int .i64 (.var 8), .int .i64 (.var 9), .bool
 (.lit true)])] (.call 62 [.agg [.int .i64 (.var 0), .int .i64 (.var 1), .int .i64 (.var 2), .int .i64 (.var 3), .var 4, .var 5, .var 6, .int .i64 (.var
 7), .int .i64 (.var 8), .int .i64 (.var 9), .bool (.lit true)], .int .i64 (.var 11), .var 16] [.int .i64, .int .i64, .int .i64, .int
 .i64, .slice, .slice, .slice, .int .i64, .int .i64, .int .i64, .bool] (.agg [.int .i64 (.var 17), .int .i64 (.var 18), .int .i64
 (.var 19), .int .i64 (.var 20), .var 21, .var 22, .var 23, .int .i64 (.var 24), .int .i64 (.var 25), .int .i64 (.var 26), .bool (.var 27)]) [] true [] [] [13, 12]
 [(13, [.int .i64 (.lit 0), .int .i64 (.lit 0), .int .i64 (.lit 0), .int .i64 (.lit 0), .cst (.slice none 0 0), .cst (.slice none 0 0), .cst (.slice none 0
 0), .int .i64 (.lit 0), .int .i64 (.lit 0), .int .i64 (.lit 0), .bool (.lit false)]), (12, [.int .i64 (.var 0), .int .i64 (.var 1), .int .i64 (.var
 2), .int .i64 (.var 3), .var 4, .var 5, .var 6, .int .i64 (.var 7), .int .i64 (.var 8), .int .i64 (.var 9), .bool (.lit true)])] (.blk (.gen (.call { callee := .builtin .append, args := #[.tmp 42, .tmp 44], argTypes := #[24, 24] })
 24 [(.tmp 42, .slc 28 0 0 0), (.tmp 44, .var 23)] [.slice] (.var 29) [] false [12] [] [28, 13, 12] [(28, []), (13, [.int .i64 (.lit 0), .int .i64 (.lit 0), .int
 .i64 (.lit 0), .int .i64 (.lit 0), .cst (.slice none 0 0), .cst (.slice none 0 0), .cst (.slice none 0 0), .int .i64 (.lit 0), .int .i64 (.lit 0), .int
 .i64 (.lit 0), .bool (.lit false)]), (12, [.int .i64 (.var 17), .int .i64 (.var 18), .int .i64 (.var 19), .int .i64 (.var 20), .var 21, .var 22, .var 23,
 .int .i64 (.var 24), .int .i64 (.var 25), .int .i64 (.var 26), .bool (.var 27)])] (.ob (.le (.lit 0) (.var 11)) (.ob (.lt (.var 11) (.len 29)) (.ob (.not (.nil
 29)) (.start false [12] [] [(28, []), (13, [.int .i64 (.lit 0), .int .i64 (.lit 0), .int .i64 (.lit 0), .int .i64 (.lit 0), .cst (.slice none 0 0), .cst
 (.slice none 0 0), .cst (.slice none 0 0), .int .i64 (.lit 0), .int .i64 (.lit 0), .int .i64 (.lit 0), .bool (.lit false)]), (12, [.int .i64 (.var 17), .int
 .i64 (.var 18), .int .i64 (.var 19), .int .i64 (.var 20), .var 21, .var 22, .var 29, .int .i64 (.var 24), .int .i64 (.var 25), .int .i64 (.var 26),
 .bool (.var 27)])] (.load (.elt 29 0 (.var 11) 1 0) [.int .i64] (.ob (.le (.lit (-9223372036854775808)) (.add (.var 30) (.lit 1))) (.ob (.le (.add (.var 30) (.lit 1)) (.lit
 9223372036854775807)) (.ob (.le (.lit 0) (.var 11)) (.ob (.lt (.var 11) (.len 29)) (.gen (.store 3 (.tmp 53) (.tmp 52)) 0 [(.tmp 53, .elt 29 0 (.var 11) 1 0), (.tmp
 52, .int .i64 (.add (.var 30) (.lit 1)))] [] (.cst (.tuple #[])) [] false [] [] [28, 13, 12] [(28, []), (13, [.int .i64 (.lit 0), .int .i64 (.lit 0), .int .i64
 (.lit 0), .int .i64 (.lit 0), .cst (.slice none 0 0), .cst (.slice none 0 0), .cst (.slice none 0 0), .int .i64 (.lit 0), .int .i64 (.lit 0), .int .i64
 (.lit 0), .bool (.lit false)]), (12, [.int .i64 (.var 17), .int .i64 (.var 18), .int .i64 (.var 19), .int .i64 (.var 20), .var 21, .var 22, .var 29, .int
 .i64 (.var 24), .int .i64 (.var 25), .int .i64 (.var 26), .bool (.var 27)])] (.ob (.le (.lit (-9223372036854775808)) (.add (.var 24) (.lit 1))) (.ob (.le (.add
 (.var 24) (.lit 1)) (.lit 9223372036854775807)) (.leaf 0 [.tuple [.agg [.int .i64 (.var 17), .int .i64 (.var 18), .int .i64 (.var 19), .int .i64 (.var 20), .var
 21, .var 22, .var 29, .int .i64 (.add (.var 24) (.lit 1)), .int .i64 (.var 25), .int .i64 (.var 26), .bool (.var 27)], .int .i64 (.lit 50)]] [13, 12] [(28, []),
 (13, [.int .i64 (.var 17), .int .i64 (.var 18), .int .i64 (.var 19), .int .i64 (.var 20), .var 21, .var 22, .var 29, .int .i64 (.add (.var 24) (.lit 1)),
 .int .i64 (.var 25), .int .i64 (.var 26), .bool (.var 27)]), (12, [.int .i64 (.var 17), .int .i64 (.var 18), .int .i64 (.var 19), .int .i64 (.var
 20), .var 21, .var 22, .var 29, .int .i64 (.add (.var 24) (.lit 1)), .int .i64 (.var 25), .int .i64 (.var 26), .bool (.var 27)])]))))))))))))))))) (.call 59 [.int
 .i64 (.var 1), .int .i64 (.lit 5)] [.slice] (.var 16) [] true [] [] [13, 12] [(13, [.int .i64 (.lit 0), .int .i64 (.lit 0), .int .i64 (.lit 0), .int
 .i64 (.lit 0), .cst (.slice none 0 0), .cst (.slice none 0 0), .cst (.slice none 0 0), .int .i64 (.lit 0), .int .i64 (.lit 0), .int .i64 (.lit 0), .bool
 (.lit false)]), (12, [.int .i64 (.var 0), .int .i64 (.var 1), .int .i64 (.var 2), .int .i64 (.var 3), .var 4, .var 5, .var 6, .int .i64 (.var 7), .int
 .i64 (.var 8), .int .i64 (.var 9), .bool (.lit true)])] (.call 62 [.agg [.int .i64 (.var 0), .int .i64 (.var 1), .int .i64 (.var 2), .int .i64
 (.var 3), .var 4, .var 5, .var 6, .int .i64 (.var 7), .int .i64 (.var 8), .int .i64 (.var 9), .bool (.lit true)], .int .i64 (.var 11), .var 16] [.int
 .i64, .int .i64, .int .i64, .int .i64, .slice, .slice, .slice, .int .i64, .int .i64, .int .i64, .bool] (.agg [.int .i64
 (.var 17), .int .i64 (.var 18), .int .i64 (.var 19), .int .i64 (.var 20), .var 21, .var 22, .var 23, .int .i64 (.var 24), .int .i64 (.var 25), .int
 .i64 (.var 26), .bool (.var 27)]) [] true [] [] [13, 12] [(13, [.int .i64 (.lit 0), .int .i64 (.lit 0), .int .i64 (.lit 0), .int .i64 (.lit 0), .cst
 (.slice none 0 0), .cst (.slice none 0 0), .cst (.slice none 0 0), .int .i64 (.lit 0), .int .i64 (.lit 0), .int .i64 (.lit 0), .bool (.lit false)]), (12, [.int
 .i64 (.var 0), .int .i64 (.var 1), .int .i64 (.var 2), .int .i64 (.var 3), .var 4, .var 5, .var 6, .int .i64 (.var 7), .int .i64 (.var 8), .int
 .i64 (.var 9), .bool (.lit true)])] (.blk (.gen (.call { callee := .builtin .append, args := #[.tmp 42, .tmp 44], argTypes := #[24, 24] }) 24 [(.tmp 42, .slc 28 0 0
 0), (.tmp 44, .var 23)] [.slice] (.var 29) [] false [12] [] [28, 13, 12] [(28, []), (13, [.int .i64 (.lit 0), .int .i64 (.lit 0), .int .i64 (.lit 0), .int .i64
 (.lit 0), .cst (.slice none 0 0), .cst (.slice none 0 0), .cst (.slice none 0 0), .int .i64 (.lit 0), .int .i64 (.lit 0), .int .i64 (.lit 0), .bool (.lit
 false)]), (12, [.int .i64 (.var 17), .int .i64 (.var 18), .int .i64 (.var 19), .int .i64 (.var 20), .var 21, .var 22, .var 23, .int .i64 (.var 24), .int
 .i64 (.var 25), .int .i64 (.var 26), .bool (.var 27)])] (.ob (.le (.lit 0) (.var 11)) (.ob (.lt (.var 11) (.len 29)) (.ob (.not (.nil 29)) (.start false [12] [] [(28, []),
 (13, [.int .i64 (.lit 0), .int .i64 (.lit 0), .int .i64 (.lit 0), .int .i64 (.lit 0), .cst (.slice none 0 0), .cst (.slice none 0 0), .cst (.slice none 0
 0), .int .i64 (.lit 0), .int .i64 (.lit 0), .int .i64 (.lit 0), .bool (.lit false)]), (12, [.int .i64 (.var 17), .int .i64 (.var 18), .int .i64 (.var
 19), .int .i64 (.var 20), .var 21, .var 22, .var 29, .int .i64 (.var 24), .int .i64 (.var 25), .int .i64 (.var 26), .bool (.var 27)])] (.load (.elt 29 0 (.var
 11) 1 0) [.int .i64] (.ob (.le (.lit (-9223372036854775808)) (.add (.var 30) (.lit 1))) (.ob (.le (.add (.var 30) (.lit 1)) (.lit 9223372036854775807)) (.ob (.le (.lit 0) (.var
 11)) (.ob (.lt (.var 11) (.len 29)) (.gen (.store 3 (.tmp 53) (.tmp 52)) 0 [(.tmp 53, .elt 29 0 (.var 11) 1 0), (.tmp 52, .int .i64 (.add (.var 30) (.lit 1)))]
 [] (.cst (.tuple #[])) [] false [] [] [28, 13, 12] [(28, []), (13, [.int .i64 (.lit 0), .int .i64 (.lit 0), .int .i64 (.lit 0), .int .i64 (.lit 0), .cst (.slice
 none 0 0), .cst (.slice none 0 0), .cst (.slice none 0 0), .int .i64 (.lit 0), .int .i64 (.lit 0), .int .i64 (.lit 0), .bool (.lit false)]), (12, [.int .i64
 (.var 17), .int .i64 (.var 18), .int .i64 (.var 19), .int .i64 (.var 20), .var 21, .var 22, .var 29, .int .i64 (.var 24), .int .i64 (.var 25), .int
 .i64 (.var 26), .bool (.var 27)])] (.ob (.le (.lit (-9223372036854775808)) (.add (.var 24) (.lit 1))) (.ob (.le (.add (.var 24) (.lit 1)) (.lit 9223372036854775807)) (.leaf 0
 [.tuple [.agg [.int .i64 (.var 17), .int .i64 (.var 18), .int .i64 (.var 19), .int .i64 (.var 20), .var 21, .var 22, .var 29, .int .i64 (.add (.var 24)
 (.lit 1)), .int .i64 (.var 25), .int .i64 (.var 26), .bool (.var 27)], .int .i64 (.lit 50)]] [13, 12] [(28, []), (13, [.int .i64 (.var 17), .int .i64 (.var
 18), .int .i64 (.var 19), .int .i64 (.var 20), .var 21, .var 22, .var 29, .int .i64 (.add (.var 24) (.lit 1)), .int .i64 (.var 25), .int .i64 (.var 26),
 .bool (.var 27)]), (12, [.int .i64 (.var 17), .int .i64 (.var 18), .int .i64 (.var 19), .int .i64 (.var 20), .var 21, .var 22, .var 29, .int .i64 (.add
 (.var 24) (.lit 1)), .int .i64 (.var 25), .int .i64 (.var 26), .bool (.var 27)])])))))))))))))))))))) (.call 61 [.agg [.int .i64 (.var 0), .int .i64 (.var 1),
 .int .i64 (.var 2), .int .i64 (.var 3), .var 4, .var 5, .var 6, .int .i64 (.var 7), .int .i64 (.var 8), .int .i64 (.var 9), .bool (.var 10)]] [.bool]
 (.bool (.var 16)) [] false [] [] [13, 12] [(13, [.int .i64 (.lit 0), .int .i64 (.lit 0), .int .i64 (.lit 0), .int .i64 (.lit 0), .cst (.slice none 0 0), .cst
 (.slice none 0 0), .cst (.slice none 0 0), .int .i64 (.lit 0), .int .i64 (.lit 0), .int .i64 (.lit 0), .bool (.lit false)]), (12, [.int .i64 (.var 0), .int
 .i64 (.var 1), .int .i64 (.var 2), .int .i64 (.var 3), .var 4, .var 5, .var 6, .int .i64 (.var 7), .int .i64 (.var 8), .int .i64 (.var 9), .bool
 (.var 10)])] (.split (.var 16) (.start true [] [13, 12] [(13, [.int .i64 (.lit 0), .int .i64 (.lit 0), .int .i64 (.lit 0), .int .i64 (.lit 0), .cst (.slice none
 0 0), .cst (.slice none 0 0), .cst (.slice none 0 0), .int .i64 (.lit 0), .int .i64 (.lit 0), .int .i64 (.lit 0), .bool (.lit false)]), (12, [.int .i64 (.var
 0), .int .i64 (.var 1), .int .i64 (.var 2), .int .i64 (.var 3), .var 4, .var 5, .var 6, .int .i64 (.var 7), .int .i64 (.var 8), .int .i64 (.var 9),
 .bool (.var 10)])] (.both (.call 59 [.int .i64 (.var 1), .int .i64 (.lit 5)] [.slice] (.var 17) [] true [] [] [13, 12] [(13, [.int .i64 (.lit 0), .int .i64 (.lit
 0), .int .i64 (.lit 0), .int .i64 (.lit 0), .cst (.slice none 0 0), .cst (.slice none 0 0), .cst (.slice none 0 0), .int .i64 (.lit 0), .int .i64 (.lit
 0), .int .i64 (.lit 0), .bool (.lit false)]), (12, [.int .i64 (.var 0), .int .i64 (.var 1), .int .i64 (.var 2), .int .i64 (.var 3), .var 4, .var 5, .var
 6, .int .i64 (.var 7), .int .i64 (.var 8), .int .i64 (.var 9), .bool (.var 10)])] (.call 62 [.agg [.int .i64 (.var 0), .int .i64 (.var 1), .int
 .i64 (.var 2), .int .i64 (.var 3), .var 4, .var 5, .var 6, .int .i64 (.var 7), .int .i64 (.var 8), .int .i64 (.var 9), .bool (.var 10)], .int .i64
 (.var 11), .var 17] [.int .i64, .int .i64, .int .i64, .int .i64, .slice, .slice, .slice, .int .i64, .int .i64, .int .i64,
 .bool] (.agg [.int .i64 (.var 18), .int .i64 (.var 19), .int .i64 (.var 20), .int .i64 (.var 21), .var 22, .var 23, .var 24, .int .i64 (.var 25), .int
 .i64 (.var 26), .int .i64 (.var 27), .bool (.var 28)]) [] true [] [] [13, 12] [(13, [.int .i64 (.lit 0), .int .i64 (.lit 0), .int .i64 (.lit 0), .int
 .i64 (.lit 0), .cst (.slice none 0 0), .cst (.slice none 0 0), .cst (.slice none 0 0), .int .i64 (.lit 0), .int .i64 (.lit 0), .int .i64 (.lit 0), .bool
 (.lit false)]), (12, [.int .i64 (.var 0), .int .i64 (.var 1), .int .i64 (.var 2), .int .i64 (.var 3), .var 4, .var 5, .var 6, .int .i64 (.var 7), .int
 .i64 (.var 8), .int .i64 (.var 9), .bool (.var 10)])] (.blk (.gen (.call { callee := .builtin .append, args := #[.tmp 42, .tmp 44], argTypes := #[24, 24] }) 24
 [(.tmp 42, .slc 29 0 0 0), (.tmp 44, .var 24)] [.slice] (.var 30) [] false [12] [] [29, 13, 12] [(29, []), (13, [.int .i64 (.lit 0), .int .i64 (.lit 0), .int .i64
 (.lit 0), .int .i64 (.lit 0), .cst (.slice none 0 0), .cst (.slice none 0 0), .cst (.slice none 0 0), .int .i64 (.lit 0), .int .i64 (.lit 0), .int .i64
 (.lit 0), .bool (.lit false)]), (12, [.int .i64 (.var 18), .int .i64 (.var 19), .int .i64 (.var 20), .int .i64 (.var 21), .var 22, .var 23, .var 24, .int
 .i64 (.var 25), .int .i64 (.var 26), .int .i64 (.var 27), .bool (.var 28)])] (.ob (.le (.lit 0) (.var 11)) (.ob (.lt (.var 11) (.len 30)) (.ob (.not (.nil 30))
 (.start false [12] [] [(29, []), (13, [.int .i64 (.lit 0), .int .i64 (.lit 0), .int .i64 (.lit 0), .int .i64 (.lit 0), .cst (.slice none 0 0), .cst (.slice
 none 0 0), .cst (.slice none 0 0), .int .i64 (.lit 0), .int .i64 (.lit 0), .int .i64 (.lit 0), .bool (.lit false)]), (12, [.int .i64 (.var 18), .int .i64
 (.var 19), .int .i64 (.var 20), .int .i64 (.var 21), .var 22, .var 23, .var 30, .int .i64 (.var 25), .int .i64 (.var 26), .int .i64 (.var 27), .bool
 (.var 28)])] (.load (.elt 30 0 (.var 11) 1 0) [.int .i64] (.ob (.le (.lit (-9223372036854775808)) (.add (.var 31) (.lit 1))) (.ob (.le (.add (.var 31) (.lit 1)) (.lit
 9223372036854775807)) (.ob (.le (.lit 0) (.var 11)) (.ob (.lt (.var 11) (.len 30)) (.gen (.store 3 (.tmp 53) (.tmp 52)) 0 [(.tmp 53, .elt 30 0 (.var 11) 1 0), (.tmp
 52, .int .i64 (.add (.var 31) (.lit 1)))] [] (.cst (.tuple #[])) [] false [] [] [29, 13, 12] [(29, []), (13, [.int .i64 (.lit 0), .int .i64 (.lit 0), .int .i64
 (.lit 0), .int .i64 (.lit 0), .cst (.slice none 0 0), .cst (.slice none 0 0), .cst (.slice none 0 0), .int .i64 (.lit 0), .int .i64 (.lit 0), .int .i64
 (.lit 0), .bool (.lit false)]), (12, [.int .i64 (.var 18), .int .i64 (.var 19), .int .i64 (.var 20), .int .i64 (.var 21), .var 22, .var 23, .var 30, .int
 .i64 (.var 25), .int .i64 (.var 26), .int .i64 (.var 27), .bool (.var 28)])] (.ob (.le (.lit (-9223372036854775808)) (.add (.var 25) (.lit 1))) (.ob (.le (.add
 (.var 25) (.lit 1)) (.lit 9223372036854775807)) (.leaf 0 [.tuple [.agg [.int .i64 (.var 18), .int .i64 (.var 19), .int .i64 (.var 20), .int .i64 (.var 21), .var
 22, .var 23, .var 30, .int .i64 (.add (.var 25) (.lit 1)), .int .i64 (.var 26), .int .i64 (.var 27), .bool (.var 28)], .int .i64 (.lit 55)]] [13, 12] [(29, []),
 (13, [.int .i64 (.var 18), .int .i64 (.var 19), .int .i64 (.var 20), .int .i64 (.var 21), .var 22, .var 23, .var 30, .int .i64 (.add (.var 25) (.lit 1)),
 .int .i64 (.var 26), .int .i64 (.var 27), .bool (.var 28)]), (12, [.int .i64 (.var 18), .int .i64 (.var 19), .int .i64 (.var 20), .int .i64 (.var
 21), .var 22, .var 23, .var 30, .int .i64 (.add (.var 25) (.lit 1)), .int .i64 (.var 26), .int .i64 (.var 27), .bool (.var 28)])]))))))))))))))))) (.both (.call 59
 [.int .i64 (.var 1), .int .i64 (.lit 5)] [.slice] (.var 17) [] true [] [] [13, 12] [(13, [.int .i64 (.lit 0), .int .i64 (.lit 0), .int .i64 (.lit 0), .int
 .i64 (.lit 0), .cst (.slice none 0 0), .cst (.slice none 0 0), .cst (.slice none 0 0), .int .i64 (.lit 0), .int .i64 (.lit 0), .int .i64 (.lit 0), .bool
 (.lit false)]), (12, [.int .i64 (.var 0), .int .i64 (.var 1), .int .i64 (.var 2), .int .i64 (.var 3), .var 4, .var 5, .var 6, .int .i64 (.var 7), .int
 .i64 (.var 8), .int .i64 (.var 9), .bool (.var 10)])] (.call 62 [.agg [.int .i64 (.var 0), .int .i64 (.var 1), .int .i64 (.var 2), .int .i64 (.var
 3), .var 4, .var 5, .var 6, .int .i64 (.var 7), .int .i64 (.var 8), .int .i64 (.var 9), .bool (.var 10)], .int .i64 (.var 11), .var 17] [.int .i64,
 .int .i64, .int .i64, .int .i64, .slice, .slice, .slice, .int .i64, .int .i64, .int .i64, .bool] (.agg [.int .i64 (.var 18),
 .int .i64 (.var 19), .int .i64 (.var 20), .int .i64 (.var 21), .var 22, .var 23, .var 24, .int .i64 (.var 25), .int .i64 (.var 26), .int .i64 (.var
 27), .bool (.var 28)]) [] true [] [] [13, 12] [(13, [.int .i64 (.lit 0), .int .i64 (.lit 0), .int .i64 (.lit 0), .int .i64 (.lit 0), .cst (.slice none 0 0), .cst
 (.slice none 0 0), .cst (.slice none 0 0), .int .i64 (.lit 0), .int .i64 (.lit 0), .int .i64 (.lit 0), .bool (.lit false)]), (12, [.int .i64 (.var 0), .int
 .i64 (.var 1), .int .i64 (.var 2), .int .i64 (.var 3), .var 4, .var 5, .var 6, .int .i64 (.var 7), .int .i64 (.var 8), .int .i64 (.var 9), .bool
 (.var 10)])] (.blk (.gen (.call { callee := .builtin .append, args := #[.tmp 42, .tmp 44], argTypes := #[24, 24] }) 24 [(.tmp 42, .slc 29 0 0 0), (.tmp 44, .var 24)]
 [.slice] (.var 30) [] false [12] [] [29, 13, 12] [(29, []), (13, [.int .i64 (.lit 0), .int .i64 (.lit 0), .int .i64 (.lit 0), .int .i64 (.lit 0), .cst (.slice
 none 0 0), .cst (.slice none 0 0), .cst (.slice none 0 0), .int .i64 (.lit 0), .int .i64 (.lit 0), .int .i64 (.lit 0), .bool (.lit false)]), (12, [.int .i64
 (.var 18), .int .i64 (.var 19), .int .i64 (.var 20), .int .i64 (.var 21), .var 22, .var 23, .var 24, .int .i64 (.var 25), .int .i64 (.var 26), .int
 .i64 (.var 27), .bool (.var 28)])] (.ob (.le (.lit 0) (.var 11)) (.ob (.lt (.var 11) (.len 30)) (.ob (.not (.nil 30)) (.start false [12] [] [(29, []), (13, [.int .i64
 (.lit 0), .int .i64 (.lit 0), .int .i64 (.lit 0), .int .i64 (.lit 0), .cst (.slice none 0 0), .cst (.slice none 0 0), .cst (.slice none 0 0), .int .i64
 (.lit 0), .int .i64 (.lit 0), .int .i64 (.lit 0), .bool (.lit false)]), (12, [.int .i64 (.var 18), .int .i64 (.var 19), .int .i64 (.var 20), .int
 .i64 (.var 21), .var 22, .var 23, .var 30, .int .i64 (.var 25), .int .i64 (.var 26), .int .i64 (.var 27), .bool (.var 28)])] (.load (.elt 30 0 (.var 11) 1 0)
 [.int .i64] (.ob (.le (.lit (-9223372036854775808)) (.add (.var 31) (.lit 1))) (.ob (.le (.add (.var 31) (.lit 1)) (.lit 9223372036854775807)) (.ob (.le (.lit 0) (.var 11))
 (.ob (.lt (.var 11) (.len 30)) (.gen (.store 3 (.tmp 53) (.tmp 52)) 0 [(.tmp 53, .elt 30 0 (.var 11) 1 0), (.tmp 52, .int .i64 (.add (.var 31) (.lit 1)))] []
 (.cst (.tuple #[])) [] false [] [] [29, 13, 12] [(29, []), (13, [.int .i64 (.lit 0), .int .i64 (.lit 0), .int .i64 (.lit 0), .int .i64 (.lit 0), .cst (.slice
 none 0 0), .cst (.slice none 0 0), .cst (.slice none 0 0), .int .i64 (.lit 0), .int .i64 (.lit 0), .int .i64 (.lit 0), .bool (.lit false)]), (12, [.int .i64
 (.var 18), .int .i64 (.var 19), .int .i64 (.var 20), .int .i64 (.var 21), .var 22, .var 23, .var 30, .int .i64 (.var 25), .int .i64 (.var 26), .int
 .i64 (.var 27), .bool (.var 28)])] (.ob (.le (.lit (-9223372036854775808)) (.add (.var 25) (.lit 1))) (.ob (.le (.add (.var 25) (.lit 1)) (.lit 9223372036854775807)) (.leaf 0
 [.tuple [.agg [.int .i64 (.var 18), .int .i64 (.var 19), .int .i64 (.var 20), .int .i64 (.var 21), .var 22, .var 23, .var 30, .int .i64 (.add (.var 25)
 (.lit 1)), .int .i64 (.var 26), .int .i64 (.var 27), .bool (.var 28)], .int .i64 (.lit 55)]] [13, 12] [(29, []), (13, [.int .i64 (.var 18), .int .i64 (.var
 19), .int .i64 (.var 20), .int .i64 (.var 21), .var 22, .var 23, .var 30, .int .i64 (.add (.var 25) (.lit 1)), .int .i64 (.var 26), .int .i64 (.var 27),
 .bool (.var 28)]), (12, [.int .i64 (.var 18), .int .i64 (.var 19), .int .i64 (.var 20), .int .i64 (.var 21), .var 22, .var 23, .var 30, .int .i64 (.add
 (.var 25) (.lit 1)), .int .i64 (.var 26), .int .i64 (.var 27), .bool (.var 28)])]))))))))))))))))) (.call 59 [.int .i64 (.var 1), .int .i64 (.lit 5)] [.slice]
 (.var 17) [] true [] [] [13, 12] [(13, [.int .i64 (.lit 0), .int .i64 (.lit 0), .int .i64 (.lit 0), .int .i64 (.lit 0), .cst (.slice none 0 0), .cst (.slice
 none 0 0), .cst (.slice none 0 0), .int .i64 (.lit 0), .int .i64 (.lit 0), .int .i64 (.lit 0), .bool (.lit false)]), (12, [.int .i64 (.var 0), .int .i64
 (.var 1), .int .i64 (.var 2), .int .i64 (.var 3), .var 4, .var 5, .var 6, .int .i64 (.var 7), .int .i64 (.var 8), .int .i64 (.var 9), .bool (.var 10)])]
 (.call 62 [.agg [.int .i64 (.var 0), .int .i64 (.var 1), .int .i64 (.var 2), .int .i64 (.var 3), .var 4, .var 5, .var 6, .int .i64 (.var 7), .int
 .i64 (.var 8), .int .i64 (.var 9), .bool (.var 10)], .int .i64 (.var 11), .var 17] [.int .i64, .int .i64, .int .i64, .int .i64,
 .slice, .slice, .slice, .int .i64, .int .i64, .int .i64, .bool] (.agg [.int .i64 (.var 18), .int .i64 (.var 19), .int .i64 (.var 20),
 .int .i64 (.var 21), .var 22, .var 23, .var 24, .int .i64 (.var 25), .int .i64 (.var 26), .int .i64 (.var 27), .bool (.var 28)]) [] true [] [] [13, 12] [(13, [.int
 .i64 (.lit 0), .int .i64 (.lit 0), .int .i64 (.lit 0), .int .i64 (.lit 0), .cst (.slice none 0 0), .cst (.slice none 0 0), .cst (.slice none 0 0), .int
 .i64 (.lit 0), .int .i64 (.lit 0), .int .i64 (.lit 0), .bool (.lit false)]), (12, [.int .i64 (.var 0), .int .i64 (.var 1), .int .i64 (.var 2), .int
 .i64 (.var 3), .var 4, .var 5, .var 6, .int .i64 (.var 7), .int .i64 (.var 8), .int .i64 (.var 9), .bool (.var 10)])] (.blk (.gen (.call { callee := .builtin .append, args := #[.tmp 42, .tmp 44], argTypes := #[24, 24] })
 24 [(.tmp 42, .slc 29 0 0 0), (.tmp 44, .var 24)] [.slice] (.var 30) [] false [12] [] [29, 13, 12] [(29, []), (13, [.int .i64 (.lit 0), .int .i64 (.lit 0), .int
 .i64 (.lit 0), .int .i64 (.lit 0), .cst (.slice none 0 0), .cst (.slice none 0 0), .cst (.slice none 0 0), .int .i64 (.lit 0), .int .i64 (.lit 0), .int
 .i64 (.lit 0), .bool (.lit false)]), (12, [.int .i64 (.var 18), .int .i64 (.var 19), .int .i64 (.var 20), .int .i64 (.var 21), .var 22, .var 23, .var 24,
 .int .i64 (.var 25), .int .i64 (.var 26), .int .i64 (.var 27), .bool (.var 28)])] (.ob (.le (.lit 0) (.var 11)) (.ob (.lt (.var 11) (.len 30)) (.ob (.not (.nil
 30)) (.start false [12] [] [(29, []), (13, [.int .i64 (.lit 0), .int .i64 (.lit 0), .int .i64 (.lit 0), .int .i64 (.lit 0), .cst (.slice none 0 0), .cst
 (.slice none 0 0), .cst (.slice none 0 0), .int .i64 (.lit 0), .int .i64 (.lit 0), .int .i64 (.lit 0), .bool (.lit false)]), (12, [.int .i64 (.var 18), .int
 .i64 (.var 19), .int .i64 (.var 20), .int .i64 (.var 21), .var 22, .var 23, .var 30, .int .i64 (.var 25), .int .i64 (.var 26), .int .i64 (.var 27),
 .bool (.var 28)])] (.load (.elt 30 0 (.var 11) 1 0) [.int .i64] (.ob (.le (.lit (-9223372036854775808)) (.add (.var 31) (.lit 1))) (.ob (.le (.add (.var 31) (.lit 1)) (.lit
 9223372036854775807)) (.ob (.le (.lit 0) (.var 11)) (.ob (.lt (.var 11) (.len 30)) (.gen (.store 3 (.tmp 53) (.tmp 52)) 0 [(.tmp 53, .elt 30 0 (.var 11) 1 0), (.tmp
 52, .int .i64 (.add (.var 31) (.lit 1)))] [] (.cst (.tuple #[])) [] false [] [] [29, 13, 12] [(29, []), (13, [.int .i64 (.lit 0), .int .i64 (.lit 0), .int .i64
 (.lit 0), .int .i64 (.lit 0), .cst (.slice none 0 0), .cst (.slice none 0 0), .cst (.slice none 0 0), .int .i64 (.lit 0), .int .i64 (.lit 0), .int .i64
 (.lit 0), .bool (.lit false)]), (12, [.int .i64 (.var 18), .int .i64 (.var 19), .int .i64 (.var 20), .int .i64 (.var 21), .var 22, .var 23, .var 30, .int
 .i64 (.var 25), .int .i64 (.var 26), .int .i64 (.var 27), .bool (.var 28)])] (.ob (.le (.lit (-9223372036854775808)) (.add (.var 25) (.lit 1))) (.ob (.le (.add
 (.var 25) (.lit 1)) (.lit 9223372036854775807)) (.leaf 0 [.tuple [.agg [.int .i64 (.var 18), .int .i64 (.var 19), .int .i64 (.var 20), .int .i64 (.var 21), .var
 22, .var 23, .var 30, .int .i64 (.add (.var 25) (.lit 1)), .int .i64 (.var 26), .int .i64 (.var 27), .bool (.var 28)], .int .i64 (.lit 55)]] [13, 12] [(29, []),
 (13, [.int .i64 (.var 18), .int .i64 (.var 19), .int .i64 (.var 20), .int .i64 (.var 21), .var 22, .var 23, .var 30, .int .i64 (.add (.var 25) (.lit 1)),
 .int .i64 (.var 26), .int .i64 (.var 27), .bool (.var 28)]), (12, [.int .i64 (.var 18), .int .i64 (.var 19), .int .i64 (.var 20), .int .i64 (.var
 21), .var 22, .var 23, .var 30, .int .i64 (.add (.var 25) (.lit 1)), .int .i64 (.var 26), .int .i64 (.var 27), .bool (.var 28)])])))))))))))))))))))) (.start true [] [13,
 12] [(13, [.int .i64 (.lit 0), .int .i64 (.lit 0), .int .i64 (.lit 0), .int .i64 (.lit 0), .cst (.slice none 0 0), .cst (.slice none 0 0), .cst (.slice
 none 0 0), .int .i64 (.lit 0), .int .i64 (.lit 0), .int .i64 (.lit 0), .bool (.lit false)]), (12, [.int .i64 (.var 0), .int .i64 (.var 1), .int .i64
 (.var 2), .int .i64 (.var 3), .var 4, .var 5, .var 6, .int .i64 (.var 7), .int .i64 (.var 8), .int .i64 (.var 9), .bool (.var 10)])] (.both (.call 59 [.int
 .i64 (.var 1), .int .i64 (.lit 1)] [.slice] (.var 17) [] true [] [] [13, 12] [(13, [.int .i64 (.lit 0), .int .i64 (.lit 0), .int .i64 (.lit 0), .int
 .i64 (.lit 0), .cst (.slice none 0 0), .cst (.slice none 0 0), .cst (.slice none 0 0), .int .i64 (.lit 0), .int .i64 (.lit 0), .int .i64 (.lit 0), .bool
 (.lit false)]), (12, [.int .i64 (.var 0), .int .i64 (.var 1), .int .i64 (.var 2), .int .i64 (.var 3), .var 4, .var 5, .var 6, .int .i64 (.var 7), .int
 .i64 (.var 8), .int .i64 (.var 9), .bool (.var 10)])] (.call 62 [.agg [.int .i64 (.var 0), .int .i64 (.var 1), .int .i64 (.var 2), .int .i64 (.var
 3), .var 4, .var 5, .var 6, .int .i64 (.var 7), .int .i64 (.var 8), .int .i64 (.var 9), .bool (.var 10)], .int .i64 (.var 11), .var 17] [.int .i64,
 .int .i64, .int .i64, .int .i64, .slice, .slice, .slice, .int .i64, .int .i64, .int .i64, .bool] (.agg [.int .i64 (.var 18),
 .int .i64 (.var 19), .int .i64 (.var 20), .int .i64 (.var 21), .var 22, .var 23, .var 24, .int .i64 (.var 25), .int .i64 (.var 26), .int .i64 (.var
 27), .bool (.var 28)]) [] true [] [] [13, 12] [(13, [.int .i64 (.lit 0), .int .i64 (.lit 0), .int .i64 (.lit 0), .int .i64 (.lit 0), .cst (.slice none 0 0), .cst
 (.slice none 0 0), .cst (.slice none 0 0), .int .i64 (.lit 0), .int .i64 (.lit 0), .int .i64 (.lit 0), .bool (.lit false)]), (12, [.int .i64 (.var 0), .int
 .i64 (.var 1), .int .i64 (.var 2), .int .i64 (.var 3), .var 4, .var 5, .var 6, .int .i64 (.var 7), .int .i64 (.var 8), .int .i64 (.var 9), .bool
 (.var 10)])] (.blk (.gen (.call { callee := .builtin .append, args := #[.tmp 42, .tmp 44], argTypes := #[24, 24] }) 24 [(.tmp 42, .slc 29 0 0 0), (.tmp 44, .var 24)]
 [.slice] (.var 30) [] false [12] [] [29, 13, 12] [(29, []), (13, [.int .i64 (.lit 0), .int .i64 (.lit 0), .int .i64 (.lit 0), .int .i64 (.lit 0), .cst (.slice
 none 0 0), .cst (.slice none 0 0), .cst (.slice none 0 0), .int .i64 (.lit 0), .int .i64 (.lit 0), .int .i64 (.lit 0), .bool (.lit false)]), (12, [.int .i64
 (.var 18), .int .i64 (.var 19), .int .i64 (.var 20), .int .i64 (.var 21), .var 22, .var 23, .var 24, .int .i64 (.var 25), .int .i64 (.var 26), .int
 .i64 (.var 27), .bool (.var 28)])] (.ob (.le (.lit 0) (.var 11)) (.ob (.lt (.var 11) (.len 30)) (.ob (.not (.nil 30)) (.start false [12] [] [(29, []), (13, [.int .i64
 (.lit 0), .int .i64 (.lit 0), .int .i64 (.lit 0), .int .i64 (.lit 0), .cst (.slice none 0 0), .cst (.slice none 0 0), .cst (.slice none 0 0), .int .i64
 (.lit 0), .int .i64 (.lit 0), .int .i64 (.lit 0), .bool (.lit false)]), (12, [.int .i64 (.var 18), .int .i64 (.var 19), .int .i64 (.var 20), .int
 .i64 (.var 21), .var 22, .var 23, .var 30, .int .i64 (.var 25), .int .i64 (.var 26), .int .i64 (.var 27), .bool (.var 28)])] (.load (.elt 30 0 (.var 11) 1 0)
 [.int .i64] (.ob (.le (.lit (-9223372036854775808)) (.add (.var 31) (.lit 1))) (.ob (.le (.add (.var 31) (.lit 1)) (.lit 9223372036854775807)) (.ob (.le (.lit 0) (.var 11))
 (.ob (.lt (.var 11) (.len 30)) (.gen (.store 3 (.tmp 53) (.tmp 52)) 0 [(.tmp 53, .elt 30 0 (.var 11) 1 0), (.tmp 52, .int .i64 (.add (.var 31) (.lit 1)))] []
 (.cst (.tuple #[])) [] false [] [] [29, 13, 12] [(29, []), (13, [.int .i64 (.lit 0), .int .i64 (.lit 0), .int .i64 (.lit 0), .int .i64 (.lit 0), .cst (.slice
 none 0 0), .cst (.slice none 0 0), .cst (.slice none 0 0), .int .i64 (.lit 0), .int .i64 (.lit 0), .int .i64 (.lit 0), .bool (.lit false)]), (12, [.int .i64
 (.var 18), .int .i64 (.var 19), .int .i64 (.var 20), .int .i64 (.var 21), .var 22, .var 23, .var 30, .int .i64 (.var 25), .int .i64 (.var 26), .int
 .i64 (.var 27), .bool (.var 28)])] (.ob (.le (.lit (-9223372036854775808)) (.add (.var 25) (.lit 1))) (.ob (.le (.add (.var 25) (.lit 1)) (.lit 9223372036854775807)) (.leaf 0
 [.tuple [.agg [.int .i64 (.var 18), .int .i64 (.var 19), .int .i64 (.var 20), .int .i64 (.var 21), .var 22, .var 23, .var 30, .int .i64 (.add (.var 25)
 (.lit 1)), .int .i64 (.var 26), .int .i64 (.var 27), .bool (.var 28)], .int .i64 (.lit 0)]] [13, 12] [(29, []), (13, [.int .i64 (.var 18), .int .i64 (.var
 19), .int .i64 (.var 20), .int .i64 (.var 21), .var 22, .var 23, .var 30, .int .i64 (.add (.var 25) (.lit 1)), .int .i64 (.var 26), .int .i64 (.var 27),
 .bool (.var 28)]), (12, [.int .i64 (.var 18), .int .i64 (.var 19), .int .i64 (.var 20), .int .i64 (.var 21), .var 22, .var 23, .var 30, .int .i64 (.add
 (.var 25) (.lit 1)), .int .i64 (.var 26), .int .i64 (.var 27), .bool (.var 28)])]))))))))))))))))) (.both (.call 59 [.int .i64 (.var 1), .int .i64 (.lit 1)]
 [.slice] (.var 17) [] true [] [] [13, 12] [(13, [.int .i64 (.lit 0), .int .i64 (.lit 0), .int .i64 (.lit 0), .int .i64 (.lit 0), .cst (.slice none 0 0), .cst
 (.slice none 0 0), .cst (.slice none 0 0), .int .i64 (.lit 0), .int .i64 (.lit 0), .int .i64 (.lit 0), .bool (.lit false)]), (12, [.int .i64 (.var 0), .int
 .i64 (.var 1), .int .i64 (.var 2), .int .i64 (.var 3), .var 4, .var 5, .var 6, .int .i64 (.var 7), .int .i64 (.var 8), .int .i64 (.var 9), .bool
 (.var 10)])] (.call 62 [.agg [.int .i64 (.var 0), .int .i64 (.var 1), .int .i64 (.var 2), .int .i64 (.var 3), .var 4, .var 5, .var 6, .int .i64 (.var
 7), .int .i64 (.var 8), .int .i64 (.var 9), .bool (.var 10)], .int .i64 (.var 11), .var 17] [.int .i64, .int .i64, .int .i64, .int .i64,
 .slice, .slice, .slice, .int .i64, .int .i64, .int .i64, .bool] (.agg [.int .i64 (.var 18), .int .i64 (.var 19), .int .i64 (.var 20),
 .int .i64 (.var 21), .var 22, .var 23, .var 24, .int .i64 (.var 25), .int .i64 (.var 26), .int .i64 (.var 27), .bool (.var 28)]) [] true [] [] [13, 12] [(13, [.int
 .i64 (.lit 0), .int .i64 (.lit 0), .int .i64 (.lit 0), .int .i64 (.lit 0), .cst (.slice none 0 0), .cst (.slice none 0 0), .cst (.slice none 0 0), .int
 .i64 (.lit 0), .int .i64 (.lit 0), .int .i64 (.lit 0), .bool (.lit false)]), (12, [.int .i64 (.var 0), .int .i64 (.var 1), .int .i64 (.var 2), .int
 .i64 (.var 3), .var 4, .var 5, .var 6, .int .i64 (.var 7), .int .i64 (.var 8), .int .i64 (.var 9), .bool (.var 10)])] (.blk (.gen (.call { callee := .builtin .append, args := #[.tmp 42, .tmp 44], argTypes := #[24, 24] })
 24 [(.tmp 42, .slc 29 0 0 0), (.tmp 44, .var 24)] [.slice] (.var 30) [] false [12] [] [29, 13, 12] [(29, []), (13, [.int .i64 (.lit 0), .int .i64 (.lit 0), .int
 .i64 (.lit 0), .int .i64 (.lit 0), .cst (.slice none 0 0), .cst (.slice none 0 0), .cst (.slice none 0 0), .int .i64 (.lit 0), .int .i64 (.lit 0), .int
 .i64 (.lit 0), .bool (.lit false)]), (12, [.int .i64 (.var 18), .int .i64 (.var 19), .int .i64 (.var 20), .int .i64 (.var 21), .var 22, .var 23, .var 24,
 .int .i64 (.var 25), .int .i64 (.var 26), .int .i64 (.var 27), .bool (.var 28)])] (.ob (.le (.lit 0) (.var 11)) (.ob (.lt (.var 11) (.len 30)) (.ob (.not (.nil
 30)) (.start false [12] [] [(29, []), (13, [.int .i64 (.lit 0), .int .i64 (.lit 0), .int .i64 (.lit 0), .int .i64 (.lit 0), .cst (.slice none 0 0), .cst
 (.slice none 0 0), .cst (.slice none 0 0), .int .i64 (.lit 0), .int .i64 (.lit 0), .int .i64 (.lit 0), .bool (.lit false)]), (12, [.int .i64 (.var 18), .int
 .i64 (.var 19), .int .i64 (.var 20), .int .i64 (.var 21), .var 22, .var 23, .var 30, .int .i64 (.var 25), .int .i64 (.var 26), .int .i64 (.var 27),
 .bool (.var 28)])] (.load (.elt 30 0 (.var 11) 1 0) [.int .i64] (.ob (.le (.lit (-9223372036854775808)) (.add (.var 31) (.lit 1))) (.ob (.le (.add (.var 31) (.lit 1)) (.lit
 9223372036854775807)) (.ob (.le (.lit 0) (.var 11)) (.ob (.lt (.var 11) (.len 30)) (.gen (.store 3 (.tmp 53) (.tmp 52)) 0 [(.tmp 53, .elt 30 0 (.var 11) 1 0), (.tmp
 52, .int .i64 (.add (.var 31) (.lit 1)))] [] (.cst (.tuple #[])) [] false [] [] [29, 13, 12] [(29, []), (13, [.int .i64 (.lit 0), .int .i64 (.lit 0), .int .i64
 (.lit 0), .int .i64 (.lit 0), .cst (.slice none 0 0), .cst (.slice none 0 0), .cst (.slice none 0 0), .int .i64 (.lit 0), .int .i64 (.lit 0), .int .i64
 (.lit 0), .bool (.lit false)]), (12, [.int .i64 (.var 18), .int .i64 (.var 19), .int .i64 (.var 20), .int .i64 (.var 21), .var 22, .var 23, .var 30, .int
 .i64 (.var 25), .int .i64 (.var 26), .int .i64 (.var 27), .bool (.var 28)])] (.ob (.le (.lit (-9223372036854775808)) (.add (.var 25) (.lit 1))) (.ob (.le (.add
 (.var 25) (.lit 1)) (.lit 9223372036854775807)) (.leaf 0 [.tuple [.agg [.int .i64 (.var 18), .int .i64 (.var 19), .int .i64 (.var 20), .int .i64 (.var 21), .var
 22, .var 23, .var 30, .int .i64 (.add (.var 25) (.lit 1)), .int .i64 (.var 26), .int .i64 (.var 27), .bool (.var 28)], .int .i64 (.lit 0)]] [13, 12] [(29, []),
 (13, [.int .i64 (.var 18), .int .i64 (.var 19), .int .i64 (.var 20), .int .i64 (.var 21), .var 22, .var 23, .var 30, .int .i64 (.add (.var 25) (.lit 1)),
 .int .i64 (.var 26), .int .i64 (.var 27), .bool (.var 28)]), (12, [.int .i64 (.var 18), .int .i64 (.var 19), .int .i64 (.var 20), .int .i64 (.var
 21), .var 22, .var 23, .var 30, .int .i64 (.add (.var 25) (.lit 1)), .int .i64 (.var 26), .int .i64 (.var 27), .bool (.var 28)])]))))))))))))))))) (.call 59 [.int
 .i64 (.var 1), .int .i64 (.lit 1)] [.slice] (.var 17) [] true [] [] [13, 12] [(13, [.int .i64 (.lit 0), .int .i64 (.lit 0), .int .i64 (.lit 0), .int
 .i64 (.lit 0), .cst (.slice none 0 0), .cst (.slice none 0 0), .cst (.slice none 0 0), .int .i64 (.lit 0), .int .i64 (.lit 0), .int .i64 (.lit 0), .bool
 (.lit false)]), (12, [.int .i64 (.var 0), .int .i64 (.var 1), .int .i64 (.var 2), .int .i64 (.var 3), .var 4, .var 5, .var 6, .int .i64 (.var 7), .int
 .i64 (.var 8), .int .i64 (.var 9), .bool (.var 10)])] (.call 62 [.agg [.int .i64 (.var 0), .int .i64 (.var 1), .int .i64 (.var 2), .int .i64 (.var
 3), .var 4, .var 5, .var 6, .int .i64 (.var 7), .int .i64 (.var 8), .int .i64 (.var 9), .bool (.var 10)], .int .i64 (.var 11), .var 17] [.int .i64,
 .int .i64, .int .i64, .int .i64, .slice, .slice, .slice, .int .i64, .int .i64, .int .i64, .bool] (.agg [.int .i64 (.var 18),
 .int .i64 (.var 19), .int .i64 (.var 20), .int .i64 (.var 21), .var 22, .var 23, .var 24, .int .i64 (.var 25), .int .i64 (.var 26), .int .i64 (.var
 27), .bool (.var 28)]) [] true [] [] [13, 12] [(13, [.int .i64 (.lit 0), .int .i64 (.lit 0), .int .i64 (.lit 0), .int .i64 (.lit 0), .cst (.slice none 0 0), .cst
 (.slice none 0 0), .cst (.slice none 0 0), .int .i64 (.lit 0), .int .i64 (.lit 0), .int .i64 (.lit 0), .bool (.lit false)]), (12, [.int .i64 (.var 0), .int
 .i64 (.var 1), .int .i64 (.var 2), .int .i64 (.var 3), .var 4, .var 5, .var 6, .int .i64 (.var 7), .int .i64 (.var 8), .int .i64 (.var 9), .bool
 (.var 10)])] (.blk (.gen (.call { callee := .builtin .append, args := #[.tmp 42, .tmp 44], argTypes := #[24, 24] }) 24 [(.tmp 42, .slc 29 0 0 0), (.tmp 44, .var 24)]
 [.slice] (.var 30) [] false [12] [] [29, 13, 12] [(29, []), (13, [.int .i64 (.lit 0), .int .i64 (.lit 0), .int .i64 (.lit 0), .int .i64 (.lit 0), .cst (.slice
 none 0 0), .cst (.slice none 0 0), .cst (.slice none 0 0), .int .i64 (.lit 0), .int .i64 (.lit 0), .int .i64 (.lit 0), .bool (.lit false)]), (12, [.int .i64
 (.var 18), .int .i64 (.var 19), .int .i64 (.var 20), .int .i64 (.var 21), .var 22, .var 23, .var 24, .int .i64 (.var 25), .int .i64 (.var 26), .int
 .i64 (.var 27), .bool (.var 28)])] (.ob (.le (.lit 0) (.var 11)) (.ob (.lt (.var 11) (.len 30)) (.ob (.not (.nil 30)) (.start false [12] [] [(29, []), (13, [.int .i64
 (.lit 0), .int .i64 (.lit 0), .int .i64 (.lit 0), .int .i64 (.lit 0), .cst (.slice none 0 0), .cst (.slice none 0 0), .cst (.slice none 0 0), .int .i64
 (.lit 0), .int .i64 (.lit 0), .int .i64 (.lit 0), .bool (.lit false)]), (12, [.int .i64 (.var 18), .int .i64 (.var 19), .int .i64 (.var 20), .int
 .i64 (.var 21), .var 22, .var 23, .var 30, .int .i64 (.var 25), .int .i64 (.var 26), .int .i64 (.var 27), .bool (.var 28)])] (.load (.elt 30 0 (.var 11) 1 0)
 [.int .i64] (.ob (.le (.lit (-9223372036854775808)) (.add (.var 31) (.lit 1))) (.ob (.le (.add (.var 31) (.lit 1)) (.lit 9223372036854775807)) (.ob (.le (.lit 0) (.var 11))
 (.ob (.lt (.var 11) (.len 30)) (.gen (.store 3 (.tmp 53) (.tmp 52)) 0 [(.tmp 53, .elt 30 0 (.var 11) 1 0), (.tmp 52, .int .i64 (.add (.var 31) (.lit 1)))] []
 (.cst (.tuple #[])) [] false [] [] [29, 13, 12] [(29, []), (13, [.int .i64 (.lit 0), .int .i64 (.lit 0), .int .i64 (.lit 0), .int .i64 (.lit 0), .cst (.slice
 none 0 0), .cst (.slice none 0 0), .cst (.slice none 0 0), .int .i64 (.lit 0), .int .i64 (.lit 0), .int .i64 (.lit 0), .bool (.lit false)]), (12, [.int .i64
 (.var 18), .int .i64 (.var 19), .int .i64 (.var 20), .int .i64 (.var 21), .var 22, .var 23, .var 30, .int .i64 (.var 25), .int .i64 (.var 26), .int
 .i64 (.var 27), .bool (.var 28)])] (.ob (.le (.lit (-9223372036854775808)) (.add (.var 25) (.lit 1))) (.ob (.le (.add (.var 25) (.lit 1)) (.lit 9223372036854775807)) (.leaf 0
 [.tuple [.agg [.int .i64 (.var 18), .int .i64 (.var 19), .int .i64 (.var 20), .int .i64 (.var 21), .var 22, .var 23, .var 30, .int .i64 (.add (.var 25)
 (.lit 1)), .int .i64 (.var 26), .int .i64 (.var 27), .bool (.var 28)], .int .i64 (.lit 0)]] [13, 12] [(29, []), (13, [.int .i64 (.var 18), .int .i64 (.var
 19), .int .i64 (.var 20), .int .i64 (.var 21), .var 22, .var 23, .var 30, .int .i64 (.add (.var 25) (.lit 1)), .int .i64 (.var 26), .int .i64 (.var 27),
 .bool (.var 28)]), (12, [.int .i64 (.var 18), .int .i64 (.var 19), .int .i64 (.var 20), .int .i64 (.var 21), .var 22, .var 23, .var 30, .int .i64 (.add
 (.var 25) (.lit 1)), .int .i64 (.var 26), .int .i64 (.var 27), .bool (.var 28)])]))))))))))))))))))))))))))))))))) := by kernel_rfl

theorem t42 : exFn { P := Try.prog } 42 [.agg [.int .i64 (.var 0), .int .i64 (.var 1), .int .i64 (.var 2), .int .i64 (.var 3), .var 4, .var 5, .var 6, .int .i64 (.var 7), .int .i64 (.var 8), .int .i64 (.var 9), .bool
 (.var 10)], .int .i64 (.var 11), .int .i64 (.var 12)] [.int .i64, .int .i64, .int .i64, .int .i64, .slice, .slice, .slice, .int .i64, .int .i64, .int .i64, .bool, .int .i64, .int .i64] [] = .blk (.call 47 [.agg
 [.int .i64 (.var 0), .int .i64 (.var 1), .int .i64 (.var 2), .int .i64 (.var 3), .var 4, .var 5, .var 6, .int .i64 (.var 7), .int .i64 (.var 8),
 .int .i64 (.var 9), .bool (.var 10)], .int .i64 (.var 11), .int .i64 (.var 12)] [.int .i64] (.int .i64 (.var 14)) [] false [] [] [13] [(13, [.int .i64
 (.var 0), .int .i64 (.var 1), .int .i64 (.var 2), .int .i64 (.var 3), .var 4, .var 5, .var 6, .int .i64 (.var 7), .int .i64 (.var 8), .int .i64
 (.var 9), .bool (.var 10)])] (.split (.eq (.var 14) (.lit 0)) (.leaf 0 [.tuple [.cst (.slice none 0 0), .cst (.slice none 0 0), .int .i64 (.lit 2)]] [] [(13, [.int
 .i64 (.var 0), .int .i64 (.var 1), .int .i64 (.var 2), .int .i64 (.var 3), .var 4, .var 5, .var 6, .int .i64 (.var 7), .int .i64 (.var 8), .int
 .i64 (.var 9), .bool (.var 10)])]) (.split (.var 10) (.leaf 0 [.tuple [.cst (.slice none 0 0), .cst (.slice none 0 0), .int .i64 (.lit 50)]] [] [(13, [.int .i64
 (.var 0), .int .i64 (.var 1), .int .i64 (.var 2), .int .i64 (.var 3), .var 4, .var 5, .var 6, .int .i64 (.var 7), .int .i64 (.var 8), .int .i64
 (.var 9), .bool (.var 10)])]) (.split (.eq (.var 14) (.lit 1)) (.leaf 0 [.tuple [.cst (.slice none 0 0), .cst (.slice none 0 0), .int .i64 (.lit 52)]] [] [(13, [.int
 .i64 (.var 0), .int .i64 (.var 1), .int .i64 (.var 2), .int .i64 (.var 3), .var 4, .var 5, .var 6, .int .i64 (.var 7), .int .i64 (.var 8), .int
 .i64 (.var 9), .bool (.var 10)])]) (.split (.eq (.var 14) (.lit 4)) (.leaf 0 [.tuple [.cst (.slice none 0 0), .cst (.slice none 0 0), .int .i64 (.lit 53)]] [] [(13,
 [.int .i64 (.var 0), .int .i64 (.var 1), .int .i64 (.var 2), .int .i64 (.var 3), .var 4, .var 5, .var 6, .int .i64 (.var 7), .int .i64 (.var 8),
 .int .i64 (.var 9), .bool (.var 10)])]) (.split (.eq (.var 14) (.lit 5)) (.leaf 0 [.tuple [.cst (.slice none 0 0), .cst (.slice none 0 0), .int .i64 (.lit 53)]] []
 [(13, [.int .i64 (.var 0), .int .i64 (.var 1), .int .i64 (.var 2), .int .i64 (.var 3), .var 4, .var 5, .var 6, .int .i64 (.var 7), .int .i64 (.var
 8), .int .i64 (.var 9), .bool (.var 10)])]) (.ob (.le (.lit 0) (.var 11)) (.ob (.lt (.var 11) (.len 5)) (.ob (.not (.nil 5)) (.start false [] [] [(13, [.int .i64 (.var
 0), .int .i64 (.var 1), .int .i64 (.var 2), .int .i64 (.var 3), .var 4, .var 5, .var 6, .int .i64 (.var 7), .int .i64 (.var 8), .int .i64 (.var 9),
 .bool (.var 10)])] (.load (.elt 5 0 (.var 11) 1 0) [.slice] (.ob (.le (.lit 0) (.var 12)) (.ob (.lt (.var 12) (.len 15)) (.ob (.not (.nil 15)) (.start false [] [] [(13, [.int
 .i64 (.var 0), .int .i64 (.var 1), .int .i64 (.var 2), .int .i64 (.var 3), .var 4, .var 5, .var 6, .int .i64 (.var 7), .int .i64 (.var 8), .int
 .i64 (.var 9), .bool (.var 10)])] (.load (.elt 15 0 (.var 12) 2 1) [.slice] (.start true [] [13] [(13, [.int .i64 (.var 0), .int .i64 (.var 1), .int .i64 (.var
 2), .int .i64 (.var 3), .var 4, .var 5, .var 6, .int .i64 (.var 7), .int .i64 (.var 8), .int .i64 (.var 9), .bool (.var 10)])] (.pur (.slice 26 (.tmp 36)
 none (some (.tmp 39)) none) 26 [(.tmp 36, .var 16), (.tmp 39, .int .i64 (.var 2))] [.slice] (.var 17) (.pur (.slice 26 (.tmp 41) (some (.tmp 44)) none none) 26
 [(.tmp 41, .var 16), (.tmp 44, .int .i64 (.var 2))] [.slice] (.var 18) (.leaf 0 [.tuple [.var 17, .var 18, .int .i64 (.lit 0)]] [] [(13, [.int .i64 (.var
 0), .int .i64 (.var 1), .int .i64 (.var 2), .int .i64 (.var 3), .var 4, .var 5, .var 6, .int .i64 (.var 7), .int .i64 (.var 8), .int .i64 (.var 9),
 .bool (.var 10)])])))))))))))))))))))) := by kernel_rfl

theorem t43 : exFn { P := Try.prog } 43 [.agg [.int .i64 (.var 0), .int .i64 (.var 1), .int .i64 (.var 2), .int .i64 (.var 3), .var 4, .var 5, .var 6, .int .i64 (.var 7), .int .i64 (.var 8), .int .i64 (.var 9), .bool
 (.var 10)], .int .i64 (.var 11), .int .i64 (.var 12)] [.int .i64, .int .i64, .int .i64, .int .i64, .slice, .slice, .slice, .int .i64, .int .i64, .int .i64, .bool, .int .i64, .int .i64] [] = .blk (.blk (.split
 (.lt (.var 11) (.var 7)) (.leaf 0 [.tuple [.agg [.int .i64 (.var 0), .int .i64 (.var 1), .int .i64 (.var 2), .int .i64 (.var 3), .var 4, .var 5, .var 6,
 .int .i64 (.var 7), .int .i64 (.var 8), .int .i64 (.var 9), .bool (.var 10)], .int .i64 (.lit 2)]] [14] [(14, [.int .i64 (.var 0), .int .i64 (.var
 1), .int .i64 (.var 2), .int .i64 (.var 3), .var 4, .var 5, .var 6, .int .i64 (.var 7), .int .i64 (.var 8), .int .i64 (.var 9), .bool (.var 10)]), (13,
 [.int .i64 (.var 0), .int .i64 (.var 1), .int .i64 (.var 2), .int .i64 (.var 3), .var 4, .var 5, .var 6, .int .i64 (.var 7), .int .i64 (.var 8),
 .int .i64 (.var 9), .bool (.var 10)])]) (.split (.lt (.var 12) (.lit 0)) (.leaf 0 [.tuple [.agg [.int .i64 (.var 0), .int .i64 (.var 1), .int .i64 (.var 2),
 .int .i64 (.var 3), .var 4, .var 5, .var 6, .int .i64 (.var 7), .int .i64 (.var 8), .int .i64 (.var 9), .bool (.var 10)], .int .i64 (.lit 2)]] [14] [(14,
 [.int .i64 (.var 0), .int .i64 (.var 1), .int .i64 (.var 2), .int .i64 (.var 3), .var 4, .var 5, .var 6, .int .i64 (.var 7), .int .i64 (.var 8),
 .int .i64 (.var 9), .bool (.var 10)]), (13, [.int .i64 (.var 0), .int .i64 (.var 1), .int .i64 (.var 2), .int .i64 (.var 3), .var 4, .var 5, .var 6,
 .int .i64 (.var 7), .int .i64 (.var 8), .int .i64 (.var 9), .bool (.var 10)])]) (.ob (.le (.lit (-9223372036854775808)) (.add (.var 2) (.lit 64))) (.ob (.le (.add
 (.var 2) (.lit 64)) (.lit 9223372036854775807)) (.split (.lt (.add (.var 2) (.lit 64)) (.var 12)) (.leaf 0 [.tuple [.agg [.int .i64 (.var 0), .int .i64 (.var 1), .int
 .i64 (.var 2), .int .i64 (.var 3), .var 4, .var 5, .var 6, .int .i64 (.var 7), .int .i64 (.var 8), .int .i64 (.var 9), .bool (.var 10)], .int .i64
 (.lit 2)]] [14] [(14, [.int .i64 (.var 0), .int .i64 (.var 1), .int .i64 (.var 2), .int .i64 (.var 3), .var 4, .var 5, .var 6, .int .i64 (.var 7), .int
 .i64 (.var 8), .int .i64 (.var 9), .bool (.var 10)]), (13, [.int .i64 (.var 0), .int .i64 (.var 1), .int .i64 (.var 2), .int .i64 (.var 3), .var 4,
 .var 5, .var 6, .int .i64 (.var 7), .int .i64 (.var 8), .int .i64 (.var 9), .bool (.var 10)])]) (.split (.var 10) (.leaf 0 [.tuple [.agg [.int .i64 (.var 0),
 .int .i64 (.var 1), .int .i64 (.var 2), .int .i64 (.var 3), .var 4, .var 5, .var 6, .int .i64 (.var 7), .int .i64 (.var 8), .int .i64 (.var 9),
 .bool (.var 10)], .int .i64 (.lit 50)]] [14] [(14, [.int .i64 (.var 0), .int .i64 (.var 1), .int .i64 (.var 2), .int .i64 (.var 3), .var 4, .var 5, .var
 6, .int .i64 (.var 7), .int .i64 (.var 8), .int .i64 (.var 9), .bool (.var 10)]), (13, [.int .i64 (.var 0), .int .i64 (.var 1), .int .i64 (.var 2),
 .int .i64 (.var 3), .var 4, .var 5, .var 6, .int .i64 (.var 7), .int .i64 (.var 8), .int .i64 (.var 9), .bool (.var 10)])]) (.leaf 0 [.tuple [.agg [.int
 .i64 (.var 0), .int .i64 (.var 1), .int .i64 (.var 2), .int .i64 (.var 3), .var 4, .var 5, .var 6, .int .i64 (.var 7), .int .i64 (.var 11), .int
 .i64 (.var 12), .bool (.var 10)], .int .i64 (.lit 0)]] [14, 13] [(14, [.int .i64 (.var 0), .int .i64 (.var 1), .int .i64 (.var 2), .int .i64 (.var 3),
 .var 4, .var 5, .var 6, .int .i64 (.var 7), .int .i64 (.var 11), .int .i64 (.var 12), .bool (.var 10)]), (13, [.int .i64 (.var 0), .int .i64 (.var 1),
 .int .i64 (.var 2), .int .i64 (.var 3), .var 4, .var 5, .var 6, .int .i64 (.var 7), .int .i64 (.var 11), .int .i64 (.var 12), .bool (.var 10)])]))))))))
 := by kernel_rfl

theorem t44 : exFn { P := Try.prog } 44 [.agg [.int .i64 (.var 0), .int .i64 (.var 1), .int .i64 (.var 2), .int .i64 (.var 3), .var 4, .var 5, .var 6, .int .i64 (.var 7), .int .i64 (.var 8), .int .i64 (.var 9), .bool
 (.var 10)]] [.int .i64, .int .i64, .int .i64, .int .i64, .slice, .slice, .slice, .int .i64, .int .i64, .int .i64, .bool] [] = .blk (.blk (.leaf 0 [.agg [.int .i64 (.var 0), .int .i64 (.var
 1), .int .i64 (.var 2), .int .i64 (.var 3), .var 4, .var 5, .var 6, .int .i64 (.var 7), .int .i64 (.lit (-1)), .int .i64 (.var 9), .bool (.lit false)]]
 [12, 11] [(12, [.int .i64 (.var 0), .int .i64 (.var 1), .int .i64 (.var 2), .int .i64 (.var 3), .var 4, .var 5, .var 6, .int .i64 (.var 7), .int .i64
 (.lit (-1)), .int .i64 (.var 9), .bool (.lit false)]), (11, [.int .i64 (.var 0), .int .i64 (.var 1), .int .i64 (.var 2), .int .i64 (.var 3), .var 4, .var
 5, .var 6, .int .i64 (.var 7), .int .i64 (.lit (-1)), .int .i64 (.var 9), .bool (.lit false)])])) := by kernel_rfl

theorem t45 : exFn { P := Try.prog } 45 [.agg [.int .i64 (.var 0), .int .i64 (.var 1), .int .i64 (.var 2), .int .i64 (.var 3), .var 4, .var 5, .var 6, .int .i64 (.var 7), .int .i64 (.var 8), .int .i64 (.var 9), .bool
 (.var 10)], .int .i64 (.var 11)] [.int .i64, .int .i64, .int .i64, .int .i64, .slice, .slice, .slice, .int .i64, .int .i64, .int .i64, .bool, .int .i64] [] = .blk (.split (.le (.lit 0) (.var 11)) (.leaf 0
 [.bool (.lt (.var 11) (.len 5))] [] [(12, [.int .i64 (.var 0), .int .i64 (.var 1), .int .i64 (.var 2), .int .i64 (.var 3), .var 4, .var 5, .var 6, .int
 .i64 (.var 7), .int .i64 (.var 8), .int .i64 (.var 9), .bool (.var 10)])]) (.leaf 0 [.bool (.lit false)] [] [(12, [.int .i64 (.var 0), .int .i64 (.var 1),
 .int .i64 (.var 2), .int .i64 (.var 3), .var 4, .var 5, .var 6, .int .i64 (.var 7), .int .i64 (.var 8), .int .i64 (.var 9), .bool (.var 10)])])) := by
 kernel_rfl

theorem t46 : exFn { P := Try.prog, loops := fun r => if Nat.beq r 4 then some ⟨1, [(5, .int .i64)], []⟩ else none } 46 [.agg [.int .i64 (.var 0), .int .i64 (.var 1), .int .i64 (.var 2), .int .i64 (.var 3), .var 4, .var
 5, .var 6, .int .i64 (.var 7), .int .i64 (.var 8), .int .i64 (.var 9), .bool (.var 10)], .int .i64 (.var 11)] [.int .i64, .int .i64, .int .i64, .int .i64, .slice, .slice, .slice, .int .i64, .int .i64, .int .i64, .bool,
 .int .i64] [] = .blk (.call 45 [.agg [.int .i64 (.var 0), .int .i64 (.var 1), .int .i64 (.var 2), .int .i64 (.var 3), .var 4, .var 5, .var 6, .int .i64
 (.var 7), .int .i64 (.var 8), .int .i64 (.var 9), .bool (.var 10)], .int .i64 (.var 11)] [.bool] (.bool (.var 13)) [] false [] [] [12] [(12, [.int .i64 (.var 0),
 .int .i64 (.var 1), .int .i64 (.var 2), .int .i64 (.var 3), .var 4, .var 5, .var 6, .int .i64 (.var 7), .int .i64 (.var 8), .int .i64 (.var 9),
 .bool (.var 10)])] (.split (.not (.var 13)) (.leaf 0 [.int .i64 (.lit 0)] [] [(12, [.int .i64 (.var 0), .int .i64 (.var 1), .int .i64 (.var 2), .int .i64
 (.var 3), .var 4, .var 5, .var 6, .int .i64 (.var 7), .int .i64 (.var 8), .int .i64 (.var 9), .bool (.var 10)])]) (.loop 1 [.int .i64 (.lit 0)] [.int
 .i64] [] [12] [(12, [.int .i64 (.var 0), .int .i64 (.var 1), .int .i64 (.var 2), .int .i64 (.var 3), .var 4, .var 5, .var 6, .int .i64 (.var 7), .int
 .i64 (.var 8), .int .i64 (.var 9), .bool (.var 10)])] [(12, [.int .i64 (.var 0), .int .i64 (.var 1), .int .i64 (.var 2), .int .i64 (.var 3), .var 4,
 .var 5, .var 6, .int .i64 (.var 7), .int .i64 (.var 8), .int .i64 (.var 9), .bool (.var 10)])] (.split (.lt (.var 14) (.var 1)) (.ob (.le (.lit 0) (.var 11))
 (.ob (.lt (.var 11) (.len 5)) (.ob (.not (.nil 5)) (.start false [] [] [(12, [.int .i64 (.var 0), .int .i64 (.var 1), .int .i64 (.var 2), .int .i64 (.var 3),
 .var 4, .var 5, .var 6, .int .i64 (.var 7), .int .i64 (.var 8), .int .i64 (.var 9), .bool (.var 10)])] (.load (.elt 5 0 (.var 11) 1 0) [.slice] (.ob (.le (.lit
 0) (.var 14)) (.ob (.lt (.var 14) (.len 15)) (.ob (.not (.nil 15)) (.start false [] [] [(12, [.int .i64 (.var 0), .int .i64 (.var 1), .int .i64 (.var 2), .int
 .i64 (.var 3), .var 4, .var 5, .var 6, .int .i64 (.var 7), .int .i64 (.var 8), .int .i64 (.var 9), .bool (.var 10)])] (.load (.elt 15 0 (.var 14) 2 0) [.int
 .i64] (.split (.eq (.var 16) (.lit 1)) (.leaf 0 [.int .i64 (.var 14)] [] [(12, [.int .i64 (.var 0), .int .i64 (.var 1), .int .i64 (.var 2), .int .i64
 (.var 3), .var 4, .var 5, .var 6, .int .i64 (.var 7), .int .i64 (.var 8), .int .i64 (.var 9), .bool (.var 10)])]) (.ob (.le (.lit (-9223372036854775808)) (.add
 (.var 14) (.lit 1))) (.ob (.le (.add (.var 14) (.lit 1)) (.lit 9223372036854775807)) (.leaf 1 [.int .i64 (.add (.var 14) (.lit 1))] [] [(12, [.int .i64 (.var 0), .int
 .i64 (.var 1), .int .i64 (.var 2), .int .i64 (.var 3), .var 4, .var 5, .var 6, .int .i64 (.var 7), .int .i64 (.var 8), .int .i64 (.var 9), .bool
 (.var 10)])])))))))))))))) (.leaf 0 [.int .i64 (.var 1)] [] [(12, [.int .i64 (.var 0), .int .i64 (.var 1), .int .i64 (.var 2), .int .i64 (.var 3), .var 4,
 .var 5, .var 6, .int .i64 (.var 7), .int .i64 (.var 8), .int .i64 (.var 9), .bool (.var 10)])]))))) := by kernel_rfl

theorem t47 : exFn { P := Try.prog } 47 [.agg [.int .i64 (.var 0), .int .i64 (.var 1), .int .i64 (.var 2), .int .i64 (.var 3), .var 4, .var 5, .var 6, .int .i64 (.var 7), .int .i64 (.var 8), .int .i64 (.var 9), .bool
 (.var 10)], .int .i64 (.var 11), .int .i64 (.var 12)] [.int .i64, .int .i64, .int .i64, .int .i64, .slice, .slice, .slice, .int .i64, .int .i64, .int .i64, .bool, .int .i64, .int .i64] [] = .blk (.call 45 [.agg
 [.int .i64 (.var 0), .int .i64 (.var 1), .int .i64 (.var 2), .int .i64 (.var 3), .var 4, .var 5, .var 6, .int .i64 (.var 7), .int .i64 (.var 8),
 .int .i64 (.var 9), .bool (.var 10)], .int .i64 (.var 11)] [.bool] (.bool (.var 14)) [] false [] [] [13] [(13, [.int .i64 (.var 0), .int .i64 (.var 1), .int
 .i64 (.var 2), .int .i64 (.var 3), .var 4, .var 5, .var 6, .int .i64 (.var 7), .int .i64 (.var 8), .int .i64 (.var 9), .bool (.var 10)])] (.split (.not
 (.var 14)) (.leaf 0 [.int .i64 (.lit 0)] [] [(13, [.int .i64 (.var 0), .int .i64 (.var 1), .int .i64 (.var 2), .int .i64 (.var 3), .var 4, .var 5, .var 6,
 .int .i64 (.var 7), .int .i64 (.var 8), .int .i64 (.var 9), .bool (.var 10)])]) (.split (.lt (.var 12) (.lit 0)) (.leaf 0 [.int .i64 (.lit 0)] [] [(13, [.int
 .i64 (.var 0), .int .i64 (.var 1), .int .i64 (.var 2), .int .i64 (.var 3), .var 4, .var 5, .var 6, .int .i64 (.var 7), .int .i64 (.var 8), .int
 .i64 (.var 9), .bool (.var 10)])]) (.split (.le (.var 1) (.var 12)) (.leaf 0 [.int .i64 (.lit 0)] [] [(13, [.int .i64 (.var 0), .int .i64 (.var 1), .int
 .i64 (.var 2), .int .i64 (.var 3), .var 4, .var 5, .var 6, .int .i64 (.var 7), .int .i64 (.var 8), .int .i64 (.var 9), .bool (.var 10)])]) (.ob (.le
 (.lit 0) (.var 11)) (.ob (.lt (.var 11) (.len 5)) (.ob (.not (.nil 5)) (.start false [] [] [(13, [.int .i64 (.var 0), .int .i64 (.var 1), .int .i64 (.var 2), .int
 .i64 (.var 3), .var 4, .var 5, .var 6, .int .i64 (.var 7), .int .i64 (.var 8), .int .i64 (.var 9), .bool (.var 10)])] (.load (.elt 5 0 (.var 11) 1 0)
 [.slice] (.ob (.le (.lit 0) (.var 12)) (.ob (.lt (.var 12) (.len 15)) (.ob (.not (.nil 15)) (.start false [] [] [(13, [.int .i64 (.var 0), .int .i64 (.var 1), .int
 .i64 (.var 2), .int .i64 (.var 3), .var 4, .var 5, .var 6, .int .i64 (.var 7), .int .i64 (.var 8), .int .i64 (.var 9), .bool (.var 10)])] (.load (.elt
 15 0 (.var 12) 2 0) [.int .i64] (.leaf 0 [.int .i64 (.var 16)] [] [(13, [.int .i64 (.var 0), .int .i64 (.var 1), .int .i64 (.var 2), .int .i64 (.var
 3), .var 4, .var 5, .var 6, .int .i64 (.var 7), .int .i64 (.var 8), .int .i64 (.var 9), .bool (.var 10)])]))))))))))))))) := by kernel_rfl

theorem t61 : exFn { P := Try.prog, loops := fun r => if Nat.beq r 2 then some ⟨1, [(3, .int .i64)], []⟩ else none } 61 [.agg [.int .i64 (.var 0), .int .i64 (.var 1), .int .i64 (.var 2), .int .i64 (.var 3), .var 4, .var
 5, .var 6, .int .i64 (.var 7), .int .i64 (.var 8), .int .i64 (.var 9), .bool (.var 10)]] [.int .i64, .int .i64, .int .i64, .int .i64, .slice, .slice, .slice, .int .i64, .int .i64, .int .i64, .bool] [] = .blk (.loop
 1 [.int .i64 (.lit 0)] [.int .i64] [] [11] [(11, [.int .i64 (.var 0), .int .i64 (.var 1), .int .i64 (.var 2), .int .i64 (.var 3), .var 4, .var 5,
 .var 6, .int .i64 (.var 7), .int .i64 (.var 8), .int .i64 (.var 9), .bool (.var 10)])] [(11, [.int .i64 (.var 0), .int .i64 (.var 1), .int .i64
 (.var 2), .int .i64 (.var 3), .var 4, .var 5, .var 6, .int .i64 (.var 7), .int .i64 (.var 8), .int .i64 (.var 9), .bool (.var 10)])] (.split (.lt (.var 12)
 (.len 4)) (.start true [] [11] [(11, [.int .i64 (.var 0), .int .i64 (.var 1), .int .i64 (.var 2), .int .i64 (.var 3), .var 4, .var 5, .var 6, .int .i64
 (.var 7), .int .i64 (.var 8), .int .i64 (.var 9), .bool (.var 10)])] (.ob (.le (.lit 0) (.var 12)) (.ob (.lt (.var 12) (.len 4)) (.ob (.not (.nil 4)) (.load (.elt 4
 0 (.var 12) 1 0) [.int .i64] (.split (.eq (.var 13) (.var 7)) (.leaf 0 [.bool (.lit true)] [] [(11, [.int .i64 (.var 0), .int .i64 (.var 1), .int .i64 (.var
 2), .int .i64 (.var 3), .var 4, .var 5, .var 6, .int .i64 (.var 7), .int .i64 (.var 8), .int .i64 (.var 9), .bool (.var 10)])]) (.ob (.le (.lit
 (-9223372036854775808)) (.add (.var 12) (.lit 1))) (.ob (.le (.add (.var 12) (.lit 1)) (.lit 9223372036854775807)) (.leaf 1 [.int .i64 (.add (.var 12) (.lit 1))] [] [(11, [.int
 .i64 (.var 0), .int .i64 (.var 1), .int .i64 (.var 2), .int .i64 (.var 3), .var 4, .var 5, .var 6, .int .i64 (.var 7), .int .i64 (.var 8), .int
 .i64 (.var 9), .bool (.var 10)])]))))))))) (.leaf 0 [.bool (.lit false)] [] [(11, [.int .i64 (.var 0), .int .i64 (.var 1), .int .i64 (.var 2), .int .i64
 (.var 3), .var 4, .var 5, .var 6, .int .i64 (.var 7), .int .i64 (.var 8), .int .i64 (.var 9), .bool (.var 10)])]))) := by kernel_rfl

theorem t62 : exFn { P := Try.prog } 62 [.agg [.int .i64 (.var 0), .int .i64 (.var 1), .int .i64 (.var 2), .int .i64 (.var 3), .var 4, .var 5, .var 6, .int .i64 (.var 7), .int .i64 (.var 8), .int .i64 (.var 9), .bool
 (.var 10)], .int .i64 (.var 11), .var 12] [.int .i64, .int .i64, .int .i64, .int .i64, .slice, .slice, .slice, .int .i64, .int .i64, .int .i64, .bool, .int .i64, .slice] [] = .blk (.blk (.blk (.gen (.call { callee := .builtin .append, args := #[.tmp 7, .tmp 9], argTypes := #[34, 34] })
 34 [(.tmp 7, .slc 15 0 0 0), (.tmp 9, .var 5)] [.slice] (.var 16) [] false [] [] [15, 14, 13] [(15, []), (14, [.int .i64 (.lit 0), .int .i64 (.lit 0), .int .i64
 (.lit 0), .int .i64 (.lit 0), .cst (.slice none 0 0), .cst (.slice none 0 0), .cst (.slice none 0 0), .int .i64 (.lit 0), .int .i64 (.lit 0), .int .i64
 (.lit 0), .bool (.lit false)]), (13, [.int .i64 (.var 0), .int .i64 (.var 1), .int .i64 (.var 2), .int .i64 (.var 3), .var 4, .var 5, .var 6, .int .i64
 (.var 7), .int .i64 (.var 8), .int .i64 (.var 9), .bool (.var 10)])] (.ob (.le (.lit 0) (.var 11)) (.ob (.lt (.var 11) (.len 16)) (.ob (.not (.nil 16)) (.gen (.store
 102 (.tmp 16) (.tmp 15)) 0 [(.tmp 16, .elt 16 0 (.var 11) 1 0), (.tmp 15, .var 12)] [] (.cst (.tuple #[])) [] false [13] [] [15, 14, 13] [(15, []), (14, [.int .i64
 (.lit 0), .int .i64 (.lit 0), .int .i64 (.lit 0), .int .i64 (.lit 0), .cst (.slice none 0 0), .cst (.slice none 0 0), .cst (.slice none 0 0), .int .i64
 (.lit 0), .int .i64 (.lit 0), .int .i64 (.lit 0), .bool (.lit false)]), (13, [.int .i64 (.var 0), .int .i64 (.var 1), .int .i64 (.var 2), .int .i64
 (.var 3), .var 4, .var 16, .var 6, .int .i64 (.var 7), .int .i64 (.var 8), .int .i64 (.var 9), .bool (.var 10)])] (.leaf 0 [.agg [.int .i64 (.var 0), .int
 .i64 (.var 1), .int .i64 (.var 2), .int .i64 (.var 3), .var 4, .var 16, .var 6, .int .i64 (.var 7), .int .i64 (.var 8), .int .i64 (.var 9), .bool
 (.var 10)]] [14] [(15, []), (14, [.int .i64 (.var 0), .int .i64 (.var 1), .int .i64 (.var 2), .int .i64 (.var 3), .var 4, .var 16, .var 6, .int .i64 (.var
 7), .int .i64 (.var 8), .int .i64 (.var 9), .bool (.var 10)]), (13, [.int .i64 (.var 0), .int .i64 (.var 1), .int .i64 (.var 2), .int .i64 (.var 3),
 .var 4, .var 16, .var 6, .int .i64 (.var 7), .int .i64 (.var 8), .int .i64 (.var 9), .bool (.var 10)])])))))))) := by kernel_rfl

end Go.Proofs.Ytppbapnibpeolaa
