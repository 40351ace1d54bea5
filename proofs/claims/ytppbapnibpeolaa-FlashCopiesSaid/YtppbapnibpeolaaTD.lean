/- What the functions of the chapter come to, printed by a program of the prover's and checked by the kernel. No conditions. -/
import Derived.Test.YtppbapnibpeolaaSxZI
import Derived.Test.YtppbapnibpeolaaProg
import Derived.KernelRfl
set_option maxRecDepth 100000
set_option linter.unusedVariables false
namespace Go.Proofs.Ytppbapnibpeolaa
open Go.Sx

theorem t11 : exFn { P := Try.prog } 11 [] [] [] = .blk (.call 29 [.agg [.int .i64 (.lit 2), .int .i64 (.lit 2), .int .i64 (.lit 2), .int .i64 (.lit 2)], .slc 0 0 1 1]
 [.ptr, .int .i64] (.tuple [.var 1, .int .i64 (.var 2)]) [] false [] [] [0] [(0, [.int .i64 (.lit 2)])] (.call 32 [.int .i64 (.lit 64), .int .u8 (.lit 7)]
 [.slice] (.var 3) [] false [] [] [0] [(0, [.int .i64 (.lit 2)])] (.call 18 [.int .i64 (.var 2)] [.int .i64] (.int .i64 (.var 4)) [] false [] [] [0] [(0, [.int
 .i64 (.lit 2)])] (.split (.not (.eq (.var 4) (.lit 0))) (.leaf 0 [.bool (.lit false)] [] [(0, [.int .i64 (.lit 2)])]) (.split (.nil 1) (.leaf 0 [.bool (.lit false)] [] [(0,
 [.int .i64 (.lit 2)])]) (.blk (.gen (.convert 26 26 (.tmp 38)) 26 [(.tmp 38, .slc 5 0 2 2)] [.slice] (.var 6) [] false [] [] [0] [(5, [.int .u8 (.lit 97), .int
 .u8 (.lit 98)]), (0, [.int .i64 (.lit 2)])] (.call 19 [.var 1, .int .i64 (.lit 0), .int .i64 (.lit 0), .var 6, .var 3] [.int .i64] (.int .i64 (.var
 7)) [] false [] [] [0] [(0, [.int .i64 (.lit 2)])] (.call 18 [.int .i64 (.var 7)] [.int .i64] (.int .i64 (.var 8)) [] false [] [] [0] [(0, [.int .i64 (.lit 2)])]
 (.split (.not (.eq (.var 8) (.lit 0))) (.leaf 0 [.bool (.lit false)] [] [(0, [.int .i64 (.lit 2)])]) (.blk (.gen (.convert 26 26 (.tmp 47)) 26 [(.tmp 47, .slc 9 0 2 2)]
 [.slice] (.var 10) [] false [] [] [0] [(9, [.int .u8 (.lit 99), .int .u8 (.lit 100)]), (0, [.int .i64 (.lit 2)])] (.call 19 [.var 1, .int .i64 (.lit 0), .int
 .i64 (.lit 0), .var 10, .var 3] [.int .i64] (.int .i64 (.var 11)) [] false [] [] [0] [(0, [.int .i64 (.lit 2)])] (.split (.not (.eq (.var 11) (.lit 51))) (.leaf
 0 [.bool (.lit false)] [] [(0, [.int .i64 (.lit 2)])]) (.blk (.gen (.convert 26 26 (.tmp 55)) 26 [(.tmp 55, .slc 12 0 2 2)] [.slice] (.var 13) [] false [] [] [0] [(12, [.int
 .u8 (.lit 99), .int .u8 (.lit 100)]), (0, [.int .i64 (.lit 2)])] (.call 19 [.var 1, .int .i64 (.lit 1), .int .i64 (.lit 1), .var 13, .var 3] [.int
 .i64] (.int .i64 (.var 14)) [] false [] [] [0] [(0, [.int .i64 (.lit 2)])] (.split (.not (.eq (.var 14) (.lit 51))) (.leaf 0 [.bool (.lit false)] [] [(0, [.int .i64
 (.lit 2)])]) (.call 13 [.var 1, .int .i64 (.lit 0), .int .i64 (.lit 0)] [.slice, .slice, .int .i64] (.tuple [.var 15, .var 16, .int .i64 (.var 17)]) []
 false [] [] [0] [(0, [.int .i64 (.lit 2)])] (.call 13 [.var 1, .int .i64 (.lit 0), .int .i64 (.lit 1)] [.slice, .slice, .int .i64] (.tuple [.var 18, .var 19,
 .int .i64 (.var 20)]) [] false [] [] [0] [(0, [.int .i64 (.lit 2)])] (.call 18 [.int .i64 (.var 17)] [.int .i64] (.int .i64 (.var 21)) [] false [] [] [0] [(0,
 [.int .i64 (.lit 2)])] (.split (.not (.eq (.var 21) (.lit 0))) (.leaf 0 [.bool (.lit false)] [] [(0, [.int .i64 (.lit 2)])]) (.blk (.gen (.convert 26 26 (.tmp 78)) 26
 [(.tmp 78, .slc 22 0 2 2)] [.slice] (.var 23) [] false [] [] [0] [(22, [.int .u8 (.lit 97), .int .u8 (.lit 98)]), (0, [.int .i64 (.lit 2)])] (.call 30 [.var 15, .var
 23] [.bool] (.bool (.var 24)) [] false [] [] [0] [(0, [.int .i64 (.lit 2)])] (.split (.not (.var 24)) (.leaf 0 [.bool (.lit false)] [] [(0, [.int .i64 (.lit 2)])]) (.call 30
 [.var 16, .var 3] [.bool] (.bool (.var 25)) [] false [] [] [0] [(0, [.int .i64 (.lit 2)])] (.split (.not (.var 25)) (.leaf 0 [.bool (.lit false)] [] [(0, [.int .i64 (.lit
 2)])]) (.split (.not (.eq (.var 20) (.lit 52))) (.leaf 0 [.bool (.lit false)] [] [(0, [.int .i64 (.lit 2)])]) (.call 21 [.var 1, .int .i64 (.lit 1), .int .i64 (.lit
 1)] [.int .i64] (.int .i64 (.var 26)) [] false [] [] [0] [(0, [.int .i64 (.lit 2)])] (.call 18 [.int .i64 (.var 26)] [.int .i64] (.int .i64 (.var 27))
 [] false [] [] [0] [(0, [.int .i64 (.lit 2)])] (.split (.not (.eq (.var 27) (.lit 0))) (.leaf 0 [.bool (.lit false)] [] [(0, [.int .i64 (.lit 2)])]) (.blk (.gen (.convert 26
 26 (.tmp 101)) 26 [(.tmp 101, .slc 28 0 2 2)] [.slice] (.var 29) [] false [] [] [0] [(28, [.int .u8 (.lit 99), .int .u8 (.lit 100)]), (0, [.int .i64 (.lit 2)])]
 (.call 19 [.var 1, .int .i64 (.lit 0), .int .i64 (.lit 1), .var 29, .var 3] [.int .i64] (.int .i64 (.var 30)) [] false [] [] [0] [(0, [.int .i64 (.lit 2)])]
 (.split (.not (.eq (.var 30) (.lit 50))) (.leaf 0 [.bool (.lit false)] [] [(0, [.int .i64 (.lit 2)])]) (.call 13 [.var 1, .int .i64 (.lit 0), .int .i64 (.lit 0)]
 [.slice, .slice, .int .i64] (.tuple [.var 31, .var 32, .int .i64 (.var 33)]) [] false [] [] [0] [(0, [.int .i64 (.lit 2)])] (.call 22 [.var 1] [.int .i64]
 (.int .i64 (.var 34)) [] false [] [] [0] [(0, [.int .i64 (.lit 2)])] (.call 13 [.var 1, .int .i64 (.lit 0), .int .i64 (.lit 1)] [.slice, .slice, .int
 .i64] (.tuple [.var 35, .var 36, .int .i64 (.var 37)]) [] false [] [] [0] [(0, [.int .i64 (.lit 2)])] (.split (.not (.eq (.var 33) (.lit 50))) (.leaf 0 [.bool (.lit
 false)] [] [(0, [.int .i64 (.lit 2)])]) (.call 18 [.int .i64 (.var 34)] [.int .i64] (.int .i64 (.var 38)) [] false [] [] [0] [(0, [.int .i64 (.lit 2)])] (.call
 18 [.int .i64 (.var 37)] [.int .i64] (.int .i64 (.var 39)) [] false [] [] [0] [(0, [.int .i64 (.lit 2)])] (.ob (.le (.lit (-9223372036854775808)) (.add (.var 38)
 (.var 39))) (.ob (.le (.add (.var 38) (.var 39)) (.lit 9223372036854775807)) (.split (.not (.eq (.add (.var 38) (.var 39)) (.lit 0))) (.leaf 0 [.bool (.lit false)] [] [(0, [.int
 .i64 (.lit 2)])]) (.blk (.call 30 [.var 35, .slc 40 0 2 2] [.bool] (.bool (.var 41)) [] false [] [] [40, 0] [(40, [.int .u8 (.lit 99), .int .u8 (.lit 255)]), (0, [.int
 .i64 (.lit 2)])] (.split (.not (.var 41)) (.leaf 0 [.bool (.lit false)] [] [(40, [.int .u8 (.lit 99), .int .u8 (.lit 255)]), (0, [.int .i64 (.lit 2)])]) (.call 32
 [.int .i64 (.lit 64), .int .u8 (.lit 255)] [.slice] (.var 42) [] false [] [] [40, 0] [(40, [.int .u8 (.lit 99), .int .u8 (.lit 255)]), (0, [.int .i64 (.lit
 2)])] (.call 30 [.var 36, .var 42] [.bool] (.bool (.var 43)) [] false [] [] [40, 0] [(40, [.int .u8 (.lit 99), .int .u8 (.lit 255)]), (0, [.int .i64 (.lit 2)])] (.split
 (.not (.var 43)) (.leaf 0 [.bool (.lit false)] [] [(40, [.int .u8 (.lit 99), .int .u8 (.lit 255)]), (0, [.int .i64 (.lit 2)])]) (.call 28 [.var 1, .int .i64
 (.lit 0), .int .i64 (.lit 1)] [.int .i64] (.int .i64 (.var 44)) [] false [] [] [40, 0] [(40, [.int .u8 (.lit 99), .int .u8 (.lit 255)]), (0, [.int .i64
 (.lit 2)])] (.split (.not (.eq (.var 44) (.lit 3))) (.leaf 0 [.bool (.lit false)] [] [(40, [.int .u8 (.lit 99), .int .u8 (.lit 255)]), (0, [.int .i64 (.lit 2)])])
 (.call 20 [.var 1, .int .i64 (.lit 0)] [.int .i64] (.int .i64 (.var 45)) [] false [] [] [40, 0] [(40, [.int .u8 (.lit 99), .int .u8 (.lit 255)]), (0, [.int
 .i64 (.lit 2)])] (.split (.not (.eq (.var 45) (.lit 55))) (.leaf 0 [.bool (.lit false)] [] [(40, [.int .u8 (.lit 99), .int .u8 (.lit 255)]), (0, [.int .i64 (.lit
 2)])]) (.call 28 [.var 1, .int .i64 (.lit 0), .int .i64 (.lit 0)] [.int .i64] (.int .i64 (.var 46)) [] false [] [] [40, 0] [(40, [.int .u8 (.lit 99), .int
 .u8 (.lit 255)]), (0, [.int .i64 (.lit 2)])] (.split (.not (.eq (.var 46) (.lit 5))) (.leaf 0 [.bool (.lit false)] [] [(40, [.int .u8 (.lit 99), .int .u8 (.lit
 255)]), (0, [.int .i64 (.lit 2)])]) (.call 13 [.var 1, .int .i64 (.lit 0), .int .i64 (.lit 0)] [.slice, .slice, .int .i64] (.tuple [.var 47, .var 48, .int
 .i64 (.var 49)]) [] false [] [] [40, 0] [(40, [.int .u8 (.lit 99), .int .u8 (.lit 255)]), (0, [.int .i64 (.lit 2)])] (.call 20 [.var 1, .int .i64 (.lit 0)]
 [.int .i64] (.int .i64 (.var 50)) [] false [] [] [40, 0] [(40, [.int .u8 (.lit 99), .int .u8 (.lit 255)]), (0, [.int .i64 (.lit 2)])] (.call 26 [.var 1, .int
 .i64 (.lit 0)] [.int .i64] (.int .i64 (.var 51)) [] false [] [] [40, 0] [(40, [.int .u8 (.lit 99), .int .u8 (.lit 255)]), (0, [.int .i64 (.lit 2)])]
 (.split (.eq (.var 49) (.lit 53)) (.call 18 [.int .i64 (.var 50)] [.int .i64] (.int .i64 (.var 52)) [] false [] [] [40, 0] [(40, [.int .u8 (.lit 99), .int
 .u8 (.lit 255)]), (0, [.int .i64 (.lit 2)])] (.split (.eq (.var 52) (.lit 0)) (.split (.eq (.var 51) (.lit 0)) (.call 20 [.var 1, .int .i64 (.lit 0)] [.int
 .i64] (.int .i64 (.var 53)) [] false [] [] [40, 0] [(40, [.int .u8 (.lit 99), .int .u8 (.lit 255)]), (0, [.int .i64 (.lit 2)])] (.split (.eq (.var 53) (.lit
 56)) (.call 25 [.var 1] [.int .i64] (.int .i64 (.var 54)) [] false [] [] [40, 0] [(40, [.int .u8 (.lit 99), .int .u8 (.lit 255)]), (0, [.int .i64 (.lit 2)])]
 (.leaf 0 [.bool (.eq (.var 54) (.lit 4))] [] [(40, [.int .u8 (.lit 99), .int .u8 (.lit 255)]), (0, [.int .i64 (.lit 2)])])) (.leaf 0 [.bool (.lit false)] [] [(40, [.int
 .u8 (.lit 99), .int .u8 (.lit 255)]), (0, [.int .i64 (.lit 2)])]))) (.leaf 0 [.bool (.lit false)] [] [(40, [.int .u8 (.lit 99), .int .u8 (.lit 255)]), (0,
 [.int .i64 (.lit 2)])])) (.leaf 0 [.bool (.lit false)] [] [(40, [.int .u8 (.lit 99), .int .u8 (.lit 255)]), (0, [.int .i64 (.lit 2)])]))) (.leaf 0 [.bool (.lit
 false)] [] [(40, [.int .u8 (.lit 99), .int .u8 (.lit 255)]), (0, [.int .i64 (.lit 2)])])))))))))))))))))))))))))))))))))))))))))))))))))))))))))))))) := by kernel_rfl

end Go.Proofs.Ytppbapnibpeolaa
