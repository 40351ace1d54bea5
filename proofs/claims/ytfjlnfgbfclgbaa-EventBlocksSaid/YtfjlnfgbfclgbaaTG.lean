/- What the functions of the chapter come to, printed by a program of the prover's and checked by the kernel. No conditions. -/
import Derived.Test.YtfjlnfgbfclgbaaSxZI
import Derived.Test.YtfjlnfgbfclgbaaProg
import Derived.KernelRfl
set_option maxRecDepth 100000
set_option linter.unusedVariables false
namespace Go.Proofs.Ytfjlnfgbfclgbaa
open Go.Sx

theorem t29 : exFn { P := Try.prog, loops := (fun r => if Nat.beq r 6 then some ⟨1, [(7, .int .i64)], []⟩ else none), ranged := true, ranges := fun t => if Nat.beq t 40 then some ⟨2, [23], [8]⟩ else none } 29 [.var 0,
 .agg [.int .i64 (.var 1), .int .u32 (.var 2), .var 3, .var 4, .bool (.var 5), .bool (.var 6), .bool (.var 7), .bool (.var 8), .bool (.var 9), .bool (.var 10), .bool (.var 11), .bool (.var 12), .int .u8 (.var 13), .int
 .u8 (.var 14), .int .u8 (.var 15), .int .u8 (.var 16), .int .u8 (.var 17), .int .u8 (.var 18), .int .u8 (.var 19), .int .u8 (.var 20)]] [.ptr, .int .i64, .int .u32, .slice, .slice, .bool, .bool, .bool, .bool, .bool,
 .bool, .bool, .bool, .int .u8, .int .u8, .int .u8, .int .u8, .int .u8, .int .u8, .int .u8, .int .u8] [] = .blk (.blk (.call 25 [.var 0] [.slice] (.var 23) [] false [] [] [22, 21] [(22, [.bool (.lit
 false)]), (21, [.int .i64 (.var 1), .int .u32 (.var 2), .var 3, .var 4, .bool (.var 5), .bool (.var 6), .bool (.var 7), .bool (.var 8), .bool (.var 9), .bool (.var 10),
 .bool (.var 11), .bool (.var 12), .int .u8 (.var 13), .int .u8 (.var 14), .int .u8 (.var 15), .int .u8 (.var 16), .int .u8 (.var 17), .int .u8
 (.var 18), .int .u8 (.var 19), .int .u8 (.var 20)])] (.call 24 [.var 0] [.func] (.var 24) [] false [] [] [22, 21] [(22, [.bool (.lit false)]), (21, [.int .i64 (.var 1),
 .int .u32 (.var 2), .var 3, .var 4, .bool (.var 5), .bool (.var 6), .bool (.var 7), .bool (.var 8), .bool (.var 9), .bool (.var 10), .bool (.var 11), .bool (.var 12),
 .int .u8 (.var 13), .int .u8 (.var 14), .int .u8 (.var 15), .int .u8 (.var 16), .int .u8 (.var 17), .int .u8 (.var 18), .int .u8 (.var 19),
 .int .u8 (.var 20)])] (.split (.not (.eq (.len 23) (.len 3))) (.leafM 0 [.bool (.lit false)] [22] [(22, [.bool (.lit false)]), (21, [.int .i64 (.var 1), .int .u32
 (.var 2), .var 3, .var 4, .bool (.var 5), .bool (.var 6), .bool (.var 7), .bool (.var 8), .bool (.var 9), .bool (.var 10), .bool (.var 11), .bool (.var 12), .int .u8
 (.var 13), .int .u8 (.var 14), .int .u8 (.var 15), .int .u8 (.var 16), .int .u8 (.var 17), .int .u8 (.var 18), .int .u8 (.var 19), .int .u8
 (.var 20)])]) (.split (.nil 24) (.leafM 0 [.bool (.lit false)] [22] [(22, [.bool (.lit false)]), (21, [.int .i64 (.var 1), .int .u32 (.var 2), .var 3, .var 4, .bool (.var
 5), .bool (.var 6), .bool (.var 7), .bool (.var 8), .bool (.var 9), .bool (.var 10), .bool (.var 11), .bool (.var 12), .int .u8 (.var 13), .int .u8 (.var 14), .int
 .u8 (.var 15), .int .u8 (.var 16), .int .u8 (.var 17), .int .u8 (.var 18), .int .u8 (.var 19), .int .u8 (.var 20)])]) (.loop 1 [.int .i64
 (.lit 0)] [.int .i64] [] [22, 21] [(22, [.bool (.lit false)]), (21, [.int .i64 (.var 1), .int .u32 (.var 2), .var 3, .var 4, .bool (.var 5), .bool (.var 6), .bool
 (.var 7), .bool (.var 8), .bool (.var 9), .bool (.var 10), .bool (.var 11), .bool (.var 12), .int .u8 (.var 13), .int .u8 (.var 14), .int .u8 (.var 15), .int
 .u8 (.var 16), .int .u8 (.var 17), .int .u8 (.var 18), .int .u8 (.var 19), .int .u8 (.var 20)])] [(22, [.bool (.lit false)]), (21, [.int .i64 (.var 1),
 .int .u32 (.var 2), .var 3, .var 4, .bool (.var 5), .bool (.var 6), .bool (.var 7), .bool (.var 8), .bool (.var 9), .bool (.var 10), .bool (.var 11), .bool (.var 12),
 .int .u8 (.var 13), .int .u8 (.var 14), .int .u8 (.var 15), .int .u8 (.var 16), .int .u8 (.var 17), .int .u8 (.var 18), .int .u8 (.var 19),
 .int .u8 (.var 20)])] (.split (.lt (.var 25) (.len 23)) (.start true [] [22, 21] [(22, [.bool (.lit false)]), (21, [.int .i64 (.var 1), .int .u32 (.var 2), .var 3, .var
 4, .bool (.var 5), .bool (.var 6), .bool (.var 7), .bool (.var 8), .bool (.var 9), .bool (.var 10), .bool (.var 11), .bool (.var 12), .int .u8 (.var 13), .int .u8
 (.var 14), .int .u8 (.var 15), .int .u8 (.var 16), .int .u8 (.var 17), .int .u8 (.var 18), .int .u8 (.var 19), .int .u8 (.var 20)])] (.ob (.le
 (.lit 0) (.var 25)) (.ob (.lt (.var 25) (.len 23)) (.ob (.not (.nil 23)) (.load (.elt 23 0 (.var 25) 1 0) [.int .u16] (.ob (.le (.lit 0) (.var 25)) (.ob (.lt (.var 25)
 (.len 3)) (.ob (.not (.nil 3)) (.load (.elt 3 0 (.var 25) 1 0) [.int .u16] (.split (.not (.eq (.var 26) (.var 27))) (.leafM 0 [.bool (.lit false)] [22] [(22, [.bool (.lit
 false)]), (21, [.int .i64 (.var 1), .int .u32 (.var 2), .var 3, .var 4, .bool (.var 5), .bool (.var 6), .bool (.var 7), .bool (.var 8), .bool (.var 9), .bool (.var 10),
 .bool (.var 11), .bool (.var 12), .int .u8 (.var 13), .int .u8 (.var 14), .int .u8 (.var 15), .int .u8 (.var 16), .int .u8 (.var 17), .int .u8
 (.var 18), .int .u8 (.var 19), .int .u8 (.var 20)])]) (.ob (.le (.lit (-9223372036854775808)) (.add (.var 25) (.lit 1))) (.ob (.le (.add (.var 25) (.lit 1)) (.lit
 9223372036854775807)) (.leaf 1 [.int .i64 (.add (.var 25) (.lit 1))] [] [(22, [.bool (.lit false)]), (21, [.int .i64 (.var 1), .int .u32 (.var 2), .var 3, .var 4, .bool
 (.var 5), .bool (.var 6), .bool (.var 7), .bool (.var 8), .bool (.var 9), .bool (.var 10), .bool (.var 11), .bool (.var 12), .int .u8 (.var 13), .int .u8 (.var 14),
 .int .u8 (.var 15), .int .u8 (.var 16), .int .u8 (.var 17), .int .u8 (.var 18), .int .u8 (.var 19), .int .u8 (.var 20)])]))))))))))))) (.blk (.range
 2 (.var 24) [.int .u8, .int .u8, .int .u8] [23] [.int .i64 (.lit 0)] [.int .i64] [26] [26, 22, 21] [(26, [.int .i64 (.lit 0)]), (22, [.bool (.lit
 false)]), (21, [.int .i64 (.var 1), .int .u32 (.var 2), .var 3, .var 4, .bool (.var 5), .bool (.var 6), .bool (.var 7), .bool (.var 8), .bool (.var 9), .bool (.var 10),
 .bool (.var 11), .bool (.var 12), .int .u8 (.var 13), .int .u8 (.var 14), .int .u8 (.var 15), .int .u8 (.var 16), .int .u8 (.var 17), .int .u8
 (.var 18), .int .u8 (.var 19), .int .u8 (.var 20)])] [(26, [.int .i64 (.var 27)]), (22, [.bool (.lit false)]), (21, [.int .i64 (.var 1), .int .u32 (.var 2),
 .var 3, .var 4, .bool (.var 5), .bool (.var 6), .bool (.var 7), .bool (.var 8), .bool (.var 9), .bool (.var 10), .bool (.var 11), .bool (.var 12), .int .u8 (.var 13),
 .int .u8 (.var 14), .int .u8 (.var 15), .int .u8 (.var 16), .int .u8 (.var 17), .int .u8 (.var 18), .int .u8 (.var 19), .int .u8 (.var 20)])]
 (.blk (.start true [] [31, 26, 22, 21] [(31, [.int .u8 (.var 28), .int .u8 (.var 29), .int .u8 (.var 30)]), (26, [.int .i64 (.var 27)]), (22, [.bool (.lit false)]),
 (21, [.int .i64 (.var 1), .int .u32 (.var 2), .var 3, .var 4, .bool (.var 5), .bool (.var 6), .bool (.var 7), .bool (.var 8), .bool (.var 9), .bool (.var 10), .bool
 (.var 11), .bool (.var 12), .int .u8 (.var 13), .int .u8 (.var 14), .int .u8 (.var 15), .int .u8 (.var 16), .int .u8 (.var 17), .int .u8 (.var 18),
 .int .u8 (.var 19), .int .u8 (.var 20)])] (.split (.le (.len 4) (.var 27)) (.resume [22] [31, 26, 22, 21] [(31, [.int .u8 (.var 28), .int .u8 (.var 29), .int
 .u8 (.var 30)]), (26, [.int .i64 (.var 27)]), (22, [.bool (.lit false)]), (21, [.int .i64 (.var 1), .int .u32 (.var 2), .var 3, .var 4, .bool (.var 5), .bool
 (.var 6), .bool (.var 7), .bool (.var 8), .bool (.var 9), .bool (.var 10), .bool (.var 11), .bool (.var 12), .int .u8 (.var 13), .int .u8 (.var 14), .int .u8
 (.var 15), .int .u8 (.var 16), .int .u8 (.var 17), .int .u8 (.var 18), .int .u8 (.var 19), .int .u8 (.var 20)])] (.leafM 0 [.bool (.lit false)] [] [(31,
 [.int .u8 (.var 28), .int .u8 (.var 29), .int .u8 (.var 30)]), (26, [.int .i64 (.var 27)]), (22, [.bool (.lit false)]), (21, [.int .i64 (.var 1), .int
 .u32 (.var 2), .var 3, .var 4, .bool (.var 5), .bool (.var 6), .bool (.var 7), .bool (.var 8), .bool (.var 9), .bool (.var 10), .bool (.var 11), .bool (.var 12), .int
 .u8 (.var 13), .int .u8 (.var 14), .int .u8 (.var 15), .int .u8 (.var 16), .int .u8 (.var 17), .int .u8 (.var 18), .int .u8 (.var 19), .int
 .u8 (.var 20)])])) (.ob (.le (.lit 0) (.var 27)) (.ob (.lt (.var 27) (.len 4)) (.ob (.not (.nil 4)) (.load (.elt 4 0 (.var 27) 3 0) [.int .u8, .int .u8,
 .int .u8] (.pur (.binOp .neq 23 (.tmp 48) (.tmp 53) 23) 4 [(.tmp 48, .agg [.int .u8 (.var 28), .int .u8 (.var 29), .int .u8 (.var 30)]),
 (.tmp 53, .agg [.int .u8 (.var 32), .int .u8 (.var 33), .int .u8 (.var 34)])] [.bool] (.bool (.var 35)) (.split (.var 35) (.resume [22] [31, 26, 22, 21] [(31,
 [.int .u8 (.var 28), .int .u8 (.var 29), .int .u8 (.var 30)]), (26, [.int .i64 (.var 27)]), (22, [.bool (.lit false)]), (21, [.int .i64 (.var 1), .int
 .u32 (.var 2), .var 3, .var 4, .bool (.var 5), .bool (.var 6), .bool (.var 7), .bool (.var 8), .bool (.var 9), .bool (.var 10), .bool (.var 11), .bool (.var 12), .int
 .u8 (.var 13), .int .u8 (.var 14), .int .u8 (.var 15), .int .u8 (.var 16), .int .u8 (.var 17), .int .u8 (.var 18), .int .u8 (.var 19), .int
 .u8 (.var 20)])] (.leafM 0 [.bool (.lit false)] [] [(31, [.int .u8 (.var 28), .int .u8 (.var 29), .int .u8 (.var 30)]), (26, [.int .i64 (.var 27)]), (22,
 [.bool (.lit false)]), (21, [.int .i64 (.var 1), .int .u32 (.var 2), .var 3, .var 4, .bool (.var 5), .bool (.var 6), .bool (.var 7), .bool (.var 8), .bool (.var 9),
 .bool (.var 10), .bool (.var 11), .bool (.var 12), .int .u8 (.var 13), .int .u8 (.var 14), .int .u8 (.var 15), .int .u8 (.var 16), .int .u8 (.var 17),
 .int .u8 (.var 18), .int .u8 (.var 19), .int .u8 (.var 20)])])) (.ob (.le (.lit (-9223372036854775808)) (.add (.var 27) (.lit 1))) (.ob (.le (.add (.var 27) (.lit
 1)) (.lit 9223372036854775807)) (.leaf 2 [.int .i64 (.add (.var 27) (.lit 1))] [26] [(31, [.int .u8 (.var 28), .int .u8 (.var 29), .int .u8 (.var 30)]), (26, [.int
 .i64 (.add (.var 27) (.lit 1))]), (22, [.bool (.lit false)]), (21, [.int .i64 (.var 1), .int .u32 (.var 2), .var 3, .var 4, .bool (.var 5), .bool (.var 6), .bool
 (.var 7), .bool (.var 8), .bool (.var 9), .bool (.var 10), .bool (.var 11), .bool (.var 12), .int .u8 (.var 13), .int .u8 (.var 14), .int .u8 (.var 15), .int
 .u8 (.var 16), .int .u8 (.var 17), .int .u8 (.var 18), .int .u8 (.var 19), .int .u8 (.var 20)])])))))))))))) (.leafM 0 [.bool (.eq (.var 27) (.len 4))] [22]
 [(26, [.int .i64 (.var 27)]), (22, [.bool (.eq (.var 27) (.len 4))]), (21, [.int .i64 (.var 1), .int .u32 (.var 2), .var 3, .var 4, .bool (.var 5), .bool (.var 6),
 .bool (.var 7), .bool (.var 8), .bool (.var 9), .bool (.var 10), .bool (.var 11), .bool (.var 12), .int .u8 (.var 13), .int .u8 (.var 14), .int .u8 (.var 15),
 .int .u8 (.var 16), .int .u8 (.var 17), .int .u8 (.var 18), .int .u8 (.var 19), .int .u8 (.var 20)])])))))))))) := by kernel_rfl

end Go.Proofs.Ytfjlnfgbfclgbaa
