/- What the functions of the chapter come to, printed by a program of the prover's and checked by the kernel. No conditions. -/
import Derived.Test.YtfjlnfgbfclgbaaSxZI
import Derived.Test.YtfjlnfgbfclgbaaProg
import Derived.KernelRfl
set_option maxRecDepth 100000
set_option linter.unusedVariables false
namespace Go.Proofs.Ytfjlnfgbfclgbaa
open Go.Sx

theorem t9 : exFn { P := Try.prog, loops := (fun r => if Nat.beq r 3 then some ⟨1, [(14, .int .i64)], []⟩ else none), ranged := true, ranges := fun t => if Nat.beq t 86 then some ⟨2, [23], []⟩ else none } 9 [.agg [.int
 .i64 (.var 0), .int .u16 (.var 1), .int .u8 (.var 2), .int .u8 (.var 3), .int .u8 (.var 4), .int .u32 (.var 5)]] [.int .i64, .int .u16, .int .u8, .int .u8, .int .u8, .int .u32] [] = .blk (.blk (.blk (.blk
 (.loop 1 [.int .i64 (.lit 0)] [.int .i64] [] [9, 8, 7, 6] [(9, [.cst (.pointer none), .ptr 8 0]), (8, [.int .i64 (.lit 0), .int .u32 (.lit 0), .cst (.slice
 none 0 0), .cst (.slice none 0 0), .cst (.map none)]), (7, [.bool (.lit false)]), (6, [.int .i64 (.var 0), .int .u16 (.var 1), .int .u8 (.var 2), .int .u8
 (.var 3), .int .u8 (.var 4), .int .u32 (.var 5)])] [(9, [.cst (.pointer none), .ptr 8 0]), (8, [.int .i64 (.lit 0), .int .u32 (.lit 0), .cst (.slice none 0
 0), .cst (.slice none 0 0), .cst (.map none)]), (7, [.bool (.lit false)]), (6, [.int .i64 (.var 0), .int .u16 (.var 1), .int .u8 (.var 2), .int .u8 (.var 3),
 .int .u8 (.var 4), .int .u32 (.var 5)])] (.split (.lt (.var 10) (.lit 2)) (.ob (.le (.lit 0) (.var 10)) (.ob (.lt (.var 10) (.lit 2)) (.start false [] [] [(9, [.cst
 (.pointer none), .ptr 8 0]), (8, [.int .i64 (.lit 0), .int .u32 (.lit 0), .cst (.slice none 0 0), .cst (.slice none 0 0), .cst (.map none)]), (7, [.bool (.lit
 false)]), (6, [.int .i64 (.var 0), .int .u16 (.var 1), .int .u8 (.var 2), .int .u8 (.var 3), .int .u8 (.var 4), .int .u32 (.var 5)])] (.load (.elt 9
 0 (.var 10) 1 0) [.ptr] (.call 21 [.var 11, .agg [.int .u8 (.var 2), .int .u8 (.var 3), .int .u8 (.var 4)]] [.bool, .int .i64] (.tuple [.bool (.var 12),
 .int .i64 (.var 13)]) [] false [] [] [9, 8, 7, 6] [(9, [.cst (.pointer none), .ptr 8 0]), (8, [.int .i64 (.lit 0), .int .u32 (.lit 0), .cst (.slice none 0 0), .cst
 (.slice none 0 0), .cst (.map none)]), (7, [.bool (.lit false)]), (6, [.int .i64 (.var 0), .int .u16 (.var 1), .int .u8 (.var 2), .int .u8 (.var 3), .int
 .u8 (.var 4), .int .u32 (.var 5)])] (.call 20 [.var 11, .int .u16 (.var 1)] [.int .u8, .int .u8, .bool, .bool] (.agg [.int .u8 (.var 14),
 .int .u8 (.var 15), .bool (.var 16), .bool (.var 17)]) [] false [] [] [9, 8, 7, 6] [(9, [.cst (.pointer none), .ptr 8 0]), (8, [.int .i64 (.lit 0), .int .u32 (.lit 0),
 .cst (.slice none 0 0), .cst (.slice none 0 0), .cst (.map none)]), (7, [.bool (.lit false)]), (6, [.int .i64 (.var 0), .int .u16 (.var 1), .int .u8 (.var 2),
 .int .u8 (.var 3), .int .u8 (.var 4), .int .u32 (.var 5)])] (.call 19 [.agg [.int .u8 (.var 14), .int .u8 (.var 15), .bool (.var 16), .bool (.var 17)],
 .int .i64 (.lit 6)] [.bool] (.bool (.var 18)) [] false [] [] [9, 8, 7, 6] [(9, [.cst (.pointer none), .ptr 8 0]), (8, [.int .i64 (.lit 0), .int .u32 (.lit 0), .cst
 (.slice none 0 0), .cst (.slice none 0 0), .cst (.map none)]), (7, [.bool (.lit false)]), (6, [.int .i64 (.var 0), .int .u16 (.var 1), .int .u8 (.var 2), .int
 .u8 (.var 3), .int .u8 (.var 4), .int .u32 (.var 5)])] (.split (.not (.var 18)) (.leafM 0 [.bool (.lit false)] [7] [(9, [.cst (.pointer none), .ptr 8 0]), (8, [.int
 .i64 (.lit 0), .int .u32 (.lit 0), .cst (.slice none 0 0), .cst (.slice none 0 0), .cst (.map none)]), (7, [.bool (.lit false)]), (6, [.int .i64 (.var 0), .int
 .u16 (.var 1), .int .u8 (.var 2), .int .u8 (.var 3), .int .u8 (.var 4), .int .u32 (.var 5)])]) (.split (.var 12) (.leafM 0 [.bool (.lit false)] [7] [(9,
 [.cst (.pointer none), .ptr 8 0]), (8, [.int .i64 (.lit 0), .int .u32 (.lit 0), .cst (.slice none 0 0), .cst (.slice none 0 0), .cst (.map none)]), (7, [.bool
 (.lit false)]), (6, [.int .i64 (.var 0), .int .u16 (.var 1), .int .u8 (.var 2), .int .u8 (.var 3), .int .u8 (.var 4), .int .u32 (.var 5)])]) (.split
 (.not (.eq (.var 13) (.lit 1))) (.leafM 0 [.bool (.lit false)] [7] [(9, [.cst (.pointer none), .ptr 8 0]), (8, [.int .i64 (.lit 0), .int .u32 (.lit 0), .cst (.slice
 none 0 0), .cst (.slice none 0 0), .cst (.map none)]), (7, [.bool (.lit false)]), (6, [.int .i64 (.var 0), .int .u16 (.var 1), .int .u8 (.var 2), .int .u8
 (.var 3), .int .u8 (.var 4), .int .u32 (.var 5)])]) (.call 22 [.var 11] [.slice] (.var 19) [] false [] [] [9, 8, 7, 6] [(9, [.cst (.pointer none), .ptr 8 0]), (8, [.int
 .i64 (.lit 0), .int .u32 (.lit 0), .cst (.slice none 0 0), .cst (.slice none 0 0), .cst (.map none)]), (7, [.bool (.lit false)]), (6, [.int .i64 (.var 0), .int
 .u16 (.var 1), .int .u8 (.var 2), .int .u8 (.var 3), .int .u8 (.var 4), .int .u32 (.var 5)])] (.split (.not (.eq (.len 19) (.lit 0))) (.leafM 0 [.bool
 (.lit false)] [7] [(9, [.cst (.pointer none), .ptr 8 0]), (8, [.int .i64 (.lit 0), .int .u32 (.lit 0), .cst (.slice none 0 0), .cst (.slice none 0 0), .cst (.map
 none)]), (7, [.bool (.lit false)]), (6, [.int .i64 (.var 0), .int .u16 (.var 1), .int .u8 (.var 2), .int .u8 (.var 3), .int .u8 (.var 4), .int .u32
 (.var 5)])]) (.call 23 [.var 11, .int .u8 (.var 4)] [.int .i64] (.int .i64 (.var 20)) [] false [] [] [9, 8, 7, 6] [(9, [.cst (.pointer none), .ptr 8 0]), (8, [.int
 .i64 (.lit 0), .int .u32 (.lit 0), .cst (.slice none 0 0), .cst (.slice none 0 0), .cst (.map none)]), (7, [.bool (.lit false)]), (6, [.int .i64 (.var 0), .int
 .u16 (.var 1), .int .u8 (.var 2), .int .u8 (.var 3), .int .u8 (.var 4), .int .u32 (.var 5)])] (.split (.not (.eq (.var 20) (.lit 1))) (.leafM 0 [.bool
 (.lit false)] [7] [(9, [.cst (.pointer none), .ptr 8 0]), (8, [.int .i64 (.lit 0), .int .u32 (.lit 0), .cst (.slice none 0 0), .cst (.slice none 0 0), .cst (.map
 none)]), (7, [.bool (.lit false)]), (6, [.int .i64 (.var 0), .int .u16 (.var 1), .int .u8 (.var 2), .int .u8 (.var 3), .int .u8 (.var 4), .int .u32
 (.var 5)])]) (.call 18 [.var 11, .int .u32 (.var 5)] [.int .i64] (.int .i64 (.var 21)) [] false [] [] [9, 8, 7, 6] [(9, [.cst (.pointer none), .ptr 8 0]), (8, [.int
 .i64 (.lit 0), .int .u32 (.lit 0), .cst (.slice none 0 0), .cst (.slice none 0 0), .cst (.map none)]), (7, [.bool (.lit false)]), (6, [.int .i64 (.var 0), .int
 .u16 (.var 1), .int .u8 (.var 2), .int .u8 (.var 3), .int .u8 (.var 4), .int .u32 (.var 5)])] (.split (.not (.eq (.var 21) (.lit 1))) (.leafM 0 [.bool
 (.lit false)] [7] [(9, [.cst (.pointer none), .ptr 8 0]), (8, [.int .i64 (.lit 0), .int .u32 (.lit 0), .cst (.slice none 0 0), .cst (.slice none 0 0), .cst (.map
 none)]), (7, [.bool (.lit false)]), (6, [.int .i64 (.var 0), .int .u16 (.var 1), .int .u8 (.var 2), .int .u8 (.var 3), .int .u8 (.var 4), .int .u32
 (.var 5)])]) (.call 30 [.var 11, .int .u16 (.var 1)] [.int .i64] (.int .i64 (.var 22)) [] false [] [] [9, 8, 7, 6] [(9, [.cst (.pointer none), .ptr 8 0]), (8, [.int
 .i64 (.lit 0), .int .u32 (.lit 0), .cst (.slice none 0 0), .cst (.slice none 0 0), .cst (.map none)]), (7, [.bool (.lit false)]), (6, [.int .i64 (.var 0), .int
 .u16 (.var 1), .int .u8 (.var 2), .int .u8 (.var 3), .int .u8 (.var 4), .int .u32 (.var 5)])] (.split (.not (.eq (.var 22) (.lit 1))) (.leafM 0 [.bool
 (.lit false)] [7] [(9, [.cst (.pointer none), .ptr 8 0]), (8, [.int .i64 (.lit 0), .int .u32 (.lit 0), .cst (.slice none 0 0), .cst (.slice none 0 0), .cst (.map
 none)]), (7, [.bool (.lit false)]), (6, [.int .i64 (.var 0), .int .u16 (.var 1), .int .u8 (.var 2), .int .u8 (.var 3), .int .u8 (.var 4), .int .u32
 (.var 5)])]) (.call 27 [.var 11] [.int .i64] (.int .i64 (.var 23)) [] false [] [] [9, 8, 7, 6] [(9, [.cst (.pointer none), .ptr 8 0]), (8, [.int .i64 (.lit 0), .int
 .u32 (.lit 0), .cst (.slice none 0 0), .cst (.slice none 0 0), .cst (.map none)]), (7, [.bool (.lit false)]), (6, [.int .i64 (.var 0), .int .u16 (.var 1), .int
 .u8 (.var 2), .int .u8 (.var 3), .int .u8 (.var 4), .int .u32 (.var 5)])] (.split (.not (.eq (.var 23) (.lit 1))) (.leafM 0 [.bool (.lit false)] [7] [(9, [.cst
 (.pointer none), .ptr 8 0]), (8, [.int .i64 (.lit 0), .int .u32 (.lit 0), .cst (.slice none 0 0), .cst (.slice none 0 0), .cst (.map none)]), (7, [.bool (.lit
 false)]), (6, [.int .i64 (.var 0), .int .u16 (.var 1), .int .u8 (.var 2), .int .u8 (.var 3), .int .u8 (.var 4), .int .u32 (.var 5)])]) (.call 25
 [.var 11] [.slice] (.var 24) [] false [] [] [9, 8, 7, 6] [(9, [.cst (.pointer none), .ptr 8 0]), (8, [.int .i64 (.lit 0), .int .u32 (.lit 0), .cst (.slice none 0 0), .cst
 (.slice none 0 0), .cst (.map none)]), (7, [.bool (.lit false)]), (6, [.int .i64 (.var 0), .int .u16 (.var 1), .int .u8 (.var 2), .int .u8 (.var 3), .int
 .u8 (.var 4), .int .u32 (.var 5)])] (.split (.not (.eq (.len 24) (.lit 0))) (.leafM 0 [.bool (.lit false)] [7] [(9, [.cst (.pointer none), .ptr 8 0]), (8, [.int .i64
 (.lit 0), .int .u32 (.lit 0), .cst (.slice none 0 0), .cst (.slice none 0 0), .cst (.map none)]), (7, [.bool (.lit false)]), (6, [.int .i64 (.var 0), .int .u16
 (.var 1), .int .u8 (.var 2), .int .u8 (.var 3), .int .u8 (.var 4), .int .u32 (.var 5)])]) (.call 28 [.var 11] [.ptr] (.var 25) [] false [] [] [9, 8, 7, 6] [(9,
 [.cst (.pointer none), .ptr 8 0]), (8, [.int .i64 (.lit 0), .int .u32 (.lit 0), .cst (.slice none 0 0), .cst (.slice none 0 0), .cst (.map none)]), (7, [.bool
 (.lit false)]), (6, [.int .i64 (.var 0), .int .u16 (.var 1), .int .u8 (.var 2), .int .u8 (.var 3), .int .u8 (.var 4), .int .u32 (.var 5)])] (.split
 (.not (.nil 25)) (.leafM 0 [.bool (.lit false)] [7] [(9, [.cst (.pointer none), .ptr 8 0]), (8, [.int .i64 (.lit 0), .int .u32 (.lit 0), .cst (.slice none 0 0), .cst
 (.slice none 0 0), .cst (.map none)]), (7, [.bool (.lit false)]), (6, [.int .i64 (.var 0), .int .u16 (.var 1), .int .u8 (.var 2), .int .u8 (.var 3), .int
 .u8 (.var 4), .int .u32 (.var 5)])]) (.call 24 [.var 11] [.func] (.var 26) [] false [] [] [9, 8, 7, 6] [(9, [.cst (.pointer none), .ptr 8 0]), (8, [.int .i64 (.lit 0),
 .int .u32 (.lit 0), .cst (.slice none 0 0), .cst (.slice none 0 0), .cst (.map none)]), (7, [.bool (.lit false)]), (6, [.int .i64 (.var 0), .int .u16 (.var 1),
 .int .u8 (.var 2), .int .u8 (.var 3), .int .u8 (.var 4), .int .u32 (.var 5)])] (.split (.nil 26) (.leafM 0 [.bool (.lit false)] [7] [(9, [.cst (.pointer
 none), .ptr 8 0]), (8, [.int .i64 (.lit 0), .int .u32 (.lit 0), .cst (.slice none 0 0), .cst (.slice none 0 0), .cst (.map none)]), (7, [.bool (.lit false)]), (6, [.int
 .i64 (.var 0), .int .u16 (.var 1), .int .u8 (.var 2), .int .u8 (.var 3), .int .u8 (.var 4), .int .u32 (.var 5)])]) (.range 2 (.var 26) [.int
 .u8, .int .u8, .int .u8] [23] [] [] [] [9, 8, 7, 6] [(9, [.cst (.pointer none), .ptr 8 0]), (8, [.int .i64 (.lit 0), .int .u32 (.lit 0), .cst (.slice
 none 0 0), .cst (.slice none 0 0), .cst (.map none)]), (7, [.bool (.lit false)]), (6, [.int .i64 (.var 0), .int .u16 (.var 1), .int .u8 (.var 2), .int .u8
 (.var 3), .int .u8 (.var 4), .int .u32 (.var 5)])] [(9, [.cst (.pointer none), .ptr 8 0]), (8, [.int .i64 (.lit 0), .int .u32 (.lit 0), .cst (.slice none 0
 0), .cst (.slice none 0 0), .cst (.map none)]), (7, [.bool (.lit false)]), (6, [.int .i64 (.var 0), .int .u16 (.var 1), .int .u8 (.var 2), .int .u8 (.var 3),
 .int .u8 (.var 4), .int .u32 (.var 5)])] (.resume [7] [9, 8, 7, 6] [(9, [.cst (.pointer none), .ptr 8 0]), (8, [.int .i64 (.lit 0), .int .u32 (.lit 0), .cst
 (.slice none 0 0), .cst (.slice none 0 0), .cst (.map none)]), (7, [.bool (.lit false)]), (6, [.int .i64 (.var 0), .int .u16 (.var 1), .int .u8 (.var 2), .int
 .u8 (.var 3), .int .u8 (.var 4), .int .u32 (.var 5)])] (.leafM 0 [.bool (.lit false)] [] [(9, [.cst (.pointer none), .ptr 8 0]), (8, [.int .i64 (.lit 0), .int
 .u32 (.lit 0), .cst (.slice none 0 0), .cst (.slice none 0 0), .cst (.map none)]), (7, [.bool (.lit false)]), (6, [.int .i64 (.var 0), .int .u16 (.var 1), .int
 .u8 (.var 2), .int .u8 (.var 3), .int .u8 (.var 4), .int .u32 (.var 5)])])) (.ob (.le (.lit (-9223372036854775808)) (.add (.var 10) (.lit 1))) (.ob (.le (.add
 (.var 10) (.lit 1)) (.lit 9223372036854775807)) (.leaf 1 [.int .i64 (.add (.var 10) (.lit 1))] [] [(9, [.cst (.pointer none), .ptr 8 0]), (8, [.int .i64 (.lit 0), .int
 .u32 (.lit 0), .cst (.slice none 0 0), .cst (.slice none 0 0), .cst (.map none)]), (7, [.bool (.lit false)]), (6, [.int .i64 (.var 0), .int .u16 (.var 1), .int
 .u8 (.var 2), .int .u8 (.var 3), .int .u8 (.var 4), .int .u32 (.var 5)])])))))))))))))))))))))))))))))) (.call 16 [] [.bool] (.bool (.var 11)) [] false [] [] [9, 8, 7,
 6] [(9, [.cst (.pointer none), .ptr 8 0]), (8, [.int .i64 (.lit 0), .int .u32 (.lit 0), .cst (.slice none 0 0), .cst (.slice none 0 0), .cst (.map none)]), (7,
 [.bool (.lit false)]), (6, [.int .i64 (.var 0), .int .u16 (.var 1), .int .u8 (.var 2), .int .u8 (.var 3), .int .u8 (.var 4), .int .u32 (.var 5)])]
 (.leafM 0 [.bool (.var 11)] [7] [(9, [.cst (.pointer none), .ptr 8 0]), (8, [.int .i64 (.lit 0), .int .u32 (.lit 0), .cst (.slice none 0 0), .cst (.slice none 0 0),
 .cst (.map none)]), (7, [.bool (.var 11)]), (6, [.int .i64 (.var 0), .int .u16 (.var 1), .int .u8 (.var 2), .int .u8 (.var 3), .int .u8 (.var 4), .int
 .u32 (.var 5)])]))))))) := by kernel_rfl

theorem t21n : exFn { P := Try.prog, ranged := true, ranges := fun t => if Nat.beq t 15 then some ⟨2, [23], []⟩ else none } 21 [.var 0, .agg [.int .u8 (.var 1), .int .u8 (.var 2), .int .u8 (.var 3)]] [.ptr, .int .u8,
 .int .u8, .int .u8] [] = .blk (.blk (.blk (.call 39 [.var 0] [.bool] (.bool (.var 7)) [] false [] [] [6, 5, 4] [(6, [.int .i64 (.lit 0)]), (5, [.bool (.lit false)]), (4, [.int
 .u8 (.var 1), .int .u8 (.var 2), .int .u8 (.var 3)])] (.split (.var 7) (.leafM 0 [.tuple [.bool (.lit false), .int .i64 (.lit 1)]] [6, 5] [(6, [.int .i64
 (.lit 1)]), (5, [.bool (.lit false)]), (4, [.int .u8 (.var 1), .int .u8 (.var 2), .int .u8 (.var 3)])]) (.call 12 [.agg [.int .u8 (.var 1), .int .u8 (.var
 2), .int .u8 (.var 3)]] [.bool] (.bool (.var 8)) [] false [] [] [6, 5, 4] [(6, [.int .i64 (.lit 0)]), (5, [.bool (.lit false)]), (4, [.int .u8 (.var 1), .int .u8
 (.var 2), .int .u8 (.var 3)])] (.split (.not (.var 8)) (.leafM 0 [.tuple [.bool (.lit false), .int .i64 (.lit 2)]] [6, 5] [(6, [.int .i64 (.lit 2)]), (5, [.bool (.lit
 false)]), (4, [.int .u8 (.var 1), .int .u8 (.var 2), .int .u8 (.var 3)])]) (.call 24 [.var 0] [.func] (.var 9) [] false [] [] [6, 5, 4] [(6, [.int .i64 (.lit 0)]),
 (5, [.bool (.lit false)]), (4, [.int .u8 (.var 1), .int .u8 (.var 2), .int .u8 (.var 3)])] (.range 2 (.var 9) [.int .u8, .int .u8, .int .u8] [23]
 [] [] [] [6, 5, 4] [(6, [.int .i64 (.lit 0)]), (5, [.bool (.lit false)]), (4, [.int .u8 (.var 1), .int .u8 (.var 2), .int .u8 (.var 3)])] [(6, [.int .i64 (.lit
 0)]), (5, [.bool (.lit false)]), (4, [.int .u8 (.var 1), .int .u8 (.var 2), .int .u8 (.var 3)])] (.blk (.split (.eq (.var 10) (.var 1)) (.split (.eq (.var 11) (.var
 2)) (.resume [6, 5] [13, 6, 5, 4] [(13, [.int .u8 (.var 10), .int .u8 (.var 11), .int .u8 (.var 12)]), (6, [.int .i64 (.lit 0)]), (5, [.bool (.lit false)]), (4, [.int
 .u8 (.var 1), .int .u8 (.var 2), .int .u8 (.var 3)])] (.leafM 0 [.tuple [.bool (.lit false), .int .i64 (.lit 0)]] [] [(13, [.int .u8 (.var 10), .int
 .u8 (.var 11), .int .u8 (.var 12)]), (6, [.int .i64 (.lit 0)]), (5, [.bool (.lit false)]), (4, [.int .u8 (.var 1), .int .u8 (.var 2), .int .u8 (.var
 3)])])) (.leaf 2 [] [] [(13, [.int .u8 (.var 10), .int .u8 (.var 11), .int .u8 (.var 12)]), (6, [.int .i64 (.lit 0)]), (5, [.bool (.lit false)]), (4, [.int .u8
 (.var 1), .int .u8 (.var 2), .int .u8 (.var 3)])])) (.leaf 2 [] [] [(13, [.int .u8 (.var 10), .int .u8 (.var 11), .int .u8 (.var 12)]), (6, [.int .i64
 (.lit 0)]), (5, [.bool (.lit false)]), (4, [.int .u8 (.var 1), .int .u8 (.var 2), .int .u8 (.var 3)])]))) (.start true [] [6, 5, 4] [(6, [.int .i64 (.lit 0)]), (5,
 [.bool (.lit false)]), (4, [.int .u8 (.var 1), .int .u8 (.var 2), .int .u8 (.var 3)])] (.ob (.not (.nil 0)) (.load (.ptr 0 1) [.int .u32] (.call 14 [.agg
 [.int .u8 (.var 1), .int .u8 (.var 2), .int .u8 (.var 3)], .int .u32 (.var 10)] [.bool] (.bool (.var 11)) [] true [] [] [6, 5, 4] [(6, [.int .i64 (.lit
 0)]), (5, [.bool (.lit false)]), (4, [.int .u8 (.var 1), .int .u8 (.var 2), .int .u8 (.var 3)])] (.split (.not (.var 11)) (.leafM 0 [.tuple [.bool (.lit false), .int
 .i64 (.lit 0)]] [6, 5] [(6, [.int .i64 (.lit 0)]), (5, [.bool (.lit false)]), (4, [.int .u8 (.var 1), .int .u8 (.var 2), .int .u8 (.var 3)])]) (.start true []
 [6, 5, 4] [(6, [.int .i64 (.lit 0)]), (5, [.bool (.lit false)]), (4, [.int .u8 (.var 1), .int .u8 (.var 2), .int .u8 (.var 3)])] (.load (.ptr 0 3) [.slice]
 (.both (.call 36 [.var 12] [.slice] (.var 13) [] true [] [] [6, 5, 4] [(6, [.int .i64 (.lit 0)]), (5, [.bool (.lit false)]), (4, [.int .u8 (.var 1), .int .u8 (.var 2),
 .int .u8 (.var 3)])] (.blk (.gen (.call { callee := .builtin .append, args := #[.tmp 41, .tmp 43], argTypes := #[57, 57] }) 57 [(.tmp 41, .var 13), (.tmp 43,
 .slc 14 0 1 1)] [.slice] (.var 15) [] true [] [] [14, 6, 5, 4] [(14, [.int .u8 (.var 1), .int .u8 (.var 2), .int .u8 (.var 3)]), (6, [.int .i64 (.lit 0)]), (5,
 [.bool (.lit false)]), (4, [.int .u8 (.var 1), .int .u8 (.var 2), .int .u8 (.var 3)])] (.gen (.store 57 (.tmp 46) (.tmp 44)) 0 [(.tmp 46, .ptr 0 3),
 (.tmp 44, .var 15)] [] (.cst (.tuple #[])) [] true [] [] [14, 6, 5, 4] [(14, [.int .u8 (.var 1), .int .u8 (.var 2), .int .u8 (.var 3)]), (6, [.int .i64 (.lit
 0)]), (5, [.bool (.lit false)]), (4, [.int .u8 (.var 1), .int .u8 (.var 2), .int .u8 (.var 3)])] (.leafM 0 [.tuple [.bool (.lit true), .int .i64 (.lit 0)]] [6, 5]
 [(14, [.int .u8 (.var 1), .int .u8 (.var 2), .int .u8 (.var 3)]), (6, [.int .i64 (.lit 0)]), (5, [.bool (.lit true)]), (4, [.int .u8 (.var 1), .int .u8
 (.var 2), .int .u8 (.var 3)])]))))) (.blk (.call 36 [.var 12] [.slice] (.var 14) [] true [] [] [13, 6, 5, 4] [(13, [.int .u8 (.var 1), .int .u8 (.var 2), .int .u8
 (.var 3)]), (6, [.int .i64 (.lit 0)]), (5, [.bool (.lit false)]), (4, [.int .u8 (.var 1), .int .u8 (.var 2), .int .u8 (.var 3)])] (.gen (.call { callee := .builtin .append, args := #[.tmp 41, .tmp 43], argTypes := #[57, 57] })
 57 [(.tmp 41, .var 14), (.tmp 43, .slc 13 0 1 1)] [.slice] (.var 15) [] true [] [] [13, 6, 5, 4] [(13, [.int .u8 (.var 1), .int .u8 (.var 2), .int .u8 (.var 3)]),
 (6, [.int .i64 (.lit 0)]), (5, [.bool (.lit false)]), (4, [.int .u8 (.var 1), .int .u8 (.var 2), .int .u8 (.var 3)])] (.gen (.store 57 (.tmp 46) (.tmp
 44)) 0 [(.tmp 46, .ptr 0 3), (.tmp 44, .var 15)] [] (.cst (.tuple #[])) [] true [] [] [13, 6, 5, 4] [(13, [.int .u8 (.var 1), .int .u8 (.var 2), .int .u8 (.var
 3)]), (6, [.int .i64 (.lit 0)]), (5, [.bool (.lit false)]), (4, [.int .u8 (.var 1), .int .u8 (.var 2), .int .u8 (.var 3)])] (.leafM 0 [.tuple [.bool (.lit true),
 .int .i64 (.lit 0)]] [6, 5] [(13, [.int .u8 (.var 1), .int .u8 (.var 2), .int .u8 (.var 3)]), (6, [.int .i64 (.lit 0)]), (5, [.bool (.lit true)]), (4, [.int
 .u8 (.var 1), .int .u8 (.var 2), .int .u8 (.var 3)])]))))))))))))))))))))) := by kernel_rfl

theorem t22n : exFn { P := Try.prog, loops := fun r => if Nat.beq r 1 then some ⟨1, [(2, .slice)], []⟩ else none } 22 [.var 0] [.ptr] [] = .blk (.loop 1 [.cst (.slice none 0 0)] [.slice] [] [1] [(1,
 [.var 0])] [(1, [.var 0])] (.call 39 [.var 0] [.bool] (.bool (.var 3)) [] false [] [] [1] [(1, [.var 0])] (.split (.not (.var 3)) (.ob (.not (.nil 0)) (.start false [] [] [(1, [.var
 0])] (.load (.ptr 0 2) [.slice] (.split (.lt (.lit 0) (.len 4)) (.start false [] [] [(1, [.var 0])] (.load (.ptr 0 3) [.slice] (.call 43 [.var 5, .fn 44 [.ptr 1 0]] [.slice,
 .int .u8, .int .u8, .int .u8, .bool] (.tuple [.var 6, .agg [.int .u8 (.var 7), .int .u8 (.var 8), .int .u8 (.var 9)], .bool (.var 10)]) []
 false [] [] [1] [(1, [.var 0])] (.blk (.split (.not (.var 10)) (.leaf 0 [.var 2] [11] [(11, [.int .u8 (.var 7), .int .u8 (.var 8), .int .u8 (.var 9)]), (1, [.var 0])])
 (.start true [11] [11, 1] [(11, [.int .u8 (.var 7), .int .u8 (.var 8), .int .u8 (.var 9)]), (1, [.var 0])] (.load (.ptr 0 2) [.slice] (.ob (.lt (.lit 0) (.len 12))
 (.ob (.not (.nil 12)) (.load (.elt 12 0 (.lit 0) 1 0) [.int .u16] (.call 10 [.agg [.int .u8 (.var 7), .int .u8 (.var 8), .int .u8 (.var 9)]] [.int
 .u32] (.int .u32 (.var 14)) [] true [] [] [11, 1] [(11, [.int .u8 (.var 7), .int .u8 (.var 8), .int .u8 (.var 9)]), (1, [.var 0])] (.blk (.gen (.call { callee := .builtin .append, args := #[.tmp 29, .tmp 39], argTypes := #[46, 46] })
 46 [(.tmp 29, .var 2), (.tmp 39, .slc 15 0 1 1)] [.slice] (.var 16) [] true [] [] [15, 11, 1] [(15, [.int .u16 (.var 13), .int .u32 (.var 14)]), (11, [.int .u8
 (.var 7), .int .u8 (.var 8), .int .u8 (.var 9)]), (1, [.var 0])] (.start true [] [15, 11, 1] [(15, [.int .u16 (.var 13), .int .u32 (.var 14)]), (11, [.int .u8
 (.var 7), .int .u8 (.var 8), .int .u8 (.var 9)]), (1, [.var 0])] (.load (.ptr 0 2) [.slice] (.pur (.slice 35 (.tmp 46) (some (.const (.int .i64 1))) none
 none) 35 [(.tmp 46, .var 17), (.const (.int .i64 1), .int .i64 (.lit 1))] [.slice] (.var 18) (.gen (.store 35 (.tmp 50) (.tmp 47)) 0 [(.tmp 50,
 .ptr 0 2), (.tmp 47, .var 18)] [] (.cst (.tuple #[])) [] true [] [] [15, 11, 1] [(15, [.int .u16 (.var 13), .int .u32 (.var 14)]), (11, [.int .u8 (.var 7), .int
 .u8 (.var 8), .int .u8 (.var 9)]), (1, [.var 0])] (.gen (.store 57 (.tmp 52) (.tmp 48)) 0 [(.tmp 52, .ptr 0 3), (.tmp 48, .var 6)] [] (.cst (.tuple #[]))
 [] true [] [] [15, 11, 1] [(15, [.int .u16 (.var 13), .int .u32 (.var 14)]), (11, [.int .u8 (.var 7), .int .u8 (.var 8), .int .u8 (.var 9)]), (1, [.var 0])]
 (.start true [] [15, 11, 1] [(15, [.int .u16 (.var 13), .int .u32 (.var 14)]), (11, [.int .u8 (.var 7), .int .u8 (.var 8), .int .u8 (.var 9)]), (1, [.var 0])]
 (.load (.ptr 0 4) [.map] (.gen (.mapUpdate 69 (.tmp 56) (.tmp 58) (.tmp 60)) 0 [(.tmp 56, .var 19), (.tmp 58, .int .u8 (.var 7)), (.tmp 60, .int
 .u8 (.var 9))] [] (.cst (.tuple #[])) [] true [] [] [15, 11, 1] [(15, [.int .u16 (.var 13), .int .u32 (.var 14)]), (11, [.int .u8 (.var 7), .int .u8 (.var 8),
 .int .u8 (.var 9)]), (1, [.var 0])] (.leaf 1 [.var 16] [] [(15, [.int .u16 (.var 13), .int .u32 (.var 14)]), (11, [.int .u8 (.var 7), .int .u8 (.var 8),
 .int .u8 (.var 9)]), (1, [.var 0])])))))))))))))))))))))) (.leaf 0 [.var 2] [] [(1, [.var 0])]))))) (.leaf 0 [.var 2] [] [(1, [.var 0])])))) := by kernel_rfl

end Go.Proofs.Ytfjlnfgbfclgbaa
