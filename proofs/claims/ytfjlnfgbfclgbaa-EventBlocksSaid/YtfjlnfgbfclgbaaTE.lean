/- What the functions of the chapter come to, printed by a program of the prover's and checked by the kernel. No conditions. -/
import Derived.Test.YtfjlnfgbfclgbaaSxZI
import Derived.Test.YtfjlnfgbfclgbaaProg
import Derived.KernelRfl
set_option maxRecDepth 100000
set_option linter.unusedVariables false
namespace Go.Proofs.Ytfjlnfgbfclgbaa
open Go.Sx

theorem t21 : exFn { P := Try.prog, ranged := true, ranges := fun t => if Nat.beq t 15 then some ⟨2, [23], []⟩ else none } 21 [.ptr 0 0, .agg [.int .u8 (.var 6), .int .u8 (.var 7), .int .u8 (.var 8)]] [.ptr, .int .i64,
 .int .u32, .slice, .slice, .map, .int .u8, .int .u8, .int .u8] [(0, [.int .i64 (.var 1), .int .u32 (.var 2), .var 3, .var 4, .var 5])] = .blk (.blk (.blk (.call 39 [.ptr 0 0] [.bool] (.bool (.var 12))
 [] false [] [] [11, 10, 9, 0] [(11, [.int .i64 (.lit 0)]), (10, [.bool (.lit false)]), (9, [.int .u8 (.var 6), .int .u8 (.var 7), .int .u8 (.var 8)]), (0, [.int
 .i64 (.var 1), .int .u32 (.var 2), .var 3, .var 4, .var 5])] (.split (.var 12) (.leafM 0 [.tuple [.bool (.lit false), .int .i64 (.lit 1)]] [11, 10] [(11, [.int
 .i64 (.lit 1)]), (10, [.bool (.lit false)]), (9, [.int .u8 (.var 6), .int .u8 (.var 7), .int .u8 (.var 8)]), (0, [.int .i64 (.var 1), .int .u32 (.var
 2), .var 3, .var 4, .var 5])]) (.call 12 [.agg [.int .u8 (.var 6), .int .u8 (.var 7), .int .u8 (.var 8)]] [.bool] (.bool (.var 13)) [] false [] [] [11, 10, 9, 0] [(11,
 [.int .i64 (.lit 0)]), (10, [.bool (.lit false)]), (9, [.int .u8 (.var 6), .int .u8 (.var 7), .int .u8 (.var 8)]), (0, [.int .i64 (.var 1), .int .u32
 (.var 2), .var 3, .var 4, .var 5])] (.split (.not (.var 13)) (.leafM 0 [.tuple [.bool (.lit false), .int .i64 (.lit 2)]] [11, 10] [(11, [.int .i64 (.lit 2)]), (10, [.bool
 (.lit false)]), (9, [.int .u8 (.var 6), .int .u8 (.var 7), .int .u8 (.var 8)]), (0, [.int .i64 (.var 1), .int .u32 (.var 2), .var 3, .var 4, .var 5])])
 (.call 24 [.ptr 0 0] [.func] (.var 14) [] false [] [] [11, 10, 9, 0] [(11, [.int .i64 (.lit 0)]), (10, [.bool (.lit false)]), (9, [.int .u8 (.var 6), .int .u8 (.var 7),
 .int .u8 (.var 8)]), (0, [.int .i64 (.var 1), .int .u32 (.var 2), .var 3, .var 4, .var 5])] (.range 2 (.var 14) [.int .u8, .int .u8, .int .u8]
 [23] [] [] [] [11, 10, 9, 0] [(11, [.int .i64 (.lit 0)]), (10, [.bool (.lit false)]), (9, [.int .u8 (.var 6), .int .u8 (.var 7), .int .u8 (.var 8)]), (0, [.int
 .i64 (.var 1), .int .u32 (.var 2), .var 3, .var 4, .var 5])] [(11, [.int .i64 (.lit 0)]), (10, [.bool (.lit false)]), (9, [.int .u8 (.var 6), .int .u8 (.var
 7), .int .u8 (.var 8)]), (0, [.int .i64 (.var 1), .int .u32 (.var 2), .var 3, .var 4, .var 5])] (.blk (.split (.eq (.var 15) (.var 6)) (.split (.eq (.var 16)
 (.var 7)) (.resume [11, 10] [18, 11, 10, 9, 0] [(18, [.int .u8 (.var 15), .int .u8 (.var 16), .int .u8 (.var 17)]), (11, [.int .i64 (.lit 0)]), (10, [.bool (.lit
 false)]), (9, [.int .u8 (.var 6), .int .u8 (.var 7), .int .u8 (.var 8)]), (0, [.int .i64 (.var 1), .int .u32 (.var 2), .var 3, .var 4, .var 5])] (.leafM 0
 [.tuple [.bool (.lit false), .int .i64 (.lit 0)]] [] [(18, [.int .u8 (.var 15), .int .u8 (.var 16), .int .u8 (.var 17)]), (11, [.int .i64 (.lit 0)]), (10,
 [.bool (.lit false)]), (9, [.int .u8 (.var 6), .int .u8 (.var 7), .int .u8 (.var 8)]), (0, [.int .i64 (.var 1), .int .u32 (.var 2), .var 3, .var 4, .var
 5])])) (.leaf 2 [] [] [(18, [.int .u8 (.var 15), .int .u8 (.var 16), .int .u8 (.var 17)]), (11, [.int .i64 (.lit 0)]), (10, [.bool (.lit false)]), (9, [.int .u8
 (.var 6), .int .u8 (.var 7), .int .u8 (.var 8)]), (0, [.int .i64 (.var 1), .int .u32 (.var 2), .var 3, .var 4, .var 5])])) (.leaf 2 [] [] [(18, [.int .u8
 (.var 15), .int .u8 (.var 16), .int .u8 (.var 17)]), (11, [.int .i64 (.lit 0)]), (10, [.bool (.lit false)]), (9, [.int .u8 (.var 6), .int .u8 (.var 7), .int
 .u8 (.var 8)]), (0, [.int .i64 (.var 1), .int .u32 (.var 2), .var 3, .var 4, .var 5])]))) (.start true [] [11, 10, 9, 0] [(11, [.int .i64 (.lit 0)]), (10, [.bool
 (.lit false)]), (9, [.int .u8 (.var 6), .int .u8 (.var 7), .int .u8 (.var 8)]), (0, [.int .i64 (.var 1), .int .u32 (.var 2), .var 3, .var 4, .var 5])]
 (.call 14 [.agg [.int .u8 (.var 6), .int .u8 (.var 7), .int .u8 (.var 8)], .int .u32 (.var 2)] [.bool] (.bool (.var 15)) [] true [] [] [11, 10, 9, 0] [(11, [.int
 .i64 (.lit 0)]), (10, [.bool (.lit false)]), (9, [.int .u8 (.var 6), .int .u8 (.var 7), .int .u8 (.var 8)]), (0, [.int .i64 (.var 1), .int .u32 (.var
 2), .var 3, .var 4, .var 5])] (.split (.not (.var 15)) (.leafM 0 [.tuple [.bool (.lit false), .int .i64 (.lit 0)]] [11, 10] [(11, [.int .i64 (.lit 0)]), (10, [.bool (.lit
 false)]), (9, [.int .u8 (.var 6), .int .u8 (.var 7), .int .u8 (.var 8)]), (0, [.int .i64 (.var 1), .int .u32 (.var 2), .var 3, .var 4, .var 5])]) (.start
 true [] [11, 10, 9, 0] [(11, [.int .i64 (.lit 0)]), (10, [.bool (.lit false)]), (9, [.int .u8 (.var 6), .int .u8 (.var 7), .int .u8 (.var 8)]), (0, [.int .i64
 (.var 1), .int .u32 (.var 2), .var 3, .var 4, .var 5])] (.both (.both (.call 36 [.var 4] [.slice] (.var 16) [] true [] [] [11, 10, 9, 0] [(11, [.int .i64 (.lit 0)]), (10,
 [.bool (.lit false)]), (9, [.int .u8 (.var 6), .int .u8 (.var 7), .int .u8 (.var 8)]), (0, [.int .i64 (.var 1), .int .u32 (.var 2), .var 3, .var 4, .var
 5])] (.blk (.gen (.call { callee := .builtin .append, args := #[.tmp 41, .tmp 43], argTypes := #[57, 57] }) 57 [(.tmp 41, .var 16), (.tmp 43, .slc 17 0 1 1)]
 [.slice] (.var 18) [] true [] [] [17, 11, 10, 9, 0] [(17, [.int .u8 (.var 6), .int .u8 (.var 7), .int .u8 (.var 8)]), (11, [.int .i64 (.lit 0)]), (10, [.bool (.lit
 false)]), (9, [.int .u8 (.var 6), .int .u8 (.var 7), .int .u8 (.var 8)]), (0, [.int .i64 (.var 1), .int .u32 (.var 2), .var 3, .var 4, .var 5])] (.leafM 0
 [.tuple [.bool (.lit true), .int .i64 (.lit 0)]] [11, 10, 0] [(17, [.int .u8 (.var 6), .int .u8 (.var 7), .int .u8 (.var 8)]), (11, [.int .i64 (.lit 0)]),
 (10, [.bool (.lit true)]), (9, [.int .u8 (.var 6), .int .u8 (.var 7), .int .u8 (.var 8)]), (0, [.int .i64 (.var 1), .int .u32 (.var 2), .var 3, .var 18,
 .var 5])])))) (.blk (.call 36 [.var 4] [.slice] (.var 17) [] true [] [] [16, 11, 10, 9, 0] [(16, [.int .u8 (.var 6), .int .u8 (.var 7), .int .u8 (.var 8)]), (11, [.int
 .i64 (.lit 0)]), (10, [.bool (.lit false)]), (9, [.int .u8 (.var 6), .int .u8 (.var 7), .int .u8 (.var 8)]), (0, [.int .i64 (.var 1), .int .u32 (.var
 2), .var 3, .var 4, .var 5])] (.gen (.call { callee := .builtin .append, args := #[.tmp 41, .tmp 43], argTypes := #[57, 57] }) 57 [(.tmp 41, .var 17), (.tmp 43,
 .slc 16 0 1 1)] [.slice] (.var 18) [] true [] [] [16, 11, 10, 9, 0] [(16, [.int .u8 (.var 6), .int .u8 (.var 7), .int .u8 (.var 8)]), (11, [.int .i64 (.lit 0)]), (10,
 [.bool (.lit false)]), (9, [.int .u8 (.var 6), .int .u8 (.var 7), .int .u8 (.var 8)]), (0, [.int .i64 (.var 1), .int .u32 (.var 2), .var 3, .var 4, .var
 5])] (.leafM 0 [.tuple [.bool (.lit true), .int .i64 (.lit 0)]] [11, 10, 0] [(16, [.int .u8 (.var 6), .int .u8 (.var 7), .int .u8 (.var 8)]), (11, [.int .i64
 (.lit 0)]), (10, [.bool (.lit true)]), (9, [.int .u8 (.var 6), .int .u8 (.var 7), .int .u8 (.var 8)]), (0, [.int .i64 (.var 1), .int .u32 (.var 2), .var 3,
 .var 18, .var 5])]))))) (.blk (.call 36 [.var 4] [.slice] (.var 17) [] true [] [] [16, 11, 10, 9, 0] [(16, [.int .u8 (.var 6), .int .u8 (.var 7), .int .u8 (.var 8)]),
 (11, [.int .i64 (.lit 0)]), (10, [.bool (.lit false)]), (9, [.int .u8 (.var 6), .int .u8 (.var 7), .int .u8 (.var 8)]), (0, [.int .i64 (.var 1), .int
 .u32 (.var 2), .var 3, .var 4, .var 5])] (.gen (.call { callee := .builtin .append, args := #[.tmp 41, .tmp 43], argTypes := #[57, 57] }) 57 [(.tmp 41, .var 17),
 (.tmp 43, .slc 16 0 1 1)] [.slice] (.var 18) [] true [] [] [16, 11, 10, 9, 0] [(16, [.int .u8 (.var 6), .int .u8 (.var 7), .int .u8 (.var 8)]), (11, [.int .i64
 (.lit 0)]), (10, [.bool (.lit false)]), (9, [.int .u8 (.var 6), .int .u8 (.var 7), .int .u8 (.var 8)]), (0, [.int .i64 (.var 1), .int .u32 (.var 2), .var 3,
 .var 4, .var 5])] (.leafM 0 [.tuple [.bool (.lit true), .int .i64 (.lit 0)]] [11, 10, 0] [(16, [.int .u8 (.var 6), .int .u8 (.var 7), .int .u8 (.var 8)]), (11,
 [.int .i64 (.lit 0)]), (10, [.bool (.lit true)]), (9, [.int .u8 (.var 6), .int .u8 (.var 7), .int .u8 (.var 8)]), (0, [.int .i64 (.var 1), .int .u32
 (.var 2), .var 3, .var 18, .var 5])]))))))))))))))))) := by kernel_rfl

end Go.Proofs.Ytfjlnfgbfclgbaa
