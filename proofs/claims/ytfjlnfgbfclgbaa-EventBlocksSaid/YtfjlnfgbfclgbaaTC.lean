/- What the functions of the chapter come to, printed by a program of the prover's and checked by the kernel. No conditions. -/
import Derived.Test.YtfjlnfgbfclgbaaSxZI
import Derived.Test.YtfjlnfgbfclgbaaProg
import Derived.KernelRfl
set_option maxRecDepth 100000
set_option linter.unusedVariables false
namespace Go.Proofs.Ytfjlnfgbfclgbaa
open Go.Sx

theorem t48 : exFn { P := Try.prog, loops := fun r => if Nat.beq r 1 then some ⟨1, [(7, .int .i64)], []⟩ else none } 48 [.var 0, .ptr 1 0] [.func, .ptr] [] = .start false [] [] [] (.load (.ptr 1 0) [.slice]
 (.loop 1 [.int .i64 (.lit 0)] [.int .i64] [] [] [] [] (.split (.lt (.var 3) (.len 2)) (.ob (.le (.lit 0) (.var 3)) (.ob (.lt (.var 3) (.len 2)) (.ob (.not (.nil 2))
 (.start false [] [] [] (.load (.elt 2 0 (.var 3) 3 0) [.int .u8, .int .u8, .int .u8] (.blk (.gen (.call { callee := .value (.tmp 11), args := #[.tmp 12], argTypes := #[23] })
 4 [(.tmp 11, .var 0), (.tmp 12, .agg [.int .u8 (.var 4), .int .u8 (.var 5), .int .u8 (.var 6)])] [.bool] (.bool (.var 8)) [] false [7] [] [7] [(7, [.int
 .u8 (.var 4), .int .u8 (.var 5), .int .u8 (.var 6)])] (.split (.not (.var 8)) (.leaf 0 [.tuple []] [] [(7, [.int .u8 (.var 4), .int .u8 (.var 5), .int
 .u8 (.var 6)])]) (.ob (.le (.lit (-9223372036854775808)) (.add (.var 3) (.lit 1))) (.ob (.le (.add (.var 3) (.lit 1)) (.lit 9223372036854775807)) (.leaf 1 [.int .i64 (.add
 (.var 3) (.lit 1))] [] [(7, [.int .u8 (.var 4), .int .u8 (.var 5), .int .u8 (.var 6)])]))))))))))) (.leaf 0 [.tuple []] [] [])))) := by kernel_rfl

theorem t49 : exFn { P := Try.prog, loops := fun r => if Nat.beq r 2 then some ⟨1, [(6, .int .i64)], []⟩ else none } 49 [.agg [.int .i64 (.var 0), .int .u32 (.var 1), .var 2, .var 3, .bool (.var 4), .bool (.var 5), .bool
 (.var 6), .bool (.var 7), .bool (.var 8), .bool (.var 9), .bool (.var 10), .bool (.var 11), .int .u8 (.var 12), .int .u8 (.var 13), .int .u8 (.var 14), .int .u8 (.var 15), .int .u8 (.var 16), .int .u8 (.var 17), .int
 .u8 (.var 18), .int .u8 (.var 19)], .int .u16 (.var 20)] [.int .i64, .int .u32, .slice, .slice, .bool, .bool, .bool, .bool, .bool, .bool, .bool, .bool, .int .u8, .int .u8, .int .u8, .int .u8, .int .u8, .int .u8, .int
 .u8, .int .u8, .int .u16] [] = .blk (.blk (.loop 1 [.int .i64 (.lit 0)] [.int .i64] [] [22, 21] [(22, [.int .i64 (.lit 0), .int .u32 (.lit 0), .cst (.slice none 0
 0), .cst (.slice none 0 0), .bool (.lit false), .bool (.lit false), .bool (.lit false), .bool (.lit false), .bool (.lit false), .bool (.lit false), .bool (.lit false), .bool (.lit
 false), .int .u8 (.lit 0), .int .u8 (.lit 0), .int .u8 (.lit 0), .int .u8 (.lit 0), .int .u8 (.lit 0), .int .u8 (.lit 0), .int .u8 (.lit 0),
 .int .u8 (.lit 0)]), (21, [.int .i64 (.var 0), .int .u32 (.var 1), .var 2, .var 3, .bool (.var 4), .bool (.var 5), .bool (.var 6), .bool (.var 7), .bool (.var 8),
 .bool (.var 9), .bool (.var 10), .bool (.var 11), .int .u8 (.var 12), .int .u8 (.var 13), .int .u8 (.var 14), .int .u8 (.var 15), .int .u8 (.var 16),
 .int .u8 (.var 17), .int .u8 (.var 18), .int .u8 (.var 19)])] [(22, [.int .i64 (.lit 0), .int .u32 (.lit 0), .cst (.slice none 0 0), .cst (.slice none
 0 0), .bool (.lit false), .bool (.lit false), .bool (.lit false), .bool (.lit false), .bool (.lit false), .bool (.lit false), .bool (.lit false), .bool (.lit false), .int .u8
 (.lit 0), .int .u8 (.lit 0), .int .u8 (.lit 0), .int .u8 (.lit 0), .int .u8 (.lit 0), .int .u8 (.lit 0), .int .u8 (.lit 0), .int .u8 (.lit
 0)]), (21, [.int .i64 (.var 0), .int .u32 (.var 1), .var 2, .var 3, .bool (.var 4), .bool (.var 5), .bool (.var 6), .bool (.var 7), .bool (.var 8), .bool (.var 9),
 .bool (.var 10), .bool (.var 11), .int .u8 (.var 12), .int .u8 (.var 13), .int .u8 (.var 14), .int .u8 (.var 15), .int .u8 (.var 16), .int .u8
 (.var 17), .int .u8 (.var 18), .int .u8 (.var 19)])] (.split (.lt (.var 23) (.len 2)) (.ob (.le (.lit 0) (.var 23)) (.ob (.lt (.var 23) (.len 2)) (.ob (.not (.nil
 2)) (.start false [] [] [(22, [.int .i64 (.lit 0), .int .u32 (.lit 0), .cst (.slice none 0 0), .cst (.slice none 0 0), .bool (.lit false), .bool (.lit false), .bool
 (.lit false), .bool (.lit false), .bool (.lit false), .bool (.lit false), .bool (.lit false), .bool (.lit false), .int .u8 (.lit 0), .int .u8 (.lit 0), .int .u8
 (.lit 0), .int .u8 (.lit 0), .int .u8 (.lit 0), .int .u8 (.lit 0), .int .u8 (.lit 0), .int .u8 (.lit 0)]), (21, [.int .i64 (.var 0), .int .u32
 (.var 1), .var 2, .var 3, .bool (.var 4), .bool (.var 5), .bool (.var 6), .bool (.var 7), .bool (.var 8), .bool (.var 9), .bool (.var 10), .bool (.var 11), .int .u8 (.var
 12), .int .u8 (.var 13), .int .u8 (.var 14), .int .u8 (.var 15), .int .u8 (.var 16), .int .u8 (.var 17), .int .u8 (.var 18), .int .u8 (.var
 19)])] (.load (.elt 2 0 (.var 23) 1 0) [.int .u16] (.split (.eq (.var 24) (.var 20)) (.leaf 0 [.tuple [.agg [.int .i64 (.var 0), .int .u32 (.var 1), .var 2, .var
 3, .bool (.var 4), .bool (.var 5), .bool (.var 6), .bool (.var 7), .bool (.var 8), .bool (.var 9), .bool (.var 10), .bool (.var 11), .int .u8 (.var 12), .int .u8
 (.var 13), .int .u8 (.var 14), .int .u8 (.var 15), .int .u8 (.var 16), .int .u8 (.var 17), .int .u8 (.var 18), .int .u8 (.var 19)], .int .i64
 (.lit 3)]] [22] [(22, [.int .i64 (.var 0), .int .u32 (.var 1), .var 2, .var 3, .bool (.var 4), .bool (.var 5), .bool (.var 6), .bool (.var 7), .bool (.var 8), .bool
 (.var 9), .bool (.var 10), .bool (.var 11), .int .u8 (.var 12), .int .u8 (.var 13), .int .u8 (.var 14), .int .u8 (.var 15), .int .u8 (.var 16), .int
 .u8 (.var 17), .int .u8 (.var 18), .int .u8 (.var 19)]), (21, [.int .i64 (.var 0), .int .u32 (.var 1), .var 2, .var 3, .bool (.var 4), .bool (.var 5),
 .bool (.var 6), .bool (.var 7), .bool (.var 8), .bool (.var 9), .bool (.var 10), .bool (.var 11), .int .u8 (.var 12), .int .u8 (.var 13), .int .u8 (.var 14),
 .int .u8 (.var 15), .int .u8 (.var 16), .int .u8 (.var 17), .int .u8 (.var 18), .int .u8 (.var 19)])]) (.ob (.le (.lit (-9223372036854775808)) (.add (.var
 23) (.lit 1))) (.ob (.le (.add (.var 23) (.lit 1)) (.lit 9223372036854775807)) (.leaf 1 [.int .i64 (.add (.var 23) (.lit 1))] [] [(22, [.int .i64 (.lit 0), .int .u32
 (.lit 0), .cst (.slice none 0 0), .cst (.slice none 0 0), .bool (.lit false), .bool (.lit false), .bool (.lit false), .bool (.lit false), .bool (.lit false), .bool (.lit false),
 .bool (.lit false), .bool (.lit false), .int .u8 (.lit 0), .int .u8 (.lit 0), .int .u8 (.lit 0), .int .u8 (.lit 0), .int .u8 (.lit 0), .int .u8
 (.lit 0), .int .u8 (.lit 0), .int .u8 (.lit 0)]), (21, [.int .i64 (.var 0), .int .u32 (.var 1), .var 2, .var 3, .bool (.var 4), .bool (.var 5), .bool (.var
 6), .bool (.var 7), .bool (.var 8), .bool (.var 9), .bool (.var 10), .bool (.var 11), .int .u8 (.var 12), .int .u8 (.var 13), .int .u8 (.var 14), .int .u8
 (.var 15), .int .u8 (.var 16), .int .u8 (.var 17), .int .u8 (.var 18), .int .u8 (.var 19)])]))))))))) (.split (.le (.var 0) (.len 2)) (.leaf 0 [.tuple [.agg
 [.int .i64 (.var 0), .int .u32 (.var 1), .var 2, .var 3, .bool (.var 4), .bool (.var 5), .bool (.var 6), .bool (.var 7), .bool (.var 8), .bool (.var 9), .bool (.var
 10), .bool (.var 11), .int .u8 (.var 12), .int .u8 (.var 13), .int .u8 (.var 14), .int .u8 (.var 15), .int .u8 (.var 16), .int .u8 (.var 17), .int
 .u8 (.var 18), .int .u8 (.var 19)], .int .i64 (.lit 261)]] [22] [(22, [.int .i64 (.var 0), .int .u32 (.var 1), .var 2, .var 3, .bool (.var 4), .bool (.var
 5), .bool (.var 6), .bool (.var 7), .bool (.var 8), .bool (.var 9), .bool (.var 10), .bool (.var 11), .int .u8 (.var 12), .int .u8 (.var 13), .int .u8 (.var 14),
 .int .u8 (.var 15), .int .u8 (.var 16), .int .u8 (.var 17), .int .u8 (.var 18), .int .u8 (.var 19)]), (21, [.int .i64 (.var 0), .int .u32
 (.var 1), .var 2, .var 3, .bool (.var 4), .bool (.var 5), .bool (.var 6), .bool (.var 7), .bool (.var 8), .bool (.var 9), .bool (.var 10), .bool (.var 11), .int .u8 (.var
 12), .int .u8 (.var 13), .int .u8 (.var 14), .int .u8 (.var 15), .int .u8 (.var 16), .int .u8 (.var 17), .int .u8 (.var 18), .int .u8 (.var
 19)])]) (.gen (.call { callee := .builtin .append, args := #[.const (.slice none 0 0), .tmp 30], argTypes := #[35, 35] }) 35 [(.const (.slice none 0 0), .cst
 (.slice none 0 0)), (.tmp 30, .var 2)] [.slice] (.var 24) [] false [] [] [22, 21] [(22, [.int .i64 (.lit 0), .int .u32 (.lit 0), .cst (.slice none 0 0), .cst
 (.slice none 0 0), .bool (.lit false), .bool (.lit false), .bool (.lit false), .bool (.lit false), .bool (.lit false), .bool (.lit false), .bool (.lit false), .bool (.lit false),
 .int .u8 (.lit 0), .int .u8 (.lit 0), .int .u8 (.lit 0), .int .u8 (.lit 0), .int .u8 (.lit 0), .int .u8 (.lit 0), .int .u8 (.lit 0), .int
 .u8 (.lit 0)]), (21, [.int .i64 (.var 0), .int .u32 (.var 1), .var 2, .var 3, .bool (.var 4), .bool (.var 5), .bool (.var 6), .bool (.var 7), .bool (.var 8),
 .bool (.var 9), .bool (.var 10), .bool (.var 11), .int .u8 (.var 12), .int .u8 (.var 13), .int .u8 (.var 14), .int .u8 (.var 15), .int .u8 (.var 16),
 .int .u8 (.var 17), .int .u8 (.var 18), .int .u8 (.var 19)])] (.blk (.gen (.call { callee := .builtin .append, args := #[.tmp 31, .tmp 33], argTypes := #[35, 35] })
 35 [(.tmp 31, .var 24), (.tmp 33, .slc 25 0 1 1)] [.slice] (.var 26) [] false [] [] [25, 22, 21] [(25, [.int .u16 (.var 20)]), (22, [.int .i64 (.lit 0), .int .u32
 (.lit 0), .cst (.slice none 0 0), .cst (.slice none 0 0), .bool (.lit false), .bool (.lit false), .bool (.lit false), .bool (.lit false), .bool (.lit false), .bool (.lit false),
 .bool (.lit false), .bool (.lit false), .int .u8 (.lit 0), .int .u8 (.lit 0), .int .u8 (.lit 0), .int .u8 (.lit 0), .int .u8 (.lit 0), .int .u8
 (.lit 0), .int .u8 (.lit 0), .int .u8 (.lit 0)]), (21, [.int .i64 (.var 0), .int .u32 (.var 1), .var 2, .var 3, .bool (.var 4), .bool (.var 5), .bool (.var
 6), .bool (.var 7), .bool (.var 8), .bool (.var 9), .bool (.var 10), .bool (.var 11), .int .u8 (.var 12), .int .u8 (.var 13), .int .u8 (.var 14), .int .u8
 (.var 15), .int .u8 (.var 16), .int .u8 (.var 17), .int .u8 (.var 18), .int .u8 (.var 19)])] (.leaf 0 [.tuple [.agg [.int .i64 (.var 0), .int .u32
 (.var 1), .var 26, .var 3, .bool (.var 4), .bool (.var 5), .bool (.var 6), .bool (.var 7), .bool (.var 8), .bool (.var 9), .bool (.var 10), .bool (.var 11), .int .u8
 (.var 12), .int .u8 (.var 13), .int .u8 (.var 14), .int .u8 (.var 15), .int .u8 (.var 16), .int .u8 (.var 17), .int .u8 (.var 18), .int .u8
 (.var 19)], .int .i64 (.lit 0)]] [22, 21] [(25, [.int .u16 (.var 20)]), (22, [.int .i64 (.var 0), .int .u32 (.var 1), .var 26, .var 3, .bool (.var 4), .bool
 (.var 5), .bool (.var 6), .bool (.var 7), .bool (.var 8), .bool (.var 9), .bool (.var 10), .bool (.var 11), .int .u8 (.var 12), .int .u8 (.var 13), .int .u8
 (.var 14), .int .u8 (.var 15), .int .u8 (.var 16), .int .u8 (.var 17), .int .u8 (.var 18), .int .u8 (.var 19)]), (21, [.int .i64 (.var 0), .int
 .u32 (.var 1), .var 26, .var 3, .bool (.var 4), .bool (.var 5), .bool (.var 6), .bool (.var 7), .bool (.var 8), .bool (.var 9), .bool (.var 10), .bool (.var 11), .int
 .u8 (.var 12), .int .u8 (.var 13), .int .u8 (.var 14), .int .u8 (.var 15), .int .u8 (.var 16), .int .u8 (.var 17), .int .u8 (.var 18), .int
 .u8 (.var 19)])])))))))) := by kernel_rfl

theorem t50 : exFn { P := Try.prog, loops := fun r => if Nat.beq r 4 then some ⟨1, [(7, .int .i64)], []⟩ else none } 50 [.agg [.int .i64 (.var 0), .int .u32 (.var 1), .var 2, .var 3, .bool (.var 4), .bool (.var 5), .bool
 (.var 6), .bool (.var 7), .bool (.var 8), .bool (.var 9), .bool (.var 10), .bool (.var 11), .int .u8 (.var 12), .int .u8 (.var 13), .int .u8 (.var 14), .int .u8 (.var 15), .int .u8 (.var 16), .int .u8 (.var 17), .int
 .u8 (.var 18), .int .u8 (.var 19)], .agg [.int .u8 (.var 20), .int .u8 (.var 21), .int .u8 (.var 22)]] [.int .i64, .int .u32, .slice, .slice, .bool, .bool, .bool, .bool, .bool, .bool, .bool, .bool, .int .u8, .int .u8,
 .int .u8, .int .u8, .int .u8, .int .u8, .int .u8, .int .u8, .int .u8, .int .u8, .int .u8] [] = .blk (.blk (.blk (.call 13 [.agg [.int .u8 (.var 20), .int .u8 (.var 21), .int .u8
 (.var 22)]] [.bool] (.bool (.var 26)) [] false [] [] [25, 24, 23] [(25, [.int .i64 (.lit 0), .int .u32 (.lit 0), .cst (.slice none 0 0), .cst (.slice none 0 0), .bool
 (.lit false), .bool (.lit false), .bool (.lit false), .bool (.lit false), .bool (.lit false), .bool (.lit false), .bool (.lit false), .bool (.lit false), .int .u8 (.lit 0),
 .int .u8 (.lit 0), .int .u8 (.lit 0), .int .u8 (.lit 0), .int .u8 (.lit 0), .int .u8 (.lit 0), .int .u8 (.lit 0), .int .u8 (.lit 0)]), (24,
 [.int .u8 (.var 20), .int .u8 (.var 21), .int .u8 (.var 22)]), (23, [.int .i64 (.var 0), .int .u32 (.var 1), .var 2, .var 3, .bool (.var 4), .bool (.var
 5), .bool (.var 6), .bool (.var 7), .bool (.var 8), .bool (.var 9), .bool (.var 10), .bool (.var 11), .int .u8 (.var 12), .int .u8 (.var 13), .int .u8 (.var 14),
 .int .u8 (.var 15), .int .u8 (.var 16), .int .u8 (.var 17), .int .u8 (.var 18), .int .u8 (.var 19)])] (.split (.not (.var 26)) (.leaf 0 [.tuple [.agg
 [.int .i64 (.var 0), .int .u32 (.var 1), .var 2, .var 3, .bool (.var 4), .bool (.var 5), .bool (.var 6), .bool (.var 7), .bool (.var 8), .bool (.var 9), .bool (.var
 10), .bool (.var 11), .int .u8 (.var 12), .int .u8 (.var 13), .int .u8 (.var 14), .int .u8 (.var 15), .int .u8 (.var 16), .int .u8 (.var 17), .int
 .u8 (.var 18), .int .u8 (.var 19)], .bool (.lit false), .int .i64 (.lit 2)]] [25] [(25, [.int .i64 (.var 0), .int .u32 (.var 1), .var 2, .var 3, .bool
 (.var 4), .bool (.var 5), .bool (.var 6), .bool (.var 7), .bool (.var 8), .bool (.var 9), .bool (.var 10), .bool (.var 11), .int .u8 (.var 12), .int .u8 (.var 13),
 .int .u8 (.var 14), .int .u8 (.var 15), .int .u8 (.var 16), .int .u8 (.var 17), .int .u8 (.var 18), .int .u8 (.var 19)]), (24, [.int .u8 (.var
 20), .int .u8 (.var 21), .int .u8 (.var 22)]), (23, [.int .i64 (.var 0), .int .u32 (.var 1), .var 2, .var 3, .bool (.var 4), .bool (.var 5), .bool (.var 6),
 .bool (.var 7), .bool (.var 8), .bool (.var 9), .bool (.var 10), .bool (.var 11), .int .u8 (.var 12), .int .u8 (.var 13), .int .u8 (.var 14), .int .u8
 (.var 15), .int .u8 (.var 16), .int .u8 (.var 17), .int .u8 (.var 18), .int .u8 (.var 19)])]) (.loop 1 [.int .i64 (.lit 0)] [.int .i64] [] [25, 24,
 23] [(25, [.int .i64 (.lit 0), .int .u32 (.lit 0), .cst (.slice none 0 0), .cst (.slice none 0 0), .bool (.lit false), .bool (.lit false), .bool (.lit false), .bool
 (.lit false), .bool (.lit false), .bool (.lit false), .bool (.lit false), .bool (.lit false), .int .u8 (.lit 0), .int .u8 (.lit 0), .int .u8 (.lit 0), .int .u8
 (.lit 0), .int .u8 (.lit 0), .int .u8 (.lit 0), .int .u8 (.lit 0), .int .u8 (.lit 0)]), (24, [.int .u8 (.var 20), .int .u8 (.var 21), .int .u8
 (.var 22)]), (23, [.int .i64 (.var 0), .int .u32 (.var 1), .var 2, .var 3, .bool (.var 4), .bool (.var 5), .bool (.var 6), .bool (.var 7), .bool (.var 8), .bool (.var
 9), .bool (.var 10), .bool (.var 11), .int .u8 (.var 12), .int .u8 (.var 13), .int .u8 (.var 14), .int .u8 (.var 15), .int .u8 (.var 16), .int .u8
 (.var 17), .int .u8 (.var 18), .int .u8 (.var 19)])] [(25, [.int .i64 (.lit 0), .int .u32 (.lit 0), .cst (.slice none 0 0), .cst (.slice none 0 0), .bool
 (.lit false), .bool (.lit false), .bool (.lit false), .bool (.lit false), .bool (.lit false), .bool (.lit false), .bool (.lit false), .bool (.lit false), .int .u8 (.lit 0),
 .int .u8 (.lit 0), .int .u8 (.lit 0), .int .u8 (.lit 0), .int .u8 (.lit 0), .int .u8 (.lit 0), .int .u8 (.lit 0), .int .u8 (.lit 0)]), (24,
 [.int .u8 (.var 20), .int .u8 (.var 21), .int .u8 (.var 22)]), (23, [.int .i64 (.var 0), .int .u32 (.var 1), .var 2, .var 3, .bool (.var 4), .bool (.var
 5), .bool (.var 6), .bool (.var 7), .bool (.var 8), .bool (.var 9), .bool (.var 10), .bool (.var 11), .int .u8 (.var 12), .int .u8 (.var 13), .int .u8 (.var 14),
 .int .u8 (.var 15), .int .u8 (.var 16), .int .u8 (.var 17), .int .u8 (.var 18), .int .u8 (.var 19)])] (.split (.lt (.var 27) (.len 3)) (.start true []
 [25, 24, 23] [(25, [.int .i64 (.lit 0), .int .u32 (.lit 0), .cst (.slice none 0 0), .cst (.slice none 0 0), .bool (.lit false), .bool (.lit false), .bool (.lit false),
 .bool (.lit false), .bool (.lit false), .bool (.lit false), .bool (.lit false), .bool (.lit false), .int .u8 (.lit 0), .int .u8 (.lit 0), .int .u8 (.lit 0), .int
 .u8 (.lit 0), .int .u8 (.lit 0), .int .u8 (.lit 0), .int .u8 (.lit 0), .int .u8 (.lit 0)]), (24, [.int .u8 (.var 20), .int .u8 (.var 21), .int
 .u8 (.var 22)]), (23, [.int .i64 (.var 0), .int .u32 (.var 1), .var 2, .var 3, .bool (.var 4), .bool (.var 5), .bool (.var 6), .bool (.var 7), .bool (.var 8),
 .bool (.var 9), .bool (.var 10), .bool (.var 11), .int .u8 (.var 12), .int .u8 (.var 13), .int .u8 (.var 14), .int .u8 (.var 15), .int .u8 (.var 16),
 .int .u8 (.var 17), .int .u8 (.var 18), .int .u8 (.var 19)])] (.ob (.le (.lit 0) (.var 27)) (.ob (.lt (.var 27) (.len 3)) (.ob (.not (.nil 3)) (.load (.elt 3 0
 (.var 27) 3 0) [.int .u8] (.split (.eq (.var 28) (.var 20)) (.ob (.le (.lit 0) (.var 27)) (.ob (.lt (.var 27) (.len 3)) (.load (.elt 3 0 (.var 27) 3 1) [.int .u8]
 (.split (.eq (.var 29) (.var 21)) (.leaf 0 [.tuple [.agg [.int .i64 (.var 0), .int .u32 (.var 1), .var 2, .var 3, .bool (.var 4), .bool (.var 5), .bool (.var 6),
 .bool (.var 7), .bool (.var 8), .bool (.var 9), .bool (.var 10), .bool (.var 11), .int .u8 (.var 12), .int .u8 (.var 13), .int .u8 (.var 14), .int .u8
 (.var 15), .int .u8 (.var 16), .int .u8 (.var 17), .int .u8 (.var 18), .int .u8 (.var 19)], .bool (.lit false), .int .i64 (.lit 0)]] [25] [(25, [.int
 .i64 (.var 0), .int .u32 (.var 1), .var 2, .var 3, .bool (.var 4), .bool (.var 5), .bool (.var 6), .bool (.var 7), .bool (.var 8), .bool (.var 9), .bool (.var 10),
 .bool (.var 11), .int .u8 (.var 12), .int .u8 (.var 13), .int .u8 (.var 14), .int .u8 (.var 15), .int .u8 (.var 16), .int .u8 (.var 17), .int
 .u8 (.var 18), .int .u8 (.var 19)]), (24, [.int .u8 (.var 20), .int .u8 (.var 21), .int .u8 (.var 22)]), (23, [.int .i64 (.var 0), .int .u32
 (.var 1), .var 2, .var 3, .bool (.var 4), .bool (.var 5), .bool (.var 6), .bool (.var 7), .bool (.var 8), .bool (.var 9), .bool (.var 10), .bool (.var 11), .int .u8 (.var
 12), .int .u8 (.var 13), .int .u8 (.var 14), .int .u8 (.var 15), .int .u8 (.var 16), .int .u8 (.var 17), .int .u8 (.var 18), .int .u8 (.var
 19)])]) (.ob (.le (.lit (-9223372036854775808)) (.add (.var 27) (.lit 1))) (.ob (.le (.add (.var 27) (.lit 1)) (.lit 9223372036854775807)) (.leaf 1 [.int .i64 (.add (.var 27)
 (.lit 1))] [] [(25, [.int .i64 (.lit 0), .int .u32 (.lit 0), .cst (.slice none 0 0), .cst (.slice none 0 0), .bool (.lit false), .bool (.lit false), .bool (.lit false),
 .bool (.lit false), .bool (.lit false), .bool (.lit false), .bool (.lit false), .bool (.lit false), .int .u8 (.lit 0), .int .u8 (.lit 0), .int .u8 (.lit 0), .int
 .u8 (.lit 0), .int .u8 (.lit 0), .int .u8 (.lit 0), .int .u8 (.lit 0), .int .u8 (.lit 0)]), (24, [.int .u8 (.var 20), .int .u8 (.var 21), .int
 .u8 (.var 22)]), (23, [.int .i64 (.var 0), .int .u32 (.var 1), .var 2, .var 3, .bool (.var 4), .bool (.var 5), .bool (.var 6), .bool (.var 7), .bool (.var 8),
 .bool (.var 9), .bool (.var 10), .bool (.var 11), .int .u8 (.var 12), .int .u8 (.var 13), .int .u8 (.var 14), .int .u8 (.var 15), .int .u8 (.var 16),
 .int .u8 (.var 17), .int .u8 (.var 18), .int .u8 (.var 19)])]))))))) (.ob (.le (.lit (-9223372036854775808)) (.add (.var 27) (.lit 1))) (.ob (.le (.add (.var 27)
 (.lit 1)) (.lit 9223372036854775807)) (.leaf 1 [.int .i64 (.add (.var 27) (.lit 1))] [] [(25, [.int .i64 (.lit 0), .int .u32 (.lit 0), .cst (.slice none 0 0), .cst
 (.slice none 0 0), .bool (.lit false), .bool (.lit false), .bool (.lit false), .bool (.lit false), .bool (.lit false), .bool (.lit false), .bool (.lit false), .bool (.lit false),
 .int .u8 (.lit 0), .int .u8 (.lit 0), .int .u8 (.lit 0), .int .u8 (.lit 0), .int .u8 (.lit 0), .int .u8 (.lit 0), .int .u8 (.lit 0), .int
 .u8 (.lit 0)]), (24, [.int .u8 (.var 20), .int .u8 (.var 21), .int .u8 (.var 22)]), (23, [.int .i64 (.var 0), .int .u32 (.var 1), .var 2, .var 3,
 .bool (.var 4), .bool (.var 5), .bool (.var 6), .bool (.var 7), .bool (.var 8), .bool (.var 9), .bool (.var 10), .bool (.var 11), .int .u8 (.var 12), .int .u8 (.var
 13), .int .u8 (.var 14), .int .u8 (.var 15), .int .u8 (.var 16), .int .u8 (.var 17), .int .u8 (.var 18), .int .u8 (.var 19)])]))))))))) (.call 15
 [.agg [.int .u8 (.var 20), .int .u8 (.var 21), .int .u8 (.var 22)], .int .u32 (.var 1)] [.bool] (.bool (.var 28)) [] false [] [] [25, 24, 23] [(25, [.int
 .i64 (.lit 0), .int .u32 (.lit 0), .cst (.slice none 0 0), .cst (.slice none 0 0), .bool (.lit false), .bool (.lit false), .bool (.lit false), .bool (.lit false),
 .bool (.lit false), .bool (.lit false), .bool (.lit false), .bool (.lit false), .int .u8 (.lit 0), .int .u8 (.lit 0), .int .u8 (.lit 0), .int .u8 (.lit 0),
 .int .u8 (.lit 0), .int .u8 (.lit 0), .int .u8 (.lit 0), .int .u8 (.lit 0)]), (24, [.int .u8 (.var 20), .int .u8 (.var 21), .int .u8 (.var
 22)]), (23, [.int .i64 (.var 0), .int .u32 (.var 1), .var 2, .var 3, .bool (.var 4), .bool (.var 5), .bool (.var 6), .bool (.var 7), .bool (.var 8), .bool (.var 9),
 .bool (.var 10), .bool (.var 11), .int .u8 (.var 12), .int .u8 (.var 13), .int .u8 (.var 14), .int .u8 (.var 15), .int .u8 (.var 16), .int .u8
 (.var 17), .int .u8 (.var 18), .int .u8 (.var 19)])] (.split (.not (.var 28)) (.leaf 0 [.tuple [.agg [.int .i64 (.var 0), .int .u32 (.var 1), .var 2, .var 3,
 .bool (.var 4), .bool (.var 5), .bool (.var 6), .bool (.var 7), .bool (.var 8), .bool (.var 9), .bool (.var 10), .bool (.var 11), .int .u8 (.var 12), .int .u8 (.var
 13), .int .u8 (.var 14), .int .u8 (.var 15), .int .u8 (.var 16), .int .u8 (.var 17), .int .u8 (.var 18), .int .u8 (.var 19)], .bool (.lit false),
 .int .i64 (.lit 0)]] [25] [(25, [.int .i64 (.var 0), .int .u32 (.var 1), .var 2, .var 3, .bool (.var 4), .bool (.var 5), .bool (.var 6), .bool (.var 7), .bool
 (.var 8), .bool (.var 9), .bool (.var 10), .bool (.var 11), .int .u8 (.var 12), .int .u8 (.var 13), .int .u8 (.var 14), .int .u8 (.var 15), .int .u8
 (.var 16), .int .u8 (.var 17), .int .u8 (.var 18), .int .u8 (.var 19)]), (24, [.int .u8 (.var 20), .int .u8 (.var 21), .int .u8 (.var 22)]), (23,
 [.int .i64 (.var 0), .int .u32 (.var 1), .var 2, .var 3, .bool (.var 4), .bool (.var 5), .bool (.var 6), .bool (.var 7), .bool (.var 8), .bool (.var 9), .bool (.var
 10), .bool (.var 11), .int .u8 (.var 12), .int .u8 (.var 13), .int .u8 (.var 14), .int .u8 (.var 15), .int .u8 (.var 16), .int .u8 (.var 17), .int
 .u8 (.var 18), .int .u8 (.var 19)])]) (.start true [] [25, 24, 23] [(25, [.int .i64 (.lit 0), .int .u32 (.lit 0), .cst (.slice none 0 0), .cst (.slice none 0 0),
 .bool (.lit false), .bool (.lit false), .bool (.lit false), .bool (.lit false), .bool (.lit false), .bool (.lit false), .bool (.lit false), .bool (.lit false), .int .u8 (.lit
 0), .int .u8 (.lit 0), .int .u8 (.lit 0), .int .u8 (.lit 0), .int .u8 (.lit 0), .int .u8 (.lit 0), .int .u8 (.lit 0), .int .u8 (.lit 0)]),
 (24, [.int .u8 (.var 20), .int .u8 (.var 21), .int .u8 (.var 22)]), (23, [.int .i64 (.var 0), .int .u32 (.var 1), .var 2, .var 3, .bool (.var 4), .bool
 (.var 5), .bool (.var 6), .bool (.var 7), .bool (.var 8), .bool (.var 9), .bool (.var 10), .bool (.var 11), .int .u8 (.var 12), .int .u8 (.var 13), .int .u8
 (.var 14), .int .u8 (.var 15), .int .u8 (.var 16), .int .u8 (.var 17), .int .u8 (.var 18), .int .u8 (.var 19)])] (.both (.both (.gen (.call { callee := .builtin .append, args := #[.const (.slice none 0 0), .tmp 47], argTypes := #[57, 57] })
 57 [(.const (.slice none 0 0), .cst (.slice none 0 0)), (.tmp 47, .var 3)] [.slice] (.var 29) [] true [] [] [25, 24, 23] [(25, [.int .i64 (.lit 0), .int .u32 (.lit
 0), .cst (.slice none 0 0), .cst (.slice none 0 0), .bool (.lit false), .bool (.lit false), .bool (.lit false), .bool (.lit false), .bool (.lit false), .bool (.lit false), .bool
 (.lit false), .bool (.lit false), .int .u8 (.lit 0), .int .u8 (.lit 0), .int .u8 (.lit 0), .int .u8 (.lit 0), .int .u8 (.lit 0), .int .u8 (.lit 0),
 .int .u8 (.lit 0), .int .u8 (.lit 0)]), (24, [.int .u8 (.var 20), .int .u8 (.var 21), .int .u8 (.var 22)]), (23, [.int .i64 (.var 0), .int .u32
 (.var 1), .var 2, .var 3, .bool (.var 4), .bool (.var 5), .bool (.var 6), .bool (.var 7), .bool (.var 8), .bool (.var 9), .bool (.var 10), .bool (.var 11), .int .u8 (.var
 12), .int .u8 (.var 13), .int .u8 (.var 14), .int .u8 (.var 15), .int .u8 (.var 16), .int .u8 (.var 17), .int .u8 (.var 18), .int .u8 (.var
 19)])] (.blk (.gen (.call { callee := .builtin .append, args := #[.tmp 48, .tmp 50], argTypes := #[57, 57] }) 57 [(.tmp 48, .var 29), (.tmp 50, .slc 30 0 1 1)]
 [.slice] (.var 31) [] true [] [] [30, 25, 24, 23] [(30, [.int .u8 (.var 20), .int .u8 (.var 21), .int .u8 (.var 22)]), (25, [.int .i64 (.lit 0), .int .u32
 (.lit 0), .cst (.slice none 0 0), .cst (.slice none 0 0), .bool (.lit false), .bool (.lit false), .bool (.lit false), .bool (.lit false), .bool (.lit false), .bool (.lit false),
 .bool (.lit false), .bool (.lit false), .int .u8 (.lit 0), .int .u8 (.lit 0), .int .u8 (.lit 0), .int .u8 (.lit 0), .int .u8 (.lit 0), .int .u8
 (.lit 0), .int .u8 (.lit 0), .int .u8 (.lit 0)]), (24, [.int .u8 (.var 20), .int .u8 (.var 21), .int .u8 (.var 22)]), (23, [.int .i64 (.var 0), .int
 .u32 (.var 1), .var 2, .var 3, .bool (.var 4), .bool (.var 5), .bool (.var 6), .bool (.var 7), .bool (.var 8), .bool (.var 9), .bool (.var 10), .bool (.var 11), .int
 .u8 (.var 12), .int .u8 (.var 13), .int .u8 (.var 14), .int .u8 (.var 15), .int .u8 (.var 16), .int .u8 (.var 17), .int .u8 (.var 18), .int
 .u8 (.var 19)])] (.leaf 0 [.tuple [.agg [.int .i64 (.var 0), .int .u32 (.var 1), .var 2, .var 31, .bool (.var 4), .bool (.var 5), .bool (.var 6), .bool (.var 7),
 .bool (.var 8), .bool (.var 9), .bool (.var 10), .bool (.var 11), .int .u8 (.var 12), .int .u8 (.var 13), .int .u8 (.var 14), .int .u8 (.var 15), .int
 .u8 (.var 16), .int .u8 (.var 17), .int .u8 (.var 18), .int .u8 (.var 19)], .bool (.lit true), .int .i64 (.lit 0)]] [25, 23] [(30, [.int .u8 (.var 20),
 .int .u8 (.var 21), .int .u8 (.var 22)]), (25, [.int .i64 (.var 0), .int .u32 (.var 1), .var 2, .var 31, .bool (.var 4), .bool (.var 5), .bool (.var 6),
 .bool (.var 7), .bool (.var 8), .bool (.var 9), .bool (.var 10), .bool (.var 11), .int .u8 (.var 12), .int .u8 (.var 13), .int .u8 (.var 14), .int .u8
 (.var 15), .int .u8 (.var 16), .int .u8 (.var 17), .int .u8 (.var 18), .int .u8 (.var 19)]), (24, [.int .u8 (.var 20), .int .u8 (.var 21), .int
 .u8 (.var 22)]), (23, [.int .i64 (.var 0), .int .u32 (.var 1), .var 2, .var 31, .bool (.var 4), .bool (.var 5), .bool (.var 6), .bool (.var 7), .bool (.var 8),
 .bool (.var 9), .bool (.var 10), .bool (.var 11), .int .u8 (.var 12), .int .u8 (.var 13), .int .u8 (.var 14), .int .u8 (.var 15), .int .u8 (.var 16),
 .int .u8 (.var 17), .int .u8 (.var 18), .int .u8 (.var 19)])])))) (.blk (.gen (.call { callee := .builtin .append, args := #[.const (.slice none 0 0), .tmp 47], argTypes := #[57, 57] })
 57 [(.const (.slice none 0 0), .cst (.slice none 0 0)), (.tmp 47, .var 3)] [.slice] (.var 30) [] true [] [] [29, 25, 24, 23] [(29, [.int .u8 (.var 20), .int .u8
 (.var 21), .int .u8 (.var 22)]), (25, [.int .i64 (.lit 0), .int .u32 (.lit 0), .cst (.slice none 0 0), .cst (.slice none 0 0), .bool (.lit false), .bool (.lit
 false), .bool (.lit false), .bool (.lit false), .bool (.lit false), .bool (.lit false), .bool (.lit false), .bool (.lit false), .int .u8 (.lit 0), .int .u8 (.lit 0), .int
 .u8 (.lit 0), .int .u8 (.lit 0), .int .u8 (.lit 0), .int .u8 (.lit 0), .int .u8 (.lit 0), .int .u8 (.lit 0)]), (24, [.int .u8 (.var 20), .int
 .u8 (.var 21), .int .u8 (.var 22)]), (23, [.int .i64 (.var 0), .int .u32 (.var 1), .var 2, .var 3, .bool (.var 4), .bool (.var 5), .bool (.var 6), .bool
 (.var 7), .bool (.var 8), .bool (.var 9), .bool (.var 10), .bool (.var 11), .int .u8 (.var 12), .int .u8 (.var 13), .int .u8 (.var 14), .int .u8 (.var 15),
 .int .u8 (.var 16), .int .u8 (.var 17), .int .u8 (.var 18), .int .u8 (.var 19)])] (.gen (.call { callee := .builtin .append, args := #[.tmp 48, .tmp 50], argTypes := #[57, 57] })
 57 [(.tmp 48, .var 30), (.tmp 50, .slc 29 0 1 1)] [.slice] (.var 31) [] true [] [] [29, 25, 24, 23] [(29, [.int .u8 (.var 20), .int .u8 (.var 21), .int .u8 (.var
 22)]), (25, [.int .i64 (.lit 0), .int .u32 (.lit 0), .cst (.slice none 0 0), .cst (.slice none 0 0), .bool (.lit false), .bool (.lit false), .bool (.lit false), .bool
 (.lit false), .bool (.lit false), .bool (.lit false), .bool (.lit false), .bool (.lit false), .int .u8 (.lit 0), .int .u8 (.lit 0), .int .u8 (.lit 0), .int .u8
 (.lit 0), .int .u8 (.lit 0), .int .u8 (.lit 0), .int .u8 (.lit 0), .int .u8 (.lit 0)]), (24, [.int .u8 (.var 20), .int .u8 (.var 21), .int .u8
 (.var 22)]), (23, [.int .i64 (.var 0), .int .u32 (.var 1), .var 2, .var 3, .bool (.var 4), .bool (.var 5), .bool (.var 6), .bool (.var 7), .bool (.var 8), .bool (.var
 9), .bool (.var 10), .bool (.var 11), .int .u8 (.var 12), .int .u8 (.var 13), .int .u8 (.var 14), .int .u8 (.var 15), .int .u8 (.var 16), .int .u8
 (.var 17), .int .u8 (.var 18), .int .u8 (.var 19)])] (.leaf 0 [.tuple [.agg [.int .i64 (.var 0), .int .u32 (.var 1), .var 2, .var 31, .bool (.var 4), .bool
 (.var 5), .bool (.var 6), .bool (.var 7), .bool (.var 8), .bool (.var 9), .bool (.var 10), .bool (.var 11), .int .u8 (.var 12), .int .u8 (.var 13), .int .u8
 (.var 14), .int .u8 (.var 15), .int .u8 (.var 16), .int .u8 (.var 17), .int .u8 (.var 18), .int .u8 (.var 19)], .bool (.lit true), .int .i64 (.lit
 0)]] [25, 23] [(29, [.int .u8 (.var 20), .int .u8 (.var 21), .int .u8 (.var 22)]), (25, [.int .i64 (.var 0), .int .u32 (.var 1), .var 2, .var 31, .bool
 (.var 4), .bool (.var 5), .bool (.var 6), .bool (.var 7), .bool (.var 8), .bool (.var 9), .bool (.var 10), .bool (.var 11), .int .u8 (.var 12), .int .u8 (.var 13),
 .int .u8 (.var 14), .int .u8 (.var 15), .int .u8 (.var 16), .int .u8 (.var 17), .int .u8 (.var 18), .int .u8 (.var 19)]), (24, [.int .u8 (.var
 20), .int .u8 (.var 21), .int .u8 (.var 22)]), (23, [.int .i64 (.var 0), .int .u32 (.var 1), .var 2, .var 31, .bool (.var 4), .bool (.var 5), .bool (.var 6),
 .bool (.var 7), .bool (.var 8), .bool (.var 9), .bool (.var 10), .bool (.var 11), .int .u8 (.var 12), .int .u8 (.var 13), .int .u8 (.var 14), .int .u8
 (.var 15), .int .u8 (.var 16), .int .u8 (.var 17), .int .u8 (.var 18), .int .u8 (.var 19)])]))))) (.blk (.gen (.call { callee := .builtin .append, args := #[.const (.slice none 0 0), .tmp 47], argTypes := #[57, 57] })
 57 [(.const (.slice none 0 0), .cst (.slice none 0 0)), (.tmp 47, .var 3)] [.slice] (.var 30) [] true [] [] [29, 25, 24, 23] [(29, [.int .u8 (.var 20), .int .u8
 (.var 21), .int .u8 (.var 22)]), (25, [.int .i64 (.lit 0), .int .u32 (.lit 0), .cst (.slice none 0 0), .cst (.slice none 0 0), .bool (.lit false), .bool (.lit
 false), .bool (.lit false), .bool (.lit false), .bool (.lit false), .bool (.lit false), .bool (.lit false), .bool (.lit false), .int .u8 (.lit 0), .int .u8 (.lit 0), .int
 .u8 (.lit 0), .int .u8 (.lit 0), .int .u8 (.lit 0), .int .u8 (.lit 0), .int .u8 (.lit 0), .int .u8 (.lit 0)]), (24, [.int .u8 (.var 20), .int
 .u8 (.var 21), .int .u8 (.var 22)]), (23, [.int .i64 (.var 0), .int .u32 (.var 1), .var 2, .var 3, .bool (.var 4), .bool (.var 5), .bool (.var 6), .bool
 (.var 7), .bool (.var 8), .bool (.var 9), .bool (.var 10), .bool (.var 11), .int .u8 (.var 12), .int .u8 (.var 13), .int .u8 (.var 14), .int .u8 (.var 15),
 .int .u8 (.var 16), .int .u8 (.var 17), .int .u8 (.var 18), .int .u8 (.var 19)])] (.gen (.call { callee := .builtin .append, args := #[.tmp 48, .tmp 50], argTypes := #[57, 57] })
 57 [(.tmp 48, .var 30), (.tmp 50, .slc 29 0 1 1)] [.slice] (.var 31) [] true [] [] [29, 25, 24, 23] [(29, [.int .u8 (.var 20), .int .u8 (.var 21), .int .u8 (.var
 22)]), (25, [.int .i64 (.lit 0), .int .u32 (.lit 0), .cst (.slice none 0 0), .cst (.slice none 0 0), .bool (.lit false), .bool (.lit false), .bool (.lit false), .bool
 (.lit false), .bool (.lit false), .bool (.lit false), .bool (.lit false), .bool (.lit false), .int .u8 (.lit 0), .int .u8 (.lit 0), .int .u8 (.lit 0), .int .u8
 (.lit 0), .int .u8 (.lit 0), .int .u8 (.lit 0), .int .u8 (.lit 0), .int .u8 (.lit 0)]), (24, [.int .u8 (.var 20), .int .u8 (.var 21), .int .u8
 (.var 22)]), (23, [.int .i64 (.var 0), .int .u32 (.var 1), .var 2, .var 3, .bool (.var 4), .bool (.var 5), .bool (.var 6), .bool (.var 7), .bool (.var 8), .bool (.var
 9), .bool (.var 10), .bool (.var 11), .int .u8 (.var 12), .int .u8 (.var 13), .int .u8 (.var 14), .int .u8 (.var 15), .int .u8 (.var 16), .int .u8
 (.var 17), .int .u8 (.var 18), .int .u8 (.var 19)])] (.leaf 0 [.tuple [.agg [.int .i64 (.var 0), .int .u32 (.var 1), .var 2, .var 31, .bool (.var 4), .bool
 (.var 5), .bool (.var 6), .bool (.var 7), .bool (.var 8), .bool (.var 9), .bool (.var 10), .bool (.var 11), .int .u8 (.var 12), .int .u8 (.var 13), .int .u8
 (.var 14), .int .u8 (.var 15), .int .u8 (.var 16), .int .u8 (.var 17), .int .u8 (.var 18), .int .u8 (.var 19)], .bool (.lit true), .int .i64 (.lit
 0)]] [25, 23] [(29, [.int .u8 (.var 20), .int .u8 (.var 21), .int .u8 (.var 22)]), (25, [.int .i64 (.var 0), .int .u32 (.var 1), .var 2, .var 31, .bool
 (.var 4), .bool (.var 5), .bool (.var 6), .bool (.var 7), .bool (.var 8), .bool (.var 9), .bool (.var 10), .bool (.var 11), .int .u8 (.var 12), .int .u8 (.var 13),
 .int .u8 (.var 14), .int .u8 (.var 15), .int .u8 (.var 16), .int .u8 (.var 17), .int .u8 (.var 18), .int .u8 (.var 19)]), (24, [.int .u8 (.var
 20), .int .u8 (.var 21), .int .u8 (.var 22)]), (23, [.int .i64 (.var 0), .int .u32 (.var 1), .var 2, .var 31, .bool (.var 4), .bool (.var 5), .bool (.var 6),
 .bool (.var 7), .bool (.var 8), .bool (.var 9), .bool (.var 10), .bool (.var 11), .int .u8 (.var 12), .int .u8 (.var 13), .int .u8 (.var 14), .int .u8
 (.var 15), .int .u8 (.var 16), .int .u8 (.var 17), .int .u8 (.var 18), .int .u8 (.var 19)])])))))))))))))) := by kernel_rfl

theorem t51 : exFn { P := Try.prog, loops := fun r => if Nat.beq r 4 then some ⟨1, [(4, .slice), (5, .slice), (6, .int .i64)], [1]⟩ else none } 51 [.agg [.int .i64 (.var 0), .int .u32 (.var 1), .var 2, .var 3, .bool
 (.var 4), .bool (.var 5), .bool (.var 6), .bool (.var 7), .bool (.var 8), .bool (.var 9), .bool (.var 10), .bool (.var 11), .int .u8 (.var 12), .int .u8 (.var 13), .int .u8 (.var 14), .int .u8 (.var 15), .int .u8 (.var
 16), .int .u8 (.var 17), .int .u8 (.var 18), .int .u8 (.var 19)]] [.int .i64, .int .u32, .slice, .slice, .bool, .bool, .bool, .bool, .bool, .bool, .bool, .bool, .int .u8, .int .u8, .int .u8, .int .u8, .int .u8, .int
 .u8, .int .u8, .int .u8] [] = .blk (.blk (.loop 1 [.cst (.slice none 0 0), .cst (.slice none 0 0), .int .i64 (.lit 0), .int .i64 (.var 0), .int .u32 (.var 1), .var
 2, .var 3, .bool (.var 4), .bool (.var 5), .bool (.var 6), .bool (.var 7), .bool (.var 8), .bool (.var 9), .bool (.var 10), .bool (.var 11), .int .u8 (.var 12), .int
 .u8 (.var 13), .int .u8 (.var 14), .int .u8 (.var 15), .int .u8 (.var 16), .int .u8 (.var 17), .int .u8 (.var 18), .int .u8 (.var 19)]
 [.slice, .slice, .int .i64, .int .i64, .int .u32, .slice, .slice, .bool, .bool, .bool, .bool, .bool, .bool, .bool, .bool, .int
 .u8, .int .u8, .int .u8, .int .u8, .int .u8, .int .u8, .int .u8, .int .u8] [] [21, 20] [(21, [.int .i64 (.lit 0), .int
 .u32 (.lit 0), .cst (.slice none 0 0), .cst (.slice none 0 0), .bool (.lit false), .bool (.lit false), .bool (.lit false), .bool (.lit false), .bool (.lit false), .bool
 (.lit false), .bool (.lit false), .bool (.lit false), .int .u8 (.lit 0), .int .u8 (.lit 0), .int .u8 (.lit 0), .int .u8 (.lit 0), .int .u8 (.lit 0),
 .int .u8 (.lit 0), .int .u8 (.lit 0), .int .u8 (.lit 0)]), (20, [.int .i64 (.var 0), .int .u32 (.var 1), .var 2, .var 3, .bool (.var 4), .bool (.var 5),
 .bool (.var 6), .bool (.var 7), .bool (.var 8), .bool (.var 9), .bool (.var 10), .bool (.var 11), .int .u8 (.var 12), .int .u8 (.var 13), .int .u8 (.var 14),
 .int .u8 (.var 15), .int .u8 (.var 16), .int .u8 (.var 17), .int .u8 (.var 18), .int .u8 (.var 19)])] [(21, [.int .i64 (.lit 0), .int .u32
 (.lit 0), .cst (.slice none 0 0), .cst (.slice none 0 0), .bool (.lit false), .bool (.lit false), .bool (.lit false), .bool (.lit false), .bool (.lit false), .bool (.lit false),
 .bool (.lit false), .bool (.lit false), .int .u8 (.lit 0), .int .u8 (.lit 0), .int .u8 (.lit 0), .int .u8 (.lit 0), .int .u8 (.lit 0), .int .u8
 (.lit 0), .int .u8 (.lit 0), .int .u8 (.lit 0)]), (20, [.int .i64 (.var 25), .int .u32 (.var 26), .var 27, .var 28, .bool (.var 29), .bool (.var 30), .bool
 (.var 31), .bool (.var 32), .bool (.var 33), .bool (.var 34), .bool (.var 35), .bool (.var 36), .int .u8 (.var 37), .int .u8 (.var 38), .int .u8 (.var 39), .int
 .u8 (.var 40), .int .u8 (.var 41), .int .u8 (.var 42), .int .u8 (.var 43), .int .u8 (.var 44)])] (.split (.lt (.var 24) (.len 28)) (.ob (.le (.lit 0)
 (.var 24)) (.ob (.lt (.var 24) (.len 28)) (.ob (.not (.nil 28)) (.start false [] [] [(21, [.int .i64 (.lit 0), .int .u32 (.lit 0), .cst (.slice none 0 0), .cst
 (.slice none 0 0), .bool (.lit false), .bool (.lit false), .bool (.lit false), .bool (.lit false), .bool (.lit false), .bool (.lit false), .bool (.lit false), .bool (.lit false),
 .int .u8 (.lit 0), .int .u8 (.lit 0), .int .u8 (.lit 0), .int .u8 (.lit 0), .int .u8 (.lit 0), .int .u8 (.lit 0), .int .u8 (.lit 0), .int
 .u8 (.lit 0)]), (20, [.int .i64 (.var 25), .int .u32 (.var 26), .var 27, .var 28, .bool (.var 29), .bool (.var 30), .bool (.var 31), .bool (.var 32), .bool (.var
 33), .bool (.var 34), .bool (.var 35), .bool (.var 36), .int .u8 (.var 37), .int .u8 (.var 38), .int .u8 (.var 39), .int .u8 (.var 40), .int .u8 (.var
 41), .int .u8 (.var 42), .int .u8 (.var 43), .int .u8 (.var 44)])] (.load (.elt 28 0 (.var 24) 3 0) [.int .u8, .int .u8, .int .u8] (.blk
 (.split (.eq (.len 27) (.lit 0)) (.blk (.gen (.call { callee := .builtin .append, args := #[.tmp 31, .tmp 33], argTypes := #[57, 57] }) 57 [(.tmp 31, .var 23),
 (.tmp 33, .slc 49 0 1 1)] [.slice] (.var 50) [] false [48] [] [49, 48, 21, 20] [(49, [.int .u8 (.var 45), .int .u8 (.var 46), .int .u8 (.var 47)]), (48, [.int .u8
 (.var 45), .int .u8 (.var 46), .int .u8 (.var 47)]), (21, [.int .i64 (.lit 0), .int .u32 (.lit 0), .cst (.slice none 0 0), .cst (.slice none 0 0), .bool
 (.lit false), .bool (.lit false), .bool (.lit false), .bool (.lit false), .bool (.lit false), .bool (.lit false), .bool (.lit false), .bool (.lit false), .int .u8 (.lit 0),
 .int .u8 (.lit 0), .int .u8 (.lit 0), .int .u8 (.lit 0), .int .u8 (.lit 0), .int .u8 (.lit 0), .int .u8 (.lit 0), .int .u8 (.lit 0)]), (20,
 [.int .i64 (.var 25), .int .u32 (.var 26), .var 27, .var 28, .bool (.var 29), .bool (.var 30), .bool (.var 31), .bool (.var 32), .bool (.var 33), .bool (.var 34),
 .bool (.var 35), .bool (.var 36), .int .u8 (.var 37), .int .u8 (.var 38), .int .u8 (.var 39), .int .u8 (.var 40), .int .u8 (.var 41), .int .u8
 (.var 42), .int .u8 (.var 43), .int .u8 (.var 44)])] (.ob (.le (.lit (-9223372036854775808)) (.add (.var 24) (.lit 1))) (.ob (.le (.add (.var 24) (.lit 1)) (.lit
 9223372036854775807)) (.leaf 1 [.var 22, .var 50, .int .i64 (.add (.var 24) (.lit 1)), .int .i64 (.var 25), .int .u32 (.var 26), .var 27, .var 28, .bool (.var 29),
 .bool (.var 30), .bool (.var 31), .bool (.var 32), .bool (.var 33), .bool (.var 34), .bool (.var 35), .bool (.var 36), .int .u8 (.var 37), .int .u8 (.var 38), .int
 .u8 (.var 39), .int .u8 (.var 40), .int .u8 (.var 41), .int .u8 (.var 42), .int .u8 (.var 43), .int .u8 (.var 44)] [] [(49, [.int .u8 (.var 45),
 .int .u8 (.var 46), .int .u8 (.var 47)]), (48, [.int .u8 (.var 45), .int .u8 (.var 46), .int .u8 (.var 47)]), (21, [.int .i64 (.lit 0), .int
 .u32 (.lit 0), .cst (.slice none 0 0), .cst (.slice none 0 0), .bool (.lit false), .bool (.lit false), .bool (.lit false), .bool (.lit false), .bool (.lit false), .bool
 (.lit false), .bool (.lit false), .bool (.lit false), .int .u8 (.lit 0), .int .u8 (.lit 0), .int .u8 (.lit 0), .int .u8 (.lit 0), .int .u8 (.lit 0),
 .int .u8 (.lit 0), .int .u8 (.lit 0), .int .u8 (.lit 0)]), (20, [.int .i64 (.var 25), .int .u32 (.var 26), .var 27, .var 28, .bool (.var 29), .bool
 (.var 30), .bool (.var 31), .bool (.var 32), .bool (.var 33), .bool (.var 34), .bool (.var 35), .bool (.var 36), .int .u8 (.var 37), .int .u8 (.var 38), .int .u8
 (.var 39), .int .u8 (.var 40), .int .u8 (.var 41), .int .u8 (.var 42), .int .u8 (.var 43), .int .u8 (.var 44)])]))))) (.ob (.le (.lit 0) (.var 45)) (.ob
 (.lt (.var 45) (.lit 8)) (.split (.eq (.var 45) (.lit 0)) (.split (.var 29) (.blk (.gen (.call { callee := .builtin .append, args := #[.tmp 31, .tmp 33], argTypes := #[57, 57] })
 57 [(.tmp 31, .var 23), (.tmp 33, .slc 49 0 1 1)] [.slice] (.var 50) [] false [48] [] [49, 48, 21, 20] [(49, [.int .u8 (.var 45), .int .u8 (.var 46), .int .u8
 (.var 47)]), (48, [.int .u8 (.var 45), .int .u8 (.var 46), .int .u8 (.var 47)]), (21, [.int .i64 (.lit 0), .int .u32 (.lit 0), .cst (.slice none 0 0),
 .cst (.slice none 0 0), .bool (.lit false), .bool (.lit false), .bool (.lit false), .bool (.lit false), .bool (.lit false), .bool (.lit false), .bool (.lit false), .bool (.lit
 false), .int .u8 (.lit 0), .int .u8 (.lit 0), .int .u8 (.lit 0), .int .u8 (.lit 0), .int .u8 (.lit 0), .int .u8 (.lit 0), .int .u8 (.lit 0),
 .int .u8 (.lit 0)]), (20, [.int .i64 (.var 25), .int .u32 (.var 26), .var 27, .var 28, .bool (.var 29), .bool (.var 30), .bool (.var 31), .bool (.var 32), .bool
 (.var 33), .bool (.var 34), .bool (.var 35), .bool (.var 36), .int .u8 (.var 37), .int .u8 (.var 38), .int .u8 (.var 39), .int .u8 (.var 40), .int .u8
 (.var 41), .int .u8 (.var 42), .int .u8 (.var 43), .int .u8 (.var 44)])] (.ob (.le (.lit (-9223372036854775808)) (.add (.var 24) (.lit 1))) (.ob (.le (.add (.var
 24) (.lit 1)) (.lit 9223372036854775807)) (.leaf 1 [.var 22, .var 50, .int .i64 (.add (.var 24) (.lit 1)), .int .i64 (.var 25), .int .u32 (.var 26), .var 27, .var 28,
 .bool (.var 29), .bool (.var 30), .bool (.var 31), .bool (.var 32), .bool (.var 33), .bool (.var 34), .bool (.var 35), .bool (.var 36), .int .u8 (.var 37), .int .u8
 (.var 38), .int .u8 (.var 39), .int .u8 (.var 40), .int .u8 (.var 41), .int .u8 (.var 42), .int .u8 (.var 43), .int .u8 (.var 44)] [] [(49, [.int
 .u8 (.var 45), .int .u8 (.var 46), .int .u8 (.var 47)]), (48, [.int .u8 (.var 45), .int .u8 (.var 46), .int .u8 (.var 47)]), (21, [.int .i64
 (.lit 0), .int .u32 (.lit 0), .cst (.slice none 0 0), .cst (.slice none 0 0), .bool (.lit false), .bool (.lit false), .bool (.lit false), .bool (.lit false), .bool (.lit
 false), .bool (.lit false), .bool (.lit false), .bool (.lit false), .int .u8 (.lit 0), .int .u8 (.lit 0), .int .u8 (.lit 0), .int .u8 (.lit 0), .int .u8
 (.lit 0), .int .u8 (.lit 0), .int .u8 (.lit 0), .int .u8 (.lit 0)]), (20, [.int .i64 (.var 25), .int .u32 (.var 26), .var 27, .var 28, .bool (.var 29),
 .bool (.var 30), .bool (.var 31), .bool (.var 32), .bool (.var 33), .bool (.var 34), .bool (.var 35), .bool (.var 36), .int .u8 (.var 37), .int .u8 (.var 38), .int
 .u8 (.var 39), .int .u8 (.var 40), .int .u8 (.var 41), .int .u8 (.var 42), .int .u8 (.var 43), .int .u8 (.var 44)])]))))) (.start true [48] [48, 21, 20]
 [(48, [.int .u8 (.var 45), .int .u8 (.var 46), .int .u8 (.var 47)]), (21, [.int .i64 (.lit 0), .int .u32 (.lit 0), .cst (.slice none 0 0), .cst
 (.slice none 0 0), .bool (.lit false), .bool (.lit false), .bool (.lit false), .bool (.lit false), .bool (.lit false), .bool (.lit false), .bool (.lit false), .bool (.lit false),
 .int .u8 (.lit 0), .int .u8 (.lit 0), .int .u8 (.lit 0), .int .u8 (.lit 0), .int .u8 (.lit 0), .int .u8 (.lit 0), .int .u8 (.lit 0), .int
 .u8 (.lit 0)]), (20, [.int .i64 (.var 25), .int .u32 (.var 26), .var 27, .var 28, .bool (.var 29), .bool (.var 30), .bool (.var 31), .bool (.var 32), .bool (.var
 33), .bool (.var 34), .bool (.var 35), .bool (.var 36), .int .u8 (.var 37), .int .u8 (.var 38), .int .u8 (.var 39), .int .u8 (.var 40), .int .u8 (.var
 41), .int .u8 (.var 42), .int .u8 (.var 43), .int .u8 (.var 44)])] (.ob (.lt (.lit 0) (.len 27)) (.ob (.not (.nil 27)) (.load (.elt 27 0 (.lit 0) 1 0) [.int
 .u16] (.call 11 [.agg [.int .u8 (.var 45), .int .u8 (.var 46), .int .u8 (.var 47)]] [.int .u32] (.int .u32 (.var 50)) [] true [] [] [48, 21, 20] [(48,
 [.int .u8 (.var 45), .int .u8 (.var 46), .int .u8 (.var 47)]), (21, [.int .i64 (.lit 0), .int .u32 (.lit 0), .cst (.slice none 0 0), .cst (.slice none
 0 0), .bool (.lit false), .bool (.lit false), .bool (.lit false), .bool (.lit false), .bool (.lit false), .bool (.lit false), .bool (.lit false), .bool (.lit false), .int .u8
 (.lit 0), .int .u8 (.lit 0), .int .u8 (.lit 0), .int .u8 (.lit 0), .int .u8 (.lit 0), .int .u8 (.lit 0), .int .u8 (.lit 0), .int .u8 (.lit
 0)]), (20, [.int .i64 (.var 25), .int .u32 (.var 26), .var 27, .var 28, .bool (.var 29), .bool (.var 30), .bool (.var 31), .bool (.var 32), .bool (.var 33), .bool (.var
 34), .bool (.var 35), .bool (.var 36), .int .u8 (.var 37), .int .u8 (.var 38), .int .u8 (.var 39), .int .u8 (.var 40), .int .u8 (.var 41), .int .u8
 (.var 42), .int .u8 (.var 43), .int .u8 (.var 44)])] (.blk (.gen (.call { callee := .builtin .append, args := #[.tmp 35, .tmp 43], argTypes := #[46, 46] }) 46
 [(.tmp 35, .var 22), (.tmp 43, .slc 51 0 1 1)] [.slice] (.var 52) [] true [] [] [51, 48, 21, 20] [(51, [.int .u16 (.var 49), .int .u32 (.var 50)]), (48, [.int .u8
 (.var 45), .int .u8 (.var 46), .int .u8 (.var 47)]), (21, [.int .i64 (.lit 0), .int .u32 (.lit 0), .cst (.slice none 0 0), .cst (.slice none 0 0), .bool
 (.lit false), .bool (.lit false), .bool (.lit false), .bool (.lit false), .bool (.lit false), .bool (.lit false), .bool (.lit false), .bool (.lit false), .int .u8 (.lit 0),
 .int .u8 (.lit 0), .int .u8 (.lit 0), .int .u8 (.lit 0), .int .u8 (.lit 0), .int .u8 (.lit 0), .int .u8 (.lit 0), .int .u8 (.lit 0)]), (20,
 [.int .i64 (.var 25), .int .u32 (.var 26), .var 27, .var 28, .bool (.var 29), .bool (.var 30), .bool (.var 31), .bool (.var 32), .bool (.var 33), .bool (.var 34),
 .bool (.var 35), .bool (.var 36), .int .u8 (.var 37), .int .u8 (.var 38), .int .u8 (.var 39), .int .u8 (.var 40), .int .u8 (.var 41), .int .u8
 (.var 42), .int .u8 (.var 43), .int .u8 (.var 44)])] (.start false [] [] [(51, [.int .u16 (.var 49), .int .u32 (.var 50)]), (48, [.int .u8 (.var 45), .int
 .u8 (.var 46), .int .u8 (.var 47)]), (21, [.int .i64 (.lit 0), .int .u32 (.lit 0), .cst (.slice none 0 0), .cst (.slice none 0 0), .bool (.lit false), .bool
 (.lit false), .bool (.lit false), .bool (.lit false), .bool (.lit false), .bool (.lit false), .bool (.lit false), .bool (.lit false), .int .u8 (.lit 0), .int .u8 (.lit 0),
 .int .u8 (.lit 0), .int .u8 (.lit 0), .int .u8 (.lit 0), .int .u8 (.lit 0), .int .u8 (.lit 0), .int .u8 (.lit 0)]), (20, [.int .i64 (.var 25),
 .int .u32 (.var 26), .var 27, .var 28, .bool (.var 29), .bool (.var 30), .bool (.var 31), .bool (.var 32), .bool (.var 33), .bool (.var 34), .bool (.var 35), .bool (.var
 36), .int .u8 (.var 37), .int .u8 (.var 38), .int .u8 (.var 39), .int .u8 (.var 40), .int .u8 (.var 41), .int .u8 (.var 42), .int .u8 (.var
 43), .int .u8 (.var 44)])] (.pur (.slice 35 (.tmp 46) (some (.const (.int .i64 1))) none none) 35 [(.tmp 46, .var 27), (.const (.int .i64 1), .int
 .i64 (.lit 1))] [.slice] (.var 53) (.start true [20] [51, 48, 21, 20] [(51, [.int .u16 (.var 49), .int .u32 (.var 50)]), (48, [.int .u8 (.var 45), .int .u8
 (.var 46), .int .u8 (.var 47)]), (21, [.int .i64 (.lit 0), .int .u32 (.lit 0), .cst (.slice none 0 0), .cst (.slice none 0 0), .bool (.lit false), .bool (.lit
 false), .bool (.lit false), .bool (.lit false), .bool (.lit false), .bool (.lit false), .bool (.lit false), .bool (.lit false), .int .u8 (.lit 0), .int .u8 (.lit 0), .int
 .u8 (.lit 0), .int .u8 (.lit 0), .int .u8 (.lit 0), .int .u8 (.lit 0), .int .u8 (.lit 0), .int .u8 (.lit 0)]), (20, [.int .i64 (.var 25), .int
 .u32 (.var 26), .var 53, .var 28, .bool (.var 29), .bool (.var 30), .bool (.var 31), .bool (.var 32), .bool (.var 33), .bool (.var 34), .bool (.var 35), .bool (.var 36),
 .int .u8 (.var 37), .int .u8 (.var 38), .int .u8 (.var 39), .int .u8 (.var 40), .int .u8 (.var 41), .int .u8 (.var 42), .int .u8 (.var 43),
 .int .u8 (.var 44)])] (.ob (.le (.lit 0) (.var 45)) (.ob (.lt (.var 45) (.lit 8)) (.ob (.le (.lit 0) (.var 45)) (.ob (.lt (.var 45) (.lit 8)) (.ob (.le (.lit
 (-9223372036854775808)) (.add (.var 24) (.lit 1))) (.ob (.le (.add (.var 24) (.lit 1)) (.lit 9223372036854775807)) (.leaf 1 [.var 52, .var 23, .int .i64 (.add (.var 24) (.lit 1)),
 .int .i64 (.var 25), .int .u32 (.var 26), .var 53, .var 28, .bool (.lit true), .bool (.var 30), .bool (.var 31), .bool (.var 32), .bool (.var 33), .bool (.var 34),
 .bool (.var 35), .bool (.var 36), .int .u8 (.var 47), .int .u8 (.var 38), .int .u8 (.var 39), .int .u8 (.var 40), .int .u8 (.var 41), .int .u8
 (.var 42), .int .u8 (.var 43), .int .u8 (.var 44)] [20] [(51, [.int .u16 (.var 49), .int .u32 (.var 50)]), (48, [.int .u8 (.var 45), .int .u8 (.var
 46), .int .u8 (.var 47)]), (21, [.int .i64 (.lit 0), .int .u32 (.lit 0), .cst (.slice none 0 0), .cst (.slice none 0 0), .bool (.lit false), .bool (.lit false),
 .bool (.lit false), .bool (.lit false), .bool (.lit false), .bool (.lit false), .bool (.lit false), .bool (.lit false), .int .u8 (.lit 0), .int .u8 (.lit 0), .int
 .u8 (.lit 0), .int .u8 (.lit 0), .int .u8 (.lit 0), .int .u8 (.lit 0), .int .u8 (.lit 0), .int .u8 (.lit 0)]), (20, [.int .i64 (.var 25), .int
 .u32 (.var 26), .var 53, .var 28, .bool (.lit true), .bool (.var 30), .bool (.var 31), .bool (.var 32), .bool (.var 33), .bool (.var 34), .bool (.var 35), .bool (.var 36),
 .int .u8 (.var 47), .int .u8 (.var 38), .int .u8 (.var 39), .int .u8 (.var 40), .int .u8 (.var 41), .int .u8 (.var 42), .int .u8 (.var 43),
 .int .u8 (.var 44)])])))))))))))))))))) (.split (.eq (.var 45) (.lit 1)) (.split (.var 30) (.blk (.gen (.call { callee := .builtin .append, args := #[.tmp 31, .tmp 33], argTypes := #[57, 57] })
 57 [(.tmp 31, .var 23), (.tmp 33, .slc 49 0 1 1)] [.slice] (.var 50) [] false [48] [] [49, 48, 21, 20] [(49, [.int .u8 (.var 45), .int .u8 (.var 46), .int .u8
 (.var 47)]), (48, [.int .u8 (.var 45), .int .u8 (.var 46), .int .u8 (.var 47)]), (21, [.int .i64 (.lit 0), .int .u32 (.lit 0), .cst (.slice none 0 0),
 .cst (.slice none 0 0), .bool (.lit false), .bool (.lit false), .bool (.lit false), .bool (.lit false), .bool (.lit false), .bool (.lit false), .bool (.lit false), .bool (.lit
 false), .int .u8 (.lit 0), .int .u8 (.lit 0), .int .u8 (.lit 0), .int .u8 (.lit 0), .int .u8 (.lit 0), .int .u8 (.lit 0), .int .u8 (.lit 0),
 .int .u8 (.lit 0)]), (20, [.int .i64 (.var 25), .int .u32 (.var 26), .var 27, .var 28, .bool (.var 29), .bool (.var 30), .bool (.var 31), .bool (.var 32), .bool
 (.var 33), .bool (.var 34), .bool (.var 35), .bool (.var 36), .int .u8 (.var 37), .int .u8 (.var 38), .int .u8 (.var 39), .int .u8 (.var 40), .int .u8
 (.var 41), .int .u8 (.var 42), .int .u8 (.var 43), .int .u8 (.var 44)])] (.ob (.le (.lit (-9223372036854775808)) (.add (.var 24) (.lit 1))) (.ob (.le (.add (.var
 24) (.lit 1)) (.lit 9223372036854775807)) (.leaf 1 [.var 22, .var 50, .int .i64 (.add (.var 24) (.lit 1)), .int .i64 (.var 25), .int .u32 (.var 26), .var 27, .var 28,
 .bool (.var 29), .bool (.var 30), .bool (.var 31), .bool (.var 32), .bool (.var 33), .bool (.var 34), .bool (.var 35), .bool (.var 36), .int .u8 (.var 37), .int .u8
 (.var 38), .int .u8 (.var 39), .int .u8 (.var 40), .int .u8 (.var 41), .int .u8 (.var 42), .int .u8 (.var 43), .int .u8 (.var 44)] [] [(49, [.int
 .u8 (.var 45), .int .u8 (.var 46), .int .u8 (.var 47)]), (48, [.int .u8 (.var 45), .int .u8 (.var 46), .int .u8 (.var 47)]), (21, [.int .i64
 (.lit 0), .int .u32 (.lit 0), .cst (.slice none 0 0), .cst (.slice none 0 0), .bool (.lit false), .bool (.lit false), .bool (.lit false), .bool (.lit false), .bool (.lit
 false), .bool (.lit false), .bool (.lit false), .bool (.lit false), .int .u8 (.lit 0), .int .u8 (.lit 0), .int .u8 (.lit 0), .int .u8 (.lit 0), .int .u8
 (.lit 0), .int .u8 (.lit 0), .int .u8 (.lit 0), .int .u8 (.lit 0)]), (20, [.int .i64 (.var 25), .int .u32 (.var 26), .var 27, .var 28, .bool (.var 29),
 .bool (.var 30), .bool (.var 31), .bool (.var 32), .bool (.var 33), .bool (.var 34), .bool (.var 35), .bool (.var 36), .int .u8 (.var 37), .int .u8 (.var 38), .int
 .u8 (.var 39), .int .u8 (.var 40), .int .u8 (.var 41), .int .u8 (.var 42), .int .u8 (.var 43), .int .u8 (.var 44)])]))))) (.start true [48] [48, 21, 20]
 [(48, [.int .u8 (.var 45), .int .u8 (.var 46), .int .u8 (.var 47)]), (21, [.int .i64 (.lit 0), .int .u32 (.lit 0), .cst (.slice none 0 0), .cst
 (.slice none 0 0), .bool (.lit false), .bool (.lit false), .bool (.lit false), .bool (.lit false), .bool (.lit false), .bool (.lit false), .bool (.lit false), .bool (.lit false),
 .int .u8 (.lit 0), .int .u8 (.lit 0), .int .u8 (.lit 0), .int .u8 (.lit 0), .int .u8 (.lit 0), .int .u8 (.lit 0), .int .u8 (.lit 0), .int
 .u8 (.lit 0)]), (20, [.int .i64 (.var 25), .int .u32 (.var 26), .var 27, .var 28, .bool (.var 29), .bool (.var 30), .bool (.var 31), .bool (.var 32), .bool (.var
 33), .bool (.var 34), .bool (.var 35), .bool (.var 36), .int .u8 (.var 37), .int .u8 (.var 38), .int .u8 (.var 39), .int .u8 (.var 40), .int .u8 (.var
 41), .int .u8 (.var 42), .int .u8 (.var 43), .int .u8 (.var 44)])] (.ob (.lt (.lit 0) (.len 27)) (.ob (.not (.nil 27)) (.load (.elt 27 0 (.lit 0) 1 0) [.int
 .u16] (.call 11 [.agg [.int .u8 (.var 45), .int .u8 (.var 46), .int .u8 (.var 47)]] [.int .u32] (.int .u32 (.var 50)) [] true [] [] [48, 21, 20] [(48,
 [.int .u8 (.var 45), .int .u8 (.var 46), .int .u8 (.var 47)]), (21, [.int .i64 (.lit 0), .int .u32 (.lit 0), .cst (.slice none 0 0), .cst (.slice none
 0 0), .bool (.lit false), .bool (.lit false), .bool (.lit false), .bool (.lit false), .bool (.lit false), .bool (.lit false), .bool (.lit false), .bool (.lit false), .int .u8
 (.lit 0), .int .u8 (.lit 0), .int .u8 (.lit 0), .int .u8 (.lit 0), .int .u8 (.lit 0), .int .u8 (.lit 0), .int .u8 (.lit 0), .int .u8 (.lit
 0)]), (20, [.int .i64 (.var 25), .int .u32 (.var 26), .var 27, .var 28, .bool (.var 29), .bool (.var 30), .bool (.var 31), .bool (.var 32), .bool (.var 33), .bool (.var
 34), .bool (.var 35), .bool (.var 36), .int .u8 (.var 37), .int .u8 (.var 38), .int .u8 (.var 39), .int .u8 (.var 40), .int .u8 (.var 41), .int .u8
 (.var 42), .int .u8 (.var 43), .int .u8 (.var 44)])] (.blk (.gen (.call { callee := .builtin .append, args := #[.tmp 35, .tmp 43], argTypes := #[46, 46] }) 46
 [(.tmp 35, .var 22), (.tmp 43, .slc 51 0 1 1)] [.slice] (.var 52) [] true [] [] [51, 48, 21, 20] [(51, [.int .u16 (.var 49), .int .u32 (.var 50)]), (48, [.int .u8
 (.var 45), .int .u8 (.var 46), .int .u8 (.var 47)]), (21, [.int .i64 (.lit 0), .int .u32 (.lit 0), .cst (.slice none 0 0), .cst (.slice none 0 0), .bool
 (.lit false), .bool (.lit false), .bool (.lit false), .bool (.lit false), .bool (.lit false), .bool (.lit false), .bool (.lit false), .bool (.lit false), .int .u8 (.lit 0),
 .int .u8 (.lit 0), .int .u8 (.lit 0), .int .u8 (.lit 0), .int .u8 (.lit 0), .int .u8 (.lit 0), .int .u8 (.lit 0), .int .u8 (.lit 0)]), (20,
 [.int .i64 (.var 25), .int .u32 (.var 26), .var 27, .var 28, .bool (.var 29), .bool (.var 30), .bool (.var 31), .bool (.var 32), .bool (.var 33), .bool (.var 34),
 .bool (.var 35), .bool (.var 36), .int .u8 (.var 37), .int .u8 (.var 38), .int .u8 (.var 39), .int .u8 (.var 40), .int .u8 (.var 41), .int .u8
 (.var 42), .int .u8 (.var 43), .int .u8 (.var 44)])] (.start false [] [] [(51, [.int .u16 (.var 49), .int .u32 (.var 50)]), (48, [.int .u8 (.var 45), .int
 .u8 (.var 46), .int .u8 (.var 47)]), (21, [.int .i64 (.lit 0), .int .u32 (.lit 0), .cst (.slice none 0 0), .cst (.slice none 0 0), .bool (.lit false), .bool
 (.lit false), .bool (.lit false), .bool (.lit false), .bool (.lit false), .bool (.lit false), .bool (.lit false), .bool (.lit false), .int .u8 (.lit 0), .int .u8 (.lit 0),
 .int .u8 (.lit 0), .int .u8 (.lit 0), .int .u8 (.lit 0), .int .u8 (.lit 0), .int .u8 (.lit 0), .int .u8 (.lit 0)]), (20, [.int .i64 (.var 25),
 .int .u32 (.var 26), .var 27, .var 28, .bool (.var 29), .bool (.var 30), .bool (.var 31), .bool (.var 32), .bool (.var 33), .bool (.var 34), .bool (.var 35), .bool (.var
 36), .int .u8 (.var 37), .int .u8 (.var 38), .int .u8 (.var 39), .int .u8 (.var 40), .int .u8 (.var 41), .int .u8 (.var 42), .int .u8 (.var
 43), .int .u8 (.var 44)])] (.pur (.slice 35 (.tmp 46) (some (.const (.int .i64 1))) none none) 35 [(.tmp 46, .var 27), (.const (.int .i64 1), .int
 .i64 (.lit 1))] [.slice] (.var 53) (.start true [20] [51, 48, 21, 20] [(51, [.int .u16 (.var 49), .int .u32 (.var 50)]), (48, [.int .u8 (.var 45), .int .u8
 (.var 46), .int .u8 (.var 47)]), (21, [.int .i64 (.lit 0), .int .u32 (.lit 0), .cst (.slice none 0 0), .cst (.slice none 0 0), .bool (.lit false), .bool (.lit
 false), .bool (.lit false), .bool (.lit false), .bool (.lit false), .bool (.lit false), .bool (.lit false), .bool (.lit false), .int .u8 (.lit 0), .int .u8 (.lit 0), .int
 .u8 (.lit 0), .int .u8 (.lit 0), .int .u8 (.lit 0), .int .u8 (.lit 0), .int .u8 (.lit 0), .int .u8 (.lit 0)]), (20, [.int .i64 (.var 25), .int
 .u32 (.var 26), .var 53, .var 28, .bool (.var 29), .bool (.var 30), .bool (.var 31), .bool (.var 32), .bool (.var 33), .bool (.var 34), .bool (.var 35), .bool (.var 36),
 .int .u8 (.var 37), .int .u8 (.var 38), .int .u8 (.var 39), .int .u8 (.var 40), .int .u8 (.var 41), .int .u8 (.var 42), .int .u8 (.var 43),
 .int .u8 (.var 44)])] (.ob (.le (.lit 0) (.var 45)) (.ob (.lt (.var 45) (.lit 8)) (.ob (.le (.lit 0) (.var 45)) (.ob (.lt (.var 45) (.lit 8)) (.ob (.le (.lit
 (-9223372036854775808)) (.add (.var 24) (.lit 1))) (.ob (.le (.add (.var 24) (.lit 1)) (.lit 9223372036854775807)) (.leaf 1 [.var 52, .var 23, .int .i64 (.add (.var 24) (.lit 1)),
 .int .i64 (.var 25), .int .u32 (.var 26), .var 53, .var 28, .bool (.var 29), .bool (.lit true), .bool (.var 31), .bool (.var 32), .bool (.var 33), .bool (.var 34),
 .bool (.var 35), .bool (.var 36), .int .u8 (.var 37), .int .u8 (.var 47), .int .u8 (.var 39), .int .u8 (.var 40), .int .u8 (.var 41), .int .u8
 (.var 42), .int .u8 (.var 43), .int .u8 (.var 44)] [20] [(51, [.int .u16 (.var 49), .int .u32 (.var 50)]), (48, [.int .u8 (.var 45), .int .u8 (.var
 46), .int .u8 (.var 47)]), (21, [.int .i64 (.lit 0), .int .u32 (.lit 0), .cst (.slice none 0 0), .cst (.slice none 0 0), .bool (.lit false), .bool (.lit false),
 .bool (.lit false), .bool (.lit false), .bool (.lit false), .bool (.lit false), .bool (.lit false), .bool (.lit false), .int .u8 (.lit 0), .int .u8 (.lit 0), .int
 .u8 (.lit 0), .int .u8 (.lit 0), .int .u8 (.lit 0), .int .u8 (.lit 0), .int .u8 (.lit 0), .int .u8 (.lit 0)]), (20, [.int .i64 (.var 25), .int
 .u32 (.var 26), .var 53, .var 28, .bool (.var 29), .bool (.lit true), .bool (.var 31), .bool (.var 32), .bool (.var 33), .bool (.var 34), .bool (.var 35), .bool (.var 36),
 .int .u8 (.var 37), .int .u8 (.var 47), .int .u8 (.var 39), .int .u8 (.var 40), .int .u8 (.var 41), .int .u8 (.var 42), .int .u8 (.var 43),
 .int .u8 (.var 44)])])))))))))))))))))) (.split (.eq (.var 45) (.lit 2)) (.split (.var 31) (.blk (.gen (.call { callee := .builtin .append, args := #[.tmp 31, .tmp 33], argTypes := #[57, 57] })
 57 [(.tmp 31, .var 23), (.tmp 33, .slc 49 0 1 1)] [.slice] (.var 50) [] false [48] [] [49, 48, 21, 20] [(49, [.int .u8 (.var 45), .int .u8 (.var 46), .int .u8
 (.var 47)]), (48, [.int .u8 (.var 45), .int .u8 (.var 46), .int .u8 (.var 47)]), (21, [.int .i64 (.lit 0), .int .u32 (.lit 0), .cst (.slice none 0 0),
 .cst (.slice none 0 0), .bool (.lit false), .bool (.lit false), .bool (.lit false), .bool (.lit false), .bool (.lit false), .bool (.lit false), .bool (.lit false), .bool (.lit
 false), .int .u8 (.lit 0), .int .u8 (.lit 0), .int .u8 (.lit 0), .int .u8 (.lit 0), .int .u8 (.lit 0), .int .u8 (.lit 0), .int .u8 (.lit 0),
 .int .u8 (.lit 0)]), (20, [.int .i64 (.var 25), .int .u32 (.var 26), .var 27, .var 28, .bool (.var 29), .bool (.var 30), .bool (.var 31), .bool (.var 32), .bool
 (.var 33), .bool (.var 34), .bool (.var 35), .bool (.var 36), .int .u8 (.var 37), .int .u8 (.var 38), .int .u8 (.var 39), .int .u8 (.var 40), .int .u8
 (.var 41), .int .u8 (.var 42), .int .u8 (.var 43), .int .u8 (.var 44)])] (.ob (.le (.lit (-9223372036854775808)) (.add (.var 24) (.lit 1))) (.ob (.le (.add (.var
 24) (.lit 1)) (.lit 9223372036854775807)) (.leaf 1 [.var 22, .var 50, .int .i64 (.add (.var 24) (.lit 1)), .int .i64 (.var 25), .int .u32 (.var 26), .var 27, .var 28,
 .bool (.var 29), .bool (.var 30), .bool (.var 31), .bool (.var 32), .bool (.var 33), .bool (.var 34), .bool (.var 35), .bool (.var 36), .int .u8 (.var 37), .int .u8
 (.var 38), .int .u8 (.var 39), .int .u8 (.var 40), .int .u8 (.var 41), .int .u8 (.var 42), .int .u8 (.var 43), .int .u8 (.var 44)] [] [(49, [.int
 .u8 (.var 45), .int .u8 (.var 46), .int .u8 (.var 47)]), (48, [.int .u8 (.var 45), .int .u8 (.var 46), .int .u8 (.var 47)]), (21, [.int .i64
 (.lit 0), .int .u32 (.lit 0), .cst (.slice none 0 0), .cst (.slice none 0 0), .bool (.lit false), .bool (.lit false), .bool (.lit false), .bool (.lit false), .bool (.lit
 false), .bool (.lit false), .bool (.lit false), .bool (.lit false), .int .u8 (.lit 0), .int .u8 (.lit 0), .int .u8 (.lit 0), .int .u8 (.lit 0), .int .u8
 (.lit 0), .int .u8 (.lit 0), .int .u8 (.lit 0), .int .u8 (.lit 0)]), (20, [.int .i64 (.var 25), .int .u32 (.var 26), .var 27, .var 28, .bool (.var 29),
 .bool (.var 30), .bool (.var 31), .bool (.var 32), .bool (.var 33), .bool (.var 34), .bool (.var 35), .bool (.var 36), .int .u8 (.var 37), .int .u8 (.var 38), .int
 .u8 (.var 39), .int .u8 (.var 40), .int .u8 (.var 41), .int .u8 (.var 42), .int .u8 (.var 43), .int .u8 (.var 44)])]))))) (.start true [48] [48, 21, 20]
 [(48, [.int .u8 (.var 45), .int .u8 (.var 46), .int .u8 (.var 47)]), (21, [.int .i64 (.lit 0), .int .u32 (.lit 0), .cst (.slice none 0 0), .cst
 (.slice none 0 0), .bool (.lit false), .bool (.lit false), .bool (.lit false), .bool (.lit false), .bool (.lit false), .bool (.lit false), .bool (.lit false), .bool (.lit false),
 .int .u8 (.lit 0), .int .u8 (.lit 0), .int .u8 (.lit 0), .int .u8 (.lit 0), .int .u8 (.lit 0), .int .u8 (.lit 0), .int .u8 (.lit 0), .int
 .u8 (.lit 0)]), (20, [.int .i64 (.var 25), .int .u32 (.var 26), .var 27, .var 28, .bool (.var 29), .bool (.var 30), .bool (.var 31), .bool (.var 32), .bool (.var
 33), .bool (.var 34), .bool (.var 35), .bool (.var 36), .int .u8 (.var 37), .int .u8 (.var 38), .int .u8 (.var 39), .int .u8 (.var 40), .int .u8 (.var
 41), .int .u8 (.var 42), .int .u8 (.var 43), .int .u8 (.var 44)])] (.ob (.lt (.lit 0) (.len 27)) (.ob (.not (.nil 27)) (.load (.elt 27 0 (.lit 0) 1 0) [.int
 .u16] (.call 11 [.agg [.int .u8 (.var 45), .int .u8 (.var 46), .int .u8 (.var 47)]] [.int .u32] (.int .u32 (.var 50)) [] true [] [] [48, 21, 20] [(48,
 [.int .u8 (.var 45), .int .u8 (.var 46), .int .u8 (.var 47)]), (21, [.int .i64 (.lit 0), .int .u32 (.lit 0), .cst (.slice none 0 0), .cst (.slice none
 0 0), .bool (.lit false), .bool (.lit false), .bool (.lit false), .bool (.lit false), .bool (.lit false), .bool (.lit false), .bool (.lit false), .bool (.lit false), .int .u8
 (.lit 0), .int .u8 (.lit 0), .int .u8 (.lit 0), .int .u8 (.lit 0), .int .u8 (.lit 0), .int .u8 (.lit 0), .int .u8 (.lit 0), .int .u8 (.lit
 0)]), (20, [.int .i64 (.var 25), .int .u32 (.var 26), .var 27, .var 28, .bool (.var 29), .bool (.var 30), .bool (.var 31), .bool (.var 32), .bool (.var 33), .bool (.var
 34), .bool (.var 35), .bool (.var 36), .int .u8 (.var 37), .int .u8 (.var 38), .int .u8 (.var 39), .int .u8 (.var 40), .int .u8 (.var 41), .int .u8
 (.var 42), .int .u8 (.var 43), .int .u8 (.var 44)])] (.blk (.gen (.call { callee := .builtin .append, args := #[.tmp 35, .tmp 43], argTypes := #[46, 46] }) 46
 [(.tmp 35, .var 22), (.tmp 43, .slc 51 0 1 1)] [.slice] (.var 52) [] true [] [] [51, 48, 21, 20] [(51, [.int .u16 (.var 49), .int .u32 (.var 50)]), (48, [.int .u8
 (.var 45), .int .u8 (.var 46), .int .u8 (.var 47)]), (21, [.int .i64 (.lit 0), .int .u32 (.lit 0), .cst (.slice none 0 0), .cst (.slice none 0 0), .bool
 (.lit false), .bool (.lit false), .bool (.lit false), .bool (.lit false), .bool (.lit false), .bool (.lit false), .bool (.lit false), .bool (.lit false), .int .u8 (.lit 0),
 .int .u8 (.lit 0), .int .u8 (.lit 0), .int .u8 (.lit 0), .int .u8 (.lit 0), .int .u8 (.lit 0), .int .u8 (.lit 0), .int .u8 (.lit 0)]), (20,
 [.int .i64 (.var 25), .int .u32 (.var 26), .var 27, .var 28, .bool (.var 29), .bool (.var 30), .bool (.var 31), .bool (.var 32), .bool (.var 33), .bool (.var 34),
 .bool (.var 35), .bool (.var 36), .int .u8 (.var 37), .int .u8 (.var 38), .int .u8 (.var 39), .int .u8 (.var 40), .int .u8 (.var 41), .int .u8
 (.var 42), .int .u8 (.var 43), .int .u8 (.var 44)])] (.start false [] [] [(51, [.int .u16 (.var 49), .int .u32 (.var 50)]), (48, [.int .u8 (.var 45), .int
 .u8 (.var 46), .int .u8 (.var 47)]), (21, [.int .i64 (.lit 0), .int .u32 (.lit 0), .cst (.slice none 0 0), .cst (.slice none 0 0), .bool (.lit false), .bool
 (.lit false), .bool (.lit false), .bool (.lit false), .bool (.lit false), .bool (.lit false), .bool (.lit false), .bool (.lit false), .int .u8 (.lit 0), .int .u8 (.lit 0),
 .int .u8 (.lit 0), .int .u8 (.lit 0), .int .u8 (.lit 0), .int .u8 (.lit 0), .int .u8 (.lit 0), .int .u8 (.lit 0)]), (20, [.int .i64 (.var 25),
 .int .u32 (.var 26), .var 27, .var 28, .bool (.var 29), .bool (.var 30), .bool (.var 31), .bool (.var 32), .bool (.var 33), .bool (.var 34), .bool (.var 35), .bool (.var
 36), .int .u8 (.var 37), .int .u8 (.var 38), .int .u8 (.var 39), .int .u8 (.var 40), .int .u8 (.var 41), .int .u8 (.var 42), .int .u8 (.var
 43), .int .u8 (.var 44)])] (.pur (.slice 35 (.tmp 46) (some (.const (.int .i64 1))) none none) 35 [(.tmp 46, .var 27), (.const (.int .i64 1), .int
 .i64 (.lit 1))] [.slice] (.var 53) (.start true [20] [51, 48, 21, 20] [(51, [.int .u16 (.var 49), .int .u32 (.var 50)]), (48, [.int .u8 (.var 45), .int .u8
 (.var 46), .int .u8 (.var 47)]), (21, [.int .i64 (.lit 0), .int .u32 (.lit 0), .cst (.slice none 0 0), .cst (.slice none 0 0), .bool (.lit false), .bool (.lit
 false), .bool (.lit false), .bool (.lit false), .bool (.lit false), .bool (.lit false), .bool (.lit false), .bool (.lit false), .int .u8 (.lit 0), .int .u8 (.lit 0), .int
 .u8 (.lit 0), .int .u8 (.lit 0), .int .u8 (.lit 0), .int .u8 (.lit 0), .int .u8 (.lit 0), .int .u8 (.lit 0)]), (20, [.int .i64 (.var 25), .int
 .u32 (.var 26), .var 53, .var 28, .bool (.var 29), .bool (.var 30), .bool (.var 31), .bool (.var 32), .bool (.var 33), .bool (.var 34), .bool (.var 35), .bool (.var 36),
 .int .u8 (.var 37), .int .u8 (.var 38), .int .u8 (.var 39), .int .u8 (.var 40), .int .u8 (.var 41), .int .u8 (.var 42), .int .u8 (.var 43),
 .int .u8 (.var 44)])] (.ob (.le (.lit 0) (.var 45)) (.ob (.lt (.var 45) (.lit 8)) (.ob (.le (.lit 0) (.var 45)) (.ob (.lt (.var 45) (.lit 8)) (.ob (.le (.lit
 (-9223372036854775808)) (.add (.var 24) (.lit 1))) (.ob (.le (.add (.var 24) (.lit 1)) (.lit 9223372036854775807)) (.leaf 1 [.var 52, .var 23, .int .i64 (.add (.var 24) (.lit 1)),
 .int .i64 (.var 25), .int .u32 (.var 26), .var 53, .var 28, .bool (.var 29), .bool (.var 30), .bool (.lit true), .bool (.var 32), .bool (.var 33), .bool (.var 34),
 .bool (.var 35), .bool (.var 36), .int .u8 (.var 37), .int .u8 (.var 38), .int .u8 (.var 47), .int .u8 (.var 40), .int .u8 (.var 41), .int .u8
 (.var 42), .int .u8 (.var 43), .int .u8 (.var 44)] [20] [(51, [.int .u16 (.var 49), .int .u32 (.var 50)]), (48, [.int .u8 (.var 45), .int .u8 (.var
 46), .int .u8 (.var 47)]), (21, [.int .i64 (.lit 0), .int .u32 (.lit 0), .cst (.slice none 0 0), .cst (.slice none 0 0), .bool (.lit false), .bool (.lit false),
 .bool (.lit false), .bool (.lit false), .bool (.lit false), .bool (.lit false), .bool (.lit false), .bool (.lit false), .int .u8 (.lit 0), .int .u8 (.lit 0), .int
 .u8 (.lit 0), .int .u8 (.lit 0), .int .u8 (.lit 0), .int .u8 (.lit 0), .int .u8 (.lit 0), .int .u8 (.lit 0)]), (20, [.int .i64 (.var 25), .int
 .u32 (.var 26), .var 53, .var 28, .bool (.var 29), .bool (.var 30), .bool (.lit true), .bool (.var 32), .bool (.var 33), .bool (.var 34), .bool (.var 35), .bool (.var 36),
 .int .u8 (.var 37), .int .u8 (.var 38), .int .u8 (.var 47), .int .u8 (.var 40), .int .u8 (.var 41), .int .u8 (.var 42), .int .u8 (.var 43),
 .int .u8 (.var 44)])])))))))))))))))))) (.split (.eq (.var 45) (.lit 3)) (.split (.var 32) (.blk (.gen (.call { callee := .builtin .append, args := #[.tmp 31, .tmp 33], argTypes := #[57, 57] })
 57 [(.tmp 31, .var 23), (.tmp 33, .slc 49 0 1 1)] [.slice] (.var 50) [] false [48] [] [49, 48, 21, 20] [(49, [.int .u8 (.var 45), .int .u8 (.var 46), .int .u8
 (.var 47)]), (48, [.int .u8 (.var 45), .int .u8 (.var 46), .int .u8 (.var 47)]), (21, [.int .i64 (.lit 0), .int .u32 (.lit 0), .cst (.slice none 0 0),
 .cst (.slice none 0 0), .bool (.lit false), .bool (.lit false), .bool (.lit false), .bool (.lit false), .bool (.lit false), .bool (.lit false), .bool (.lit false), .bool (.lit
 false), .int .u8 (.lit 0), .int .u8 (.lit 0), .int .u8 (.lit 0), .int .u8 (.lit 0), .int .u8 (.lit 0), .int .u8 (.lit 0), .int .u8 (.lit 0),
 .int .u8 (.lit 0)]), (20, [.int .i64 (.var 25), .int .u32 (.var 26), .var 27, .var 28, .bool (.var 29), .bool (.var 30), .bool (.var 31), .bool (.var 32), .bool
 (.var 33), .bool (.var 34), .bool (.var 35), .bool (.var 36), .int .u8 (.var 37), .int .u8 (.var 38), .int .u8 (.var 39), .int .u8 (.var 40), .int .u8
 (.var 41), .int .u8 (.var 42), .int .u8 (.var 43), .int .u8 (.var 44)])] (.ob (.le (.lit (-9223372036854775808)) (.add (.var 24) (.lit 1))) (.ob (.le (.add (.var
 24) (.lit 1)) (.lit 9223372036854775807)) (.leaf 1 [.var 22, .var 50, .int .i64 (.add (.var 24) (.lit 1)), .int .i64 (.var 25), .int .u32 (.var 26), .var 27, .var 28,
 .bool (.var 29), .bool (.var 30), .bool (.var 31), .bool (.var 32), .bool (.var 33), .bool (.var 34), .bool (.var 35), .bool (.var 36), .int .u8 (.var 37), .int .u8
 (.var 38), .int .u8 (.var 39), .int .u8 (.var 40), .int .u8 (.var 41), .int .u8 (.var 42), .int .u8 (.var 43), .int .u8 (.var 44)] [] [(49, [.int
 .u8 (.var 45), .int .u8 (.var 46), .int .u8 (.var 47)]), (48, [.int .u8 (.var 45), .int .u8 (.var 46), .int .u8 (.var 47)]), (21, [.int .i64
 (.lit 0), .int .u32 (.lit 0), .cst (.slice none 0 0), .cst (.slice none 0 0), .bool (.lit false), .bool (.lit false), .bool (.lit false), .bool (.lit false), .bool (.lit
 false), .bool (.lit false), .bool (.lit false), .bool (.lit false), .int .u8 (.lit 0), .int .u8 (.lit 0), .int .u8 (.lit 0), .int .u8 (.lit 0), .int .u8
 (.lit 0), .int .u8 (.lit 0), .int .u8 (.lit 0), .int .u8 (.lit 0)]), (20, [.int .i64 (.var 25), .int .u32 (.var 26), .var 27, .var 28, .bool (.var 29),
 .bool (.var 30), .bool (.var 31), .bool (.var 32), .bool (.var 33), .bool (.var 34), .bool (.var 35), .bool (.var 36), .int .u8 (.var 37), .int .u8 (.var 38), .int
 .u8 (.var 39), .int .u8 (.var 40), .int .u8 (.var 41), .int .u8 (.var 42), .int .u8 (.var 43), .int .u8 (.var 44)])]))))) (.start true [48] [48, 21, 20]
 [(48, [.int .u8 (.var 45), .int .u8 (.var 46), .int .u8 (.var 47)]), (21, [.int .i64 (.lit 0), .int .u32 (.lit 0), .cst (.slice none 0 0), .cst
 (.slice none 0 0), .bool (.lit false), .bool (.lit false), .bool (.lit false), .bool (.lit false), .bool (.lit false), .bool (.lit false), .bool (.lit false), .bool (.lit false),
 .int .u8 (.lit 0), .int .u8 (.lit 0), .int .u8 (.lit 0), .int .u8 (.lit 0), .int .u8 (.lit 0), .int .u8 (.lit 0), .int .u8 (.lit 0), .int
 .u8 (.lit 0)]), (20, [.int .i64 (.var 25), .int .u32 (.var 26), .var 27, .var 28, .bool (.var 29), .bool (.var 30), .bool (.var 31), .bool (.var 32), .bool (.var
 33), .bool (.var 34), .bool (.var 35), .bool (.var 36), .int .u8 (.var 37), .int .u8 (.var 38), .int .u8 (.var 39), .int .u8 (.var 40), .int .u8 (.var
 41), .int .u8 (.var 42), .int .u8 (.var 43), .int .u8 (.var 44)])] (.ob (.lt (.lit 0) (.len 27)) (.ob (.not (.nil 27)) (.load (.elt 27 0 (.lit 0) 1 0) [.int
 .u16] (.call 11 [.agg [.int .u8 (.var 45), .int .u8 (.var 46), .int .u8 (.var 47)]] [.int .u32] (.int .u32 (.var 50)) [] true [] [] [48, 21, 20] [(48,
 [.int .u8 (.var 45), .int .u8 (.var 46), .int .u8 (.var 47)]), (21, [.int .i64 (.lit 0), .int .u32 (.lit 0), .cst (.slice none 0 0), .cst (.slice none
 0 0), .bool (.lit false), .bool (.lit false), .bool (.lit false), .bool (.lit false), .bool (.lit false), .bool (.lit false), .bool (.lit false), .bool (.lit false), .int .u8
 (.lit 0), .int .u8 (.lit 0), .int .u8 (.lit 0), .int .u8 (.lit 0), .int .u8 (.lit 0), .int .u8 (.lit 0), .int .u8 (.lit 0), .int .u8 (.lit
 0)]), (20, [.int .i64 (.var 25), .int .u32 (.var 26), .var 27, .var 28, .bool (.var 29), .bool (.var 30), .bool (.var 31), .bool (.var 32), .bool (.var 33), .bool (.var
 34), .bool (.var 35), .bool (.var 36), .int .u8 (.var 37), .int .u8 (.var 38), .int .u8 (.var 39), .int .u8 (.var 40), .int .u8 (.var 41), .int .u8
 (.var 42), .int .u8 (.var 43), .int .u8 (.var 44)])] (.blk (.gen (.call { callee := .builtin .append, args := #[.tmp 35, .tmp 43], argTypes := #[46, 46] }) 46
 [(.tmp 35, .var 22), (.tmp 43, .slc 51 0 1 1)] [.slice] (.var 52) [] true [] [] [51, 48, 21, 20] [(51, [.int .u16 (.var 49), .int .u32 (.var 50)]), (48, [.int .u8
 (.var 45), .int .u8 (.var 46), .int .u8 (.var 47)]), (21, [.int .i64 (.lit 0), .int .u32 (.lit 0), .cst (.slice none 0 0), .cst (.slice none 0 0), .bool
 (.lit false), .bool (.lit false), .bool (.lit false), .bool (.lit false), .bool (.lit false), .bool (.lit false), .bool (.lit false), .bool (.lit false), .int .u8 (.lit 0),
 .int .u8 (.lit 0), .int .u8 (.lit 0), .int .u8 (.lit 0), .int .u8 (.lit 0), .int .u8 (.lit 0), .int .u8 (.lit 0), .int .u8 (.lit 0)]), (20,
 [.int .i64 (.var 25), .int .u32 (.var 26), .var 27, .var 28, .bool (.var 29), .bool (.var 30), .bool (.var 31), .bool (.var 32), .bool (.var 33), .bool (.var 34),
 .bool (.var 35), .bool (.var 36), .int .u8 (.var 37), .int .u8 (.var 38), .int .u8 (.var 39), .int .u8 (.var 40), .int .u8 (.var 41), .int .u8
 (.var 42), .int .u8 (.var 43), .int .u8 (.var 44)])] (.start false [] [] [(51, [.int .u16 (.var 49), .int .u32 (.var 50)]), (48, [.int .u8 (.var 45), .int
 .u8 (.var 46), .int .u8 (.var 47)]), (21, [.int .i64 (.lit 0), .int .u32 (.lit 0), .cst (.slice none 0 0), .cst (.slice none 0 0), .bool (.lit false), .bool
 (.lit false), .bool (.lit false), .bool (.lit false), .bool (.lit false), .bool (.lit false), .bool (.lit false), .bool (.lit false), .int .u8 (.lit 0), .int .u8 (.lit 0),
 .int .u8 (.lit 0), .int .u8 (.lit 0), .int .u8 (.lit 0), .int .u8 (.lit 0), .int .u8 (.lit 0), .int .u8 (.lit 0)]), (20, [.int .i64 (.var 25),
 .int .u32 (.var 26), .var 27, .var 28, .bool (.var 29), .bool (.var 30), .bool (.var 31), .bool (.var 32), .bool (.var 33), .bool (.var 34), .bool (.var 35), .bool (.var
 36), .int .u8 (.var 37), .int .u8 (.var 38), .int .u8 (.var 39), .int .u8 (.var 40), .int .u8 (.var 41), .int .u8 (.var 42), .int .u8 (.var
 43), .int .u8 (.var 44)])] (.pur (.slice 35 (.tmp 46) (some (.const (.int .i64 1))) none none) 35 [(.tmp 46, .var 27), (.const (.int .i64 1), .int
 .i64 (.lit 1))] [.slice] (.var 53) (.start true [20] [51, 48, 21, 20] [(51, [.int .u16 (.var 49), .int .u32 (.var 50)]), (48, [.int .u8 (.var 45), .int .u8
 (.var 46), .int .u8 (.var 47)]), (21, [.int .i64 (.lit 0), .int .u32 (.lit 0), .cst (.slice none 0 0), .cst (.slice none 0 0), .bool (.lit false), .bool (.lit
 false), .bool (.lit false), .bool (.lit false), .bool (.lit false), .bool (.lit false), .bool (.lit false), .bool (.lit false), .int .u8 (.lit 0), .int .u8 (.lit 0), .int
 .u8 (.lit 0), .int .u8 (.lit 0), .int .u8 (.lit 0), .int .u8 (.lit 0), .int .u8 (.lit 0), .int .u8 (.lit 0)]), (20, [.int .i64 (.var 25), .int
 .u32 (.var 26), .var 53, .var 28, .bool (.var 29), .bool (.var 30), .bool (.var 31), .bool (.var 32), .bool (.var 33), .bool (.var 34), .bool (.var 35), .bool (.var 36),
 .int .u8 (.var 37), .int .u8 (.var 38), .int .u8 (.var 39), .int .u8 (.var 40), .int .u8 (.var 41), .int .u8 (.var 42), .int .u8 (.var 43),
 .int .u8 (.var 44)])] (.ob (.le (.lit 0) (.var 45)) (.ob (.lt (.var 45) (.lit 8)) (.ob (.le (.lit 0) (.var 45)) (.ob (.lt (.var 45) (.lit 8)) (.ob (.le (.lit
 (-9223372036854775808)) (.add (.var 24) (.lit 1))) (.ob (.le (.add (.var 24) (.lit 1)) (.lit 9223372036854775807)) (.leaf 1 [.var 52, .var 23, .int .i64 (.add (.var 24) (.lit 1)),
 .int .i64 (.var 25), .int .u32 (.var 26), .var 53, .var 28, .bool (.var 29), .bool (.var 30), .bool (.var 31), .bool (.lit true), .bool (.var 33), .bool (.var 34),
 .bool (.var 35), .bool (.var 36), .int .u8 (.var 37), .int .u8 (.var 38), .int .u8 (.var 39), .int .u8 (.var 47), .int .u8 (.var 41), .int .u8
 (.var 42), .int .u8 (.var 43), .int .u8 (.var 44)] [20] [(51, [.int .u16 (.var 49), .int .u32 (.var 50)]), (48, [.int .u8 (.var 45), .int .u8 (.var
 46), .int .u8 (.var 47)]), (21, [.int .i64 (.lit 0), .int .u32 (.lit 0), .cst (.slice none 0 0), .cst (.slice none 0 0), .bool (.lit false), .bool (.lit false),
 .bool (.lit false), .bool (.lit false), .bool (.lit false), .bool (.lit false), .bool (.lit false), .bool (.lit false), .int .u8 (.lit 0), .int .u8 (.lit 0), .int
 .u8 (.lit 0), .int .u8 (.lit 0), .int .u8 (.lit 0), .int .u8 (.lit 0), .int .u8 (.lit 0), .int .u8 (.lit 0)]), (20, [.int .i64 (.var 25), .int
 .u32 (.var 26), .var 53, .var 28, .bool (.var 29), .bool (.var 30), .bool (.var 31), .bool (.lit true), .bool (.var 33), .bool (.var 34), .bool (.var 35), .bool (.var 36),
 .int .u8 (.var 37), .int .u8 (.var 38), .int .u8 (.var 39), .int .u8 (.var 47), .int .u8 (.var 41), .int .u8 (.var 42), .int .u8 (.var 43),
 .int .u8 (.var 44)])])))))))))))))))))) (.split (.eq (.var 45) (.lit 4)) (.split (.var 33) (.blk (.gen (.call { callee := .builtin .append, args := #[.tmp 31, .tmp 33], argTypes := #[57, 57] })
 57 [(.tmp 31, .var 23), (.tmp 33, .slc 49 0 1 1)] [.slice] (.var 50) [] false [48] [] [49, 48, 21, 20] [(49, [.int .u8 (.var 45), .int .u8 (.var 46), .int .u8
 (.var 47)]), (48, [.int .u8 (.var 45), .int .u8 (.var 46), .int .u8 (.var 47)]), (21, [.int .i64 (.lit 0), .int .u32 (.lit 0), .cst (.slice none 0 0),
 .cst (.slice none 0 0), .bool (.lit false), .bool (.lit false), .bool (.lit false), .bool (.lit false), .bool (.lit false), .bool (.lit false), .bool (.lit false), .bool (.lit
 false), .int .u8 (.lit 0), .int .u8 (.lit 0), .int .u8 (.lit 0), .int .u8 (.lit 0), .int .u8 (.lit 0), .int .u8 (.lit 0), .int .u8 (.lit 0),
 .int .u8 (.lit 0)]), (20, [.int .i64 (.var 25), .int .u32 (.var 26), .var 27, .var 28, .bool (.var 29), .bool (.var 30), .bool (.var 31), .bool (.var 32), .bool
 (.var 33), .bool (.var 34), .bool (.var 35), .bool (.var 36), .int .u8 (.var 37), .int .u8 (.var 38), .int .u8 (.var 39), .int .u8 (.var 40), .int .u8
 (.var 41), .int .u8 (.var 42), .int .u8 (.var 43), .int .u8 (.var 44)])] (.ob (.le (.lit (-9223372036854775808)) (.add (.var 24) (.lit 1))) (.ob (.le (.add (.var
 24) (.lit 1)) (.lit 9223372036854775807)) (.leaf 1 [.var 22, .var 50, .int .i64 (.add (.var 24) (.lit 1)), .int .i64 (.var 25), .int .u32 (.var 26), .var 27, .var 28,
 .bool (.var 29), .bool (.var 30), .bool (.var 31), .bool (.var 32), .bool (.var 33), .bool (.var 34), .bool (.var 35), .bool (.var 36), .int .u8 (.var 37), .int .u8
 (.var 38), .int .u8 (.var 39), .int .u8 (.var 40), .int .u8 (.var 41), .int .u8 (.var 42), .int .u8 (.var 43), .int .u8 (.var 44)] [] [(49, [.int
 .u8 (.var 45), .int .u8 (.var 46), .int .u8 (.var 47)]), (48, [.int .u8 (.var 45), .int .u8 (.var 46), .int .u8 (.var 47)]), (21, [.int .i64
 (.lit 0), .int .u32 (.lit 0), .cst (.slice none 0 0), .cst (.slice none 0 0), .bool (.lit false), .bool (.lit false), .bool (.lit false), .bool (.lit false), .bool (.lit
 false), .bool (.lit false), .bool (.lit false), .bool (.lit false), .int .u8 (.lit 0), .int .u8 (.lit 0), .int .u8 (.lit 0), .int .u8 (.lit 0), .int .u8
 (.lit 0), .int .u8 (.lit 0), .int .u8 (.lit 0), .int .u8 (.lit 0)]), (20, [.int .i64 (.var 25), .int .u32 (.var 26), .var 27, .var 28, .bool (.var 29),
 .bool (.var 30), .bool (.var 31), .bool (.var 32), .bool (.var 33), .bool (.var 34), .bool (.var 35), .bool (.var 36), .int .u8 (.var 37), .int .u8 (.var 38), .int
 .u8 (.var 39), .int .u8 (.var 40), .int .u8 (.var 41), .int .u8 (.var 42), .int .u8 (.var 43), .int .u8 (.var 44)])]))))) (.start true [48] [48, 21, 20]
 [(48, [.int .u8 (.var 45), .int .u8 (.var 46), .int .u8 (.var 47)]), (21, [.int .i64 (.lit 0), .int .u32 (.lit 0), .cst (.slice none 0 0), .cst
 (.slice none 0 0), .bool (.lit false), .bool (.lit false), .bool (.lit false), .bool (.lit false), .bool (.lit false), .bool (.lit false), .bool (.lit false), .bool (.lit false),
 .int .u8 (.lit 0), .int .u8 (.lit 0), .int .u8 (.lit 0), .int .u8 (.lit 0), .int .u8 (.lit 0), .int .u8 (.lit 0), .int .u8 (.lit 0), .int
 .u8 (.lit 0)]), (20, [.int .i64 (.var 25), .int .u32 (.var 26), .var 27, .var 28, .bool (.var 29), .bool (.var 30), .bool (.var 31), .bool (.var 32), .bool (.var
 33), .bool (.var 34), .bool (.var 35), .bool (.var 36), .int .u8 (.var 37), .int .u8 (.var 38), .int .u8 (.var 39), .int .u8 (.var 40), .int .u8 (.var
 41), .int .u8 (.var 42), .int .u8 (.var 43), .int .u8 (.var 44)])] (.ob (.lt (.lit 0) (.len 27)) (.ob (.not (.nil 27)) (.load (.elt 27 0 (.lit 0) 1 0) [.int
 .u16] (.call 11 [.agg [.int .u8 (.var 45), .int .u8 (.var 46), .int .u8 (.var 47)]] [.int .u32] (.int .u32 (.var 50)) [] true [] [] [48, 21, 20] [(48,
 [.int .u8 (.var 45), .int .u8 (.var 46), .int .u8 (.var 47)]), (21, [.int .i64 (.lit 0), .int .u32 (.lit 0), .cst (.slice none 0 0), .cst (.slice none
 0 0), .bool (.lit false), .bool (.lit false), .bool (.lit false), .bool (.lit false), .bool (.lit false), .bool (.lit false), .bool (.lit false), .bool (.lit false), .int .u8
 (.lit 0), .int .u8 (.lit 0), .int .u8 (.lit 0), .int .u8 (.lit 0), .int .u8 (.lit 0), .int .u8 (.lit 0), .int .u8 (.lit 0), .int .u8 (.lit
 0)]), (20, [.int .i64 (.var 25), .int .u32 (.var 26), .var 27, .var 28, .bool (.var 29), .bool (.var 30), .bool (.var 31), .bool (.var 32), .bool (.var 33), .bool (.var
 34), .bool (.var 35), .bool (.var 36), .int .u8 (.var 37), .int .u8 (.var 38), .int .u8 (.var 39), .int .u8 (.var 40), .int .u8 (.var 41), .int .u8
 (.var 42), .int .u8 (.var 43), .int .u8 (.var 44)])] (.blk (.gen (.call { callee := .builtin .append, args := #[.tmp 35, .tmp 43], argTypes := #[46, 46] }) 46
 [(.tmp 35, .var 22), (.tmp 43, .slc 51 0 1 1)] [.slice] (.var 52) [] true [] [] [51, 48, 21, 20] [(51, [.int .u16 (.var 49), .int .u32 (.var 50)]), (48, [.int .u8
 (.var 45), .int .u8 (.var 46), .int .u8 (.var 47)]), (21, [.int .i64 (.lit 0), .int .u32 (.lit 0), .cst (.slice none 0 0), .cst (.slice none 0 0), .bool
 (.lit false), .bool (.lit false), .bool (.lit false), .bool (.lit false), .bool (.lit false), .bool (.lit false), .bool (.lit false), .bool (.lit false), .int .u8 (.lit 0),
 .int .u8 (.lit 0), .int .u8 (.lit 0), .int .u8 (.lit 0), .int .u8 (.lit 0), .int .u8 (.lit 0), .int .u8 (.lit 0), .int .u8 (.lit 0)]), (20,
 [.int .i64 (.var 25), .int .u32 (.var 26), .var 27, .var 28, .bool (.var 29), .bool (.var 30), .bool (.var 31), .bool (.var 32), .bool (.var 33), .bool (.var 34),
 .bool (.var 35), .bool (.var 36), .int .u8 (.var 37), .int .u8 (.var 38), .int .u8 (.var 39), .int .u8 (.var 40), .int .u8 (.var 41), .int .u8
 (.var 42), .int .u8 (.var 43), .int .u8 (.var 44)])] (.start false [] [] [(51, [.int .u16 (.var 49), .int .u32 (.var 50)]), (48, [.int .u8 (.var 45), .int
 .u8 (.var 46), .int .u8 (.var 47)]), (21, [.int .i64 (.lit 0), .int .u32 (.lit 0), .cst (.slice none 0 0), .cst (.slice none 0 0), .bool (.lit false), .bool
 (.lit false), .bool (.lit false), .bool (.lit false), .bool (.lit false), .bool (.lit false), .bool (.lit false), .bool (.lit false), .int .u8 (.lit 0), .int .u8 (.lit 0),
 .int .u8 (.lit 0), .int .u8 (.lit 0), .int .u8 (.lit 0), .int .u8 (.lit 0), .int .u8 (.lit 0), .int .u8 (.lit 0)]), (20, [.int .i64 (.var 25),
 .int .u32 (.var 26), .var 27, .var 28, .bool (.var 29), .bool (.var 30), .bool (.var 31), .bool (.var 32), .bool (.var 33), .bool (.var 34), .bool (.var 35), .bool (.var
 36), .int .u8 (.var 37), .int .u8 (.var 38), .int .u8 (.var 39), .int .u8 (.var 40), .int .u8 (.var 41), .int .u8 (.var 42), .int .u8 (.var
 43), .int .u8 (.var 44)])] (.pur (.slice 35 (.tmp 46) (some (.const (.int .i64 1))) none none) 35 [(.tmp 46, .var 27), (.const (.int .i64 1), .int
 .i64 (.lit 1))] [.slice] (.var 53) (.start true [20] [51, 48, 21, 20] [(51, [.int .u16 (.var 49), .int .u32 (.var 50)]), (48, [.int .u8 (.var 45), .int .u8
 (.var 46), .int .u8 (.var 47)]), (21, [.int .i64 (.lit 0), .int .u32 (.lit 0), .cst (.slice none 0 0), .cst (.slice none 0 0), .bool (.lit false), .bool (.lit
 false), .bool (.lit false), .bool (.lit false), .bool (.lit false), .bool (.lit false), .bool (.lit false), .bool (.lit false), .int .u8 (.lit 0), .int .u8 (.lit 0), .int
 .u8 (.lit 0), .int .u8 (.lit 0), .int .u8 (.lit 0), .int .u8 (.lit 0), .int .u8 (.lit 0), .int .u8 (.lit 0)]), (20, [.int .i64 (.var 25), .int
 .u32 (.var 26), .var 53, .var 28, .bool (.var 29), .bool (.var 30), .bool (.var 31), .bool (.var 32), .bool (.var 33), .bool (.var 34), .bool (.var 35), .bool (.var 36),
 .int .u8 (.var 37), .int .u8 (.var 38), .int .u8 (.var 39), .int .u8 (.var 40), .int .u8 (.var 41), .int .u8 (.var 42), .int .u8 (.var 43),
 .int .u8 (.var 44)])] (.ob (.le (.lit 0) (.var 45)) (.ob (.lt (.var 45) (.lit 8)) (.ob (.le (.lit 0) (.var 45)) (.ob (.lt (.var 45) (.lit 8)) (.ob (.le (.lit
 (-9223372036854775808)) (.add (.var 24) (.lit 1))) (.ob (.le (.add (.var 24) (.lit 1)) (.lit 9223372036854775807)) (.leaf 1 [.var 52, .var 23, .int .i64 (.add (.var 24) (.lit 1)),
 .int .i64 (.var 25), .int .u32 (.var 26), .var 53, .var 28, .bool (.var 29), .bool (.var 30), .bool (.var 31), .bool (.var 32), .bool (.lit true), .bool (.var 34),
 .bool (.var 35), .bool (.var 36), .int .u8 (.var 37), .int .u8 (.var 38), .int .u8 (.var 39), .int .u8 (.var 40), .int .u8 (.var 47), .int .u8
 (.var 42), .int .u8 (.var 43), .int .u8 (.var 44)] [20] [(51, [.int .u16 (.var 49), .int .u32 (.var 50)]), (48, [.int .u8 (.var 45), .int .u8 (.var
 46), .int .u8 (.var 47)]), (21, [.int .i64 (.lit 0), .int .u32 (.lit 0), .cst (.slice none 0 0), .cst (.slice none 0 0), .bool (.lit false), .bool (.lit false),
 .bool (.lit false), .bool (.lit false), .bool (.lit false), .bool (.lit false), .bool (.lit false), .bool (.lit false), .int .u8 (.lit 0), .int .u8 (.lit 0), .int
 .u8 (.lit 0), .int .u8 (.lit 0), .int .u8 (.lit 0), .int .u8 (.lit 0), .int .u8 (.lit 0), .int .u8 (.lit 0)]), (20, [.int .i64 (.var 25), .int
 .u32 (.var 26), .var 53, .var 28, .bool (.var 29), .bool (.var 30), .bool (.var 31), .bool (.var 32), .bool (.lit true), .bool (.var 34), .bool (.var 35), .bool (.var 36),
 .int .u8 (.var 37), .int .u8 (.var 38), .int .u8 (.var 39), .int .u8 (.var 40), .int .u8 (.var 47), .int .u8 (.var 42), .int .u8 (.var 43),
 .int .u8 (.var 44)])])))))))))))))))))) (.split (.eq (.var 45) (.lit 5)) (.split (.var 34) (.blk (.gen (.call { callee := .builtin .append, args := #[.tmp 31, .tmp 33], argTypes := #[57, 57] })
 57 [(.tmp 31, .var 23), (.tmp 33, .slc 49 0 1 1)] [.slice] (.var 50) [] false [48] [] [49, 48, 21, 20] [(49, [.int .u8 (.var 45), .int .u8 (.var 46), .int .u8
 (.var 47)]), (48, [.int .u8 (.var 45), .int .u8 (.var 46), .int .u8 (.var 47)]), (21, [.int .i64 (.lit 0), .int .u32 (.lit 0), .cst (.slice none 0 0),
 .cst (.slice none 0 0), .bool (.lit false), .bool (.lit false), .bool (.lit false), .bool (.lit false), .bool (.lit false), .bool (.lit false), .bool (.lit false), .bool (.lit
 false), .int .u8 (.lit 0), .int .u8 (.lit 0), .int .u8 (.lit 0), .int .u8 (.lit 0), .int .u8 (.lit 0), .int .u8 (.lit 0), .int .u8 (.lit 0),
 .int .u8 (.lit 0)]), (20, [.int .i64 (.var 25), .int .u32 (.var 26), .var 27, .var 28, .bool (.var 29), .bool (.var 30), .bool (.var 31), .bool (.var 32), .bool
 (.var 33), .bool (.var 34), .bool (.var 35), .bool (.var 36), .int .u8 (.var 37), .int .u8 (.var 38), .int .u8 (.var 39), .int .u8 (.var 40), .int .u8
 (.var 41), .int .u8 (.var 42), .int .u8 (.var 43), .int .u8 (.var 44)])] (.ob (.le (.lit (-9223372036854775808)) (.add (.var 24) (.lit 1))) (.ob (.le (.add (.var
 24) (.lit 1)) (.lit 9223372036854775807)) (.leaf 1 [.var 22, .var 50, .int .i64 (.add (.var 24) (.lit 1)), .int .i64 (.var 25), .int .u32 (.var 26), .var 27, .var 28,
 .bool (.var 29), .bool (.var 30), .bool (.var 31), .bool (.var 32), .bool (.var 33), .bool (.var 34), .bool (.var 35), .bool (.var 36), .int .u8 (.var 37), .int .u8
 (.var 38), .int .u8 (.var 39), .int .u8 (.var 40), .int .u8 (.var 41), .int .u8 (.var 42), .int .u8 (.var 43), .int .u8 (.var 44)] [] [(49, [.int
 .u8 (.var 45), .int .u8 (.var 46), .int .u8 (.var 47)]), (48, [.int .u8 (.var 45), .int .u8 (.var 46), .int .u8 (.var 47)]), (21, [.int .i64
 (.lit 0), .int .u32 (.lit 0), .cst (.slice none 0 0), .cst (.slice none 0 0), .bool (.lit false), .bool (.lit false), .bool (.lit false), .bool (.lit false), .bool (.lit
 false), .bool (.lit false), .bool (.lit false), .bool (.lit false), .int .u8 (.lit 0), .int .u8 (.lit 0), .int .u8 (.lit 0), .int .u8 (.lit 0), .int .u8
 (.lit 0), .int .u8 (.lit 0), .int .u8 (.lit 0), .int .u8 (.lit 0)]), (20, [.int .i64 (.var 25), .int .u32 (.var 26), .var 27, .var 28, .bool (.var 29),
 .bool (.var 30), .bool (.var 31), .bool (.var 32), .bool (.var 33), .bool (.var 34), .bool (.var 35), .bool (.var 36), .int .u8 (.var 37), .int .u8 (.var 38), .int
 .u8 (.var 39), .int .u8 (.var 40), .int .u8 (.var 41), .int .u8 (.var 42), .int .u8 (.var 43), .int .u8 (.var 44)])]))))) (.start true [48] [48, 21, 20]
 [(48, [.int .u8 (.var 45), .int .u8 (.var 46), .int .u8 (.var 47)]), (21, [.int .i64 (.lit 0), .int .u32 (.lit 0), .cst (.slice none 0 0), .cst
 (.slice none 0 0), .bool (.lit false), .bool (.lit false), .bool (.lit false), .bool (.lit false), .bool (.lit false), .bool (.lit false), .bool (.lit false), .bool (.lit false),
 .int .u8 (.lit 0), .int .u8 (.lit 0), .int .u8 (.lit 0), .int .u8 (.lit 0), .int .u8 (.lit 0), .int .u8 (.lit 0), .int .u8 (.lit 0), .int
 .u8 (.lit 0)]), (20, [.int .i64 (.var 25), .int .u32 (.var 26), .var 27, .var 28, .bool (.var 29), .bool (.var 30), .bool (.var 31), .bool (.var 32), .bool (.var
 33), .bool (.var 34), .bool (.var 35), .bool (.var 36), .int .u8 (.var 37), .int .u8 (.var 38), .int .u8 (.var 39), .int .u8 (.var 40), .int .u8 (.var
 41), .int .u8 (.var 42), .int .u8 (.var 43), .int .u8 (.var 44)])] (.ob (.lt (.lit 0) (.len 27)) (.ob (.not (.nil 27)) (.load (.elt 27 0 (.lit 0) 1 0) [.int
 .u16] (.call 11 [.agg [.int .u8 (.var 45), .int .u8 (.var 46), .int .u8 (.var 47)]] [.int .u32] (.int .u32 (.var 50)) [] true [] [] [48, 21, 20] [(48,
 [.int .u8 (.var 45), .int .u8 (.var 46), .int .u8 (.var 47)]), (21, [.int .i64 (.lit 0), .int .u32 (.lit 0), .cst (.slice none 0 0), .cst (.slice none
 0 0), .bool (.lit false), .bool (.lit false), .bool (.lit false), .bool (.lit false), .bool (.lit false), .bool (.lit false), .bool (.lit false), .bool (.lit false), .int .u8
 (.lit 0), .int .u8 (.lit 0), .int .u8 (.lit 0), .int .u8 (.lit 0), .int .u8 (.lit 0), .int .u8 (.lit 0), .int .u8 (.lit 0), .int .u8 (.lit
 0)]), (20, [.int .i64 (.var 25), .int .u32 (.var 26), .var 27, .var 28, .bool (.var 29), .bool (.var 30), .bool (.var 31), .bool (.var 32), .bool (.var 33), .bool (.var
 34), .bool (.var 35), .bool (.var 36), .int .u8 (.var 37), .int .u8 (.var 38), .int .u8 (.var 39), .int .u8 (.var 40), .int .u8 (.var 41), .int .u8
 (.var 42), .int .u8 (.var 43), .int .u8 (.var 44)])] (.blk (.gen (.call { callee := .builtin .append, args := #[.tmp 35, .tmp 43], argTypes := #[46, 46] }) 46
 [(.tmp 35, .var 22), (.tmp 43, .slc 51 0 1 1)] [.slice] (.var 52) [] true [] [] [51, 48, 21, 20] [(51, [.int .u16 (.var 49), .int .u32 (.var 50)]), (48, [.int .u8
 (.var 45), .int .u8 (.var 46), .int .u8 (.var 47)]), (21, [.int .i64 (.lit 0), .int .u32 (.lit 0), .cst (.slice none 0 0), .cst (.slice none 0 0), .bool
 (.lit false), .bool (.lit false), .bool (.lit false), .bool (.lit false), .bool (.lit false), .bool (.lit false), .bool (.lit false), .bool (.lit false), .int .u8 (.lit 0),
 .int .u8 (.lit 0), .int .u8 (.lit 0), .int .u8 (.lit 0), .int .u8 (.lit 0), .int .u8 (.lit 0), .int .u8 (.lit 0), .int .u8 (.lit 0)]), (20,
 [.int .i64 (.var 25), .int .u32 (.var 26), .var 27, .var 28, .bool (.var 29), .bool (.var 30), .bool (.var 31), .bool (.var 32), .bool (.var 33), .bool (.var 34),
 .bool (.var 35), .bool (.var 36), .int .u8 (.var 37), .int .u8 (.var 38), .int .u8 (.var 39), .int .u8 (.var 40), .int .u8 (.var 41), .int .u8
 (.var 42), .int .u8 (.var 43), .int .u8 (.var 44)])] (.start false [] [] [(51, [.int .u16 (.var 49), .int .u32 (.var 50)]), (48, [.int .u8 (.var 45), .int
 .u8 (.var 46), .int .u8 (.var 47)]), (21, [.int .i64 (.lit 0), .int .u32 (.lit 0), .cst (.slice none 0 0), .cst (.slice none 0 0), .bool (.lit false), .bool
 (.lit false), .bool (.lit false), .bool (.lit false), .bool (.lit false), .bool (.lit false), .bool (.lit false), .bool (.lit false), .int .u8 (.lit 0), .int .u8 (.lit 0),
 .int .u8 (.lit 0), .int .u8 (.lit 0), .int .u8 (.lit 0), .int .u8 (.lit 0), .int .u8 (.lit 0), .int .u8 (.lit 0)]), (20, [.int .i64 (.var 25),
 .int .u32 (.var 26), .var 27, .var 28, .bool (.var 29), .bool (.var 30), .bool (.var 31), .bool (.var 32), .bool (.var 33), .bool (.var 34), .bool (.var 35), .bool (.var
 36), .int .u8 (.var 37), .int .u8 (.var 38), .int .u8 (.var 39), .int .u8 (.var 40), .int .u8 (.var 41), .int .u8 (.var 42), .int .u8 (.var
 43), .int .u8 (.var 44)])] (.pur (.slice 35 (.tmp 46) (some (.const (.int .i64 1))) none none) 35 [(.tmp 46, .var 27), (.const (.int .i64 1), .int
 .i64 (.lit 1))] [.slice] (.var 53) (.start true [20] [51, 48, 21, 20] [(51, [.int .u16 (.var 49), .int .u32 (.var 50)]), (48, [.int .u8 (.var 45), .int .u8
 (.var 46), .int .u8 (.var 47)]), (21, [.int .i64 (.lit 0), .int .u32 (.lit 0), .cst (.slice none 0 0), .cst (.slice none 0 0), .bool (.lit false), .bool (.lit
 false), .bool (.lit false), .bool (.lit false), .bool (.lit false), .bool (.lit false), .bool (.lit false), .bool (.lit false), .int .u8 (.lit 0), .int .u8 (.lit 0), .int
 .u8 (.lit 0), .int .u8 (.lit 0), .int .u8 (.lit 0), .int .u8 (.lit 0), .int .u8 (.lit 0), .int .u8 (.lit 0)]), (20, [.int .i64 (.var 25), .int
 .u32 (.var 26), .var 53, .var 28, .bool (.var 29), .bool (.var 30), .bool (.var 31), .bool (.var 32), .bool (.var 33), .bool (.var 34), .bool (.var 35), .bool (.var 36),
 .int .u8 (.var 37), .int .u8 (.var 38), .int .u8 (.var 39), .int .u8 (.var 40), .int .u8 (.var 41), .int .u8 (.var 42), .int .u8 (.var 43),
 .int .u8 (.var 44)])] (.ob (.le (.lit 0) (.var 45)) (.ob (.lt (.var 45) (.lit 8)) (.ob (.le (.lit 0) (.var 45)) (.ob (.lt (.var 45) (.lit 8)) (.ob (.le (.lit
 (-9223372036854775808)) (.add (.var 24) (.lit 1))) (.ob (.le (.add (.var 24) (.lit 1)) (.lit 9223372036854775807)) (.leaf 1 [.var 52, .var 23, .int .i64 (.add (.var 24) (.lit 1)),
 .int .i64 (.var 25), .int .u32 (.var 26), .var 53, .var 28, .bool (.var 29), .bool (.var 30), .bool (.var 31), .bool (.var 32), .bool (.var 33), .bool (.lit true),
 .bool (.var 35), .bool (.var 36), .int .u8 (.var 37), .int .u8 (.var 38), .int .u8 (.var 39), .int .u8 (.var 40), .int .u8 (.var 41), .int .u8
 (.var 47), .int .u8 (.var 43), .int .u8 (.var 44)] [20] [(51, [.int .u16 (.var 49), .int .u32 (.var 50)]), (48, [.int .u8 (.var 45), .int .u8 (.var
 46), .int .u8 (.var 47)]), (21, [.int .i64 (.lit 0), .int .u32 (.lit 0), .cst (.slice none 0 0), .cst (.slice none 0 0), .bool (.lit false), .bool (.lit false),
 .bool (.lit false), .bool (.lit false), .bool (.lit false), .bool (.lit false), .bool (.lit false), .bool (.lit false), .int .u8 (.lit 0), .int .u8 (.lit 0), .int
 .u8 (.lit 0), .int .u8 (.lit 0), .int .u8 (.lit 0), .int .u8 (.lit 0), .int .u8 (.lit 0), .int .u8 (.lit 0)]), (20, [.int .i64 (.var 25), .int
 .u32 (.var 26), .var 53, .var 28, .bool (.var 29), .bool (.var 30), .bool (.var 31), .bool (.var 32), .bool (.var 33), .bool (.lit true), .bool (.var 35), .bool (.var 36),
 .int .u8 (.var 37), .int .u8 (.var 38), .int .u8 (.var 39), .int .u8 (.var 40), .int .u8 (.var 41), .int .u8 (.var 47), .int .u8 (.var 43),
 .int .u8 (.var 44)])])))))))))))))))))) (.split (.eq (.var 45) (.lit 6)) (.split (.var 35) (.blk (.gen (.call { callee := .builtin .append, args := #[.tmp 31, .tmp 33], argTypes := #[57, 57] })
 57 [(.tmp 31, .var 23), (.tmp 33, .slc 49 0 1 1)] [.slice] (.var 50) [] false [48] [] [49, 48, 21, 20] [(49, [.int .u8 (.var 45), .int .u8 (.var 46), .int .u8
 (.var 47)]), (48, [.int .u8 (.var 45), .int .u8 (.var 46), .int .u8 (.var 47)]), (21, [.int .i64 (.lit 0), .int .u32 (.lit 0), .cst (.slice none 0 0),
 .cst (.slice none 0 0), .bool (.lit false), .bool (.lit false), .bool (.lit false), .bool (.lit false), .bool (.lit false), .bool (.lit false), .bool (.lit false), .bool (.lit
 false), .int .u8 (.lit 0), .int .u8 (.lit 0), .int .u8 (.lit 0), .int .u8 (.lit 0), .int .u8 (.lit 0), .int .u8 (.lit 0), .int .u8 (.lit 0),
 .int .u8 (.lit 0)]), (20, [.int .i64 (.var 25), .int .u32 (.var 26), .var 27, .var 28, .bool (.var 29), .bool (.var 30), .bool (.var 31), .bool (.var 32), .bool
 (.var 33), .bool (.var 34), .bool (.var 35), .bool (.var 36), .int .u8 (.var 37), .int .u8 (.var 38), .int .u8 (.var 39), .int .u8 (.var 40), .int .u8
 (.var 41), .int .u8 (.var 42), .int .u8 (.var 43), .int .u8 (.var 44)])] (.ob (.le (.lit (-9223372036854775808)) (.add (.var 24) (.lit 1))) (.ob (.le (.add (.var
 24) (.lit 1)) (.lit 9223372036854775807)) (.leaf 1 [.var 22, .var 50, .int .i64 (.add (.var 24) (.lit 1)), .int .i64 (.var 25), .int .u32 (.var 26), .var 27, .var 28,
 .bool (.var 29), .bool (.var 30), .bool (.var 31), .bool (.var 32), .bool (.var 33), .bool (.var 34), .bool (.var 35), .bool (.var 36), .int .u8 (.var 37), .int .u8
 (.var 38), .int .u8 (.var 39), .int .u8 (.var 40), .int .u8 (.var 41), .int .u8 (.var 42), .int .u8 (.var 43), .int .u8 (.var 44)] [] [(49, [.int
 .u8 (.var 45), .int .u8 (.var 46), .int .u8 (.var 47)]), (48, [.int .u8 (.var 45), .int .u8 (.var 46), .int .u8 (.var 47)]), (21, [.int .i64
 (.lit 0), .int .u32 (.lit 0), .cst (.slice none 0 0), .cst (.slice none 0 0), .bool (.lit false), .bool (.lit false), .bool (.lit false), .bool (.lit false), .bool (.lit
 false), .bool (.lit false), .bool (.lit false), .bool (.lit false), .int .u8 (.lit 0), .int .u8 (.lit 0), .int .u8 (.lit 0), .int .u8 (.lit 0), .int .u8
 (.lit 0), .int .u8 (.lit 0), .int .u8 (.lit 0), .int .u8 (.lit 0)]), (20, [.int .i64 (.var 25), .int .u32 (.var 26), .var 27, .var 28, .bool (.var 29),
 .bool (.var 30), .bool (.var 31), .bool (.var 32), .bool (.var 33), .bool (.var 34), .bool (.var 35), .bool (.var 36), .int .u8 (.var 37), .int .u8 (.var 38), .int
 .u8 (.var 39), .int .u8 (.var 40), .int .u8 (.var 41), .int .u8 (.var 42), .int .u8 (.var 43), .int .u8 (.var 44)])]))))) (.start true [48] [48, 21, 20]
 [(48, [.int .u8 (.var 45), .int .u8 (.var 46), .int .u8 (.var 47)]), (21, [.int .i64 (.lit 0), .int .u32 (.lit 0), .cst (.slice none 0 0), .cst
 (.slice none 0 0), .bool (.lit false), .bool (.lit false), .bool (.lit false), .bool (.lit false), .bool (.lit false), .bool (.lit false), .bool (.lit false), .bool (.lit false),
 .int .u8 (.lit 0), .int .u8 (.lit 0), .int .u8 (.lit 0), .int .u8 (.lit 0), .int .u8 (.lit 0), .int .u8 (.lit 0), .int .u8 (.lit 0), .int
 .u8 (.lit 0)]), (20, [.int .i64 (.var 25), .int .u32 (.var 26), .var 27, .var 28, .bool (.var 29), .bool (.var 30), .bool (.var 31), .bool (.var 32), .bool (.var
 33), .bool (.var 34), .bool (.var 35), .bool (.var 36), .int .u8 (.var 37), .int .u8 (.var 38), .int .u8 (.var 39), .int .u8 (.var 40), .int .u8 (.var
 41), .int .u8 (.var 42), .int .u8 (.var 43), .int .u8 (.var 44)])] (.ob (.lt (.lit 0) (.len 27)) (.ob (.not (.nil 27)) (.load (.elt 27 0 (.lit 0) 1 0) [.int
 .u16] (.call 11 [.agg [.int .u8 (.var 45), .int .u8 (.var 46), .int .u8 (.var 47)]] [.int .u32] (.int .u32 (.var 50)) [] true [] [] [48, 21, 20] [(48,
 [.int .u8 (.var 45), .int .u8 (.var 46), .int .u8 (.var 47)]), (21, [.int .i64 (.lit 0), .int .u32 (.lit 0), .cst (.slice none 0 0), .cst (.slice none
 0 0), .bool (.lit false), .bool (.lit false), .bool (.lit false), .bool (.lit false), .bool (.lit false), .bool (.lit false), .bool (.lit false), .bool (.lit false), .int .u8
 (.lit 0), .int .u8 (.lit 0), .int .u8 (.lit 0), .int .u8 (.lit 0), .int .u8 (.lit 0), .int .u8 (.lit 0), .int .u8 (.lit 0), .int .u8 (.lit
 0)]), (20, [.int .i64 (.var 25), .int .u32 (.var 26), .var 27, .var 28, .bool (.var 29), .bool (.var 30), .bool (.var 31), .bool (.var 32), .bool (.var 33), .bool (.var
 34), .bool (.var 35), .bool (.var 36), .int .u8 (.var 37), .int .u8 (.var 38), .int .u8 (.var 39), .int .u8 (.var 40), .int .u8 (.var 41), .int .u8
 (.var 42), .int .u8 (.var 43), .int .u8 (.var 44)])] (.blk (.gen (.call { callee := .builtin .append, args := #[.tmp 35, .tmp 43], argTypes := #[46, 46] }) 46
 [(.tmp 35, .var 22), (.tmp 43, .slc 51 0 1 1)] [.slice] (.var 52) [] true [] [] [51, 48, 21, 20] [(51, [.int .u16 (.var 49), .int .u32 (.var 50)]), (48, [.int .u8
 (.var 45), .int .u8 (.var 46), .int .u8 (.var 47)]), (21, [.int .i64 (.lit 0), .int .u32 (.lit 0), .cst (.slice none 0 0), .cst (.slice none 0 0), .bool
 (.lit false), .bool (.lit false), .bool (.lit false), .bool (.lit false), .bool (.lit false), .bool (.lit false), .bool (.lit false), .bool (.lit false), .int .u8 (.lit 0),
 .int .u8 (.lit 0), .int .u8 (.lit 0), .int .u8 (.lit 0), .int .u8 (.lit 0), .int .u8 (.lit 0), .int .u8 (.lit 0), .int .u8 (.lit 0)]), (20,
 [.int .i64 (.var 25), .int .u32 (.var 26), .var 27, .var 28, .bool (.var 29), .bool (.var 30), .bool (.var 31), .bool (.var 32), .bool (.var 33), .bool (.var 34),
 .bool (.var 35), .bool (.var 36), .int .u8 (.var 37), .int .u8 (.var 38), .int .u8 (.var 39), .int .u8 (.var 40), .int .u8 (.var 41), .int .u8
 (.var 42), .int .u8 (.var 43), .int .u8 (.var 44)])] (.start false [] [] [(51, [.int .u16 (.var 49), .int .u32 (.var 50)]), (48, [.int .u8 (.var 45), .int
 .u8 (.var 46), .int .u8 (.var 47)]), (21, [.int .i64 (.lit 0), .int .u32 (.lit 0), .cst (.slice none 0 0), .cst (.slice none 0 0), .bool (.lit false), .bool
 (.lit false), .bool (.lit false), .bool (.lit false), .bool (.lit false), .bool (.lit false), .bool (.lit false), .bool (.lit false), .int .u8 (.lit 0), .int .u8 (.lit 0),
 .int .u8 (.lit 0), .int .u8 (.lit 0), .int .u8 (.lit 0), .int .u8 (.lit 0), .int .u8 (.lit 0), .int .u8 (.lit 0)]), (20, [.int .i64 (.var 25),
 .int .u32 (.var 26), .var 27, .var 28, .bool (.var 29), .bool (.var 30), .bool (.var 31), .bool (.var 32), .bool (.var 33), .bool (.var 34), .bool (.var 35), .bool (.var
 36), .int .u8 (.var 37), .int .u8 (.var 38), .int .u8 (.var 39), .int .u8 (.var 40), .int .u8 (.var 41), .int .u8 (.var 42), .int .u8 (.var
 43), .int .u8 (.var 44)])] (.pur (.slice 35 (.tmp 46) (some (.const (.int .i64 1))) none none) 35 [(.tmp 46, .var 27), (.const (.int .i64 1), .int
 .i64 (.lit 1))] [.slice] (.var 53) (.start true [20] [51, 48, 21, 20] [(51, [.int .u16 (.var 49), .int .u32 (.var 50)]), (48, [.int .u8 (.var 45), .int .u8
 (.var 46), .int .u8 (.var 47)]), (21, [.int .i64 (.lit 0), .int .u32 (.lit 0), .cst (.slice none 0 0), .cst (.slice none 0 0), .bool (.lit false), .bool (.lit
 false), .bool (.lit false), .bool (.lit false), .bool (.lit false), .bool (.lit false), .bool (.lit false), .bool (.lit false), .int .u8 (.lit 0), .int .u8 (.lit 0), .int
 .u8 (.lit 0), .int .u8 (.lit 0), .int .u8 (.lit 0), .int .u8 (.lit 0), .int .u8 (.lit 0), .int .u8 (.lit 0)]), (20, [.int .i64 (.var 25), .int
 .u32 (.var 26), .var 53, .var 28, .bool (.var 29), .bool (.var 30), .bool (.var 31), .bool (.var 32), .bool (.var 33), .bool (.var 34), .bool (.var 35), .bool (.var 36),
 .int .u8 (.var 37), .int .u8 (.var 38), .int .u8 (.var 39), .int .u8 (.var 40), .int .u8 (.var 41), .int .u8 (.var 42), .int .u8 (.var 43),
 .int .u8 (.var 44)])] (.ob (.le (.lit 0) (.var 45)) (.ob (.lt (.var 45) (.lit 8)) (.ob (.le (.lit 0) (.var 45)) (.ob (.lt (.var 45) (.lit 8)) (.ob (.le (.lit
 (-9223372036854775808)) (.add (.var 24) (.lit 1))) (.ob (.le (.add (.var 24) (.lit 1)) (.lit 9223372036854775807)) (.leaf 1 [.var 52, .var 23, .int .i64 (.add (.var 24) (.lit 1)),
 .int .i64 (.var 25), .int .u32 (.var 26), .var 53, .var 28, .bool (.var 29), .bool (.var 30), .bool (.var 31), .bool (.var 32), .bool (.var 33), .bool (.var 34), .bool
 (.lit true), .bool (.var 36), .int .u8 (.var 37), .int .u8 (.var 38), .int .u8 (.var 39), .int .u8 (.var 40), .int .u8 (.var 41), .int .u8 (.var
 42), .int .u8 (.var 47), .int .u8 (.var 44)] [20] [(51, [.int .u16 (.var 49), .int .u32 (.var 50)]), (48, [.int .u8 (.var 45), .int .u8 (.var 46), .int
 .u8 (.var 47)]), (21, [.int .i64 (.lit 0), .int .u32 (.lit 0), .cst (.slice none 0 0), .cst (.slice none 0 0), .bool (.lit false), .bool (.lit false), .bool (.lit
 false), .bool (.lit false), .bool (.lit false), .bool (.lit false), .bool (.lit false), .bool (.lit false), .int .u8 (.lit 0), .int .u8 (.lit 0), .int .u8 (.lit 0),
 .int .u8 (.lit 0), .int .u8 (.lit 0), .int .u8 (.lit 0), .int .u8 (.lit 0), .int .u8 (.lit 0)]), (20, [.int .i64 (.var 25), .int .u32 (.var
 26), .var 53, .var 28, .bool (.var 29), .bool (.var 30), .bool (.var 31), .bool (.var 32), .bool (.var 33), .bool (.var 34), .bool (.lit true), .bool (.var 36), .int .u8
 (.var 37), .int .u8 (.var 38), .int .u8 (.var 39), .int .u8 (.var 40), .int .u8 (.var 41), .int .u8 (.var 42), .int .u8 (.var 47), .int .u8
 (.var 44)])])))))))))))))))))) (.split (.eq (.var 45) (.lit 7)) (.split (.var 36) (.blk (.gen (.call { callee := .builtin .append, args := #[.tmp 31, .tmp 33], argTypes := #[57, 57] })
 57 [(.tmp 31, .var 23), (.tmp 33, .slc 49 0 1 1)] [.slice] (.var 50) [] false [48] [] [49, 48, 21, 20] [(49, [.int .u8 (.var 45), .int .u8 (.var 46), .int .u8
 (.var 47)]), (48, [.int .u8 (.var 45), .int .u8 (.var 46), .int .u8 (.var 47)]), (21, [.int .i64 (.lit 0), .int .u32 (.lit 0), .cst (.slice none 0 0),
 .cst (.slice none 0 0), .bool (.lit false), .bool (.lit false), .bool (.lit false), .bool (.lit false), .bool (.lit false), .bool (.lit false), .bool (.lit false), .bool (.lit
 false), .int .u8 (.lit 0), .int .u8 (.lit 0), .int .u8 (.lit 0), .int .u8 (.lit 0), .int .u8 (.lit 0), .int .u8 (.lit 0), .int .u8 (.lit 0),
 .int .u8 (.lit 0)]), (20, [.int .i64 (.var 25), .int .u32 (.var 26), .var 27, .var 28, .bool (.var 29), .bool (.var 30), .bool (.var 31), .bool (.var 32), .bool
 (.var 33), .bool (.var 34), .bool (.var 35), .bool (.var 36), .int .u8 (.var 37), .int .u8 (.var 38), .int .u8 (.var 39), .int .u8 (.var 40), .int .u8
 (.var 41), .int .u8 (.var 42), .int .u8 (.var 43), .int .u8 (.var 44)])] (.ob (.le (.lit (-9223372036854775808)) (.add (.var 24) (.lit 1))) (.ob (.le (.add (.var
 24) (.lit 1)) (.lit 9223372036854775807)) (.leaf 1 [.var 22, .var 50, .int .i64 (.add (.var 24) (.lit 1)), .int .i64 (.var 25), .int .u32 (.var 26), .var 27, .var 28,
 .bool (.var 29), .bool (.var 30), .bool (.var 31), .bool (.var 32), .bool (.var 33), .bool (.var 34), .bool (.var 35), .bool (.var 36), .int .u8 (.var 37), .int .u8
 (.var 38), .int .u8 (.var 39), .int .u8 (.var 40), .int .u8 (.var 41), .int .u8 (.var 42), .int .u8 (.var 43), .int .u8 (.var 44)] [] [(49, [.int
 .u8 (.var 45), .int .u8 (.var 46), .int .u8 (.var 47)]), (48, [.int .u8 (.var 45), .int .u8 (.var 46), .int .u8 (.var 47)]), (21, [.int .i64
 (.lit 0), .int .u32 (.lit 0), .cst (.slice none 0 0), .cst (.slice none 0 0), .bool (.lit false), .bool (.lit false), .bool (.lit false), .bool (.lit false), .bool (.lit
 false), .bool (.lit false), .bool (.lit false), .bool (.lit false), .int .u8 (.lit 0), .int .u8 (.lit 0), .int .u8 (.lit 0), .int .u8 (.lit 0), .int .u8
 (.lit 0), .int .u8 (.lit 0), .int .u8 (.lit 0), .int .u8 (.lit 0)]), (20, [.int .i64 (.var 25), .int .u32 (.var 26), .var 27, .var 28, .bool (.var 29),
 .bool (.var 30), .bool (.var 31), .bool (.var 32), .bool (.var 33), .bool (.var 34), .bool (.var 35), .bool (.var 36), .int .u8 (.var 37), .int .u8 (.var 38), .int
 .u8 (.var 39), .int .u8 (.var 40), .int .u8 (.var 41), .int .u8 (.var 42), .int .u8 (.var 43), .int .u8 (.var 44)])]))))) (.start true [48] [48, 21, 20]
 [(48, [.int .u8 (.var 45), .int .u8 (.var 46), .int .u8 (.var 47)]), (21, [.int .i64 (.lit 0), .int .u32 (.lit 0), .cst (.slice none 0 0), .cst
 (.slice none 0 0), .bool (.lit false), .bool (.lit false), .bool (.lit false), .bool (.lit false), .bool (.lit false), .bool (.lit false), .bool (.lit false), .bool (.lit false),
 .int .u8 (.lit 0), .int .u8 (.lit 0), .int .u8 (.lit 0), .int .u8 (.lit 0), .int .u8 (.lit 0), .int .u8 (.lit 0), .int .u8 (.lit 0), .int
 .u8 (.lit 0)]), (20, [.int .i64 (.var 25), .int .u32 (.var 26), .var 27, .var 28, .bool (.var 29), .bool (.var 30), .bool (.var 31), .bool (.var 32), .bool (.var
 33), .bool (.var 34), .bool (.var 35), .bool (.var 36), .int .u8 (.var 37), .int .u8 (.var 38), .int .u8 (.var 39), .int .u8 (.var 40), .int .u8 (.var
 41), .int .u8 (.var 42), .int .u8 (.var 43), .int .u8 (.var 44)])] (.ob (.lt (.lit 0) (.len 27)) (.ob (.not (.nil 27)) (.load (.elt 27 0 (.lit 0) 1 0) [.int
 .u16] (.call 11 [.agg [.int .u8 (.var 45), .int .u8 (.var 46), .int .u8 (.var 47)]] [.int .u32] (.int .u32 (.var 50)) [] true [] [] [48, 21, 20] [(48,
 [.int .u8 (.var 45), .int .u8 (.var 46), .int .u8 (.var 47)]), (21, [.int .i64 (.lit 0), .int .u32 (.lit 0), .cst (.slice none 0 0), .cst (.slice none
 0 0), .bool (.lit false), .bool (.lit false), .bool (.lit false), .bool (.lit false), .bool (.lit false), .bool (.lit false), .bool (.lit false), .bool (.lit false), .int .u8
 (.lit 0), .int .u8 (.lit 0), .int .u8 (.lit 0), .int .u8 (.lit 0), .int .u8 (.lit 0), .int .u8 (.lit 0), .int .u8 (.lit 0), .int .u8 (.lit
 0)]), (20, [.int .i64 (.var 25), .int .u32 (.var 26), .var 27, .var 28, .bool (.var 29), .bool (.var 30), .bool (.var 31), .bool (.var 32), .bool (.var 33), .bool (.var
 34), .bool (.var 35), .bool (.var 36), .int .u8 (.var 37), .int .u8 (.var 38), .int .u8 (.var 39), .int .u8 (.var 40), .int .u8 (.var 41), .int .u8
 (.var 42), .int .u8 (.var 43), .int .u8 (.var 44)])] (.blk (.gen (.call { callee := .builtin .append, args := #[.tmp 35, .tmp 43], argTypes := #[46, 46] }) 46
 [(.tmp 35, .var 22), (.tmp 43, .slc 51 0 1 1)] [.slice] (.var 52) [] true [] [] [51, 48, 21, 20] [(51, [.int .u16 (.var 49), .int .u32 (.var 50)]), (48, [.int .u8
 (.var 45), .int .u8 (.var 46), .int .u8 (.var 47)]), (21, [.int .i64 (.lit 0), .int .u32 (.lit 0), .cst (.slice none 0 0), .cst (.slice none 0 0), .bool
 (.lit false), .bool (.lit false), .bool (.lit false), .bool (.lit false), .bool (.lit false), .bool (.lit false), .bool (.lit false), .bool (.lit false), .int .u8 (.lit 0),
 .int .u8 (.lit 0), .int .u8 (.lit 0), .int .u8 (.lit 0), .int .u8 (.lit 0), .int .u8 (.lit 0), .int .u8 (.lit 0), .int .u8 (.lit 0)]), (20,
 [.int .i64 (.var 25), .int .u32 (.var 26), .var 27, .var 28, .bool (.var 29), .bool (.var 30), .bool (.var 31), .bool (.var 32), .bool (.var 33), .bool (.var 34),
 .bool (.var 35), .bool (.var 36), .int .u8 (.var 37), .int .u8 (.var 38), .int .u8 (.var 39), .int .u8 (.var 40), .int .u8 (.var 41), .int .u8
 (.var 42), .int .u8 (.var 43), .int .u8 (.var 44)])] (.start false [] [] [(51, [.int .u16 (.var 49), .int .u32 (.var 50)]), (48, [.int .u8 (.var 45), .int
 .u8 (.var 46), .int .u8 (.var 47)]), (21, [.int .i64 (.lit 0), .int .u32 (.lit 0), .cst (.slice none 0 0), .cst (.slice none 0 0), .bool (.lit false), .bool
 (.lit false), .bool (.lit false), .bool (.lit false), .bool (.lit false), .bool (.lit false), .bool (.lit false), .bool (.lit false), .int .u8 (.lit 0), .int .u8 (.lit 0),
 .int .u8 (.lit 0), .int .u8 (.lit 0), .int .u8 (.lit 0), .int .u8 (.lit 0), .int .u8 (.lit 0), .int .u8 (.lit 0)]), (20, [.int .i64 (.var 25),
 .int .u32 (.var 26), .var 27, .var 28, .bool (.var 29), .bool (.var 30), .bool (.var 31), .bool (.var 32), .bool (.var 33), .bool (.var 34), .bool (.var 35), .bool (.var
 36), .int .u8 (.var 37), .int .u8 (.var 38), .int .u8 (.var 39), .int .u8 (.var 40), .int .u8 (.var 41), .int .u8 (.var 42), .int .u8 (.var
 43), .int .u8 (.var 44)])] (.pur (.slice 35 (.tmp 46) (some (.const (.int .i64 1))) none none) 35 [(.tmp 46, .var 27), (.const (.int .i64 1), .int
 .i64 (.lit 1))] [.slice] (.var 53) (.start true [20] [51, 48, 21, 20] [(51, [.int .u16 (.var 49), .int .u32 (.var 50)]), (48, [.int .u8 (.var 45), .int .u8
 (.var 46), .int .u8 (.var 47)]), (21, [.int .i64 (.lit 0), .int .u32 (.lit 0), .cst (.slice none 0 0), .cst (.slice none 0 0), .bool (.lit false), .bool (.lit
 false), .bool (.lit false), .bool (.lit false), .bool (.lit false), .bool (.lit false), .bool (.lit false), .bool (.lit false), .int .u8 (.lit 0), .int .u8 (.lit 0), .int
 .u8 (.lit 0), .int .u8 (.lit 0), .int .u8 (.lit 0), .int .u8 (.lit 0), .int .u8 (.lit 0), .int .u8 (.lit 0)]), (20, [.int .i64 (.var 25), .int
 .u32 (.var 26), .var 53, .var 28, .bool (.var 29), .bool (.var 30), .bool (.var 31), .bool (.var 32), .bool (.var 33), .bool (.var 34), .bool (.var 35), .bool (.var 36),
 .int .u8 (.var 37), .int .u8 (.var 38), .int .u8 (.var 39), .int .u8 (.var 40), .int .u8 (.var 41), .int .u8 (.var 42), .int .u8 (.var 43),
 .int .u8 (.var 44)])] (.ob (.le (.lit 0) (.var 45)) (.ob (.lt (.var 45) (.lit 8)) (.ob (.le (.lit 0) (.var 45)) (.ob (.lt (.var 45) (.lit 8)) (.ob (.le (.lit
 (-9223372036854775808)) (.add (.var 24) (.lit 1))) (.ob (.le (.add (.var 24) (.lit 1)) (.lit 9223372036854775807)) (.leaf 1 [.var 52, .var 23, .int .i64 (.add (.var 24) (.lit 1)),
 .int .i64 (.var 25), .int .u32 (.var 26), .var 53, .var 28, .bool (.var 29), .bool (.var 30), .bool (.var 31), .bool (.var 32), .bool (.var 33), .bool (.var 34), .bool
 (.var 35), .bool (.lit true), .int .u8 (.var 37), .int .u8 (.var 38), .int .u8 (.var 39), .int .u8 (.var 40), .int .u8 (.var 41), .int .u8 (.var
 42), .int .u8 (.var 43), .int .u8 (.var 47)] [20] [(51, [.int .u16 (.var 49), .int .u32 (.var 50)]), (48, [.int .u8 (.var 45), .int .u8 (.var 46), .int
 .u8 (.var 47)]), (21, [.int .i64 (.lit 0), .int .u32 (.lit 0), .cst (.slice none 0 0), .cst (.slice none 0 0), .bool (.lit false), .bool (.lit false), .bool (.lit
 false), .bool (.lit false), .bool (.lit false), .bool (.lit false), .bool (.lit false), .bool (.lit false), .int .u8 (.lit 0), .int .u8 (.lit 0), .int .u8 (.lit 0),
 .int .u8 (.lit 0), .int .u8 (.lit 0), .int .u8 (.lit 0), .int .u8 (.lit 0), .int .u8 (.lit 0)]), (20, [.int .i64 (.var 25), .int .u32 (.var
 26), .var 53, .var 28, .bool (.var 29), .bool (.var 30), .bool (.var 31), .bool (.var 32), .bool (.var 33), .bool (.var 34), .bool (.var 35), .bool (.lit true), .int .u8
 (.var 37), .int .u8 (.var 38), .int .u8 (.var 39), .int .u8 (.var 40), .int .u8 (.var 41), .int .u8 (.var 42), .int .u8 (.var 43), .int .u8
 (.var 47)])])))))))))))))))))) (.bad "index")))))))))))))))))) (.leaf 0 [.tuple [.agg [.int .i64 (.var 25), .int .u32 (.var 26), .var 27, .var 23, .bool (.var 29), .bool (.var
 30), .bool (.var 31), .bool (.var 32), .bool (.var 33), .bool (.var 34), .bool (.var 35), .bool (.var 36), .int .u8 (.var 37), .int .u8 (.var 38), .int .u8 (.var
 39), .int .u8 (.var 40), .int .u8 (.var 41), .int .u8 (.var 42), .int .u8 (.var 43), .int .u8 (.var 44)], .var 22]] [21, 20] [(21, [.int .i64 (.var
 25), .int .u32 (.var 26), .var 27, .var 23, .bool (.var 29), .bool (.var 30), .bool (.var 31), .bool (.var 32), .bool (.var 33), .bool (.var 34), .bool (.var 35), .bool
 (.var 36), .int .u8 (.var 37), .int .u8 (.var 38), .int .u8 (.var 39), .int .u8 (.var 40), .int .u8 (.var 41), .int .u8 (.var 42), .int .u8
 (.var 43), .int .u8 (.var 44)]), (20, [.int .i64 (.var 25), .int .u32 (.var 26), .var 27, .var 23, .bool (.var 29), .bool (.var 30), .bool (.var 31), .bool (.var
 32), .bool (.var 33), .bool (.var 34), .bool (.var 35), .bool (.var 36), .int .u8 (.var 37), .int .u8 (.var 38), .int .u8 (.var 39), .int .u8 (.var 40), .int
 .u8 (.var 41), .int .u8 (.var 42), .int .u8 (.var 43), .int .u8 (.var 44)])])))) := by kernel_rfl

theorem t52 : exFn { P := Try.prog, loops := fun r => if Nat.beq r 2 then some ⟨1, [(5, .int .i64)], [2]⟩ else none } 52 [.agg [.int .i64 (.var 0), .int .u32 (.var 1), .var 2, .var 3, .bool (.var 4), .bool (.var 5),
 .bool (.var 6), .bool (.var 7), .bool (.var 8), .bool (.var 9), .bool (.var 10), .bool (.var 11), .int .u8 (.var 12), .int .u8 (.var 13), .int .u8 (.var 14), .int .u8 (.var 15), .int .u8 (.var 16), .int .u8 (.var 17),
 .int .u8 (.var 18), .int .u8 (.var 19)], .int .u8 (.var 20)] [.int .i64, .int .u32, .slice, .slice, .bool, .bool, .bool, .bool, .bool, .bool, .bool, .bool, .int .u8, .int .u8, .int .u8, .int .u8, .int .u8, .int .u8,
 .int .u8, .int .u8, .int .u8] [] = .blk (.blk (.loop 1 [.int .i64 (.lit 0), .int .i64 (.var 0), .int .u32 (.var 1), .var 2, .var 3, .bool (.var 4), .bool (.var 5),
 .bool (.var 6), .bool (.var 7), .bool (.var 8), .bool (.var 9), .bool (.var 10), .bool (.var 11), .int .u8 (.var 12), .int .u8 (.var 13), .int .u8 (.var 14),
 .int .u8 (.var 15), .int .u8 (.var 16), .int .u8 (.var 17), .int .u8 (.var 18), .int .u8 (.var 19)] [.int .i64, .int .i64, .int
 .u32, .slice, .slice, .bool, .bool, .bool, .bool, .bool, .bool, .bool, .bool, .int .u8, .int .u8, .int .u8, .int .u8, .int
 .u8, .int .u8, .int .u8, .int .u8] [] [22, 21] [(22, [.int .i64 (.lit 0), .int .u32 (.lit 0), .cst (.slice none 0 0), .cst (.slice none 0 0),
 .bool (.lit false), .bool (.lit false), .bool (.lit false), .bool (.lit false), .bool (.lit false), .bool (.lit false), .bool (.lit false), .bool (.lit false), .int .u8 (.lit
 0), .int .u8 (.lit 0), .int .u8 (.lit 0), .int .u8 (.lit 0), .int .u8 (.lit 0), .int .u8 (.lit 0), .int .u8 (.lit 0), .int .u8 (.lit 0)]),
 (21, [.int .i64 (.var 0), .int .u32 (.var 1), .var 2, .var 3, .bool (.var 4), .bool (.var 5), .bool (.var 6), .bool (.var 7), .bool (.var 8), .bool (.var 9), .bool
 (.var 10), .bool (.var 11), .int .u8 (.var 12), .int .u8 (.var 13), .int .u8 (.var 14), .int .u8 (.var 15), .int .u8 (.var 16), .int .u8 (.var 17),
 .int .u8 (.var 18), .int .u8 (.var 19)])] [(22, [.int .i64 (.lit 0), .int .u32 (.lit 0), .cst (.slice none 0 0), .cst (.slice none 0 0), .bool (.lit false),
 .bool (.lit false), .bool (.lit false), .bool (.lit false), .bool (.lit false), .bool (.lit false), .bool (.lit false), .bool (.lit false), .int .u8 (.lit 0), .int .u8
 (.lit 0), .int .u8 (.lit 0), .int .u8 (.lit 0), .int .u8 (.lit 0), .int .u8 (.lit 0), .int .u8 (.lit 0), .int .u8 (.lit 0)]), (21, [.int .i64
 (.var 24), .int .u32 (.var 25), .var 26, .var 27, .bool (.var 28), .bool (.var 29), .bool (.var 30), .bool (.var 31), .bool (.var 32), .bool (.var 33), .bool (.var 34),
 .bool (.var 35), .int .u8 (.var 36), .int .u8 (.var 37), .int .u8 (.var 38), .int .u8 (.var 39), .int .u8 (.var 40), .int .u8 (.var 41), .int
 .u8 (.var 42), .int .u8 (.var 43)])] (.split (.lt (.var 23) (.lit 8)) (.ob (.le (.lit 0) (.var 23)) (.ob (.lt (.var 23) (.lit 8)) (.split (.eq (.var 23) (.lit 0))
 (.split (.eq (.var 36) (.var 20)) (.ob (.le (.lit 0) (.var 23)) (.ob (.lt (.var 23) (.lit 8)) (.ob (.le (.lit (-9223372036854775808)) (.add (.var 23) (.lit 1))) (.ob (.le (.add
 (.var 23) (.lit 1)) (.lit 9223372036854775807)) (.leaf 1 [.int .i64 (.add (.var 23) (.lit 1)), .int .i64 (.var 24), .int .u32 (.var 25), .var 26, .var 27, .bool (.lit
 false), .bool (.var 29), .bool (.var 30), .bool (.var 31), .bool (.var 32), .bool (.var 33), .bool (.var 34), .bool (.var 35), .int .u8 (.var 36), .int .u8 (.var 37),
 .int .u8 (.var 38), .int .u8 (.var 39), .int .u8 (.var 40), .int .u8 (.var 41), .int .u8 (.var 42), .int .u8 (.var 43)] [21] [(22, [.int .i64
 (.lit 0), .int .u32 (.lit 0), .cst (.slice none 0 0), .cst (.slice none 0 0), .bool (.lit false), .bool (.lit false), .bool (.lit false), .bool (.lit false), .bool (.lit
 false), .bool (.lit false), .bool (.lit false), .bool (.lit false), .int .u8 (.lit 0), .int .u8 (.lit 0), .int .u8 (.lit 0), .int .u8 (.lit 0), .int .u8
 (.lit 0), .int .u8 (.lit 0), .int .u8 (.lit 0), .int .u8 (.lit 0)]), (21, [.int .i64 (.var 24), .int .u32 (.var 25), .var 26, .var 27, .bool (.lit false),
 .bool (.var 29), .bool (.var 30), .bool (.var 31), .bool (.var 32), .bool (.var 33), .bool (.var 34), .bool (.var 35), .int .u8 (.var 36), .int .u8 (.var 37), .int
 .u8 (.var 38), .int .u8 (.var 39), .int .u8 (.var 40), .int .u8 (.var 41), .int .u8 (.var 42), .int .u8 (.var 43)])]))))) (.ob (.le (.lit
 (-9223372036854775808)) (.add (.var 23) (.lit 1))) (.ob (.le (.add (.var 23) (.lit 1)) (.lit 9223372036854775807)) (.leaf 1 [.int .i64 (.add (.var 23) (.lit 1)), .int .i64
 (.var 24), .int .u32 (.var 25), .var 26, .var 27, .bool (.var 28), .bool (.var 29), .bool (.var 30), .bool (.var 31), .bool (.var 32), .bool (.var 33), .bool (.var 34),
 .bool (.var 35), .int .u8 (.var 36), .int .u8 (.var 37), .int .u8 (.var 38), .int .u8 (.var 39), .int .u8 (.var 40), .int .u8 (.var 41), .int
 .u8 (.var 42), .int .u8 (.var 43)] [] [(22, [.int .i64 (.lit 0), .int .u32 (.lit 0), .cst (.slice none 0 0), .cst (.slice none 0 0), .bool (.lit false),
 .bool (.lit false), .bool (.lit false), .bool (.lit false), .bool (.lit false), .bool (.lit false), .bool (.lit false), .bool (.lit false), .int .u8 (.lit 0), .int .u8
 (.lit 0), .int .u8 (.lit 0), .int .u8 (.lit 0), .int .u8 (.lit 0), .int .u8 (.lit 0), .int .u8 (.lit 0), .int .u8 (.lit 0)]), (21, [.int .i64
 (.var 24), .int .u32 (.var 25), .var 26, .var 27, .bool (.var 28), .bool (.var 29), .bool (.var 30), .bool (.var 31), .bool (.var 32), .bool (.var 33), .bool (.var 34),
 .bool (.var 35), .int .u8 (.var 36), .int .u8 (.var 37), .int .u8 (.var 38), .int .u8 (.var 39), .int .u8 (.var 40), .int .u8 (.var 41), .int
 .u8 (.var 42), .int .u8 (.var 43)])])))) (.split (.eq (.var 23) (.lit 1)) (.split (.eq (.var 37) (.var 20)) (.ob (.le (.lit 0) (.var 23)) (.ob (.lt (.var 23) (.lit 8))
 (.ob (.le (.lit (-9223372036854775808)) (.add (.var 23) (.lit 1))) (.ob (.le (.add (.var 23) (.lit 1)) (.lit 9223372036854775807)) (.leaf 1 [.int .i64 (.add (.var 23) (.lit 1)),
 .int .i64 (.var 24), .int .u32 (.var 25), .var 26, .var 27, .bool (.var 28), .bool (.lit false), .bool (.var 30), .bool (.var 31), .bool (.var 32), .bool (.var 33),
 .bool (.var 34), .bool (.var 35), .int .u8 (.var 36), .int .u8 (.var 37), .int .u8 (.var 38), .int .u8 (.var 39), .int .u8 (.var 40), .int .u8
 (.var 41), .int .u8 (.var 42), .int .u8 (.var 43)] [21] [(22, [.int .i64 (.lit 0), .int .u32 (.lit 0), .cst (.slice none 0 0), .cst (.slice none 0 0), .bool
 (.lit false), .bool (.lit false), .bool (.lit false), .bool (.lit false), .bool (.lit false), .bool (.lit false), .bool (.lit false), .bool (.lit false), .int .u8 (.lit 0),
 .int .u8 (.lit 0), .int .u8 (.lit 0), .int .u8 (.lit 0), .int .u8 (.lit 0), .int .u8 (.lit 0), .int .u8 (.lit 0), .int .u8 (.lit 0)]), (21,
 [.int .i64 (.var 24), .int .u32 (.var 25), .var 26, .var 27, .bool (.var 28), .bool (.lit false), .bool (.var 30), .bool (.var 31), .bool (.var 32), .bool (.var 33),
 .bool (.var 34), .bool (.var 35), .int .u8 (.var 36), .int .u8 (.var 37), .int .u8 (.var 38), .int .u8 (.var 39), .int .u8 (.var 40), .int .u8
 (.var 41), .int .u8 (.var 42), .int .u8 (.var 43)])]))))) (.ob (.le (.lit (-9223372036854775808)) (.add (.var 23) (.lit 1))) (.ob (.le (.add (.var 23) (.lit 1)) (.lit
 9223372036854775807)) (.leaf 1 [.int .i64 (.add (.var 23) (.lit 1)), .int .i64 (.var 24), .int .u32 (.var 25), .var 26, .var 27, .bool (.var 28), .bool (.var 29),
 .bool (.var 30), .bool (.var 31), .bool (.var 32), .bool (.var 33), .bool (.var 34), .bool (.var 35), .int .u8 (.var 36), .int .u8 (.var 37), .int .u8 (.var 38),
 .int .u8 (.var 39), .int .u8 (.var 40), .int .u8 (.var 41), .int .u8 (.var 42), .int .u8 (.var 43)] [] [(22, [.int .i64 (.lit 0), .int .u32
 (.lit 0), .cst (.slice none 0 0), .cst (.slice none 0 0), .bool (.lit false), .bool (.lit false), .bool (.lit false), .bool (.lit false), .bool (.lit false), .bool (.lit false),
 .bool (.lit false), .bool (.lit false), .int .u8 (.lit 0), .int .u8 (.lit 0), .int .u8 (.lit 0), .int .u8 (.lit 0), .int .u8 (.lit 0), .int .u8
 (.lit 0), .int .u8 (.lit 0), .int .u8 (.lit 0)]), (21, [.int .i64 (.var 24), .int .u32 (.var 25), .var 26, .var 27, .bool (.var 28), .bool (.var 29), .bool
 (.var 30), .bool (.var 31), .bool (.var 32), .bool (.var 33), .bool (.var 34), .bool (.var 35), .int .u8 (.var 36), .int .u8 (.var 37), .int .u8 (.var 38), .int
 .u8 (.var 39), .int .u8 (.var 40), .int .u8 (.var 41), .int .u8 (.var 42), .int .u8 (.var 43)])])))) (.split (.eq (.var 23) (.lit 2)) (.split (.eq (.var
 38) (.var 20)) (.ob (.le (.lit 0) (.var 23)) (.ob (.lt (.var 23) (.lit 8)) (.ob (.le (.lit (-9223372036854775808)) (.add (.var 23) (.lit 1))) (.ob (.le (.add (.var 23) (.lit 1))
 (.lit 9223372036854775807)) (.leaf 1 [.int .i64 (.add (.var 23) (.lit 1)), .int .i64 (.var 24), .int .u32 (.var 25), .var 26, .var 27, .bool (.var 28), .bool (.var
 29), .bool (.lit false), .bool (.var 31), .bool (.var 32), .bool (.var 33), .bool (.var 34), .bool (.var 35), .int .u8 (.var 36), .int .u8 (.var 37), .int .u8
 (.var 38), .int .u8 (.var 39), .int .u8 (.var 40), .int .u8 (.var 41), .int .u8 (.var 42), .int .u8 (.var 43)] [21] [(22, [.int .i64 (.lit 0), .int
 .u32 (.lit 0), .cst (.slice none 0 0), .cst (.slice none 0 0), .bool (.lit false), .bool (.lit false), .bool (.lit false), .bool (.lit false), .bool (.lit false), .bool
 (.lit false), .bool (.lit false), .bool (.lit false), .int .u8 (.lit 0), .int .u8 (.lit 0), .int .u8 (.lit 0), .int .u8 (.lit 0), .int .u8 (.lit 0),
 .int .u8 (.lit 0), .int .u8 (.lit 0), .int .u8 (.lit 0)]), (21, [.int .i64 (.var 24), .int .u32 (.var 25), .var 26, .var 27, .bool (.var 28), .bool
 (.var 29), .bool (.lit false), .bool (.var 31), .bool (.var 32), .bool (.var 33), .bool (.var 34), .bool (.var 35), .int .u8 (.var 36), .int .u8 (.var 37), .int
 .u8 (.var 38), .int .u8 (.var 39), .int .u8 (.var 40), .int .u8 (.var 41), .int .u8 (.var 42), .int .u8 (.var 43)])]))))) (.ob (.le (.lit
 (-9223372036854775808)) (.add (.var 23) (.lit 1))) (.ob (.le (.add (.var 23) (.lit 1)) (.lit 9223372036854775807)) (.leaf 1 [.int .i64 (.add (.var 23) (.lit 1)), .int .i64
 (.var 24), .int .u32 (.var 25), .var 26, .var 27, .bool (.var 28), .bool (.var 29), .bool (.var 30), .bool (.var 31), .bool (.var 32), .bool (.var 33), .bool (.var 34),
 .bool (.var 35), .int .u8 (.var 36), .int .u8 (.var 37), .int .u8 (.var 38), .int .u8 (.var 39), .int .u8 (.var 40), .int .u8 (.var 41), .int
 .u8 (.var 42), .int .u8 (.var 43)] [] [(22, [.int .i64 (.lit 0), .int .u32 (.lit 0), .cst (.slice none 0 0), .cst (.slice none 0 0), .bool (.lit false),
 .bool (.lit false), .bool (.lit false), .bool (.lit false), .bool (.lit false), .bool (.lit false), .bool (.lit false), .bool (.lit false), .int .u8 (.lit 0), .int .u8
 (.lit 0), .int .u8 (.lit 0), .int .u8 (.lit 0), .int .u8 (.lit 0), .int .u8 (.lit 0), .int .u8 (.lit 0), .int .u8 (.lit 0)]), (21, [.int .i64
 (.var 24), .int .u32 (.var 25), .var 26, .var 27, .bool (.var 28), .bool (.var 29), .bool (.var 30), .bool (.var 31), .bool (.var 32), .bool (.var 33), .bool (.var 34),
 .bool (.var 35), .int .u8 (.var 36), .int .u8 (.var 37), .int .u8 (.var 38), .int .u8 (.var 39), .int .u8 (.var 40), .int .u8 (.var 41), .int
 .u8 (.var 42), .int .u8 (.var 43)])])))) (.split (.eq (.var 23) (.lit 3)) (.split (.eq (.var 39) (.var 20)) (.ob (.le (.lit 0) (.var 23)) (.ob (.lt (.var 23) (.lit 8))
 (.ob (.le (.lit (-9223372036854775808)) (.add (.var 23) (.lit 1))) (.ob (.le (.add (.var 23) (.lit 1)) (.lit 9223372036854775807)) (.leaf 1 [.int .i64 (.add (.var 23) (.lit 1)),
 .int .i64 (.var 24), .int .u32 (.var 25), .var 26, .var 27, .bool (.var 28), .bool (.var 29), .bool (.var 30), .bool (.lit false), .bool (.var 32), .bool (.var 33),
 .bool (.var 34), .bool (.var 35), .int .u8 (.var 36), .int .u8 (.var 37), .int .u8 (.var 38), .int .u8 (.var 39), .int .u8 (.var 40), .int .u8
 (.var 41), .int .u8 (.var 42), .int .u8 (.var 43)] [21] [(22, [.int .i64 (.lit 0), .int .u32 (.lit 0), .cst (.slice none 0 0), .cst (.slice none 0 0), .bool
 (.lit false), .bool (.lit false), .bool (.lit false), .bool (.lit false), .bool (.lit false), .bool (.lit false), .bool (.lit false), .bool (.lit false), .int .u8 (.lit 0),
 .int .u8 (.lit 0), .int .u8 (.lit 0), .int .u8 (.lit 0), .int .u8 (.lit 0), .int .u8 (.lit 0), .int .u8 (.lit 0), .int .u8 (.lit 0)]), (21,
 [.int .i64 (.var 24), .int .u32 (.var 25), .var 26, .var 27, .bool (.var 28), .bool (.var 29), .bool (.var 30), .bool (.lit false), .bool (.var 32), .bool (.var 33),
 .bool (.var 34), .bool (.var 35), .int .u8 (.var 36), .int .u8 (.var 37), .int .u8 (.var 38), .int .u8 (.var 39), .int .u8 (.var 40), .int .u8
 (.var 41), .int .u8 (.var 42), .int .u8 (.var 43)])]))))) (.ob (.le (.lit (-9223372036854775808)) (.add (.var 23) (.lit 1))) (.ob (.le (.add (.var 23) (.lit 1)) (.lit
 9223372036854775807)) (.leaf 1 [.int .i64 (.add (.var 23) (.lit 1)), .int .i64 (.var 24), .int .u32 (.var 25), .var 26, .var 27, .bool (.var 28), .bool (.var 29),
 .bool (.var 30), .bool (.var 31), .bool (.var 32), .bool (.var 33), .bool (.var 34), .bool (.var 35), .int .u8 (.var 36), .int .u8 (.var 37), .int .u8 (.var 38),
 .int .u8 (.var 39), .int .u8 (.var 40), .int .u8 (.var 41), .int .u8 (.var 42), .int .u8 (.var 43)] [] [(22, [.int .i64 (.lit 0), .int .u32
 (.lit 0), .cst (.slice none 0 0), .cst (.slice none 0 0), .bool (.lit false), .bool (.lit false), .bool (.lit false), .bool (.lit false), .bool (.lit false), .bool (.lit false),
 .bool (.lit false), .bool (.lit false), .int .u8 (.lit 0), .int .u8 (.lit 0), .int .u8 (.lit 0), .int .u8 (.lit 0), .int .u8 (.lit 0), .int .u8
 (.lit 0), .int .u8 (.lit 0), .int .u8 (.lit 0)]), (21, [.int .i64 (.var 24), .int .u32 (.var 25), .var 26, .var 27, .bool (.var 28), .bool (.var 29), .bool
 (.var 30), .bool (.var 31), .bool (.var 32), .bool (.var 33), .bool (.var 34), .bool (.var 35), .int .u8 (.var 36), .int .u8 (.var 37), .int .u8 (.var 38), .int
 .u8 (.var 39), .int .u8 (.var 40), .int .u8 (.var 41), .int .u8 (.var 42), .int .u8 (.var 43)])])))) (.split (.eq (.var 23) (.lit 4)) (.split (.eq (.var
 40) (.var 20)) (.ob (.le (.lit 0) (.var 23)) (.ob (.lt (.var 23) (.lit 8)) (.ob (.le (.lit (-9223372036854775808)) (.add (.var 23) (.lit 1))) (.ob (.le (.add (.var 23) (.lit 1))
 (.lit 9223372036854775807)) (.leaf 1 [.int .i64 (.add (.var 23) (.lit 1)), .int .i64 (.var 24), .int .u32 (.var 25), .var 26, .var 27, .bool (.var 28), .bool (.var
 29), .bool (.var 30), .bool (.var 31), .bool (.lit false), .bool (.var 33), .bool (.var 34), .bool (.var 35), .int .u8 (.var 36), .int .u8 (.var 37), .int .u8
 (.var 38), .int .u8 (.var 39), .int .u8 (.var 40), .int .u8 (.var 41), .int .u8 (.var 42), .int .u8 (.var 43)] [21] [(22, [.int .i64 (.lit 0), .int
 .u32 (.lit 0), .cst (.slice none 0 0), .cst (.slice none 0 0), .bool (.lit false), .bool (.lit false), .bool (.lit false), .bool (.lit false), .bool (.lit false), .bool
 (.lit false), .bool (.lit false), .bool (.lit false), .int .u8 (.lit 0), .int .u8 (.lit 0), .int .u8 (.lit 0), .int .u8 (.lit 0), .int .u8 (.lit 0),
 .int .u8 (.lit 0), .int .u8 (.lit 0), .int .u8 (.lit 0)]), (21, [.int .i64 (.var 24), .int .u32 (.var 25), .var 26, .var 27, .bool (.var 28), .bool
 (.var 29), .bool (.var 30), .bool (.var 31), .bool (.lit false), .bool (.var 33), .bool (.var 34), .bool (.var 35), .int .u8 (.var 36), .int .u8 (.var 37), .int
 .u8 (.var 38), .int .u8 (.var 39), .int .u8 (.var 40), .int .u8 (.var 41), .int .u8 (.var 42), .int .u8 (.var 43)])]))))) (.ob (.le (.lit
 (-9223372036854775808)) (.add (.var 23) (.lit 1))) (.ob (.le (.add (.var 23) (.lit 1)) (.lit 9223372036854775807)) (.leaf 1 [.int .i64 (.add (.var 23) (.lit 1)), .int .i64
 (.var 24), .int .u32 (.var 25), .var 26, .var 27, .bool (.var 28), .bool (.var 29), .bool (.var 30), .bool (.var 31), .bool (.var 32), .bool (.var 33), .bool (.var 34),
 .bool (.var 35), .int .u8 (.var 36), .int .u8 (.var 37), .int .u8 (.var 38), .int .u8 (.var 39), .int .u8 (.var 40), .int .u8 (.var 41), .int
 .u8 (.var 42), .int .u8 (.var 43)] [] [(22, [.int .i64 (.lit 0), .int .u32 (.lit 0), .cst (.slice none 0 0), .cst (.slice none 0 0), .bool (.lit false),
 .bool (.lit false), .bool (.lit false), .bool (.lit false), .bool (.lit false), .bool (.lit false), .bool (.lit false), .bool (.lit false), .int .u8 (.lit 0), .int .u8
 (.lit 0), .int .u8 (.lit 0), .int .u8 (.lit 0), .int .u8 (.lit 0), .int .u8 (.lit 0), .int .u8 (.lit 0), .int .u8 (.lit 0)]), (21, [.int .i64
 (.var 24), .int .u32 (.var 25), .var 26, .var 27, .bool (.var 28), .bool (.var 29), .bool (.var 30), .bool (.var 31), .bool (.var 32), .bool (.var 33), .bool (.var 34),
 .bool (.var 35), .int .u8 (.var 36), .int .u8 (.var 37), .int .u8 (.var 38), .int .u8 (.var 39), .int .u8 (.var 40), .int .u8 (.var 41), .int
 .u8 (.var 42), .int .u8 (.var 43)])])))) (.split (.eq (.var 23) (.lit 5)) (.split (.eq (.var 41) (.var 20)) (.ob (.le (.lit 0) (.var 23)) (.ob (.lt (.var 23) (.lit 8))
 (.ob (.le (.lit (-9223372036854775808)) (.add (.var 23) (.lit 1))) (.ob (.le (.add (.var 23) (.lit 1)) (.lit 9223372036854775807)) (.leaf 1 [.int .i64 (.add (.var 23) (.lit 1)),
 .int .i64 (.var 24), .int .u32 (.var 25), .var 26, .var 27, .bool (.var 28), .bool (.var 29), .bool (.var 30), .bool (.var 31), .bool (.var 32), .bool (.lit false),
 .bool (.var 34), .bool (.var 35), .int .u8 (.var 36), .int .u8 (.var 37), .int .u8 (.var 38), .int .u8 (.var 39), .int .u8 (.var 40), .int .u8
 (.var 41), .int .u8 (.var 42), .int .u8 (.var 43)] [21] [(22, [.int .i64 (.lit 0), .int .u32 (.lit 0), .cst (.slice none 0 0), .cst (.slice none 0 0), .bool
 (.lit false), .bool (.lit false), .bool (.lit false), .bool (.lit false), .bool (.lit false), .bool (.lit false), .bool (.lit false), .bool (.lit false), .int .u8 (.lit 0),
 .int .u8 (.lit 0), .int .u8 (.lit 0), .int .u8 (.lit 0), .int .u8 (.lit 0), .int .u8 (.lit 0), .int .u8 (.lit 0), .int .u8 (.lit 0)]), (21,
 [.int .i64 (.var 24), .int .u32 (.var 25), .var 26, .var 27, .bool (.var 28), .bool (.var 29), .bool (.var 30), .bool (.var 31), .bool (.var 32), .bool (.lit false),
 .bool (.var 34), .bool (.var 35), .int .u8 (.var 36), .int .u8 (.var 37), .int .u8 (.var 38), .int .u8 (.var 39), .int .u8 (.var 40), .int .u8
 (.var 41), .int .u8 (.var 42), .int .u8 (.var 43)])]))))) (.ob (.le (.lit (-9223372036854775808)) (.add (.var 23) (.lit 1))) (.ob (.le (.add (.var 23) (.lit 1)) (.lit
 9223372036854775807)) (.leaf 1 [.int .i64 (.add (.var 23) (.lit 1)), .int .i64 (.var 24), .int .u32 (.var 25), .var 26, .var 27, .bool (.var 28), .bool (.var 29),
 .bool (.var 30), .bool (.var 31), .bool (.var 32), .bool (.var 33), .bool (.var 34), .bool (.var 35), .int .u8 (.var 36), .int .u8 (.var 37), .int .u8 (.var 38),
 .int .u8 (.var 39), .int .u8 (.var 40), .int .u8 (.var 41), .int .u8 (.var 42), .int .u8 (.var 43)] [] [(22, [.int .i64 (.lit 0), .int .u32
 (.lit 0), .cst (.slice none 0 0), .cst (.slice none 0 0), .bool (.lit false), .bool (.lit false), .bool (.lit false), .bool (.lit false), .bool (.lit false), .bool (.lit false),
 .bool (.lit false), .bool (.lit false), .int .u8 (.lit 0), .int .u8 (.lit 0), .int .u8 (.lit 0), .int .u8 (.lit 0), .int .u8 (.lit 0), .int .u8
 (.lit 0), .int .u8 (.lit 0), .int .u8 (.lit 0)]), (21, [.int .i64 (.var 24), .int .u32 (.var 25), .var 26, .var 27, .bool (.var 28), .bool (.var 29), .bool
 (.var 30), .bool (.var 31), .bool (.var 32), .bool (.var 33), .bool (.var 34), .bool (.var 35), .int .u8 (.var 36), .int .u8 (.var 37), .int .u8 (.var 38), .int
 .u8 (.var 39), .int .u8 (.var 40), .int .u8 (.var 41), .int .u8 (.var 42), .int .u8 (.var 43)])])))) (.split (.eq (.var 23) (.lit 6)) (.split (.eq (.var
 42) (.var 20)) (.ob (.le (.lit 0) (.var 23)) (.ob (.lt (.var 23) (.lit 8)) (.ob (.le (.lit (-9223372036854775808)) (.add (.var 23) (.lit 1))) (.ob (.le (.add (.var 23) (.lit 1))
 (.lit 9223372036854775807)) (.leaf 1 [.int .i64 (.add (.var 23) (.lit 1)), .int .i64 (.var 24), .int .u32 (.var 25), .var 26, .var 27, .bool (.var 28), .bool (.var
 29), .bool (.var 30), .bool (.var 31), .bool (.var 32), .bool (.var 33), .bool (.lit false), .bool (.var 35), .int .u8 (.var 36), .int .u8 (.var 37), .int .u8
 (.var 38), .int .u8 (.var 39), .int .u8 (.var 40), .int .u8 (.var 41), .int .u8 (.var 42), .int .u8 (.var 43)] [21] [(22, [.int .i64 (.lit 0), .int
 .u32 (.lit 0), .cst (.slice none 0 0), .cst (.slice none 0 0), .bool (.lit false), .bool (.lit false), .bool (.lit false), .bool (.lit false), .bool (.lit false), .bool
 (.lit false), .bool (.lit false), .bool (.lit false), .int .u8 (.lit 0), .int .u8 (.lit 0), .int .u8 (.lit 0), .int .u8 (.lit 0), .int .u8 (.lit 0),
 .int .u8 (.lit 0), .int .u8 (.lit 0), .int .u8 (.lit 0)]), (21, [.int .i64 (.var 24), .int .u32 (.var 25), .var 26, .var 27, .bool (.var 28), .bool
 (.var 29), .bool (.var 30), .bool (.var 31), .bool (.var 32), .bool (.var 33), .bool (.lit false), .bool (.var 35), .int .u8 (.var 36), .int .u8 (.var 37), .int
 .u8 (.var 38), .int .u8 (.var 39), .int .u8 (.var 40), .int .u8 (.var 41), .int .u8 (.var 42), .int .u8 (.var 43)])]))))) (.ob (.le (.lit
 (-9223372036854775808)) (.add (.var 23) (.lit 1))) (.ob (.le (.add (.var 23) (.lit 1)) (.lit 9223372036854775807)) (.leaf 1 [.int .i64 (.add (.var 23) (.lit 1)), .int .i64
 (.var 24), .int .u32 (.var 25), .var 26, .var 27, .bool (.var 28), .bool (.var 29), .bool (.var 30), .bool (.var 31), .bool (.var 32), .bool (.var 33), .bool (.var 34),
 .bool (.var 35), .int .u8 (.var 36), .int .u8 (.var 37), .int .u8 (.var 38), .int .u8 (.var 39), .int .u8 (.var 40), .int .u8 (.var 41), .int
 .u8 (.var 42), .int .u8 (.var 43)] [] [(22, [.int .i64 (.lit 0), .int .u32 (.lit 0), .cst (.slice none 0 0), .cst (.slice none 0 0), .bool (.lit false),
 .bool (.lit false), .bool (.lit false), .bool (.lit false), .bool (.lit false), .bool (.lit false), .bool (.lit false), .bool (.lit false), .int .u8 (.lit 0), .int .u8
 (.lit 0), .int .u8 (.lit 0), .int .u8 (.lit 0), .int .u8 (.lit 0), .int .u8 (.lit 0), .int .u8 (.lit 0), .int .u8 (.lit 0)]), (21, [.int .i64
 (.var 24), .int .u32 (.var 25), .var 26, .var 27, .bool (.var 28), .bool (.var 29), .bool (.var 30), .bool (.var 31), .bool (.var 32), .bool (.var 33), .bool (.var 34),
 .bool (.var 35), .int .u8 (.var 36), .int .u8 (.var 37), .int .u8 (.var 38), .int .u8 (.var 39), .int .u8 (.var 40), .int .u8 (.var 41), .int
 .u8 (.var 42), .int .u8 (.var 43)])])))) (.split (.eq (.var 23) (.lit 7)) (.split (.eq (.var 43) (.var 20)) (.ob (.le (.lit 0) (.var 23)) (.ob (.lt (.var 23) (.lit 8))
 (.ob (.le (.lit (-9223372036854775808)) (.add (.var 23) (.lit 1))) (.ob (.le (.add (.var 23) (.lit 1)) (.lit 9223372036854775807)) (.leaf 1 [.int .i64 (.add (.var 23) (.lit 1)),
 .int .i64 (.var 24), .int .u32 (.var 25), .var 26, .var 27, .bool (.var 28), .bool (.var 29), .bool (.var 30), .bool (.var 31), .bool (.var 32), .bool (.var 33), .bool
 (.var 34), .bool (.lit false), .int .u8 (.var 36), .int .u8 (.var 37), .int .u8 (.var 38), .int .u8 (.var 39), .int .u8 (.var 40), .int .u8 (.var
 41), .int .u8 (.var 42), .int .u8 (.var 43)] [21] [(22, [.int .i64 (.lit 0), .int .u32 (.lit 0), .cst (.slice none 0 0), .cst (.slice none 0 0), .bool (.lit
 false), .bool (.lit false), .bool (.lit false), .bool (.lit false), .bool (.lit false), .bool (.lit false), .bool (.lit false), .bool (.lit false), .int .u8 (.lit 0), .int
 .u8 (.lit 0), .int .u8 (.lit 0), .int .u8 (.lit 0), .int .u8 (.lit 0), .int .u8 (.lit 0), .int .u8 (.lit 0), .int .u8 (.lit 0)]), (21, [.int
 .i64 (.var 24), .int .u32 (.var 25), .var 26, .var 27, .bool (.var 28), .bool (.var 29), .bool (.var 30), .bool (.var 31), .bool (.var 32), .bool (.var 33), .bool
 (.var 34), .bool (.lit false), .int .u8 (.var 36), .int .u8 (.var 37), .int .u8 (.var 38), .int .u8 (.var 39), .int .u8 (.var 40), .int .u8 (.var
 41), .int .u8 (.var 42), .int .u8 (.var 43)])]))))) (.ob (.le (.lit (-9223372036854775808)) (.add (.var 23) (.lit 1))) (.ob (.le (.add (.var 23) (.lit 1)) (.lit
 9223372036854775807)) (.leaf 1 [.int .i64 (.add (.var 23) (.lit 1)), .int .i64 (.var 24), .int .u32 (.var 25), .var 26, .var 27, .bool (.var 28), .bool (.var 29),
 .bool (.var 30), .bool (.var 31), .bool (.var 32), .bool (.var 33), .bool (.var 34), .bool (.var 35), .int .u8 (.var 36), .int .u8 (.var 37), .int .u8 (.var 38),
 .int .u8 (.var 39), .int .u8 (.var 40), .int .u8 (.var 41), .int .u8 (.var 42), .int .u8 (.var 43)] [] [(22, [.int .i64 (.lit 0), .int .u32
 (.lit 0), .cst (.slice none 0 0), .cst (.slice none 0 0), .bool (.lit false), .bool (.lit false), .bool (.lit false), .bool (.lit false), .bool (.lit false), .bool (.lit false),
 .bool (.lit false), .bool (.lit false), .int .u8 (.lit 0), .int .u8 (.lit 0), .int .u8 (.lit 0), .int .u8 (.lit 0), .int .u8 (.lit 0), .int .u8
 (.lit 0), .int .u8 (.lit 0), .int .u8 (.lit 0)]), (21, [.int .i64 (.var 24), .int .u32 (.var 25), .var 26, .var 27, .bool (.var 28), .bool (.var 29), .bool
 (.var 30), .bool (.var 31), .bool (.var 32), .bool (.var 33), .bool (.var 34), .bool (.var 35), .int .u8 (.var 36), .int .u8 (.var 37), .int .u8 (.var 38), .int
 .u8 (.var 39), .int .u8 (.var 40), .int .u8 (.var 41), .int .u8 (.var 42), .int .u8 (.var 43)])])))) (.bad "index"))))))))))) (.leaf 0 [.agg [.int .i64
 (.var 24), .int .u32 (.var 25), .var 26, .var 27, .bool (.var 28), .bool (.var 29), .bool (.var 30), .bool (.var 31), .bool (.var 32), .bool (.var 33), .bool (.var 34),
 .bool (.var 35), .int .u8 (.var 36), .int .u8 (.var 37), .int .u8 (.var 38), .int .u8 (.var 39), .int .u8 (.var 40), .int .u8 (.var 41), .int
 .u8 (.var 42), .int .u8 (.var 43)]] [22] [(22, [.int .i64 (.var 24), .int .u32 (.var 25), .var 26, .var 27, .bool (.var 28), .bool (.var 29), .bool (.var 30),
 .bool (.var 31), .bool (.var 32), .bool (.var 33), .bool (.var 34), .bool (.var 35), .int .u8 (.var 36), .int .u8 (.var 37), .int .u8 (.var 38), .int .u8
 (.var 39), .int .u8 (.var 40), .int .u8 (.var 41), .int .u8 (.var 42), .int .u8 (.var 43)]), (21, [.int .i64 (.var 24), .int .u32 (.var 25), .var 26,
 .var 27, .bool (.var 28), .bool (.var 29), .bool (.var 30), .bool (.var 31), .bool (.var 32), .bool (.var 33), .bool (.var 34), .bool (.var 35), .int .u8 (.var 36), .int
 .u8 (.var 37), .int .u8 (.var 38), .int .u8 (.var 39), .int .u8 (.var 40), .int .u8 (.var 41), .int .u8 (.var 42), .int .u8 (.var 43)])])))) :=
 by kernel_rfl

theorem t53 : exFn { P := Try.prog, loops := fun r => if Nat.beq r 4 then some ⟨1, [(5, .slice), (6, .int .i64)], []⟩ else none } 53 [.agg [.int .i64 (.var 0), .int .u32 (.var 1), .var 2, .var 3, .bool (.var 4), .bool
 (.var 5), .bool (.var 6), .bool (.var 7), .bool (.var 8), .bool (.var 9), .bool (.var 10), .bool (.var 11), .int .u8 (.var 12), .int .u8 (.var 13), .int .u8 (.var 14), .int .u8 (.var 15), .int .u8 (.var 16), .int .u8
 (.var 17), .int .u8 (.var 18), .int .u8 (.var 19)], .int .u32 (.var 20)] [.int .i64, .int .u32, .slice, .slice, .bool, .bool, .bool, .bool, .bool, .bool, .bool, .bool, .int .u8, .int .u8, .int .u8, .int .u8, .int .u8,
 .int .u8, .int .u8, .int .u8, .int .u32] [] = .blk (.blk (.loop 1 [.cst (.slice none 0 0), .int .i64 (.lit 0)] [.slice, .int .i64] [21] [22, 21] [(22, [.int .i64 (.lit
 0), .int .u32 (.lit 0), .cst (.slice none 0 0), .cst (.slice none 0 0), .bool (.lit false), .bool (.lit false), .bool (.lit false), .bool (.lit false), .bool (.lit false),
 .bool (.lit false), .bool (.lit false), .bool (.lit false), .int .u8 (.lit 0), .int .u8 (.lit 0), .int .u8 (.lit 0), .int .u8 (.lit 0), .int .u8 (.lit
 0), .int .u8 (.lit 0), .int .u8 (.lit 0), .int .u8 (.lit 0)]), (21, [.int .i64 (.var 0), .int .u32 (.var 20), .var 2, .var 3, .bool (.var 4), .bool
 (.var 5), .bool (.var 6), .bool (.var 7), .bool (.var 8), .bool (.var 9), .bool (.var 10), .bool (.var 11), .int .u8 (.var 12), .int .u8 (.var 13), .int .u8
 (.var 14), .int .u8 (.var 15), .int .u8 (.var 16), .int .u8 (.var 17), .int .u8 (.var 18), .int .u8 (.var 19)])] [(22, [.int .i64 (.lit 0), .int
 .u32 (.lit 0), .cst (.slice none 0 0), .cst (.slice none 0 0), .bool (.lit false), .bool (.lit false), .bool (.lit false), .bool (.lit false), .bool (.lit false), .bool
 (.lit false), .bool (.lit false), .bool (.lit false), .int .u8 (.lit 0), .int .u8 (.lit 0), .int .u8 (.lit 0), .int .u8 (.lit 0), .int .u8 (.lit 0),
 .int .u8 (.lit 0), .int .u8 (.lit 0), .int .u8 (.lit 0)]), (21, [.int .i64 (.var 0), .int .u32 (.var 20), .var 2, .var 3, .bool (.var 4), .bool (.var
 5), .bool (.var 6), .bool (.var 7), .bool (.var 8), .bool (.var 9), .bool (.var 10), .bool (.var 11), .int .u8 (.var 12), .int .u8 (.var 13), .int .u8 (.var 14),
 .int .u8 (.var 15), .int .u8 (.var 16), .int .u8 (.var 17), .int .u8 (.var 18), .int .u8 (.var 19)])] (.split (.lt (.var 24) (.len 3)) (.ob (.le (.lit
 0) (.var 24)) (.ob (.lt (.var 24) (.len 3)) (.ob (.not (.nil 3)) (.start false [] [] [(22, [.int .i64 (.lit 0), .int .u32 (.lit 0), .cst (.slice none 0 0), .cst
 (.slice none 0 0), .bool (.lit false), .bool (.lit false), .bool (.lit false), .bool (.lit false), .bool (.lit false), .bool (.lit false), .bool (.lit false), .bool (.lit false),
 .int .u8 (.lit 0), .int .u8 (.lit 0), .int .u8 (.lit 0), .int .u8 (.lit 0), .int .u8 (.lit 0), .int .u8 (.lit 0), .int .u8 (.lit 0), .int
 .u8 (.lit 0)]), (21, [.int .i64 (.var 0), .int .u32 (.var 20), .var 2, .var 3, .bool (.var 4), .bool (.var 5), .bool (.var 6), .bool (.var 7), .bool (.var 8),
 .bool (.var 9), .bool (.var 10), .bool (.var 11), .int .u8 (.var 12), .int .u8 (.var 13), .int .u8 (.var 14), .int .u8 (.var 15), .int .u8 (.var 16),
 .int .u8 (.var 17), .int .u8 (.var 18), .int .u8 (.var 19)])] (.load (.elt 3 0 (.var 24) 3 0) [.int .u8, .int .u8, .int .u8] (.call 15 [.agg
 [.int .u8 (.var 25), .int .u8 (.var 26), .int .u8 (.var 27)], .int .u32 (.var 20)] [.bool] (.bool (.var 28)) [] false [] [] [22, 21] [(22, [.int .i64 (.lit
 0), .int .u32 (.lit 0), .cst (.slice none 0 0), .cst (.slice none 0 0), .bool (.lit false), .bool (.lit false), .bool (.lit false), .bool (.lit false), .bool (.lit false),
 .bool (.lit false), .bool (.lit false), .bool (.lit false), .int .u8 (.lit 0), .int .u8 (.lit 0), .int .u8 (.lit 0), .int .u8 (.lit 0), .int .u8 (.lit
 0), .int .u8 (.lit 0), .int .u8 (.lit 0), .int .u8 (.lit 0)]), (21, [.int .i64 (.var 0), .int .u32 (.var 20), .var 2, .var 3, .bool (.var 4), .bool
 (.var 5), .bool (.var 6), .bool (.var 7), .bool (.var 8), .bool (.var 9), .bool (.var 10), .bool (.var 11), .int .u8 (.var 12), .int .u8 (.var 13), .int .u8
 (.var 14), .int .u8 (.var 15), .int .u8 (.var 16), .int .u8 (.var 17), .int .u8 (.var 18), .int .u8 (.var 19)])] (.split (.var 28) (.ob (.le (.lit 0)
 (.var 24)) (.ob (.lt (.var 24) (.len 3)) (.start false [] [] [(22, [.int .i64 (.lit 0), .int .u32 (.lit 0), .cst (.slice none 0 0), .cst (.slice none 0 0), .bool (.lit
 false), .bool (.lit false), .bool (.lit false), .bool (.lit false), .bool (.lit false), .bool (.lit false), .bool (.lit false), .bool (.lit false), .int .u8 (.lit 0), .int
 .u8 (.lit 0), .int .u8 (.lit 0), .int .u8 (.lit 0), .int .u8 (.lit 0), .int .u8 (.lit 0), .int .u8 (.lit 0), .int .u8 (.lit 0)]), (21, [.int
 .i64 (.var 0), .int .u32 (.var 20), .var 2, .var 3, .bool (.var 4), .bool (.var 5), .bool (.var 6), .bool (.var 7), .bool (.var 8), .bool (.var 9), .bool (.var 10),
 .bool (.var 11), .int .u8 (.var 12), .int .u8 (.var 13), .int .u8 (.var 14), .int .u8 (.var 15), .int .u8 (.var 16), .int .u8 (.var 17), .int
 .u8 (.var 18), .int .u8 (.var 19)])] (.load (.elt 3 0 (.var 24) 3 0) [.int .u8, .int .u8, .int .u8] (.blk (.gen (.call { callee := .builtin .append, args := #[.tmp 23, .tmp 29], argTypes := #[57, 57] })
 57 [(.tmp 23, .var 23), (.tmp 29, .slc 32 0 1 1)] [.slice] (.var 33) [] false [] [] [32, 22, 21] [(32, [.int .u8 (.var 29), .int .u8 (.var 30), .int .u8 (.var
 31)]), (22, [.int .i64 (.lit 0), .int .u32 (.lit 0), .cst (.slice none 0 0), .cst (.slice none 0 0), .bool (.lit false), .bool (.lit false), .bool (.lit false), .bool
 (.lit false), .bool (.lit false), .bool (.lit false), .bool (.lit false), .bool (.lit false), .int .u8 (.lit 0), .int .u8 (.lit 0), .int .u8 (.lit 0), .int .u8
 (.lit 0), .int .u8 (.lit 0), .int .u8 (.lit 0), .int .u8 (.lit 0), .int .u8 (.lit 0)]), (21, [.int .i64 (.var 0), .int .u32 (.var 20), .var 2, .var
 3, .bool (.var 4), .bool (.var 5), .bool (.var 6), .bool (.var 7), .bool (.var 8), .bool (.var 9), .bool (.var 10), .bool (.var 11), .int .u8 (.var 12), .int .u8
 (.var 13), .int .u8 (.var 14), .int .u8 (.var 15), .int .u8 (.var 16), .int .u8 (.var 17), .int .u8 (.var 18), .int .u8 (.var 19)])] (.ob (.le
 (.lit (-9223372036854775808)) (.add (.var 24) (.lit 1))) (.ob (.le (.add (.var 24) (.lit 1)) (.lit 9223372036854775807)) (.leaf 1 [.var 33, .int .i64 (.add (.var 24) (.lit 1))] []
 [(32, [.int .u8 (.var 29), .int .u8 (.var 30), .int .u8 (.var 31)]), (22, [.int .i64 (.lit 0), .int .u32 (.lit 0), .cst (.slice none 0 0), .cst
 (.slice none 0 0), .bool (.lit false), .bool (.lit false), .bool (.lit false), .bool (.lit false), .bool (.lit false), .bool (.lit false), .bool (.lit false), .bool (.lit false),
 .int .u8 (.lit 0), .int .u8 (.lit 0), .int .u8 (.lit 0), .int .u8 (.lit 0), .int .u8 (.lit 0), .int .u8 (.lit 0), .int .u8 (.lit 0), .int
 .u8 (.lit 0)]), (21, [.int .i64 (.var 0), .int .u32 (.var 20), .var 2, .var 3, .bool (.var 4), .bool (.var 5), .bool (.var 6), .bool (.var 7), .bool (.var 8),
 .bool (.var 9), .bool (.var 10), .bool (.var 11), .int .u8 (.var 12), .int .u8 (.var 13), .int .u8 (.var 14), .int .u8 (.var 15), .int .u8 (.var 16),
 .int .u8 (.var 17), .int .u8 (.var 18), .int .u8 (.var 19)])]))))))))) (.ob (.le (.lit (-9223372036854775808)) (.add (.var 24) (.lit 1))) (.ob (.le (.add (.var 24)
 (.lit 1)) (.lit 9223372036854775807)) (.leaf 1 [.var 23, .int .i64 (.add (.var 24) (.lit 1))] [] [(22, [.int .i64 (.lit 0), .int .u32 (.lit 0), .cst (.slice none 0 0),
 .cst (.slice none 0 0), .bool (.lit false), .bool (.lit false), .bool (.lit false), .bool (.lit false), .bool (.lit false), .bool (.lit false), .bool (.lit false), .bool (.lit
 false), .int .u8 (.lit 0), .int .u8 (.lit 0), .int .u8 (.lit 0), .int .u8 (.lit 0), .int .u8 (.lit 0), .int .u8 (.lit 0), .int .u8 (.lit 0),
 .int .u8 (.lit 0)]), (21, [.int .i64 (.var 0), .int .u32 (.var 20), .var 2, .var 3, .bool (.var 4), .bool (.var 5), .bool (.var 6), .bool (.var 7), .bool (.var
 8), .bool (.var 9), .bool (.var 10), .bool (.var 11), .int .u8 (.var 12), .int .u8 (.var 13), .int .u8 (.var 14), .int .u8 (.var 15), .int .u8 (.var
 16), .int .u8 (.var 17), .int .u8 (.var 18), .int .u8 (.var 19)])])))))))))) (.leaf 0 [.agg [.int .i64 (.var 0), .int .u32 (.var 20), .var 2, .var 23,
 .bool (.var 4), .bool (.var 5), .bool (.var 6), .bool (.var 7), .bool (.var 8), .bool (.var 9), .bool (.var 10), .bool (.var 11), .int .u8 (.var 12), .int .u8 (.var
 13), .int .u8 (.var 14), .int .u8 (.var 15), .int .u8 (.var 16), .int .u8 (.var 17), .int .u8 (.var 18), .int .u8 (.var 19)]] [22, 21] [(22, [.int
 .i64 (.var 0), .int .u32 (.var 20), .var 2, .var 23, .bool (.var 4), .bool (.var 5), .bool (.var 6), .bool (.var 7), .bool (.var 8), .bool (.var 9), .bool (.var 10),
 .bool (.var 11), .int .u8 (.var 12), .int .u8 (.var 13), .int .u8 (.var 14), .int .u8 (.var 15), .int .u8 (.var 16), .int .u8 (.var 17), .int
 .u8 (.var 18), .int .u8 (.var 19)]), (21, [.int .i64 (.var 0), .int .u32 (.var 20), .var 2, .var 23, .bool (.var 4), .bool (.var 5), .bool (.var 6), .bool
 (.var 7), .bool (.var 8), .bool (.var 9), .bool (.var 10), .bool (.var 11), .int .u8 (.var 12), .int .u8 (.var 13), .int .u8 (.var 14), .int .u8 (.var 15),
 .int .u8 (.var 16), .int .u8 (.var 17), .int .u8 (.var 18), .int .u8 (.var 19)])])))) := by kernel_rfl

theorem t54 : exFn { P := Try.prog, loops := fun r => if Nat.beq r 2 then some ⟨1, [(6, .int .i64)], []⟩ else none } 54 [.agg [.int .i64 (.var 0), .int .u32 (.var 1), .var 2, .var 3, .bool (.var 4), .bool (.var 5), .bool
 (.var 6), .bool (.var 7), .bool (.var 8), .bool (.var 9), .bool (.var 10), .bool (.var 11), .int .u8 (.var 12), .int .u8 (.var 13), .int .u8 (.var 14), .int .u8 (.var 15), .int .u8 (.var 16), .int .u8 (.var 17), .int
 .u8 (.var 18), .int .u8 (.var 19)], .int .u16 (.var 20)] [.int .i64, .int .u32, .slice, .slice, .bool, .bool, .bool, .bool, .bool, .bool, .bool, .bool, .int .u8, .int .u8, .int .u8, .int .u8, .int .u8, .int .u8, .int
 .u8, .int .u8, .int .u16] [] = .blk (.blk (.loop 1 [.int .i64 (.lit 0)] [.int .i64] [] [22, 21] [(22, [.int .i64 (.lit 0), .int .u32 (.lit 0), .cst (.slice none 0
 0), .cst (.slice none 0 0), .bool (.lit false), .bool (.lit false), .bool (.lit false), .bool (.lit false), .bool (.lit false), .bool (.lit false), .bool (.lit false), .bool (.lit
 false), .int .u8 (.lit 0), .int .u8 (.lit 0), .int .u8 (.lit 0), .int .u8 (.lit 0), .int .u8 (.lit 0), .int .u8 (.lit 0), .int .u8 (.lit 0),
 .int .u8 (.lit 0)]), (21, [.int .i64 (.var 0), .int .u32 (.var 1), .var 2, .var 3, .bool (.var 4), .bool (.var 5), .bool (.var 6), .bool (.var 7), .bool (.var 8),
 .bool (.var 9), .bool (.var 10), .bool (.var 11), .int .u8 (.var 12), .int .u8 (.var 13), .int .u8 (.var 14), .int .u8 (.var 15), .int .u8 (.var 16),
 .int .u8 (.var 17), .int .u8 (.var 18), .int .u8 (.var 19)])] [(22, [.int .i64 (.lit 0), .int .u32 (.lit 0), .cst (.slice none 0 0), .cst (.slice none
 0 0), .bool (.lit false), .bool (.lit false), .bool (.lit false), .bool (.lit false), .bool (.lit false), .bool (.lit false), .bool (.lit false), .bool (.lit false), .int .u8
 (.lit 0), .int .u8 (.lit 0), .int .u8 (.lit 0), .int .u8 (.lit 0), .int .u8 (.lit 0), .int .u8 (.lit 0), .int .u8 (.lit 0), .int .u8 (.lit
 0)]), (21, [.int .i64 (.var 0), .int .u32 (.var 1), .var 2, .var 3, .bool (.var 4), .bool (.var 5), .bool (.var 6), .bool (.var 7), .bool (.var 8), .bool (.var 9),
 .bool (.var 10), .bool (.var 11), .int .u8 (.var 12), .int .u8 (.var 13), .int .u8 (.var 14), .int .u8 (.var 15), .int .u8 (.var 16), .int .u8
 (.var 17), .int .u8 (.var 18), .int .u8 (.var 19)])] (.split (.lt (.var 23) (.len 2)) (.ob (.le (.lit 0) (.var 23)) (.ob (.lt (.var 23) (.len 2)) (.ob (.not (.nil
 2)) (.start false [] [] [(22, [.int .i64 (.lit 0), .int .u32 (.lit 0), .cst (.slice none 0 0), .cst (.slice none 0 0), .bool (.lit false), .bool (.lit false), .bool
 (.lit false), .bool (.lit false), .bool (.lit false), .bool (.lit false), .bool (.lit false), .bool (.lit false), .int .u8 (.lit 0), .int .u8 (.lit 0), .int .u8
 (.lit 0), .int .u8 (.lit 0), .int .u8 (.lit 0), .int .u8 (.lit 0), .int .u8 (.lit 0), .int .u8 (.lit 0)]), (21, [.int .i64 (.var 0), .int .u32
 (.var 1), .var 2, .var 3, .bool (.var 4), .bool (.var 5), .bool (.var 6), .bool (.var 7), .bool (.var 8), .bool (.var 9), .bool (.var 10), .bool (.var 11), .int .u8 (.var
 12), .int .u8 (.var 13), .int .u8 (.var 14), .int .u8 (.var 15), .int .u8 (.var 16), .int .u8 (.var 17), .int .u8 (.var 18), .int .u8 (.var
 19)])] (.load (.elt 2 0 (.var 23) 1 0) [.int .u16] (.split (.eq (.var 24) (.var 20)) (.start true [] [22, 21] [(22, [.int .i64 (.lit 0), .int .u32 (.lit 0), .cst
 (.slice none 0 0), .cst (.slice none 0 0), .bool (.lit false), .bool (.lit false), .bool (.lit false), .bool (.lit false), .bool (.lit false), .bool (.lit false), .bool (.lit
 false), .bool (.lit false), .int .u8 (.lit 0), .int .u8 (.lit 0), .int .u8 (.lit 0), .int .u8 (.lit 0), .int .u8 (.lit 0), .int .u8 (.lit 0), .int
 .u8 (.lit 0), .int .u8 (.lit 0)]), (21, [.int .i64 (.var 0), .int .u32 (.var 1), .var 2, .var 3, .bool (.var 4), .bool (.var 5), .bool (.var 6), .bool (.var
 7), .bool (.var 8), .bool (.var 9), .bool (.var 10), .bool (.var 11), .int .u8 (.var 12), .int .u8 (.var 13), .int .u8 (.var 14), .int .u8 (.var 15), .int
 .u8 (.var 16), .int .u8 (.var 17), .int .u8 (.var 18), .int .u8 (.var 19)])] (.ob (.le (.lit (-9223372036854775808)) (.add (.var 23) (.lit 1))) (.ob (.le (.add
 (.var 23) (.lit 1)) (.lit 9223372036854775807)) (.both (.pur (.slice 35 (.tmp 22) none (some (.tmp 23)) none) 35 [(.tmp 22, .var 2), (.tmp 23, .int .i64 (.var 23))]
 [.slice] (.var 25) (.both (.gen (.call { callee := .builtin .append, args := #[.const (.slice none 0 0), .tmp 24], argTypes := #[35, 35] }) 35 [(.const (.slice
 none 0 0), .cst (.slice none 0 0)), (.tmp 24, .var 25)] [.slice] (.var 26) [] true [] [] [22, 21] [(22, [.int .i64 (.lit 0), .int .u32 (.lit 0), .cst (.slice none 0 0),
 .cst (.slice none 0 0), .bool (.lit false), .bool (.lit false), .bool (.lit false), .bool (.lit false), .bool (.lit false), .bool (.lit false), .bool (.lit false), .bool (.lit
 false), .int .u8 (.lit 0), .int .u8 (.lit 0), .int .u8 (.lit 0), .int .u8 (.lit 0), .int .u8 (.lit 0), .int .u8 (.lit 0), .int .u8 (.lit 0),
 .int .u8 (.lit 0)]), (21, [.int .i64 (.var 0), .int .u32 (.var 1), .var 2, .var 3, .bool (.var 4), .bool (.var 5), .bool (.var 6), .bool (.var 7), .bool (.var 8),
 .bool (.var 9), .bool (.var 10), .bool (.var 11), .int .u8 (.var 12), .int .u8 (.var 13), .int .u8 (.var 14), .int .u8 (.var 15), .int .u8 (.var 16),
 .int .u8 (.var 17), .int .u8 (.var 18), .int .u8 (.var 19)])] (.pur (.slice 35 (.tmp 27) (some (.tmp 29)) none none) 35 [(.tmp 27, .var 2), (.tmp 29,
 .int .i64 (.add (.var 23) (.lit 1)))] [.slice] (.var 27) (.gen (.call { callee := .builtin .append, args := #[.tmp 25, .tmp 30], argTypes := #[35, 35] }) 35
 [(.tmp 25, .var 26), (.tmp 30, .var 27)] [.slice] (.var 28) [] true [] [] [22, 21] [(22, [.int .i64 (.lit 0), .int .u32 (.lit 0), .cst (.slice none 0 0), .cst
 (.slice none 0 0), .bool (.lit false), .bool (.lit false), .bool (.lit false), .bool (.lit false), .bool (.lit false), .bool (.lit false), .bool (.lit false), .bool (.lit false),
 .int .u8 (.lit 0), .int .u8 (.lit 0), .int .u8 (.lit 0), .int .u8 (.lit 0), .int .u8 (.lit 0), .int .u8 (.lit 0), .int .u8 (.lit 0), .int
 .u8 (.lit 0)]), (21, [.int .i64 (.var 0), .int .u32 (.var 1), .var 2, .var 3, .bool (.var 4), .bool (.var 5), .bool (.var 6), .bool (.var 7), .bool (.var 8),
 .bool (.var 9), .bool (.var 10), .bool (.var 11), .int .u8 (.var 12), .int .u8 (.var 13), .int .u8 (.var 14), .int .u8 (.var 15), .int .u8 (.var 16),
 .int .u8 (.var 17), .int .u8 (.var 18), .int .u8 (.var 19)])] (.leaf 0 [.tuple [.agg [.int .i64 (.var 0), .int .u32 (.var 1), .var 28, .var 3, .bool
 (.var 4), .bool (.var 5), .bool (.var 6), .bool (.var 7), .bool (.var 8), .bool (.var 9), .bool (.var 10), .bool (.var 11), .int .u8 (.var 12), .int .u8 (.var 13),
 .int .u8 (.var 14), .int .u8 (.var 15), .int .u8 (.var 16), .int .u8 (.var 17), .int .u8 (.var 18), .int .u8 (.var 19)], .int .i64 (.lit 0)]]
 [22, 21] [(22, [.int .i64 (.var 0), .int .u32 (.var 1), .var 28, .var 3, .bool (.var 4), .bool (.var 5), .bool (.var 6), .bool (.var 7), .bool (.var 8), .bool (.var 9),
 .bool (.var 10), .bool (.var 11), .int .u8 (.var 12), .int .u8 (.var 13), .int .u8 (.var 14), .int .u8 (.var 15), .int .u8 (.var 16), .int .u8
 (.var 17), .int .u8 (.var 18), .int .u8 (.var 19)]), (21, [.int .i64 (.var 0), .int .u32 (.var 1), .var 28, .var 3, .bool (.var 4), .bool (.var 5), .bool
 (.var 6), .bool (.var 7), .bool (.var 8), .bool (.var 9), .bool (.var 10), .bool (.var 11), .int .u8 (.var 12), .int .u8 (.var 13), .int .u8 (.var 14), .int
 .u8 (.var 15), .int .u8 (.var 16), .int .u8 (.var 17), .int .u8 (.var 18), .int .u8 (.var 19)])])))) (.pur (.slice 35 (.tmp 27) (some (.tmp 29))
 none none) 35 [(.tmp 27, .var 2), (.tmp 29, .int .i64 (.add (.var 23) (.lit 1)))] [.slice] (.var 26) (.gen (.call { callee := .builtin .append, args := #[.const (.slice none 0 0), .tmp 24], argTypes := #[35, 35] })
 35 [(.const (.slice none 0 0), .cst (.slice none 0 0)), (.tmp 24, .var 25)] [.slice] (.var 27) [] true [] [] [22, 21] [(22, [.int .i64 (.lit 0), .int .u32 (.lit
 0), .cst (.slice none 0 0), .cst (.slice none 0 0), .bool (.lit false), .bool (.lit false), .bool (.lit false), .bool (.lit false), .bool (.lit false), .bool (.lit false), .bool
 (.lit false), .bool (.lit false), .int .u8 (.lit 0), .int .u8 (.lit 0), .int .u8 (.lit 0), .int .u8 (.lit 0), .int .u8 (.lit 0), .int .u8 (.lit 0),
 .int .u8 (.lit 0), .int .u8 (.lit 0)]), (21, [.int .i64 (.var 0), .int .u32 (.var 1), .var 2, .var 3, .bool (.var 4), .bool (.var 5), .bool (.var 6), .bool
 (.var 7), .bool (.var 8), .bool (.var 9), .bool (.var 10), .bool (.var 11), .int .u8 (.var 12), .int .u8 (.var 13), .int .u8 (.var 14), .int .u8 (.var 15),
 .int .u8 (.var 16), .int .u8 (.var 17), .int .u8 (.var 18), .int .u8 (.var 19)])] (.gen (.call { callee := .builtin .append, args := #[.tmp 25, .tmp 30], argTypes := #[35, 35] })
 35 [(.tmp 25, .var 27), (.tmp 30, .var 26)] [.slice] (.var 28) [] true [] [] [22, 21] [(22, [.int .i64 (.lit 0), .int .u32 (.lit 0), .cst (.slice none 0 0), .cst
 (.slice none 0 0), .bool (.lit false), .bool (.lit false), .bool (.lit false), .bool (.lit false), .bool (.lit false), .bool (.lit false), .bool (.lit false), .bool (.lit false),
 .int .u8 (.lit 0), .int .u8 (.lit 0), .int .u8 (.lit 0), .int .u8 (.lit 0), .int .u8 (.lit 0), .int .u8 (.lit 0), .int .u8 (.lit 0), .int
 .u8 (.lit 0)]), (21, [.int .i64 (.var 0), .int .u32 (.var 1), .var 2, .var 3, .bool (.var 4), .bool (.var 5), .bool (.var 6), .bool (.var 7), .bool (.var 8),
 .bool (.var 9), .bool (.var 10), .bool (.var 11), .int .u8 (.var 12), .int .u8 (.var 13), .int .u8 (.var 14), .int .u8 (.var 15), .int .u8 (.var 16),
 .int .u8 (.var 17), .int .u8 (.var 18), .int .u8 (.var 19)])] (.leaf 0 [.tuple [.agg [.int .i64 (.var 0), .int .u32 (.var 1), .var 28, .var 3, .bool
 (.var 4), .bool (.var 5), .bool (.var 6), .bool (.var 7), .bool (.var 8), .bool (.var 9), .bool (.var 10), .bool (.var 11), .int .u8 (.var 12), .int .u8 (.var 13),
 .int .u8 (.var 14), .int .u8 (.var 15), .int .u8 (.var 16), .int .u8 (.var 17), .int .u8 (.var 18), .int .u8 (.var 19)], .int .i64 (.lit 0)]]
 [22, 21] [(22, [.int .i64 (.var 0), .int .u32 (.var 1), .var 28, .var 3, .bool (.var 4), .bool (.var 5), .bool (.var 6), .bool (.var 7), .bool (.var 8), .bool (.var 9),
 .bool (.var 10), .bool (.var 11), .int .u8 (.var 12), .int .u8 (.var 13), .int .u8 (.var 14), .int .u8 (.var 15), .int .u8 (.var 16), .int .u8
 (.var 17), .int .u8 (.var 18), .int .u8 (.var 19)]), (21, [.int .i64 (.var 0), .int .u32 (.var 1), .var 28, .var 3, .bool (.var 4), .bool (.var 5), .bool
 (.var 6), .bool (.var 7), .bool (.var 8), .bool (.var 9), .bool (.var 10), .bool (.var 11), .int .u8 (.var 12), .int .u8 (.var 13), .int .u8 (.var 14), .int
 .u8 (.var 15), .int .u8 (.var 16), .int .u8 (.var 17), .int .u8 (.var 18), .int .u8 (.var 19)])])))))) (.pur (.slice 35 (.tmp 27) (some (.tmp 29))
 none none) 35 [(.tmp 27, .var 2), (.tmp 29, .int .i64 (.add (.var 23) (.lit 1)))] [.slice] (.var 25) (.pur (.slice 35 (.tmp 22) none (some (.tmp 23)) none) 35
 [(.tmp 22, .var 2), (.tmp 23, .int .i64 (.var 23))] [.slice] (.var 26) (.gen (.call { callee := .builtin .append, args := #[.const (.slice none 0 0), .tmp 24], argTypes := #[35, 35] })
 35 [(.const (.slice none 0 0), .cst (.slice none 0 0)), (.tmp 24, .var 26)] [.slice] (.var 27) [] true [] [] [22, 21] [(22, [.int .i64 (.lit 0), .int .u32 (.lit
 0), .cst (.slice none 0 0), .cst (.slice none 0 0), .bool (.lit false), .bool (.lit false), .bool (.lit false), .bool (.lit false), .bool (.lit false), .bool (.lit false), .bool
 (.lit false), .bool (.lit false), .int .u8 (.lit 0), .int .u8 (.lit 0), .int .u8 (.lit 0), .int .u8 (.lit 0), .int .u8 (.lit 0), .int .u8 (.lit 0),
 .int .u8 (.lit 0), .int .u8 (.lit 0)]), (21, [.int .i64 (.var 0), .int .u32 (.var 1), .var 2, .var 3, .bool (.var 4), .bool (.var 5), .bool (.var 6), .bool
 (.var 7), .bool (.var 8), .bool (.var 9), .bool (.var 10), .bool (.var 11), .int .u8 (.var 12), .int .u8 (.var 13), .int .u8 (.var 14), .int .u8 (.var 15),
 .int .u8 (.var 16), .int .u8 (.var 17), .int .u8 (.var 18), .int .u8 (.var 19)])] (.gen (.call { callee := .builtin .append, args := #[.tmp 25, .tmp 30], argTypes := #[35, 35] })
 35 [(.tmp 25, .var 27), (.tmp 30, .var 25)] [.slice] (.var 28) [] true [] [] [22, 21] [(22, [.int .i64 (.lit 0), .int .u32 (.lit 0), .cst (.slice none 0 0), .cst
 (.slice none 0 0), .bool (.lit false), .bool (.lit false), .bool (.lit false), .bool (.lit false), .bool (.lit false), .bool (.lit false), .bool (.lit false), .bool (.lit false),
 .int .u8 (.lit 0), .int .u8 (.lit 0), .int .u8 (.lit 0), .int .u8 (.lit 0), .int .u8 (.lit 0), .int .u8 (.lit 0), .int .u8 (.lit 0), .int
 .u8 (.lit 0)]), (21, [.int .i64 (.var 0), .int .u32 (.var 1), .var 2, .var 3, .bool (.var 4), .bool (.var 5), .bool (.var 6), .bool (.var 7), .bool (.var 8),
 .bool (.var 9), .bool (.var 10), .bool (.var 11), .int .u8 (.var 12), .int .u8 (.var 13), .int .u8 (.var 14), .int .u8 (.var 15), .int .u8 (.var 16),
 .int .u8 (.var 17), .int .u8 (.var 18), .int .u8 (.var 19)])] (.leaf 0 [.tuple [.agg [.int .i64 (.var 0), .int .u32 (.var 1), .var 28, .var 3, .bool
 (.var 4), .bool (.var 5), .bool (.var 6), .bool (.var 7), .bool (.var 8), .bool (.var 9), .bool (.var 10), .bool (.var 11), .int .u8 (.var 12), .int .u8 (.var 13),
 .int .u8 (.var 14), .int .u8 (.var 15), .int .u8 (.var 16), .int .u8 (.var 17), .int .u8 (.var 18), .int .u8 (.var 19)], .int .i64 (.lit 0)]]
 [22, 21] [(22, [.int .i64 (.var 0), .int .u32 (.var 1), .var 28, .var 3, .bool (.var 4), .bool (.var 5), .bool (.var 6), .bool (.var 7), .bool (.var 8), .bool (.var 9),
 .bool (.var 10), .bool (.var 11), .int .u8 (.var 12), .int .u8 (.var 13), .int .u8 (.var 14), .int .u8 (.var 15), .int .u8 (.var 16), .int .u8
 (.var 17), .int .u8 (.var 18), .int .u8 (.var 19)]), (21, [.int .i64 (.var 0), .int .u32 (.var 1), .var 28, .var 3, .bool (.var 4), .bool (.var 5), .bool
 (.var 6), .bool (.var 7), .bool (.var 8), .bool (.var 9), .bool (.var 10), .bool (.var 11), .int .u8 (.var 12), .int .u8 (.var 13), .int .u8 (.var 14), .int
 .u8 (.var 15), .int .u8 (.var 16), .int .u8 (.var 17), .int .u8 (.var 18), .int .u8 (.var 19)])]))))))))) (.ob (.le (.lit (-9223372036854775808)) (.add
 (.var 23) (.lit 1))) (.ob (.le (.add (.var 23) (.lit 1)) (.lit 9223372036854775807)) (.leaf 1 [.int .i64 (.add (.var 23) (.lit 1))] [] [(22, [.int .i64 (.lit 0), .int
 .u32 (.lit 0), .cst (.slice none 0 0), .cst (.slice none 0 0), .bool (.lit false), .bool (.lit false), .bool (.lit false), .bool (.lit false), .bool (.lit false), .bool
 (.lit false), .bool (.lit false), .bool (.lit false), .int .u8 (.lit 0), .int .u8 (.lit 0), .int .u8 (.lit 0), .int .u8 (.lit 0), .int .u8 (.lit 0),
 .int .u8 (.lit 0), .int .u8 (.lit 0), .int .u8 (.lit 0)]), (21, [.int .i64 (.var 0), .int .u32 (.var 1), .var 2, .var 3, .bool (.var 4), .bool (.var 5),
 .bool (.var 6), .bool (.var 7), .bool (.var 8), .bool (.var 9), .bool (.var 10), .bool (.var 11), .int .u8 (.var 12), .int .u8 (.var 13), .int .u8 (.var 14),
 .int .u8 (.var 15), .int .u8 (.var 16), .int .u8 (.var 17), .int .u8 (.var 18), .int .u8 (.var 19)])]))))))))) (.leaf 0 [.tuple [.agg [.int .i64
 (.var 0), .int .u32 (.var 1), .var 2, .var 3, .bool (.var 4), .bool (.var 5), .bool (.var 6), .bool (.var 7), .bool (.var 8), .bool (.var 9), .bool (.var 10), .bool (.var
 11), .int .u8 (.var 12), .int .u8 (.var 13), .int .u8 (.var 14), .int .u8 (.var 15), .int .u8 (.var 16), .int .u8 (.var 17), .int .u8 (.var
 18), .int .u8 (.var 19)], .int .i64 (.lit 9)]] [22] [(22, [.int .i64 (.var 0), .int .u32 (.var 1), .var 2, .var 3, .bool (.var 4), .bool (.var 5), .bool (.var
 6), .bool (.var 7), .bool (.var 8), .bool (.var 9), .bool (.var 10), .bool (.var 11), .int .u8 (.var 12), .int .u8 (.var 13), .int .u8 (.var 14), .int .u8
 (.var 15), .int .u8 (.var 16), .int .u8 (.var 17), .int .u8 (.var 18), .int .u8 (.var 19)]), (21, [.int .i64 (.var 0), .int .u32 (.var 1), .var 2,
 .var 3, .bool (.var 4), .bool (.var 5), .bool (.var 6), .bool (.var 7), .bool (.var 8), .bool (.var 9), .bool (.var 10), .bool (.var 11), .int .u8 (.var 12), .int
 .u8 (.var 13), .int .u8 (.var 14), .int .u8 (.var 15), .int .u8 (.var 16), .int .u8 (.var 17), .int .u8 (.var 18), .int .u8 (.var 19)])])))) :=
 by kernel_rfl

end Go.Proofs.Ytfjlnfgbfclgbaa
