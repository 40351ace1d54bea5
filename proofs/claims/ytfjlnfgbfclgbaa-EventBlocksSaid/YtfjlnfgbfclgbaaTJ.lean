/- What the functions of the chapter come to, printed by a program of the prover's and checked by the kernel. No conditions. -/
import Derived.Test.YtfjlnfgbfclgbaaSxZI
import Derived.Test.YtfjlnfgbfclgbaaProg
import Derived.KernelRfl
set_option maxRecDepth 100000
set_option linter.unusedVariables false
namespace Go.Proofs.Ytfjlnfgbfclgbaa
open Go.Sx

theorem t5 : exFn { P := Try.prog, loops := fun r => if Nat.beq r 8 then some ⟨1, [(8, .int .i64)], [7]⟩ else none } 5 [.int .i64 (.var 0), .var 1] [.int .i64, .slice] [] = .call 17 [.int .i64 (.var 0)]
 [.ptr, .int .i64] (.tuple [.var 2, .int .i64 (.var 3)]) [] false [] [] [] [] (.split (.lt (.var 0) (.lit 1)) (.split (.eq (.var 3) (.lit 2)) (.split (.nil 2) (.call 16
 [] [.bool] (.bool (.var 4)) [] false [] [] [] [] (.leaf 0 [.bool (.var 4)] [] [])) (.leaf 0 [.bool (.lit false)] [] [])) (.leaf 0 [.bool (.lit false)] [] [])) (.split (.lt (.lit 16)
 (.var 0)) (.split (.eq (.var 3) (.lit 2)) (.split (.nil 2) (.call 16 [] [.bool] (.bool (.var 4)) [] false [] [] [] [] (.leaf 0 [.bool (.var 4)] [] [])) (.leaf 0 [.bool (.lit false)]
 [] [])) (.leaf 0 [.bool (.lit false)] [] [])) (.split (.not (.eq (.var 3) (.lit 0))) (.split (.eq (.var 3) (.lit 0)) (.call 16 [] [.bool] (.bool (.var 4)) [] false [] [] [] [] (.leaf
 0 [.bool (.var 4)] [] [])) (.leaf 0 [.bool (.lit false)] [] [])) (.split (.lt (.lit 80) (.len 1)) (.split (.eq (.var 3) (.lit 0)) (.call 16 [] [.bool] (.bool (.var 4)) [] false [] []
 [] [] (.leaf 0 [.bool (.var 4)] [] [])) (.leaf 0 [.bool (.lit false)] [] [])) (.blk (.loop 1 [.int .i64 (.lit 0), .int .i64 (.var 0), .int .u32 (.lit 0), .cst
 (.slice none 0 0), .cst (.slice none 0 0), .bool (.lit false), .bool (.lit false), .bool (.lit false), .bool (.lit false), .bool (.lit false), .bool (.lit false), .bool (.lit
 false), .bool (.lit false), .int .u8 (.lit 0), .int .u8 (.lit 0), .int .u8 (.lit 0), .int .u8 (.lit 0), .int .u8 (.lit 0), .int .u8 (.lit 0), .int
 .u8 (.lit 0), .int .u8 (.lit 0)] [.int .i64, .int .i64, .int .u32, .slice, .slice, .bool, .bool, .bool, .bool, .bool, .bool,
 .bool, .bool, .int .u8, .int .u8, .int .u8, .int .u8, .int .u8, .int .u8, .int .u8, .int .u8] [4] [4] [(4, [.int
 .i64 (.var 0), .int .u32 (.lit 0), .cst (.slice none 0 0), .cst (.slice none 0 0), .bool (.lit false), .bool (.lit false), .bool (.lit false), .bool (.lit false),
 .bool (.lit false), .bool (.lit false), .bool (.lit false), .bool (.lit false), .int .u8 (.lit 0), .int .u8 (.lit 0), .int .u8 (.lit 0), .int .u8 (.lit 0),
 .int .u8 (.lit 0), .int .u8 (.lit 0), .int .u8 (.lit 0), .int .u8 (.lit 0)])] [(4, [.int .i64 (.var 6), .int .u32 (.var 7), .var 8, .var 9, .bool
 (.var 10), .bool (.var 11), .bool (.var 12), .bool (.var 13), .bool (.var 14), .bool (.var 15), .bool (.var 16), .bool (.var 17), .int .u8 (.var 18), .int .u8 (.var
 19), .int .u8 (.var 20), .int .u8 (.var 21), .int .u8 (.var 22), .int .u8 (.var 23), .int .u8 (.var 24), .int .u8 (.var 25)])] (.split (.lt (.var
 5) (.len 1)) (.start true [] [4] [(4, [.int .i64 (.var 6), .int .u32 (.var 7), .var 8, .var 9, .bool (.var 10), .bool (.var 11), .bool (.var 12), .bool (.var 13), .bool
 (.var 14), .bool (.var 15), .bool (.var 16), .bool (.var 17), .int .u8 (.var 18), .int .u8 (.var 19), .int .u8 (.var 20), .int .u8 (.var 21), .int .u8
 (.var 22), .int .u8 (.var 23), .int .u8 (.var 24), .int .u8 (.var 25)])] (.ob (.le (.lit 0) (.var 5)) (.ob (.lt (.var 5) (.len 1)) (.ob (.not (.nil 1)) (.load
 (.elt 1 0 (.var 5) 6 0) [.int .i64, .int .u16, .int .u8, .int .u8, .int .u8, .int .u32] (.call 26 [.var 2, .agg [.int .i64 (.var 6),
 .int .u32 (.var 7), .var 8, .var 9, .bool (.var 10), .bool (.var 11), .bool (.var 12), .bool (.var 13), .bool (.var 14), .bool (.var 15), .bool (.var 16), .bool (.var 17),
 .int .u8 (.var 18), .int .u8 (.var 19), .int .u8 (.var 20), .int .u8 (.var 21), .int .u8 (.var 22), .int .u8 (.var 23), .int .u8 (.var 24),
 .int .u8 (.var 25)], .agg [.int .i64 (.var 26), .int .u16 (.var 27), .int .u8 (.var 28), .int .u8 (.var 29), .int .u8 (.var 30), .int .u32
 (.var 31)]] [.int .i64, .int .u32, .slice, .slice, .bool, .bool, .bool, .bool, .bool, .bool, .bool, .bool, .int .u8, .int .u8,
 .int .u8, .int .u8, .int .u8, .int .u8, .int .u8, .int .u8, .bool] (.tuple [.agg [.int .i64 (.var 32), .int .u32 (.var 33),
 .var 34, .var 35, .bool (.var 36), .bool (.var 37), .bool (.var 38), .bool (.var 39), .bool (.var 40), .bool (.var 41), .bool (.var 42), .bool (.var 43), .int .u8 (.var
 44), .int .u8 (.var 45), .int .u8 (.var 46), .int .u8 (.var 47), .int .u8 (.var 48), .int .u8 (.var 49), .int .u8 (.var 50), .int .u8 (.var
 51)], .bool (.var 52)]) [] true [] [] [4] [(4, [.int .i64 (.var 6), .int .u32 (.var 7), .var 8, .var 9, .bool (.var 10), .bool (.var 11), .bool (.var 12), .bool (.var 13),
 .bool (.var 14), .bool (.var 15), .bool (.var 16), .bool (.var 17), .int .u8 (.var 18), .int .u8 (.var 19), .int .u8 (.var 20), .int .u8 (.var 21), .int
 .u8 (.var 22), .int .u8 (.var 23), .int .u8 (.var 24), .int .u8 (.var 25)])] (.split (.not (.var 52)) (.leaf 0 [.bool (.lit false)] [4] [(4, [.int .i64
 (.var 32), .int .u32 (.var 33), .var 34, .var 35, .bool (.var 36), .bool (.var 37), .bool (.var 38), .bool (.var 39), .bool (.var 40), .bool (.var 41), .bool (.var 42),
 .bool (.var 43), .int .u8 (.var 44), .int .u8 (.var 45), .int .u8 (.var 46), .int .u8 (.var 47), .int .u8 (.var 48), .int .u8 (.var 49), .int
 .u8 (.var 50), .int .u8 (.var 51)])]) (.ob (.le (.lit (-9223372036854775808)) (.add (.var 5) (.lit 1))) (.ob (.le (.add (.var 5) (.lit 1)) (.lit 9223372036854775807)) (.leaf
 1 [.int .i64 (.add (.var 5) (.lit 1)), .int .i64 (.var 32), .int .u32 (.var 33), .var 34, .var 35, .bool (.var 36), .bool (.var 37), .bool (.var 38), .bool (.var
 39), .bool (.var 40), .bool (.var 41), .bool (.var 42), .bool (.var 43), .int .u8 (.var 44), .int .u8 (.var 45), .int .u8 (.var 46), .int .u8 (.var 47), .int
 .u8 (.var 48), .int .u8 (.var 49), .int .u8 (.var 50), .int .u8 (.var 51)] [4] [(4, [.int .i64 (.var 32), .int .u32 (.var 33), .var 34, .var 35,
 .bool (.var 36), .bool (.var 37), .bool (.var 38), .bool (.var 39), .bool (.var 40), .bool (.var 41), .bool (.var 42), .bool (.var 43), .int .u8 (.var 44), .int .u8
 (.var 45), .int .u8 (.var 46), .int .u8 (.var 47), .int .u8 (.var 48), .int .u8 (.var 49), .int .u8 (.var 50), .int .u8 (.var 51)])])))))))))) (.call
 16 [] [.bool] (.bool (.var 26)) [] false [] [] [4] [(4, [.int .i64 (.var 6), .int .u32 (.var 7), .var 8, .var 9, .bool (.var 10), .bool (.var 11), .bool (.var 12), .bool
 (.var 13), .bool (.var 14), .bool (.var 15), .bool (.var 16), .bool (.var 17), .int .u8 (.var 18), .int .u8 (.var 19), .int .u8 (.var 20), .int .u8 (.var
 21), .int .u8 (.var 22), .int .u8 (.var 23), .int .u8 (.var 24), .int .u8 (.var 25)])] (.leaf 0 [.bool (.var 26)] [] [(4, [.int .i64 (.var 6), .int
 .u32 (.var 7), .var 8, .var 9, .bool (.var 10), .bool (.var 11), .bool (.var 12), .bool (.var 13), .bool (.var 14), .bool (.var 15), .bool (.var 16), .bool (.var 17), .int
 .u8 (.var 18), .int .u8 (.var 19), .int .u8 (.var 20), .int .u8 (.var 21), .int .u8 (.var 22), .int .u8 (.var 23), .int .u8 (.var 24), .int
 .u8 (.var 25)])]))))))))) := by kernel_rfl

theorem t6 : exFn { P := Try.prog, loops := fun r => if Nat.beq r 6 then some ⟨1, [(8, .int .i64)], [7]⟩ else none } 6 [.int .i64 (.var 0), .var 1] [.int .i64, .slice] [] = .call 17 [.int .i64 (.var 0)]
 [.ptr, .int .i64] (.tuple [.var 2, .int .i64 (.var 3)]) [] false [] [] [] [] (.split (.not (.eq (.var 3) (.lit 0))) (.call 16 [] [.bool] (.bool (.var 4)) [] false [] []
 [] [] (.leaf 0 [.bool (.var 4)] [] [])) (.split (.lt (.lit 80) (.len 1)) (.call 16 [] [.bool] (.bool (.var 4)) [] false [] [] [] [] (.leaf 0 [.bool (.var 4)] [] [])) (.blk (.loop 1
 [.int .i64 (.lit 0), .int .i64 (.var 0), .int .u32 (.lit 0), .cst (.slice none 0 0), .cst (.slice none 0 0), .bool (.lit false), .bool (.lit false), .bool (.lit
 false), .bool (.lit false), .bool (.lit false), .bool (.lit false), .bool (.lit false), .bool (.lit false), .int .u8 (.lit 0), .int .u8 (.lit 0), .int .u8 (.lit 0),
 .int .u8 (.lit 0), .int .u8 (.lit 0), .int .u8 (.lit 0), .int .u8 (.lit 0), .int .u8 (.lit 0)] [.int .i64, .int .i64, .int .u32,
 .slice, .slice, .bool, .bool, .bool, .bool, .bool, .bool, .bool, .bool, .int .u8, .int .u8, .int .u8, .int .u8, .int .u8,
 .int .u8, .int .u8, .int .u8] [4] [4] [(4, [.int .i64 (.var 0), .int .u32 (.lit 0), .cst (.slice none 0 0), .cst (.slice none 0 0), .bool (.lit
 false), .bool (.lit false), .bool (.lit false), .bool (.lit false), .bool (.lit false), .bool (.lit false), .bool (.lit false), .bool (.lit false), .int .u8 (.lit 0), .int
 .u8 (.lit 0), .int .u8 (.lit 0), .int .u8 (.lit 0), .int .u8 (.lit 0), .int .u8 (.lit 0), .int .u8 (.lit 0), .int .u8 (.lit 0)])] [(4, [.int
 .i64 (.var 6), .int .u32 (.var 7), .var 8, .var 9, .bool (.var 10), .bool (.var 11), .bool (.var 12), .bool (.var 13), .bool (.var 14), .bool (.var 15), .bool (.var
 16), .bool (.var 17), .int .u8 (.var 18), .int .u8 (.var 19), .int .u8 (.var 20), .int .u8 (.var 21), .int .u8 (.var 22), .int .u8 (.var 23), .int
 .u8 (.var 24), .int .u8 (.var 25)])] (.split (.lt (.var 5) (.len 1)) (.start true [] [4] [(4, [.int .i64 (.var 6), .int .u32 (.var 7), .var 8, .var 9, .bool
 (.var 10), .bool (.var 11), .bool (.var 12), .bool (.var 13), .bool (.var 14), .bool (.var 15), .bool (.var 16), .bool (.var 17), .int .u8 (.var 18), .int .u8 (.var
 19), .int .u8 (.var 20), .int .u8 (.var 21), .int .u8 (.var 22), .int .u8 (.var 23), .int .u8 (.var 24), .int .u8 (.var 25)])] (.ob (.le (.lit 0)
 (.var 5)) (.ob (.lt (.var 5) (.len 1)) (.ob (.not (.nil 1)) (.load (.elt 1 0 (.var 5) 6 0) [.int .i64, .int .u16, .int .u8, .int .u8, .int
 .u8, .int .u32] (.call 26 [.var 2, .agg [.int .i64 (.var 6), .int .u32 (.var 7), .var 8, .var 9, .bool (.var 10), .bool (.var 11), .bool (.var 12), .bool
 (.var 13), .bool (.var 14), .bool (.var 15), .bool (.var 16), .bool (.var 17), .int .u8 (.var 18), .int .u8 (.var 19), .int .u8 (.var 20), .int .u8 (.var
 21), .int .u8 (.var 22), .int .u8 (.var 23), .int .u8 (.var 24), .int .u8 (.var 25)], .agg [.int .i64 (.var 26), .int .u16 (.var 27), .int .u8
 (.var 28), .int .u8 (.var 29), .int .u8 (.var 30), .int .u32 (.var 31)]] [.int .i64, .int .u32, .slice, .slice, .bool, .bool, .bool,
 .bool, .bool, .bool, .bool, .bool, .int .u8, .int .u8, .int .u8, .int .u8, .int .u8, .int .u8, .int .u8, .int
 .u8, .bool] (.tuple [.agg [.int .i64 (.var 32), .int .u32 (.var 33), .var 34, .var 35, .bool (.var 36), .bool (.var 37), .bool (.var 38), .bool (.var 39), .bool
 (.var 40), .bool (.var 41), .bool (.var 42), .bool (.var 43), .int .u8 (.var 44), .int .u8 (.var 45), .int .u8 (.var 46), .int .u8 (.var 47), .int .u8
 (.var 48), .int .u8 (.var 49), .int .u8 (.var 50), .int .u8 (.var 51)], .bool (.var 52)]) [] true [] [] [4] [(4, [.int .i64 (.var 6), .int .u32 (.var 7),
 .var 8, .var 9, .bool (.var 10), .bool (.var 11), .bool (.var 12), .bool (.var 13), .bool (.var 14), .bool (.var 15), .bool (.var 16), .bool (.var 17), .int .u8 (.var 18),
 .int .u8 (.var 19), .int .u8 (.var 20), .int .u8 (.var 21), .int .u8 (.var 22), .int .u8 (.var 23), .int .u8 (.var 24), .int .u8 (.var 25)])]
 (.ob (.le (.lit (-9223372036854775808)) (.add (.var 5) (.lit 1))) (.ob (.le (.add (.var 5) (.lit 1)) (.lit 9223372036854775807)) (.leaf 1 [.int .i64 (.add (.var 5) (.lit 1)),
 .int .i64 (.var 32), .int .u32 (.var 33), .var 34, .var 35, .bool (.var 36), .bool (.var 37), .bool (.var 38), .bool (.var 39), .bool (.var 40), .bool (.var 41), .bool
 (.var 42), .bool (.var 43), .int .u8 (.var 44), .int .u8 (.var 45), .int .u8 (.var 46), .int .u8 (.var 47), .int .u8 (.var 48), .int .u8 (.var 49),
 .int .u8 (.var 50), .int .u8 (.var 51)] [4] [(4, [.int .i64 (.var 32), .int .u32 (.var 33), .var 34, .var 35, .bool (.var 36), .bool (.var 37), .bool (.var
 38), .bool (.var 39), .bool (.var 40), .bool (.var 41), .bool (.var 42), .bool (.var 43), .int .u8 (.var 44), .int .u8 (.var 45), .int .u8 (.var 46), .int
 .u8 (.var 47), .int .u8 (.var 48), .int .u8 (.var 49), .int .u8 (.var 50), .int .u8 (.var 51)])]))))))))) (.call 22 [.var 2] [.slice] (.var 26) [] false []
 [] [4] [(4, [.int .i64 (.var 6), .int .u32 (.var 7), .var 8, .var 9, .bool (.var 10), .bool (.var 11), .bool (.var 12), .bool (.var 13), .bool (.var 14), .bool (.var
 15), .bool (.var 16), .bool (.var 17), .int .u8 (.var 18), .int .u8 (.var 19), .int .u8 (.var 20), .int .u8 (.var 21), .int .u8 (.var 22), .int .u8
 (.var 23), .int .u8 (.var 24), .int .u8 (.var 25)])] (.call 25 [.var 2] [.slice] (.var 27) [] false [] [] [4] [(4, [.int .i64 (.var 6), .int .u32 (.var 7), .var
 8, .var 9, .bool (.var 10), .bool (.var 11), .bool (.var 12), .bool (.var 13), .bool (.var 14), .bool (.var 15), .bool (.var 16), .bool (.var 17), .int .u8 (.var 18), .int
 .u8 (.var 19), .int .u8 (.var 20), .int .u8 (.var 21), .int .u8 (.var 22), .int .u8 (.var 23), .int .u8 (.var 24), .int .u8 (.var 25)])]
 (.call 22 [.var 2] [.slice] (.var 28) [] false [] [] [4] [(4, [.int .i64 (.var 6), .int .u32 (.var 7), .var 8, .var 9, .bool (.var 10), .bool (.var 11), .bool (.var 12),
 .bool (.var 13), .bool (.var 14), .bool (.var 15), .bool (.var 16), .bool (.var 17), .int .u8 (.var 18), .int .u8 (.var 19), .int .u8 (.var 20), .int .u8
 (.var 21), .int .u8 (.var 22), .int .u8 (.var 23), .int .u8 (.var 24), .int .u8 (.var 25)])] (.split (.eq (.len 28) (.lit 0)) (.call 25 [.var 2] [.slice]
 (.var 29) [] false [] [] [4] [(4, [.int .i64 (.var 6), .int .u32 (.var 7), .var 8, .var 9, .bool (.var 10), .bool (.var 11), .bool (.var 12), .bool (.var 13), .bool (.var
 14), .bool (.var 15), .bool (.var 16), .bool (.var 17), .int .u8 (.var 18), .int .u8 (.var 19), .int .u8 (.var 20), .int .u8 (.var 21), .int .u8 (.var
 22), .int .u8 (.var 23), .int .u8 (.var 24), .int .u8 (.var 25)])] (.split (.eq (.len 29) (.len 27)) (.call 16 [] [.bool] (.bool (.var 30)) [] false [] [] [4] [(4,
 [.int .i64 (.var 6), .int .u32 (.var 7), .var 8, .var 9, .bool (.var 10), .bool (.var 11), .bool (.var 12), .bool (.var 13), .bool (.var 14), .bool (.var 15), .bool
 (.var 16), .bool (.var 17), .int .u8 (.var 18), .int .u8 (.var 19), .int .u8 (.var 20), .int .u8 (.var 21), .int .u8 (.var 22), .int .u8 (.var 23),
 .int .u8 (.var 24), .int .u8 (.var 25)])] (.leaf 0 [.bool (.var 30)] [] [(4, [.int .i64 (.var 6), .int .u32 (.var 7), .var 8, .var 9, .bool (.var 10), .bool
 (.var 11), .bool (.var 12), .bool (.var 13), .bool (.var 14), .bool (.var 15), .bool (.var 16), .bool (.var 17), .int .u8 (.var 18), .int .u8 (.var 19), .int .u8
 (.var 20), .int .u8 (.var 21), .int .u8 (.var 22), .int .u8 (.var 23), .int .u8 (.var 24), .int .u8 (.var 25)])])) (.leaf 0 [.bool (.lit false)] [] [(4,
 [.int .i64 (.var 6), .int .u32 (.var 7), .var 8, .var 9, .bool (.var 10), .bool (.var 11), .bool (.var 12), .bool (.var 13), .bool (.var 14), .bool (.var 15), .bool
 (.var 16), .bool (.var 17), .int .u8 (.var 18), .int .u8 (.var 19), .int .u8 (.var 20), .int .u8 (.var 21), .int .u8 (.var 22), .int .u8 (.var 23),
 .int .u8 (.var 24), .int .u8 (.var 25)])]))) (.leaf 0 [.bool (.lit false)] [] [(4, [.int .i64 (.var 6), .int .u32 (.var 7), .var 8, .var 9, .bool (.var 10),
 .bool (.var 11), .bool (.var 12), .bool (.var 13), .bool (.var 14), .bool (.var 15), .bool (.var 16), .bool (.var 17), .int .u8 (.var 18), .int .u8 (.var 19), .int
 .u8 (.var 20), .int .u8 (.var 21), .int .u8 (.var 22), .int .u8 (.var 23), .int .u8 (.var 24), .int .u8 (.var 25)])])))))))))) := by kernel_rfl

end Go.Proofs.Ytfjlnfgbfclgbaa
