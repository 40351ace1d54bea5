/- What the functions of the chapter come to, printed by a program of the prover's and checked by the kernel. No conditions. -/
import Derived.Test.YtfjlnfgbfclgbaaSxZI
import Derived.Test.YtfjlnfgbfclgbaaProg
import Derived.KernelRfl
set_option maxRecDepth 100000
set_option linter.unusedVariables false
namespace Go.Proofs.Ytfjlnfgbfclgbaa
open Go.Sx

theorem t4 : exFn { P := Try.prog, loops := (fun r => if Nat.beq r 8 then some ⟨1, [(7, .slice), (9, .int .i64), (10, .int .i64), (11, .int .i64)], [8]⟩ else if Nat.beq r 21 then some ⟨2, [(7, .slice), (10, .int .i64), (15, .int .i64)], [8]⟩ else if Nat.beq r 33 then some ⟨3, [(17, .int .i64)], [8]⟩ else none), ranged := true, ranges := fun t => if Nat.beq t 166 then some ⟨4, [23], [19]⟩ else none }
 4 [.int .i64 (.var 0), .var 1] [.int .i64, .slice] [] = .call 17 [.int .i64 (.var 0)] [.ptr, .int .i64] (.tuple [.var 2, .int .i64 (.var 3)]) [] false [] [] [] [] (.split
 (.not (.eq (.var 3) (.lit 0))) (.call 16 [] [.bool] (.bool (.var 4)) [] false [] [] [] [] (.leafM 0 [.bool (.var 4)] [] [])) (.split (.lt (.lit 80) (.len 1)) (.call 16 [] [.bool]
 (.bool (.var 4)) [] false [] [] [] [] (.leafM 0 [.bool (.var 4)] [] [])) (.call 18 [.var 2, .int .u32 (.lit 4294967295)] [.int .i64] (.int .i64 (.var 4)) [] false [] [] []
 [] (.split (.not (.eq (.var 4) (.lit 0))) (.call 16 [] [.bool] (.bool (.var 5)) [] false [] [] [] [] (.leafM 0 [.bool (.var 5)] [] [])) (.blk (.loop 1 [.cst (.slice none 0 0), .int
 .i64 (.lit 0), .int .i64 (.lit 0), .int .i64 (.lit 0), .int .i64 (.lit 0), .int .i64 (.lit 0), .int .i64 (.lit 0), .int .i64 (.lit 0), .int
 .i64 (.lit 0), .int .i64 (.lit 0), .int .i64 (.lit 0), .int .i64 (.lit 0)] [.slice, .int .i64, .int .i64, .int .i64, .int .i64,
 .int .i64, .int .i64, .int .i64, .int .i64, .int .i64, .int .i64, .int .i64] [] [5] [(5, [.int .i64 (.lit 0), .int .i64
 (.lit 0), .int .i64 (.lit 0), .int .i64 (.lit 0), .int .i64 (.lit 0), .int .i64 (.lit 0), .int .i64 (.lit 0), .int .i64 (.lit 0)])] [(5, [.int
 .i64 (.var 10), .int .i64 (.var 11), .int .i64 (.var 12), .int .i64 (.var 13), .int .i64 (.var 14), .int .i64 (.var 15), .int .i64 (.var 16),
 .int .i64 (.var 17)])] (.split (.lt (.var 9) (.len 1)) (.ob (.le (.lit 0) (.var 9)) (.ob (.lt (.var 9) (.len 1)) (.ob (.not (.nil 1)) (.start false [] [] [(5, [.int
 .i64 (.var 10), .int .i64 (.var 11), .int .i64 (.var 12), .int .i64 (.var 13), .int .i64 (.var 14), .int .i64 (.var 15), .int .i64 (.var 16),
 .int .i64 (.var 17)])] (.load (.elt 1 0 (.var 9) 6 0) [.int .i64] (.split (.eq (.var 18) (.lit 0)) (.ob (.le (.lit 0) (.var 9)) (.ob (.lt (.var 9) (.len 1)) (.start
 false [] [] [(5, [.int .i64 (.var 10), .int .i64 (.var 11), .int .i64 (.var 12), .int .i64 (.var 13), .int .i64 (.var 14), .int .i64 (.var 15), .int
 .i64 (.var 16), .int .i64 (.var 17)])] (.load (.elt 1 0 (.var 9) 6 1) [.int .u16] (.call 20 [.var 2, .int .u16 (.var 19)] [.int .u8, .int .u8,
 .bool, .bool] (.agg [.int .u8 (.var 20), .int .u8 (.var 21), .bool (.var 22), .bool (.var 23)]) [] false [] [] [5] [(5, [.int .i64 (.var 10), .int .i64 (.var
 11), .int .i64 (.var 12), .int .i64 (.var 13), .int .i64 (.var 14), .int .i64 (.var 15), .int .i64 (.var 16), .int .i64 (.var 17)])] (.call 19 [.agg
 [.int .u8 (.var 20), .int .u8 (.var 21), .bool (.var 22), .bool (.var 23)], .int .i64 (.lit 0)] [.bool] (.bool (.var 24)) [] false [] [] [5] [(5, [.int .i64
 (.var 10), .int .i64 (.var 11), .int .i64 (.var 12), .int .i64 (.var 13), .int .i64 (.var 14), .int .i64 (.var 15), .int .i64 (.var 16), .int
 .i64 (.var 17)])] (.split (.var 24) (.ob (.le (.lit 0) (.var 9)) (.ob (.lt (.var 9) (.len 1)) (.start false [] [] [(5, [.int .i64 (.var 10), .int .i64 (.var 11),
 .int .i64 (.var 12), .int .i64 (.var 13), .int .i64 (.var 14), .int .i64 (.var 15), .int .i64 (.var 16), .int .i64 (.var 17)])] (.load (.elt 1 0
 (.var 9) 6 1) [.int .u16] (.blk (.gen (.call { callee := .builtin .append, args := #[.tmp 59, .tmp 65], argTypes := #[35, 35] }) 35 [(.tmp 59, .var 6), (.tmp
 65, .slc 26 0 1 1)] [.slice] (.var 27) [] false [] [] [26, 5] [(26, [.int .u16 (.var 25)]), (5, [.int .i64 (.var 10), .int .i64 (.var 11), .int .i64 (.var 12), .int
 .i64 (.var 13), .int .i64 (.var 14), .int .i64 (.var 15), .int .i64 (.var 16), .int .i64 (.var 17)])] (.ob (.le (.lit (-9223372036854775808)) (.add (.var 9)
 (.lit 1))) (.ob (.le (.add (.var 9) (.lit 1)) (.lit 9223372036854775807)) (.leaf 1 [.var 27, .int .i64 (.var 7), .int .i64 (.var 8), .int .i64 (.add (.var 9) (.lit
 1)), .int .i64 (.var 10), .int .i64 (.var 11), .int .i64 (.var 12), .int .i64 (.var 13), .int .i64 (.var 14), .int .i64 (.var 15), .int .i64
 (.var 16), .int .i64 (.var 17)] [] [(26, [.int .u16 (.var 25)]), (5, [.int .i64 (.var 10), .int .i64 (.var 11), .int .i64 (.var 12), .int .i64 (.var
 13), .int .i64 (.var 14), .int .i64 (.var 15), .int .i64 (.var 16), .int .i64 (.var 17)])]))))))))) (.ob (.le (.lit (-9223372036854775808)) (.add (.var 9) (.lit
 1))) (.ob (.le (.add (.var 9) (.lit 1)) (.lit 9223372036854775807)) (.leaf 1 [.var 6, .int .i64 (.var 7), .int .i64 (.var 8), .int .i64 (.add (.var 9) (.lit 1)),
 .int .i64 (.var 10), .int .i64 (.var 11), .int .i64 (.var 12), .int .i64 (.var 13), .int .i64 (.var 14), .int .i64 (.var 15), .int .i64 (.var
 16), .int .i64 (.var 17)] [] [(5, [.int .i64 (.var 10), .int .i64 (.var 11), .int .i64 (.var 12), .int .i64 (.var 13), .int .i64 (.var 14), .int
 .i64 (.var 15), .int .i64 (.var 16), .int .i64 (.var 17)])])))))))))) (.split (.eq (.var 18) (.lit 1)) (.ob (.le (.lit 0) (.var 9)) (.ob (.lt (.var 9) (.len 1))
 (.start false [] [] [(5, [.int .i64 (.var 10), .int .i64 (.var 11), .int .i64 (.var 12), .int .i64 (.var 13), .int .i64 (.var 14), .int .i64 (.var 15),
 .int .i64 (.var 16), .int .i64 (.var 17)])] (.load (.elt 1 0 (.var 9) 6 2) [.int .u8, .int .u8, .int .u8] (.call 21 [.var 2, .agg [.int .u8
 (.var 19), .int .u8 (.var 20), .int .u8 (.var 21)]] [.bool, .int .i64] (.tuple [.bool (.var 22), .int .i64 (.var 23)]) [] false [] [] [5] [(5, [.int .i64
 (.var 10), .int .i64 (.var 11), .int .i64 (.var 12), .int .i64 (.var 13), .int .i64 (.var 14), .int .i64 (.var 15), .int .i64 (.var 16), .int
 .i64 (.var 17)])] (.split (.var 22) (.ob (.le (.lit (-9223372036854775808)) (.add (.var 7) (.lit 1))) (.ob (.le (.add (.var 7) (.lit 1)) (.lit 9223372036854775807)) (.ob (.le
 (.lit (-9223372036854775808)) (.add (.var 9) (.lit 1))) (.ob (.le (.add (.var 9) (.lit 1)) (.lit 9223372036854775807)) (.leaf 1 [.var 6, .int .i64 (.add (.var 7) (.lit 1)), .int
 .i64 (.var 8), .int .i64 (.add (.var 9) (.lit 1)), .int .i64 (.var 10), .int .i64 (.var 11), .int .i64 (.var 12), .int .i64 (.var 13), .int
 .i64 (.var 14), .int .i64 (.var 15), .int .i64 (.var 16), .int .i64 (.var 17)] [] [(5, [.int .i64 (.var 10), .int .i64 (.var 11), .int .i64
 (.var 12), .int .i64 (.var 13), .int .i64 (.var 14), .int .i64 (.var 15), .int .i64 (.var 16), .int .i64 (.var 17)])]))))) (.ob (.le (.lit
 (-9223372036854775808)) (.add (.var 9) (.lit 1))) (.ob (.le (.add (.var 9) (.lit 1)) (.lit 9223372036854775807)) (.leaf 1 [.var 6, .int .i64 (.var 7), .int .i64 (.var 8),
 .int .i64 (.add (.var 9) (.lit 1)), .int .i64 (.var 10), .int .i64 (.var 11), .int .i64 (.var 12), .int .i64 (.var 13), .int .i64 (.var 14), .int
 .i64 (.var 15), .int .i64 (.var 16), .int .i64 (.var 17)] [] [(5, [.int .i64 (.var 10), .int .i64 (.var 11), .int .i64 (.var 12), .int .i64
 (.var 13), .int .i64 (.var 14), .int .i64 (.var 15), .int .i64 (.var 16), .int .i64 (.var 17)])]))))))))) (.split (.eq (.var 18) (.lit 2)) (.call 22 [.var 2]
 [.slice] (.var 19) [] false [] [] [5] [(5, [.int .i64 (.var 10), .int .i64 (.var 11), .int .i64 (.var 12), .int .i64 (.var 13), .int .i64 (.var 14), .int
 .i64 (.var 15), .int .i64 (.var 16), .int .i64 (.var 17)])] (.loop 2 [.var 6, .int .i64 (.var 8), .int .i64 (.lit 0), .int .i64 (.var 10), .int
 .i64 (.var 11), .int .i64 (.var 12), .int .i64 (.var 13), .int .i64 (.var 14), .int .i64 (.var 15), .int .i64 (.var 16), .int .i64 (.var 17)]
 [.slice, .int .i64, .int .i64, .int .i64, .int .i64, .int .i64, .int .i64, .int .i64, .int .i64, .int .i64, .int
 .i64] [] [5] [(5, [.int .i64 (.var 10), .int .i64 (.var 11), .int .i64 (.var 12), .int .i64 (.var 13), .int .i64 (.var 14), .int .i64 (.var 15),
 .int .i64 (.var 16), .int .i64 (.var 17)])] [(5, [.int .i64 (.var 23), .int .i64 (.var 24), .int .i64 (.var 25), .int .i64 (.var 26), .int .i64
 (.var 27), .int .i64 (.var 28), .int .i64 (.var 29), .int .i64 (.var 30)])] (.split (.lt (.var 22) (.len 19)) (.ob (.le (.lit 0) (.var 22)) (.ob (.lt (.var 22)
 (.len 19)) (.ob (.not (.nil 19)) (.start false [] [] [(5, [.int .i64 (.var 23), .int .i64 (.var 24), .int .i64 (.var 25), .int .i64 (.var 26), .int .i64
 (.var 27), .int .i64 (.var 28), .int .i64 (.var 29), .int .i64 (.var 30)])] (.load (.elt 19 0 (.var 22) 2 1) [.int .u32] (.start true [] [5] [(5, [.int .i64
 (.var 23), .int .i64 (.var 24), .int .i64 (.var 25), .int .i64 (.var 26), .int .i64 (.var 27), .int .i64 (.var 28), .int .i64 (.var 29), .int
 .i64 (.var 30)])] (.split (.eq (.len 20) (.lit 0)) (.leafM 0 [.bool (.lit false)] [] [(5, [.int .i64 (.var 23), .int .i64 (.var 24), .int .i64 (.var 25), .int
 .i64 (.var 26), .int .i64 (.var 27), .int .i64 (.var 28), .int .i64 (.var 29), .int .i64 (.var 30)])]) (.ob (.lt (.lit 0) (.len 20)) (.ob (.not (.nil
 20)) (.load (.elt 20 0 (.lit 0) 1 0) [.int .u16] (.ob (.le (.lit 0) (.var 22)) (.ob (.lt (.var 22) (.len 19)) (.load (.elt 19 0 (.var 22) 2 0) [.int .u16] (.split
 (.not (.eq (.var 32) (.var 33))) (.leafM 0 [.bool (.lit false)] [] [(5, [.int .i64 (.var 23), .int .i64 (.var 24), .int .i64 (.var 25), .int .i64 (.var 26),
 .int .i64 (.var 27), .int .i64 (.var 28), .int .i64 (.var 29), .int .i64 (.var 30)])]) (.ob (.le (.lit 0) (.wrap .i64 (.rem (.var 31) (.lit 8)))) (.ob
 (.lt (.wrap .i64 (.rem (.var 31) (.lit 8))) (.lit 8)) (.split (.eq (.wrap .i64 (.rem (.var 31) (.lit 8))) (.lit 0)) (.split (.not (.eq (.var 23) (.lit 0))) (.leafM 0
 [.bool (.lit false)] [] [(5, [.int .i64 (.var 23), .int .i64 (.var 24), .int .i64 (.var 25), .int .i64 (.var 26), .int .i64 (.var 27), .int .i64
 (.var 28), .int .i64 (.var 29), .int .i64 (.var 30)])]) (.start false [] [] [(5, [.int .i64 (.var 23), .int .i64 (.var 24), .int .i64 (.var 25), .int
 .i64 (.var 26), .int .i64 (.var 27), .int .i64 (.var 28), .int .i64 (.var 29), .int .i64 (.var 30)])] (.pur (.slice 35 (.tmp 119) (some (.const
 (.int .i64 1))) none none) 35 [(.tmp 119, .var 20), (.const (.int .i64 1), .int .i64 (.lit 1))] [.slice] (.var 34) (.ob (.le (.lit 0) (.var 22)) (.ob
 (.lt (.var 22) (.len 19)) (.start false [] [] [(5, [.int .i64 (.var 23), .int .i64 (.var 24), .int .i64 (.var 25), .int .i64 (.var 26), .int .i64 (.var 27),
 .int .i64 (.var 28), .int .i64 (.var 29), .int .i64 (.var 30)])] (.load (.elt 19 0 (.var 22) 2 1) [.int .u32] (.ob (.le (.lit (-9223372036854775808)) (.add
 (.wrap .i64 (.shr .u32 (.var 35) (.lit 16))) (.lit 1))) (.ob (.le (.add (.wrap .i64 (.shr .u32 (.var 35) (.lit 16))) (.lit 1)) (.lit 9223372036854775807)) (.ob
 (.le (.lit 0) (.wrap .i64 (.rem (.var 31) (.lit 8)))) (.ob (.lt (.wrap .i64 (.rem (.var 31) (.lit 8))) (.lit 8)) (.ob (.le (.lit (-9223372036854775808)) (.add (.var 21)
 (.lit 1))) (.ob (.le (.add (.var 21) (.lit 1)) (.lit 9223372036854775807)) (.ob (.le (.lit (-9223372036854775808)) (.add (.var 22) (.lit 1))) (.ob (.le (.add (.var 22) (.lit 1))
 (.lit 9223372036854775807)) (.leaf 2 [.var 34, .int .i64 (.add (.var 21) (.lit 1)), .int .i64 (.add (.var 22) (.lit 1)), .int .i64 (.add (.wrap .i64 (.shr
 .u32 (.var 35) (.lit 16))) (.lit 1)), .int .i64 (.var 24), .int .i64 (.var 25), .int .i64 (.var 26), .int .i64 (.var 27), .int .i64 (.var 28), .int
 .i64 (.var 29), .int .i64 (.var 30)] [5] [(5, [.int .i64 (.add (.wrap .i64 (.shr .u32 (.var 35) (.lit 16))) (.lit 1)), .int .i64 (.var 24), .int
 .i64 (.var 25), .int .i64 (.var 26), .int .i64 (.var 27), .int .i64 (.var 28), .int .i64 (.var 29), .int .i64 (.var 30)])])))))))))))))))) (.split (.eq
 (.wrap .i64 (.rem (.var 31) (.lit 8))) (.lit 1)) (.split (.not (.eq (.var 24) (.lit 0))) (.leafM 0 [.bool (.lit false)] [] [(5, [.int .i64 (.var 23), .int .i64
 (.var 24), .int .i64 (.var 25), .int .i64 (.var 26), .int .i64 (.var 27), .int .i64 (.var 28), .int .i64 (.var 29), .int .i64 (.var 30)])]) (.start
 false [] [] [(5, [.int .i64 (.var 23), .int .i64 (.var 24), .int .i64 (.var 25), .int .i64 (.var 26), .int .i64 (.var 27), .int .i64 (.var 28), .int
 .i64 (.var 29), .int .i64 (.var 30)])] (.pur (.slice 35 (.tmp 119) (some (.const (.int .i64 1))) none none) 35 [(.tmp 119, .var 20), (.const (.int
 .i64 1), .int .i64 (.lit 1))] [.slice] (.var 34) (.ob (.le (.lit 0) (.var 22)) (.ob (.lt (.var 22) (.len 19)) (.start false [] [] [(5, [.int .i64 (.var 23), .int
 .i64 (.var 24), .int .i64 (.var 25), .int .i64 (.var 26), .int .i64 (.var 27), .int .i64 (.var 28), .int .i64 (.var 29), .int .i64 (.var 30)])]
 (.load (.elt 19 0 (.var 22) 2 1) [.int .u32] (.ob (.le (.lit (-9223372036854775808)) (.add (.wrap .i64 (.shr .u32 (.var 35) (.lit 16))) (.lit 1))) (.ob (.le (.add
 (.wrap .i64 (.shr .u32 (.var 35) (.lit 16))) (.lit 1)) (.lit 9223372036854775807)) (.ob (.le (.lit 0) (.wrap .i64 (.rem (.var 31) (.lit 8)))) (.ob (.lt (.wrap
 .i64 (.rem (.var 31) (.lit 8))) (.lit 8)) (.ob (.le (.lit (-9223372036854775808)) (.add (.var 21) (.lit 1))) (.ob (.le (.add (.var 21) (.lit 1)) (.lit 9223372036854775807)) (.ob
 (.le (.lit (-9223372036854775808)) (.add (.var 22) (.lit 1))) (.ob (.le (.add (.var 22) (.lit 1)) (.lit 9223372036854775807)) (.leaf 2 [.var 34, .int .i64 (.add (.var 21) (.lit
 1)), .int .i64 (.add (.var 22) (.lit 1)), .int .i64 (.var 23), .int .i64 (.add (.wrap .i64 (.shr .u32 (.var 35) (.lit 16))) (.lit 1)), .int .i64
 (.var 25), .int .i64 (.var 26), .int .i64 (.var 27), .int .i64 (.var 28), .int .i64 (.var 29), .int .i64 (.var 30)] [5] [(5, [.int .i64 (.var 23),
 .int .i64 (.add (.wrap .i64 (.shr .u32 (.var 35) (.lit 16))) (.lit 1)), .int .i64 (.var 25), .int .i64 (.var 26), .int .i64 (.var 27), .int
 .i64 (.var 28), .int .i64 (.var 29), .int .i64 (.var 30)])])))))))))))))))) (.split (.eq (.wrap .i64 (.rem (.var 31) (.lit 8))) (.lit 2)) (.split (.not (.eq
 (.var 25) (.lit 0))) (.leafM 0 [.bool (.lit false)] [] [(5, [.int .i64 (.var 23), .int .i64 (.var 24), .int .i64 (.var 25), .int .i64 (.var 26), .int .i64
 (.var 27), .int .i64 (.var 28), .int .i64 (.var 29), .int .i64 (.var 30)])]) (.start false [] [] [(5, [.int .i64 (.var 23), .int .i64 (.var 24), .int
 .i64 (.var 25), .int .i64 (.var 26), .int .i64 (.var 27), .int .i64 (.var 28), .int .i64 (.var 29), .int .i64 (.var 30)])] (.pur (.slice 35
 (.tmp 119) (some (.const (.int .i64 1))) none none) 35 [(.tmp 119, .var 20), (.const (.int .i64 1), .int .i64 (.lit 1))] [.slice] (.var 34) (.ob
 (.le (.lit 0) (.var 22)) (.ob (.lt (.var 22) (.len 19)) (.start false [] [] [(5, [.int .i64 (.var 23), .int .i64 (.var 24), .int .i64 (.var 25), .int .i64
 (.var 26), .int .i64 (.var 27), .int .i64 (.var 28), .int .i64 (.var 29), .int .i64 (.var 30)])] (.load (.elt 19 0 (.var 22) 2 1) [.int .u32] (.ob (.le
 (.lit (-9223372036854775808)) (.add (.wrap .i64 (.shr .u32 (.var 35) (.lit 16))) (.lit 1))) (.ob (.le (.add (.wrap .i64 (.shr .u32 (.var 35) (.lit 16))) (.lit
 1)) (.lit 9223372036854775807)) (.ob (.le (.lit 0) (.wrap .i64 (.rem (.var 31) (.lit 8)))) (.ob (.lt (.wrap .i64 (.rem (.var 31) (.lit 8))) (.lit 8)) (.ob (.le (.lit
 (-9223372036854775808)) (.add (.var 21) (.lit 1))) (.ob (.le (.add (.var 21) (.lit 1)) (.lit 9223372036854775807)) (.ob (.le (.lit (-9223372036854775808)) (.add (.var 22) (.lit 1))) (.ob
 (.le (.add (.var 22) (.lit 1)) (.lit 9223372036854775807)) (.leaf 2 [.var 34, .int .i64 (.add (.var 21) (.lit 1)), .int .i64 (.add (.var 22) (.lit 1)), .int .i64
 (.var 23), .int .i64 (.var 24), .int .i64 (.add (.wrap .i64 (.shr .u32 (.var 35) (.lit 16))) (.lit 1)), .int .i64 (.var 26), .int .i64 (.var 27),
 .int .i64 (.var 28), .int .i64 (.var 29), .int .i64 (.var 30)] [5] [(5, [.int .i64 (.var 23), .int .i64 (.var 24), .int .i64 (.add (.wrap .i64
 (.shr .u32 (.var 35) (.lit 16))) (.lit 1)), .int .i64 (.var 26), .int .i64 (.var 27), .int .i64 (.var 28), .int .i64 (.var 29), .int .i64 (.var
 30)])])))))))))))))))) (.split (.eq (.wrap .i64 (.rem (.var 31) (.lit 8))) (.lit 3)) (.split (.not (.eq (.var 26) (.lit 0))) (.leafM 0 [.bool (.lit false)] [] [(5, [.int
 .i64 (.var 23), .int .i64 (.var 24), .int .i64 (.var 25), .int .i64 (.var 26), .int .i64 (.var 27), .int .i64 (.var 28), .int .i64 (.var 29),
 .int .i64 (.var 30)])]) (.start false [] [] [(5, [.int .i64 (.var 23), .int .i64 (.var 24), .int .i64 (.var 25), .int .i64 (.var 26), .int .i64 (.var
 27), .int .i64 (.var 28), .int .i64 (.var 29), .int .i64 (.var 30)])] (.pur (.slice 35 (.tmp 119) (some (.const (.int .i64 1))) none none) 35 [(.tmp
 119, .var 20), (.const (.int .i64 1), .int .i64 (.lit 1))] [.slice] (.var 34) (.ob (.le (.lit 0) (.var 22)) (.ob (.lt (.var 22) (.len 19)) (.start false [] [] [(5,
 [.int .i64 (.var 23), .int .i64 (.var 24), .int .i64 (.var 25), .int .i64 (.var 26), .int .i64 (.var 27), .int .i64 (.var 28), .int .i64 (.var
 29), .int .i64 (.var 30)])] (.load (.elt 19 0 (.var 22) 2 1) [.int .u32] (.ob (.le (.lit (-9223372036854775808)) (.add (.wrap .i64 (.shr .u32 (.var 35) (.lit
 16))) (.lit 1))) (.ob (.le (.add (.wrap .i64 (.shr .u32 (.var 35) (.lit 16))) (.lit 1)) (.lit 9223372036854775807)) (.ob (.le (.lit 0) (.wrap .i64 (.rem (.var 31)
 (.lit 8)))) (.ob (.lt (.wrap .i64 (.rem (.var 31) (.lit 8))) (.lit 8)) (.ob (.le (.lit (-9223372036854775808)) (.add (.var 21) (.lit 1))) (.ob (.le (.add (.var 21) (.lit 1))
 (.lit 9223372036854775807)) (.ob (.le (.lit (-9223372036854775808)) (.add (.var 22) (.lit 1))) (.ob (.le (.add (.var 22) (.lit 1)) (.lit 9223372036854775807)) (.leaf 2 [.var 34, .int
 .i64 (.add (.var 21) (.lit 1)), .int .i64 (.add (.var 22) (.lit 1)), .int .i64 (.var 23), .int .i64 (.var 24), .int .i64 (.var 25), .int .i64 (.add
 (.wrap .i64 (.shr .u32 (.var 35) (.lit 16))) (.lit 1)), .int .i64 (.var 27), .int .i64 (.var 28), .int .i64 (.var 29), .int .i64 (.var 30)] [5] [(5,
 [.int .i64 (.var 23), .int .i64 (.var 24), .int .i64 (.var 25), .int .i64 (.add (.wrap .i64 (.shr .u32 (.var 35) (.lit 16))) (.lit 1)), .int
 .i64 (.var 27), .int .i64 (.var 28), .int .i64 (.var 29), .int .i64 (.var 30)])])))))))))))))))) (.split (.eq (.wrap .i64 (.rem (.var 31) (.lit 8))) (.lit
 4)) (.split (.not (.eq (.var 27) (.lit 0))) (.leafM 0 [.bool (.lit false)] [] [(5, [.int .i64 (.var 23), .int .i64 (.var 24), .int .i64 (.var 25), .int .i64
 (.var 26), .int .i64 (.var 27), .int .i64 (.var 28), .int .i64 (.var 29), .int .i64 (.var 30)])]) (.start false [] [] [(5, [.int .i64 (.var 23), .int
 .i64 (.var 24), .int .i64 (.var 25), .int .i64 (.var 26), .int .i64 (.var 27), .int .i64 (.var 28), .int .i64 (.var 29), .int .i64 (.var 30)])]
 (.pur (.slice 35 (.tmp 119) (some (.const (.int .i64 1))) none none) 35 [(.tmp 119, .var 20), (.const (.int .i64 1), .int .i64 (.lit 1))] [.slice]
 (.var 34) (.ob (.le (.lit 0) (.var 22)) (.ob (.lt (.var 22) (.len 19)) (.start false [] [] [(5, [.int .i64 (.var 23), .int .i64 (.var 24), .int .i64 (.var 25), .int
 .i64 (.var 26), .int .i64 (.var 27), .int .i64 (.var 28), .int .i64 (.var 29), .int .i64 (.var 30)])] (.load (.elt 19 0 (.var 22) 2 1) [.int .u32]
 (.ob (.le (.lit (-9223372036854775808)) (.add (.wrap .i64 (.shr .u32 (.var 35) (.lit 16))) (.lit 1))) (.ob (.le (.add (.wrap .i64 (.shr .u32 (.var 35) (.lit
 16))) (.lit 1)) (.lit 9223372036854775807)) (.ob (.le (.lit 0) (.wrap .i64 (.rem (.var 31) (.lit 8)))) (.ob (.lt (.wrap .i64 (.rem (.var 31) (.lit 8))) (.lit 8)) (.ob
 (.le (.lit (-9223372036854775808)) (.add (.var 21) (.lit 1))) (.ob (.le (.add (.var 21) (.lit 1)) (.lit 9223372036854775807)) (.ob (.le (.lit (-9223372036854775808)) (.add (.var 22)
 (.lit 1))) (.ob (.le (.add (.var 22) (.lit 1)) (.lit 9223372036854775807)) (.leaf 2 [.var 34, .int .i64 (.add (.var 21) (.lit 1)), .int .i64 (.add (.var 22) (.lit 1)),
 .int .i64 (.var 23), .int .i64 (.var 24), .int .i64 (.var 25), .int .i64 (.var 26), .int .i64 (.add (.wrap .i64 (.shr .u32 (.var 35) (.lit
 16))) (.lit 1)), .int .i64 (.var 28), .int .i64 (.var 29), .int .i64 (.var 30)] [5] [(5, [.int .i64 (.var 23), .int .i64 (.var 24), .int .i64 (.var
 25), .int .i64 (.var 26), .int .i64 (.add (.wrap .i64 (.shr .u32 (.var 35) (.lit 16))) (.lit 1)), .int .i64 (.var 28), .int .i64 (.var 29), .int
 .i64 (.var 30)])])))))))))))))))) (.split (.eq (.wrap .i64 (.rem (.var 31) (.lit 8))) (.lit 5)) (.split (.not (.eq (.var 28) (.lit 0))) (.leafM 0 [.bool (.lit false)] []
 [(5, [.int .i64 (.var 23), .int .i64 (.var 24), .int .i64 (.var 25), .int .i64 (.var 26), .int .i64 (.var 27), .int .i64 (.var 28), .int .i64
 (.var 29), .int .i64 (.var 30)])]) (.start false [] [] [(5, [.int .i64 (.var 23), .int .i64 (.var 24), .int .i64 (.var 25), .int .i64 (.var 26), .int
 .i64 (.var 27), .int .i64 (.var 28), .int .i64 (.var 29), .int .i64 (.var 30)])] (.pur (.slice 35 (.tmp 119) (some (.const (.int .i64 1))) none
 none) 35 [(.tmp 119, .var 20), (.const (.int .i64 1), .int .i64 (.lit 1))] [.slice] (.var 34) (.ob (.le (.lit 0) (.var 22)) (.ob (.lt (.var 22) (.len 19))
 (.start false [] [] [(5, [.int .i64 (.var 23), .int .i64 (.var 24), .int .i64 (.var 25), .int .i64 (.var 26), .int .i64 (.var 27), .int .i64 (.var 28),
 .int .i64 (.var 29), .int .i64 (.var 30)])] (.load (.elt 19 0 (.var 22) 2 1) [.int .u32] (.ob (.le (.lit (-9223372036854775808)) (.add (.wrap .i64 (.shr
 .u32 (.var 35) (.lit 16))) (.lit 1))) (.ob (.le (.add (.wrap .i64 (.shr .u32 (.var 35) (.lit 16))) (.lit 1)) (.lit 9223372036854775807)) (.ob (.le (.lit 0) (.wrap
 .i64 (.rem (.var 31) (.lit 8)))) (.ob (.lt (.wrap .i64 (.rem (.var 31) (.lit 8))) (.lit 8)) (.ob (.le (.lit (-9223372036854775808)) (.add (.var 21) (.lit 1))) (.ob (.le
 (.add (.var 21) (.lit 1)) (.lit 9223372036854775807)) (.ob (.le (.lit (-9223372036854775808)) (.add (.var 22) (.lit 1))) (.ob (.le (.add (.var 22) (.lit 1)) (.lit 9223372036854775807))
 (.leaf 2 [.var 34, .int .i64 (.add (.var 21) (.lit 1)), .int .i64 (.add (.var 22) (.lit 1)), .int .i64 (.var 23), .int .i64 (.var 24), .int .i64 (.var
 25), .int .i64 (.var 26), .int .i64 (.var 27), .int .i64 (.add (.wrap .i64 (.shr .u32 (.var 35) (.lit 16))) (.lit 1)), .int .i64 (.var 29), .int
 .i64 (.var 30)] [5] [(5, [.int .i64 (.var 23), .int .i64 (.var 24), .int .i64 (.var 25), .int .i64 (.var 26), .int .i64 (.var 27), .int .i64
 (.add (.wrap .i64 (.shr .u32 (.var 35) (.lit 16))) (.lit 1)), .int .i64 (.var 29), .int .i64 (.var 30)])])))))))))))))))) (.split (.eq (.wrap .i64 (.rem
 (.var 31) (.lit 8))) (.lit 6)) (.split (.not (.eq (.var 29) (.lit 0))) (.leafM 0 [.bool (.lit false)] [] [(5, [.int .i64 (.var 23), .int .i64 (.var 24), .int .i64
 (.var 25), .int .i64 (.var 26), .int .i64 (.var 27), .int .i64 (.var 28), .int .i64 (.var 29), .int .i64 (.var 30)])]) (.start false [] [] [(5, [.int
 .i64 (.var 23), .int .i64 (.var 24), .int .i64 (.var 25), .int .i64 (.var 26), .int .i64 (.var 27), .int .i64 (.var 28), .int .i64 (.var 29),
 .int .i64 (.var 30)])] (.pur (.slice 35 (.tmp 119) (some (.const (.int .i64 1))) none none) 35 [(.tmp 119, .var 20), (.const (.int .i64 1), .int
 .i64 (.lit 1))] [.slice] (.var 34) (.ob (.le (.lit 0) (.var 22)) (.ob (.lt (.var 22) (.len 19)) (.start false [] [] [(5, [.int .i64 (.var 23), .int .i64 (.var 24),
 .int .i64 (.var 25), .int .i64 (.var 26), .int .i64 (.var 27), .int .i64 (.var 28), .int .i64 (.var 29), .int .i64 (.var 30)])] (.load (.elt 19 0
 (.var 22) 2 1) [.int .u32] (.ob (.le (.lit (-9223372036854775808)) (.add (.wrap .i64 (.shr .u32 (.var 35) (.lit 16))) (.lit 1))) (.ob (.le (.add (.wrap .i64
 (.shr .u32 (.var 35) (.lit 16))) (.lit 1)) (.lit 9223372036854775807)) (.ob (.le (.lit 0) (.wrap .i64 (.rem (.var 31) (.lit 8)))) (.ob (.lt (.wrap .i64 (.rem (.var
 31) (.lit 8))) (.lit 8)) (.ob (.le (.lit (-9223372036854775808)) (.add (.var 21) (.lit 1))) (.ob (.le (.add (.var 21) (.lit 1)) (.lit 9223372036854775807)) (.ob (.le (.lit
 (-9223372036854775808)) (.add (.var 22) (.lit 1))) (.ob (.le (.add (.var 22) (.lit 1)) (.lit 9223372036854775807)) (.leaf 2 [.var 34, .int .i64 (.add (.var 21) (.lit 1)), .int
 .i64 (.add (.var 22) (.lit 1)), .int .i64 (.var 23), .int .i64 (.var 24), .int .i64 (.var 25), .int .i64 (.var 26), .int .i64 (.var 27), .int
 .i64 (.var 28), .int .i64 (.add (.wrap .i64 (.shr .u32 (.var 35) (.lit 16))) (.lit 1)), .int .i64 (.var 30)] [5] [(5, [.int .i64 (.var 23), .int
 .i64 (.var 24), .int .i64 (.var 25), .int .i64 (.var 26), .int .i64 (.var 27), .int .i64 (.var 28), .int .i64 (.add (.wrap .i64 (.shr
 .u32 (.var 35) (.lit 16))) (.lit 1)), .int .i64 (.var 30)])])))))))))))))))) (.split (.eq (.wrap .i64 (.rem (.var 31) (.lit 8))) (.lit 7)) (.split (.not (.eq (.var
 30) (.lit 0))) (.leafM 0 [.bool (.lit false)] [] [(5, [.int .i64 (.var 23), .int .i64 (.var 24), .int .i64 (.var 25), .int .i64 (.var 26), .int .i64 (.var
 27), .int .i64 (.var 28), .int .i64 (.var 29), .int .i64 (.var 30)])]) (.start false [] [] [(5, [.int .i64 (.var 23), .int .i64 (.var 24), .int .i64
 (.var 25), .int .i64 (.var 26), .int .i64 (.var 27), .int .i64 (.var 28), .int .i64 (.var 29), .int .i64 (.var 30)])] (.pur (.slice 35 (.tmp 119) (some
 (.const (.int .i64 1))) none none) 35 [(.tmp 119, .var 20), (.const (.int .i64 1), .int .i64 (.lit 1))] [.slice] (.var 34) (.ob (.le (.lit 0) (.var
 22)) (.ob (.lt (.var 22) (.len 19)) (.start false [] [] [(5, [.int .i64 (.var 23), .int .i64 (.var 24), .int .i64 (.var 25), .int .i64 (.var 26), .int .i64
 (.var 27), .int .i64 (.var 28), .int .i64 (.var 29), .int .i64 (.var 30)])] (.load (.elt 19 0 (.var 22) 2 1) [.int .u32] (.ob (.le (.lit (-9223372036854775808))
 (.add (.wrap .i64 (.shr .u32 (.var 35) (.lit 16))) (.lit 1))) (.ob (.le (.add (.wrap .i64 (.shr .u32 (.var 35) (.lit 16))) (.lit 1)) (.lit 9223372036854775807))
 (.ob (.le (.lit 0) (.wrap .i64 (.rem (.var 31) (.lit 8)))) (.ob (.lt (.wrap .i64 (.rem (.var 31) (.lit 8))) (.lit 8)) (.ob (.le (.lit (-9223372036854775808)) (.add
 (.var 21) (.lit 1))) (.ob (.le (.add (.var 21) (.lit 1)) (.lit 9223372036854775807)) (.ob (.le (.lit (-9223372036854775808)) (.add (.var 22) (.lit 1))) (.ob (.le (.add (.var 22)
 (.lit 1)) (.lit 9223372036854775807)) (.leaf 2 [.var 34, .int .i64 (.add (.var 21) (.lit 1)), .int .i64 (.add (.var 22) (.lit 1)), .int .i64 (.var 23), .int .i64
 (.var 24), .int .i64 (.var 25), .int .i64 (.var 26), .int .i64 (.var 27), .int .i64 (.var 28), .int .i64 (.var 29), .int .i64 (.add (.wrap
 .i64 (.shr .u32 (.var 35) (.lit 16))) (.lit 1))] [5] [(5, [.int .i64 (.var 23), .int .i64 (.var 24), .int .i64 (.var 25), .int .i64 (.var 26), .int
 .i64 (.var 27), .int .i64 (.var 28), .int .i64 (.var 29), .int .i64 (.add (.wrap .i64 (.shr .u32 (.var 35) (.lit 16))) (.lit 1))])]))))))))))))))))
 (.bad "index"))))))))))))))))))))))))) (.ob (.le (.lit (-9223372036854775808)) (.add (.var 9) (.lit 1))) (.ob (.le (.add (.var 9) (.lit 1)) (.lit 9223372036854775807)) (.leaf 1 [.var 20,
 .int .i64 (.var 7), .int .i64 (.var 21), .int .i64 (.add (.var 9) (.lit 1)), .int .i64 (.var 23), .int .i64 (.var 24), .int .i64 (.var 25), .int
 .i64 (.var 26), .int .i64 (.var 27), .int .i64 (.var 28), .int .i64 (.var 29), .int .i64 (.var 30)] [] [(5, [.int .i64 (.var 23), .int .i64
 (.var 24), .int .i64 (.var 25), .int .i64 (.var 26), .int .i64 (.var 27), .int .i64 (.var 28), .int .i64 (.var 29), .int .i64 (.var 30)])]))))))
 (.split (.eq (.var 18) (.lit 3)) (.ob (.le (.lit 0) (.var 9)) (.ob (.lt (.var 9) (.len 1)) (.start false [] [] [(5, [.int .i64 (.var 10), .int .i64 (.var 11), .int
 .i64 (.var 12), .int .i64 (.var 13), .int .i64 (.var 14), .int .i64 (.var 15), .int .i64 (.var 16), .int .i64 (.var 17)])] (.load (.elt 1 0 (.var 9)
 6 4) [.int .u8] (.call 23 [.var 2, .int .u8 (.var 19)] [.int .i64] (.int .i64 (.var 20)) [] false [] [] [5] [(5, [.int .i64 (.var 10), .int .i64
 (.var 11), .int .i64 (.var 12), .int .i64 (.var 13), .int .i64 (.var 14), .int .i64 (.var 15), .int .i64 (.var 16), .int .i64 (.var 17)])] (.split
 (.not (.eq (.var 20) (.lit 0))) (.leafM 0 [.bool (.lit false)] [] [(5, [.int .i64 (.var 10), .int .i64 (.var 11), .int .i64 (.var 12), .int .i64 (.var 13),
 .int .i64 (.var 14), .int .i64 (.var 15), .int .i64 (.var 16), .int .i64 (.var 17)])]) (.loop 3 [.int .i64 (.lit 0), .int .i64 (.var 10), .int
 .i64 (.var 11), .int .i64 (.var 12), .int .i64 (.var 13), .int .i64 (.var 14), .int .i64 (.var 15), .int .i64 (.var 16), .int .i64 (.var 17)]
 [.int .i64, .int .i64, .int .i64, .int .i64, .int .i64, .int .i64, .int .i64, .int .i64, .int .i64] [] [5] [(5, [.int
 .i64 (.var 10), .int .i64 (.var 11), .int .i64 (.var 12), .int .i64 (.var 13), .int .i64 (.var 14), .int .i64 (.var 15), .int .i64 (.var 16),
 .int .i64 (.var 17)])] [(5, [.int .i64 (.var 22), .int .i64 (.var 23), .int .i64 (.var 24), .int .i64 (.var 25), .int .i64 (.var 26), .int .i64
 (.var 27), .int .i64 (.var 28), .int .i64 (.var 29)])] (.split (.lt (.var 21) (.lit 8)) (.start true [] [5] [(5, [.int .i64 (.var 22), .int .i64 (.var 23), .int
 .i64 (.var 24), .int .i64 (.var 25), .int .i64 (.var 26), .int .i64 (.var 27), .int .i64 (.var 28), .int .i64 (.var 29)])] (.ob (.le (.lit 0) (.var
 21)) (.ob (.lt (.var 21) (.lit 8)) (.split (.eq (.var 21) (.lit 0)) (.ob (.le (.lit 0) (.var 9)) (.ob (.lt (.var 9) (.len 1)) (.load (.elt 1 0 (.var 9) 6 4) [.int .u8]
 (.ob (.le (.lit (-9223372036854775808)) (.add (.wrap .i64 (.var 30)) (.lit 1))) (.ob (.le (.add (.wrap .i64 (.var 30)) (.lit 1)) (.lit 9223372036854775807)) (.split (.eq
 (.var 22) (.add (.wrap .i64 (.var 30)) (.lit 1))) (.ob (.le (.lit 0) (.var 21)) (.ob (.lt (.var 21) (.lit 8)) (.ob (.le (.lit (-9223372036854775808)) (.add (.var 21) (.lit
 1))) (.ob (.le (.add (.var 21) (.lit 1)) (.lit 9223372036854775807)) (.leaf 3 [.int .i64 (.add (.var 21) (.lit 1)), .int .i64 (.lit 0), .int .i64 (.var 23), .int
 .i64 (.var 24), .int .i64 (.var 25), .int .i64 (.var 26), .int .i64 (.var 27), .int .i64 (.var 28), .int .i64 (.var 29)] [5] [(5, [.int .i64
 (.lit 0), .int .i64 (.var 23), .int .i64 (.var 24), .int .i64 (.var 25), .int .i64 (.var 26), .int .i64 (.var 27), .int .i64 (.var 28), .int
 .i64 (.var 29)])]))))) (.ob (.le (.lit (-9223372036854775808)) (.add (.var 21) (.lit 1))) (.ob (.le (.add (.var 21) (.lit 1)) (.lit 9223372036854775807)) (.leaf 3 [.int .i64
 (.add (.var 21) (.lit 1)), .int .i64 (.var 22), .int .i64 (.var 23), .int .i64 (.var 24), .int .i64 (.var 25), .int .i64 (.var 26), .int .i64 (.var
 27), .int .i64 (.var 28), .int .i64 (.var 29)] [] [(5, [.int .i64 (.var 22), .int .i64 (.var 23), .int .i64 (.var 24), .int .i64 (.var 25), .int
 .i64 (.var 26), .int .i64 (.var 27), .int .i64 (.var 28), .int .i64 (.var 29)])]))))))))) (.split (.eq (.var 21) (.lit 1)) (.ob (.le (.lit 0) (.var 9)) (.ob
 (.lt (.var 9) (.len 1)) (.load (.elt 1 0 (.var 9) 6 4) [.int .u8] (.ob (.le (.lit (-9223372036854775808)) (.add (.wrap .i64 (.var 30)) (.lit 1))) (.ob (.le (.add
 (.wrap .i64 (.var 30)) (.lit 1)) (.lit 9223372036854775807)) (.split (.eq (.var 23) (.add (.wrap .i64 (.var 30)) (.lit 1))) (.ob (.le (.lit 0) (.var 21)) (.ob (.lt (.var
 21) (.lit 8)) (.ob (.le (.lit (-9223372036854775808)) (.add (.var 21) (.lit 1))) (.ob (.le (.add (.var 21) (.lit 1)) (.lit 9223372036854775807)) (.leaf 3 [.int .i64 (.add (.var
 21) (.lit 1)), .int .i64 (.var 22), .int .i64 (.lit 0), .int .i64 (.var 24), .int .i64 (.var 25), .int .i64 (.var 26), .int .i64 (.var 27), .int
 .i64 (.var 28), .int .i64 (.var 29)] [5] [(5, [.int .i64 (.var 22), .int .i64 (.lit 0), .int .i64 (.var 24), .int .i64 (.var 25), .int .i64
 (.var 26), .int .i64 (.var 27), .int .i64 (.var 28), .int .i64 (.var 29)])]))))) (.ob (.le (.lit (-9223372036854775808)) (.add (.var 21) (.lit 1))) (.ob (.le (.add
 (.var 21) (.lit 1)) (.lit 9223372036854775807)) (.leaf 3 [.int .i64 (.add (.var 21) (.lit 1)), .int .i64 (.var 22), .int .i64 (.var 23), .int .i64 (.var 24),
 .int .i64 (.var 25), .int .i64 (.var 26), .int .i64 (.var 27), .int .i64 (.var 28), .int .i64 (.var 29)] [] [(5, [.int .i64 (.var 22), .int .i64
 (.var 23), .int .i64 (.var 24), .int .i64 (.var 25), .int .i64 (.var 26), .int .i64 (.var 27), .int .i64 (.var 28), .int .i64 (.var 29)])])))))))))
 (.split (.eq (.var 21) (.lit 2)) (.ob (.le (.lit 0) (.var 9)) (.ob (.lt (.var 9) (.len 1)) (.load (.elt 1 0 (.var 9) 6 4) [.int .u8] (.ob (.le (.lit (-9223372036854775808))
 (.add (.wrap .i64 (.var 30)) (.lit 1))) (.ob (.le (.add (.wrap .i64 (.var 30)) (.lit 1)) (.lit 9223372036854775807)) (.split (.eq (.var 24) (.add (.wrap .i64 (.var
 30)) (.lit 1))) (.ob (.le (.lit 0) (.var 21)) (.ob (.lt (.var 21) (.lit 8)) (.ob (.le (.lit (-9223372036854775808)) (.add (.var 21) (.lit 1))) (.ob (.le (.add (.var 21) (.lit 1))
 (.lit 9223372036854775807)) (.leaf 3 [.int .i64 (.add (.var 21) (.lit 1)), .int .i64 (.var 22), .int .i64 (.var 23), .int .i64 (.lit 0), .int .i64 (.var
 25), .int .i64 (.var 26), .int .i64 (.var 27), .int .i64 (.var 28), .int .i64 (.var 29)] [5] [(5, [.int .i64 (.var 22), .int .i64 (.var 23), .int
 .i64 (.lit 0), .int .i64 (.var 25), .int .i64 (.var 26), .int .i64 (.var 27), .int .i64 (.var 28), .int .i64 (.var 29)])]))))) (.ob (.le (.lit
 (-9223372036854775808)) (.add (.var 21) (.lit 1))) (.ob (.le (.add (.var 21) (.lit 1)) (.lit 9223372036854775807)) (.leaf 3 [.int .i64 (.add (.var 21) (.lit 1)), .int .i64
 (.var 22), .int .i64 (.var 23), .int .i64 (.var 24), .int .i64 (.var 25), .int .i64 (.var 26), .int .i64 (.var 27), .int .i64 (.var 28), .int
 .i64 (.var 29)] [] [(5, [.int .i64 (.var 22), .int .i64 (.var 23), .int .i64 (.var 24), .int .i64 (.var 25), .int .i64 (.var 26), .int .i64
 (.var 27), .int .i64 (.var 28), .int .i64 (.var 29)])]))))))))) (.split (.eq (.var 21) (.lit 3)) (.ob (.le (.lit 0) (.var 9)) (.ob (.lt (.var 9) (.len 1)) (.load (.elt
 1 0 (.var 9) 6 4) [.int .u8] (.ob (.le (.lit (-9223372036854775808)) (.add (.wrap .i64 (.var 30)) (.lit 1))) (.ob (.le (.add (.wrap .i64 (.var 30)) (.lit 1)) (.lit
 9223372036854775807)) (.split (.eq (.var 25) (.add (.wrap .i64 (.var 30)) (.lit 1))) (.ob (.le (.lit 0) (.var 21)) (.ob (.lt (.var 21) (.lit 8)) (.ob (.le (.lit
 (-9223372036854775808)) (.add (.var 21) (.lit 1))) (.ob (.le (.add (.var 21) (.lit 1)) (.lit 9223372036854775807)) (.leaf 3 [.int .i64 (.add (.var 21) (.lit 1)), .int .i64
 (.var 22), .int .i64 (.var 23), .int .i64 (.var 24), .int .i64 (.lit 0), .int .i64 (.var 26), .int .i64 (.var 27), .int .i64 (.var 28), .int
 .i64 (.var 29)] [5] [(5, [.int .i64 (.var 22), .int .i64 (.var 23), .int .i64 (.var 24), .int .i64 (.lit 0), .int .i64 (.var 26), .int .i64
 (.var 27), .int .i64 (.var 28), .int .i64 (.var 29)])]))))) (.ob (.le (.lit (-9223372036854775808)) (.add (.var 21) (.lit 1))) (.ob (.le (.add (.var 21) (.lit 1)) (.lit
 9223372036854775807)) (.leaf 3 [.int .i64 (.add (.var 21) (.lit 1)), .int .i64 (.var 22), .int .i64 (.var 23), .int .i64 (.var 24), .int .i64 (.var 25),
 .int .i64 (.var 26), .int .i64 (.var 27), .int .i64 (.var 28), .int .i64 (.var 29)] [] [(5, [.int .i64 (.var 22), .int .i64 (.var 23), .int .i64
 (.var 24), .int .i64 (.var 25), .int .i64 (.var 26), .int .i64 (.var 27), .int .i64 (.var 28), .int .i64 (.var 29)])]))))))))) (.split (.eq (.var 21)
 (.lit 4)) (.ob (.le (.lit 0) (.var 9)) (.ob (.lt (.var 9) (.len 1)) (.load (.elt 1 0 (.var 9) 6 4) [.int .u8] (.ob (.le (.lit (-9223372036854775808)) (.add (.wrap .i64
 (.var 30)) (.lit 1))) (.ob (.le (.add (.wrap .i64 (.var 30)) (.lit 1)) (.lit 9223372036854775807)) (.split (.eq (.var 26) (.add (.wrap .i64 (.var 30)) (.lit 1))) (.ob
 (.le (.lit 0) (.var 21)) (.ob (.lt (.var 21) (.lit 8)) (.ob (.le (.lit (-9223372036854775808)) (.add (.var 21) (.lit 1))) (.ob (.le (.add (.var 21) (.lit 1)) (.lit
 9223372036854775807)) (.leaf 3 [.int .i64 (.add (.var 21) (.lit 1)), .int .i64 (.var 22), .int .i64 (.var 23), .int .i64 (.var 24), .int .i64 (.var 25),
 .int .i64 (.lit 0), .int .i64 (.var 27), .int .i64 (.var 28), .int .i64 (.var 29)] [5] [(5, [.int .i64 (.var 22), .int .i64 (.var 23), .int .i64
 (.var 24), .int .i64 (.var 25), .int .i64 (.lit 0), .int .i64 (.var 27), .int .i64 (.var 28), .int .i64 (.var 29)])]))))) (.ob (.le (.lit
 (-9223372036854775808)) (.add (.var 21) (.lit 1))) (.ob (.le (.add (.var 21) (.lit 1)) (.lit 9223372036854775807)) (.leaf 3 [.int .i64 (.add (.var 21) (.lit 1)), .int .i64
 (.var 22), .int .i64 (.var 23), .int .i64 (.var 24), .int .i64 (.var 25), .int .i64 (.var 26), .int .i64 (.var 27), .int .i64 (.var 28), .int
 .i64 (.var 29)] [] [(5, [.int .i64 (.var 22), .int .i64 (.var 23), .int .i64 (.var 24), .int .i64 (.var 25), .int .i64 (.var 26), .int .i64
 (.var 27), .int .i64 (.var 28), .int .i64 (.var 29)])]))))))))) (.split (.eq (.var 21) (.lit 5)) (.ob (.le (.lit 0) (.var 9)) (.ob (.lt (.var 9) (.len 1)) (.load (.elt
 1 0 (.var 9) 6 4) [.int .u8] (.ob (.le (.lit (-9223372036854775808)) (.add (.wrap .i64 (.var 30)) (.lit 1))) (.ob (.le (.add (.wrap .i64 (.var 30)) (.lit 1)) (.lit
 9223372036854775807)) (.split (.eq (.var 27) (.add (.wrap .i64 (.var 30)) (.lit 1))) (.ob (.le (.lit 0) (.var 21)) (.ob (.lt (.var 21) (.lit 8)) (.ob (.le (.lit
 (-9223372036854775808)) (.add (.var 21) (.lit 1))) (.ob (.le (.add (.var 21) (.lit 1)) (.lit 9223372036854775807)) (.leaf 3 [.int .i64 (.add (.var 21) (.lit 1)), .int .i64
 (.var 22), .int .i64 (.var 23), .int .i64 (.var 24), .int .i64 (.var 25), .int .i64 (.var 26), .int .i64 (.lit 0), .int .i64 (.var 28), .int
 .i64 (.var 29)] [5] [(5, [.int .i64 (.var 22), .int .i64 (.var 23), .int .i64 (.var 24), .int .i64 (.var 25), .int .i64 (.var 26), .int .i64
 (.lit 0), .int .i64 (.var 28), .int .i64 (.var 29)])]))))) (.ob (.le (.lit (-9223372036854775808)) (.add (.var 21) (.lit 1))) (.ob (.le (.add (.var 21) (.lit 1)) (.lit
 9223372036854775807)) (.leaf 3 [.int .i64 (.add (.var 21) (.lit 1)), .int .i64 (.var 22), .int .i64 (.var 23), .int .i64 (.var 24), .int .i64 (.var 25),
 .int .i64 (.var 26), .int .i64 (.var 27), .int .i64 (.var 28), .int .i64 (.var 29)] [] [(5, [.int .i64 (.var 22), .int .i64 (.var 23), .int .i64
 (.var 24), .int .i64 (.var 25), .int .i64 (.var 26), .int .i64 (.var 27), .int .i64 (.var 28), .int .i64 (.var 29)])]))))))))) (.split (.eq (.var 21)
 (.lit 6)) (.ob (.le (.lit 0) (.var 9)) (.ob (.lt (.var 9) (.len 1)) (.load (.elt 1 0 (.var 9) 6 4) [.int .u8] (.ob (.le (.lit (-9223372036854775808)) (.add (.wrap .i64
 (.var 30)) (.lit 1))) (.ob (.le (.add (.wrap .i64 (.var 30)) (.lit 1)) (.lit 9223372036854775807)) (.split (.eq (.var 28) (.add (.wrap .i64 (.var 30)) (.lit 1))) (.ob
 (.le (.lit 0) (.var 21)) (.ob (.lt (.var 21) (.lit 8)) (.ob (.le (.lit (-9223372036854775808)) (.add (.var 21) (.lit 1))) (.ob (.le (.add (.var 21) (.lit 1)) (.lit
 9223372036854775807)) (.leaf 3 [.int .i64 (.add (.var 21) (.lit 1)), .int .i64 (.var 22), .int .i64 (.var 23), .int .i64 (.var 24), .int .i64 (.var 25),
 .int .i64 (.var 26), .int .i64 (.var 27), .int .i64 (.lit 0), .int .i64 (.var 29)] [5] [(5, [.int .i64 (.var 22), .int .i64 (.var 23), .int .i64
 (.var 24), .int .i64 (.var 25), .int .i64 (.var 26), .int .i64 (.var 27), .int .i64 (.lit 0), .int .i64 (.var 29)])]))))) (.ob (.le (.lit
 (-9223372036854775808)) (.add (.var 21) (.lit 1))) (.ob (.le (.add (.var 21) (.lit 1)) (.lit 9223372036854775807)) (.leaf 3 [.int .i64 (.add (.var 21) (.lit 1)), .int .i64
 (.var 22), .int .i64 (.var 23), .int .i64 (.var 24), .int .i64 (.var 25), .int .i64 (.var 26), .int .i64 (.var 27), .int .i64 (.var 28), .int
 .i64 (.var 29)] [] [(5, [.int .i64 (.var 22), .int .i64 (.var 23), .int .i64 (.var 24), .int .i64 (.var 25), .int .i64 (.var 26), .int .i64
 (.var 27), .int .i64 (.var 28), .int .i64 (.var 29)])]))))))))) (.split (.eq (.var 21) (.lit 7)) (.ob (.le (.lit 0) (.var 9)) (.ob (.lt (.var 9) (.len 1)) (.load (.elt
 1 0 (.var 9) 6 4) [.int .u8] (.ob (.le (.lit (-9223372036854775808)) (.add (.wrap .i64 (.var 30)) (.lit 1))) (.ob (.le (.add (.wrap .i64 (.var 30)) (.lit 1)) (.lit
 9223372036854775807)) (.split (.eq (.var 29) (.add (.wrap .i64 (.var 30)) (.lit 1))) (.ob (.le (.lit 0) (.var 21)) (.ob (.lt (.var 21) (.lit 8)) (.ob (.le (.lit
 (-9223372036854775808)) (.add (.var 21) (.lit 1))) (.ob (.le (.add (.var 21) (.lit 1)) (.lit 9223372036854775807)) (.leaf 3 [.int .i64 (.add (.var 21) (.lit 1)), .int .i64
 (.var 22), .int .i64 (.var 23), .int .i64 (.var 24), .int .i64 (.var 25), .int .i64 (.var 26), .int .i64 (.var 27), .int .i64 (.var 28), .int
 .i64 (.lit 0)] [5] [(5, [.int .i64 (.var 22), .int .i64 (.var 23), .int .i64 (.var 24), .int .i64 (.var 25), .int .i64 (.var 26), .int .i64
 (.var 27), .int .i64 (.var 28), .int .i64 (.lit 0)])]))))) (.ob (.le (.lit (-9223372036854775808)) (.add (.var 21) (.lit 1))) (.ob (.le (.add (.var 21) (.lit 1)) (.lit
 9223372036854775807)) (.leaf 3 [.int .i64 (.add (.var 21) (.lit 1)), .int .i64 (.var 22), .int .i64 (.var 23), .int .i64 (.var 24), .int .i64 (.var 25),
 .int .i64 (.var 26), .int .i64 (.var 27), .int .i64 (.var 28), .int .i64 (.var 29)] [] [(5, [.int .i64 (.var 22), .int .i64 (.var 23), .int .i64
 (.var 24), .int .i64 (.var 25), .int .i64 (.var 26), .int .i64 (.var 27), .int .i64 (.var 28), .int .i64 (.var 29)])]))))))))) (.bad "index")))))))))))) (.ob
 (.le (.lit (-9223372036854775808)) (.add (.var 9) (.lit 1))) (.ob (.le (.add (.var 9) (.lit 1)) (.lit 9223372036854775807)) (.leaf 1 [.var 6, .int .i64 (.var 7), .int .i64
 (.var 8), .int .i64 (.add (.var 9) (.lit 1)), .int .i64 (.var 22), .int .i64 (.var 23), .int .i64 (.var 24), .int .i64 (.var 25), .int .i64 (.var
 26), .int .i64 (.var 27), .int .i64 (.var 28), .int .i64 (.var 29)] [] [(5, [.int .i64 (.var 22), .int .i64 (.var 23), .int .i64 (.var 24), .int
 .i64 (.var 25), .int .i64 (.var 26), .int .i64 (.var 27), .int .i64 (.var 28), .int .i64 (.var 29)])]))))))))))) (.ob (.le (.lit (-9223372036854775808)) (.add
 (.var 9) (.lit 1))) (.ob (.le (.add (.var 9) (.lit 1)) (.lit 9223372036854775807)) (.leaf 1 [.var 6, .int .i64 (.var 7), .int .i64 (.var 8), .int .i64 (.add (.var
 9) (.lit 1)), .int .i64 (.var 10), .int .i64 (.var 11), .int .i64 (.var 12), .int .i64 (.var 13), .int .i64 (.var 14), .int .i64 (.var 15), .int
 .i64 (.var 16), .int .i64 (.var 17)] [] [(5, [.int .i64 (.var 10), .int .i64 (.var 11), .int .i64 (.var 12), .int .i64 (.var 13), .int .i64
 (.var 14), .int .i64 (.var 15), .int .i64 (.var 16), .int .i64 (.var 17)])])))))))))))) (.call 24 [.var 2] [.func] (.var 18) [] false [] [] [5] [(5, [.int .i64
 (.var 10), .int .i64 (.var 11), .int .i64 (.var 12), .int .i64 (.var 13), .int .i64 (.var 14), .int .i64 (.var 15), .int .i64 (.var 16), .int
 .i64 (.var 17)])] (.split (.nil 18) (.leafM 0 [.bool (.lit false)] [] [(5, [.int .i64 (.var 10), .int .i64 (.var 11), .int .i64 (.var 12), .int .i64 (.var
 13), .int .i64 (.var 14), .int .i64 (.var 15), .int .i64 (.var 16), .int .i64 (.var 17)])]) (.blk (.range 4 (.var 18) [.int .u8, .int .u8, .int
 .u8] [23] [.int .i64 (.lit 0)] [.int .i64] [19] [19, 5] [(19, [.int .i64 (.lit 0)]), (5, [.int .i64 (.var 10), .int .i64 (.var 11), .int .i64
 (.var 12), .int .i64 (.var 13), .int .i64 (.var 14), .int .i64 (.var 15), .int .i64 (.var 16), .int .i64 (.var 17)])] [(19, [.int .i64 (.var 20)]), (5,
 [.int .i64 (.var 10), .int .i64 (.var 11), .int .i64 (.var 12), .int .i64 (.var 13), .int .i64 (.var 14), .int .i64 (.var 15), .int .i64 (.var
 16), .int .i64 (.var 17)])] (.ob (.le (.lit (-9223372036854775808)) (.add (.var 20) (.lit 1))) (.ob (.le (.add (.var 20) (.lit 1)) (.lit 9223372036854775807)) (.leaf 4 [.int
 .i64 (.add (.var 20) (.lit 1))] [19] [(19, [.int .i64 (.add (.var 20) (.lit 1))]), (5, [.int .i64 (.var 10), .int .i64 (.var 11), .int .i64 (.var 12), .int
 .i64 (.var 13), .int .i64 (.var 14), .int .i64 (.var 15), .int .i64 (.var 16), .int .i64 (.var 17)])]))) (.ob (.le (.lit (-9223372036854775808)) (.add (.var
 8) (.var 20))) (.ob (.le (.add (.var 8) (.var 20)) (.lit 9223372036854775807)) (.split (.eq (.var 7) (.add (.var 8) (.var 20))) (.call 25 [.var 2] [.slice] (.var 21) [] false [] []
 [19, 5] [(19, [.int .i64 (.var 20)]), (5, [.int .i64 (.var 10), .int .i64 (.var 11), .int .i64 (.var 12), .int .i64 (.var 13), .int .i64 (.var 14),
 .int .i64 (.var 15), .int .i64 (.var 16), .int .i64 (.var 17)])] (.split (.eq (.len 21) (.len 6)) (.call 16 [] [.bool] (.bool (.var 22)) [] false [] [] [19, 5] [(19,
 [.int .i64 (.var 20)]), (5, [.int .i64 (.var 10), .int .i64 (.var 11), .int .i64 (.var 12), .int .i64 (.var 13), .int .i64 (.var 14), .int .i64
 (.var 15), .int .i64 (.var 16), .int .i64 (.var 17)])] (.leafM 0 [.bool (.var 22)] [] [(19, [.int .i64 (.var 20)]), (5, [.int .i64 (.var 10), .int .i64
 (.var 11), .int .i64 (.var 12), .int .i64 (.var 13), .int .i64 (.var 14), .int .i64 (.var 15), .int .i64 (.var 16), .int .i64 (.var 17)])])) (.leafM
 0 [.bool (.lit false)] [] [(19, [.int .i64 (.var 20)]), (5, [.int .i64 (.var 10), .int .i64 (.var 11), .int .i64 (.var 12), .int .i64 (.var 13), .int
 .i64 (.var 14), .int .i64 (.var 15), .int .i64 (.var 16), .int .i64 (.var 17)])]))) (.leafM 0 [.bool (.lit false)] [] [(19, [.int .i64 (.var 20)]), (5, [.int
 .i64 (.var 10), .int .i64 (.var 11), .int .i64 (.var 12), .int .i64 (.var 13), .int .i64 (.var 14), .int .i64 (.var 15), .int .i64 (.var 16),
 .int .i64 (.var 17)])]))))))))))))))) := by kernel_rfl

end Go.Proofs.Ytfjlnfgbfclgbaa
