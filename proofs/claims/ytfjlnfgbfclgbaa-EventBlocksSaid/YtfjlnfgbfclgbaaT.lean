/- What the functions of the chapter come to, printed by a program of the prover's and checked by the kernel. No conditions. -/
import Derived.Test.YtfjlnfgbfclgbaaSxZI
import Derived.Test.YtfjlnfgbfclgbaaProg
import Derived.KernelRfl
set_option maxRecDepth 100000
set_option linter.unusedVariables false
namespace Go.Proofs.Ytfjlnfgbfclgbaa
open Go.Sx

theorem t10 : exFn { P := Try.prog } 10 [.agg [.int .u8 (.var 0), .int .u8 (.var 1), .int .u8 (.var 2)]] [.int .u8, .int .u8, .int .u8] [] = .blk (.leaf 0 [.int .u32 (.bit .or .u32 (.bit
 .or .u32 (.wrap .u32 (.var 0)) (.shl .u32 (.wrap .u32 (.var 1)) (.lit 8))) (.shl .u32 (.wrap .u32 (.var 2)) (.lit 16)))] [] [(3, [.int .u8
 (.var 0), .int .u8 (.var 1), .int .u8 (.var 2)])]) := by kernel_rfl

theorem t11 : exFn { P := Try.prog } 11 [.agg [.int .u8 (.var 0), .int .u8 (.var 1), .int .u8 (.var 2)]] [.int .u8, .int .u8, .int .u8] [] = .blk (.leaf 0 [.int .u32 (.wrap .u32 (.add (.wrap
 .u32 (.add (.wrap .u32 (.var 0)) (.wrap .u32 (.mul (.lit 256) (.wrap .u32 (.var 1)))))) (.wrap .u32 (.mul (.lit 65536) (.wrap .u32 (.var 2))))))] []
 [(3, [.int .u8 (.var 0), .int .u8 (.var 1), .int .u8 (.var 2)])]) := by kernel_rfl

theorem t12 : exFn { P := Try.prog } 12 [.agg [.int .u8 (.var 0), .int .u8 (.var 1), .int .u8 (.var 2)]] [.int .u8, .int .u8, .int .u8] [] = .blk (.call 31 [.agg [.int .u8 (.var 0), .int .u8
 (.var 1), .int .u8 (.var 2)]] [.int .i64, .bool] (.tuple [.int .i64 (.var 4), .bool (.var 5)]) [] false [] [] [3] [(3, [.int .u8 (.var 0), .int .u8
 (.var 1), .int .u8 (.var 2)])] (.leaf 0 [.bool (.var 5)] [] [(3, [.int .u8 (.var 0), .int .u8 (.var 1), .int .u8 (.var 2)])])) := by kernel_rfl

theorem t13 : exFn { P := Try.prog } 13 [.agg [.int .u8 (.var 0), .int .u8 (.var 1), .int .u8 (.var 2)]] [.int .u8, .int .u8, .int .u8] [] = .blk (.split (.eq (.var 0) (.lit 0)) (.leaf 0 [.bool (.lt
 (.var 1) (.lit 6))] [] [(3, [.int .u8 (.var 0), .int .u8 (.var 1), .int .u8 (.var 2)])]) (.split (.eq (.var 0) (.lit 1)) (.leaf 0 [.bool (.lt (.var 1) (.lit 3))] []
 [(3, [.int .u8 (.var 0), .int .u8 (.var 1), .int .u8 (.var 2)])]) (.split (.eq (.var 0) (.lit 2)) (.split (.eq (.var 1) (.lit 0)) (.leaf 0 [.bool (.lit true)] []
 [(3, [.int .u8 (.var 0), .int .u8 (.var 1), .int .u8 (.var 2)])]) (.split (.eq (.var 1) (.lit 1)) (.leaf 0 [.bool (.lit true)] [] [(3, [.int .u8 (.var 0), .int
 .u8 (.var 1), .int .u8 (.var 2)])]) (.split (.eq (.var 1) (.lit 3)) (.leaf 0 [.bool (.lit true)] [] [(3, [.int .u8 (.var 0), .int .u8 (.var 1), .int .u8
 (.var 2)])]) (.split (.eq (.var 1) (.lit 239)) (.leaf 0 [.bool (.lit true)] [] [(3, [.int .u8 (.var 0), .int .u8 (.var 1), .int .u8 (.var 2)])]) (.leaf 0 [.bool
 (.eq (.var 1) (.lit 240))] [] [(3, [.int .u8 (.var 0), .int .u8 (.var 1), .int .u8 (.var 2)])]))))) (.split (.eq (.var 0) (.lit 6)) (.leaf 0 [.bool (.lt (.var 1)
 (.lit 2))] [] [(3, [.int .u8 (.var 0), .int .u8 (.var 1), .int .u8 (.var 2)])]) (.leaf 0 [.bool (.lit false)] [] [(3, [.int .u8 (.var 0), .int .u8 (.var 1),
 .int .u8 (.var 2)])]))))) := by kernel_rfl

theorem t14 : exFn { P := Try.prog } 14 [.agg [.int .u8 (.var 0), .int .u8 (.var 1), .int .u8 (.var 2)], .int .u32 (.var 3)] [.int .u8, .int .u8, .int .u8, .int .u32] [] = .blk (.call 31 [.agg [.int .u8
 (.var 0), .int .u8 (.var 1), .int .u8 (.var 2)]] [.int .i64, .bool] (.tuple [.int .i64 (.var 5), .bool (.var 6)]) [] false [] [] [4] [(4, [.int .u8
 (.var 0), .int .u8 (.var 1), .int .u8 (.var 2)])] (.split (.var 6) (.split (.eq (.var 5) (.lit 32)) (.leaf 0 [.bool (.lit true)] [] [(4, [.int .u8 (.var 0), .int
 .u8 (.var 1), .int .u8 (.var 2)])]) (.ob (.le (.lit 0) (.var 5)) (.leaf 0 [.bool (.eq (.bit .and .u32 (.shr .u32 (.var 3) (.var 5)) (.lit 1)) (.lit 1))]
 [] [(4, [.int .u8 (.var 0), .int .u8 (.var 1), .int .u8 (.var 2)])]))) (.leaf 0 [.bool (.lit false)] [] [(4, [.int .u8 (.var 0), .int .u8 (.var 1), .int
 .u8 (.var 2)])]))) := by kernel_rfl

theorem t15 : exFn { P := Try.prog } 15 [.agg [.int .u8 (.var 0), .int .u8 (.var 1), .int .u8 (.var 2)], .int .u32 (.var 3)] [.int .u8, .int .u8, .int .u8, .int .u32] [] = .blk (.call 13 [.agg [.int .u8
 (.var 0), .int .u8 (.var 1), .int .u8 (.var 2)]] [.bool] (.bool (.var 5)) [] false [] [] [4] [(4, [.int .u8 (.var 0), .int .u8 (.var 1), .int .u8 (.var
 2)])] (.split (.not (.var 5)) (.leaf 0 [.bool (.lit false)] [] [(4, [.int .u8 (.var 0), .int .u8 (.var 1), .int .u8 (.var 2)])]) (.split (.eq (.var 0) (.lit 1))
 (.ob (.le (.lit 0) (.wrap .i64 (.var 1))) (.leaf 0 [.bool (.eq (.rem (.shr .u32 (.var 3) (.wrap .i64 (.var 1))) (.lit 2)) (.lit 1))] [] [(4, [.int .u8 (.var
 0), .int .u8 (.var 1), .int .u8 (.var 2)])])) (.split (.eq (.var 0) (.lit 2)) (.split (.eq (.var 1) (.lit 239)) (.leaf 0 [.bool (.eq (.rem (.shr .u32 (.var 3)
 (.lit 27)) (.lit 2)) (.lit 1))] [] [(4, [.int .u8 (.var 0), .int .u8 (.var 1), .int .u8 (.var 2)])]) (.split (.eq (.var 1) (.lit 240)) (.leaf 0 [.bool (.eq (.rem
 (.shr .u32 (.var 3) (.lit 31)) (.lit 2)) (.lit 1))] [] [(4, [.int .u8 (.var 0), .int .u8 (.var 1), .int .u8 (.var 2)])]) (.ob (.le (.lit (-9223372036854775808))
 (.add (.lit 8) (.wrap .i64 (.var 1)))) (.ob (.le (.add (.lit 8) (.wrap .i64 (.var 1))) (.lit 9223372036854775807)) (.ob (.le (.lit 0) (.add (.lit 8) (.wrap .i64
 (.var 1)))) (.leaf 0 [.bool (.eq (.rem (.shr .u32 (.var 3) (.add (.lit 8) (.wrap .i64 (.var 1)))) (.lit 2)) (.lit 1))] [] [(4, [.int .u8 (.var 0), .int .u8
 (.var 1), .int .u8 (.var 2)])])))))) (.leaf 0 [.bool (.lit true)] [] [(4, [.int .u8 (.var 0), .int .u8 (.var 1), .int .u8 (.var 2)])]))))) := by kernel_rfl

theorem t17 : exFn { P := Try.prog } 17 [.int .i64 (.var 0)] [.int .i64] [] = .split (.lt (.var 0) (.lit 1)) (.leaf 0 [.tuple [.cst (.pointer none), .int .i64 (.lit 2)]] [] []) (.split
 (.lt (.lit 16) (.var 0)) (.leaf 0 [.tuple [.cst (.pointer none), .int .i64 (.lit 2)]] [] []) (.gen (.makeMap 69 none) 69 [] [.map] (.var 1) [] false [] [] [] [] (.blk (.leaf 0
 [.tuple [.ptr 2 0, .int .i64 (.lit 0)]] [] [(2, [.int .i64 (.var 0), .int .u32 (.lit 0), .cst (.slice none 0 0), .cst (.slice none 0 0), .var 1])])))) := by
 kernel_rfl

theorem t19 : exFn { P := Try.prog } 19 [.agg [.int .u8 (.var 0), .int .u8 (.var 1), .bool (.var 2), .bool (.var 3)], .int .i64 (.var 4)] [.int .u8, .int .u8, .bool, .bool, .int .i64] [] = .blk (.call 38 [.agg
 [.int .u8 (.var 0), .int .u8 (.var 1), .bool (.var 2), .bool (.var 3)]] [.int .i64] (.int .i64 (.var 6)) [] false [] [] [5] [(5, [.int .u8 (.var 0), .int
 .u8 (.var 1), .bool (.var 2), .bool (.var 3)])] (.split (.eq (.var 6) (.var 4)) (.split (.not (.var 2)) (.leaf 0 [.bool (.not (.var 3))] [] [(5, [.int .u8 (.var 0),
 .int .u8 (.var 1), .bool (.var 2), .bool (.var 3)])]) (.leaf 0 [.bool (.lit false)] [] [(5, [.int .u8 (.var 0), .int .u8 (.var 1), .bool (.var 2), .bool (.var
 3)])])) (.leaf 0 [.bool (.lit false)] [] [(5, [.int .u8 (.var 0), .int .u8 (.var 1), .bool (.var 2), .bool (.var 3)])]))) := by kernel_rfl

theorem t31 : exFn { P := Try.prog } 31 [.agg [.int .u8 (.var 0), .int .u8 (.var 1), .int .u8 (.var 2)]] [.int .u8, .int .u8, .int .u8] [] = .blk (.split (.eq (.var 0) (.lit 0)) (.start true [] [3] [(3,
 [.int .u8 (.var 0), .int .u8 (.var 1), .int .u8 (.var 2)])] (.leaf 0 [.tuple [.int .i64 (.lit 32), .bool (.le (.var 1) (.lit 5))]] [] [(3, [.int .u8
 (.var 0), .int .u8 (.var 1), .int .u8 (.var 2)])])) (.split (.eq (.var 0) (.lit 1)) (.start true [] [3] [(3, [.int .u8 (.var 0), .int .u8 (.var 1), .int
 .u8 (.var 2)])] (.leaf 0 [.tuple [.int .i64 (.wrap .i64 (.var 1)), .bool (.le (.var 1) (.lit 2))]] [] [(3, [.int .u8 (.var 0), .int .u8 (.var 1), .int
 .u8 (.var 2)])])) (.split (.eq (.var 0) (.lit 2)) (.gen (.makeMap 103 none) 103 [] [.map] (.var 4) [] false [] [] [3] [(3, [.int .u8 (.var 0), .int .u8 (.var 1), .int
 .u8 (.var 2)])] (.gen (.insert 103 (.tmp 24) (.const (.int .u8 0)) (.const (.int .i64 8))) 0 [(.tmp 24, .var 4), (.const (.int .u8
 0), .int .u8 (.lit 0)), (.const (.int .i64 8), .int .i64 (.lit 8))] [] (.cst (.tuple #[])) [] false [] [] [3] [(3, [.int .u8 (.var 0), .int .u8 (.var
 1), .int .u8 (.var 2)])] (.gen (.insert 103 (.tmp 24) (.const (.int .u8 1)) (.const (.int .i64 9))) 0 [(.tmp 24, .var 4), (.const (.int
 .u8 1), .int .u8 (.lit 1)), (.const (.int .i64 9), .int .i64 (.lit 9))] [] (.cst (.tuple #[])) [] false [] [] [3] [(3, [.int .u8 (.var 0), .int
 .u8 (.var 1), .int .u8 (.var 2)])] (.gen (.insert 103 (.tmp 24) (.const (.int .u8 3)) (.const (.int .i64 11))) 0 [(.tmp 24, .var 4),
 (.const (.int .u8 3), .int .u8 (.lit 3)), (.const (.int .i64 11), .int .i64 (.lit 11))] [] (.cst (.tuple #[])) [] false [] [] [3] [(3, [.int
 .u8 (.var 0), .int .u8 (.var 1), .int .u8 (.var 2)])] (.gen (.insert 103 (.tmp 24) (.const (.int .u8 239)) (.const (.int .i64 27))) 0
 [(.tmp 24, .var 4), (.const (.int .u8 239), .int .u8 (.lit 239)), (.const (.int .i64 27), .int .i64 (.lit 27))] [] (.cst (.tuple #[])) [] false
 [] [] [3] [(3, [.int .u8 (.var 0), .int .u8 (.var 1), .int .u8 (.var 2)])] (.gen (.insert 103 (.tmp 24) (.const (.int .u8 240)) (.const (.int
 .i64 31))) 0 [(.tmp 24, .var 4), (.const (.int .u8 240), .int .u8 (.lit 240)), (.const (.int .i64 31), .int .i64 (.lit 31))] [] (.cst
 (.tuple #[])) [] false [] [] [3] [(3, [.int .u8 (.var 0), .int .u8 (.var 1), .int .u8 (.var 2)])] (.gen (.lookup 103 (.tmp 25) (.tmp 27) true) 75 [(.tmp 25,
 .var 4), (.tmp 27, .int .u8 (.var 1))] [.int .i64, .bool] (.tuple [.int .i64 (.var 5), .bool (.var 6)]) [] false [] [] [3] [(3, [.int .u8 (.var 0), .int
 .u8 (.var 1), .int .u8 (.var 2)])] (.leaf 0 [.tuple [.int .i64 (.var 5), .bool (.var 6)]] [] [(3, [.int .u8 (.var 0), .int .u8 (.var 1), .int .u8
 (.var 2)])])))))))) (.split (.eq (.var 0) (.lit 6)) (.start true [] [3] [(3, [.int .u8 (.var 0), .int .u8 (.var 1), .int .u8 (.var 2)])] (.leaf 0 [.tuple [.int
 .i64 (.lit 32), .bool (.le (.var 1) (.lit 1))]] [] [(3, [.int .u8 (.var 0), .int .u8 (.var 1), .int .u8 (.var 2)])])) (.leaf 0 [.tuple [.int .i64 (.lit
 0), .bool (.lit false)]] [] [(3, [.int .u8 (.var 0), .int .u8 (.var 1), .int .u8 (.var 2)])]))))) := by kernel_rfl

theorem t38 : exFn { P := Try.prog } 38 [.agg [.int .u8 (.var 0), .int .u8 (.var 1), .bool (.var 2), .bool (.var 3)]] [.int .u8, .int .u8, .bool, .bool] [] = .blk (.ob (.le (.lit (-9223372036854775808)) (.mul
 (.lit 256) (.wrap .i64 (.var 0)))) (.ob (.le (.mul (.lit 256) (.wrap .i64 (.var 0))) (.lit 9223372036854775807)) (.ob (.le (.lit (-9223372036854775808)) (.add (.mul (.lit
 256) (.wrap .i64 (.var 0))) (.wrap .i64 (.var 1)))) (.ob (.le (.add (.mul (.lit 256) (.wrap .i64 (.var 0))) (.wrap .i64 (.var 1))) (.lit 9223372036854775807))
 (.leaf 0 [.int .i64 (.add (.mul (.lit 256) (.wrap .i64 (.var 0))) (.wrap .i64 (.var 1)))] [] [(4, [.int .u8 (.var 0), .int .u8 (.var 1), .bool (.var 2),
 .bool (.var 3)])]))))) := by kernel_rfl

theorem t39 : exFn { P := Try.prog } 39 [.var 0] [.ptr] [] = .split (.nil 0) (.leaf 0 [.bool (.lit true)] [] []) (.start false [] [] [] (.load (.ptr 0 0) [.int .i64] (.leaf 0 [.bool (.eq
 (.var 1) (.lit 0))] [] []))) := by kernel_rfl

theorem t40 : exFn { P := Try.prog } 40 [.int .u16 (.var 0), .bool (.var 1)] [.int .u16, .bool] [] = .blk (.leaf 0 [.agg [.int .u8 (.wrap .u8 (.bit .and .u16 (.shr .u16
 (.var 0) (.lit 8)) (.lit 7))), .int .u8 (.wrap .u8 (.var 0)), .bool (.lit false), .bool (.var 1)]] [2] [(2, [.int .u8 (.wrap .u8 (.bit .and .u16 (.shr
 .u16 (.var 0) (.lit 8)) (.lit 7))), .int .u8 (.wrap .u8 (.var 0)), .bool (.lit false), .bool (.var 1)])]) := by kernel_rfl

theorem t41 : exFn { P := Try.prog } 41 [.var 0, .int .u16 (.var 1)] [.slice, .int .u16] [] = .call 60 [.var 0, .int .u16 (.var 1)] [.int .i64] (.int .i64 (.var 2)) [] false [] [] []
 [] (.leaf 0 [.bool (.le (.lit 0) (.var 2))] [] []) := by kernel_rfl

theorem t42 : exFn { P := Try.prog } 42 [.var 0] [.slice] [] = .split (.nil 0) (.leaf 0 [.cst (.slice none 0 0)] [] []) (.blk (.gen (.call { callee := .builtin .append, args := #[.tmp 5, .tmp 6], argTypes := #[35, 35] })
 35 [(.tmp 5, .slc 1 0 0 0), (.tmp 6, .var 0)] [.slice] (.var 2) [] false [] [] [1] [(1, [])] (.leaf 0 [.var 2] [] [(1, [])]))) := by kernel_rfl

theorem t36 : exFn { P := Try.prog } 36 [.var 0] [.slice] [] = .split (.nil 0) (.leaf 0 [.cst (.slice none 0 0)] [] []) (.blk (.gen (.call { callee := .builtin .append, args := #[.tmp 5, .tmp 6], argTypes := #[57, 57] })
 57 [(.tmp 5, .slc 1 0 0 0), (.tmp 6, .var 0)] [.slice] (.var 2) [] false [] [] [1] [(1, [])] (.leaf 0 [.var 2] [] [(1, [])]))) := by kernel_rfl

theorem t60 : exFn { P := Try.prog, loops := fun r => if Nat.beq r 2 then some ⟨1, [(8, .int .i64)], []⟩ else none } 60 [.var 0, .int .u16 (.var 1)] [.slice, .int .u16] [] = .loop 1 [.int .i64 (.lit 0)]
 [.int .i64] [] [] [] [] (.split (.lt (.var 2) (.len 0)) (.ob (.le (.lit 0) (.var 2)) (.ob (.lt (.var 2) (.len 0)) (.ob (.not (.nil 0)) (.start false [] [] [] (.load (.elt 0
 0 (.var 2) 1 0) [.int .u16] (.split (.eq (.var 1) (.var 3)) (.leaf 0 [.int .i64 (.var 2)] [] []) (.ob (.le (.lit (-9223372036854775808)) (.add (.var 2) (.lit 1))) (.ob
 (.le (.add (.var 2) (.lit 1)) (.lit 9223372036854775807)) (.leaf 1 [.int .i64 (.add (.var 2) (.lit 1))] [] []))))))))) (.leaf 0 [.int .i64 (.lit (-1))] [] [])) := by kernel_rfl

theorem t59 : exFn { P := Try.prog, loops := fun r => if Nat.beq r 2 then some ⟨1, [(8, .int .i64)], []⟩ else none } 59 [.var 0, .var 1] [.slice, .func] [] = .loop 1 [.int .i64 (.lit 0)] [.int
 .i64] [] [] [] [] (.split (.lt (.var 2) (.len 0)) (.ob (.le (.lit 0) (.var 2)) (.ob (.lt (.var 2) (.len 0)) (.ob (.not (.nil 0)) (.start false [] [] [] (.load (.elt 0 0 (.var
 2) 3 0) [.int .u8, .int .u8, .int .u8] (.gen (.call { callee := .value (.tmp 11), args := #[.tmp 15], argTypes := #[23] }) 4 [(.tmp 11, .var 1),
 (.tmp 15, .agg [.int .u8 (.var 3), .int .u8 (.var 4), .int .u8 (.var 5)])] [.bool] (.bool (.var 6)) [] false [] [] [] [] (.split (.var 6) (.leaf 0 [.int
 .i64 (.var 2)] [] []) (.ob (.le (.lit (-9223372036854775808)) (.add (.var 2) (.lit 1))) (.ob (.le (.add (.var 2) (.lit 1)) (.lit 9223372036854775807)) (.leaf 1 [.int .i64
 (.add (.var 2) (.lit 1))] [] [])))))))))) (.leaf 0 [.int .i64 (.lit (-1))] [] [])) := by kernel_rfl

theorem t63 : exFn { P := Try.prog, loops := fun r => if Nat.beq r 2 then some ⟨1, [(8, .int .i64)], []⟩ else none } 63 [.var 0, .var 1] [.slice, .func] [] = .loop 1 [.int .i64 (.lit 0)] [.int
 .i64] [] [] [] [] (.split (.lt (.var 2) (.len 0)) (.ob (.le (.lit 0) (.var 2)) (.ob (.lt (.var 2) (.len 0)) (.ob (.not (.nil 0)) (.start false [] [] [] (.load (.elt 0 0 (.var
 2) 1 0) [.int .u16] (.gen (.call { callee := .value (.tmp 11), args := #[.tmp 15], argTypes := #[37] }) 4 [(.tmp 11, .var 1), (.tmp 15, .int .u16 (.var 3))]
 [.bool] (.bool (.var 4)) [] false [] [] [] [] (.split (.var 4) (.leaf 0 [.int .i64 (.var 2)] [] []) (.ob (.le (.lit (-9223372036854775808)) (.add (.var 2) (.lit 1))) (.ob (.le
 (.add (.var 2) (.lit 1)) (.lit 9223372036854775807)) (.leaf 1 [.int .i64 (.add (.var 2) (.lit 1))] [] [])))))))))) (.leaf 0 [.int .i64 (.lit (-1))] [] [])) := by kernel_rfl

theorem t61 : exFn { P := Try.prog } 61 [.var 0, .int .i64 (.var 1), .int .i64 (.var 2)] [.slice, .int .i64, .int .i64] [] = .start false [] [] [] (.pur (.slice 57 (.tmp 8) (some (.tmp 9)) (some
 (.tmp 10)) (some (.tmp 12))) 57 [(.tmp 8, .var 0), (.tmp 9, .int .i64 (.var 1)), (.tmp 10, .int .i64 (.var 2)), (.tmp 12, .int .i64 (.len 0))]
 [.slice] (.var 3) (.split (.eq (.var 1) (.var 2)) (.leaf 0 [.var 0] [] []) (.start true [] [] [] (.pur (.slice 57 (.tmp 20) none (some (.tmp 21)) none) 57 [(.tmp 20, .var
 0), (.tmp 21, .int .i64 (.var 1))] [.slice] (.var 4) (.pur (.slice 57 (.tmp 23) (some (.tmp 24)) none none) 57 [(.tmp 23, .var 0), (.tmp 24, .int .i64
 (.var 2))] [.slice] (.var 5) (.gen (.call { callee := .builtin .append, args := #[.tmp 22, .tmp 25], argTypes := #[57, 57] }) 57 [(.tmp 22, .var 4), (.tmp 25,
 .var 5)] [.slice] (.var 6) [] true [] [] [] [] (.start false [] [] [] (.pur (.slice 57 (.tmp 27) (some (.tmp 29)) (some (.tmp 30)) none) 57 [(.tmp 27, .var 6), (.tmp
 29, .int .i64 (.len 6)), (.tmp 30, .int .i64 (.len 0))] [.slice] (.var 7) (.gen (.call { callee := .builtin .clear, args := #[.tmp 31], argTypes := #[57] }) 0
 [(.tmp 31, .var 7)] [] (.tuple []) [] false [] [] [] [] (.leaf 0 [.var 6] [] [])))))))))) := by kernel_rfl

theorem t64 : exFn { P := Try.prog } 64 [.var 0, .int .i64 (.var 1), .int .i64 (.var 2)] [.slice, .int .i64, .int .i64] [] = .start false [] [] [] (.pur (.slice 35 (.tmp 8) (some (.tmp 9)) (some
 (.tmp 10)) (some (.tmp 12))) 35 [(.tmp 8, .var 0), (.tmp 9, .int .i64 (.var 1)), (.tmp 10, .int .i64 (.var 2)), (.tmp 12, .int .i64 (.len 0))]
 [.slice] (.var 3) (.split (.eq (.var 1) (.var 2)) (.leaf 0 [.var 0] [] []) (.start true [] [] [] (.pur (.slice 35 (.tmp 20) none (some (.tmp 21)) none) 35 [(.tmp 20, .var
 0), (.tmp 21, .int .i64 (.var 1))] [.slice] (.var 4) (.pur (.slice 35 (.tmp 23) (some (.tmp 24)) none none) 35 [(.tmp 23, .var 0), (.tmp 24, .int .i64
 (.var 2))] [.slice] (.var 5) (.gen (.call { callee := .builtin .append, args := #[.tmp 22, .tmp 25], argTypes := #[35, 35] }) 35 [(.tmp 22, .var 4), (.tmp 25,
 .var 5)] [.slice] (.var 6) [] true [] [] [] [] (.start false [] [] [] (.pur (.slice 35 (.tmp 27) (some (.tmp 29)) (some (.tmp 30)) none) 35 [(.tmp 27, .var 6), (.tmp
 29, .int .i64 (.len 6)), (.tmp 30, .int .i64 (.len 0))] [.slice] (.var 7) (.gen (.call { callee := .builtin .clear, args := #[.tmp 31], argTypes := #[35] }) 0
 [(.tmp 31, .var 7)] [] (.tuple []) [] false [] [] [] [] (.leaf 0 [.var 6] [] [])))))))))) := by kernel_rfl

theorem t43 : exFn { P := Try.prog } 43 [.var 0, .var 1] [.slice, .func] [] = .blk (.call 59 [.var 0, .var 1] [.int .i64] (.int .i64 (.var 3)) [] false [] [] [2] [(2, [.int .u8
 (.lit 0), .int .u8 (.lit 0), .int .u8 (.lit 0)])] (.split (.lt (.var 3) (.lit 0)) (.start true [] [2] [(2, [.int .u8 (.lit 0), .int .u8 (.lit 0), .int .u8
 (.lit 0)])] (.leaf 0 [.tuple [.var 0, .agg [.int .u8 (.lit 0), .int .u8 (.lit 0), .int .u8 (.lit 0)], .bool (.lit false)]] [2] [(2, [.int .u8 (.lit 0), .int
 .u8 (.lit 0), .int .u8 (.lit 0)])])) (.start true [] [2] [(2, [.int .u8 (.lit 0), .int .u8 (.lit 0), .int .u8 (.lit 0)])] (.ob (.le (.lit
 (-9223372036854775808)) (.add (.var 3) (.lit 1))) (.ob (.le (.add (.var 3) (.lit 1)) (.lit 9223372036854775807)) (.ob (.le (.lit 0) (.var 3)) (.ob (.lt (.var 3) (.len 0)) (.ob (.not
 (.nil 0)) (.load (.elt 0 0 (.var 3) 3 0) [.int .u8, .int .u8, .int .u8] (.call 36 [.var 0] [.slice] (.var 7) [] true [] [] [2] [(2, [.int .u8 (.lit 0),
 .int .u8 (.lit 0), .int .u8 (.lit 0)])] (.call 61 [.var 7, .int .i64 (.var 3), .int .i64 (.add (.var 3) (.lit 1))] [.slice] (.var 8) [] true [] [] [2] [(2,
 [.int .u8 (.lit 0), .int .u8 (.lit 0), .int .u8 (.lit 0)])] (.leaf 0 [.tuple [.var 8, .agg [.int .u8 (.var 4), .int .u8 (.var 5), .int .u8 (.var
 6)], .bool (.lit true)]] [2] [(2, [.int .u8 (.var 4), .int .u8 (.var 5), .int .u8 (.var 6)])])))))))))))) := by kernel_rfl

theorem t57 : exFn { P := Try.prog } 57 [.var 0, .var 1] [.slice, .func] [] = .call 63 [.var 0, .var 1] [.int .i64] (.int .i64 (.var 2)) [] false [] [] [] [] (.split (.lt (.var 2)
 (.lit 0)) (.leaf 0 [.tuple [.var 0, .int .u16 (.lit 0), .bool (.lit false)]] [] []) (.start true [] [] [] (.ob (.le (.lit (-9223372036854775808)) (.add (.var 2) (.lit 1))) (.ob
 (.le (.add (.var 2) (.lit 1)) (.lit 9223372036854775807)) (.ob (.le (.lit 0) (.var 2)) (.ob (.lt (.var 2) (.len 0)) (.ob (.not (.nil 0)) (.load (.elt 0 0 (.var 2) 1 0) [.int
 .u16] (.call 42 [.var 0] [.slice] (.var 4) [] true [] [] [] [] (.call 64 [.var 4, .int .i64 (.var 2), .int .i64 (.add (.var 2) (.lit 1))] [.slice] (.var 5) [] true []
 [] [] [] (.leaf 0 [.tuple [.var 5, .int .u16 (.var 3), .bool (.lit true)]] [] []))))))))))) := by kernel_rfl

theorem t44 : exFn { P := Try.prog } 44 [.agg [.int .u8 (.var 0), .int .u8 (.var 1), .int .u8 (.var 2)], .ptr 3 0] [.int .u8, .int .u8, .int .u8, .ptr] [] = .blk (.start true [] [4] [(4, [.int .u8 (.var
 0), .int .u8 (.var 1), .int .u8 (.var 2)])] (.load (.ptr 3 0) [.ptr] (.ob (.not (.nil 5)) (.load (.ptr 5 4) [.map] (.gen (.lookup 69 (.tmp 10) (.tmp 12)
 true) 88 [(.tmp 10, .var 6), (.tmp 12, .int .u8 (.var 0))] [.int .u8, .bool] (.tuple [.int .u8 (.var 7), .bool (.var 8)]) [] true [] [] [4] [(4, [.int
 .u8 (.var 0), .int .u8 (.var 1), .int .u8 (.var 2)])] (.leaf 0 [.bool (.not (.var 8))] [] [(4, [.int .u8 (.var 0), .int .u8 (.var 1), .int .u8
 (.var 2)])])))))) := by kernel_rfl

theorem t37 : exFn { P := Try.prog } 37 [.agg [.int .u8 (.var 0), .int .u8 (.var 1), .int .u8 (.var 2)], .ptr 3 0] [.int .u8, .int .u8, .int .u8, .ptr] [] = .blk (.start false [] [] [(4, [.int .u8 (.var
 0), .int .u8 (.var 1), .int .u8 (.var 2)])] (.load (.ptr 3 0) [.int .u32] (.call 14 [.agg [.int .u8 (.var 0), .int .u8 (.var 1), .int .u8 (.var
 2)], .int .u32 (.var 5)] [.bool] (.bool (.var 6)) [] false [] [] [4] [(4, [.int .u8 (.var 0), .int .u8 (.var 1), .int .u8 (.var 2)])] (.leaf 0 [.bool (.not
 (.var 6))] [] [(4, [.int .u8 (.var 0), .int .u8 (.var 1), .int .u8 (.var 2)])])))) := by kernel_rfl

theorem t58 : exFn { P := Try.prog } 58 [.int .u16 (.var 0), .ptr 1 0] [.int .u16, .ptr] [] = .start false [] [] [] (.load (.ptr 1 0) [.int .u16] (.leaf 0 [.bool (.eq (.var 0) (.var 2))] []
 [])) := by kernel_rfl

theorem t47 : exFn { P := Try.prog } 47 [.int .u8 (.var 0), .int .u8 (.var 1), .ptr 2 0] [.int .u8, .int .u8, .ptr] [] = .start false [] [] [] (.load (.ptr 2 0) [.int .u8] (.leaf 0 [.bool (.eq
 (.var 1) (.var 3))] [] [])) := by kernel_rfl

theorem t35 : exFn { P := Try.prog, loops := fun r => if Nat.beq r 5 then some ⟨1, [(5, .int .i64), (6, .int .i64)], []⟩ else none } 35 [.var 0, .var 1] [.slice, .func] [] = .call 59 [.var 0, .var 1] [.int
 .i64] (.int .i64 (.var 2)) [] false [] [] [] [] (.split (.eq (.var 2) (.lit (-1))) (.leaf 0 [.var 0] [] []) (.ob (.le (.lit (-9223372036854775808)) (.add (.var 2) (.lit 1)))
 (.ob (.le (.add (.var 2) (.lit 1)) (.lit 9223372036854775807)) (.loop 1 [.int .i64 (.var 2), .int .i64 (.add (.var 2) (.lit 1))] [.int .i64, .int .i64] [] []
 [] [] (.split (.lt (.var 4) (.len 0)) (.ob (.le (.lit 0) (.var 4)) (.ob (.lt (.var 4) (.len 0)) (.ob (.not (.nil 0)) (.start false [] [] [] (.load (.elt 0 0 (.var 4) 3 0) [.int
 .u8, .int .u8, .int .u8] (.blk (.gen (.call { callee := .value (.tmp 26), args := #[.tmp 27], argTypes := #[23] }) 4 [(.tmp 26, .var 1), (.tmp 27,
 .agg [.int .u8 (.var 5), .int .u8 (.var 6), .int .u8 (.var 7)])] [.bool] (.bool (.var 9)) [] false [8] [] [8] [(8, [.int .u8 (.var 5), .int .u8 (.var 6),
 .int .u8 (.var 7)])] (.split (.not (.var 9)) (.ob (.le (.lit 0) (.var 3)) (.ob (.lt (.var 3) (.len 0)) (.gen (.store 23 (.tmp 33) (.tmp 32)) 0 [(.tmp 33, .elt
 0 0 (.var 3) 3 0), (.tmp 32, .agg [.int .u8 (.var 5), .int .u8 (.var 6), .int .u8 (.var 7)])] [] (.cst (.tuple #[])) [] false [] [] [8] [(8, [.int .u8 (.var
 5), .int .u8 (.var 6), .int .u8 (.var 7)])] (.ob (.le (.lit (-9223372036854775808)) (.add (.var 3) (.lit 1))) (.ob (.le (.add (.var 3) (.lit 1)) (.lit 9223372036854775807))
 (.ob (.le (.lit (-9223372036854775808)) (.add (.var 4) (.lit 1))) (.ob (.le (.add (.var 4) (.lit 1)) (.lit 9223372036854775807)) (.leaf 1 [.int .i64 (.add (.var 3) (.lit 1)),
 .int .i64 (.add (.var 4) (.lit 1))] [] [(8, [.int .u8 (.var 5), .int .u8 (.var 6), .int .u8 (.var 7)])])))))))) (.ob (.le (.lit (-9223372036854775808)) (.add
 (.var 4) (.lit 1))) (.ob (.le (.add (.var 4) (.lit 1)) (.lit 9223372036854775807)) (.leaf 1 [.int .i64 (.var 3), .int .i64 (.add (.var 4) (.lit 1))] [] [(8, [.int .u8
 (.var 5), .int .u8 (.var 6), .int .u8 (.var 7)])]))))))))))) (.start false [] [] [] (.pur (.slice 57 (.tmp 36) (some (.tmp 37)) none none) 57 [(.tmp 36, .var 0),
 (.tmp 37, .int .i64 (.var 3))] [.slice] (.var 5) (.gen (.call { callee := .builtin .clear, args := #[.tmp 38], argTypes := #[57] }) 0 [(.tmp 38, .var 5)] []
 (.tuple []) [] false [] [] [] [] (.start false [] [] [] (.pur (.slice 57 (.tmp 39) none (some (.tmp 40)) none) 57 [(.tmp 39, .var 0), (.tmp 40, .int .i64 (.var 3))]
 [.slice] (.var 6) (.leaf 0 [.var 6] [] []))))))))))) := by kernel_rfl

theorem t32 : exFn { P := Try.prog, loops := fun r => if Nat.beq r 4 then some ⟨1, [(5, .int .i64)], []⟩ else none } 32 [.var 0, .var 1] [.slice, .slice] [] = .split (.not (.eq (.len 0) (.len 1))) (.leaf 0
 [.bool (.lit false)] [] []) (.loop 1 [.int .i64 (.lit 0)] [.int .i64] [] [] [] [] (.split (.lt (.var 2) (.len 0)) (.start true [] [] [] (.ob (.le (.lit 0) (.var 2)) (.ob
 (.lt (.var 2) (.len 0)) (.ob (.not (.nil 0)) (.load (.elt 0 0 (.var 2) 2 0) [.int .u16, .int .u32] (.ob (.le (.lit 0) (.var 2)) (.ob (.lt (.var 2) (.len 1)) (.ob
 (.not (.nil 1)) (.load (.elt 1 0 (.var 2) 2 0) [.int .u16, .int .u32] (.pur (.binOp .neq 49 (.tmp 20) (.tmp 24) 49) 4 [(.tmp 20, .agg [.int .u16
 (.var 3), .int .u32 (.var 4)]), (.tmp 24, .agg [.int .u16 (.var 5), .int .u32 (.var 6)])] [.bool] (.bool (.var 7)) (.split (.var 7) (.leaf 0 [.bool (.lit
 false)] [] []) (.ob (.le (.lit (-9223372036854775808)) (.add (.var 2) (.lit 1))) (.ob (.le (.add (.var 2) (.lit 1)) (.lit 9223372036854775807)) (.leaf 1 [.int .i64 (.add (.var 2)
 (.lit 1))] [] [])))))))))))))) (.leaf 0 [.bool (.lit true)] [] []))) := by kernel_rfl

end Go.Proofs.Ytfjlnfgbfclgbaa
