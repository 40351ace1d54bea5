/- What the functions of the chapter come to, printed by a program of the prover's and checked by the kernel. No conditions. -/
import Derived.Test.YtppbapnibpeolaaSxZI
import Derived.Test.YtppbapnibpeolaaProg
import Derived.KernelRfl
set_option maxRecDepth 100000
set_option linter.unusedVariables false
namespace Go.Proofs.Ytppbapnibpeolaa
open Go.Sx

theorem t29 : exFn { P := Try.prog, loops := fun r => if Nat.beq r 5 then some ⟨1, [(26, .int .i64)], []⟩ else if Nat.beq r 10 then some ⟨2, [(41, .int .i64)], []⟩ else none } 29 [.agg [.int .i64 (.var 0), .int .i64
 (.var 1), .int .i64 (.var 2), .int .i64 (.var 3)], .var 4] [.int .i64, .int .i64, .int .i64, .int .i64, .slice] [] = .blk (.call 55 [.agg [.int .i64 (.var 0), .int .i64 (.var 1), .int
 .i64 (.var 2), .int .i64 (.var 3)]] [.bool] (.bool (.var 6)) [] false [] [] [5] [(5, [.int .i64 (.var 0), .int .i64 (.var 1), .int .i64 (.var 2), .int
 .i64 (.var 3)])] (.split (.not (.var 6)) (.leaf 0 [.tuple [.cst (.pointer none), .int .i64 (.lit 2)]] [] [(5, [.int .i64 (.var 0), .int .i64 (.var 1), .int
 .i64 (.var 2), .int .i64 (.var 3)])]) (.call 56 [.var 4, .fn 57 []] [.bool] (.bool (.var 7)) [] false [] [] [5] [(5, [.int .i64 (.var 0), .int .i64 (.var 1),
 .int .i64 (.var 2), .int .i64 (.var 3)])] (.split (.var 7) (.leaf 0 [.tuple [.cst (.pointer none), .int .i64 (.lit 2)]] [] [(5, [.int .i64 (.var 0), .int
 .i64 (.var 1), .int .i64 (.var 2), .int .i64 (.var 3)])]) (.start true [] [5] [(5, [.int .i64 (.var 0), .int .i64 (.var 1), .int .i64 (.var 2), .int
 .i64 (.var 3)])] (.both (.gen (.makeMap 47 none) 47 [] [.map] (.var 8) [] true [] [] [5] [(5, [.int .i64 (.var 0), .int .i64 (.var 1), .int .i64 (.var 2), .int
 .i64 (.var 3)])] (.gen (.makeSlice 48 (.tmp 20) (.tmp 20)) 48 [(.tmp 20, .int .i64 (.var 0)), (.tmp 20, .int .i64 (.var 0))] [.slice] (.var 9) [] true
 [] [] [5] [(5, [.int .i64 (.var 0), .int .i64 (.var 1), .int .i64 (.var 2), .int .i64 (.var 3)])] (.blk (.loop 1 [.int .i64 (.lit 0)] [.int .i64] []
 [10, 5] [(10, [.int .i64 (.var 0), .int .i64 (.var 1), .int .i64 (.var 2), .int .i64 (.var 3), .var 8, .var 9, .int .i64 (.lit 0), .int .i64 (.lit
 (-1)), .int .i64 (.lit 0), .bool (.lit false)]), (5, [.int .i64 (.var 0), .int .i64 (.var 1), .int .i64 (.var 2), .int .i64 (.var 3)])] [(10, [.int
 .i64 (.var 0), .int .i64 (.var 1), .int .i64 (.var 2), .int .i64 (.var 3), .var 8, .var 9, .int .i64 (.lit 0), .int .i64 (.lit (-1)), .int
 .i64 (.lit 0), .bool (.lit false)]), (5, [.int .i64 (.var 0), .int .i64 (.var 1), .int .i64 (.var 2), .int .i64 (.var 3)])] (.split (.lt (.var 11) (.len
 4)) (.ob (.le (.lit 0) (.var 11)) (.ob (.lt (.var 11) (.len 4)) (.ob (.not (.nil 4)) (.start false [] [] [(10, [.int .i64 (.var 0), .int .i64 (.var 1), .int .i64
 (.var 2), .int .i64 (.var 3), .var 8, .var 9, .int .i64 (.lit 0), .int .i64 (.lit (-1)), .int .i64 (.lit 0), .bool (.lit false)]), (5, [.int .i64 (.var
 0), .int .i64 (.var 1), .int .i64 (.var 2), .int .i64 (.var 3)])] (.load (.elt 4 0 (.var 11) 1 0) [.int .i64] (.gen (.mapUpdate 47 (.tmp 33) (.tmp 34)
 (.const (.bool true))) 0 [(.tmp 33, .var 8), (.tmp 34, .int .i64 (.var 12)), (.const (.bool true), .bool (.lit true))] [] (.cst (.tuple #[])) [] false [] []
 [10, 5] [(10, [.int .i64 (.var 0), .int .i64 (.var 1), .int .i64 (.var 2), .int .i64 (.var 3), .var 8, .var 9, .int .i64 (.lit 0), .int .i64 (.lit
 (-1)), .int .i64 (.lit 0), .bool (.lit false)]), (5, [.int .i64 (.var 0), .int .i64 (.var 1), .int .i64 (.var 2), .int .i64 (.var 3)])] (.ob (.le (.lit
 (-9223372036854775808)) (.add (.var 11) (.lit 1))) (.ob (.le (.add (.var 11) (.lit 1)) (.lit 9223372036854775807)) (.leaf 1 [.int .i64 (.add (.var 11) (.lit 1))] [] [(10, [.int
 .i64 (.var 0), .int .i64 (.var 1), .int .i64 (.var 2), .int .i64 (.var 3), .var 8, .var 9, .int .i64 (.lit 0), .int .i64 (.lit (-1)), .int
 .i64 (.lit 0), .bool (.lit false)]), (5, [.int .i64 (.var 0), .int .i64 (.var 1), .int .i64 (.var 2), .int .i64 (.var 3)])]))))))))) (.loop 2 [.int
 .i64 (.lit 0)] [.int .i64] [] [10, 5] [(10, [.int .i64 (.var 0), .int .i64 (.var 1), .int .i64 (.var 2), .int .i64 (.var 3), .var 8, .var 9, .int
 .i64 (.lit 0), .int .i64 (.lit (-1)), .int .i64 (.lit 0), .bool (.lit false)]), (5, [.int .i64 (.var 0), .int .i64 (.var 1), .int .i64 (.var 2), .int
 .i64 (.var 3)])] [(10, [.int .i64 (.var 0), .int .i64 (.var 1), .int .i64 (.var 2), .int .i64 (.var 3), .var 8, .var 9, .int .i64 (.lit 0), .int
 .i64 (.lit (-1)), .int .i64 (.lit 0), .bool (.lit false)]), (5, [.int .i64 (.var 0), .int .i64 (.var 1), .int .i64 (.var 2), .int .i64 (.var 3)])]
 (.split (.lt (.var 12) (.len 9)) (.start true [] [10, 5] [(10, [.int .i64 (.var 0), .int .i64 (.var 1), .int .i64 (.var 2), .int .i64 (.var 3), .var 8, .var 9,
 .int .i64 (.lit 0), .int .i64 (.lit (-1)), .int .i64 (.lit 0), .bool (.lit false)]), (5, [.int .i64 (.var 0), .int .i64 (.var 1), .int .i64 (.var 2),
 .int .i64 (.var 3)])] (.ob (.le (.lit 0) (.var 12)) (.ob (.lt (.var 12) (.len 9)) (.ob (.not (.nil 9)) (.call 58 [.elt 9 0 (.var 12) 3 0, .int .i64 (.var 1), .int
 .i64 (.lit 1)] [] (.tuple []) [] true [] [] [10, 5] [(10, [.int .i64 (.var 0), .int .i64 (.var 1), .int .i64 (.var 2), .int .i64 (.var 3), .var 8, .var 9,
 .int .i64 (.lit 0), .int .i64 (.lit (-1)), .int .i64 (.lit 0), .bool (.lit false)]), (5, [.int .i64 (.var 0), .int .i64 (.var 1), .int .i64 (.var 2),
 .int .i64 (.var 3)])] (.ob (.le (.lit (-9223372036854775808)) (.add (.var 12) (.lit 1))) (.ob (.le (.add (.var 12) (.lit 1)) (.lit 9223372036854775807)) (.leaf 2 [.int .i64
 (.add (.var 12) (.lit 1))] [] [(10, [.int .i64 (.var 0), .int .i64 (.var 1), .int .i64 (.var 2), .int .i64 (.var 3), .var 8, .var 9, .int .i64 (.lit 0),
 .int .i64 (.lit (-1)), .int .i64 (.lit 0), .bool (.lit false)]), (5, [.int .i64 (.var 0), .int .i64 (.var 1), .int .i64 (.var 2), .int .i64 (.var
 3)])])))))))) (.leaf 0 [.tuple [.ptr 10 0, .int .i64 (.lit 0)]] [] [(10, [.int .i64 (.var 0), .int .i64 (.var 1), .int .i64 (.var 2), .int .i64 (.var 3),
 .var 8, .var 9, .int .i64 (.lit 0), .int .i64 (.lit (-1)), .int .i64 (.lit 0), .bool (.lit false)]), (5, [.int .i64 (.var 0), .int .i64 (.var 1), .int
 .i64 (.var 2), .int .i64 (.var 3)])])))))))) (.gen (.makeSlice 48 (.tmp 20) (.tmp 20)) 48 [(.tmp 20, .int .i64 (.var 0)), (.tmp 20, .int .i64
 (.var 0))] [.slice] (.var 8) [] true [] [] [5] [(5, [.int .i64 (.var 0), .int .i64 (.var 1), .int .i64 (.var 2), .int .i64 (.var 3)])] (.gen (.makeMap 47 none) 47
 [] [.map] (.var 9) [] true [] [] [5] [(5, [.int .i64 (.var 0), .int .i64 (.var 1), .int .i64 (.var 2), .int .i64 (.var 3)])] (.blk (.loop 1 [.int .i64
 (.lit 0)] [.int .i64] [] [10, 5] [(10, [.int .i64 (.var 0), .int .i64 (.var 1), .int .i64 (.var 2), .int .i64 (.var 3), .var 9, .var 8, .int .i64
 (.lit 0), .int .i64 (.lit (-1)), .int .i64 (.lit 0), .bool (.lit false)]), (5, [.int .i64 (.var 0), .int .i64 (.var 1), .int .i64 (.var 2), .int .i64
 (.var 3)])] [(10, [.int .i64 (.var 0), .int .i64 (.var 1), .int .i64 (.var 2), .int .i64 (.var 3), .var 9, .var 8, .int .i64 (.lit 0), .int .i64
 (.lit (-1)), .int .i64 (.lit 0), .bool (.lit false)]), (5, [.int .i64 (.var 0), .int .i64 (.var 1), .int .i64 (.var 2), .int .i64 (.var 3)])] (.split (.lt
 (.var 11) (.len 4)) (.ob (.le (.lit 0) (.var 11)) (.ob (.lt (.var 11) (.len 4)) (.ob (.not (.nil 4)) (.start false [] [] [(10, [.int .i64 (.var 0), .int .i64 (.var 1),
 .int .i64 (.var 2), .int .i64 (.var 3), .var 9, .var 8, .int .i64 (.lit 0), .int .i64 (.lit (-1)), .int .i64 (.lit 0), .bool (.lit false)]), (5, [.int
 .i64 (.var 0), .int .i64 (.var 1), .int .i64 (.var 2), .int .i64 (.var 3)])] (.load (.elt 4 0 (.var 11) 1 0) [.int .i64] (.gen (.mapUpdate 47 (.tmp
 33) (.tmp 34) (.const (.bool true))) 0 [(.tmp 33, .var 9), (.tmp 34, .int .i64 (.var 12)), (.const (.bool true), .bool (.lit true))] [] (.cst (.tuple
 #[])) [] false [] [] [10, 5] [(10, [.int .i64 (.var 0), .int .i64 (.var 1), .int .i64 (.var 2), .int .i64 (.var 3), .var 9, .var 8, .int .i64 (.lit 0), .int
 .i64 (.lit (-1)), .int .i64 (.lit 0), .bool (.lit false)]), (5, [.int .i64 (.var 0), .int .i64 (.var 1), .int .i64 (.var 2), .int .i64 (.var 3)])]
 (.ob (.le (.lit (-9223372036854775808)) (.add (.var 11) (.lit 1))) (.ob (.le (.add (.var 11) (.lit 1)) (.lit 9223372036854775807)) (.leaf 1 [.int .i64 (.add (.var 11) (.lit 1))]
 [] [(10, [.int .i64 (.var 0), .int .i64 (.var 1), .int .i64 (.var 2), .int .i64 (.var 3), .var 9, .var 8, .int .i64 (.lit 0), .int .i64 (.lit (-1)),
 .int .i64 (.lit 0), .bool (.lit false)]), (5, [.int .i64 (.var 0), .int .i64 (.var 1), .int .i64 (.var 2), .int .i64 (.var 3)])]))))))))) (.loop 2 [.int
 .i64 (.lit 0)] [.int .i64] [] [10, 5] [(10, [.int .i64 (.var 0), .int .i64 (.var 1), .int .i64 (.var 2), .int .i64 (.var 3), .var 9, .var 8, .int
 .i64 (.lit 0), .int .i64 (.lit (-1)), .int .i64 (.lit 0), .bool (.lit false)]), (5, [.int .i64 (.var 0), .int .i64 (.var 1), .int .i64 (.var 2), .int
 .i64 (.var 3)])] [(10, [.int .i64 (.var 0), .int .i64 (.var 1), .int .i64 (.var 2), .int .i64 (.var 3), .var 9, .var 8, .int .i64 (.lit 0), .int
 .i64 (.lit (-1)), .int .i64 (.lit 0), .bool (.lit false)]), (5, [.int .i64 (.var 0), .int .i64 (.var 1), .int .i64 (.var 2), .int .i64 (.var 3)])]
 (.split (.lt (.var 12) (.len 8)) (.start true [] [10, 5] [(10, [.int .i64 (.var 0), .int .i64 (.var 1), .int .i64 (.var 2), .int .i64 (.var 3), .var 9, .var 8,
 .int .i64 (.lit 0), .int .i64 (.lit (-1)), .int .i64 (.lit 0), .bool (.lit false)]), (5, [.int .i64 (.var 0), .int .i64 (.var 1), .int .i64 (.var 2),
 .int .i64 (.var 3)])] (.ob (.le (.lit 0) (.var 12)) (.ob (.lt (.var 12) (.len 8)) (.ob (.not (.nil 8)) (.call 58 [.elt 8 0 (.var 12) 3 0, .int .i64 (.var 1), .int
 .i64 (.lit 1)] [] (.tuple []) [] true [] [] [10, 5] [(10, [.int .i64 (.var 0), .int .i64 (.var 1), .int .i64 (.var 2), .int .i64 (.var 3), .var 9, .var 8,
 .int .i64 (.lit 0), .int .i64 (.lit (-1)), .int .i64 (.lit 0), .bool (.lit false)]), (5, [.int .i64 (.var 0), .int .i64 (.var 1), .int .i64 (.var 2),
 .int .i64 (.var 3)])] (.ob (.le (.lit (-9223372036854775808)) (.add (.var 12) (.lit 1))) (.ob (.le (.add (.var 12) (.lit 1)) (.lit 9223372036854775807)) (.leaf 2 [.int .i64
 (.add (.var 12) (.lit 1))] [] [(10, [.int .i64 (.var 0), .int .i64 (.var 1), .int .i64 (.var 2), .int .i64 (.var 3), .var 9, .var 8, .int .i64 (.lit 0),
 .int .i64 (.lit (-1)), .int .i64 (.lit 0), .bool (.lit false)]), (5, [.int .i64 (.var 0), .int .i64 (.var 1), .int .i64 (.var 2), .int .i64 (.var
 3)])])))))))) (.leaf 0 [.tuple [.ptr 10 0, .int .i64 (.lit 0)]] [] [(10, [.int .i64 (.var 0), .int .i64 (.var 1), .int .i64 (.var 2), .int .i64 (.var 3),
 .var 9, .var 8, .int .i64 (.lit 0), .int .i64 (.lit (-1)), .int .i64 (.lit 0), .bool (.lit false)]), (5, [.int .i64 (.var 0), .int .i64 (.var 1), .int
 .i64 (.var 2), .int .i64 (.var 3)])])))))))))))))) := by kernel_rfl

theorem t63p : exFn { P := Try.prog } 63 [.var 0, .fn 64 [.ptr 1 0, .ptr 2 0], .fn 65 [.ptr 3 0], .fn 66 [.ptr 4 0, .ptr 5 0, .ptr 6 0], .int .i64 (.var 7)] [.ptr, .ptr, .ptr, .ptr, .ptr, .ptr, .ptr, .int .i64] [] =
 .ob (.not (.nil 0)) (.start false [] [] [] (.load (.ptr 0 6) [.int .i64] (.start false [] [] [] (.load (.ptr 0 6) [.int .i64] (.ob (.le (.lit (-9223372036854775808)) (.add
 (.var 9) (.lit 1))) (.ob (.le (.add (.var 9) (.lit 1)) (.lit 9223372036854775807)) (.gen (.store 3 (.tmp 22) (.tmp 20)) 0 [(.tmp 22, .ptr 0 6), (.tmp 20, .int
 .i64 (.add (.var 9) (.lit 1)))] [] (.cst (.tuple #[])) [] false [] [] [] [] (.start false [] [] [] (.load (.ptr 0 7) [.int .i64] (.split (.eq (.var 8) (.var 10)) (.gen
 (.store 4 (.tmp 32) (.const (.bool true))) 0 [(.tmp 32, .ptr 0 9), (.const (.bool true), .bool (.lit true))] [] (.cst (.tuple #[])) [] false [] [] [] [] (.call 66
 [.ptr 4 0, .ptr 5 0, .ptr 6 0] [] (.tuple []) [] false [] [] [] [] (.leaf 0 [.int .i64 (.lit 50)] [] []))) (.start false [] [] [] (.load (.ptr 0 4) [.map] (.gen (.lookup 47
 (.tmp 39) (.tmp 40) false) 4 [(.tmp 39, .var 11), (.tmp 40, .int .i64 (.var 8))] [.bool] (.bool (.var 12)) [] false [] [] [] [] (.split (.var 12) (.call 65 [.ptr
 3 0] [] (.tuple []) [] false [] [] [] [] (.leaf 0 [.int .i64 (.var 7)] [] [])) (.call 64 [.ptr 1 0, .ptr 2 0] [] (.tuple []) [] false [] [] [] [] (.leaf 0 [.int .i64 (.lit 0)] []
 [])))))))))))))))) := by kernel_rfl

theorem t63e : exFn { P := Try.prog } 63 [.var 0, .fn 69 [.ptr 1 0, .ptr 2 0], .fn 68 [.ptr 3 0, .ptr 4 0], .fn 68 [.ptr 5 0, .ptr 6 0], .int .i64 (.var 7)] [.ptr, .ptr, .ptr, .ptr, .ptr, .ptr, .ptr, .int .i64] [] =
 .ob (.not (.nil 0)) (.start false [] [] [] (.load (.ptr 0 6) [.int .i64] (.start false [] [] [] (.load (.ptr 0 6) [.int .i64] (.ob (.le (.lit (-9223372036854775808)) (.add
 (.var 9) (.lit 1))) (.ob (.le (.add (.var 9) (.lit 1)) (.lit 9223372036854775807)) (.gen (.store 3 (.tmp 22) (.tmp 20)) 0 [(.tmp 22, .ptr 0 6), (.tmp 20, .int
 .i64 (.add (.var 9) (.lit 1)))] [] (.cst (.tuple #[])) [] false [] [] [] [] (.start false [] [] [] (.load (.ptr 0 7) [.int .i64] (.split (.eq (.var 8) (.var 10)) (.gen
 (.store 4 (.tmp 32) (.const (.bool true))) 0 [(.tmp 32, .ptr 0 9), (.const (.bool true), .bool (.lit true))] [] (.cst (.tuple #[])) [] false [] [] [] [] (.call 68
 [.ptr 5 0, .ptr 6 0] [] (.tuple []) [] false [] [] [] [] (.leaf 0 [.int .i64 (.lit 50)] [] []))) (.start false [] [] [] (.load (.ptr 0 4) [.map] (.gen (.lookup 47 (.tmp 39)
 (.tmp 40) false) 4 [(.tmp 39, .var 11), (.tmp 40, .int .i64 (.var 8))] [.bool] (.bool (.var 12)) [] false [] [] [] [] (.split (.var 12) (.call 68 [.ptr 3 0, .ptr 4 0]
 [] (.tuple []) [] false [] [] [] [] (.leaf 0 [.int .i64 (.var 7)] [] [])) (.call 69 [.ptr 1 0, .ptr 2 0] [] (.tuple []) [] false [] [] [] [] (.leaf 0 [.int .i64 (.lit 0)] []
 [])))))))))))))))) := by kernel_rfl

end Go.Proofs.Ytppbapnibpeolaa
