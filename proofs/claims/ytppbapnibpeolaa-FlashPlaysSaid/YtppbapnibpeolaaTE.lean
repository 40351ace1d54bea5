/- What the functions of the chapter come to, printed by a program of the prover's and checked by the kernel. No conditions. -/
import Derived.Test.YtppbapnibpeolaaSxZI
import Derived.Test.YtppbapnibpeolaaProg
import Derived.KernelRfl
set_option maxRecDepth 100000
set_option linter.unusedVariables false
namespace Go.Proofs.Ytppbapnibpeolaa
open Go.Sx

theorem t9 : exFn { P := Try.prog, loops := fun r => if Nat.beq r 4 then some ⟨1, [(5, .int .i64)], []⟩ else none } 9 [.var 0, .int .i64 (.var 1)] [.slice, .int .i64] [] = .split (.lt (.var 1) (.len 0)) (.leaf
 0 [.bool (.lit false)] [] []) (.loop 1 [.int .i64 (.lit 0)] [.int .i64] [] [] [] [] (.split (.lt (.var 2) (.len 0)) (.ob (.le (.lit 0) (.var 2)) (.ob (.lt (.var 2)
 (.len 0)) (.ob (.not (.nil 0)) (.start false [] [] [] (.load (.elt 0 0 (.var 2) 5 3) [.slice] (.split (.lt (.lit 100) (.len 3)) (.leaf 0 [.bool (.lit false)] [] []) (.ob (.le
 (.lit 0) (.var 2)) (.ob (.lt (.var 2) (.len 0)) (.start false [] [] [] (.load (.elt 0 0 (.var 2) 5 4) [.slice] (.split (.lt (.lit 100) (.len 4)) (.leaf 0 [.bool (.lit false)] [] [])
 (.ob (.le (.lit (-9223372036854775808)) (.add (.var 2) (.lit 1))) (.ob (.le (.add (.var 2) (.lit 1)) (.lit 9223372036854775807)) (.leaf 1 [.int .i64 (.add (.var 2) (.lit 1))] []
 [])))))))))))))) (.leaf 0 [.bool (.lit true)] [] []))) := by kernel_rfl

theorem t4 : exFn { P := Try.prog, ranged := true, ranges := fun t => if Nat.beq t 32 then some ⟨1, [3, 3], []⟩ else none } 4 [.agg [.int .i64 (.var 0), .int .i64 (.var 1), .int .i64 (.var 2), .var 3, .var 4], .bool
 (.var 5)] [.int .i64, .int .i64, .int .i64, .slice, .slice, .bool] [] = .blk (.blk (.blk (.call 9 [.slc 8 0 1 1, .int .i64 (.lit 1)] [.bool] (.bool (.var 9)) [] false [] [] [8, 7, 6] [(8,
 [.int .i64 (.var 0), .int .i64 (.var 1), .int .i64 (.var 2), .var 3, .var 4]), (7, [.bool (.lit false)]), (6, [.int .i64 (.var 0), .int .i64 (.var 1),
 .int .i64 (.var 2), .var 3, .var 4])] (.split (.not (.var 9)) (.call 11 [] [.bool] (.bool (.var 10)) [] false [] [] [8, 7, 6] [(8, [.int .i64 (.var 0), .int .i64
 (.var 1), .int .i64 (.var 2), .var 3, .var 4]), (7, [.bool (.lit false)]), (6, [.int .i64 (.var 0), .int .i64 (.var 1), .int .i64 (.var 2), .var 3, .var 4])]
 (.leafM 0 [.bool (.var 10)] [7] [(8, [.int .i64 (.var 0), .int .i64 (.var 1), .int .i64 (.var 2), .var 3, .var 4]), (7, [.bool (.var 10)]), (6, [.int .i64 (.var
 0), .int .i64 (.var 1), .int .i64 (.var 2), .var 3, .var 4])])) (.split (.var 5) (.blk (.call 13 [.ptr 10 0, .int .i64 (.var 1), .int .i64 (.var 2)] [.slice,
 .slice, .int .i64] (.tuple [.var 11, .var 12, .int .i64 (.var 13)]) [] false [] [] [10, 8, 7, 6] [(10, [.int .i64 (.lit 0), .int .i64 (.lit 0), .int .i64
 (.lit 0), .int .i64 (.lit 0), .cst (.map none), .cst (.slice none 0 0), .int .i64 (.lit 0), .int .i64 (.lit 0), .int .i64 (.lit 0), .bool (.lit false)]),
 (8, [.int .i64 (.var 0), .int .i64 (.var 1), .int .i64 (.var 2), .var 3, .var 4]), (7, [.bool (.lit false)]), (6, [.int .i64 (.var 0), .int .i64 (.var 1),
 .int .i64 (.var 2), .var 3, .var 4])] (.call 17 [.ptr 10 0] [.func] (.var 14) [] false [] [] [10, 8, 7, 6] [(10, [.int .i64 (.lit 0), .int .i64 (.lit 0), .int .i64
 (.lit 0), .int .i64 (.lit 0), .cst (.map none), .cst (.slice none 0 0), .int .i64 (.lit 0), .int .i64 (.lit 0), .int .i64 (.lit 0), .bool (.lit false)]),
 (8, [.int .i64 (.var 0), .int .i64 (.var 1), .int .i64 (.var 2), .var 3, .var 4]), (7, [.bool (.lit false)]), (6, [.int .i64 (.var 0), .int .i64 (.var 1),
 .int .i64 (.var 2), .var 3, .var 4])] (.split (.nil 14) (.leafM 0 [.bool (.lit false)] [7] [(10, [.int .i64 (.lit 0), .int .i64 (.lit 0), .int .i64 (.lit 0),
 .int .i64 (.lit 0), .cst (.map none), .cst (.slice none 0 0), .int .i64 (.lit 0), .int .i64 (.lit 0), .int .i64 (.lit 0), .bool (.lit false)]), (8, [.int
 .i64 (.var 0), .int .i64 (.var 1), .int .i64 (.var 2), .var 3, .var 4]), (7, [.bool (.lit false)]), (6, [.int .i64 (.var 0), .int .i64 (.var 1), .int
 .i64 (.var 2), .var 3, .var 4])]) (.range 1 (.var 14) [.int .i64, .int .i64] [3, 3] [] [] [] [10, 8, 7, 6] [(10, [.int .i64 (.lit 0), .int .i64 (.lit 0),
 .int .i64 (.lit 0), .int .i64 (.lit 0), .cst (.map none), .cst (.slice none 0 0), .int .i64 (.lit 0), .int .i64 (.lit 0), .int .i64 (.lit 0), .bool
 (.lit false)]), (8, [.int .i64 (.var 0), .int .i64 (.var 1), .int .i64 (.var 2), .var 3, .var 4]), (7, [.bool (.lit false)]), (6, [.int .i64 (.var 0), .int
 .i64 (.var 1), .int .i64 (.var 2), .var 3, .var 4])] [(10, [.int .i64 (.lit 0), .int .i64 (.lit 0), .int .i64 (.lit 0), .int .i64 (.lit 0), .cst
 (.map none), .cst (.slice none 0 0), .int .i64 (.lit 0), .int .i64 (.lit 0), .int .i64 (.lit 0), .bool (.lit false)]), (8, [.int .i64 (.var 0), .int
 .i64 (.var 1), .int .i64 (.var 2), .var 3, .var 4]), (7, [.bool (.lit false)]), (6, [.int .i64 (.var 0), .int .i64 (.var 1), .int .i64 (.var 2), .var 3,
 .var 4])] (.resume [7] [10, 8, 7, 6] [(10, [.int .i64 (.lit 0), .int .i64 (.lit 0), .int .i64 (.lit 0), .int .i64 (.lit 0), .cst (.map none), .cst (.slice
 none 0 0), .int .i64 (.lit 0), .int .i64 (.lit 0), .int .i64 (.lit 0), .bool (.lit false)]), (8, [.int .i64 (.var 0), .int .i64 (.var 1), .int .i64
 (.var 2), .var 3, .var 4]), (7, [.bool (.lit false)]), (6, [.int .i64 (.var 0), .int .i64 (.var 1), .int .i64 (.var 2), .var 3, .var 4])] (.leafM 0 [.bool (.lit
 false)] [] [(10, [.int .i64 (.lit 0), .int .i64 (.lit 0), .int .i64 (.lit 0), .int .i64 (.lit 0), .cst (.map none), .cst (.slice none 0 0), .int .i64
 (.lit 0), .int .i64 (.lit 0), .int .i64 (.lit 0), .bool (.lit false)]), (8, [.int .i64 (.var 0), .int .i64 (.var 1), .int .i64 (.var 2), .var 3, .var 4]),
 (7, [.bool (.lit false)]), (6, [.int .i64 (.var 0), .int .i64 (.var 1), .int .i64 (.var 2), .var 3, .var 4])])) (.start true [] [10, 8, 7, 6] [(10, [.int .i64 (.lit
 0), .int .i64 (.lit 0), .int .i64 (.lit 0), .int .i64 (.lit 0), .cst (.map none), .cst (.slice none 0 0), .int .i64 (.lit 0), .int .i64 (.lit 0),
 .int .i64 (.lit 0), .bool (.lit false)]), (8, [.int .i64 (.var 0), .int .i64 (.var 1), .int .i64 (.var 2), .var 3, .var 4]), (7, [.bool (.lit false)]), (6, [.int
 .i64 (.var 0), .int .i64 (.var 1), .int .i64 (.var 2), .var 3, .var 4])] (.call 18 [.int .i64 (.var 13)] [.int .i64] (.int .i64 (.var 15)) [] true []
 [] [10, 8, 7, 6] [(10, [.int .i64 (.lit 0), .int .i64 (.lit 0), .int .i64 (.lit 0), .int .i64 (.lit 0), .cst (.map none), .cst (.slice none 0 0), .int
 .i64 (.lit 0), .int .i64 (.lit 0), .int .i64 (.lit 0), .bool (.lit false)]), (8, [.int .i64 (.var 0), .int .i64 (.var 1), .int .i64 (.var 2), .var 3,
 .var 4]), (7, [.bool (.lit false)]), (6, [.int .i64 (.var 0), .int .i64 (.var 1), .int .i64 (.var 2), .var 3, .var 4])] (.split (.eq (.var 15) (.lit 1)) (.ob (.le
 (.lit (-9223372036854775808)) (.add (.len 11) (.len 12))) (.ob (.le (.add (.len 11) (.len 12)) (.lit 9223372036854775807)) (.split (.eq (.add (.len 11) (.len 12)) (.lit 0)) (.call 19
 [.ptr 10 0, .int .i64 (.var 1), .int .i64 (.var 2), .var 3, .var 4] [.int .i64] (.int .i64 (.var 16)) [] true [] [] [10, 8, 7, 6] [(10, [.int .i64 (.lit 0),
 .int .i64 (.lit 0), .int .i64 (.lit 0), .int .i64 (.lit 0), .cst (.map none), .cst (.slice none 0 0), .int .i64 (.lit 0), .int .i64 (.lit 0), .int
 .i64 (.lit 0), .bool (.lit false)]), (8, [.int .i64 (.var 0), .int .i64 (.var 1), .int .i64 (.var 2), .var 3, .var 4]), (7, [.bool (.lit false)]), (6, [.int
 .i64 (.var 0), .int .i64 (.var 1), .int .i64 (.var 2), .var 3, .var 4])] (.call 18 [.int .i64 (.var 16)] [.int .i64] (.int .i64 (.var 17)) [] true []
 [] [10, 8, 7, 6] [(10, [.int .i64 (.lit 0), .int .i64 (.lit 0), .int .i64 (.lit 0), .int .i64 (.lit 0), .cst (.map none), .cst (.slice none 0 0), .int
 .i64 (.lit 0), .int .i64 (.lit 0), .int .i64 (.lit 0), .bool (.lit false)]), (8, [.int .i64 (.var 0), .int .i64 (.var 1), .int .i64 (.var 2), .var 3,
 .var 4]), (7, [.bool (.lit false)]), (6, [.int .i64 (.var 0), .int .i64 (.var 1), .int .i64 (.var 2), .var 3, .var 4])] (.split (.eq (.var 17) (.lit 1)) (.call 20
 [.ptr 10 0, .int .i64 (.var 1)] [.int .i64] (.int .i64 (.var 18)) [] true [] [] [10, 8, 7, 6] [(10, [.int .i64 (.lit 0), .int .i64 (.lit 0), .int .i64
 (.lit 0), .int .i64 (.lit 0), .cst (.map none), .cst (.slice none 0 0), .int .i64 (.lit 0), .int .i64 (.lit 0), .int .i64 (.lit 0), .bool (.lit false)]),
 (8, [.int .i64 (.var 0), .int .i64 (.var 1), .int .i64 (.var 2), .var 3, .var 4]), (7, [.bool (.lit false)]), (6, [.int .i64 (.var 0), .int .i64 (.var 1),
 .int .i64 (.var 2), .var 3, .var 4])] (.call 18 [.int .i64 (.var 18)] [.int .i64] (.int .i64 (.var 19)) [] true [] [] [10, 8, 7, 6] [(10, [.int .i64 (.lit 0),
 .int .i64 (.lit 0), .int .i64 (.lit 0), .int .i64 (.lit 0), .cst (.map none), .cst (.slice none 0 0), .int .i64 (.lit 0), .int .i64 (.lit 0), .int
 .i64 (.lit 0), .bool (.lit false)]), (8, [.int .i64 (.var 0), .int .i64 (.var 1), .int .i64 (.var 2), .var 3, .var 4]), (7, [.bool (.lit false)]), (6, [.int
 .i64 (.var 0), .int .i64 (.var 1), .int .i64 (.var 2), .var 3, .var 4])] (.split (.eq (.var 19) (.lit 1)) (.call 21 [.ptr 10 0, .int .i64 (.var 1), .int
 .i64 (.var 2)] [.int .i64] (.int .i64 (.var 20)) [] true [] [] [10, 8, 7, 6] [(10, [.int .i64 (.lit 0), .int .i64 (.lit 0), .int .i64 (.lit 0), .int
 .i64 (.lit 0), .cst (.map none), .cst (.slice none 0 0), .int .i64 (.lit 0), .int .i64 (.lit 0), .int .i64 (.lit 0), .bool (.lit false)]), (8, [.int
 .i64 (.var 0), .int .i64 (.var 1), .int .i64 (.var 2), .var 3, .var 4]), (7, [.bool (.lit false)]), (6, [.int .i64 (.var 0), .int .i64 (.var 1), .int
 .i64 (.var 2), .var 3, .var 4])] (.call 18 [.int .i64 (.var 20)] [.int .i64] (.int .i64 (.var 21)) [] true [] [] [10, 8, 7, 6] [(10, [.int .i64 (.lit 0), .int
 .i64 (.lit 0), .int .i64 (.lit 0), .int .i64 (.lit 0), .cst (.map none), .cst (.slice none 0 0), .int .i64 (.lit 0), .int .i64 (.lit 0), .int
 .i64 (.lit 0), .bool (.lit false)]), (8, [.int .i64 (.var 0), .int .i64 (.var 1), .int .i64 (.var 2), .var 3, .var 4]), (7, [.bool (.lit false)]), (6, [.int
 .i64 (.var 0), .int .i64 (.var 1), .int .i64 (.var 2), .var 3, .var 4])] (.split (.eq (.var 21) (.lit 1)) (.call 22 [.ptr 10 0] [.int .i64] (.int .i64
 (.var 22)) [] true [] [] [10, 8, 7, 6] [(10, [.int .i64 (.lit 0), .int .i64 (.lit 0), .int .i64 (.lit 0), .int .i64 (.lit 0), .cst (.map none), .cst (.slice
 none 0 0), .int .i64 (.lit 0), .int .i64 (.lit 0), .int .i64 (.lit 0), .bool (.lit false)]), (8, [.int .i64 (.var 0), .int .i64 (.var 1), .int .i64
 (.var 2), .var 3, .var 4]), (7, [.bool (.lit false)]), (6, [.int .i64 (.var 0), .int .i64 (.var 1), .int .i64 (.var 2), .var 3, .var 4])] (.call 18 [.int .i64
 (.var 22)] [.int .i64] (.int .i64 (.var 23)) [] true [] [] [10, 8, 7, 6] [(10, [.int .i64 (.lit 0), .int .i64 (.lit 0), .int .i64 (.lit 0), .int .i64
 (.lit 0), .cst (.map none), .cst (.slice none 0 0), .int .i64 (.lit 0), .int .i64 (.lit 0), .int .i64 (.lit 0), .bool (.lit false)]), (8, [.int .i64 (.var
 0), .int .i64 (.var 1), .int .i64 (.var 2), .var 3, .var 4]), (7, [.bool (.lit false)]), (6, [.int .i64 (.var 0), .int .i64 (.var 1), .int .i64 (.var 2),
 .var 3, .var 4])] (.split (.eq (.var 23) (.lit 1)) (.call 23 [.ptr 10 0] [.bool] (.bool (.var 24)) [] true [] [] [10, 8, 7, 6] [(10, [.int .i64 (.lit 0), .int .i64 (.lit 0),
 .int .i64 (.lit 0), .int .i64 (.lit 0), .cst (.map none), .cst (.slice none 0 0), .int .i64 (.lit 0), .int .i64 (.lit 0), .int .i64 (.lit 0), .bool
 (.lit false)]), (8, [.int .i64 (.var 0), .int .i64 (.var 1), .int .i64 (.var 2), .var 3, .var 4]), (7, [.bool (.lit false)]), (6, [.int .i64 (.var 0), .int
 .i64 (.var 1), .int .i64 (.var 2), .var 3, .var 4])] (.split (.not (.var 24)) (.call 24 [.ptr 10 0] [.int .i64, .int .i64, .int .i64, .int
 .i64] (.agg [.int .i64 (.var 25), .int .i64 (.var 26), .int .i64 (.var 27), .int .i64 (.var 28)]) [] true [] [] [10, 8, 7, 6] [(10, [.int .i64 (.lit 0),
 .int .i64 (.lit 0), .int .i64 (.lit 0), .int .i64 (.lit 0), .cst (.map none), .cst (.slice none 0 0), .int .i64 (.lit 0), .int .i64 (.lit 0), .int
 .i64 (.lit 0), .bool (.lit false)]), (8, [.int .i64 (.var 0), .int .i64 (.var 1), .int .i64 (.var 2), .var 3, .var 4]), (7, [.bool (.lit false)]), (6, [.int
 .i64 (.var 0), .int .i64 (.var 1), .int .i64 (.var 2), .var 3, .var 4])] (.pur (.binOp .eql 23 (.tmp 91) (.tmp 92) 23) 4 [(.tmp 91, .agg [.int
 .i64 (.var 25), .int .i64 (.var 26), .int .i64 (.var 27), .int .i64 (.var 28)]), (.tmp 92, .agg [.int .i64 (.lit 0), .int .i64 (.lit 0), .int
 .i64 (.lit 0), .int .i64 (.lit 0)])] [.bool] (.bool (.var 29)) (.split (.var 29) (.call 25 [.ptr 10 0] [.int .i64] (.int .i64 (.var 30)) [] true [] [] [10, 8, 7,
 6] [(10, [.int .i64 (.lit 0), .int .i64 (.lit 0), .int .i64 (.lit 0), .int .i64 (.lit 0), .cst (.map none), .cst (.slice none 0 0), .int .i64 (.lit
 0), .int .i64 (.lit 0), .int .i64 (.lit 0), .bool (.lit false)]), (8, [.int .i64 (.var 0), .int .i64 (.var 1), .int .i64 (.var 2), .var 3, .var 4]), (7,
 [.bool (.lit false)]), (6, [.int .i64 (.var 0), .int .i64 (.var 1), .int .i64 (.var 2), .var 3, .var 4])] (.call 26 [.ptr 10 0, .int .i64 (.var 1)] [.int
 .i64] (.int .i64 (.var 31)) [] true [] [] [10, 8, 7, 6] [(10, [.int .i64 (.lit 0), .int .i64 (.lit 0), .int .i64 (.lit 0), .int .i64 (.lit 0), .cst
 (.map none), .cst (.slice none 0 0), .int .i64 (.lit 0), .int .i64 (.lit 0), .int .i64 (.lit 0), .bool (.lit false)]), (8, [.int .i64 (.var 0), .int
 .i64 (.var 1), .int .i64 (.var 2), .var 3, .var 4]), (7, [.bool (.lit false)]), (6, [.int .i64 (.var 0), .int .i64 (.var 1), .int .i64 (.var 2), .var 3,
 .var 4])] (.ob (.le (.lit (-9223372036854775808)) (.add (.var 30) (.var 31))) (.ob (.le (.add (.var 30) (.var 31)) (.lit 9223372036854775807)) (.call 27 [.ptr 10 0, .int .i64
 (.var 1)] [.int .i64] (.int .i64 (.var 32)) [] true [] [] [10, 8, 7, 6] [(10, [.int .i64 (.lit 0), .int .i64 (.lit 0), .int .i64 (.lit 0), .int .i64
 (.lit 0), .cst (.map none), .cst (.slice none 0 0), .int .i64 (.lit 0), .int .i64 (.lit 0), .int .i64 (.lit 0), .bool (.lit false)]), (8, [.int .i64 (.var
 0), .int .i64 (.var 1), .int .i64 (.var 2), .var 3, .var 4]), (7, [.bool (.lit false)]), (6, [.int .i64 (.var 0), .int .i64 (.var 1), .int .i64 (.var 2),
 .var 3, .var 4])] (.ob (.le (.lit (-9223372036854775808)) (.add (.add (.var 30) (.var 31)) (.var 32))) (.ob (.le (.add (.add (.var 30) (.var 31)) (.var 32)) (.lit
 9223372036854775807)) (.split (.eq (.add (.add (.var 30) (.var 31)) (.var 32)) (.lit 0)) (.call 28 [.ptr 10 0, .int .i64 (.var 1), .int .i64 (.var 2)] [.int .i64]
 (.int .i64 (.var 33)) [] true [] [] [10, 8, 7, 6] [(10, [.int .i64 (.lit 0), .int .i64 (.lit 0), .int .i64 (.lit 0), .int .i64 (.lit 0), .cst (.map none),
 .cst (.slice none 0 0), .int .i64 (.lit 0), .int .i64 (.lit 0), .int .i64 (.lit 0), .bool (.lit false)]), (8, [.int .i64 (.var 0), .int .i64 (.var 1),
 .int .i64 (.var 2), .var 3, .var 4]), (7, [.bool (.lit false)]), (6, [.int .i64 (.var 0), .int .i64 (.var 1), .int .i64 (.var 2), .var 3, .var 4])] (.split
 (.eq (.var 33) (.lit 0)) (.call 14 [.ptr 10 0] [.ptr] (.var 34) [] true [] [] [10, 8, 7, 6] [(10, [.int .i64 (.lit 0), .int .i64 (.lit 0), .int .i64 (.lit 0), .int
 .i64 (.lit 0), .cst (.map none), .cst (.slice none 0 0), .int .i64 (.lit 0), .int .i64 (.lit 0), .int .i64 (.lit 0), .bool (.lit false)]), (8, [.int
 .i64 (.var 0), .int .i64 (.var 1), .int .i64 (.var 2), .var 3, .var 4]), (7, [.bool (.lit false)]), (6, [.int .i64 (.var 0), .int .i64 (.var 1), .int
 .i64 (.var 2), .var 3, .var 4])] (.split (.nil 34) (.call 11 [] [.bool] (.bool (.var 35)) [] true [] [] [10, 8, 7, 6] [(10, [.int .i64 (.lit 0), .int .i64 (.lit 0),
 .int .i64 (.lit 0), .int .i64 (.lit 0), .cst (.map none), .cst (.slice none 0 0), .int .i64 (.lit 0), .int .i64 (.lit 0), .int .i64 (.lit 0), .bool
 (.lit false)]), (8, [.int .i64 (.var 0), .int .i64 (.var 1), .int .i64 (.var 2), .var 3, .var 4]), (7, [.bool (.lit false)]), (6, [.int .i64 (.var 0), .int
 .i64 (.var 1), .int .i64 (.var 2), .var 3, .var 4])] (.leafM 0 [.bool (.var 35)] [7] [(10, [.int .i64 (.lit 0), .int .i64 (.lit 0), .int .i64 (.lit 0),
 .int .i64 (.lit 0), .cst (.map none), .cst (.slice none 0 0), .int .i64 (.lit 0), .int .i64 (.lit 0), .int .i64 (.lit 0), .bool (.lit false)]), (8, [.int
 .i64 (.var 0), .int .i64 (.var 1), .int .i64 (.var 2), .var 3, .var 4]), (7, [.bool (.var 35)]), (6, [.int .i64 (.var 0), .int .i64 (.var 1), .int
 .i64 (.var 2), .var 3, .var 4])])) (.leafM 0 [.bool (.lit false)] [7] [(10, [.int .i64 (.lit 0), .int .i64 (.lit 0), .int .i64 (.lit 0), .int .i64 (.lit 0),
 .cst (.map none), .cst (.slice none 0 0), .int .i64 (.lit 0), .int .i64 (.lit 0), .int .i64 (.lit 0), .bool (.lit false)]), (8, [.int .i64 (.var 0), .int
 .i64 (.var 1), .int .i64 (.var 2), .var 3, .var 4]), (7, [.bool (.lit false)]), (6, [.int .i64 (.var 0), .int .i64 (.var 1), .int .i64 (.var 2), .var 3,
 .var 4])]))) (.leafM 0 [.bool (.lit false)] [7] [(10, [.int .i64 (.lit 0), .int .i64 (.lit 0), .int .i64 (.lit 0), .int .i64 (.lit 0), .cst (.map none), .cst
 (.slice none 0 0), .int .i64 (.lit 0), .int .i64 (.lit 0), .int .i64 (.lit 0), .bool (.lit false)]), (8, [.int .i64 (.var 0), .int .i64 (.var 1), .int
 .i64 (.var 2), .var 3, .var 4]), (7, [.bool (.lit false)]), (6, [.int .i64 (.var 0), .int .i64 (.var 1), .int .i64 (.var 2), .var 3, .var 4])]))) (.leafM 0
 [.bool (.lit false)] [7] [(10, [.int .i64 (.lit 0), .int .i64 (.lit 0), .int .i64 (.lit 0), .int .i64 (.lit 0), .cst (.map none), .cst (.slice none 0 0),
 .int .i64 (.lit 0), .int .i64 (.lit 0), .int .i64 (.lit 0), .bool (.lit false)]), (8, [.int .i64 (.var 0), .int .i64 (.var 1), .int .i64 (.var 2),
 .var 3, .var 4]), (7, [.bool (.lit false)]), (6, [.int .i64 (.var 0), .int .i64 (.var 1), .int .i64 (.var 2), .var 3, .var 4])]))))))))) (.leafM 0 [.bool (.lit false)]
 [7] [(10, [.int .i64 (.lit 0), .int .i64 (.lit 0), .int .i64 (.lit 0), .int .i64 (.lit 0), .cst (.map none), .cst (.slice none 0 0), .int .i64 (.lit
 0), .int .i64 (.lit 0), .int .i64 (.lit 0), .bool (.lit false)]), (8, [.int .i64 (.var 0), .int .i64 (.var 1), .int .i64 (.var 2), .var 3, .var 4]), (7,
 [.bool (.lit false)]), (6, [.int .i64 (.var 0), .int .i64 (.var 1), .int .i64 (.var 2), .var 3, .var 4])])))) (.leafM 0 [.bool (.lit false)] [7] [(10, [.int .i64
 (.lit 0), .int .i64 (.lit 0), .int .i64 (.lit 0), .int .i64 (.lit 0), .cst (.map none), .cst (.slice none 0 0), .int .i64 (.lit 0), .int .i64 (.lit
 0), .int .i64 (.lit 0), .bool (.lit false)]), (8, [.int .i64 (.var 0), .int .i64 (.var 1), .int .i64 (.var 2), .var 3, .var 4]), (7, [.bool (.lit false)]), (6,
 [.int .i64 (.var 0), .int .i64 (.var 1), .int .i64 (.var 2), .var 3, .var 4])]))) (.leafM 0 [.bool (.lit false)] [7] [(10, [.int .i64 (.lit 0), .int .i64
 (.lit 0), .int .i64 (.lit 0), .int .i64 (.lit 0), .cst (.map none), .cst (.slice none 0 0), .int .i64 (.lit 0), .int .i64 (.lit 0), .int .i64 (.lit
 0), .bool (.lit false)]), (8, [.int .i64 (.var 0), .int .i64 (.var 1), .int .i64 (.var 2), .var 3, .var 4]), (7, [.bool (.lit false)]), (6, [.int .i64 (.var 0),
 .int .i64 (.var 1), .int .i64 (.var 2), .var 3, .var 4])])))) (.leafM 0 [.bool (.lit false)] [7] [(10, [.int .i64 (.lit 0), .int .i64 (.lit 0), .int .i64
 (.lit 0), .int .i64 (.lit 0), .cst (.map none), .cst (.slice none 0 0), .int .i64 (.lit 0), .int .i64 (.lit 0), .int .i64 (.lit 0), .bool (.lit false)]),
 (8, [.int .i64 (.var 0), .int .i64 (.var 1), .int .i64 (.var 2), .var 3, .var 4]), (7, [.bool (.lit false)]), (6, [.int .i64 (.var 0), .int .i64 (.var 1),
 .int .i64 (.var 2), .var 3, .var 4])])))) (.leafM 0 [.bool (.lit false)] [7] [(10, [.int .i64 (.lit 0), .int .i64 (.lit 0), .int .i64 (.lit 0), .int .i64
 (.lit 0), .cst (.map none), .cst (.slice none 0 0), .int .i64 (.lit 0), .int .i64 (.lit 0), .int .i64 (.lit 0), .bool (.lit false)]), (8, [.int .i64 (.var
 0), .int .i64 (.var 1), .int .i64 (.var 2), .var 3, .var 4]), (7, [.bool (.lit false)]), (6, [.int .i64 (.var 0), .int .i64 (.var 1), .int .i64 (.var 2),
 .var 3, .var 4])])))) (.leafM 0 [.bool (.lit false)] [7] [(10, [.int .i64 (.lit 0), .int .i64 (.lit 0), .int .i64 (.lit 0), .int .i64 (.lit 0), .cst (.map
 none), .cst (.slice none 0 0), .int .i64 (.lit 0), .int .i64 (.lit 0), .int .i64 (.lit 0), .bool (.lit false)]), (8, [.int .i64 (.var 0), .int .i64 (.var
 1), .int .i64 (.var 2), .var 3, .var 4]), (7, [.bool (.lit false)]), (6, [.int .i64 (.var 0), .int .i64 (.var 1), .int .i64 (.var 2), .var 3, .var 4])]))))
 (.leafM 0 [.bool (.lit false)] [7] [(10, [.int .i64 (.lit 0), .int .i64 (.lit 0), .int .i64 (.lit 0), .int .i64 (.lit 0), .cst (.map none), .cst (.slice
 none 0 0), .int .i64 (.lit 0), .int .i64 (.lit 0), .int .i64 (.lit 0), .bool (.lit false)]), (8, [.int .i64 (.var 0), .int .i64 (.var 1), .int .i64
 (.var 2), .var 3, .var 4]), (7, [.bool (.lit false)]), (6, [.int .i64 (.var 0), .int .i64 (.var 1), .int .i64 (.var 2), .var 3, .var 4])])))) (.leafM 0 [.bool (.lit
 false)] [7] [(10, [.int .i64 (.lit 0), .int .i64 (.lit 0), .int .i64 (.lit 0), .int .i64 (.lit 0), .cst (.map none), .cst (.slice none 0 0), .int .i64
 (.lit 0), .int .i64 (.lit 0), .int .i64 (.lit 0), .bool (.lit false)]), (8, [.int .i64 (.var 0), .int .i64 (.var 1), .int .i64 (.var 2), .var 3, .var 4]),
 (7, [.bool (.lit false)]), (6, [.int .i64 (.var 0), .int .i64 (.var 1), .int .i64 (.var 2), .var 3, .var 4])]))))))))) (.call 13 [.cst (.pointer none), .int
 .i64 (.var 1), .int .i64 (.var 2)] [.slice, .slice, .int .i64] (.tuple [.var 10, .var 11, .int .i64 (.var 12)]) [] false [] [] [8, 7, 6] [(8, [.int .i64
 (.var 0), .int .i64 (.var 1), .int .i64 (.var 2), .var 3, .var 4]), (7, [.bool (.lit false)]), (6, [.int .i64 (.var 0), .int .i64 (.var 1), .int .i64
 (.var 2), .var 3, .var 4])] (.call 17 [.cst (.pointer none)] [.func] (.var 13) [] false [] [] [8, 7, 6] [(8, [.int .i64 (.var 0), .int .i64 (.var 1), .int .i64 (.var
 2), .var 3, .var 4]), (7, [.bool (.lit false)]), (6, [.int .i64 (.var 0), .int .i64 (.var 1), .int .i64 (.var 2), .var 3, .var 4])] (.split (.nil 13) (.leafM 0 [.bool
 (.lit false)] [7] [(8, [.int .i64 (.var 0), .int .i64 (.var 1), .int .i64 (.var 2), .var 3, .var 4]), (7, [.bool (.lit false)]), (6, [.int .i64 (.var 0), .int
 .i64 (.var 1), .int .i64 (.var 2), .var 3, .var 4])]) (.range 1 (.var 13) [.int .i64, .int .i64] [3, 3] [] [] [] [8, 7, 6] [(8, [.int .i64 (.var 0), .int
 .i64 (.var 1), .int .i64 (.var 2), .var 3, .var 4]), (7, [.bool (.lit false)]), (6, [.int .i64 (.var 0), .int .i64 (.var 1), .int .i64 (.var 2), .var 3,
 .var 4])] [(8, [.int .i64 (.var 0), .int .i64 (.var 1), .int .i64 (.var 2), .var 3, .var 4]), (7, [.bool (.lit false)]), (6, [.int .i64 (.var 0), .int .i64
 (.var 1), .int .i64 (.var 2), .var 3, .var 4])] (.resume [7] [8, 7, 6] [(8, [.int .i64 (.var 0), .int .i64 (.var 1), .int .i64 (.var 2), .var 3, .var 4]), (7,
 [.bool (.lit false)]), (6, [.int .i64 (.var 0), .int .i64 (.var 1), .int .i64 (.var 2), .var 3, .var 4])] (.leafM 0 [.bool (.lit false)] [] [(8, [.int .i64 (.var
 0), .int .i64 (.var 1), .int .i64 (.var 2), .var 3, .var 4]), (7, [.bool (.lit false)]), (6, [.int .i64 (.var 0), .int .i64 (.var 1), .int .i64 (.var 2),
 .var 3, .var 4])])) (.start true [] [8, 7, 6] [(8, [.int .i64 (.var 0), .int .i64 (.var 1), .int .i64 (.var 2), .var 3, .var 4]), (7, [.bool (.lit false)]), (6, [.int
 .i64 (.var 0), .int .i64 (.var 1), .int .i64 (.var 2), .var 3, .var 4])] (.call 18 [.int .i64 (.var 12)] [.int .i64] (.int .i64 (.var 14)) [] true []
 [] [8, 7, 6] [(8, [.int .i64 (.var 0), .int .i64 (.var 1), .int .i64 (.var 2), .var 3, .var 4]), (7, [.bool (.lit false)]), (6, [.int .i64 (.var 0), .int .i64
 (.var 1), .int .i64 (.var 2), .var 3, .var 4])] (.split (.eq (.var 14) (.lit 1)) (.ob (.le (.lit (-9223372036854775808)) (.add (.len 10) (.len 11))) (.ob (.le (.add (.len 10)
 (.len 11)) (.lit 9223372036854775807)) (.split (.eq (.add (.len 10) (.len 11)) (.lit 0)) (.call 19 [.cst (.pointer none), .int .i64 (.var 1), .int .i64 (.var 2), .var 3,
 .var 4] [.int .i64] (.int .i64 (.var 15)) [] true [] [] [8, 7, 6] [(8, [.int .i64 (.var 0), .int .i64 (.var 1), .int .i64 (.var 2), .var 3, .var 4]), (7,
 [.bool (.lit false)]), (6, [.int .i64 (.var 0), .int .i64 (.var 1), .int .i64 (.var 2), .var 3, .var 4])] (.call 18 [.int .i64 (.var 15)] [.int .i64]
 (.int .i64 (.var 16)) [] true [] [] [8, 7, 6] [(8, [.int .i64 (.var 0), .int .i64 (.var 1), .int .i64 (.var 2), .var 3, .var 4]), (7, [.bool (.lit false)]), (6,
 [.int .i64 (.var 0), .int .i64 (.var 1), .int .i64 (.var 2), .var 3, .var 4])] (.split (.eq (.var 16) (.lit 1)) (.call 20 [.cst (.pointer none), .int .i64
 (.var 1)] [.int .i64] (.int .i64 (.var 17)) [] true [] [] [8, 7, 6] [(8, [.int .i64 (.var 0), .int .i64 (.var 1), .int .i64 (.var 2), .var 3, .var 4]), (7,
 [.bool (.lit false)]), (6, [.int .i64 (.var 0), .int .i64 (.var 1), .int .i64 (.var 2), .var 3, .var 4])] (.call 18 [.int .i64 (.var 17)] [.int .i64]
 (.int .i64 (.var 18)) [] true [] [] [8, 7, 6] [(8, [.int .i64 (.var 0), .int .i64 (.var 1), .int .i64 (.var 2), .var 3, .var 4]), (7, [.bool (.lit false)]), (6,
 [.int .i64 (.var 0), .int .i64 (.var 1), .int .i64 (.var 2), .var 3, .var 4])] (.split (.eq (.var 18) (.lit 1)) (.call 21 [.cst (.pointer none), .int .i64
 (.var 1), .int .i64 (.var 2)] [.int .i64] (.int .i64 (.var 19)) [] true [] [] [8, 7, 6] [(8, [.int .i64 (.var 0), .int .i64 (.var 1), .int .i64 (.var
 2), .var 3, .var 4]), (7, [.bool (.lit false)]), (6, [.int .i64 (.var 0), .int .i64 (.var 1), .int .i64 (.var 2), .var 3, .var 4])] (.call 18 [.int .i64 (.var
 19)] [.int .i64] (.int .i64 (.var 20)) [] true [] [] [8, 7, 6] [(8, [.int .i64 (.var 0), .int .i64 (.var 1), .int .i64 (.var 2), .var 3, .var 4]), (7, [.bool
 (.lit false)]), (6, [.int .i64 (.var 0), .int .i64 (.var 1), .int .i64 (.var 2), .var 3, .var 4])] (.split (.eq (.var 20) (.lit 1)) (.call 22 [.cst (.pointer
 none)] [.int .i64] (.int .i64 (.var 21)) [] true [] [] [8, 7, 6] [(8, [.int .i64 (.var 0), .int .i64 (.var 1), .int .i64 (.var 2), .var 3, .var 4]), (7,
 [.bool (.lit false)]), (6, [.int .i64 (.var 0), .int .i64 (.var 1), .int .i64 (.var 2), .var 3, .var 4])] (.call 18 [.int .i64 (.var 21)] [.int .i64]
 (.int .i64 (.var 22)) [] true [] [] [8, 7, 6] [(8, [.int .i64 (.var 0), .int .i64 (.var 1), .int .i64 (.var 2), .var 3, .var 4]), (7, [.bool (.lit false)]), (6,
 [.int .i64 (.var 0), .int .i64 (.var 1), .int .i64 (.var 2), .var 3, .var 4])] (.split (.eq (.var 22) (.lit 1)) (.call 23 [.cst (.pointer none)] [.bool] (.bool
 (.var 23)) [] true [] [] [8, 7, 6] [(8, [.int .i64 (.var 0), .int .i64 (.var 1), .int .i64 (.var 2), .var 3, .var 4]), (7, [.bool (.lit false)]), (6, [.int .i64
 (.var 0), .int .i64 (.var 1), .int .i64 (.var 2), .var 3, .var 4])] (.split (.not (.var 23)) (.call 24 [.cst (.pointer none)] [.int .i64, .int .i64,
 .int .i64, .int .i64] (.agg [.int .i64 (.var 24), .int .i64 (.var 25), .int .i64 (.var 26), .int .i64 (.var 27)]) [] true [] [] [8, 7, 6] [(8, [.int
 .i64 (.var 0), .int .i64 (.var 1), .int .i64 (.var 2), .var 3, .var 4]), (7, [.bool (.lit false)]), (6, [.int .i64 (.var 0), .int .i64 (.var 1), .int
 .i64 (.var 2), .var 3, .var 4])] (.pur (.binOp .eql 23 (.tmp 91) (.tmp 92) 23) 4 [(.tmp 91, .agg [.int .i64 (.var 24), .int .i64 (.var 25), .int
 .i64 (.var 26), .int .i64 (.var 27)]), (.tmp 92, .agg [.int .i64 (.lit 0), .int .i64 (.lit 0), .int .i64 (.lit 0), .int .i64 (.lit 0)])]
 [.bool] (.bool (.var 28)) (.split (.var 28) (.call 25 [.cst (.pointer none)] [.int .i64] (.int .i64 (.var 29)) [] true [] [] [8, 7, 6] [(8, [.int .i64 (.var 0),
 .int .i64 (.var 1), .int .i64 (.var 2), .var 3, .var 4]), (7, [.bool (.lit false)]), (6, [.int .i64 (.var 0), .int .i64 (.var 1), .int .i64 (.var 2), .var
 3, .var 4])] (.call 26 [.cst (.pointer none), .int .i64 (.var 1)] [.int .i64] (.int .i64 (.var 30)) [] true [] [] [8, 7, 6] [(8, [.int .i64 (.var 0), .int
 .i64 (.var 1), .int .i64 (.var 2), .var 3, .var 4]), (7, [.bool (.lit false)]), (6, [.int .i64 (.var 0), .int .i64 (.var 1), .int .i64 (.var 2), .var 3,
 .var 4])] (.ob (.le (.lit (-9223372036854775808)) (.add (.var 29) (.var 30))) (.ob (.le (.add (.var 29) (.var 30)) (.lit 9223372036854775807)) (.call 27 [.cst (.pointer none), .int
 .i64 (.var 1)] [.int .i64] (.int .i64 (.var 31)) [] true [] [] [8, 7, 6] [(8, [.int .i64 (.var 0), .int .i64 (.var 1), .int .i64 (.var 2), .var 3, .var
 4]), (7, [.bool (.lit false)]), (6, [.int .i64 (.var 0), .int .i64 (.var 1), .int .i64 (.var 2), .var 3, .var 4])] (.ob (.le (.lit (-9223372036854775808)) (.add (.add
 (.var 29) (.var 30)) (.var 31))) (.ob (.le (.add (.add (.var 29) (.var 30)) (.var 31)) (.lit 9223372036854775807)) (.split (.eq (.add (.add (.var 29) (.var 30)) (.var 31)) (.lit 0))
 (.call 28 [.cst (.pointer none), .int .i64 (.var 1), .int .i64 (.var 2)] [.int .i64] (.int .i64 (.var 32)) [] true [] [] [8, 7, 6] [(8, [.int .i64 (.var
 0), .int .i64 (.var 1), .int .i64 (.var 2), .var 3, .var 4]), (7, [.bool (.lit false)]), (6, [.int .i64 (.var 0), .int .i64 (.var 1), .int .i64 (.var 2),
 .var 3, .var 4])] (.split (.eq (.var 32) (.lit 0)) (.call 14 [.cst (.pointer none)] [.ptr] (.var 33) [] true [] [] [8, 7, 6] [(8, [.int .i64 (.var 0), .int .i64 (.var 1),
 .int .i64 (.var 2), .var 3, .var 4]), (7, [.bool (.lit false)]), (6, [.int .i64 (.var 0), .int .i64 (.var 1), .int .i64 (.var 2), .var 3, .var 4])] (.split
 (.nil 33) (.call 11 [] [.bool] (.bool (.var 34)) [] true [] [] [8, 7, 6] [(8, [.int .i64 (.var 0), .int .i64 (.var 1), .int .i64 (.var 2), .var 3, .var 4]), (7, [.bool
 (.lit false)]), (6, [.int .i64 (.var 0), .int .i64 (.var 1), .int .i64 (.var 2), .var 3, .var 4])] (.leafM 0 [.bool (.var 34)] [7] [(8, [.int .i64 (.var 0), .int
 .i64 (.var 1), .int .i64 (.var 2), .var 3, .var 4]), (7, [.bool (.var 34)]), (6, [.int .i64 (.var 0), .int .i64 (.var 1), .int .i64 (.var 2), .var 3, .var
 4])])) (.leafM 0 [.bool (.lit false)] [7] [(8, [.int .i64 (.var 0), .int .i64 (.var 1), .int .i64 (.var 2), .var 3, .var 4]), (7, [.bool (.lit false)]), (6, [.int
 .i64 (.var 0), .int .i64 (.var 1), .int .i64 (.var 2), .var 3, .var 4])]))) (.leafM 0 [.bool (.lit false)] [7] [(8, [.int .i64 (.var 0), .int .i64 (.var 1),
 .int .i64 (.var 2), .var 3, .var 4]), (7, [.bool (.lit false)]), (6, [.int .i64 (.var 0), .int .i64 (.var 1), .int .i64 (.var 2), .var 3, .var 4])]))) (.leafM 0
 [.bool (.lit false)] [7] [(8, [.int .i64 (.var 0), .int .i64 (.var 1), .int .i64 (.var 2), .var 3, .var 4]), (7, [.bool (.lit false)]), (6, [.int .i64 (.var 0),
 .int .i64 (.var 1), .int .i64 (.var 2), .var 3, .var 4])]))))))))) (.leafM 0 [.bool (.lit false)] [7] [(8, [.int .i64 (.var 0), .int .i64 (.var 1), .int
 .i64 (.var 2), .var 3, .var 4]), (7, [.bool (.lit false)]), (6, [.int .i64 (.var 0), .int .i64 (.var 1), .int .i64 (.var 2), .var 3, .var 4])])))) (.leafM 0
 [.bool (.lit false)] [7] [(8, [.int .i64 (.var 0), .int .i64 (.var 1), .int .i64 (.var 2), .var 3, .var 4]), (7, [.bool (.lit false)]), (6, [.int .i64 (.var 0),
 .int .i64 (.var 1), .int .i64 (.var 2), .var 3, .var 4])]))) (.leafM 0 [.bool (.lit false)] [7] [(8, [.int .i64 (.var 0), .int .i64 (.var 1), .int .i64
 (.var 2), .var 3, .var 4]), (7, [.bool (.lit false)]), (6, [.int .i64 (.var 0), .int .i64 (.var 1), .int .i64 (.var 2), .var 3, .var 4])])))) (.leafM 0 [.bool (.lit
 false)] [7] [(8, [.int .i64 (.var 0), .int .i64 (.var 1), .int .i64 (.var 2), .var 3, .var 4]), (7, [.bool (.lit false)]), (6, [.int .i64 (.var 0), .int .i64
 (.var 1), .int .i64 (.var 2), .var 3, .var 4])])))) (.leafM 0 [.bool (.lit false)] [7] [(8, [.int .i64 (.var 0), .int .i64 (.var 1), .int .i64 (.var 2), .var 3,
 .var 4]), (7, [.bool (.lit false)]), (6, [.int .i64 (.var 0), .int .i64 (.var 1), .int .i64 (.var 2), .var 3, .var 4])])))) (.leafM 0 [.bool (.lit false)] [7] [(8,
 [.int .i64 (.var 0), .int .i64 (.var 1), .int .i64 (.var 2), .var 3, .var 4]), (7, [.bool (.lit false)]), (6, [.int .i64 (.var 0), .int .i64 (.var 1),
 .int .i64 (.var 2), .var 3, .var 4])])))) (.leafM 0 [.bool (.lit false)] [7] [(8, [.int .i64 (.var 0), .int .i64 (.var 1), .int .i64 (.var 2), .var 3, .var 4]),
 (7, [.bool (.lit false)]), (6, [.int .i64 (.var 0), .int .i64 (.var 1), .int .i64 (.var 2), .var 3, .var 4])])))) (.leafM 0 [.bool (.lit false)] [7] [(8, [.int
 .i64 (.var 0), .int .i64 (.var 1), .int .i64 (.var 2), .var 3, .var 4]), (7, [.bool (.lit false)]), (6, [.int .i64 (.var 0), .int .i64 (.var 1), .int
 .i64 (.var 2), .var 3, .var 4])]))))))))))))) := by kernel_rfl

end Go.Proofs.Ytppbapnibpeolaa
