/- What the functions of the chapter come to, printed by a program of the prover's and checked by the kernel. No conditions. -/
import Derived.Test.YtppbapnibpeolaaSxZI
import Derived.Test.YtppbapnibpeolaaProg
import Derived.KernelRfl
set_option maxRecDepth 100000
set_option linter.unusedVariables false
namespace Go.Proofs.Ytppbapnibpeolaa
open Go.Sx

theorem t12 : exFn { P := Try.prog, loops := fun r => if Nat.beq r 6 then some ⟨1, [(13, .int .i64)], [11]⟩ else none } 12 [.agg [.int .i64 (.var 0), .int .i64 (.var 1), .int .i64 (.var 2), .int .i64 (.var 3)], .var 4,
 .var 5] [.int .i64, .int .i64, .int .i64, .int .i64, .slice, .slice] [] = .blk (.blk (.call 29 [.agg [.int .i64 (.var 0), .int .i64 (.var 1), .int .i64 (.var 2), .int
 .i64 (.var 3)], .var 4] [.ptr, .int .i64] (.tuple [.var 8, .int .i64 (.var 9)]) [] false [] [] [7, 6] [(7, [.int .i64 (.lit 0), .int .i64 (.lit 0), .int
 .i64 (.lit 0), .int .i64 (.lit 0), .cst (.slice none 0 0), .cst (.slice none 0 0), .cst (.slice none 0 0), .int .i64 (.lit 0), .int .i64 (.lit 0), .int
 .i64 (.lit 0), .bool (.lit false)]), (6, [.int .i64 (.var 0), .int .i64 (.var 1), .int .i64 (.var 2), .int .i64 (.var 3)])] (.call 31 [.agg [.int
 .i64 (.var 0), .int .i64 (.var 1), .int .i64 (.var 2), .int .i64 (.var 3)], .var 4] [.int .i64, .int .i64, .int .i64, .int .i64,
 .slice, .slice, .slice, .int .i64, .int .i64, .int .i64, .bool, .int .i64] (.tuple [.agg [.int .i64 (.var 10), .int .i64 (.var 11),
 .int .i64 (.var 12), .int .i64 (.var 13), .var 14, .var 15, .var 16, .int .i64 (.var 17), .int .i64 (.var 18), .int .i64 (.var 19), .bool (.var 20)],
 .int .i64 (.var 21)]) [] false [] [] [7, 6] [(7, [.int .i64 (.lit 0), .int .i64 (.lit 0), .int .i64 (.lit 0), .int .i64 (.lit 0), .cst (.slice none 0 0),
 .cst (.slice none 0 0), .cst (.slice none 0 0), .int .i64 (.lit 0), .int .i64 (.lit 0), .int .i64 (.lit 0), .bool (.lit false)]), (6, [.int .i64 (.var 0),
 .int .i64 (.var 1), .int .i64 (.var 2), .int .i64 (.var 3)])] (.blk (.call 18 [.int .i64 (.var 9)] [.int .i64] (.int .i64 (.var 23)) [] false [22] []
 [22, 7, 6] [(22, [.int .i64 (.var 10), .int .i64 (.var 11), .int .i64 (.var 12), .int .i64 (.var 13), .var 14, .var 15, .var 16, .int .i64 (.var 17), .int
 .i64 (.var 18), .int .i64 (.var 19), .bool (.var 20)]), (7, [.int .i64 (.lit 0), .int .i64 (.lit 0), .int .i64 (.lit 0), .int .i64 (.lit 0), .cst
 (.slice none 0 0), .cst (.slice none 0 0), .cst (.slice none 0 0), .int .i64 (.lit 0), .int .i64 (.lit 0), .int .i64 (.lit 0), .bool (.lit false)]), (6, [.int
 .i64 (.var 0), .int .i64 (.var 1), .int .i64 (.var 2), .int .i64 (.var 3)])] (.split (.not (.eq (.var 23) (.lit 0))) (.start true [] [22, 7, 6] [(22, [.int
 .i64 (.var 10), .int .i64 (.var 11), .int .i64 (.var 12), .int .i64 (.var 13), .var 14, .var 15, .var 16, .int .i64 (.var 17), .int .i64 (.var 18),
 .int .i64 (.var 19), .bool (.var 20)]), (7, [.int .i64 (.lit 0), .int .i64 (.lit 0), .int .i64 (.lit 0), .int .i64 (.lit 0), .cst (.slice none 0 0),
 .cst (.slice none 0 0), .cst (.slice none 0 0), .int .i64 (.lit 0), .int .i64 (.lit 0), .int .i64 (.lit 0), .bool (.lit false)]), (6, [.int .i64 (.var 0),
 .int .i64 (.var 1), .int .i64 (.var 2), .int .i64 (.var 3)])] (.leaf 0 [.tuple [.cst (.pointer none), .agg [.int .i64 (.var 10), .int .i64 (.var 11),
 .int .i64 (.var 12), .int .i64 (.var 13), .var 14, .var 15, .var 16, .int .i64 (.var 17), .int .i64 (.var 18), .int .i64 (.var 19), .bool (.var 20)],
 .bool (.lit false)]] [7] [(22, [.int .i64 (.var 10), .int .i64 (.var 11), .int .i64 (.var 12), .int .i64 (.var 13), .var 14, .var 15, .var 16, .int .i64
 (.var 17), .int .i64 (.var 18), .int .i64 (.var 19), .bool (.var 20)]), (7, [.int .i64 (.var 10), .int .i64 (.var 11), .int .i64 (.var 12), .int .i64
 (.var 13), .var 14, .var 15, .var 16, .int .i64 (.var 17), .int .i64 (.var 18), .int .i64 (.var 19), .bool (.var 20)]), (6, [.int .i64 (.var 0), .int .i64
 (.var 1), .int .i64 (.var 2), .int .i64 (.var 3)])])) (.split (.not (.eq (.var 21) (.lit 0))) (.start true [] [22, 7, 6] [(22, [.int .i64 (.var 10), .int .i64
 (.var 11), .int .i64 (.var 12), .int .i64 (.var 13), .var 14, .var 15, .var 16, .int .i64 (.var 17), .int .i64 (.var 18), .int .i64 (.var 19), .bool
 (.var 20)]), (7, [.int .i64 (.lit 0), .int .i64 (.lit 0), .int .i64 (.lit 0), .int .i64 (.lit 0), .cst (.slice none 0 0), .cst (.slice none 0 0), .cst
 (.slice none 0 0), .int .i64 (.lit 0), .int .i64 (.lit 0), .int .i64 (.lit 0), .bool (.lit false)]), (6, [.int .i64 (.var 0), .int .i64 (.var 1), .int
 .i64 (.var 2), .int .i64 (.var 3)])] (.leaf 0 [.tuple [.cst (.pointer none), .agg [.int .i64 (.var 10), .int .i64 (.var 11), .int .i64 (.var 12), .int
 .i64 (.var 13), .var 14, .var 15, .var 16, .int .i64 (.var 17), .int .i64 (.var 18), .int .i64 (.var 19), .bool (.var 20)], .bool (.lit false)]] [7] [(22, [.int
 .i64 (.var 10), .int .i64 (.var 11), .int .i64 (.var 12), .int .i64 (.var 13), .var 14, .var 15, .var 16, .int .i64 (.var 17), .int .i64 (.var 18),
 .int .i64 (.var 19), .bool (.var 20)]), (7, [.int .i64 (.var 10), .int .i64 (.var 11), .int .i64 (.var 12), .int .i64 (.var 13), .var 14, .var 15, .var
 16, .int .i64 (.var 17), .int .i64 (.var 18), .int .i64 (.var 19), .bool (.var 20)]), (6, [.int .i64 (.var 0), .int .i64 (.var 1), .int .i64 (.var
 2), .int .i64 (.var 3)])])) (.loop 1 [.int .i64 (.lit 0), .int .i64 (.var 10), .int .i64 (.var 11), .int .i64 (.var 12), .int .i64 (.var 13), .var
 14, .var 15, .var 16, .int .i64 (.var 17), .int .i64 (.var 18), .int .i64 (.var 19), .bool (.var 20)] [.int .i64, .int .i64, .int .i64, .int
 .i64, .int .i64, .slice, .slice, .slice, .int .i64, .int .i64, .int .i64, .bool] [] [22, 7, 6] [(22, [.int .i64 (.var 10), .int .i64
 (.var 11), .int .i64 (.var 12), .int .i64 (.var 13), .var 14, .var 15, .var 16, .int .i64 (.var 17), .int .i64 (.var 18), .int .i64 (.var 19), .bool
 (.var 20)]), (7, [.int .i64 (.lit 0), .int .i64 (.lit 0), .int .i64 (.lit 0), .int .i64 (.lit 0), .cst (.slice none 0 0), .cst (.slice none 0 0), .cst
 (.slice none 0 0), .int .i64 (.lit 0), .int .i64 (.lit 0), .int .i64 (.lit 0), .bool (.lit false)]), (6, [.int .i64 (.var 0), .int .i64 (.var 1), .int
 .i64 (.var 2), .int .i64 (.var 3)])] [(22, [.int .i64 (.var 25), .int .i64 (.var 26), .int .i64 (.var 27), .int .i64 (.var 28), .var 29, .var 30,
 .var 31, .int .i64 (.var 32), .int .i64 (.var 33), .int .i64 (.var 34), .bool (.var 35)]), (7, [.int .i64 (.lit 0), .int .i64 (.lit 0), .int .i64
 (.lit 0), .int .i64 (.lit 0), .cst (.slice none 0 0), .cst (.slice none 0 0), .cst (.slice none 0 0), .int .i64 (.lit 0), .int .i64 (.lit 0), .int .i64
 (.lit 0), .bool (.lit false)]), (6, [.int .i64 (.var 0), .int .i64 (.var 1), .int .i64 (.var 2), .int .i64 (.var 3)])] (.split (.lt (.var 24) (.len 5)) (.start
 true [] [22, 7, 6] [(22, [.int .i64 (.var 25), .int .i64 (.var 26), .int .i64 (.var 27), .int .i64 (.var 28), .var 29, .var 30, .var 31, .int .i64 (.var 32),
 .int .i64 (.var 33), .int .i64 (.var 34), .bool (.var 35)]), (7, [.int .i64 (.lit 0), .int .i64 (.lit 0), .int .i64 (.lit 0), .int .i64 (.lit 0),
 .cst (.slice none 0 0), .cst (.slice none 0 0), .cst (.slice none 0 0), .int .i64 (.lit 0), .int .i64 (.lit 0), .int .i64 (.lit 0), .bool (.lit false)]), (6,
 [.int .i64 (.var 0), .int .i64 (.var 1), .int .i64 (.var 2), .int .i64 (.var 3)])] (.ob (.le (.lit 0) (.var 24)) (.ob (.lt (.var 24) (.len 5)) (.ob (.not
 (.nil 5)) (.load (.elt 5 0 (.var 24) 5 0) [.int .i64, .int .i64, .int .i64, .slice, .slice] (.both (.call 15 [.var 8, .agg [.int .i64 (.var 25), .int
 .i64 (.var 26), .int .i64 (.var 27), .int .i64 (.var 28), .var 29, .var 30, .var 31, .int .i64 (.var 32), .int .i64 (.var 33), .int .i64 (.var 34),
 .bool (.var 35)], .agg [.int .i64 (.var 36), .int .i64 (.var 37), .int .i64 (.var 38), .var 39, .var 40]] [.int .i64, .int .i64, .int .i64,
 .int .i64, .slice, .slice, .slice, .int .i64, .int .i64, .int .i64, .bool, .bool] (.tuple [.agg [.int .i64 (.var 41), .int .i64
 (.var 42), .int .i64 (.var 43), .int .i64 (.var 44), .var 45, .var 46, .var 47, .int .i64 (.var 48), .int .i64 (.var 49), .int .i64 (.var 50), .bool
 (.var 51)], .bool (.var 52)]) [] true [] [] [22, 7, 6] [(22, [.int .i64 (.var 25), .int .i64 (.var 26), .int .i64 (.var 27), .int .i64 (.var 28), .var 29, .var 30,
 .var 31, .int .i64 (.var 32), .int .i64 (.var 33), .int .i64 (.var 34), .bool (.var 35)]), (7, [.int .i64 (.lit 0), .int .i64 (.lit 0), .int .i64
 (.lit 0), .int .i64 (.lit 0), .cst (.slice none 0 0), .cst (.slice none 0 0), .cst (.slice none 0 0), .int .i64 (.lit 0), .int .i64 (.lit 0), .int .i64
 (.lit 0), .bool (.lit false)]), (6, [.int .i64 (.var 0), .int .i64 (.var 1), .int .i64 (.var 2), .int .i64 (.var 3)])] (.blk (.split (.not (.var 52)) (.start
 true [22, 53] [53, 22, 7, 6] [(53, [.int .i64 (.var 41), .int .i64 (.var 42), .int .i64 (.var 43), .int .i64 (.var 44), .var 45, .var 46, .var 47, .int .i64
 (.var 48), .int .i64 (.var 49), .int .i64 (.var 50), .bool (.var 51)]), (22, [.int .i64 (.var 41), .int .i64 (.var 42), .int .i64 (.var 43), .int
 .i64 (.var 44), .var 45, .var 46, .var 47, .int .i64 (.var 48), .int .i64 (.var 49), .int .i64 (.var 50), .bool (.var 51)]), (7, [.int .i64 (.lit 0), .int
 .i64 (.lit 0), .int .i64 (.lit 0), .int .i64 (.lit 0), .cst (.slice none 0 0), .cst (.slice none 0 0), .cst (.slice none 0 0), .int .i64 (.lit 0), .int
 .i64 (.lit 0), .int .i64 (.lit 0), .bool (.lit false)]), (6, [.int .i64 (.var 0), .int .i64 (.var 1), .int .i64 (.var 2), .int .i64 (.var 3)])]
 (.leaf 0 [.tuple [.cst (.pointer none), .agg [.int .i64 (.var 41), .int .i64 (.var 42), .int .i64 (.var 43), .int .i64 (.var 44), .var 45, .var 46, .var 47,
 .int .i64 (.var 48), .int .i64 (.var 49), .int .i64 (.var 50), .bool (.var 51)], .bool (.lit false)]] [7] [(53, [.int .i64 (.var 41), .int .i64 (.var 42),
 .int .i64 (.var 43), .int .i64 (.var 44), .var 45, .var 46, .var 47, .int .i64 (.var 48), .int .i64 (.var 49), .int .i64 (.var 50), .bool (.var 51)]),
 (22, [.int .i64 (.var 41), .int .i64 (.var 42), .int .i64 (.var 43), .int .i64 (.var 44), .var 45, .var 46, .var 47, .int .i64 (.var 48), .int .i64
 (.var 49), .int .i64 (.var 50), .bool (.var 51)]), (7, [.int .i64 (.var 41), .int .i64 (.var 42), .int .i64 (.var 43), .int .i64 (.var 44), .var 45, .var
 46, .var 47, .int .i64 (.var 48), .int .i64 (.var 49), .int .i64 (.var 50), .bool (.var 51)]), (6, [.int .i64 (.var 0), .int .i64 (.var 1), .int .i64
 (.var 2), .int .i64 (.var 3)])])) (.ob (.le (.lit (-9223372036854775808)) (.add (.var 24) (.lit 1))) (.ob (.le (.add (.var 24) (.lit 1)) (.lit 9223372036854775807)) (.leaf 1
 [.int .i64 (.add (.var 24) (.lit 1)), .int .i64 (.var 41), .int .i64 (.var 42), .int .i64 (.var 43), .int .i64 (.var 44), .var 45, .var 46, .var 47,
 .int .i64 (.var 48), .int .i64 (.var 49), .int .i64 (.var 50), .bool (.var 51)] [22, 53] [(53, [.int .i64 (.var 41), .int .i64 (.var 42), .int .i64
 (.var 43), .int .i64 (.var 44), .var 45, .var 46, .var 47, .int .i64 (.var 48), .int .i64 (.var 49), .int .i64 (.var 50), .bool (.var 51)]), (22, [.int
 .i64 (.var 41), .int .i64 (.var 42), .int .i64 (.var 43), .int .i64 (.var 44), .var 45, .var 46, .var 47, .int .i64 (.var 48), .int .i64 (.var 49),
 .int .i64 (.var 50), .bool (.var 51)]), (7, [.int .i64 (.lit 0), .int .i64 (.lit 0), .int .i64 (.lit 0), .int .i64 (.lit 0), .cst (.slice none 0 0),
 .cst (.slice none 0 0), .cst (.slice none 0 0), .int .i64 (.lit 0), .int .i64 (.lit 0), .int .i64 (.lit 0), .bool (.lit false)]), (6, [.int .i64 (.var 0),
 .int .i64 (.var 1), .int .i64 (.var 2), .int .i64 (.var 3)])])))))) (.blk (.call 15 [.var 8, .agg [.int .i64 (.var 25), .int .i64 (.var 26), .int
 .i64 (.var 27), .int .i64 (.var 28), .var 29, .var 30, .var 31, .int .i64 (.var 32), .int .i64 (.var 33), .int .i64 (.var 34), .bool (.var 35)], .agg
 [.int .i64 (.var 36), .int .i64 (.var 37), .int .i64 (.var 38), .var 39, .var 40]] [.int .i64, .int .i64, .int .i64, .int .i64,
 .slice, .slice, .slice, .int .i64, .int .i64, .int .i64, .bool, .bool] (.tuple [.agg [.int .i64 (.var 42), .int .i64 (.var 43), .int
 .i64 (.var 44), .int .i64 (.var 45), .var 46, .var 47, .var 48, .int .i64 (.var 49), .int .i64 (.var 50), .int .i64 (.var 51), .bool (.var 52)], .bool
 (.var 53)]) [] true [] [] [41, 22, 7, 6] [(41, [.int .i64 (.lit 0), .int .i64 (.lit 0), .int .i64 (.lit 0), .int .i64 (.lit 0), .cst (.slice none 0 0), .cst
 (.slice none 0 0), .cst (.slice none 0 0), .int .i64 (.lit 0), .int .i64 (.lit 0), .int .i64 (.lit 0), .bool (.lit false)]), (22, [.int .i64 (.var 25), .int
 .i64 (.var 26), .int .i64 (.var 27), .int .i64 (.var 28), .var 29, .var 30, .var 31, .int .i64 (.var 32), .int .i64 (.var 33), .int .i64 (.var 34),
 .bool (.var 35)]), (7, [.int .i64 (.lit 0), .int .i64 (.lit 0), .int .i64 (.lit 0), .int .i64 (.lit 0), .cst (.slice none 0 0), .cst (.slice none 0 0),
 .cst (.slice none 0 0), .int .i64 (.lit 0), .int .i64 (.lit 0), .int .i64 (.lit 0), .bool (.lit false)]), (6, [.int .i64 (.var 0), .int .i64 (.var 1),
 .int .i64 (.var 2), .int .i64 (.var 3)])] (.split (.not (.var 53)) (.start true [22, 41] [41, 22, 7, 6] [(41, [.int .i64 (.var 42), .int .i64 (.var 43), .int
 .i64 (.var 44), .int .i64 (.var 45), .var 46, .var 47, .var 48, .int .i64 (.var 49), .int .i64 (.var 50), .int .i64 (.var 51), .bool (.var 52)]), (22,
 [.int .i64 (.var 42), .int .i64 (.var 43), .int .i64 (.var 44), .int .i64 (.var 45), .var 46, .var 47, .var 48, .int .i64 (.var 49), .int .i64
 (.var 50), .int .i64 (.var 51), .bool (.var 52)]), (7, [.int .i64 (.lit 0), .int .i64 (.lit 0), .int .i64 (.lit 0), .int .i64 (.lit 0), .cst (.slice
 none 0 0), .cst (.slice none 0 0), .cst (.slice none 0 0), .int .i64 (.lit 0), .int .i64 (.lit 0), .int .i64 (.lit 0), .bool (.lit false)]), (6, [.int .i64
 (.var 0), .int .i64 (.var 1), .int .i64 (.var 2), .int .i64 (.var 3)])] (.leaf 0 [.tuple [.cst (.pointer none), .agg [.int .i64 (.var 42), .int .i64
 (.var 43), .int .i64 (.var 44), .int .i64 (.var 45), .var 46, .var 47, .var 48, .int .i64 (.var 49), .int .i64 (.var 50), .int .i64 (.var 51), .bool
 (.var 52)], .bool (.lit false)]] [7] [(41, [.int .i64 (.var 42), .int .i64 (.var 43), .int .i64 (.var 44), .int .i64 (.var 45), .var 46, .var 47, .var 48, .int
 .i64 (.var 49), .int .i64 (.var 50), .int .i64 (.var 51), .bool (.var 52)]), (22, [.int .i64 (.var 42), .int .i64 (.var 43), .int .i64 (.var 44),
 .int .i64 (.var 45), .var 46, .var 47, .var 48, .int .i64 (.var 49), .int .i64 (.var 50), .int .i64 (.var 51), .bool (.var 52)]), (7, [.int .i64 (.var
 42), .int .i64 (.var 43), .int .i64 (.var 44), .int .i64 (.var 45), .var 46, .var 47, .var 48, .int .i64 (.var 49), .int .i64 (.var 50), .int .i64
 (.var 51), .bool (.var 52)]), (6, [.int .i64 (.var 0), .int .i64 (.var 1), .int .i64 (.var 2), .int .i64 (.var 3)])])) (.ob (.le (.lit (-9223372036854775808))
 (.add (.var 24) (.lit 1))) (.ob (.le (.add (.var 24) (.lit 1)) (.lit 9223372036854775807)) (.leaf 1 [.int .i64 (.add (.var 24) (.lit 1)), .int .i64 (.var 42), .int
 .i64 (.var 43), .int .i64 (.var 44), .int .i64 (.var 45), .var 46, .var 47, .var 48, .int .i64 (.var 49), .int .i64 (.var 50), .int .i64 (.var 51),
 .bool (.var 52)] [22, 41] [(41, [.int .i64 (.var 42), .int .i64 (.var 43), .int .i64 (.var 44), .int .i64 (.var 45), .var 46, .var 47, .var 48, .int .i64
 (.var 49), .int .i64 (.var 50), .int .i64 (.var 51), .bool (.var 52)]), (22, [.int .i64 (.var 42), .int .i64 (.var 43), .int .i64 (.var 44), .int
 .i64 (.var 45), .var 46, .var 47, .var 48, .int .i64 (.var 49), .int .i64 (.var 50), .int .i64 (.var 51), .bool (.var 52)]), (7, [.int .i64 (.lit 0), .int
 .i64 (.lit 0), .int .i64 (.lit 0), .int .i64 (.lit 0), .cst (.slice none 0 0), .cst (.slice none 0 0), .cst (.slice none 0 0), .int .i64 (.lit 0), .int
 .i64 (.lit 0), .int .i64 (.lit 0), .bool (.lit false)]), (6, [.int .i64 (.var 0), .int .i64 (.var 1), .int .i64 (.var 2), .int .i64 (.var
 3)])])))))))))))) (.start true [] [22, 7, 6] [(22, [.int .i64 (.var 25), .int .i64 (.var 26), .int .i64 (.var 27), .int .i64 (.var 28), .var 29, .var 30, .var 31,
 .int .i64 (.var 32), .int .i64 (.var 33), .int .i64 (.var 34), .bool (.var 35)]), (7, [.int .i64 (.lit 0), .int .i64 (.lit 0), .int .i64 (.lit 0),
 .int .i64 (.lit 0), .cst (.slice none 0 0), .cst (.slice none 0 0), .cst (.slice none 0 0), .int .i64 (.lit 0), .int .i64 (.lit 0), .int .i64 (.lit 0),
 .bool (.lit false)]), (6, [.int .i64 (.var 0), .int .i64 (.var 1), .int .i64 (.var 2), .int .i64 (.var 3)])] (.leaf 0 [.tuple [.var 8, .agg [.int .i64
 (.var 25), .int .i64 (.var 26), .int .i64 (.var 27), .int .i64 (.var 28), .var 29, .var 30, .var 31, .int .i64 (.var 32), .int .i64 (.var 33), .int
 .i64 (.var 34), .bool (.var 35)], .bool (.lit true)]] [7] [(22, [.int .i64 (.var 25), .int .i64 (.var 26), .int .i64 (.var 27), .int .i64 (.var 28), .var
 29, .var 30, .var 31, .int .i64 (.var 32), .int .i64 (.var 33), .int .i64 (.var 34), .bool (.var 35)]), (7, [.int .i64 (.var 25), .int .i64 (.var 26),
 .int .i64 (.var 27), .int .i64 (.var 28), .var 29, .var 30, .var 31, .int .i64 (.var 32), .int .i64 (.var 33), .int .i64 (.var 34), .bool (.var 35)]), (6,
 [.int .i64 (.var 0), .int .i64 (.var 1), .int .i64 (.var 2), .int .i64 (.var 3)])]))))))))))) := by kernel_rfl

end Go.Proofs.Ytppbapnibpeolaa
