/- What the functions of the chapter come to, printed by a program of the prover's and checked by the kernel. No conditions. -/
import Derived.Test.YtppbapnibpeolaaSxZI
import Derived.Test.YtppbapnibpeolaaProg
import Derived.KernelRfl
set_option maxRecDepth 100000
set_option linter.unusedVariables false
namespace Go.Proofs.Ytppbapnibpeolaa
open Go.Sx

theorem t6 : exFn { P := Try.prog, loops := (fun r => if Nat.beq r 12 then some ⟨1, [(11, .ptr)], []⟩ else none), drops := (fun r => if Nat.beq r 12 then [11] else []), joins := (fun r => if Nat.beq r 22 then some ⟨3, [], [12]⟩ else if Nat.beq r 24 then some ⟨4, [], []⟩ else none), ranged := true, ranges := fun t => if Nat.beq t 50 then some ⟨2, [3, 3], [12]⟩ else none }
 6 [.agg [.int .i64 (.var 0), .int .i64 (.var 1), .int .i64 (.var 2), .int .i64 (.var 3)], .var 4, .int .i64 (.var 5)] [.int .i64, .int .i64, .int .i64, .int .i64, .slice, .int .i64] [] = .blk (.blk (.blk (.call
 8 [.agg [.int .i64 (.var 0), .int .i64 (.var 1), .int .i64 (.var 2), .int .i64 (.var 3)]] [.bool] (.bool (.var 9)) [] false [] [] [8, 7, 6] [(8, [.bool (.lit
 false)]), (7, [.int .i64 (.var 5)]), (6, [.int .i64 (.var 0), .int .i64 (.var 1), .int .i64 (.var 2), .int .i64 (.var 3)])] (.split (.not (.var 9)) (.call
 11 [] [.bool] (.bool (.var 10)) [] false [] [] [8, 7, 6] [(8, [.bool (.lit false)]), (7, [.int .i64 (.var 5)]), (6, [.int .i64 (.var 0), .int .i64 (.var 1), .int
 .i64 (.var 2), .int .i64 (.var 3)])] (.leafM 0 [.bool (.var 10)] [8] [(8, [.bool (.var 10)]), (7, [.int .i64 (.var 5)]), (6, [.int .i64 (.var 0), .int .i64
 (.var 1), .int .i64 (.var 2), .int .i64 (.var 3)])])) (.call 9 [.var 4, .int .i64 (.lit 25)] [.bool] (.bool (.var 10)) [] false [] [] [8, 7, 6] [(8, [.bool (.lit
 false)]), (7, [.int .i64 (.var 5)]), (6, [.int .i64 (.var 0), .int .i64 (.var 1), .int .i64 (.var 2), .int .i64 (.var 3)])] (.split (.not (.var 10)) (.call
 11 [] [.bool] (.bool (.var 11)) [] false [] [] [8, 7, 6] [(8, [.bool (.lit false)]), (7, [.int .i64 (.var 5)]), (6, [.int .i64 (.var 0), .int .i64 (.var 1), .int
 .i64 (.var 2), .int .i64 (.var 3)])] (.leafM 0 [.bool (.var 11)] [8] [(8, [.bool (.var 11)]), (7, [.int .i64 (.var 5)]), (6, [.int .i64 (.var 0), .int .i64
 (.var 1), .int .i64 (.var 2), .int .i64 (.var 3)])])) (.call 10 [.agg [.int .i64 (.var 0), .int .i64 (.var 1), .int .i64 (.var 2), .int .i64 (.var
 3)]] [.bool] (.bool (.var 11)) [] false [] [] [8, 7, 6] [(8, [.bool (.lit false)]), (7, [.int .i64 (.var 5)]), (6, [.int .i64 (.var 0), .int .i64 (.var 1), .int .i64
 (.var 2), .int .i64 (.var 3)])] (.split (.not (.var 11)) (.call 11 [] [.bool] (.bool (.var 12)) [] false [] [] [8, 7, 6] [(8, [.bool (.lit false)]), (7, [.int .i64 (.var 5)]),
 (6, [.int .i64 (.var 0), .int .i64 (.var 1), .int .i64 (.var 2), .int .i64 (.var 3)])] (.leafM 0 [.bool (.var 12)] [8] [(8, [.bool (.var 12)]), (7, [.int
 .i64 (.var 5)]), (6, [.int .i64 (.var 0), .int .i64 (.var 1), .int .i64 (.var 2), .int .i64 (.var 3)])])) (.call 12 [.agg [.int .i64 (.var 0), .int
 .i64 (.var 1), .int .i64 (.var 2), .int .i64 (.var 3)], .cst (.slice none 0 0), .var 4] [.ptr, .int .i64, .int .i64, .int .i64, .int
 .i64, .slice, .slice, .slice, .int .i64, .int .i64, .int .i64, .bool, .bool] (.tuple [.var 12, .agg [.int .i64 (.var 13), .int .i64
 (.var 14), .int .i64 (.var 15), .int .i64 (.var 16), .var 17, .var 18, .var 19, .int .i64 (.var 20), .int .i64 (.var 21), .int .i64 (.var 22), .bool
 (.var 23)], .bool (.var 24)]) [] false [] [] [8, 7, 6] [(8, [.bool (.lit false)]), (7, [.int .i64 (.var 5)]), (6, [.int .i64 (.var 0), .int .i64 (.var 1), .int .i64
 (.var 2), .int .i64 (.var 3)])] (.blk (.split (.not (.var 24)) (.leafM 0 [.bool (.lit false)] [8, 25] [(25, [.int .i64 (.var 13), .int .i64 (.var 14), .int .i64
 (.var 15), .int .i64 (.var 16), .var 17, .var 18, .var 19, .int .i64 (.var 20), .int .i64 (.var 21), .int .i64 (.var 22), .bool (.var 23)]), (8, [.bool (.lit
 false)]), (7, [.int .i64 (.var 5)]), (6, [.int .i64 (.var 0), .int .i64 (.var 1), .int .i64 (.var 2), .int .i64 (.var 3)])]) (.call 17 [.var 12] [.func]
 (.var 26) [] false [25] [] [25, 8, 7, 6] [(25, [.int .i64 (.var 13), .int .i64 (.var 14), .int .i64 (.var 15), .int .i64 (.var 16), .var 17, .var 18, .var 19, .int
 .i64 (.var 20), .int .i64 (.var 21), .int .i64 (.var 22), .bool (.var 23)]), (8, [.bool (.lit false)]), (7, [.int .i64 (.var 5)]), (6, [.int .i64 (.var 0),
 .int .i64 (.var 1), .int .i64 (.var 2), .int .i64 (.var 3)])] (.split (.nil 26) (.leafM 0 [.bool (.lit false)] [8] [(25, [.int .i64 (.var 13), .int .i64
 (.var 14), .int .i64 (.var 15), .int .i64 (.var 16), .var 17, .var 18, .var 19, .int .i64 (.var 20), .int .i64 (.var 21), .int .i64 (.var 22), .bool
 (.var 23)]), (8, [.bool (.lit false)]), (7, [.int .i64 (.var 5)]), (6, [.int .i64 (.var 0), .int .i64 (.var 1), .int .i64 (.var 2), .int .i64 (.var 3)])])
 (.call 22 [.var 12] [.int .i64] (.int .i64 (.var 27)) [] false [] [] [25, 8, 7, 6] [(25, [.int .i64 (.var 13), .int .i64 (.var 14), .int .i64 (.var 15), .int
 .i64 (.var 16), .var 17, .var 18, .var 19, .int .i64 (.var 20), .int .i64 (.var 21), .int .i64 (.var 22), .bool (.var 23)]), (8, [.bool (.lit false)]), (7, [.int
 .i64 (.var 5)]), (6, [.int .i64 (.var 0), .int .i64 (.var 1), .int .i64 (.var 2), .int .i64 (.var 3)])] (.call 20 [.var 12, .int .i64 (.lit 0)]
 [.int .i64] (.int .i64 (.var 28)) [] false [] [] [25, 8, 7, 6] [(25, [.int .i64 (.var 13), .int .i64 (.var 14), .int .i64 (.var 15), .int .i64 (.var 16),
 .var 17, .var 18, .var 19, .int .i64 (.var 20), .int .i64 (.var 21), .int .i64 (.var 22), .bool (.var 23)]), (8, [.bool (.lit false)]), (7, [.int .i64 (.var
 5)]), (6, [.int .i64 (.var 0), .int .i64 (.var 1), .int .i64 (.var 2), .int .i64 (.var 3)])] (.blk (.loop 1 [.ptr 29 0] [.ptr] [29] [25, 8, 7, 6] [(29, [.int
 .i64 (.lit 0)]), (25, [.int .i64 (.var 13), .int .i64 (.var 14), .int .i64 (.var 15), .int .i64 (.var 16), .var 17, .var 18, .var 19, .int .i64 (.var
 20), .int .i64 (.var 21), .int .i64 (.var 22), .bool (.var 23)]), (8, [.bool (.lit false)]), (7, [.int .i64 (.var 5)]), (6, [.int .i64 (.var 0), .int .i64
 (.var 1), .int .i64 (.var 2), .int .i64 (.var 3)])] [(25, [.int .i64 (.var 13), .int .i64 (.var 14), .int .i64 (.var 15), .int .i64 (.var 16), .var
 17, .var 18, .var 19, .int .i64 (.var 20), .int .i64 (.var 21), .int .i64 (.var 22), .bool (.var 23)]), (8, [.bool (.lit false)]), (7, [.int .i64 (.var 5)]), (6,
 [.int .i64 (.var 0), .int .i64 (.var 1), .int .i64 (.var 2), .int .i64 (.var 3)])] (.start false [] [] [(25, [.int .i64 (.var 13), .int .i64 (.var 14),
 .int .i64 (.var 15), .int .i64 (.var 16), .var 17, .var 18, .var 19, .int .i64 (.var 20), .int .i64 (.var 21), .int .i64 (.var 22), .bool (.var 23)]), (8,
 [.bool (.lit false)]), (7, [.int .i64 (.var 5)]), (6, [.int .i64 (.var 0), .int .i64 (.var 1), .int .i64 (.var 2), .int .i64 (.var 3)])] (.load (.ptr 30 0)
 [.int .i64] (.split (.lt (.var 31) (.lit 2)) (.cut 4 [] [25, 8, 7, 6] [(25, [.int .i64 (.var 13), .int .i64 (.var 14), .int .i64 (.var 15), .int .i64
 (.var 16), .var 17, .var 18, .var 19, .int .i64 (.var 20), .int .i64 (.var 21), .int .i64 (.var 22), .bool (.var 23)]), (8, [.bool (.lit false)]), (7, [.int .i64
 (.var 5)]), (6, [.int .i64 (.var 0), .int .i64 (.var 1), .int .i64 (.var 2), .int .i64 (.var 3)])] (.blk (.cut 3 [.int .i64] [32, 25, 8, 7, 6] [(32, [.int
 .i64 (.var 33)]), (25, [.int .i64 (.var 13), .int .i64 (.var 14), .int .i64 (.var 15), .int .i64 (.var 16), .var 17, .var 18, .var 19, .int .i64
 (.var 20), .int .i64 (.var 21), .int .i64 (.var 22), .bool (.var 23)]), (8, [.bool (.lit false)]), (7, [.int .i64 (.var 5)]), (6, [.int .i64 (.var 0), .int
 .i64 (.var 1), .int .i64 (.var 2), .int .i64 (.var 3)])] (.range 2 (.var 26) [.int .i64, .int .i64] [3, 3] [.int .i64 (.lit 0)] [.int .i64]
 [32] [32, 25, 8, 7, 6] [(32, [.int .i64 (.lit 0)]), (25, [.int .i64 (.var 13), .int .i64 (.var 14), .int .i64 (.var 15), .int .i64 (.var 16), .var 17, .var 18,
 .var 19, .int .i64 (.var 20), .int .i64 (.var 21), .int .i64 (.var 22), .bool (.var 23)]), (8, [.bool (.lit false)]), (7, [.int .i64 (.var 5)]), (6, [.int
 .i64 (.var 0), .int .i64 (.var 1), .int .i64 (.var 2), .int .i64 (.var 3)])] [(32, [.int .i64 (.var 33)]), (25, [.int .i64 (.var 13), .int .i64
 (.var 14), .int .i64 (.var 15), .int .i64 (.var 16), .var 17, .var 18, .var 19, .int .i64 (.var 20), .int .i64 (.var 21), .int .i64 (.var 22), .bool
 (.var 23)]), (8, [.bool (.lit false)]), (7, [.int .i64 (.var 5)]), (6, [.int .i64 (.var 0), .int .i64 (.var 1), .int .i64 (.var 2), .int .i64 (.var 3)])]
 (.split (.not (.eq (.var 34) (.var 33))) (.resume [8] [32, 25, 8, 7, 6] [(32, [.int .i64 (.var 33)]), (25, [.int .i64 (.var 13), .int .i64 (.var 14), .int .i64
 (.var 15), .int .i64 (.var 16), .var 17, .var 18, .var 19, .int .i64 (.var 20), .int .i64 (.var 21), .int .i64 (.var 22), .bool (.var 23)]), (8, [.bool (.lit
 false)]), (7, [.int .i64 (.var 5)]), (6, [.int .i64 (.var 0), .int .i64 (.var 1), .int .i64 (.var 2), .int .i64 (.var 3)])] (.leafM 0 [.bool (.lit false)] []
 [(32, [.int .i64 (.var 33)]), (25, [.int .i64 (.var 13), .int .i64 (.var 14), .int .i64 (.var 15), .int .i64 (.var 16), .var 17, .var 18, .var 19, .int
 .i64 (.var 20), .int .i64 (.var 21), .int .i64 (.var 22), .bool (.var 23)]), (8, [.bool (.lit false)]), (7, [.int .i64 (.var 5)]), (6, [.int .i64 (.var 0),
 .int .i64 (.var 1), .int .i64 (.var 2), .int .i64 (.var 3)])])) (.split (.le (.var 0) (.var 33)) (.resume [8] [32, 25, 8, 7, 6] [(32, [.int .i64 (.var 33)]), (25,
 [.int .i64 (.var 13), .int .i64 (.var 14), .int .i64 (.var 15), .int .i64 (.var 16), .var 17, .var 18, .var 19, .int .i64 (.var 20), .int .i64
 (.var 21), .int .i64 (.var 22), .bool (.var 23)]), (8, [.bool (.lit false)]), (7, [.int .i64 (.var 5)]), (6, [.int .i64 (.var 0), .int .i64 (.var 1), .int
 .i64 (.var 2), .int .i64 (.var 3)])] (.leafM 0 [.bool (.lit false)] [] [(32, [.int .i64 (.var 33)]), (25, [.int .i64 (.var 13), .int .i64 (.var 14), .int
 .i64 (.var 15), .int .i64 (.var 16), .var 17, .var 18, .var 19, .int .i64 (.var 20), .int .i64 (.var 21), .int .i64 (.var 22), .bool (.var 23)]), (8,
 [.bool (.lit false)]), (7, [.int .i64 (.var 5)]), (6, [.int .i64 (.var 0), .int .i64 (.var 1), .int .i64 (.var 2), .int .i64 (.var 3)])])) (.ob (.le (.lit
 0) (.var 34)) (.ob (.lt (.var 34) (.len 19)) (.ob (.not (.nil 19)) (.start false [] [] [(32, [.int .i64 (.var 33)]), (25, [.int .i64 (.var 13), .int .i64 (.var 14),
 .int .i64 (.var 15), .int .i64 (.var 16), .var 17, .var 18, .var 19, .int .i64 (.var 20), .int .i64 (.var 21), .int .i64 (.var 22), .bool (.var 23)]), (8,
 [.bool (.lit false)]), (7, [.int .i64 (.var 5)]), (6, [.int .i64 (.var 0), .int .i64 (.var 1), .int .i64 (.var 2), .int .i64 (.var 3)])] (.load (.elt 19 0
 (.var 34) 1 0) [.int .i64] (.split (.not (.eq (.var 35) (.var 36))) (.resume [8] [32, 25, 8, 7, 6] [(32, [.int .i64 (.var 33)]), (25, [.int .i64 (.var 13), .int
 .i64 (.var 14), .int .i64 (.var 15), .int .i64 (.var 16), .var 17, .var 18, .var 19, .int .i64 (.var 20), .int .i64 (.var 21), .int .i64 (.var 22),
 .bool (.var 23)]), (8, [.bool (.lit false)]), (7, [.int .i64 (.var 5)]), (6, [.int .i64 (.var 0), .int .i64 (.var 1), .int .i64 (.var 2), .int .i64 (.var
 3)])] (.leafM 0 [.bool (.lit false)] [] [(32, [.int .i64 (.var 33)]), (25, [.int .i64 (.var 13), .int .i64 (.var 14), .int .i64 (.var 15), .int .i64 (.var
 16), .var 17, .var 18, .var 19, .int .i64 (.var 20), .int .i64 (.var 21), .int .i64 (.var 22), .bool (.var 23)]), (8, [.bool (.lit false)]), (7, [.int .i64 (.var
 5)]), (6, [.int .i64 (.var 0), .int .i64 (.var 1), .int .i64 (.var 2), .int .i64 (.var 3)])])) (.ob (.le (.lit (-9223372036854775808)) (.add (.var 33) (.lit 1)))
 (.ob (.le (.add (.var 33) (.lit 1)) (.lit 9223372036854775807)) (.start false [32] [] [(32, [.int .i64 (.add (.var 33) (.lit 1))]), (25, [.int .i64 (.var 13), .int .i64
 (.var 14), .int .i64 (.var 15), .int .i64 (.var 16), .var 17, .var 18, .var 19, .int .i64 (.var 20), .int .i64 (.var 21), .int .i64 (.var 22), .bool
 (.var 23)]), (8, [.bool (.lit false)]), (7, [.int .i64 (.var 5)]), (6, [.int .i64 (.var 0), .int .i64 (.var 1), .int .i64 (.var 2), .int .i64 (.var 3)])]
 (.load (.ptr 30 0) [.int .i64] (.split (.eq (.var 37) (.lit 0)) (.split (.le (.var 5) (.add (.var 33) (.lit 1))) (.resume [] [32, 25, 8, 7, 6] [(32, [.int .i64 (.add
 (.var 33) (.lit 1))]), (25, [.int .i64 (.var 13), .int .i64 (.var 14), .int .i64 (.var 15), .int .i64 (.var 16), .var 17, .var 18, .var 19, .int .i64
 (.var 20), .int .i64 (.var 21), .int .i64 (.var 22), .bool (.var 23)]), (8, [.bool (.lit false)]), (7, [.int .i64 (.var 5)]), (6, [.int .i64 (.var 0), .int
 .i64 (.var 1), .int .i64 (.var 2), .int .i64 (.var 3)])] (.leaf 3 [.int .i64 (.add (.var 33) (.lit 1))] [] [(32, [.int .i64 (.add (.var 33) (.lit 1))]),
 (25, [.int .i64 (.var 13), .int .i64 (.var 14), .int .i64 (.var 15), .int .i64 (.var 16), .var 17, .var 18, .var 19, .int .i64 (.var 20), .int .i64
 (.var 21), .int .i64 (.var 22), .bool (.var 23)]), (8, [.bool (.lit false)]), (7, [.int .i64 (.var 5)]), (6, [.int .i64 (.var 0), .int .i64 (.var 1), .int
 .i64 (.var 2), .int .i64 (.var 3)])])) (.leaf 2 [.int .i64 (.add (.var 33) (.lit 1))] [] [(32, [.int .i64 (.add (.var 33) (.lit 1))]), (25, [.int .i64 (.var
 13), .int .i64 (.var 14), .int .i64 (.var 15), .int .i64 (.var 16), .var 17, .var 18, .var 19, .int .i64 (.var 20), .int .i64 (.var 21), .int .i64
 (.var 22), .bool (.var 23)]), (8, [.bool (.lit false)]), (7, [.int .i64 (.var 5)]), (6, [.int .i64 (.var 0), .int .i64 (.var 1), .int .i64 (.var 2), .int
 .i64 (.var 3)])])) (.leaf 2 [.int .i64 (.add (.var 33) (.lit 1))] [] [(32, [.int .i64 (.add (.var 33) (.lit 1))]), (25, [.int .i64 (.var 13), .int .i64
 (.var 14), .int .i64 (.var 15), .int .i64 (.var 16), .var 17, .var 18, .var 19, .int .i64 (.var 20), .int .i64 (.var 21), .int .i64 (.var 22), .bool
 (.var 23)]), (8, [.bool (.lit false)]), (7, [.int .i64 (.var 5)]), (6, [.int .i64 (.var 0), .int .i64 (.var 1), .int .i64 (.var 2), .int .i64 (.var
 3)])])))))))))))))) (.leaf 3 [.int .i64 (.var 33)] [] [(32, [.int .i64 (.var 33)]), (25, [.int .i64 (.var 13), .int .i64 (.var 14), .int .i64 (.var 15), .int
 .i64 (.var 16), .var 17, .var 18, .var 19, .int .i64 (.var 20), .int .i64 (.var 21), .int .i64 (.var 22), .bool (.var 23)]), (8, [.bool (.lit false)]), (7, [.int
 .i64 (.var 5)]), (6, [.int .i64 (.var 0), .int .i64 (.var 1), .int .i64 (.var 2), .int .i64 (.var 3)])])) (.start false [] [] [(32, [.int .i64 (.var
 33)]), (25, [.int .i64 (.var 13), .int .i64 (.var 14), .int .i64 (.var 15), .int .i64 (.var 16), .var 17, .var 18, .var 19, .int .i64 (.var 20), .int
 .i64 (.var 21), .int .i64 (.var 22), .bool (.var 23)]), (8, [.bool (.lit false)]), (7, [.int .i64 (.var 5)]), (6, [.int .i64 (.var 0), .int .i64 (.var 1),
 .int .i64 (.var 2), .int .i64 (.var 3)])] (.load (.ptr 30 0) [.int .i64] (.split (.eq (.var 34) (.lit 0)) (.split (.not (.eq (.var 33) (.min (.var 0) (.max
 (.lit 1) (.var 5))))) (.leafM 0 [.bool (.lit false)] [8] [(32, [.int .i64 (.var 33)]), (25, [.int .i64 (.var 13), .int .i64 (.var 14), .int .i64 (.var 15), .int
 .i64 (.var 16), .var 17, .var 18, .var 19, .int .i64 (.var 20), .int .i64 (.var 21), .int .i64 (.var 22), .bool (.var 23)]), (8, [.bool (.lit false)]), (7, [.int
 .i64 (.var 5)]), (6, [.int .i64 (.var 0), .int .i64 (.var 1), .int .i64 (.var 2), .int .i64 (.var 3)])]) (.start false [] [] [(32, [.int .i64 (.var
 33)]), (25, [.int .i64 (.var 13), .int .i64 (.var 14), .int .i64 (.var 15), .int .i64 (.var 16), .var 17, .var 18, .var 19, .int .i64 (.var 20), .int
 .i64 (.var 21), .int .i64 (.var 22), .bool (.var 23)]), (8, [.bool (.lit false)]), (7, [.int .i64 (.var 5)]), (6, [.int .i64 (.var 0), .int .i64 (.var 1),
 .int .i64 (.var 2), .int .i64 (.var 3)])] (.load (.ptr 30 0) [.int .i64] (.split (.eq (.var 35) (.lit 1)) (.split (.not (.eq (.var 33) (.var 0))) (.leafM 0
 [.bool (.lit false)] [8] [(32, [.int .i64 (.var 33)]), (25, [.int .i64 (.var 13), .int .i64 (.var 14), .int .i64 (.var 15), .int .i64 (.var 16), .var 17,
 .var 18, .var 19, .int .i64 (.var 20), .int .i64 (.var 21), .int .i64 (.var 22), .bool (.var 23)]), (8, [.bool (.lit false)]), (7, [.int .i64 (.var 5)]), (6,
 [.int .i64 (.var 0), .int .i64 (.var 1), .int .i64 (.var 2), .int .i64 (.var 3)])]) (.leaf 4 [] [] [(32, [.int .i64 (.var 33)]), (25, [.int .i64 (.var
 13), .int .i64 (.var 14), .int .i64 (.var 15), .int .i64 (.var 16), .var 17, .var 18, .var 19, .int .i64 (.var 20), .int .i64 (.var 21), .int .i64
 (.var 22), .bool (.var 23)]), (8, [.bool (.lit false)]), (7, [.int .i64 (.var 5)]), (6, [.int .i64 (.var 0), .int .i64 (.var 1), .int .i64 (.var 2), .int
 .i64 (.var 3)])])) (.leaf 4 [] [] [(32, [.int .i64 (.var 33)]), (25, [.int .i64 (.var 13), .int .i64 (.var 14), .int .i64 (.var 15), .int .i64 (.var 16),
 .var 17, .var 18, .var 19, .int .i64 (.var 20), .int .i64 (.var 21), .int .i64 (.var 22), .bool (.var 23)]), (8, [.bool (.lit false)]), (7, [.int .i64 (.var
 5)]), (6, [.int .i64 (.var 0), .int .i64 (.var 1), .int .i64 (.var 2), .int .i64 (.var 3)])]))))) (.start false [] [] [(32, [.int .i64 (.var 33)]), (25, [.int
 .i64 (.var 13), .int .i64 (.var 14), .int .i64 (.var 15), .int .i64 (.var 16), .var 17, .var 18, .var 19, .int .i64 (.var 20), .int .i64 (.var 21),
 .int .i64 (.var 22), .bool (.var 23)]), (8, [.bool (.lit false)]), (7, [.int .i64 (.var 5)]), (6, [.int .i64 (.var 0), .int .i64 (.var 1), .int .i64 (.var
 2), .int .i64 (.var 3)])] (.load (.ptr 30 0) [.int .i64] (.split (.eq (.var 35) (.lit 1)) (.split (.not (.eq (.var 33) (.var 0))) (.leafM 0 [.bool (.lit false)] [8]
 [(32, [.int .i64 (.var 33)]), (25, [.int .i64 (.var 13), .int .i64 (.var 14), .int .i64 (.var 15), .int .i64 (.var 16), .var 17, .var 18, .var 19, .int
 .i64 (.var 20), .int .i64 (.var 21), .int .i64 (.var 22), .bool (.var 23)]), (8, [.bool (.lit false)]), (7, [.int .i64 (.var 5)]), (6, [.int .i64 (.var 0),
 .int .i64 (.var 1), .int .i64 (.var 2), .int .i64 (.var 3)])]) (.leaf 4 [] [] [(32, [.int .i64 (.var 33)]), (25, [.int .i64 (.var 13), .int .i64 (.var
 14), .int .i64 (.var 15), .int .i64 (.var 16), .var 17, .var 18, .var 19, .int .i64 (.var 20), .int .i64 (.var 21), .int .i64 (.var 22), .bool (.var
 23)]), (8, [.bool (.lit false)]), (7, [.int .i64 (.var 5)]), (6, [.int .i64 (.var 0), .int .i64 (.var 1), .int .i64 (.var 2), .int .i64 (.var 3)])])) (.leaf 4
 [] [] [(32, [.int .i64 (.var 33)]), (25, [.int .i64 (.var 13), .int .i64 (.var 14), .int .i64 (.var 15), .int .i64 (.var 16), .var 17, .var 18, .var 19,
 .int .i64 (.var 20), .int .i64 (.var 21), .int .i64 (.var 22), .bool (.var 23)]), (8, [.bool (.lit false)]), (7, [.int .i64 (.var 5)]), (6, [.int .i64 (.var
 0), .int .i64 (.var 1), .int .i64 (.var 2), .int .i64 (.var 3)])]))))))))) (.start false [] [] [(25, [.int .i64 (.var 13), .int .i64 (.var 14), .int .i64
 (.var 15), .int .i64 (.var 16), .var 17, .var 18, .var 19, .int .i64 (.var 20), .int .i64 (.var 21), .int .i64 (.var 22), .bool (.var 23)]), (8, [.bool (.lit
 false)]), (7, [.int .i64 (.var 5)]), (6, [.int .i64 (.var 0), .int .i64 (.var 1), .int .i64 (.var 2), .int .i64 (.var 3)])] (.load (.ptr 30 0) [.int
 .i64] (.blk (.ob (.le (.lit (-9223372036854775808)) (.add (.var 32) (.lit 1))) (.ob (.le (.add (.var 32) (.lit 1)) (.lit 9223372036854775807)) (.leaf 1 [.ptr 33 0] [33] [(33, [.int
 .i64 (.add (.var 32) (.lit 1))]), (25, [.int .i64 (.var 13), .int .i64 (.var 14), .int .i64 (.var 15), .int .i64 (.var 16), .var 17, .var 18, .var 19,
 .int .i64 (.var 20), .int .i64 (.var 21), .int .i64 (.var 22), .bool (.var 23)]), (8, [.bool (.lit false)]), (7, [.int .i64 (.var 5)]), (6, [.int .i64 (.var
 0), .int .i64 (.var 1), .int .i64 (.var 2), .int .i64 (.var 3)])]))))))) (.call 11 [] [.bool] (.bool (.var 32)) [] false [] [] [25, 8, 7, 6] [(25, [.int .i64 (.var
 13), .int .i64 (.var 14), .int .i64 (.var 15), .int .i64 (.var 16), .var 17, .var 18, .var 19, .int .i64 (.var 20), .int .i64 (.var 21), .int .i64
 (.var 22), .bool (.var 23)]), (8, [.bool (.lit false)]), (7, [.int .i64 (.var 5)]), (6, [.int .i64 (.var 0), .int .i64 (.var 1), .int .i64 (.var 2), .int
 .i64 (.var 3)])] (.leafM 0 [.bool (.var 32)] [8] [(25, [.int .i64 (.var 13), .int .i64 (.var 14), .int .i64 (.var 15), .int .i64 (.var 16), .var 17, .var
 18, .var 19, .int .i64 (.var 20), .int .i64 (.var 21), .int .i64 (.var 22), .bool (.var 23)]), (8, [.bool (.var 32)]), (7, [.int .i64 (.var 5)]), (6, [.int
 .i64 (.var 0), .int .i64 (.var 1), .int .i64 (.var 2), .int .i64 (.var 3)])])))))))))))))))))))))) := by kernel_rfl

end Go.Proofs.Ytppbapnibpeolaa
