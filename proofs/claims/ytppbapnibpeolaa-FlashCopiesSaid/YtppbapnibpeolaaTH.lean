/- What the functions of the chapter come to, printed by a program of the prover's and checked by the kernel. No conditions. -/
import Derived.Test.YtppbapnibpeolaaSxZI
import Derived.Test.YtppbapnibpeolaaProg
import Derived.KernelRfl
set_option maxRecDepth 100000
set_option linter.unusedVariables false
namespace Go.Proofs.Ytppbapnibpeolaa
open Go.Sx

theorem t15 : exFn { P := Try.prog, joins := (fun r => if Nat.beq r 6 then some ⟨1, [(22, .bool)], []⟩ else none) } 15 [.var 0, .agg [.int .i64 (.var 1), .int .i64 (.var 2), .int .i64 (.var 3), .int .i64 (.var 4), .var
 5, .var 6, .var 7, .int .i64 (.var 8), .int .i64 (.var 9), .int .i64 (.var 10), .bool (.var 11)], .agg [.int .i64 (.var 12), .int .i64 (.var 13), .int .i64 (.var 14), .var 15, .var 16]] [.ptr, .int .i64, .int .i64, .int
 .i64, .int .i64, .slice, .slice, .slice, .int .i64, .int .i64, .int .i64, .bool, .int .i64, .int .i64, .int .i64, .slice, .slice] [] = .blk (.blk (.blk (.cut 1 [.bool] [19, 18, 17] [(19, [.int .i64
 (.lit 0), .int .i64 (.lit 0), .int .i64 (.lit 0), .int .i64 (.lit 0), .cst (.slice none 0 0), .cst (.slice none 0 0), .cst (.slice none 0 0), .int .i64
 (.lit 0), .int .i64 (.lit 0), .int .i64 (.lit 0), .bool (.lit false)]), (18, [.int .i64 (.var 12), .int .i64 (.var 13), .int .i64 (.var 14), .var 15, .var
 16]), (17, [.int .i64 (.var 1), .int .i64 (.var 2), .int .i64 (.var 3), .int .i64 (.var 4), .var 5, .var 6, .var 7, .int .i64 (.var 8), .int .i64
 (.var 9), .int .i64 (.var 10), .bool (.var 11)])] (.split (.eq (.var 12) (.lit 0)) (.leaf 1 [.bool (.eq (.var 12) (.lit 0))] [] [(19, [.int .i64 (.lit 0), .int .i64
 (.lit 0), .int .i64 (.lit 0), .int .i64 (.lit 0), .cst (.slice none 0 0), .cst (.slice none 0 0), .cst (.slice none 0 0), .int .i64 (.lit 0), .int .i64
 (.lit 0), .int .i64 (.lit 0), .bool (.lit false)]), (18, [.int .i64 (.var 12), .int .i64 (.var 13), .int .i64 (.var 14), .var 15, .var 16]), (17, [.int .i64
 (.var 1), .int .i64 (.var 2), .int .i64 (.var 3), .int .i64 (.var 4), .var 5, .var 6, .var 7, .int .i64 (.var 8), .int .i64 (.var 9), .int .i64
 (.var 10), .bool (.var 11)])]) (.split (.eq (.var 12) (.lit 1)) (.leaf 1 [.bool (.eq (.var 12) (.lit 1))] [] [(19, [.int .i64 (.lit 0), .int .i64 (.lit 0), .int
 .i64 (.lit 0), .int .i64 (.lit 0), .cst (.slice none 0 0), .cst (.slice none 0 0), .cst (.slice none 0 0), .int .i64 (.lit 0), .int .i64 (.lit 0), .int
 .i64 (.lit 0), .bool (.lit false)]), (18, [.int .i64 (.var 12), .int .i64 (.var 13), .int .i64 (.var 14), .var 15, .var 16]), (17, [.int .i64 (.var 1), .int
 .i64 (.var 2), .int .i64 (.var 3), .int .i64 (.var 4), .var 5, .var 6, .var 7, .int .i64 (.var 8), .int .i64 (.var 9), .int .i64 (.var 10), .bool
 (.var 11)])]) (.split (.eq (.var 12) (.lit 2)) (.leaf 1 [.bool (.eq (.var 12) (.lit 2))] [] [(19, [.int .i64 (.lit 0), .int .i64 (.lit 0), .int .i64 (.lit 0), .int
 .i64 (.lit 0), .cst (.slice none 0 0), .cst (.slice none 0 0), .cst (.slice none 0 0), .int .i64 (.lit 0), .int .i64 (.lit 0), .int .i64 (.lit 0), .bool
 (.lit false)]), (18, [.int .i64 (.var 12), .int .i64 (.var 13), .int .i64 (.var 14), .var 15, .var 16]), (17, [.int .i64 (.var 1), .int .i64 (.var 2), .int
 .i64 (.var 3), .int .i64 (.var 4), .var 5, .var 6, .var 7, .int .i64 (.var 8), .int .i64 (.var 9), .int .i64 (.var 10), .bool (.var 11)])]) (.leaf 1
 [.bool (.eq (.var 12) (.lit 3))] [] [(19, [.int .i64 (.lit 0), .int .i64 (.lit 0), .int .i64 (.lit 0), .int .i64 (.lit 0), .cst (.slice none 0 0), .cst
 (.slice none 0 0), .cst (.slice none 0 0), .int .i64 (.lit 0), .int .i64 (.lit 0), .int .i64 (.lit 0), .bool (.lit false)]), (18, [.int .i64 (.var 12), .int
 .i64 (.var 13), .int .i64 (.var 14), .var 15, .var 16]), (17, [.int .i64 (.var 1), .int .i64 (.var 2), .int .i64 (.var 3), .int .i64 (.var 4), .var
 5, .var 6, .var 7, .int .i64 (.var 8), .int .i64 (.var 9), .int .i64 (.var 10), .bool (.var 11)])])))) (.split (.var 20) (.call 40 [.agg [.int .i64 (.var 1),
 .int .i64 (.var 2), .int .i64 (.var 3), .int .i64 (.var 4), .var 5, .var 6, .var 7, .int .i64 (.var 8), .int .i64 (.var 9), .int .i64 (.var 10),
 .bool (.var 11)], .int .i64 (.var 13), .int .i64 (.var 14), .var 15, .var 16] [.int .i64, .int .i64, .int .i64, .int .i64, .slice,
 .slice, .slice, .int .i64, .int .i64, .int .i64, .bool, .int .i64] (.tuple [.agg [.int .i64 (.var 21), .int .i64 (.var 22), .int
 .i64 (.var 23), .int .i64 (.var 24), .var 25, .var 26, .var 27, .int .i64 (.var 28), .int .i64 (.var 29), .int .i64 (.var 30), .bool (.var 31)], .int
 .i64 (.var 32)]) [] false [] [] [19, 18, 17] [(19, [.int .i64 (.lit 0), .int .i64 (.lit 0), .int .i64 (.lit 0), .int .i64 (.lit 0), .cst (.slice none 0 0),
 .cst (.slice none 0 0), .cst (.slice none 0 0), .int .i64 (.lit 0), .int .i64 (.lit 0), .int .i64 (.lit 0), .bool (.lit false)]), (18, [.int .i64 (.var 12),
 .int .i64 (.var 13), .int .i64 (.var 14), .var 15, .var 16]), (17, [.int .i64 (.var 1), .int .i64 (.var 2), .int .i64 (.var 3), .int .i64 (.var 4),
 .var 5, .var 6, .var 7, .int .i64 (.var 8), .int .i64 (.var 9), .int .i64 (.var 10), .bool (.var 11)])] (.blk (.start true [33] [33, 19, 18, 17] [(33, [.int .i64
 (.var 21), .int .i64 (.var 22), .int .i64 (.var 23), .int .i64 (.var 24), .var 25, .var 26, .var 27, .int .i64 (.var 28), .int .i64 (.var 29), .int
 .i64 (.var 30), .bool (.var 31)]), (19, [.int .i64 (.lit 0), .int .i64 (.lit 0), .int .i64 (.lit 0), .int .i64 (.lit 0), .cst (.slice none 0 0), .cst
 (.slice none 0 0), .cst (.slice none 0 0), .int .i64 (.lit 0), .int .i64 (.lit 0), .int .i64 (.lit 0), .bool (.lit false)]), (18, [.int .i64 (.var 12), .int
 .i64 (.var 13), .int .i64 (.var 14), .var 15, .var 16]), (17, [.int .i64 (.var 1), .int .i64 (.var 2), .int .i64 (.var 3), .int .i64 (.var 4), .var
 5, .var 6, .var 7, .int .i64 (.var 8), .int .i64 (.var 9), .int .i64 (.var 10), .bool (.var 11)])] (.call 19 [.var 0, .int .i64 (.var 13), .int .i64
 (.var 14), .var 15, .var 16] [.int .i64] (.int .i64 (.var 34)) [] true [] [] [33, 19, 18, 17] [(33, [.int .i64 (.var 21), .int .i64 (.var 22), .int .i64 (.var
 23), .int .i64 (.var 24), .var 25, .var 26, .var 27, .int .i64 (.var 28), .int .i64 (.var 29), .int .i64 (.var 30), .bool (.var 31)]), (19, [.int .i64
 (.lit 0), .int .i64 (.lit 0), .int .i64 (.lit 0), .int .i64 (.lit 0), .cst (.slice none 0 0), .cst (.slice none 0 0), .cst (.slice none 0 0), .int .i64
 (.lit 0), .int .i64 (.lit 0), .int .i64 (.lit 0), .bool (.lit false)]), (18, [.int .i64 (.var 12), .int .i64 (.var 13), .int .i64 (.var 14), .var 15, .var
 16]), (17, [.int .i64 (.var 1), .int .i64 (.var 2), .int .i64 (.var 3), .int .i64 (.var 4), .var 5, .var 6, .var 7, .int .i64 (.var 8), .int .i64
 (.var 9), .int .i64 (.var 10), .bool (.var 11)])] (.call 18 [.int .i64 (.var 34)] [.int .i64] (.int .i64 (.var 35)) [] true [] [] [33, 19, 18, 17] [(33, [.int
 .i64 (.var 21), .int .i64 (.var 22), .int .i64 (.var 23), .int .i64 (.var 24), .var 25, .var 26, .var 27, .int .i64 (.var 28), .int .i64 (.var 29),
 .int .i64 (.var 30), .bool (.var 31)]), (19, [.int .i64 (.lit 0), .int .i64 (.lit 0), .int .i64 (.lit 0), .int .i64 (.lit 0), .cst (.slice none 0 0),
 .cst (.slice none 0 0), .cst (.slice none 0 0), .int .i64 (.lit 0), .int .i64 (.lit 0), .int .i64 (.lit 0), .bool (.lit false)]), (18, [.int .i64 (.var 12),
 .int .i64 (.var 13), .int .i64 (.var 14), .var 15, .var 16]), (17, [.int .i64 (.var 1), .int .i64 (.var 2), .int .i64 (.var 3), .int .i64 (.var 4),
 .var 5, .var 6, .var 7, .int .i64 (.var 8), .int .i64 (.var 9), .int .i64 (.var 10), .bool (.var 11)])] (.leaf 0 [.tuple [.agg [.int .i64 (.var 21), .int
 .i64 (.var 22), .int .i64 (.var 23), .int .i64 (.var 24), .var 25, .var 26, .var 27, .int .i64 (.var 28), .int .i64 (.var 29), .int .i64 (.var 30),
 .bool (.var 31)], .bool (.eq (.var 35) (.var 32))]] [19] [(33, [.int .i64 (.var 21), .int .i64 (.var 22), .int .i64 (.var 23), .int .i64 (.var 24), .var 25,
 .var 26, .var 27, .int .i64 (.var 28), .int .i64 (.var 29), .int .i64 (.var 30), .bool (.var 31)]), (19, [.int .i64 (.var 21), .int .i64 (.var 22), .int
 .i64 (.var 23), .int .i64 (.var 24), .var 25, .var 26, .var 27, .int .i64 (.var 28), .int .i64 (.var 29), .int .i64 (.var 30), .bool (.var 31)]), (18,
 [.int .i64 (.var 12), .int .i64 (.var 13), .int .i64 (.var 14), .var 15, .var 16]), (17, [.int .i64 (.var 1), .int .i64 (.var 2), .int .i64 (.var 3),
 .int .i64 (.var 4), .var 5, .var 6, .var 7, .int .i64 (.var 8), .int .i64 (.var 9), .int .i64 (.var 10), .bool (.var 11)])])))))) (.split (.eq (.var 12)
 (.lit 4)) (.call 41 [.agg [.int .i64 (.var 1), .int .i64 (.var 2), .int .i64 (.var 3), .int .i64 (.var 4), .var 5, .var 6, .var 7, .int .i64 (.var 8),
 .int .i64 (.var 9), .int .i64 (.var 10), .bool (.var 11)], .int .i64 (.var 13)] [.int .i64, .int .i64, .int .i64, .int .i64, .slice,
 .slice, .slice, .int .i64, .int .i64, .int .i64, .bool, .int .i64] (.tuple [.agg [.int .i64 (.var 21), .int .i64 (.var 22), .int
 .i64 (.var 23), .int .i64 (.var 24), .var 25, .var 26, .var 27, .int .i64 (.var 28), .int .i64 (.var 29), .int .i64 (.var 30), .bool (.var 31)], .int
 .i64 (.var 32)]) [] false [] [] [19, 18, 17] [(19, [.int .i64 (.lit 0), .int .i64 (.lit 0), .int .i64 (.lit 0), .int .i64 (.lit 0), .cst (.slice none 0 0),
 .cst (.slice none 0 0), .cst (.slice none 0 0), .int .i64 (.lit 0), .int .i64 (.lit 0), .int .i64 (.lit 0), .bool (.lit false)]), (18, [.int .i64 (.var 12),
 .int .i64 (.var 13), .int .i64 (.var 14), .var 15, .var 16]), (17, [.int .i64 (.var 1), .int .i64 (.var 2), .int .i64 (.var 3), .int .i64 (.var 4),
 .var 5, .var 6, .var 7, .int .i64 (.var 8), .int .i64 (.var 9), .int .i64 (.var 10), .bool (.var 11)])] (.blk (.start true [33] [33, 19, 18, 17] [(33, [.int .i64
 (.var 21), .int .i64 (.var 22), .int .i64 (.var 23), .int .i64 (.var 24), .var 25, .var 26, .var 27, .int .i64 (.var 28), .int .i64 (.var 29), .int
 .i64 (.var 30), .bool (.var 31)]), (19, [.int .i64 (.lit 0), .int .i64 (.lit 0), .int .i64 (.lit 0), .int .i64 (.lit 0), .cst (.slice none 0 0), .cst
 (.slice none 0 0), .cst (.slice none 0 0), .int .i64 (.lit 0), .int .i64 (.lit 0), .int .i64 (.lit 0), .bool (.lit false)]), (18, [.int .i64 (.var 12), .int
 .i64 (.var 13), .int .i64 (.var 14), .var 15, .var 16]), (17, [.int .i64 (.var 1), .int .i64 (.var 2), .int .i64 (.var 3), .int .i64 (.var 4), .var
 5, .var 6, .var 7, .int .i64 (.var 8), .int .i64 (.var 9), .int .i64 (.var 10), .bool (.var 11)])] (.call 20 [.var 0, .int .i64 (.var 13)] [.int .i64]
 (.int .i64 (.var 34)) [] true [] [] [33, 19, 18, 17] [(33, [.int .i64 (.var 21), .int .i64 (.var 22), .int .i64 (.var 23), .int .i64 (.var 24), .var 25, .var
 26, .var 27, .int .i64 (.var 28), .int .i64 (.var 29), .int .i64 (.var 30), .bool (.var 31)]), (19, [.int .i64 (.lit 0), .int .i64 (.lit 0), .int
 .i64 (.lit 0), .int .i64 (.lit 0), .cst (.slice none 0 0), .cst (.slice none 0 0), .cst (.slice none 0 0), .int .i64 (.lit 0), .int .i64 (.lit 0), .int
 .i64 (.lit 0), .bool (.lit false)]), (18, [.int .i64 (.var 12), .int .i64 (.var 13), .int .i64 (.var 14), .var 15, .var 16]), (17, [.int .i64 (.var 1), .int
 .i64 (.var 2), .int .i64 (.var 3), .int .i64 (.var 4), .var 5, .var 6, .var 7, .int .i64 (.var 8), .int .i64 (.var 9), .int .i64 (.var 10), .bool
 (.var 11)])] (.call 18 [.int .i64 (.var 34)] [.int .i64] (.int .i64 (.var 35)) [] true [] [] [33, 19, 18, 17] [(33, [.int .i64 (.var 21), .int .i64 (.var 22),
 .int .i64 (.var 23), .int .i64 (.var 24), .var 25, .var 26, .var 27, .int .i64 (.var 28), .int .i64 (.var 29), .int .i64 (.var 30), .bool (.var 31)]),
 (19, [.int .i64 (.lit 0), .int .i64 (.lit 0), .int .i64 (.lit 0), .int .i64 (.lit 0), .cst (.slice none 0 0), .cst (.slice none 0 0), .cst (.slice none 0
 0), .int .i64 (.lit 0), .int .i64 (.lit 0), .int .i64 (.lit 0), .bool (.lit false)]), (18, [.int .i64 (.var 12), .int .i64 (.var 13), .int .i64 (.var
 14), .var 15, .var 16]), (17, [.int .i64 (.var 1), .int .i64 (.var 2), .int .i64 (.var 3), .int .i64 (.var 4), .var 5, .var 6, .var 7, .int .i64 (.var 8),
 .int .i64 (.var 9), .int .i64 (.var 10), .bool (.var 11)])] (.leaf 0 [.tuple [.agg [.int .i64 (.var 21), .int .i64 (.var 22), .int .i64 (.var 23), .int
 .i64 (.var 24), .var 25, .var 26, .var 27, .int .i64 (.var 28), .int .i64 (.var 29), .int .i64 (.var 30), .bool (.var 31)], .bool (.eq (.var 35) (.var 32))]]
 [19] [(33, [.int .i64 (.var 21), .int .i64 (.var 22), .int .i64 (.var 23), .int .i64 (.var 24), .var 25, .var 26, .var 27, .int .i64 (.var 28), .int
 .i64 (.var 29), .int .i64 (.var 30), .bool (.var 31)]), (19, [.int .i64 (.var 21), .int .i64 (.var 22), .int .i64 (.var 23), .int .i64 (.var 24),
 .var 25, .var 26, .var 27, .int .i64 (.var 28), .int .i64 (.var 29), .int .i64 (.var 30), .bool (.var 31)]), (18, [.int .i64 (.var 12), .int .i64 (.var
 13), .int .i64 (.var 14), .var 15, .var 16]), (17, [.int .i64 (.var 1), .int .i64 (.var 2), .int .i64 (.var 3), .int .i64 (.var 4), .var 5, .var 6, .var
 7, .int .i64 (.var 8), .int .i64 (.var 9), .int .i64 (.var 10), .bool (.var 11)])])))))) (.split (.eq (.var 12) (.lit 5)) (.call 13 [.var 0, .int .i64 (.var
 13), .int .i64 (.var 14)] [.slice, .slice, .int .i64] (.tuple [.var 21, .var 22, .int .i64 (.var 23)]) [] false [] [] [19, 18, 17] [(19, [.int .i64 (.lit 0),
 .int .i64 (.lit 0), .int .i64 (.lit 0), .int .i64 (.lit 0), .cst (.slice none 0 0), .cst (.slice none 0 0), .cst (.slice none 0 0), .int .i64 (.lit 0),
 .int .i64 (.lit 0), .int .i64 (.lit 0), .bool (.lit false)]), (18, [.int .i64 (.var 12), .int .i64 (.var 13), .int .i64 (.var 14), .var 15, .var 16]), (17,
 [.int .i64 (.var 1), .int .i64 (.var 2), .int .i64 (.var 3), .int .i64 (.var 4), .var 5, .var 6, .var 7, .int .i64 (.var 8), .int .i64 (.var 9),
 .int .i64 (.var 10), .bool (.var 11)])] (.call 42 [.agg [.int .i64 (.var 1), .int .i64 (.var 2), .int .i64 (.var 3), .int .i64 (.var 4), .var 5, .var 6,
 .var 7, .int .i64 (.var 8), .int .i64 (.var 9), .int .i64 (.var 10), .bool (.var 11)], .int .i64 (.var 13), .int .i64 (.var 14)] [.slice, .slice,
 .int .i64] (.tuple [.var 24, .var 25, .int .i64 (.var 26)]) [] false [] [] [19, 18, 17] [(19, [.int .i64 (.lit 0), .int .i64 (.lit 0), .int .i64 (.lit 0),
 .int .i64 (.lit 0), .cst (.slice none 0 0), .cst (.slice none 0 0), .cst (.slice none 0 0), .int .i64 (.lit 0), .int .i64 (.lit 0), .int .i64 (.lit 0),
 .bool (.lit false)]), (18, [.int .i64 (.var 12), .int .i64 (.var 13), .int .i64 (.var 14), .var 15, .var 16]), (17, [.int .i64 (.var 1), .int .i64 (.var 2),
 .int .i64 (.var 3), .int .i64 (.var 4), .var 5, .var 6, .var 7, .int .i64 (.var 8), .int .i64 (.var 9), .int .i64 (.var 10), .bool (.var 11)])] (.start
 true [] [19, 18, 17] [(19, [.int .i64 (.lit 0), .int .i64 (.lit 0), .int .i64 (.lit 0), .int .i64 (.lit 0), .cst (.slice none 0 0), .cst (.slice none 0 0),
 .cst (.slice none 0 0), .int .i64 (.lit 0), .int .i64 (.lit 0), .int .i64 (.lit 0), .bool (.lit false)]), (18, [.int .i64 (.var 12), .int .i64 (.var 13),
 .int .i64 (.var 14), .var 15, .var 16]), (17, [.int .i64 (.var 1), .int .i64 (.var 2), .int .i64 (.var 3), .int .i64 (.var 4), .var 5, .var 6, .var 7,
 .int .i64 (.var 8), .int .i64 (.var 9), .int .i64 (.var 10), .bool (.var 11)])] (.call 30 [.var 21, .var 24] [.bool] (.bool (.var 27)) [] true [] [] [19, 18, 17] [(19,
 [.int .i64 (.lit 0), .int .i64 (.lit 0), .int .i64 (.lit 0), .int .i64 (.lit 0), .cst (.slice none 0 0), .cst (.slice none 0 0), .cst (.slice none 0 0),
 .int .i64 (.lit 0), .int .i64 (.lit 0), .int .i64 (.lit 0), .bool (.lit false)]), (18, [.int .i64 (.var 12), .int .i64 (.var 13), .int .i64 (.var
 14), .var 15, .var 16]), (17, [.int .i64 (.var 1), .int .i64 (.var 2), .int .i64 (.var 3), .int .i64 (.var 4), .var 5, .var 6, .var 7, .int .i64 (.var 8),
 .int .i64 (.var 9), .int .i64 (.var 10), .bool (.var 11)])] (.split (.var 27) (.call 30 [.var 22, .var 25] [.bool] (.bool (.var 28)) [] true [] [] [19, 18, 17] [(19, [.int
 .i64 (.lit 0), .int .i64 (.lit 0), .int .i64 (.lit 0), .int .i64 (.lit 0), .cst (.slice none 0 0), .cst (.slice none 0 0), .cst (.slice none 0 0), .int
 .i64 (.lit 0), .int .i64 (.lit 0), .int .i64 (.lit 0), .bool (.lit false)]), (18, [.int .i64 (.var 12), .int .i64 (.var 13), .int .i64 (.var 14),
 .var 15, .var 16]), (17, [.int .i64 (.var 1), .int .i64 (.var 2), .int .i64 (.var 3), .int .i64 (.var 4), .var 5, .var 6, .var 7, .int .i64 (.var 8),
 .int .i64 (.var 9), .int .i64 (.var 10), .bool (.var 11)])] (.split (.var 28) (.call 18 [.int .i64 (.var 23)] [.int .i64] (.int .i64 (.var 29)) [] true []
 [] [19, 18, 17] [(19, [.int .i64 (.lit 0), .int .i64 (.lit 0), .int .i64 (.lit 0), .int .i64 (.lit 0), .cst (.slice none 0 0), .cst (.slice none 0 0), .cst
 (.slice none 0 0), .int .i64 (.lit 0), .int .i64 (.lit 0), .int .i64 (.lit 0), .bool (.lit false)]), (18, [.int .i64 (.var 12), .int .i64 (.var 13), .int
 .i64 (.var 14), .var 15, .var 16]), (17, [.int .i64 (.var 1), .int .i64 (.var 2), .int .i64 (.var 3), .int .i64 (.var 4), .var 5, .var 6, .var 7, .int
 .i64 (.var 8), .int .i64 (.var 9), .int .i64 (.var 10), .bool (.var 11)])] (.leaf 0 [.tuple [.agg [.int .i64 (.var 1), .int .i64 (.var 2), .int
 .i64 (.var 3), .int .i64 (.var 4), .var 5, .var 6, .var 7, .int .i64 (.var 8), .int .i64 (.var 9), .int .i64 (.var 10), .bool (.var 11)], .bool (.eq
 (.var 29) (.var 26))]] [19] [(19, [.int .i64 (.var 1), .int .i64 (.var 2), .int .i64 (.var 3), .int .i64 (.var 4), .var 5, .var 6, .var 7, .int .i64 (.var
 8), .int .i64 (.var 9), .int .i64 (.var 10), .bool (.var 11)]), (18, [.int .i64 (.var 12), .int .i64 (.var 13), .int .i64 (.var 14), .var 15, .var 16]),
 (17, [.int .i64 (.var 1), .int .i64 (.var 2), .int .i64 (.var 3), .int .i64 (.var 4), .var 5, .var 6, .var 7, .int .i64 (.var 8), .int .i64 (.var
 9), .int .i64 (.var 10), .bool (.var 11)])])) (.leaf 0 [.tuple [.agg [.int .i64 (.var 1), .int .i64 (.var 2), .int .i64 (.var 3), .int .i64 (.var 4),
 .var 5, .var 6, .var 7, .int .i64 (.var 8), .int .i64 (.var 9), .int .i64 (.var 10), .bool (.var 11)], .bool (.lit false)]] [19] [(19, [.int .i64 (.var 1),
 .int .i64 (.var 2), .int .i64 (.var 3), .int .i64 (.var 4), .var 5, .var 6, .var 7, .int .i64 (.var 8), .int .i64 (.var 9), .int .i64 (.var 10),
 .bool (.var 11)]), (18, [.int .i64 (.var 12), .int .i64 (.var 13), .int .i64 (.var 14), .var 15, .var 16]), (17, [.int .i64 (.var 1), .int .i64 (.var 2),
 .int .i64 (.var 3), .int .i64 (.var 4), .var 5, .var 6, .var 7, .int .i64 (.var 8), .int .i64 (.var 9), .int .i64 (.var 10), .bool (.var 11)])])))
 (.leaf 0 [.tuple [.agg [.int .i64 (.var 1), .int .i64 (.var 2), .int .i64 (.var 3), .int .i64 (.var 4), .var 5, .var 6, .var 7, .int .i64 (.var 8),
 .int .i64 (.var 9), .int .i64 (.var 10), .bool (.var 11)], .bool (.lit false)]] [19] [(19, [.int .i64 (.var 1), .int .i64 (.var 2), .int .i64 (.var 3),
 .int .i64 (.var 4), .var 5, .var 6, .var 7, .int .i64 (.var 8), .int .i64 (.var 9), .int .i64 (.var 10), .bool (.var 11)]), (18, [.int .i64 (.var 12),
 .int .i64 (.var 13), .int .i64 (.var 14), .var 15, .var 16]), (17, [.int .i64 (.var 1), .int .i64 (.var 2), .int .i64 (.var 3), .int .i64 (.var 4),
 .var 5, .var 6, .var 7, .int .i64 (.var 8), .int .i64 (.var 9), .int .i64 (.var 10), .bool (.var 11)])])))))) (.split (.eq (.var 12) (.lit 6)) (.call 43 [.agg
 [.int .i64 (.var 1), .int .i64 (.var 2), .int .i64 (.var 3), .int .i64 (.var 4), .var 5, .var 6, .var 7, .int .i64 (.var 8), .int .i64 (.var 9),
 .int .i64 (.var 10), .bool (.var 11)], .int .i64 (.var 13), .int .i64 (.var 14)] [.int .i64, .int .i64, .int .i64, .int .i64, .slice,
 .slice, .slice, .int .i64, .int .i64, .int .i64, .bool, .int .i64] (.tuple [.agg [.int .i64 (.var 21), .int .i64 (.var 22), .int
 .i64 (.var 23), .int .i64 (.var 24), .var 25, .var 26, .var 27, .int .i64 (.var 28), .int .i64 (.var 29), .int .i64 (.var 30), .bool (.var 31)], .int
 .i64 (.var 32)]) [] false [] [] [19, 18, 17] [(19, [.int .i64 (.lit 0), .int .i64 (.lit 0), .int .i64 (.lit 0), .int .i64 (.lit 0), .cst (.slice none 0 0),
 .cst (.slice none 0 0), .cst (.slice none 0 0), .int .i64 (.lit 0), .int .i64 (.lit 0), .int .i64 (.lit 0), .bool (.lit false)]), (18, [.int .i64 (.var 12),
 .int .i64 (.var 13), .int .i64 (.var 14), .var 15, .var 16]), (17, [.int .i64 (.var 1), .int .i64 (.var 2), .int .i64 (.var 3), .int .i64 (.var 4),
 .var 5, .var 6, .var 7, .int .i64 (.var 8), .int .i64 (.var 9), .int .i64 (.var 10), .bool (.var 11)])] (.blk (.start true [33] [33, 19, 18, 17] [(33, [.int .i64
 (.var 21), .int .i64 (.var 22), .int .i64 (.var 23), .int .i64 (.var 24), .var 25, .var 26, .var 27, .int .i64 (.var 28), .int .i64 (.var 29), .int
 .i64 (.var 30), .bool (.var 31)]), (19, [.int .i64 (.lit 0), .int .i64 (.lit 0), .int .i64 (.lit 0), .int .i64 (.lit 0), .cst (.slice none 0 0), .cst
 (.slice none 0 0), .cst (.slice none 0 0), .int .i64 (.lit 0), .int .i64 (.lit 0), .int .i64 (.lit 0), .bool (.lit false)]), (18, [.int .i64 (.var 12), .int
 .i64 (.var 13), .int .i64 (.var 14), .var 15, .var 16]), (17, [.int .i64 (.var 1), .int .i64 (.var 2), .int .i64 (.var 3), .int .i64 (.var 4), .var
 5, .var 6, .var 7, .int .i64 (.var 8), .int .i64 (.var 9), .int .i64 (.var 10), .bool (.var 11)])] (.call 21 [.var 0, .int .i64 (.var 13), .int .i64
 (.var 14)] [.int .i64] (.int .i64 (.var 34)) [] true [] [] [33, 19, 18, 17] [(33, [.int .i64 (.var 21), .int .i64 (.var 22), .int .i64 (.var 23), .int
 .i64 (.var 24), .var 25, .var 26, .var 27, .int .i64 (.var 28), .int .i64 (.var 29), .int .i64 (.var 30), .bool (.var 31)]), (19, [.int .i64 (.lit 0),
 .int .i64 (.lit 0), .int .i64 (.lit 0), .int .i64 (.lit 0), .cst (.slice none 0 0), .cst (.slice none 0 0), .cst (.slice none 0 0), .int .i64 (.lit 0),
 .int .i64 (.lit 0), .int .i64 (.lit 0), .bool (.lit false)]), (18, [.int .i64 (.var 12), .int .i64 (.var 13), .int .i64 (.var 14), .var 15, .var 16]), (17,
 [.int .i64 (.var 1), .int .i64 (.var 2), .int .i64 (.var 3), .int .i64 (.var 4), .var 5, .var 6, .var 7, .int .i64 (.var 8), .int .i64 (.var 9),
 .int .i64 (.var 10), .bool (.var 11)])] (.call 18 [.int .i64 (.var 34)] [.int .i64] (.int .i64 (.var 35)) [] true [] [] [33, 19, 18, 17] [(33, [.int .i64
 (.var 21), .int .i64 (.var 22), .int .i64 (.var 23), .int .i64 (.var 24), .var 25, .var 26, .var 27, .int .i64 (.var 28), .int .i64 (.var 29), .int
 .i64 (.var 30), .bool (.var 31)]), (19, [.int .i64 (.lit 0), .int .i64 (.lit 0), .int .i64 (.lit 0), .int .i64 (.lit 0), .cst (.slice none 0 0), .cst
 (.slice none 0 0), .cst (.slice none 0 0), .int .i64 (.lit 0), .int .i64 (.lit 0), .int .i64 (.lit 0), .bool (.lit false)]), (18, [.int .i64 (.var 12), .int
 .i64 (.var 13), .int .i64 (.var 14), .var 15, .var 16]), (17, [.int .i64 (.var 1), .int .i64 (.var 2), .int .i64 (.var 3), .int .i64 (.var 4), .var
 5, .var 6, .var 7, .int .i64 (.var 8), .int .i64 (.var 9), .int .i64 (.var 10), .bool (.var 11)])] (.leaf 0 [.tuple [.agg [.int .i64 (.var 21), .int
 .i64 (.var 22), .int .i64 (.var 23), .int .i64 (.var 24), .var 25, .var 26, .var 27, .int .i64 (.var 28), .int .i64 (.var 29), .int .i64 (.var 30),
 .bool (.var 31)], .bool (.eq (.var 35) (.var 32))]] [19] [(33, [.int .i64 (.var 21), .int .i64 (.var 22), .int .i64 (.var 23), .int .i64 (.var 24), .var 25,
 .var 26, .var 27, .int .i64 (.var 28), .int .i64 (.var 29), .int .i64 (.var 30), .bool (.var 31)]), (19, [.int .i64 (.var 21), .int .i64 (.var 22), .int
 .i64 (.var 23), .int .i64 (.var 24), .var 25, .var 26, .var 27, .int .i64 (.var 28), .int .i64 (.var 29), .int .i64 (.var 30), .bool (.var 31)]), (18,
 [.int .i64 (.var 12), .int .i64 (.var 13), .int .i64 (.var 14), .var 15, .var 16]), (17, [.int .i64 (.var 1), .int .i64 (.var 2), .int .i64 (.var 3),
 .int .i64 (.var 4), .var 5, .var 6, .var 7, .int .i64 (.var 8), .int .i64 (.var 9), .int .i64 (.var 10), .bool (.var 11)])])))))) (.call 44 [.agg [.int
 .i64 (.var 1), .int .i64 (.var 2), .int .i64 (.var 3), .int .i64 (.var 4), .var 5, .var 6, .var 7, .int .i64 (.var 8), .int .i64 (.var 9), .int
 .i64 (.var 10), .bool (.var 11)]] [.int .i64, .int .i64, .int .i64, .int .i64, .slice, .slice, .slice, .int .i64, .int .i64,
 .int .i64, .bool] (.agg [.int .i64 (.var 21), .int .i64 (.var 22), .int .i64 (.var 23), .int .i64 (.var 24), .var 25, .var 26, .var 27, .int
 .i64 (.var 28), .int .i64 (.var 29), .int .i64 (.var 30), .bool (.var 31)]) [] false [] [] [19, 18, 17] [(19, [.int .i64 (.lit 0), .int .i64 (.lit 0), .int
 .i64 (.lit 0), .int .i64 (.lit 0), .cst (.slice none 0 0), .cst (.slice none 0 0), .cst (.slice none 0 0), .int .i64 (.lit 0), .int .i64 (.lit 0), .int
 .i64 (.lit 0), .bool (.lit false)]), (18, [.int .i64 (.var 12), .int .i64 (.var 13), .int .i64 (.var 14), .var 15, .var 16]), (17, [.int .i64 (.var 1), .int
 .i64 (.var 2), .int .i64 (.var 3), .int .i64 (.var 4), .var 5, .var 6, .var 7, .int .i64 (.var 8), .int .i64 (.var 9), .int .i64 (.var 10), .bool
 (.var 11)])] (.call 22 [.var 0] [.int .i64] (.int .i64 (.var 32)) [] false [] [] [19, 18, 17] [(19, [.int .i64 (.lit 0), .int .i64 (.lit 0), .int .i64 (.lit
 0), .int .i64 (.lit 0), .cst (.slice none 0 0), .cst (.slice none 0 0), .cst (.slice none 0 0), .int .i64 (.lit 0), .int .i64 (.lit 0), .int .i64 (.lit
 0), .bool (.lit false)]), (18, [.int .i64 (.var 12), .int .i64 (.var 13), .int .i64 (.var 14), .var 15, .var 16]), (17, [.int .i64 (.var 1), .int .i64 (.var
 2), .int .i64 (.var 3), .int .i64 (.var 4), .var 5, .var 6, .var 7, .int .i64 (.var 8), .int .i64 (.var 9), .int .i64 (.var 10), .bool (.var 11)])]
 (.call 18 [.int .i64 (.var 32)] [.int .i64] (.int .i64 (.var 33)) [] false [] [] [19, 18, 17] [(19, [.int .i64 (.lit 0), .int .i64 (.lit 0), .int .i64
 (.lit 0), .int .i64 (.lit 0), .cst (.slice none 0 0), .cst (.slice none 0 0), .cst (.slice none 0 0), .int .i64 (.lit 0), .int .i64 (.lit 0), .int .i64
 (.lit 0), .bool (.lit false)]), (18, [.int .i64 (.var 12), .int .i64 (.var 13), .int .i64 (.var 14), .var 15, .var 16]), (17, [.int .i64 (.var 1), .int .i64
 (.var 2), .int .i64 (.var 3), .int .i64 (.var 4), .var 5, .var 6, .var 7, .int .i64 (.var 8), .int .i64 (.var 9), .int .i64 (.var 10), .bool (.var
 11)])] (.leaf 0 [.tuple [.agg [.int .i64 (.var 21), .int .i64 (.var 22), .int .i64 (.var 23), .int .i64 (.var 24), .var 25, .var 26, .var 27, .int .i64
 (.var 28), .int .i64 (.var 29), .int .i64 (.var 30), .bool (.var 31)], .bool (.eq (.var 33) (.lit 0))]] [19] [(19, [.int .i64 (.var 21), .int .i64 (.var 22),
 .int .i64 (.var 23), .int .i64 (.var 24), .var 25, .var 26, .var 27, .int .i64 (.var 28), .int .i64 (.var 29), .int .i64 (.var 30), .bool (.var 31)]),
 (18, [.int .i64 (.var 12), .int .i64 (.var 13), .int .i64 (.var 14), .var 15, .var 16]), (17, [.int .i64 (.var 1), .int .i64 (.var 2), .int .i64
 (.var 3), .int .i64 (.var 4), .var 5, .var 6, .var 7, .int .i64 (.var 8), .int .i64 (.var 9), .int .i64 (.var 10), .bool (.var 11)])]))))))))))) := by kernel_rfl

theorem t16 : exFn { P := Try.prog, loops := fun r => if Nat.beq r 4 then some ⟨1, [(5, .int .i64)], []⟩ else if Nat.beq r 12 then some ⟨2, [(7, .int .i64)], []⟩ else none } 16 [.var 0, .agg [.int .i64 (.var 1), .int
 .i64 (.var 2), .int .i64 (.var 3), .int .i64 (.var 4), .var 5, .var 6, .var 7, .int .i64 (.var 8), .int .i64 (.var 9), .int .i64 (.var 10), .bool (.var 11)]] [.ptr, .int .i64, .int .i64, .int .i64, .int .i64, .slice,
 .slice, .slice, .int .i64, .int .i64, .int .i64, .bool] [] = .blk (.start true [] [12] [(12, [.int .i64 (.var 1), .int .i64 (.var 2), .int .i64 (.var 3), .int .i64 (.var
 4), .var 5, .var 6, .var 7, .int .i64 (.var 8), .int .i64 (.var 9), .int .i64 (.var 10), .bool (.var 11)])] (.call 23 [.var 0] [.bool] (.bool (.var 13)) [] true []
 [] [12] [(12, [.int .i64 (.var 1), .int .i64 (.var 2), .int .i64 (.var 3), .int .i64 (.var 4), .var 5, .var 6, .var 7, .int .i64 (.var 8), .int .i64
 (.var 9), .int .i64 (.var 10), .bool (.var 11)])] (.split (.beq (.var 13) (.var 11)) (.leaf 0 [.bool (.lit false)] [] [(12, [.int .i64 (.var 1), .int .i64 (.var 2),
 .int .i64 (.var 3), .int .i64 (.var 4), .var 5, .var 6, .var 7, .int .i64 (.var 8), .int .i64 (.var 9), .int .i64 (.var 10), .bool (.var 11)])]) (.call
 24 [.var 0] [.int .i64, .int .i64, .int .i64, .int .i64] (.agg [.int .i64 (.var 14), .int .i64 (.var 15), .int .i64 (.var 16), .int
 .i64 (.var 17)]) [] true [] [] [12] [(12, [.int .i64 (.var 1), .int .i64 (.var 2), .int .i64 (.var 3), .int .i64 (.var 4), .var 5, .var 6, .var 7, .int
 .i64 (.var 8), .int .i64 (.var 9), .int .i64 (.var 10), .bool (.var 11)])] (.pur (.binOp .neq 23 (.tmp 21) (.tmp 23) 23) 4 [(.tmp 21, .agg [.int
 .i64 (.var 14), .int .i64 (.var 15), .int .i64 (.var 16), .int .i64 (.var 17)]), (.tmp 23, .agg [.int .i64 (.var 1), .int .i64 (.var 2), .int
 .i64 (.var 3), .int .i64 (.var 4)])] [.bool] (.bool (.var 18)) (.split (.var 18) (.leaf 0 [.bool (.lit false)] [] [(12, [.int .i64 (.var 1), .int .i64 (.var
 2), .int .i64 (.var 3), .int .i64 (.var 4), .var 5, .var 6, .var 7, .int .i64 (.var 8), .int .i64 (.var 9), .int .i64 (.var 10), .bool (.var 11)])])
 (.call 25 [.var 0] [.int .i64] (.int .i64 (.var 19)) [] true [] [] [12] [(12, [.int .i64 (.var 1), .int .i64 (.var 2), .int .i64 (.var 3), .int .i64
 (.var 4), .var 5, .var 6, .var 7, .int .i64 (.var 8), .int .i64 (.var 9), .int .i64 (.var 10), .bool (.var 11)])] (.split (.not (.eq (.var 19) (.var 8))) (.leaf 0
 [.bool (.lit false)] [] [(12, [.int .i64 (.var 1), .int .i64 (.var 2), .int .i64 (.var 3), .int .i64 (.var 4), .var 5, .var 6, .var 7, .int .i64 (.var 8),
 .int .i64 (.var 9), .int .i64 (.var 10), .bool (.var 11)])]) (.loop 1 [.int .i64 (.lit (-1))] [.int .i64] [] [12] [(12, [.int .i64 (.var 1), .int
 .i64 (.var 2), .int .i64 (.var 3), .int .i64 (.var 4), .var 5, .var 6, .var 7, .int .i64 (.var 8), .int .i64 (.var 9), .int .i64 (.var 10), .bool
 (.var 11)])] [(12, [.int .i64 (.var 1), .int .i64 (.var 2), .int .i64 (.var 3), .int .i64 (.var 4), .var 5, .var 6, .var 7, .int .i64 (.var 8), .int
 .i64 (.var 9), .int .i64 (.var 10), .bool (.var 11)])] (.split (.le (.var 20) (.var 1)) (.call 45 [.agg [.int .i64 (.var 1), .int .i64 (.var 2), .int
 .i64 (.var 3), .int .i64 (.var 4), .var 5, .var 6, .var 7, .int .i64 (.var 8), .int .i64 (.var 9), .int .i64 (.var 10), .bool (.var 11)], .int .i64
 (.var 20)] [.bool] (.bool (.var 21)) [] false [] [] [12] [(12, [.int .i64 (.var 1), .int .i64 (.var 2), .int .i64 (.var 3), .int .i64 (.var 4), .var 5, .var 6,
 .var 7, .int .i64 (.var 8), .int .i64 (.var 9), .int .i64 (.var 10), .bool (.var 11)])] (.split (.var 21) (.ob (.le (.lit 0) (.var 20)) (.ob (.lt (.var 20)
 (.len 7)) (.ob (.not (.nil 7)) (.start false [] [] [(12, [.int .i64 (.var 1), .int .i64 (.var 2), .int .i64 (.var 3), .int .i64 (.var 4), .var 5, .var 6, .var
 7, .int .i64 (.var 8), .int .i64 (.var 9), .int .i64 (.var 10), .bool (.var 11)])] (.load (.elt 7 0 (.var 20) 1 0) [.int .i64] (.start true [] [12] [(12, [.int
 .i64 (.var 1), .int .i64 (.var 2), .int .i64 (.var 3), .int .i64 (.var 4), .var 5, .var 6, .var 7, .int .i64 (.var 8), .int .i64 (.var 9), .int
 .i64 (.var 10), .bool (.var 11)])] (.call 26 [.var 0, .int .i64 (.var 20)] [.int .i64] (.int .i64 (.var 23)) [] true [] [] [12] [(12, [.int .i64 (.var 1),
 .int .i64 (.var 2), .int .i64 (.var 3), .int .i64 (.var 4), .var 5, .var 6, .var 7, .int .i64 (.var 8), .int .i64 (.var 9), .int .i64 (.var 10),
 .bool (.var 11)])] (.call 46 [.agg [.int .i64 (.var 1), .int .i64 (.var 2), .int .i64 (.var 3), .int .i64 (.var 4), .var 5, .var 6, .var 7, .int .i64
 (.var 8), .int .i64 (.var 9), .int .i64 (.var 10), .bool (.var 11)], .int .i64 (.var 20)] [.int .i64] (.int .i64 (.var 24)) [] true [] [] [12] [(12, [.int
 .i64 (.var 1), .int .i64 (.var 2), .int .i64 (.var 3), .int .i64 (.var 4), .var 5, .var 6, .var 7, .int .i64 (.var 8), .int .i64 (.var 9), .int
 .i64 (.var 10), .bool (.var 11)])] (.split (.not (.eq (.var 23) (.var 24))) (.leaf 0 [.bool (.lit false)] [] [(12, [.int .i64 (.var 1), .int .i64 (.var 2), .int
 .i64 (.var 3), .int .i64 (.var 4), .var 5, .var 6, .var 7, .int .i64 (.var 8), .int .i64 (.var 9), .int .i64 (.var 10), .bool (.var 11)])]) (.call 27
 [.var 0, .int .i64 (.var 20)] [.int .i64] (.int .i64 (.var 25)) [] true [] [] [12] [(12, [.int .i64 (.var 1), .int .i64 (.var 2), .int .i64 (.var 3),
 .int .i64 (.var 4), .var 5, .var 6, .var 7, .int .i64 (.var 8), .int .i64 (.var 9), .int .i64 (.var 10), .bool (.var 11)])] (.split (.not (.eq (.var 25)
 (.var 22))) (.leaf 0 [.bool (.lit false)] [] [(12, [.int .i64 (.var 1), .int .i64 (.var 2), .int .i64 (.var 3), .int .i64 (.var 4), .var 5, .var 6, .var 7,
 .int .i64 (.var 8), .int .i64 (.var 9), .int .i64 (.var 10), .bool (.var 11)])]) (.loop 2 [.int .i64 (.lit (-1))] [.int .i64] [] [12] [(12, [.int
 .i64 (.var 1), .int .i64 (.var 2), .int .i64 (.var 3), .int .i64 (.var 4), .var 5, .var 6, .var 7, .int .i64 (.var 8), .int .i64 (.var 9), .int
 .i64 (.var 10), .bool (.var 11)])] [(12, [.int .i64 (.var 1), .int .i64 (.var 2), .int .i64 (.var 3), .int .i64 (.var 4), .var 5, .var 6, .var 7, .int
 .i64 (.var 8), .int .i64 (.var 9), .int .i64 (.var 10), .bool (.var 11)])] (.split (.le (.var 26) (.var 2)) (.call 13 [.var 0, .int .i64 (.var 20), .int
 .i64 (.var 26)] [.slice, .slice, .int .i64] (.tuple [.var 27, .var 28, .int .i64 (.var 29)]) [] false [] [] [12] [(12, [.int .i64 (.var 1), .int .i64
 (.var 2), .int .i64 (.var 3), .int .i64 (.var 4), .var 5, .var 6, .var 7, .int .i64 (.var 8), .int .i64 (.var 9), .int .i64 (.var 10), .bool (.var
 11)])] (.call 42 [.agg [.int .i64 (.var 1), .int .i64 (.var 2), .int .i64 (.var 3), .int .i64 (.var 4), .var 5, .var 6, .var 7, .int .i64 (.var 8), .int
 .i64 (.var 9), .int .i64 (.var 10), .bool (.var 11)], .int .i64 (.var 20), .int .i64 (.var 26)] [.slice, .slice, .int .i64] (.tuple [.var 30, .var
 31, .int .i64 (.var 32)]) [] false [] [] [12] [(12, [.int .i64 (.var 1), .int .i64 (.var 2), .int .i64 (.var 3), .int .i64 (.var 4), .var 5, .var 6, .var 7,
 .int .i64 (.var 8), .int .i64 (.var 9), .int .i64 (.var 10), .bool (.var 11)])] (.start true [] [12] [(12, [.int .i64 (.var 1), .int .i64 (.var 2), .int
 .i64 (.var 3), .int .i64 (.var 4), .var 5, .var 6, .var 7, .int .i64 (.var 8), .int .i64 (.var 9), .int .i64 (.var 10), .bool (.var 11)])] (.call 28
 [.var 0, .int .i64 (.var 20), .int .i64 (.var 26)] [.int .i64] (.int .i64 (.var 33)) [] true [] [] [12] [(12, [.int .i64 (.var 1), .int .i64 (.var 2),
 .int .i64 (.var 3), .int .i64 (.var 4), .var 5, .var 6, .var 7, .int .i64 (.var 8), .int .i64 (.var 9), .int .i64 (.var 10), .bool (.var 11)])] (.call
 47 [.agg [.int .i64 (.var 1), .int .i64 (.var 2), .int .i64 (.var 3), .int .i64 (.var 4), .var 5, .var 6, .var 7, .int .i64 (.var 8), .int .i64
 (.var 9), .int .i64 (.var 10), .bool (.var 11)], .int .i64 (.var 20), .int .i64 (.var 26)] [.int .i64] (.int .i64 (.var 34)) [] true [] [] [12] [(12, [.int
 .i64 (.var 1), .int .i64 (.var 2), .int .i64 (.var 3), .int .i64 (.var 4), .var 5, .var 6, .var 7, .int .i64 (.var 8), .int .i64 (.var 9), .int
 .i64 (.var 10), .bool (.var 11)])] (.split (.not (.eq (.var 33) (.var 34))) (.leaf 0 [.bool (.lit false)] [] [(12, [.int .i64 (.var 1), .int .i64 (.var 2), .int
 .i64 (.var 3), .int .i64 (.var 4), .var 5, .var 6, .var 7, .int .i64 (.var 8), .int .i64 (.var 9), .int .i64 (.var 10), .bool (.var 11)])]) (.call 30
 [.var 27, .var 30] [.bool] (.bool (.var 35)) [] true [] [] [12] [(12, [.int .i64 (.var 1), .int .i64 (.var 2), .int .i64 (.var 3), .int .i64 (.var 4), .var 5,
 .var 6, .var 7, .int .i64 (.var 8), .int .i64 (.var 9), .int .i64 (.var 10), .bool (.var 11)])] (.split (.not (.var 35)) (.leaf 0 [.bool (.lit false)] [] [(12,
 [.int .i64 (.var 1), .int .i64 (.var 2), .int .i64 (.var 3), .int .i64 (.var 4), .var 5, .var 6, .var 7, .int .i64 (.var 8), .int .i64 (.var 9),
 .int .i64 (.var 10), .bool (.var 11)])]) (.call 30 [.var 28, .var 31] [.bool] (.bool (.var 36)) [] true [] [] [12] [(12, [.int .i64 (.var 1), .int .i64 (.var 2), .int
 .i64 (.var 3), .int .i64 (.var 4), .var 5, .var 6, .var 7, .int .i64 (.var 8), .int .i64 (.var 9), .int .i64 (.var 10), .bool (.var 11)])] (.split (.not
 (.var 36)) (.leaf 0 [.bool (.lit false)] [] [(12, [.int .i64 (.var 1), .int .i64 (.var 2), .int .i64 (.var 3), .int .i64 (.var 4), .var 5, .var 6, .var 7, .int
 .i64 (.var 8), .int .i64 (.var 9), .int .i64 (.var 10), .bool (.var 11)])]) (.call 18 [.int .i64 (.var 29)] [.int .i64] (.int .i64 (.var 37)) [] true
 [] [] [12] [(12, [.int .i64 (.var 1), .int .i64 (.var 2), .int .i64 (.var 3), .int .i64 (.var 4), .var 5, .var 6, .var 7, .int .i64 (.var 8), .int
 .i64 (.var 9), .int .i64 (.var 10), .bool (.var 11)])] (.split (.not (.eq (.var 37) (.var 32))) (.leaf 0 [.bool (.lit false)] [] [(12, [.int .i64 (.var 1), .int
 .i64 (.var 2), .int .i64 (.var 3), .int .i64 (.var 4), .var 5, .var 6, .var 7, .int .i64 (.var 8), .int .i64 (.var 9), .int .i64 (.var 10), .bool
 (.var 11)])]) (.ob (.le (.lit (-9223372036854775808)) (.add (.var 26) (.lit 1))) (.ob (.le (.add (.var 26) (.lit 1)) (.lit 9223372036854775807)) (.leaf 2 [.int .i64 (.add (.var
 26) (.lit 1))] [] [(12, [.int .i64 (.var 1), .int .i64 (.var 2), .int .i64 (.var 3), .int .i64 (.var 4), .var 5, .var 6, .var 7, .int .i64 (.var 8), .int
 .i64 (.var 9), .int .i64 (.var 10), .bool (.var 11)])]))))))))))))))) (.ob (.le (.lit (-9223372036854775808)) (.add (.var 20) (.lit 1))) (.ob (.le (.add (.var 20) (.lit 1))
 (.lit 9223372036854775807)) (.leaf 1 [.int .i64 (.add (.var 20) (.lit 1))] [] [(12, [.int .i64 (.var 1), .int .i64 (.var 2), .int .i64 (.var 3), .int .i64
 (.var 4), .var 5, .var 6, .var 7, .int .i64 (.var 8), .int .i64 (.var 9), .int .i64 (.var 10), .bool (.var 11)])])))))))))))))))) (.start true [] [12] [(12, [.int
 .i64 (.var 1), .int .i64 (.var 2), .int .i64 (.var 3), .int .i64 (.var 4), .var 5, .var 6, .var 7, .int .i64 (.var 8), .int .i64 (.var 9), .int
 .i64 (.var 10), .bool (.var 11)])] (.call 26 [.var 0, .int .i64 (.var 20)] [.int .i64] (.int .i64 (.var 22)) [] true [] [] [12] [(12, [.int .i64 (.var 1),
 .int .i64 (.var 2), .int .i64 (.var 3), .int .i64 (.var 4), .var 5, .var 6, .var 7, .int .i64 (.var 8), .int .i64 (.var 9), .int .i64 (.var 10),
 .bool (.var 11)])] (.call 46 [.agg [.int .i64 (.var 1), .int .i64 (.var 2), .int .i64 (.var 3), .int .i64 (.var 4), .var 5, .var 6, .var 7, .int .i64
 (.var 8), .int .i64 (.var 9), .int .i64 (.var 10), .bool (.var 11)], .int .i64 (.var 20)] [.int .i64] (.int .i64 (.var 23)) [] true [] [] [12] [(12, [.int
 .i64 (.var 1), .int .i64 (.var 2), .int .i64 (.var 3), .int .i64 (.var 4), .var 5, .var 6, .var 7, .int .i64 (.var 8), .int .i64 (.var 9), .int
 .i64 (.var 10), .bool (.var 11)])] (.split (.not (.eq (.var 22) (.var 23))) (.leaf 0 [.bool (.lit false)] [] [(12, [.int .i64 (.var 1), .int .i64 (.var 2), .int
 .i64 (.var 3), .int .i64 (.var 4), .var 5, .var 6, .var 7, .int .i64 (.var 8), .int .i64 (.var 9), .int .i64 (.var 10), .bool (.var 11)])]) (.call 27
 [.var 0, .int .i64 (.var 20)] [.int .i64] (.int .i64 (.var 24)) [] true [] [] [12] [(12, [.int .i64 (.var 1), .int .i64 (.var 2), .int .i64 (.var 3),
 .int .i64 (.var 4), .var 5, .var 6, .var 7, .int .i64 (.var 8), .int .i64 (.var 9), .int .i64 (.var 10), .bool (.var 11)])] (.split (.not (.eq (.var 24)
 (.lit 0))) (.leaf 0 [.bool (.lit false)] [] [(12, [.int .i64 (.var 1), .int .i64 (.var 2), .int .i64 (.var 3), .int .i64 (.var 4), .var 5, .var 6, .var 7, .int
 .i64 (.var 8), .int .i64 (.var 9), .int .i64 (.var 10), .bool (.var 11)])]) (.loop 2 [.int .i64 (.lit (-1))] [.int .i64] [] [12] [(12, [.int .i64
 (.var 1), .int .i64 (.var 2), .int .i64 (.var 3), .int .i64 (.var 4), .var 5, .var 6, .var 7, .int .i64 (.var 8), .int .i64 (.var 9), .int .i64
 (.var 10), .bool (.var 11)])] [(12, [.int .i64 (.var 1), .int .i64 (.var 2), .int .i64 (.var 3), .int .i64 (.var 4), .var 5, .var 6, .var 7, .int .i64
 (.var 8), .int .i64 (.var 9), .int .i64 (.var 10), .bool (.var 11)])] (.split (.le (.var 25) (.var 2)) (.call 13 [.var 0, .int .i64 (.var 20), .int .i64
 (.var 25)] [.slice, .slice, .int .i64] (.tuple [.var 26, .var 27, .int .i64 (.var 28)]) [] false [] [] [12] [(12, [.int .i64 (.var 1), .int .i64 (.var 2),
 .int .i64 (.var 3), .int .i64 (.var 4), .var 5, .var 6, .var 7, .int .i64 (.var 8), .int .i64 (.var 9), .int .i64 (.var 10), .bool (.var 11)])] (.call
 42 [.agg [.int .i64 (.var 1), .int .i64 (.var 2), .int .i64 (.var 3), .int .i64 (.var 4), .var 5, .var 6, .var 7, .int .i64 (.var 8), .int .i64
 (.var 9), .int .i64 (.var 10), .bool (.var 11)], .int .i64 (.var 20), .int .i64 (.var 25)] [.slice, .slice, .int .i64] (.tuple [.var 29, .var 30, .int
 .i64 (.var 31)]) [] false [] [] [12] [(12, [.int .i64 (.var 1), .int .i64 (.var 2), .int .i64 (.var 3), .int .i64 (.var 4), .var 5, .var 6, .var 7, .int
 .i64 (.var 8), .int .i64 (.var 9), .int .i64 (.var 10), .bool (.var 11)])] (.start true [] [12] [(12, [.int .i64 (.var 1), .int .i64 (.var 2), .int
 .i64 (.var 3), .int .i64 (.var 4), .var 5, .var 6, .var 7, .int .i64 (.var 8), .int .i64 (.var 9), .int .i64 (.var 10), .bool (.var 11)])] (.call 28
 [.var 0, .int .i64 (.var 20), .int .i64 (.var 25)] [.int .i64] (.int .i64 (.var 32)) [] true [] [] [12] [(12, [.int .i64 (.var 1), .int .i64 (.var 2),
 .int .i64 (.var 3), .int .i64 (.var 4), .var 5, .var 6, .var 7, .int .i64 (.var 8), .int .i64 (.var 9), .int .i64 (.var 10), .bool (.var 11)])] (.call
 47 [.agg [.int .i64 (.var 1), .int .i64 (.var 2), .int .i64 (.var 3), .int .i64 (.var 4), .var 5, .var 6, .var 7, .int .i64 (.var 8), .int .i64
 (.var 9), .int .i64 (.var 10), .bool (.var 11)], .int .i64 (.var 20), .int .i64 (.var 25)] [.int .i64] (.int .i64 (.var 33)) [] true [] [] [12] [(12, [.int
 .i64 (.var 1), .int .i64 (.var 2), .int .i64 (.var 3), .int .i64 (.var 4), .var 5, .var 6, .var 7, .int .i64 (.var 8), .int .i64 (.var 9), .int
 .i64 (.var 10), .bool (.var 11)])] (.split (.not (.eq (.var 32) (.var 33))) (.leaf 0 [.bool (.lit false)] [] [(12, [.int .i64 (.var 1), .int .i64 (.var 2), .int
 .i64 (.var 3), .int .i64 (.var 4), .var 5, .var 6, .var 7, .int .i64 (.var 8), .int .i64 (.var 9), .int .i64 (.var 10), .bool (.var 11)])]) (.call 30
 [.var 26, .var 29] [.bool] (.bool (.var 34)) [] true [] [] [12] [(12, [.int .i64 (.var 1), .int .i64 (.var 2), .int .i64 (.var 3), .int .i64 (.var 4), .var 5,
 .var 6, .var 7, .int .i64 (.var 8), .int .i64 (.var 9), .int .i64 (.var 10), .bool (.var 11)])] (.split (.not (.var 34)) (.leaf 0 [.bool (.lit false)] [] [(12,
 [.int .i64 (.var 1), .int .i64 (.var 2), .int .i64 (.var 3), .int .i64 (.var 4), .var 5, .var 6, .var 7, .int .i64 (.var 8), .int .i64 (.var 9),
 .int .i64 (.var 10), .bool (.var 11)])]) (.call 30 [.var 27, .var 30] [.bool] (.bool (.var 35)) [] true [] [] [12] [(12, [.int .i64 (.var 1), .int .i64 (.var 2), .int
 .i64 (.var 3), .int .i64 (.var 4), .var 5, .var 6, .var 7, .int .i64 (.var 8), .int .i64 (.var 9), .int .i64 (.var 10), .bool (.var 11)])] (.split (.not
 (.var 35)) (.leaf 0 [.bool (.lit false)] [] [(12, [.int .i64 (.var 1), .int .i64 (.var 2), .int .i64 (.var 3), .int .i64 (.var 4), .var 5, .var 6, .var 7, .int
 .i64 (.var 8), .int .i64 (.var 9), .int .i64 (.var 10), .bool (.var 11)])]) (.call 18 [.int .i64 (.var 28)] [.int .i64] (.int .i64 (.var 36)) [] true
 [] [] [12] [(12, [.int .i64 (.var 1), .int .i64 (.var 2), .int .i64 (.var 3), .int .i64 (.var 4), .var 5, .var 6, .var 7, .int .i64 (.var 8), .int
 .i64 (.var 9), .int .i64 (.var 10), .bool (.var 11)])] (.split (.not (.eq (.var 36) (.var 31))) (.leaf 0 [.bool (.lit false)] [] [(12, [.int .i64 (.var 1), .int
 .i64 (.var 2), .int .i64 (.var 3), .int .i64 (.var 4), .var 5, .var 6, .var 7, .int .i64 (.var 8), .int .i64 (.var 9), .int .i64 (.var 10), .bool
 (.var 11)])]) (.ob (.le (.lit (-9223372036854775808)) (.add (.var 25) (.lit 1))) (.ob (.le (.add (.var 25) (.lit 1)) (.lit 9223372036854775807)) (.leaf 2 [.int .i64 (.add (.var
 25) (.lit 1))] [] [(12, [.int .i64 (.var 1), .int .i64 (.var 2), .int .i64 (.var 3), .int .i64 (.var 4), .var 5, .var 6, .var 7, .int .i64 (.var 8), .int
 .i64 (.var 9), .int .i64 (.var 10), .bool (.var 11)])]))))))))))))))) (.ob (.le (.lit (-9223372036854775808)) (.add (.var 20) (.lit 1))) (.ob (.le (.add (.var 20) (.lit 1))
 (.lit 9223372036854775807)) (.leaf 1 [.int .i64 (.add (.var 20) (.lit 1))] [] [(12, [.int .i64 (.var 1), .int .i64 (.var 2), .int .i64 (.var 3), .int .i64
 (.var 4), .var 5, .var 6, .var 7, .int .i64 (.var 8), .int .i64 (.var 9), .int .i64 (.var 10), .bool (.var 11)])]))))))))))))) (.leaf 0 [.bool (.lit true)] [] [(12,
 [.int .i64 (.var 1), .int .i64 (.var 2), .int .i64 (.var 3), .int .i64 (.var 4), .var 5, .var 6, .var 7, .int .i64 (.var 8), .int .i64 (.var 9),
 .int .i64 (.var 10), .bool (.var 11)])]))))))))))) := by kernel_rfl

end Go.Proofs.Ytppbapnibpeolaa
