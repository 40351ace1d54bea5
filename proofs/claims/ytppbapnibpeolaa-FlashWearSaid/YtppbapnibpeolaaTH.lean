/- What the functions of the chapter come to, printed by a program of the prover's and checked by the kernel. No conditions. -/
import Derived.Test.YtppbapnibpeolaaSxZI
import Derived.Test.YtppbapnibpeolaaProg
import Derived.KernelRfl
set_option maxRecDepth 100000
set_option linter.unusedVariables false
namespace Go.Proofs.Ytppbapnibpeolaa
open Go.Sx

theorem t15 : exFn { P := Try.prog, joins := (fun r => if Nat.beq r 6 then some ⟨1, [(22, .bool)], []⟩ else none) } 15 [.var 0, .agg [.int .i64 (.var 1), .int .i64 (.var 2), .int .i64 (.var 3), .int .i64 (.var 4), .var
 5, .var 6, .var 7, .int .i64 (.var 8), .int .i64 (.var 9), .int .i64 (.var 10), .bool (.var 11)], .agg [.int .i64 (.var 12), .int .i64 (.var 13), .int .i64 (.var 14), .var 15, .var 16]] [.ptr, .int .i64, .int .i64, .int
 .i64, .int .i64, .slice, .slice, .slice, .int .i64, .int .i64, .int .i64, .bool, .int .i64, .int .i64, .int .i64, .slice, .slice] [] = .blk (.blk (.blk (.cut 1 [.bool] [19, 18, 17] [(19, [.int .i64
 (.lit 0), .int .i64 (.lit 0), .int .i64 (.lit 0), .int .i64 (.lit 0), .cst (.slice none 0 0), .cst (.slice none 0 0), .cst (.slice none 0 0), .int .i64
 (.lit 0), .int .i64 (.lit 0), .int .i64 (.lit 0), .bool (.lit false)]), (18, [.int .i64 (.var 12), .int .i64 (.var 13), .int .i64 (.var 14), .var 15, .var
 16]), (17, [.int .i64 (.var 1), .int .i64 (.var 2), .int .i64 (.var 3), .int .i64 (.var 4), .var 5, .var 6, .var 7, .int .i64 (.var 8), .int .i64
 (.var 9), .int .i64 (.var 10), .bool (.var 11)])] (.split (.eq (.var 12) (.lit 0)) (.leaf 1 [.bool (.eq (.var 12) (.lit 0))] [] [(19, [.int .i64 (.lit 0), .int .i64
 (.lit 0), .int .i64 (.lit 0), .int .i64 (.lit 0), .cst (.slice none 0 0), .cst (.slice none 0 0), .cst (.slice none 0 0), .int .i64 (.lit 0), .int .i64
 (.lit 0), .int .i64 (.lit 0), .bool (.lit false)]), (18, [.int .i64 (.var 12), .int .i64 (.var 13), .int .i64 (.var 14), .var 15, .var 16]), (17, [.int .i64
 (.var 1), .int .i64 (.var 2), .int .i64 (.var 3), .int .i64 (.var 4), .var 5, .var 6, .var 7, .int .i64 (.var 8), .int .i64 (.var 9), .int .i64
 (.var 10), .bool (.var 11)])]) (.split (.eq (.var 12) (.lit 1)) (.leaf 1 [.bool (.eq (.var 12) (.lit 1))] [] [(19, [.int .i64 (.lit 0), .int .i64 (.lit 0), .int
 .i64 (.lit 0), .int .i64 (.lit 0), .cst (.slice none 0 0), .cst (.slice none 0 0), .cst (.slice none 0 0), .int .i64 (.lit 0), .int .i64 (.lit 0), .int
 .i64 (.lit 0), .bool (.lit false)]), (18, [.int .i64 (.var 12), .int .i64 (.var 13), .int .i64 (.var 14), .var 15, .var 16]), (17, [.int .i64 (.var 1), .int
 .i64 (.var 2), .int .i64 (.var 3), .int .i64 (.var 4), .var 5, .var 6, .var 7, .int .i64 (.var 8), .int .i64 (.var 9), .int .i64 (.var 10), .bool
 (.var 11)])]) (.split (.eq (.var 12) (.lit 2)) (.leaf 1 [.bool (.eq (.var 12) (.lit 2))] [] [(19, [.int .i64 (.lit 0), .int .i64 (.lit 0), .int .i64 (.lit 0), .int
 .i64 (.lit 0), .cst (.slice none 0 0), .cst (.slice none 0 0), .cst (.slice none 0 0), .int .i64 (.lit 0), .int .i64 (.lit 0), .int .i64 (.lit 0), .bool
 (.lit false)]), (18, [.int .i64 (.var 12), .int .i64 (.var 13), .int .i64 (.var 14), .var 15, .var 16]), (17, [.int .i64 (.var 1), .int .i64 (.var 2), .int
 .i64 (.var 3), .int .i64 (.var 4), .var 5, .var 6, .var 7, .int .i64 (.var 8), .int .i64 (.var 9), .int .i64 (.var 10), .bool (.var 11)])]) (.leaf 1
 [.bool (.eq (.var 12) (.lit 3))] [] [(19, [.int .i64 (.lit 0), .int .i64 (.lit 0), .int .i64 (.lit 0), .int .i64 (.lit 0), .cst (.slice none 0 0), .cst
 (.slice none 0 0), .cst (.slice none 0 0), .int .i64 (.lit 0), .int .i64 (.lit 0), .int .i64 (.lit 0), .bool (.lit false)]), (18, [.int .i64 (.var 12), .int
 .i64 (.var 13), .int .i64 (.var 14), .var 15, .var 16]), (17, [.int .i64 (.var 1), .int .i64 (.var 2), .int .i64 (.var 3), .int .i64 (.var 4), .var
 5, .var 6, .var 7, .int .i64 (.var 8), .int .i64 (.var 9), .int .i64 (.var 10), .bool (.var 11)])])))) (.split (.var 20) (.call 40 [.agg [.int .i64 (.var 1),
 .int .i64 (.var 2), .int .i64 (.var 3), .int .i64 (.var 4), .var 5, .var 6, .var 7, .int .i64 (.var 8), .int .i64 (.var 9), .int .i64 (.var 10),
 .bool (.var 11)], .int .i64 (.var 13), .int .i64 (.var 14), .var 15, .var 16] [.int .i64, .int .i64, .int .i64, .int .i64, .slice,
 .slice, .slice, .int .i64, .int .i64, .int .i64, .bool, .int .i64] (.tuple [.agg [.int .i64 (.var 21), .int .i64 (.var 22), .int
 .i64 (.var 23), .int .i64 (.var 24), .var 25, .var 26, .var 27, .int .i64 (.var 28), .int .i64 (.var 29), .int .i64 (.var 30), .bool (.var 31)], .int
 .i64 (.var 32)]) [] false [] [] [19, 18, 17] [(19, [.int .i64 (.lit 0), .int .i64 (.lit 0), .int .i64 (.lit 0), .int .i64 (.lit 0), .cst (.slice none 0 0),
 .cst (.slice none 0 0), .cst (.slice none 0 0), .int .i64 (.lit 0), .int .i64 (.lit 0), .int .i64 (.lit 0), .bool (.lit false)]), (18, [.int .i64 (.var 12),
 .int .i64 (.var 13), .int .i64 (.var 14), .var 15, .var 16]), (17, [.int .i64 (.var 1), .int .i64 (.var 2), .int .i64 (.var 3), .int .i64 (.var 4),
 .var 5, .var 6, .var 7, .int .i64 (.var 8), .int .i64 (.var 9), .int .i64 (.var 10), .bool (.var 11)])] (.blk (.start true [33] [33, 19, 18, 17] [(33, [.int .i64
 (.var 21), .int .i64 (.var 22), .int .i64 (.var 23), .int .i64 (.var 24), .var 25, .var 26, .var 27, .int .i64 (.var 28), .int .i64 (.var 29), .int
 .i64 (.var 30), .bool (.var 31)]), (19, [.int .i64 (.lit 0), .int .i64 (.lit 0), .int .i64 (.lit 0), .int .i64 (.lit 0), .cst (.slice none 0 0), .cst
 (.slice none 0 0), .cst (.slice none 0 0), .int .i64 (.lit 0), .int .i64 (.lit 0), .int .i64 (.lit 0), .bool (.lit false)]), (18, [.int .i64 (.var 12), .int
 .i64 (.var 13), .int .i64 (.var 14), .var 15, .var 16]), (17, [.int .i64 (.var 1), .int .i64 (.var 2), .int .i64 (.var 3), .int .i64 (.var 4), .var
 5, .var 6, .var 7, .int .i64 (.var 8), .int .i64 (.var 9), .int .i64 (.var 10), .bool (.var 11)])] (.call 19 [.var 0, .int .i64 (.var 13), .int .i64
 (.var 14), .var 15, .var 16] [.int .i64] (.int .i64 (.var 34)) [] true [] [] [33, 19, 18, 17] [(33, [.int .i64 (.var 21), .int .i64 (.var 22), .int .i64 (.var
 23), .int .i64 (.var 24), .var 25, .var 26, .var 27, .int .i64 (.var 28), .int .i64 (.var 29), .int .i64 (.var 30), .bool (.var 31)]), (19, [.int .i64
 (.lit 0), .int .i64 (.lit 0), .int .i64 (.lit 0), .int .i64 (.lit 0), .cst (.slice none 0 0), .cst (.slice none 0 0), .cst (.slice none 0 0), .int .i64
 (.lit 0), .int .i64 (.lit 0), .int .i64 (.lit 0), .bool (.lit false)]), (18, [.int .i64 (.var 12), .int .i64 (.var 13), .int .i64 (.var 14), .var 15, .var
 16]), (17, [.int .i64 (.var 1), .int .i64 (.var 2), .int .i64 (.var 3), .int .i64 (.var 4), .var 5, .var 6, .var 7, .int .i64 (.var 8), .int .i64
 (.var 9), .int .i64 (.var 10), .bool (.var 11)])] (.call 18 [.int .i64 (.var 34)] [.int .i64] (.int .i64 (.var 35)) [] true [] [] [33, 19, 18, 17] [(33, [.int
 .i64 (.var 21), .int .i64 (.var 22), .int .i64 (.var 23), .int .i64 (.var 24), .var 25, .var 26, .var 27, .int .i64 (.var 28), .int .i64 (.var 29),
 .int .i64 (.var 30), .bool (.var 31)]), (19, [.int .i64 (.lit 0), .int .i64 (.lit 0), .int .i64 (.lit 0), .int .i64 (.lit 0), .cst (.slice none 0 0),
 .cst (.slice none 0 0), .cst (.slice none 0 0), .int .i64 (.lit 0), .int .i64 (.lit 0), .int .i64 (.lit 0), .bool (.lit false)]), (18, [.int .i64 (.var 12),
 .int .i64 (.var 13), .int .i64 (.var 14), .var 15, .var 16]), (17, [.int .i64 (.var 1), .int .i64 (.var 2), .int .i64 (.var 3), .int .i64 (.var 4),
 .var 5, .var 6, .var 7, .int .i64 (.var 8), .int .i64 (.var 9), .int .i64 (.var 10), .bool (.var 11)])] (.leaf 0 [.tuple [.agg [.int .i64 (.var 21), .int
 .i64 (.var 22), .int .i64 (.var 23), .int .i64 (.var 24), .var 25, .var 26, .var 27, .int .i64 (.var 28), .int .i64 (.var 29), .int .i64 (.var 30),
 .bool (.var 31)], .bool (.eq (.var 35) (.var 32))]] [19] [(33, [.int .i64 (.var 21), .int .i64 (.var 22), .int .i64 (.var 23), .int .i64 (.var 24), .var 25,
 .var 26, .var 27, .int .i64 (.var 28), .int .i64 (.var 29), .int .i64 (.var 30), .bool (.var 31)]), (19, [.int .i64 (.var 21), .int .i64 (.var 22), .int
 .i64 (.var 23), .int .i64 (.var 24), .var 25, .var 26, .var 27, .int .i64 (.var 28), .int .i64 (.var 29), .int .i64 (.var 30), .bool (.var 31)]), (18,
 [.int .i64 (.var 12), .int .i64 (.var 13), .int .i64 (.var 14), .var 15, .var 16]), (17, [.int .i64 (.var 1), .int .i64 (.var 2), .int .i64 (.var 3),
 .int .i64 (.var 4), .var 5, .var 6, .var 7, .int .i64 (.var 8), .int .i64 (.var 9), .int .i64 (.var 10), .bool (.var 11)])])))))) (.split (.eq (.var 12)
 (.lit 4)) (.call 41 [.agg [.int .i64 (.var 1), .int .i64 (.var 2), .int .i64 (.var 3), .int .i64 (.var 4), .var 5, .var 6, .var 7, .int .i64 (.var 8),
 .int .i64 (.var 9), .int .i64 (.var 10), .bool (.var 11)], .int .i64 (.var 13)] [.int .i64, .int .i64, .int .i64, .int .i64, .slice,
 .slice, .slice, .int .i64, .int .i64, .int .i64, .bool, .int .i64] (.tuple [.agg [.int .i64 (.var 21), .int .i64 (.var 22), .int
 .i64 (.var 23), .int .i64 (.var 24), .var 25, .var 26, .var 27, .int .i64 (.var 28), .int .i64 (.var 29), .int .i64 (.var 30), .bool (.var 31)], .int
 .i64 (.var 32)]) [] false [] [] [19, 18, 17] [(19, [.int .i64 (.lit 0), .int .i64 (.lit 0), .int .i64 (.lit 0), .int .i64 (.lit 0), .cst (.slice none 0 0),
 .cst (.slice none 0 0), .cst (.slice none 0 0), .int .i64 (.lit 0), .int .i64 (.lit 0), .int .i64 (.lit 0), .bool (.lit false)]), (18, [.int .i64 (.var 12),
 .int .i64 (.var 13), .int .i64 (.var 14), .var 15, .var 16]), (17, [.int .i64 (.var 1), .int .i64 (.var 2), .int .i64 (.var 3), .int .i64 (.var 4),
 .var 5, .var 6, .var 7, .int .i64 (.var 8), .int .i64 (.var 9), .int .i64 (.var 10), .bool (.var 11)])] (.blk (.start true [33] [33, 19, 18, 17] [(33, [.int .i64
 (.var 21), .int .i64 (.var 22), .int .i64 (.var 23), .int .i64 (.var 24), .var 25, .var 26, .var 27, .int .i64 (.var 28), .int .i64 (.var 29), .int
 .i64 (.var 30), .bool (.var 31)]), (19, [.int .i64 (.lit 0), .int .i64 (.lit 0), .int .i64 (.lit 0), .int .i64 (.lit 0), .cst (.slice none 0 0), .cst
 (.slice none 0 0), .cst (.slice none 0 0), .int .i64 (.lit 0), .int .i64 (.lit 0), .int .i64 (.lit 0), .bool (.lit false)]), (18, [.int .i64 (.var 12), .int
 .i64 (.var 13), .int .i64 (.var 14), .var 15, .var 16]), (17, [.int .i64 (.var 1), .int .i64 (.var 2), .int .i64 (.var 3), .int .i64 (.var 4), .var
 5, .var 6, .var 7, .int .i64 (.var 8), .int .i64 (.var 9), .int .i64 (.var 10), .bool (.var 11)])] (.call 20 [.var 0, .int .i64 (.var 13)] [.int .i64]
 (.int .i64 (.var 34)) [] true [] [] [33, 19, 18, 17] [(33, [.int .i64 (.var 21), .int .i64 (.var 22), .int .i64 (.var 23), .int .i64 (.var 24), .var 25, .var
 26, .var 27, .int .i64 (.var 28), .int .i64 (.var 29), .int .i64 (.var 30), .bool (.var 31)]), (19, [.int .i64 (.lit 0), .int .i64 (.lit 0), .int
 .i64 (.lit 0), .int .i64 (.lit 0), .cst (.slice none 0 0), .cst (.slice none 0 0), .cst (.slice none 0 0), .int .i64 (.lit 0), .int .i64 (.lit 0), .int
 .i64 (.lit 0), .bool (.lit false)]), (18, [.int .i64 (.var 12), .int .i64 (.var 13), .int .i64 (.var 14), .var 15, .var 16]), (17, [.int .i64 (.var 1), .int
 .i64 (.var 2), .int .i64 (.var 3), .int .i64 (.var 4), .var 5, .var 6, .var 7, .int .i64 (.var 8), .int .i64 (.var 9), .int .i64 (.var 10), .bool
 (.var 11)])] (.call 18 [.int .i64 (.var 34)] [.int .i64] (.int .i64 (.var 35)) [] true [] [] [33, 19, 18, 17] [(33, [.int .i64 (.var 21), .int .i64 (.var 22),
 .int .i64 (.var 23), .int .i64 (.var 24), .var 25, .var 26, .var 27, .int .i64 (.var 28), .int .i64 (.var 29), .int .i64 (.var 30), .bool (.var 31)]),
 (19, [.int .i64 (.lit 0), .int .i64 (.lit 0), .int .i64 (.lit 0), .int .i64 (.lit 0), .cst (.slice none 0 0), .cst (.slice none 0 0), .cst (.slice none 0
 0), .int .i64 (.lit 0), .int .i64 (.lit 0), .int .i64 (.lit 0), .bool (.lit false)]), (18, [.int .i64 (.var 12), .int .i64 (.var 13), .int .i64 (.var
 14), .var 15, .var 16]), (17, [.int .i64 (.var 1), .int .i64 (.var 2), .int .i64 (.var 3), .int .i64 (.var 4), .var 5, .var 6, .var 7, .int .i64 (.var 8),
 .int .i64 (.var 9), .int .i64 (.var 10), .bool (.var 11)])] (.leaf 0 [.tuple [.agg [.int .i64 (.var 21), .int .i64 (.var 22), .int .i64 (.var 23), .int
 .i64 (.var 24), .var 25, .var 26, .var 27, .int .i64 (.var 28), .int .i64 (.var 29), .int .i64 (.var 30), .bool (.var 31)], .bool (.eq (.var 35) (.var 32))]]
 [19] [(33, [.int .i64 (.var 21), .int .i64 (.var 22), .int .i64 (.var 23), .int .i64 (.var 24), .var 25, .var 26, .var 27, .int .i64 (.var 28), .int
 .i64 (.var 29), .int .i64 (.var 30), .bool (.var 31)]), (19, [.int .i64 (.var 21), .int .i64 (.var 22), .int .i64 (.var 23), .int .i64 (.var 24),
 .var 25, .var 26, .var 27, .int .i64 (.var 28), .int .i64 (.var 29), .int .i64 (.var 30), .bool (.var 31)]), (18, [.int .i64 (.var 12), .int .i64 (.var
 13), .int .i64 (.var 14), .var 15, .var 16]), (17, [.int .i64 (.var 1), .int .i64 (.var 2), .int .i64 (.var 3), .int .i64 (.var 4), .var 5, .var 6, .var
 7, .int .i64 (.var 8), .int .i64 (.var 9), .int .i64 (.var 10), .bool (.var 11)])])))))) (.split (.eq (.var 12) (.lit 5)) (.call 13 [.var 0, .int .i64 (.var
 13), .int .i64 (.var 14)] [.slice, .slice, .int .i64] (.tuple [.var 21, .var 22, .int .i64 (.var 23)]) [] false [] [] [19, 18, 17] [(19, [.int .i64 (.lit 0),
 .int .i64 (.lit 0), .int .i64 (.lit 0), .int .i64 (.lit 0), .cst (.slice none 0 0), .cst (.slice none 0 0), .cst (.slice none 0 0), .int .i64 (.lit 0),
 .int .i64 (.lit 0), .int .i64 (.lit 0), .bool (.lit false)]), (18, [.int .i64 (.var 12), .int .i64 (.var 13), .int .i64 (.var 14), .var 15, .var 16]), (17,
 [.int .i64 (.var 1), .int .i64 (.var 2), .int .i64 (.var 3), .int .i64 (.var 4), .var 5, .var 6, .var 7, .int .i64 (.var 8), .int .i64 (.var 9),
 .int .i64 (.var 10), .bool (.var 11)])] (.call 42 [.agg [.int .i64 (.var 1), .int .i64 (.var 2), .int .i64 (.var 3), .int .i64 (.var 4), .var 5, .var 6,
 .var 7, .int .i64 (.var 8), .int .i64 (.var 9), .int .i64 (.var 10), .bool (.var 11)], .int .i64 (.var 13), .int .i64 (.var 14)] [.slice, .slice,
 .int .i64] (.tuple [.var 24, .var 25, .int .i64 (.var 26)]) [] false [] [] [19, 18, 17] [(19, [.int .i64 (.lit 0), .int .i64 (.lit 0), .int .i64 (.lit 0),
 .int .i64 (.lit 0), .cst (.slice none 0 0), .cst (.slice none 0 0), .cst (.slice none 0 0), .int .i64 (.lit 0), .int .i64 (.lit 0), .int .i64 (.lit 0),
 .bool (.lit false)]), (18, [.int .i64 (.var 12), .int .i64 (.var 13), .int .i64 (.var 14), .var 15, .var 16]), (17, [.int .i64 (.var 1), .int .i64 (.var 2),
 .int .i64 (.var 3), .int .i64 (.var 4), .var 5, .var 6, .var 7, .int .i64 (.var 8), .int .i64 (.var 9), .int .i64 (.var 10), .bool (.var 11)])] (.start
 true [] [19, 18, 17] [(19, [.int .i64 (.lit 0), .int .i64 (.lit 0), .int .i64 (.lit 0), .int .i64 (.lit 0), .cst (.slice none 0 0), .cst (.slice none 0 0),
 .cst (.slice none 0 0), .int .i64 (.lit 0), .int .i64 (.lit 0), .int .i64 (.lit 0), .bool (.lit false)]), (18, [.int .i64 (.var 12), .int .i64 (.var 13),
 .int .i64 (.var 14), .var 15, .var 16]), (17, [.int .i64 (.var 1), .int .i64 (.var 2), .int .i64 (.var 3), .int .i64 (.var 4), .var 5, .var 6, .var 7,
 .int .i64 (.var 8), .int .i64 (.var 9), .int .i64 (.var 10), .bool (.var 11)])] (.call 30 [.var 21, .var 24] [.bool] (.bool (.var 27)) [] true [] [] [19, 18, 17] [(19,
 [.int .i64 (.lit 0), .int .i64 (.lit 0), .int .i64 (.lit 0), .int .i64 (.lit 0), .cst (.slice none 0 0), .cst (.slice none 0 0), .cst (.slice none 0 0),
 .int .i64 (.lit 0), .int .i64 (.lit 0), .int .i64 (.lit 0), .bool (.lit false)]), (18, [.int .i64 (.var 12), .int .i64 (.var 13), .int .i64 (.var
 14), .var 15, .var 16]), (17, [.int .i64 (.var 1), .int .i64 (.var 2), .int .i64 (.var 3), .int .i64 (.var 4), .var 5, .var 6, .var 7, .int .i64 (.var 8),
 .int .i64 (.var 9), .int .i64 (.var 10), .bool (.var 11)])] (.split (.var 27) (.call 30 [.var 22, .var 25] [.bool] (.bool (.var 28)) [] true [] [] [19, 18, 17] [(19, [.int
 .i64 (.lit 0), .int .i64 (.lit 0), .int .i64 (.lit 0), .int .i64 (.lit 0), .cst (.slice none 0 0), .cst (.slice none 0 0), .cst (.slice none 0 0), .int
 .i64 (.lit 0), .int .i64 (.lit 0), .int .i64 (.lit 0), .bool (.lit false)]), (18, [.int .i64 (.var 12), .int .i64 (.var 13), .int .i64 (.var 14),
 .var 15, .var 16]), (17, [.int .i64 (.var 1), .int .i64 (.var 2), .int .i64 (.var 3), .int .i64 (.var 4), .var 5, .var 6, .var 7, .int .i64 (.var 8),
 .int .i64 (.var 9), .int .i64 (.var 10), .bool (.var 11)])] (.split (.var 28) (.call 18 [.int .i64 (.var 23)] [.int .i64] (.int .i64 (.var 29)) [] true []
 [] [19, 18, 17] [(19, [.int .i64 (.lit 0), .int .i64 (.lit 0), .int .i64 (.lit 0), .int .i64 (.lit 0), .cst (.slice none 0 0), .cst (.slice none 0 0), .cst
 (.slice none 0 0), .int .i64 (.lit 0), .int .i64 (.lit 0), .int .i64 (.lit 0), .bool (.lit false)]), (18, [.int .i64 (.var 12), .int .i64 (.var 13), .int
 .i64 (.var 14), .var 15, .var 16]), (17, [.int .i64 (.var 1), .int .i64 (.var 2), .int .i64 (.var 3), .int .i64 (.var 4), .var 5, .var 6, .var 7, .int
 .i64 (.var 8), .int .i64 (.var 9), .int .i64 (.var 10), .bool (.var 11)])] (.leaf 0 [.tuple [.agg [.int .i64 (.var 1), .int .i64 (.var 2), .int
 .i64 (.var 3), .int .i64 (.var 4), .var 5, .var 6, .var 7, .int .i64 (.var 8), .int .i64 (.var 9), .int .i64 (.var 10), .bool (.var 11)], .bool (.eq
 (.var 29) (.var 26))]] [19] [(19, [.int .i64 (.var 1), .int .i64 (.var 2), .int .i64 (.var 3), .int .i64 (.var 4), .var 5, .var 6, .var 7, .int .i64 (.var
 8), .int .i64 (.var 9), .int .i64 (.var 10), .bool (.var 11)]), (18, [.int .i64 (.var 12), .int .i64 (.var 13), .int .i64 (.var 14), .var 15, .var 16]),
 (17, [.int .i64 (.var 1), .int .i64 (.var 2), .int .i64 (.var 3), .int .i64 (.var 4), .var 5, .var 6, .var 7, .int .i64 (.var 8), .int .i64 (.var
 9), .int .i64 (.var 10), .bool (.var 11)])])) (.leaf 0 [.tuple [.agg [.int .i64 (.var 1), .int .i64 (.var 2), .int .i64 (.var 3), .int .i64 (.var 4),
 .var 5, .var 6, .var 7, .int .i64 (.var 8), .int .i64 (.var 9), .int .i64 (.var 10), .bool (.var 11)], .bool (.lit false)]] [19] [(19, [.int .i64 (.var 1),
 .int .i64 (.var 2), .int .i64 (.var 3), .int .i64 (.var 4), .var 5, .var 6, .var 7, .int .i64 (.var 8), .int .i64 (.var 9), .int .i64 (.var 10),
 .bool (.var 11)]), (18, [.int .i64 (.var 12), .int .i64 (.var 13), .int .i64 (.var 14), .var 15, .var 16]), (17, [.int .i64 (.var 1), .int .i64 (.var 2),
 .int .i64 (.var 3), .int .i64 (.var 4), .var 5, .var 6, .var 7, .int .i64 (.var 8), .int .i64 (.var 9), .int .i64 (.var 10), .bool (.var 11)])])))
 (.leaf 0 [.tuple [.agg [.int .i64 (.var 1), .int .i64 (.var 2), .int .i64 (.var 3), .int .i64 (.var 4), .var 5, .var 6, .var 7, .int .i64 (.var 8),
 .int .i64 (.var 9), .int .i64 (.var 10), .bool (.var 11)], .bool (.lit false)]] [19] [(19, [.int .i64 (.var 1), .int .i64 (.var 2), .int .i64 (.var 3),
 .int .i64 (.var 4), .var 5, .var 6, .var 7, .int .i64 (.var 8), .int .i64 (.var 9), .int .i64 (.var 10), .bool (.var 11)]), (18, [.int .i64 (.var 12),
 .int .i64 (.var 13), .int .i64 (.var 14), .var 15, .var 16]), (17, [.int .i64 (.var 1), .int .i64 (.var 2), .int .i64 (.var 3), .int .i64 (.var 4),
 .var 5, .var 6, .var 7, .int .i64 (.var 8), .int .i64 (.var 9), .int .i64 (.var 10), .bool (.var 11)])])))))) (.split (.eq (.var 12) (.lit 6)) (.call 43 [.agg
 [.int .i64 (.var 1), .int .i64 (.var 2), .int .i64 (.var 3), .int .i64 (.var 4), .var 5, .var 6, .var 7, .int .i64 (.var 8), .int .i64 (.var 9),
 .int .i64 (.var 10), .bool (.var 11)], .int .i64 (.var 13), .int .i64 (.var 14)] [.int .i64, .int .i64, .int .i64, .int .i64, .slice,
 .slice, .slice, .int .i64, .int .i64, .int .i64, .bool, .int .i64] (.tuple [.agg [.int .i64 (.var 21), .int .i64 (.var 22), .int
 .i64 (.var 23), .int .i64 (.var 24), .var 25, .var 26, .var 27, .int .i64 (.var 28), .int .i64 (.var 29), .int .i64 (.var 30), .bool (.var 31)], .int
 .i64 (.var 32)]) [] false [] [] [19, 18, 17] [(19, [.int .i64 (.lit 0), .int .i64 (.lit 0), .int .i64 (.lit 0), .int .i64 (.lit 0), .cst (.slice none 0 0),
 .cst (.slice none 0 0), .cst (.slice none 0 0), .int .i64 (.lit 0), .int .i64 (.lit 0), .int .i64 (.lit 0), .bool (.lit false)]), (18, [.int .i64 (.var 12),
 .int .i64 (.var 13), .int .i64 (.var 14), .var 15, .var 16]), (17, [.int .i64 (.var 1), .int .i64 (.var 2), .int .i64 (.var 3), .int .i64 (.var 4),
 .var 5, .var 6, .var 7, .int .i64 (.var 8), .int .i64 (.var 9), .int .i64 (.var 10), .bool (.var 11)])] (.blk (.start true [33] [33, 19, 18, 17] [(33, [.int .i64
 (.var 21), .int .i64 (.var 22), .int .i64 (.var 23), .int .i64 (.var 24), .var 25, .var 26, .var 27, .int .i64 (.var 28), .int .i64 (.var 29), .int
 .i64 (.var 30), .bool (.var 31)]), (19, [.int .i64 (.lit 0), .int .i64 (.lit 0), .int .i64 (.lit 0), .int .i64 (.lit 0), .cst (.slice none 0 0), .cst
 (.slice none 0 0), .cst (.slice none 0 0), .int .i64 (.lit 0), .int .i64 (.lit 0), .int .i64 (.lit 0), .bool (.lit false)]), (18, [.int .i64 (.var 12), .int
 .i64 (.var 13), .int .i64 (.var 14), .var 15, .var 16]), (17, [.int .i64 (.var 1), .int .i64 (.var 2), .int .i64 (.var 3), .int .i64 (.var 4), .var
 5, .var 6, .var 7, .int .i64 (.var 8), .int .i64 (.var 9), .int .i64 (.var 10), .bool (.var 11)])] (.call 21 [.var 0, .int .i64 (.var 13), .int .i64
 (.var 14)] [.int .i64] (.int .i64 (.var 34)) [] true [] [] [33, 19, 18, 17] [(33, [.int .i64 (.var 21), .int .i64 (.var 22), .int .i64 (.var 23), .int
 .i64 (.var 24), .var 25, .var 26, .var 27, .int .i64 (.var 28), .int .i64 (.var 29), .int .i64 (.var 30), .bool (.var 31)]), (19, [.int .i64 (.lit 0),
 .int .i64 (.lit 0), .int .i64 (.lit 0), .int .i64 (.lit 0), .cst (.slice none 0 0), .cst (.slice none 0 0), .cst (.slice none 0 0), .int .i64 (.lit 0),
 .int .i64 (.lit 0), .int .i64 (.lit 0), .bool (.lit false)]), (18, [.int .i64 (.var 12), .int .i64 (.var 13), .int .i64 (.var 14), .var 15, .var 16]), (17,
 [.int .i64 (.var 1), .int .i64 (.var 2), .int .i64 (.var 3), .int .i64 (.var 4), .var 5, .var 6, .var 7, .int .i64 (.var 8), .int .i64 (.var 9),
 .int .i64 (.var 10), .bool (.var 11)])] (.call 18 [.int .i64 (.var 34)] [.int .i64] (.int .i64 (.var 35)) [] true [] [] [33, 19, 18, 17] [(33, [.int .i64
 (.var 21), .int .i64 (.var 22), .int .i64 (.var 23), .int .i64 (.var 24), .var 25, .var 26, .var 27, .int .i64 (.var 28), .int .i64 (.var 29), .int
 .i64 (.var 30), .bool (.var 31)]), (19, [.int .i64 (.lit 0), .int .i64 (.lit 0), .int .i64 (.lit 0), .int .i64 (.lit 0), .cst (.slice none 0 0), .cst
 (.slice none 0 0), .cst (.slice none 0 0), .int .i64 (.lit 0), .int .i64 (.lit 0), .int .i64 (.lit 0), .bool (.lit false)]), (18, [.int .i64 (.var 12), .int
 .i64 (.var 13), .int .i64 (.var 14), .var 15, .var 16]), (17, [.int .i64 (.var 1), .int .i64 (.var 2), .int .i64 (.var 3), .int .i64 (.var 4), .var
 5, .var 6, .var 7, .int .i64 (.var 8), .int .i64 (.var 9), .int .i64 (.var 10), .bool (.var 11)])] (.leaf 0 [.tuple [.agg [.int .i64 (.var 21), .int
 .i64 (.var 22), .int .i64 (.var 23), .int .i64 (.var 24), .var 25, .var 26, .var 27, .int .i64 (.var 28), .int .i64 (.var 29), .int .i64 (.var 30),
 .bool (.var 31)], .bool (.eq (.var 35) (.var 32))]] [19] [(33, [.int .i64 (.var 21), .int .i64 (.var 22), .int .i64 (.var 23), .int .i64 (.var 24), .var 25,
 .var 26, .var 27, .int .i64 (.var 28), .int .i64 (.var 29), .int .i64 (.var 30), .bool (.var 31)]), (19, [.int .i64 (.var 21), .int .i64 (.var 22), .int
 .i64 (.var 23), .int .i64 (.var 24), .var 25, .var 26, .var 27, .int .i64 (.var 28), .int .i64 (.var 29), .int .i64 (.var 30), .bool (.var 31)]), (18,
 [.int .i64 (.var 12), .int .i64 (.var 13), .int .i64 (.var 14), .var 15, .var 16]), (17, [.int .i64 (.var 1), .int .i64 (.var 2), .int .i64 (.var 3),
 .int .i64 (.var 4), .var 5, .var 6, .var 7, .int .i64 (.var 8), .int .i64 (.var 9), .int .i64 (.var 10), .bool (.var 11)])])))))) (.call 44 [.agg [.int
 .i64 (.var 1), .int .i64 (.var 2), .int .i64 (.var 3), .int .i64 (.var 4), .var 5, .var 6, .var 7, .int .i64 (.var 8), .int .i64 (.var 9), .int
 .i64 (.var 10), .bool (.var 11)]] [.int .i64, .int .i64, .int .i64, .int .i64, .slice, .slice, .slice, .int .i64, .int .i64,
 .int .i64, .bool] (.agg [.int .i64 (.var 21), .int .i64 (.var 22), .int .i64 (.var 23), .int .i64 (.var 24), .var 25, .var 26, .var 27, .int
 .i64 (.var 28), .int .i64 (.var 29), .int .i64 (.var 30), .bool (.var 31)]) [] false [] [] [19, 18, 17] [(19, [.int .i64 (.lit 0), .int .i64 (.lit 0), .int
 .i64 (.lit 0), .int .i64 (.lit 0), .cst (.slice none 0 0), .cst (.slice none 0 0), .cst (.slice none 0 0), .int .i64 (.lit 0), .int .i64 (.lit 0), .int
 .i64 (.lit 0), .bool (.lit false)]), (18, [.int .i64 (.var 12), .int .i64 (.var 13), .int .i64 (.var 14), .var 15, .var 16]), (17, [.int .i64 (.var 1), .int
 .i64 (.var 2), .int .i64 (.var 3), .int .i64 (.var 4), .var 5, .var 6, .var 7, .int .i64 (.var 8), .int .i64 (.var 9), .int .i64 (.var 10), .bool
 (.var 11)])] (.call 22 [.var 0] [.int .i64] (.int .i64 (.var 32)) [] false [] [] [19, 18, 17] [(19, [.int .i64 (.lit 0), .int .i64 (.lit 0), .int .i64 (.lit
 0), .int .i64 (.lit 0), .cst (.slice none 0 0), .cst (.slice none 0 0), .cst (.slice none 0 0), .int .i64 (.lit 0), .int .i64 (.lit 0), .int .i64 (.lit
 0), .bool (.lit false)]), (18, [.int .i64 (.var 12), .int .i64 (.var 13), .int .i64 (.var 14), .var 15, .var 16]), (17, [.int .i64 (.var 1), .int .i64 (.var
 2), .int .i64 (.var 3), .int .i64 (.var 4), .var 5, .var 6, .var 7, .int .i64 (.var 8), .int .i64 (.var 9), .int .i64 (.var 10), .bool (.var 11)])]
 (.call 18 [.int .i64 (.var 32)] [.int .i64] (.int .i64 (.var 33)) [] false [] [] [19, 18, 17] [(19, [.int .i64 (.lit 0), .int .i64 (.lit 0), .int .i64
 (.lit 0), .int .i64 (.lit 0), .cst (.slice none 0 0), .cst (.slice none 0 0), .cst (.slice none 0 0), .int .i64 (.lit 0), .int .i64 (.lit 0), .int .i64
 (.lit 0), .bool (.lit false)]), (18, [.int .i64 (.var 12), .int .i64 (.var 13), .int .i64 (.var 14), .var 15, .var 16]), (17, [.int .i64 (.var 1), .int .i64
 (.var 2), .int .i64 (.var 3), .int .i64 (.var 4), .var 5, .var 6, .var 7, .int .i64 (.var 8), .int .i64 (.var 9), .int .i64 (.var 10), .bool (.var
 11)])] (.leaf 0 [.tuple [.agg [.int .i64 (.var 21), .int .i64 (.var 22), .int .i64 (.var 23), .int .i64 (.var 24), .var 25, .var 26, .var 27, .int .i64
 (.var 28), .int .i64 (.var 29), .int .i64 (.var 30), .bool (.var 31)], .bool (.eq (.var 33) (.lit 0))]] [19] [(19, [.int .i64 (.var 21), .int .i64 (.var 22),
 .int .i64 (.var 23), .int .i64 (.var 24), .var 25, .var 26, .var 27, .int .i64 (.var 28), .int .i64 (.var 29), .int .i64 (.var 30), .bool (.var 31)]),
 (18, [.int .i64 (.var 12), .int .i64 (.var 13), .int .i64 (.var 14), .var 15, .var 16]), (17, [.int .i64 (.var 1), .int .i64 (.var 2), .int .i64
 (.var 3), .int .i64 (.var 4), .var 5, .var 6, .var 7, .int .i64 (.var 8), .int .i64 (.var 9), .int .i64 (.var 10), .bool (.var 11)])]))))))))))) := by kernel_rfl

end Go.Proofs.Ytppbapnibpeolaa
