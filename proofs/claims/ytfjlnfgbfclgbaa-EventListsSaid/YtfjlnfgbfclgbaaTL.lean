/- What the functions of the chapter come to, printed by a program of the prover's and checked by the kernel. No conditions. -/
import Derived.Test.YtfjlnfgbfclgbaaSxZI
import Derived.Test.YtfjlnfgbfclgbaaProg
import Derived.KernelRfl
set_option maxRecDepth 100000
set_option linter.unusedVariables false
namespace Go.Proofs.Ytfjlnfgbfclgbaa
open Go.Sx

theorem t7 : exFn { P := Try.prog, loops := (fun r => if Nat.beq r 6 then some ⟨1, [(10, .int .i64)], [9]⟩ else if Nat.beq r 14 then some ⟨3, [(12, .ptr)], []⟩ else none), drops := (fun r => if Nat.beq r 14 then [12] else []), joins := (fun r => if Nat.beq r 23 then some ⟨4, [], [13]⟩ else if Nat.beq r 25 then some ⟨5, [], []⟩ else none), ranged := true, ranges := fun t => if Nat.beq t 56 then some ⟨2, [23], [13]⟩ else none }
 7 [.int .i64 (.var 0), .var 1, .int .i64 (.var 2)] [.int .i64, .slice, .int .i64] [] = .blk (.blk (.call 17 [.int .i64 (.var 0)] [.ptr, .int .i64] (.tuple [.var 5, .int .i64
 (.var 6)]) [] false [] [] [4, 3] [(4, [.bool (.lit false)]), (3, [.int .i64 (.var 2)])] (.split (.not (.eq (.var 6) (.lit 0))) (.call 16 [] [.bool] (.bool (.var 7)) [] false [] []
 [4, 3] [(4, [.bool (.lit false)]), (3, [.int .i64 (.var 2)])] (.leafM 0 [.bool (.var 7)] [4] [(4, [.bool (.var 7)]), (3, [.int .i64 (.var 2)])])) (.split (.lt (.lit 80) (.len
 1)) (.call 16 [] [.bool] (.bool (.var 7)) [] false [] [] [4, 3] [(4, [.bool (.lit false)]), (3, [.int .i64 (.var 2)])] (.leafM 0 [.bool (.var 7)] [4] [(4, [.bool (.var 7)]), (3,
 [.int .i64 (.var 2)])])) (.blk (.loop 1 [.int .i64 (.lit 0), .int .i64 (.var 0), .int .u32 (.lit 0), .cst (.slice none 0 0), .cst (.slice none 0 0), .bool
 (.lit false), .bool (.lit false), .bool (.lit false), .bool (.lit false), .bool (.lit false), .bool (.lit false), .bool (.lit false), .bool (.lit false), .int .u8 (.lit 0),
 .int .u8 (.lit 0), .int .u8 (.lit 0), .int .u8 (.lit 0), .int .u8 (.lit 0), .int .u8 (.lit 0), .int .u8 (.lit 0), .int .u8 (.lit 0)] [.int
 .i64, .int .i64, .int .u32, .slice, .slice, .bool, .bool, .bool, .bool, .bool, .bool, .bool, .bool, .int .u8, .int .u8, .int
 .u8, .int .u8, .int .u8, .int .u8, .int .u8, .int .u8] [7] [7, 4, 3] [(7, [.int .i64 (.var 0), .int .u32 (.lit 0), .cst (.slice
 none 0 0), .cst (.slice none 0 0), .bool (.lit false), .bool (.lit false), .bool (.lit false), .bool (.lit false), .bool (.lit false), .bool (.lit false), .bool (.lit false), .bool
 (.lit false), .int .u8 (.lit 0), .int .u8 (.lit 0), .int .u8 (.lit 0), .int .u8 (.lit 0), .int .u8 (.lit 0), .int .u8 (.lit 0), .int .u8
 (.lit 0), .int .u8 (.lit 0)]), (4, [.bool (.lit false)]), (3, [.int .i64 (.var 2)])] [(7, [.int .i64 (.var 9), .int .u32 (.var 10), .var 11, .var 12, .bool (.var
 13), .bool (.var 14), .bool (.var 15), .bool (.var 16), .bool (.var 17), .bool (.var 18), .bool (.var 19), .bool (.var 20), .int .u8 (.var 21), .int .u8 (.var 22),
 .int .u8 (.var 23), .int .u8 (.var 24), .int .u8 (.var 25), .int .u8 (.var 26), .int .u8 (.var 27), .int .u8 (.var 28)]), (4, [.bool (.lit false)]),
 (3, [.int .i64 (.var 2)])] (.split (.lt (.var 8) (.len 1)) (.start true [] [7, 4, 3] [(7, [.int .i64 (.var 9), .int .u32 (.var 10), .var 11, .var 12, .bool (.var 13),
 .bool (.var 14), .bool (.var 15), .bool (.var 16), .bool (.var 17), .bool (.var 18), .bool (.var 19), .bool (.var 20), .int .u8 (.var 21), .int .u8 (.var 22), .int
 .u8 (.var 23), .int .u8 (.var 24), .int .u8 (.var 25), .int .u8 (.var 26), .int .u8 (.var 27), .int .u8 (.var 28)]), (4, [.bool (.lit false)]), (3,
 [.int .i64 (.var 2)])] (.ob (.le (.lit 0) (.var 8)) (.ob (.lt (.var 8) (.len 1)) (.ob (.not (.nil 1)) (.load (.elt 1 0 (.var 8) 6 0) [.int .i64, .int .u16,
 .int .u8, .int .u8, .int .u8, .int .u32] (.call 26 [.var 5, .agg [.int .i64 (.var 9), .int .u32 (.var 10), .var 11, .var 12, .bool (.var
 13), .bool (.var 14), .bool (.var 15), .bool (.var 16), .bool (.var 17), .bool (.var 18), .bool (.var 19), .bool (.var 20), .int .u8 (.var 21), .int .u8 (.var 22),
 .int .u8 (.var 23), .int .u8 (.var 24), .int .u8 (.var 25), .int .u8 (.var 26), .int .u8 (.var 27), .int .u8 (.var 28)], .agg [.int .i64
 (.var 29), .int .u16 (.var 30), .int .u8 (.var 31), .int .u8 (.var 32), .int .u8 (.var 33), .int .u32 (.var 34)]] [.int .i64, .int .u32,
 .slice, .slice, .bool, .bool, .bool, .bool, .bool, .bool, .bool, .bool, .int .u8, .int .u8, .int .u8, .int .u8, .int .u8,
 .int .u8, .int .u8, .int .u8, .bool] (.tuple [.agg [.int .i64 (.var 35), .int .u32 (.var 36), .var 37, .var 38, .bool (.var 39), .bool (.var
 40), .bool (.var 41), .bool (.var 42), .bool (.var 43), .bool (.var 44), .bool (.var 45), .bool (.var 46), .int .u8 (.var 47), .int .u8 (.var 48), .int .u8 (.var
 49), .int .u8 (.var 50), .int .u8 (.var 51), .int .u8 (.var 52), .int .u8 (.var 53), .int .u8 (.var 54)], .bool (.var 55)]) [] true [] [] [7, 4, 3] [(7, [.int
 .i64 (.var 9), .int .u32 (.var 10), .var 11, .var 12, .bool (.var 13), .bool (.var 14), .bool (.var 15), .bool (.var 16), .bool (.var 17), .bool (.var 18), .bool (.var
 19), .bool (.var 20), .int .u8 (.var 21), .int .u8 (.var 22), .int .u8 (.var 23), .int .u8 (.var 24), .int .u8 (.var 25), .int .u8 (.var 26), .int
 .u8 (.var 27), .int .u8 (.var 28)]), (4, [.bool (.lit false)]), (3, [.int .i64 (.var 2)])] (.ob (.le (.lit (-9223372036854775808)) (.add (.var 8) (.lit 1))) (.ob (.le
 (.add (.var 8) (.lit 1)) (.lit 9223372036854775807)) (.leaf 1 [.int .i64 (.add (.var 8) (.lit 1)), .int .i64 (.var 35), .int .u32 (.var 36), .var 37, .var 38, .bool
 (.var 39), .bool (.var 40), .bool (.var 41), .bool (.var 42), .bool (.var 43), .bool (.var 44), .bool (.var 45), .bool (.var 46), .int .u8 (.var 47), .int .u8 (.var
 48), .int .u8 (.var 49), .int .u8 (.var 50), .int .u8 (.var 51), .int .u8 (.var 52), .int .u8 (.var 53), .int .u8 (.var 54)] [7] [(7, [.int .i64
 (.var 35), .int .u32 (.var 36), .var 37, .var 38, .bool (.var 39), .bool (.var 40), .bool (.var 41), .bool (.var 42), .bool (.var 43), .bool (.var 44), .bool (.var 45),
 .bool (.var 46), .int .u8 (.var 47), .int .u8 (.var 48), .int .u8 (.var 49), .int .u8 (.var 50), .int .u8 (.var 51), .int .u8 (.var 52), .int
 .u8 (.var 53), .int .u8 (.var 54)]), (4, [.bool (.lit false)]), (3, [.int .i64 (.var 2)])]))))))))) (.call 24 [.var 5] [.func] (.var 29) [] false [] [] [7, 4, 3] [(7, [.int
 .i64 (.var 9), .int .u32 (.var 10), .var 11, .var 12, .bool (.var 13), .bool (.var 14), .bool (.var 15), .bool (.var 16), .bool (.var 17), .bool (.var 18), .bool (.var
 19), .bool (.var 20), .int .u8 (.var 21), .int .u8 (.var 22), .int .u8 (.var 23), .int .u8 (.var 24), .int .u8 (.var 25), .int .u8 (.var 26), .int
 .u8 (.var 27), .int .u8 (.var 28)]), (4, [.bool (.lit false)]), (3, [.int .i64 (.var 2)])] (.split (.nil 29) (.leafM 0 [.bool (.lit false)] [4] [(7, [.int .i64
 (.var 9), .int .u32 (.var 10), .var 11, .var 12, .bool (.var 13), .bool (.var 14), .bool (.var 15), .bool (.var 16), .bool (.var 17), .bool (.var 18), .bool (.var 19),
 .bool (.var 20), .int .u8 (.var 21), .int .u8 (.var 22), .int .u8 (.var 23), .int .u8 (.var 24), .int .u8 (.var 25), .int .u8 (.var 26), .int
 .u8 (.var 27), .int .u8 (.var 28)]), (4, [.bool (.lit false)]), (3, [.int .i64 (.var 2)])]) (.call 27 [.var 5] [.int .i64] (.int .i64 (.var 30)) [] false []
 [] [7, 4, 3] [(7, [.int .i64 (.var 9), .int .u32 (.var 10), .var 11, .var 12, .bool (.var 13), .bool (.var 14), .bool (.var 15), .bool (.var 16), .bool (.var 17), .bool
 (.var 18), .bool (.var 19), .bool (.var 20), .int .u8 (.var 21), .int .u8 (.var 22), .int .u8 (.var 23), .int .u8 (.var 24), .int .u8 (.var 25), .int
 .u8 (.var 26), .int .u8 (.var 27), .int .u8 (.var 28)]), (4, [.bool (.lit false)]), (3, [.int .i64 (.var 2)])] (.blk (.loop 3 [.ptr 31 0] [.ptr] [31] [7, 4, 3]
 [(31, [.int .i64 (.lit 0)]), (7, [.int .i64 (.var 9), .int .u32 (.var 10), .var 11, .var 12, .bool (.var 13), .bool (.var 14), .bool (.var 15), .bool (.var 16),
 .bool (.var 17), .bool (.var 18), .bool (.var 19), .bool (.var 20), .int .u8 (.var 21), .int .u8 (.var 22), .int .u8 (.var 23), .int .u8 (.var 24), .int
 .u8 (.var 25), .int .u8 (.var 26), .int .u8 (.var 27), .int .u8 (.var 28)]), (4, [.bool (.lit false)]), (3, [.int .i64 (.var 2)])] [(7, [.int .i64
 (.var 9), .int .u32 (.var 10), .var 11, .var 12, .bool (.var 13), .bool (.var 14), .bool (.var 15), .bool (.var 16), .bool (.var 17), .bool (.var 18), .bool (.var 19),
 .bool (.var 20), .int .u8 (.var 21), .int .u8 (.var 22), .int .u8 (.var 23), .int .u8 (.var 24), .int .u8 (.var 25), .int .u8 (.var 26), .int
 .u8 (.var 27), .int .u8 (.var 28)]), (4, [.bool (.lit false)]), (3, [.int .i64 (.var 2)])] (.start false [] [] [(7, [.int .i64 (.var 9), .int .u32 (.var 10),
 .var 11, .var 12, .bool (.var 13), .bool (.var 14), .bool (.var 15), .bool (.var 16), .bool (.var 17), .bool (.var 18), .bool (.var 19), .bool (.var 20), .int .u8 (.var
 21), .int .u8 (.var 22), .int .u8 (.var 23), .int .u8 (.var 24), .int .u8 (.var 25), .int .u8 (.var 26), .int .u8 (.var 27), .int .u8 (.var
 28)]), (4, [.bool (.lit false)]), (3, [.int .i64 (.var 2)])] (.load (.ptr 32 0) [.int .i64] (.split (.lt (.var 33) (.lit 2)) (.cut 5 [] [7, 4, 3] [(7, [.int .i64 (.var
 9), .int .u32 (.var 10), .var 11, .var 12, .bool (.var 13), .bool (.var 14), .bool (.var 15), .bool (.var 16), .bool (.var 17), .bool (.var 18), .bool (.var 19), .bool
 (.var 20), .int .u8 (.var 21), .int .u8 (.var 22), .int .u8 (.var 23), .int .u8 (.var 24), .int .u8 (.var 25), .int .u8 (.var 26), .int .u8
 (.var 27), .int .u8 (.var 28)]), (4, [.bool (.lit false)]), (3, [.int .i64 (.var 2)])] (.blk (.cut 4 [.int .i64] [34, 7, 4, 3] [(34, [.int .i64 (.var 35)]), (7,
 [.int .i64 (.var 9), .int .u32 (.var 10), .var 11, .var 12, .bool (.var 13), .bool (.var 14), .bool (.var 15), .bool (.var 16), .bool (.var 17), .bool (.var 18), .bool
 (.var 19), .bool (.var 20), .int .u8 (.var 21), .int .u8 (.var 22), .int .u8 (.var 23), .int .u8 (.var 24), .int .u8 (.var 25), .int .u8 (.var 26),
 .int .u8 (.var 27), .int .u8 (.var 28)]), (4, [.bool (.lit false)]), (3, [.int .i64 (.var 2)])] (.range 2 (.var 29) [.int .u8, .int .u8, .int
 .u8] [23] [.int .i64 (.lit 0)] [.int .i64] [34] [34, 7, 4, 3] [(34, [.int .i64 (.lit 0)]), (7, [.int .i64 (.var 9), .int .u32 (.var 10), .var 11, .var
 12, .bool (.var 13), .bool (.var 14), .bool (.var 15), .bool (.var 16), .bool (.var 17), .bool (.var 18), .bool (.var 19), .bool (.var 20), .int .u8 (.var 21), .int
 .u8 (.var 22), .int .u8 (.var 23), .int .u8 (.var 24), .int .u8 (.var 25), .int .u8 (.var 26), .int .u8 (.var 27), .int .u8 (.var 28)]), (4,
 [.bool (.lit false)]), (3, [.int .i64 (.var 2)])] [(34, [.int .i64 (.var 35)]), (7, [.int .i64 (.var 9), .int .u32 (.var 10), .var 11, .var 12, .bool (.var 13),
 .bool (.var 14), .bool (.var 15), .bool (.var 16), .bool (.var 17), .bool (.var 18), .bool (.var 19), .bool (.var 20), .int .u8 (.var 21), .int .u8 (.var 22), .int
 .u8 (.var 23), .int .u8 (.var 24), .int .u8 (.var 25), .int .u8 (.var 26), .int .u8 (.var 27), .int .u8 (.var 28)]), (4, [.bool (.lit false)]), (3,
 [.int .i64 (.var 2)])] (.blk (.start true [] [39, 34, 7, 4, 3] [(39, [.int .u8 (.var 36), .int .u8 (.var 37), .int .u8 (.var 38)]), (34, [.int .i64 (.var 35)]),
 (7, [.int .i64 (.var 9), .int .u32 (.var 10), .var 11, .var 12, .bool (.var 13), .bool (.var 14), .bool (.var 15), .bool (.var 16), .bool (.var 17), .bool (.var 18),
 .bool (.var 19), .bool (.var 20), .int .u8 (.var 21), .int .u8 (.var 22), .int .u8 (.var 23), .int .u8 (.var 24), .int .u8 (.var 25), .int .u8
 (.var 26), .int .u8 (.var 27), .int .u8 (.var 28)]), (4, [.bool (.lit false)]), (3, [.int .i64 (.var 2)])] (.split (.le (.len 12) (.var 35)) (.resume [4] [39, 34, 7, 4,
 3] [(39, [.int .u8 (.var 36), .int .u8 (.var 37), .int .u8 (.var 38)]), (34, [.int .i64 (.var 35)]), (7, [.int .i64 (.var 9), .int .u32 (.var 10), .var
 11, .var 12, .bool (.var 13), .bool (.var 14), .bool (.var 15), .bool (.var 16), .bool (.var 17), .bool (.var 18), .bool (.var 19), .bool (.var 20), .int .u8 (.var 21),
 .int .u8 (.var 22), .int .u8 (.var 23), .int .u8 (.var 24), .int .u8 (.var 25), .int .u8 (.var 26), .int .u8 (.var 27), .int .u8 (.var 28)]),
 (4, [.bool (.lit false)]), (3, [.int .i64 (.var 2)])] (.leafM 0 [.bool (.lit false)] [] [(39, [.int .u8 (.var 36), .int .u8 (.var 37), .int .u8 (.var 38)]), (34,
 [.int .i64 (.var 35)]), (7, [.int .i64 (.var 9), .int .u32 (.var 10), .var 11, .var 12, .bool (.var 13), .bool (.var 14), .bool (.var 15), .bool (.var 16), .bool
 (.var 17), .bool (.var 18), .bool (.var 19), .bool (.var 20), .int .u8 (.var 21), .int .u8 (.var 22), .int .u8 (.var 23), .int .u8 (.var 24), .int .u8
 (.var 25), .int .u8 (.var 26), .int .u8 (.var 27), .int .u8 (.var 28)]), (4, [.bool (.lit false)]), (3, [.int .i64 (.var 2)])])) (.ob (.le (.lit 0) (.var 35))
 (.ob (.lt (.var 35) (.len 12)) (.ob (.not (.nil 12)) (.load (.elt 12 0 (.var 35) 3 0) [.int .u8, .int .u8, .int .u8] (.pur (.binOp .neq 23 (.tmp 64)
 (.tmp 69) 23) 4 [(.tmp 64, .agg [.int .u8 (.var 36), .int .u8 (.var 37), .int .u8 (.var 38)]), (.tmp 69, .agg [.int .u8 (.var 40), .int .u8
 (.var 41), .int .u8 (.var 42)])] [.bool] (.bool (.var 43)) (.split (.var 43) (.resume [4] [39, 34, 7, 4, 3] [(39, [.int .u8 (.var 36), .int .u8 (.var 37), .int
 .u8 (.var 38)]), (34, [.int .i64 (.var 35)]), (7, [.int .i64 (.var 9), .int .u32 (.var 10), .var 11, .var 12, .bool (.var 13), .bool (.var 14), .bool (.var 15),
 .bool (.var 16), .bool (.var 17), .bool (.var 18), .bool (.var 19), .bool (.var 20), .int .u8 (.var 21), .int .u8 (.var 22), .int .u8 (.var 23), .int .u8
 (.var 24), .int .u8 (.var 25), .int .u8 (.var 26), .int .u8 (.var 27), .int .u8 (.var 28)]), (4, [.bool (.lit false)]), (3, [.int .i64 (.var 2)])] (.leafM 0
 [.bool (.lit false)] [] [(39, [.int .u8 (.var 36), .int .u8 (.var 37), .int .u8 (.var 38)]), (34, [.int .i64 (.var 35)]), (7, [.int .i64 (.var 9), .int
 .u32 (.var 10), .var 11, .var 12, .bool (.var 13), .bool (.var 14), .bool (.var 15), .bool (.var 16), .bool (.var 17), .bool (.var 18), .bool (.var 19), .bool (.var 20),
 .int .u8 (.var 21), .int .u8 (.var 22), .int .u8 (.var 23), .int .u8 (.var 24), .int .u8 (.var 25), .int .u8 (.var 26), .int .u8 (.var 27),
 .int .u8 (.var 28)]), (4, [.bool (.lit false)]), (3, [.int .i64 (.var 2)])])) (.ob (.le (.lit (-9223372036854775808)) (.add (.var 35) (.lit 1))) (.ob (.le (.add (.var 35)
 (.lit 1)) (.lit 9223372036854775807)) (.start false [34] [] [(39, [.int .u8 (.var 36), .int .u8 (.var 37), .int .u8 (.var 38)]), (34, [.int .i64 (.add (.var 35)
 (.lit 1))]), (7, [.int .i64 (.var 9), .int .u32 (.var 10), .var 11, .var 12, .bool (.var 13), .bool (.var 14), .bool (.var 15), .bool (.var 16), .bool (.var 17), .bool
 (.var 18), .bool (.var 19), .bool (.var 20), .int .u8 (.var 21), .int .u8 (.var 22), .int .u8 (.var 23), .int .u8 (.var 24), .int .u8 (.var 25), .int
 .u8 (.var 26), .int .u8 (.var 27), .int .u8 (.var 28)]), (4, [.bool (.lit false)]), (3, [.int .i64 (.var 2)])] (.load (.ptr 32 0) [.int .i64] (.split (.eq
 (.var 44) (.lit 0)) (.split (.le (.var 2) (.add (.var 35) (.lit 1))) (.resume [] [39, 34, 7, 4, 3] [(39, [.int .u8 (.var 36), .int .u8 (.var 37), .int .u8 (.var 38)]),
 (34, [.int .i64 (.add (.var 35) (.lit 1))]), (7, [.int .i64 (.var 9), .int .u32 (.var 10), .var 11, .var 12, .bool (.var 13), .bool (.var 14), .bool (.var 15),
 .bool (.var 16), .bool (.var 17), .bool (.var 18), .bool (.var 19), .bool (.var 20), .int .u8 (.var 21), .int .u8 (.var 22), .int .u8 (.var 23), .int .u8
 (.var 24), .int .u8 (.var 25), .int .u8 (.var 26), .int .u8 (.var 27), .int .u8 (.var 28)]), (4, [.bool (.lit false)]), (3, [.int .i64 (.var 2)])] (.leaf 4
 [.int .i64 (.add (.var 35) (.lit 1))] [] [(39, [.int .u8 (.var 36), .int .u8 (.var 37), .int .u8 (.var 38)]), (34, [.int .i64 (.add (.var 35) (.lit 1))]),
 (7, [.int .i64 (.var 9), .int .u32 (.var 10), .var 11, .var 12, .bool (.var 13), .bool (.var 14), .bool (.var 15), .bool (.var 16), .bool (.var 17), .bool (.var 18),
 .bool (.var 19), .bool (.var 20), .int .u8 (.var 21), .int .u8 (.var 22), .int .u8 (.var 23), .int .u8 (.var 24), .int .u8 (.var 25), .int .u8
 (.var 26), .int .u8 (.var 27), .int .u8 (.var 28)]), (4, [.bool (.lit false)]), (3, [.int .i64 (.var 2)])])) (.leaf 2 [.int .i64 (.add (.var 35) (.lit 1))] []
 [(39, [.int .u8 (.var 36), .int .u8 (.var 37), .int .u8 (.var 38)]), (34, [.int .i64 (.add (.var 35) (.lit 1))]), (7, [.int .i64 (.var 9), .int .u32
 (.var 10), .var 11, .var 12, .bool (.var 13), .bool (.var 14), .bool (.var 15), .bool (.var 16), .bool (.var 17), .bool (.var 18), .bool (.var 19), .bool (.var 20), .int
 .u8 (.var 21), .int .u8 (.var 22), .int .u8 (.var 23), .int .u8 (.var 24), .int .u8 (.var 25), .int .u8 (.var 26), .int .u8 (.var 27), .int
 .u8 (.var 28)]), (4, [.bool (.lit false)]), (3, [.int .i64 (.var 2)])])) (.leaf 2 [.int .i64 (.add (.var 35) (.lit 1))] [] [(39, [.int .u8 (.var 36), .int .u8
 (.var 37), .int .u8 (.var 38)]), (34, [.int .i64 (.add (.var 35) (.lit 1))]), (7, [.int .i64 (.var 9), .int .u32 (.var 10), .var 11, .var 12, .bool (.var 13),
 .bool (.var 14), .bool (.var 15), .bool (.var 16), .bool (.var 17), .bool (.var 18), .bool (.var 19), .bool (.var 20), .int .u8 (.var 21), .int .u8 (.var 22), .int
 .u8 (.var 23), .int .u8 (.var 24), .int .u8 (.var 25), .int .u8 (.var 26), .int .u8 (.var 27), .int .u8 (.var 28)]), (4, [.bool (.lit false)]), (3,
 [.int .i64 (.var 2)])]))))))))))))))) (.leaf 4 [.int .i64 (.var 35)] [] [(34, [.int .i64 (.var 35)]), (7, [.int .i64 (.var 9), .int .u32 (.var 10), .var 11,
 .var 12, .bool (.var 13), .bool (.var 14), .bool (.var 15), .bool (.var 16), .bool (.var 17), .bool (.var 18), .bool (.var 19), .bool (.var 20), .int .u8 (.var 21), .int
 .u8 (.var 22), .int .u8 (.var 23), .int .u8 (.var 24), .int .u8 (.var 25), .int .u8 (.var 26), .int .u8 (.var 27), .int .u8 (.var 28)]), (4,
 [.bool (.lit false)]), (3, [.int .i64 (.var 2)])])) (.start false [] [] [(34, [.int .i64 (.var 35)]), (7, [.int .i64 (.var 9), .int .u32 (.var 10), .var 11, .var 12,
 .bool (.var 13), .bool (.var 14), .bool (.var 15), .bool (.var 16), .bool (.var 17), .bool (.var 18), .bool (.var 19), .bool (.var 20), .int .u8 (.var 21), .int .u8
 (.var 22), .int .u8 (.var 23), .int .u8 (.var 24), .int .u8 (.var 25), .int .u8 (.var 26), .int .u8 (.var 27), .int .u8 (.var 28)]), (4, [.bool
 (.lit false)]), (3, [.int .i64 (.var 2)])] (.load (.ptr 32 0) [.int .i64] (.split (.eq (.var 36) (.lit 0)) (.split (.not (.eq (.var 35) (.min (.len 12) (.max (.lit 1)
 (.var 2))))) (.leafM 0 [.bool (.lit false)] [4] [(34, [.int .i64 (.var 35)]), (7, [.int .i64 (.var 9), .int .u32 (.var 10), .var 11, .var 12, .bool (.var 13), .bool
 (.var 14), .bool (.var 15), .bool (.var 16), .bool (.var 17), .bool (.var 18), .bool (.var 19), .bool (.var 20), .int .u8 (.var 21), .int .u8 (.var 22), .int .u8
 (.var 23), .int .u8 (.var 24), .int .u8 (.var 25), .int .u8 (.var 26), .int .u8 (.var 27), .int .u8 (.var 28)]), (4, [.bool (.lit false)]), (3, [.int
 .i64 (.var 2)])]) (.start false [] [] [(34, [.int .i64 (.var 35)]), (7, [.int .i64 (.var 9), .int .u32 (.var 10), .var 11, .var 12, .bool (.var 13), .bool (.var
 14), .bool (.var 15), .bool (.var 16), .bool (.var 17), .bool (.var 18), .bool (.var 19), .bool (.var 20), .int .u8 (.var 21), .int .u8 (.var 22), .int .u8 (.var
 23), .int .u8 (.var 24), .int .u8 (.var 25), .int .u8 (.var 26), .int .u8 (.var 27), .int .u8 (.var 28)]), (4, [.bool (.lit false)]), (3, [.int .i64
 (.var 2)])] (.load (.ptr 32 0) [.int .i64] (.split (.eq (.var 37) (.lit 1)) (.split (.not (.eq (.var 35) (.len 12))) (.leafM 0 [.bool (.lit false)] [4] [(34, [.int .i64
 (.var 35)]), (7, [.int .i64 (.var 9), .int .u32 (.var 10), .var 11, .var 12, .bool (.var 13), .bool (.var 14), .bool (.var 15), .bool (.var 16), .bool (.var 17), .bool
 (.var 18), .bool (.var 19), .bool (.var 20), .int .u8 (.var 21), .int .u8 (.var 22), .int .u8 (.var 23), .int .u8 (.var 24), .int .u8 (.var 25), .int
 .u8 (.var 26), .int .u8 (.var 27), .int .u8 (.var 28)]), (4, [.bool (.lit false)]), (3, [.int .i64 (.var 2)])]) (.leaf 5 [] [] [(34, [.int .i64 (.var 35)]), (7,
 [.int .i64 (.var 9), .int .u32 (.var 10), .var 11, .var 12, .bool (.var 13), .bool (.var 14), .bool (.var 15), .bool (.var 16), .bool (.var 17), .bool (.var 18), .bool
 (.var 19), .bool (.var 20), .int .u8 (.var 21), .int .u8 (.var 22), .int .u8 (.var 23), .int .u8 (.var 24), .int .u8 (.var 25), .int .u8 (.var 26),
 .int .u8 (.var 27), .int .u8 (.var 28)]), (4, [.bool (.lit false)]), (3, [.int .i64 (.var 2)])])) (.leaf 5 [] [] [(34, [.int .i64 (.var 35)]), (7, [.int .i64
 (.var 9), .int .u32 (.var 10), .var 11, .var 12, .bool (.var 13), .bool (.var 14), .bool (.var 15), .bool (.var 16), .bool (.var 17), .bool (.var 18), .bool (.var 19),
 .bool (.var 20), .int .u8 (.var 21), .int .u8 (.var 22), .int .u8 (.var 23), .int .u8 (.var 24), .int .u8 (.var 25), .int .u8 (.var 26), .int
 .u8 (.var 27), .int .u8 (.var 28)]), (4, [.bool (.lit false)]), (3, [.int .i64 (.var 2)])]))))) (.start false [] [] [(34, [.int .i64 (.var 35)]), (7, [.int .i64
 (.var 9), .int .u32 (.var 10), .var 11, .var 12, .bool (.var 13), .bool (.var 14), .bool (.var 15), .bool (.var 16), .bool (.var 17), .bool (.var 18), .bool (.var 19),
 .bool (.var 20), .int .u8 (.var 21), .int .u8 (.var 22), .int .u8 (.var 23), .int .u8 (.var 24), .int .u8 (.var 25), .int .u8 (.var 26), .int
 .u8 (.var 27), .int .u8 (.var 28)]), (4, [.bool (.lit false)]), (3, [.int .i64 (.var 2)])] (.load (.ptr 32 0) [.int .i64] (.split (.eq (.var 37) (.lit 1))
 (.split (.not (.eq (.var 35) (.len 12))) (.leafM 0 [.bool (.lit false)] [4] [(34, [.int .i64 (.var 35)]), (7, [.int .i64 (.var 9), .int .u32 (.var 10), .var 11, .var
 12, .bool (.var 13), .bool (.var 14), .bool (.var 15), .bool (.var 16), .bool (.var 17), .bool (.var 18), .bool (.var 19), .bool (.var 20), .int .u8 (.var 21), .int
 .u8 (.var 22), .int .u8 (.var 23), .int .u8 (.var 24), .int .u8 (.var 25), .int .u8 (.var 26), .int .u8 (.var 27), .int .u8 (.var 28)]), (4,
 [.bool (.lit false)]), (3, [.int .i64 (.var 2)])]) (.leaf 5 [] [] [(34, [.int .i64 (.var 35)]), (7, [.int .i64 (.var 9), .int .u32 (.var 10), .var 11, .var 12,
 .bool (.var 13), .bool (.var 14), .bool (.var 15), .bool (.var 16), .bool (.var 17), .bool (.var 18), .bool (.var 19), .bool (.var 20), .int .u8 (.var 21), .int .u8
 (.var 22), .int .u8 (.var 23), .int .u8 (.var 24), .int .u8 (.var 25), .int .u8 (.var 26), .int .u8 (.var 27), .int .u8 (.var 28)]), (4, [.bool
 (.lit false)]), (3, [.int .i64 (.var 2)])])) (.leaf 5 [] [] [(34, [.int .i64 (.var 35)]), (7, [.int .i64 (.var 9), .int .u32 (.var 10), .var 11, .var 12, .bool
 (.var 13), .bool (.var 14), .bool (.var 15), .bool (.var 16), .bool (.var 17), .bool (.var 18), .bool (.var 19), .bool (.var 20), .int .u8 (.var 21), .int .u8 (.var
 22), .int .u8 (.var 23), .int .u8 (.var 24), .int .u8 (.var 25), .int .u8 (.var 26), .int .u8 (.var 27), .int .u8 (.var 28)]), (4, [.bool (.lit
 false)]), (3, [.int .i64 (.var 2)])]))))))))) (.start false [] [] [(7, [.int .i64 (.var 9), .int .u32 (.var 10), .var 11, .var 12, .bool (.var 13), .bool (.var 14), .bool
 (.var 15), .bool (.var 16), .bool (.var 17), .bool (.var 18), .bool (.var 19), .bool (.var 20), .int .u8 (.var 21), .int .u8 (.var 22), .int .u8 (.var 23), .int
 .u8 (.var 24), .int .u8 (.var 25), .int .u8 (.var 26), .int .u8 (.var 27), .int .u8 (.var 28)]), (4, [.bool (.lit false)]), (3, [.int .i64 (.var 2)])]
 (.load (.ptr 32 0) [.int .i64] (.blk (.ob (.le (.lit (-9223372036854775808)) (.add (.var 34) (.lit 1))) (.ob (.le (.add (.var 34) (.lit 1)) (.lit 9223372036854775807)) (.leaf 3
 [.ptr 35 0] [35] [(35, [.int .i64 (.add (.var 34) (.lit 1))]), (7, [.int .i64 (.var 9), .int .u32 (.var 10), .var 11, .var 12, .bool (.var 13), .bool (.var 14), .bool
 (.var 15), .bool (.var 16), .bool (.var 17), .bool (.var 18), .bool (.var 19), .bool (.var 20), .int .u8 (.var 21), .int .u8 (.var 22), .int .u8 (.var 23), .int
 .u8 (.var 24), .int .u8 (.var 25), .int .u8 (.var 26), .int .u8 (.var 27), .int .u8 (.var 28)]), (4, [.bool (.lit false)]), (3, [.int .i64 (.var
 2)])]))))))) (.call 16 [] [.bool] (.bool (.var 34)) [] false [] [] [7, 4, 3] [(7, [.int .i64 (.var 9), .int .u32 (.var 10), .var 11, .var 12, .bool (.var 13), .bool (.var 14),
 .bool (.var 15), .bool (.var 16), .bool (.var 17), .bool (.var 18), .bool (.var 19), .bool (.var 20), .int .u8 (.var 21), .int .u8 (.var 22), .int .u8 (.var 23),
 .int .u8 (.var 24), .int .u8 (.var 25), .int .u8 (.var 26), .int .u8 (.var 27), .int .u8 (.var 28)]), (4, [.bool (.lit false)]), (3, [.int .i64 (.var
 2)])] (.leafM 0 [.bool (.var 34)] [4] [(7, [.int .i64 (.var 9), .int .u32 (.var 10), .var 11, .var 12, .bool (.var 13), .bool (.var 14), .bool (.var 15), .bool (.var 16),
 .bool (.var 17), .bool (.var 18), .bool (.var 19), .bool (.var 20), .int .u8 (.var 21), .int .u8 (.var 22), .int .u8 (.var 23), .int .u8 (.var 24), .int
 .u8 (.var 25), .int .u8 (.var 26), .int .u8 (.var 27), .int .u8 (.var 28)]), (4, [.bool (.var 34)]), (3, [.int .i64 (.var 2)])]))))))))))))))))) := by kernel_rfl

end Go.Proofs.Ytfjlnfgbfclgbaa
