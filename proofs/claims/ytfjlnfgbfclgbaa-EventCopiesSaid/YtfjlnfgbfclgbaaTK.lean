/- What the functions of the chapter come to, printed by a program of the prover's and checked by the kernel. No conditions. -/
import Derived.Test.YtfjlnfgbfclgbaaSxZI
import Derived.Test.YtfjlnfgbfclgbaaProg
import Derived.KernelRfl
set_option maxRecDepth 100000
set_option linter.unusedVariables false
namespace Go.Proofs.Ytfjlnfgbfclgbaa
open Go.Sx

theorem t8 : exFn { P := Try.prog, loops := (fun r => if Nat.beq r 7 then some ⟨1, [(12, .bool), (13, .int .i64)], [11]⟩ else if Nat.beq r 14 then some ⟨2, [(12, .bool), (16, .int .i64)], [11, 15]⟩ else none), joins := (fun r => if Nat.beq r 18 then some ⟨3, [(12, .bool)], [11]⟩ else if Nat.beq r 20 then some ⟨4, [(12, .bool)], [15]⟩ else if Nat.beq r 10 then some ⟨5, [(12, .bool)], [11]⟩ else none) }
 8 [.int .i64 (.var 0), .var 1, .var 2, .var 3] [.int .i64, .slice, .slice, .slice] [] = .call 17 [.int .i64 (.var 0)] [.ptr, .int .i64] (.tuple [.var 4, .int .i64 (.var 5)]) []
 false [] [] [] [] (.split (.not (.eq (.var 5) (.lit 0))) (.call 16 [] [.bool] (.bool (.var 6)) [] false [] [] [] [] (.leaf 0 [.bool (.var 6)] [] [])) (.split (.lt (.lit 60) (.len 1))
 (.call 16 [] [.bool] (.bool (.var 6)) [] false [] [] [] [] (.leaf 0 [.bool (.var 6)] [] [])) (.split (.lt (.lit 60) (.len 2)) (.call 16 [] [.bool] (.bool (.var 6)) [] false [] [] [] []
 (.leaf 0 [.bool (.var 6)] [] [])) (.split (.lt (.lit 60) (.len 3)) (.call 16 [] [.bool] (.bool (.var 6)) [] false [] [] [] [] (.leaf 0 [.bool (.var 6)] [] [])) (.blk (.cut 5 [.bool,
 .int .i64, .int .u32, .slice, .slice, .bool, .bool, .bool, .bool, .bool, .bool, .bool, .bool, .int .u8, .int .u8, .int .u8,
 .int .u8, .int .u8, .int .u8, .int .u8, .int .u8] [6] [(6, [.int .i64 (.var 8), .int .u32 (.var 9), .var 10, .var 11, .bool (.var 12),
 .bool (.var 13), .bool (.var 14), .bool (.var 15), .bool (.var 16), .bool (.var 17), .bool (.var 18), .bool (.var 19), .int .u8 (.var 20), .int .u8 (.var 21), .int
 .u8 (.var 22), .int .u8 (.var 23), .int .u8 (.var 24), .int .u8 (.var 25), .int .u8 (.var 26), .int .u8 (.var 27)])] (.loop 1 [.bool (.lit true),
 .int .i64 (.lit 0), .int .i64 (.var 0), .int .u32 (.lit 0), .cst (.slice none 0 0), .cst (.slice none 0 0), .bool (.lit false), .bool (.lit false), .bool (.lit
 false), .bool (.lit false), .bool (.lit false), .bool (.lit false), .bool (.lit false), .bool (.lit false), .int .u8 (.lit 0), .int .u8 (.lit 0), .int .u8 (.lit 0),
 .int .u8 (.lit 0), .int .u8 (.lit 0), .int .u8 (.lit 0), .int .u8 (.lit 0), .int .u8 (.lit 0)] [.bool, .int .i64, .int .i64, .int
 .u32, .slice, .slice, .bool, .bool, .bool, .bool, .bool, .bool, .bool, .bool, .int .u8, .int .u8, .int .u8, .int .u8, .int
 .u8, .int .u8, .int .u8, .int .u8] [6] [6] [(6, [.int .i64 (.var 0), .int .u32 (.lit 0), .cst (.slice none 0 0), .cst (.slice none 0 0),
 .bool (.lit false), .bool (.lit false), .bool (.lit false), .bool (.lit false), .bool (.lit false), .bool (.lit false), .bool (.lit false), .bool (.lit false), .int .u8 (.lit
 0), .int .u8 (.lit 0), .int .u8 (.lit 0), .int .u8 (.lit 0), .int .u8 (.lit 0), .int .u8 (.lit 0), .int .u8 (.lit 0), .int .u8 (.lit 0)])]
 [(6, [.int .i64 (.var 9), .int .u32 (.var 10), .var 11, .var 12, .bool (.var 13), .bool (.var 14), .bool (.var 15), .bool (.var 16), .bool (.var 17), .bool (.var 18),
 .bool (.var 19), .bool (.var 20), .int .u8 (.var 21), .int .u8 (.var 22), .int .u8 (.var 23), .int .u8 (.var 24), .int .u8 (.var 25), .int .u8
 (.var 26), .int .u8 (.var 27), .int .u8 (.var 28)])] (.split (.lt (.var 8) (.len 1)) (.split (.var 7) (.start true [] [6] [(6, [.int .i64 (.var 9), .int .u32
 (.var 10), .var 11, .var 12, .bool (.var 13), .bool (.var 14), .bool (.var 15), .bool (.var 16), .bool (.var 17), .bool (.var 18), .bool (.var 19), .bool (.var 20), .int
 .u8 (.var 21), .int .u8 (.var 22), .int .u8 (.var 23), .int .u8 (.var 24), .int .u8 (.var 25), .int .u8 (.var 26), .int .u8 (.var 27), .int
 .u8 (.var 28)])] (.ob (.le (.lit 0) (.var 8)) (.ob (.lt (.var 8) (.len 1)) (.ob (.not (.nil 1)) (.load (.elt 1 0 (.var 8) 6 0) [.int .i64, .int .u16, .int
 .u8, .int .u8, .int .u8, .int .u32] (.call 26 [.var 4, .agg [.int .i64 (.var 9), .int .u32 (.var 10), .var 11, .var 12, .bool (.var 13),
 .bool (.var 14), .bool (.var 15), .bool (.var 16), .bool (.var 17), .bool (.var 18), .bool (.var 19), .bool (.var 20), .int .u8 (.var 21), .int .u8 (.var 22), .int
 .u8 (.var 23), .int .u8 (.var 24), .int .u8 (.var 25), .int .u8 (.var 26), .int .u8 (.var 27), .int .u8 (.var 28)], .agg [.int .i64 (.var 29),
 .int .u16 (.var 30), .int .u8 (.var 31), .int .u8 (.var 32), .int .u8 (.var 33), .int .u32 (.var 34)]] [.int .i64, .int .u32, .slice,
 .slice, .bool, .bool, .bool, .bool, .bool, .bool, .bool, .bool, .int .u8, .int .u8, .int .u8, .int .u8, .int .u8, .int
 .u8, .int .u8, .int .u8, .bool] (.tuple [.agg [.int .i64 (.var 35), .int .u32 (.var 36), .var 37, .var 38, .bool (.var 39), .bool (.var 40), .bool
 (.var 41), .bool (.var 42), .bool (.var 43), .bool (.var 44), .bool (.var 45), .bool (.var 46), .int .u8 (.var 47), .int .u8 (.var 48), .int .u8 (.var 49), .int
 .u8 (.var 50), .int .u8 (.var 51), .int .u8 (.var 52), .int .u8 (.var 53), .int .u8 (.var 54)], .bool (.var 55)]) [] true [] [] [6] [(6, [.int .i64
 (.var 9), .int .u32 (.var 10), .var 11, .var 12, .bool (.var 13), .bool (.var 14), .bool (.var 15), .bool (.var 16), .bool (.var 17), .bool (.var 18), .bool (.var 19),
 .bool (.var 20), .int .u8 (.var 21), .int .u8 (.var 22), .int .u8 (.var 23), .int .u8 (.var 24), .int .u8 (.var 25), .int .u8 (.var 26), .int
 .u8 (.var 27), .int .u8 (.var 28)])] (.ob (.le (.lit (-9223372036854775808)) (.add (.var 8) (.lit 1))) (.ob (.le (.add (.var 8) (.lit 1)) (.lit 9223372036854775807)) (.leaf
 1 [.bool (.var 55), .int .i64 (.add (.var 8) (.lit 1)), .int .i64 (.var 35), .int .u32 (.var 36), .var 37, .var 38, .bool (.var 39), .bool (.var 40), .bool (.var
 41), .bool (.var 42), .bool (.var 43), .bool (.var 44), .bool (.var 45), .bool (.var 46), .int .u8 (.var 47), .int .u8 (.var 48), .int .u8 (.var 49), .int
 .u8 (.var 50), .int .u8 (.var 51), .int .u8 (.var 52), .int .u8 (.var 53), .int .u8 (.var 54)] [6] [(6, [.int .i64 (.var 35), .int .u32 (.var
 36), .var 37, .var 38, .bool (.var 39), .bool (.var 40), .bool (.var 41), .bool (.var 42), .bool (.var 43), .bool (.var 44), .bool (.var 45), .bool (.var 46), .int .u8
 (.var 47), .int .u8 (.var 48), .int .u8 (.var 49), .int .u8 (.var 50), .int .u8 (.var 51), .int .u8 (.var 52), .int .u8 (.var 53), .int .u8
 (.var 54)])]))))))))) (.leaf 5 [.bool (.var 7), .int .i64 (.var 9), .int .u32 (.var 10), .var 11, .var 12, .bool (.var 13), .bool (.var 14), .bool (.var 15), .bool (.var
 16), .bool (.var 17), .bool (.var 18), .bool (.var 19), .bool (.var 20), .int .u8 (.var 21), .int .u8 (.var 22), .int .u8 (.var 23), .int .u8 (.var 24), .int
 .u8 (.var 25), .int .u8 (.var 26), .int .u8 (.var 27), .int .u8 (.var 28)] [] [(6, [.int .i64 (.var 9), .int .u32 (.var 10), .var 11, .var 12, .bool
 (.var 13), .bool (.var 14), .bool (.var 15), .bool (.var 16), .bool (.var 17), .bool (.var 18), .bool (.var 19), .bool (.var 20), .int .u8 (.var 21), .int .u8 (.var
 22), .int .u8 (.var 23), .int .u8 (.var 24), .int .u8 (.var 25), .int .u8 (.var 26), .int .u8 (.var 27), .int .u8 (.var 28)])])) (.leaf 5 [.bool
 (.var 7), .int .i64 (.var 9), .int .u32 (.var 10), .var 11, .var 12, .bool (.var 13), .bool (.var 14), .bool (.var 15), .bool (.var 16), .bool (.var 17), .bool (.var
 18), .bool (.var 19), .bool (.var 20), .int .u8 (.var 21), .int .u8 (.var 22), .int .u8 (.var 23), .int .u8 (.var 24), .int .u8 (.var 25), .int .u8
 (.var 26), .int .u8 (.var 27), .int .u8 (.var 28)] [] [(6, [.int .i64 (.var 9), .int .u32 (.var 10), .var 11, .var 12, .bool (.var 13), .bool (.var 14), .bool
 (.var 15), .bool (.var 16), .bool (.var 17), .bool (.var 18), .bool (.var 19), .bool (.var 20), .int .u8 (.var 21), .int .u8 (.var 22), .int .u8 (.var 23), .int
 .u8 (.var 24), .int .u8 (.var 25), .int .u8 (.var 26), .int .u8 (.var 27), .int .u8 (.var 28)])]))) (.start true [] [6] [(6, [.int .i64 (.var 8), .int
 .u32 (.var 9), .var 10, .var 11, .bool (.var 12), .bool (.var 13), .bool (.var 14), .bool (.var 15), .bool (.var 16), .bool (.var 17), .bool (.var 18), .bool (.var 19),
 .int .u8 (.var 20), .int .u8 (.var 21), .int .u8 (.var 22), .int .u8 (.var 23), .int .u8 (.var 24), .int .u8 (.var 25), .int .u8 (.var 26),
 .int .u8 (.var 27)])] (.both (.call 28 [.var 4] [.ptr] (.var 28) [] true [] [] [6] [(6, [.int .i64 (.var 8), .int .u32 (.var 9), .var 10, .var 11, .bool (.var 12),
 .bool (.var 13), .bool (.var 14), .bool (.var 15), .bool (.var 16), .bool (.var 17), .bool (.var 18), .bool (.var 19), .int .u8 (.var 20), .int .u8 (.var 21), .int
 .u8 (.var 22), .int .u8 (.var 23), .int .u8 (.var 24), .int .u8 (.var 25), .int .u8 (.var 26), .int .u8 (.var 27)])] (.blk (.split (.nil 28) (.leaf
 0 [.bool (.lit false)] [29] [(29, [.int .i64 (.var 8), .int .u32 (.var 9), .var 10, .var 11, .bool (.var 12), .bool (.var 13), .bool (.var 14), .bool (.var 15), .bool
 (.var 16), .bool (.var 17), .bool (.var 18), .bool (.var 19), .int .u8 (.var 20), .int .u8 (.var 21), .int .u8 (.var 22), .int .u8 (.var 23), .int .u8
 (.var 24), .int .u8 (.var 25), .int .u8 (.var 26), .int .u8 (.var 27)]), (6, [.int .i64 (.var 8), .int .u32 (.var 9), .var 10, .var 11, .bool (.var 12),
 .bool (.var 13), .bool (.var 14), .bool (.var 15), .bool (.var 16), .bool (.var 17), .bool (.var 18), .bool (.var 19), .int .u8 (.var 20), .int .u8 (.var 21), .int
 .u8 (.var 22), .int .u8 (.var 23), .int .u8 (.var 24), .int .u8 (.var 25), .int .u8 (.var 26), .int .u8 (.var 27)])]) (.split (.not (.var 7))
 (.leaf 0 [.bool (.lit false)] [29] [(29, [.int .i64 (.var 8), .int .u32 (.var 9), .var 10, .var 11, .bool (.var 12), .bool (.var 13), .bool (.var 14), .bool (.var 15),
 .bool (.var 16), .bool (.var 17), .bool (.var 18), .bool (.var 19), .int .u8 (.var 20), .int .u8 (.var 21), .int .u8 (.var 22), .int .u8 (.var 23), .int
 .u8 (.var 24), .int .u8 (.var 25), .int .u8 (.var 26), .int .u8 (.var 27)]), (6, [.int .i64 (.var 8), .int .u32 (.var 9), .var 10, .var 11, .bool
 (.var 12), .bool (.var 13), .bool (.var 14), .bool (.var 15), .bool (.var 16), .bool (.var 17), .bool (.var 18), .bool (.var 19), .int .u8 (.var 20), .int .u8 (.var
 21), .int .u8 (.var 22), .int .u8 (.var 23), .int .u8 (.var 24), .int .u8 (.var 25), .int .u8 (.var 26), .int .u8 (.var 27)])]) (.call 29 [.var 28,
 .agg [.int .i64 (.var 8), .int .u32 (.var 9), .var 10, .var 11, .bool (.var 12), .bool (.var 13), .bool (.var 14), .bool (.var 15), .bool (.var 16), .bool (.var 17),
 .bool (.var 18), .bool (.var 19), .int .u8 (.var 20), .int .u8 (.var 21), .int .u8 (.var 22), .int .u8 (.var 23), .int .u8 (.var 24), .int .u8
 (.var 25), .int .u8 (.var 26), .int .u8 (.var 27)]] [.bool] (.bool (.var 30)) [] false [29] [] [29, 6] [(29, [.int .i64 (.var 8), .int .u32 (.var 9), .var 10,
 .var 11, .bool (.var 12), .bool (.var 13), .bool (.var 14), .bool (.var 15), .bool (.var 16), .bool (.var 17), .bool (.var 18), .bool (.var 19), .int .u8 (.var 20), .int
 .u8 (.var 21), .int .u8 (.var 22), .int .u8 (.var 23), .int .u8 (.var 24), .int .u8 (.var 25), .int .u8 (.var 26), .int .u8 (.var 27)]), (6,
 [.int .i64 (.var 8), .int .u32 (.var 9), .var 10, .var 11, .bool (.var 12), .bool (.var 13), .bool (.var 14), .bool (.var 15), .bool (.var 16), .bool (.var 17), .bool
 (.var 18), .bool (.var 19), .int .u8 (.var 20), .int .u8 (.var 21), .int .u8 (.var 22), .int .u8 (.var 23), .int .u8 (.var 24), .int .u8 (.var 25),
 .int .u8 (.var 26), .int .u8 (.var 27)])] (.split (.not (.var 30)) (.leaf 0 [.bool (.lit false)] [] [(29, [.int .i64 (.var 8), .int .u32 (.var 9), .var 10,
 .var 11, .bool (.var 12), .bool (.var 13), .bool (.var 14), .bool (.var 15), .bool (.var 16), .bool (.var 17), .bool (.var 18), .bool (.var 19), .int .u8 (.var 20), .int
 .u8 (.var 21), .int .u8 (.var 22), .int .u8 (.var 23), .int .u8 (.var 24), .int .u8 (.var 25), .int .u8 (.var 26), .int .u8 (.var 27)]), (6,
 [.int .i64 (.var 8), .int .u32 (.var 9), .var 10, .var 11, .bool (.var 12), .bool (.var 13), .bool (.var 14), .bool (.var 15), .bool (.var 16), .bool (.var 17), .bool
 (.var 18), .bool (.var 19), .int .u8 (.var 20), .int .u8 (.var 21), .int .u8 (.var 22), .int .u8 (.var 23), .int .u8 (.var 24), .int .u8 (.var 25),
 .int .u8 (.var 26), .int .u8 (.var 27)])]) (.loop 2 [.bool (.var 7), .int .i64 (.lit 0), .int .i64 (.var 8), .int .u32 (.var 9), .var 10, .var 11, .bool
 (.var 12), .bool (.var 13), .bool (.var 14), .bool (.var 15), .bool (.var 16), .bool (.var 17), .bool (.var 18), .bool (.var 19), .int .u8 (.var 20), .int .u8 (.var
 21), .int .u8 (.var 22), .int .u8 (.var 23), .int .u8 (.var 24), .int .u8 (.var 25), .int .u8 (.var 26), .int .u8 (.var 27), .int .i64 (.var
 8), .int .u32 (.var 9), .var 10, .var 11, .bool (.var 12), .bool (.var 13), .bool (.var 14), .bool (.var 15), .bool (.var 16), .bool (.var 17), .bool (.var 18), .bool (.var
 19), .int .u8 (.var 20), .int .u8 (.var 21), .int .u8 (.var 22), .int .u8 (.var 23), .int .u8 (.var 24), .int .u8 (.var 25), .int .u8 (.var
 26), .int .u8 (.var 27)] [.bool, .int .i64, .int .i64, .int .u32, .slice, .slice, .bool, .bool, .bool, .bool, .bool, .bool, .bool,
 .bool, .int .u8, .int .u8, .int .u8, .int .u8, .int .u8, .int .u8, .int .u8, .int .u8, .int .i64, .int
 .u32, .slice, .slice, .bool, .bool, .bool, .bool, .bool, .bool, .bool, .bool, .int .u8, .int .u8, .int .u8, .int .u8, .int
 .u8, .int .u8, .int .u8, .int .u8] [] [29, 6] [(29, [.int .i64 (.var 8), .int .u32 (.var 9), .var 10, .var 11, .bool (.var 12), .bool (.var 13),
 .bool (.var 14), .bool (.var 15), .bool (.var 16), .bool (.var 17), .bool (.var 18), .bool (.var 19), .int .u8 (.var 20), .int .u8 (.var 21), .int .u8 (.var 22),
 .int .u8 (.var 23), .int .u8 (.var 24), .int .u8 (.var 25), .int .u8 (.var 26), .int .u8 (.var 27)]), (6, [.int .i64 (.var 8), .int .u32 (.var
 9), .var 10, .var 11, .bool (.var 12), .bool (.var 13), .bool (.var 14), .bool (.var 15), .bool (.var 16), .bool (.var 17), .bool (.var 18), .bool (.var 19), .int .u8 (.var
 20), .int .u8 (.var 21), .int .u8 (.var 22), .int .u8 (.var 23), .int .u8 (.var 24), .int .u8 (.var 25), .int .u8 (.var 26), .int .u8 (.var
 27)])] [(29, [.int .i64 (.var 53), .int .u32 (.var 54), .var 55, .var 56, .bool (.var 57), .bool (.var 58), .bool (.var 59), .bool (.var 60), .bool (.var 61), .bool
 (.var 62), .bool (.var 63), .bool (.var 64), .int .u8 (.var 65), .int .u8 (.var 66), .int .u8 (.var 67), .int .u8 (.var 68), .int .u8 (.var 69), .int
 .u8 (.var 70), .int .u8 (.var 71), .int .u8 (.var 72)]), (6, [.int .i64 (.var 33), .int .u32 (.var 34), .var 35, .var 36, .bool (.var 37), .bool (.var
 38), .bool (.var 39), .bool (.var 40), .bool (.var 41), .bool (.var 42), .bool (.var 43), .bool (.var 44), .int .u8 (.var 45), .int .u8 (.var 46), .int .u8 (.var
 47), .int .u8 (.var 48), .int .u8 (.var 49), .int .u8 (.var 50), .int .u8 (.var 51), .int .u8 (.var 52)])] (.split (.lt (.var 32) (.max (.len 2) (.len
 3))) (.cut 3 [.bool, .int .i64, .int .u32, .slice, .slice, .bool, .bool, .bool, .bool, .bool, .bool, .bool, .bool, .int .u8, .int
 .u8, .int .u8, .int .u8, .int .u8, .int .u8, .int .u8, .int .u8] [29, 6] [(29, [.int .i64 (.var 53), .int .u32 (.var 54),
 .var 55, .var 56, .bool (.var 57), .bool (.var 58), .bool (.var 59), .bool (.var 60), .bool (.var 61), .bool (.var 62), .bool (.var 63), .bool (.var 64), .int .u8 (.var
 65), .int .u8 (.var 66), .int .u8 (.var 67), .int .u8 (.var 68), .int .u8 (.var 69), .int .u8 (.var 70), .int .u8 (.var 71), .int .u8 (.var
 72)]), (6, [.int .i64 (.var 74), .int .u32 (.var 75), .var 76, .var 77, .bool (.var 78), .bool (.var 79), .bool (.var 80), .bool (.var 81), .bool (.var 82), .bool (.var
 83), .bool (.var 84), .bool (.var 85), .int .u8 (.var 86), .int .u8 (.var 87), .int .u8 (.var 88), .int .u8 (.var 89), .int .u8 (.var 90), .int .u8
 (.var 91), .int .u8 (.var 92), .int .u8 (.var 93)])] (.split (.lt (.var 32) (.len 2)) (.start true [] [29, 6] [(29, [.int .i64 (.var 53), .int .u32 (.var 54),
 .var 55, .var 56, .bool (.var 57), .bool (.var 58), .bool (.var 59), .bool (.var 60), .bool (.var 61), .bool (.var 62), .bool (.var 63), .bool (.var 64), .int .u8 (.var
 65), .int .u8 (.var 66), .int .u8 (.var 67), .int .u8 (.var 68), .int .u8 (.var 69), .int .u8 (.var 70), .int .u8 (.var 71), .int .u8 (.var
 72)]), (6, [.int .i64 (.var 33), .int .u32 (.var 34), .var 35, .var 36, .bool (.var 37), .bool (.var 38), .bool (.var 39), .bool (.var 40), .bool (.var 41), .bool (.var
 42), .bool (.var 43), .bool (.var 44), .int .u8 (.var 45), .int .u8 (.var 46), .int .u8 (.var 47), .int .u8 (.var 48), .int .u8 (.var 49), .int .u8
 (.var 50), .int .u8 (.var 51), .int .u8 (.var 52)])] (.ob (.le (.lit 0) (.var 32)) (.ob (.lt (.var 32) (.len 2)) (.ob (.not (.nil 2)) (.load (.elt 2 0 (.var 32) 6 0)
 [.int .i64, .int .u16, .int .u8, .int .u8, .int .u8, .int .u32] (.call 26 [.var 4, .agg [.int .i64 (.var 33), .int .u32 (.var
 34), .var 35, .var 36, .bool (.var 37), .bool (.var 38), .bool (.var 39), .bool (.var 40), .bool (.var 41), .bool (.var 42), .bool (.var 43), .bool (.var 44), .int .u8
 (.var 45), .int .u8 (.var 46), .int .u8 (.var 47), .int .u8 (.var 48), .int .u8 (.var 49), .int .u8 (.var 50), .int .u8 (.var 51), .int .u8
 (.var 52)], .agg [.int .i64 (.var 73), .int .u16 (.var 74), .int .u8 (.var 75), .int .u8 (.var 76), .int .u8 (.var 77), .int .u32 (.var 78)]]
 [.int .i64, .int .u32, .slice, .slice, .bool, .bool, .bool, .bool, .bool, .bool, .bool, .bool, .int .u8, .int .u8, .int .u8,
 .int .u8, .int .u8, .int .u8, .int .u8, .int .u8, .bool] (.tuple [.agg [.int .i64 (.var 79), .int .u32 (.var 80), .var 81, .var
 82, .bool (.var 83), .bool (.var 84), .bool (.var 85), .bool (.var 86), .bool (.var 87), .bool (.var 88), .bool (.var 89), .bool (.var 90), .int .u8 (.var 91), .int
 .u8 (.var 92), .int .u8 (.var 93), .int .u8 (.var 94), .int .u8 (.var 95), .int .u8 (.var 96), .int .u8 (.var 97), .int .u8 (.var 98)], .bool
 (.var 99)]) [] true [] [] [29, 6] [(29, [.int .i64 (.var 53), .int .u32 (.var 54), .var 55, .var 56, .bool (.var 57), .bool (.var 58), .bool (.var 59), .bool (.var 60),
 .bool (.var 61), .bool (.var 62), .bool (.var 63), .bool (.var 64), .int .u8 (.var 65), .int .u8 (.var 66), .int .u8 (.var 67), .int .u8 (.var 68), .int
 .u8 (.var 69), .int .u8 (.var 70), .int .u8 (.var 71), .int .u8 (.var 72)]), (6, [.int .i64 (.var 33), .int .u32 (.var 34), .var 35, .var 36, .bool
 (.var 37), .bool (.var 38), .bool (.var 39), .bool (.var 40), .bool (.var 41), .bool (.var 42), .bool (.var 43), .bool (.var 44), .int .u8 (.var 45), .int .u8 (.var
 46), .int .u8 (.var 47), .int .u8 (.var 48), .int .u8 (.var 49), .int .u8 (.var 50), .int .u8 (.var 51), .int .u8 (.var 52)])] (.leaf 3 [.bool
 (.var 99), .int .i64 (.var 79), .int .u32 (.var 80), .var 81, .var 82, .bool (.var 83), .bool (.var 84), .bool (.var 85), .bool (.var 86), .bool (.var 87), .bool (.var
 88), .bool (.var 89), .bool (.var 90), .int .u8 (.var 91), .int .u8 (.var 92), .int .u8 (.var 93), .int .u8 (.var 94), .int .u8 (.var 95), .int .u8
 (.var 96), .int .u8 (.var 97), .int .u8 (.var 98)] [6] [(29, [.int .i64 (.var 53), .int .u32 (.var 54), .var 55, .var 56, .bool (.var 57), .bool (.var 58),
 .bool (.var 59), .bool (.var 60), .bool (.var 61), .bool (.var 62), .bool (.var 63), .bool (.var 64), .int .u8 (.var 65), .int .u8 (.var 66), .int .u8 (.var 67),
 .int .u8 (.var 68), .int .u8 (.var 69), .int .u8 (.var 70), .int .u8 (.var 71), .int .u8 (.var 72)]), (6, [.int .i64 (.var 79), .int .u32
 (.var 80), .var 81, .var 82, .bool (.var 83), .bool (.var 84), .bool (.var 85), .bool (.var 86), .bool (.var 87), .bool (.var 88), .bool (.var 89), .bool (.var 90), .int
 .u8 (.var 91), .int .u8 (.var 92), .int .u8 (.var 93), .int .u8 (.var 94), .int .u8 (.var 95), .int .u8 (.var 96), .int .u8 (.var 97), .int
 .u8 (.var 98)])]))))))) (.leaf 3 [.bool (.var 31), .int .i64 (.var 33), .int .u32 (.var 34), .var 35, .var 36, .bool (.var 37), .bool (.var 38), .bool (.var 39),
 .bool (.var 40), .bool (.var 41), .bool (.var 42), .bool (.var 43), .bool (.var 44), .int .u8 (.var 45), .int .u8 (.var 46), .int .u8 (.var 47), .int .u8
 (.var 48), .int .u8 (.var 49), .int .u8 (.var 50), .int .u8 (.var 51), .int .u8 (.var 52)] [] [(29, [.int .i64 (.var 53), .int .u32 (.var 54), .var
 55, .var 56, .bool (.var 57), .bool (.var 58), .bool (.var 59), .bool (.var 60), .bool (.var 61), .bool (.var 62), .bool (.var 63), .bool (.var 64), .int .u8 (.var 65),
 .int .u8 (.var 66), .int .u8 (.var 67), .int .u8 (.var 68), .int .u8 (.var 69), .int .u8 (.var 70), .int .u8 (.var 71), .int .u8 (.var 72)]),
 (6, [.int .i64 (.var 33), .int .u32 (.var 34), .var 35, .var 36, .bool (.var 37), .bool (.var 38), .bool (.var 39), .bool (.var 40), .bool (.var 41), .bool (.var 42),
 .bool (.var 43), .bool (.var 44), .int .u8 (.var 45), .int .u8 (.var 46), .int .u8 (.var 47), .int .u8 (.var 48), .int .u8 (.var 49), .int .u8
 (.var 50), .int .u8 (.var 51), .int .u8 (.var 52)])])) (.cut 4 [.bool, .int .i64, .int .u32, .slice, .slice, .bool, .bool, .bool, .bool,
 .bool, .bool, .bool, .bool, .int .u8, .int .u8, .int .u8, .int .u8, .int .u8, .int .u8, .int .u8, .int .u8] [29, 6]
 [(29, [.int .i64 (.var 95), .int .u32 (.var 96), .var 97, .var 98, .bool (.var 99), .bool (.var 100), .bool (.var 101), .bool (.var 102), .bool (.var 103), .bool (.var
 104), .bool (.var 105), .bool (.var 106), .int .u8 (.var 107), .int .u8 (.var 108), .int .u8 (.var 109), .int .u8 (.var 110), .int .u8 (.var 111), .int
 .u8 (.var 112), .int .u8 (.var 113), .int .u8 (.var 114)]), (6, [.int .i64 (.var 74), .int .u32 (.var 75), .var 76, .var 77, .bool (.var 78), .bool (.var
 79), .bool (.var 80), .bool (.var 81), .bool (.var 82), .bool (.var 83), .bool (.var 84), .bool (.var 85), .int .u8 (.var 86), .int .u8 (.var 87), .int .u8 (.var
 88), .int .u8 (.var 89), .int .u8 (.var 90), .int .u8 (.var 91), .int .u8 (.var 92), .int .u8 (.var 93)])] (.split (.lt (.var 32) (.len 3)) (.split
 (.var 73) (.start true [] [29, 6] [(29, [.int .i64 (.var 53), .int .u32 (.var 54), .var 55, .var 56, .bool (.var 57), .bool (.var 58), .bool (.var 59), .bool (.var 60),
 .bool (.var 61), .bool (.var 62), .bool (.var 63), .bool (.var 64), .int .u8 (.var 65), .int .u8 (.var 66), .int .u8 (.var 67), .int .u8 (.var 68), .int
 .u8 (.var 69), .int .u8 (.var 70), .int .u8 (.var 71), .int .u8 (.var 72)]), (6, [.int .i64 (.var 74), .int .u32 (.var 75), .var 76, .var 77, .bool
 (.var 78), .bool (.var 79), .bool (.var 80), .bool (.var 81), .bool (.var 82), .bool (.var 83), .bool (.var 84), .bool (.var 85), .int .u8 (.var 86), .int .u8 (.var
 87), .int .u8 (.var 88), .int .u8 (.var 89), .int .u8 (.var 90), .int .u8 (.var 91), .int .u8 (.var 92), .int .u8 (.var 93)])] (.ob (.le (.lit 0)
 (.var 32)) (.ob (.lt (.var 32) (.len 3)) (.ob (.not (.nil 3)) (.load (.elt 3 0 (.var 32) 6 0) [.int .i64, .int .u16, .int .u8, .int .u8, .int
 .u8, .int .u32] (.call 26 [.var 28, .agg [.int .i64 (.var 53), .int .u32 (.var 54), .var 55, .var 56, .bool (.var 57), .bool (.var 58), .bool (.var 59),
 .bool (.var 60), .bool (.var 61), .bool (.var 62), .bool (.var 63), .bool (.var 64), .int .u8 (.var 65), .int .u8 (.var 66), .int .u8 (.var 67), .int .u8
 (.var 68), .int .u8 (.var 69), .int .u8 (.var 70), .int .u8 (.var 71), .int .u8 (.var 72)], .agg [.int .i64 (.var 94), .int .u16 (.var 95), .int
 .u8 (.var 96), .int .u8 (.var 97), .int .u8 (.var 98), .int .u32 (.var 99)]] [.int .i64, .int .u32, .slice, .slice, .bool, .bool,
 .bool, .bool, .bool, .bool, .bool, .bool, .int .u8, .int .u8, .int .u8, .int .u8, .int .u8, .int .u8, .int .u8,
 .int .u8, .bool] (.tuple [.agg [.int .i64 (.var 100), .int .u32 (.var 101), .var 102, .var 103, .bool (.var 104), .bool (.var 105), .bool (.var 106), .bool
 (.var 107), .bool (.var 108), .bool (.var 109), .bool (.var 110), .bool (.var 111), .int .u8 (.var 112), .int .u8 (.var 113), .int .u8 (.var 114), .int .u8
 (.var 115), .int .u8 (.var 116), .int .u8 (.var 117), .int .u8 (.var 118), .int .u8 (.var 119)], .bool (.var 120)]) [] true [] [] [29, 6] [(29, [.int .i64
 (.var 53), .int .u32 (.var 54), .var 55, .var 56, .bool (.var 57), .bool (.var 58), .bool (.var 59), .bool (.var 60), .bool (.var 61), .bool (.var 62), .bool (.var 63),
 .bool (.var 64), .int .u8 (.var 65), .int .u8 (.var 66), .int .u8 (.var 67), .int .u8 (.var 68), .int .u8 (.var 69), .int .u8 (.var 70), .int
 .u8 (.var 71), .int .u8 (.var 72)]), (6, [.int .i64 (.var 74), .int .u32 (.var 75), .var 76, .var 77, .bool (.var 78), .bool (.var 79), .bool (.var 80), .bool
 (.var 81), .bool (.var 82), .bool (.var 83), .bool (.var 84), .bool (.var 85), .int .u8 (.var 86), .int .u8 (.var 87), .int .u8 (.var 88), .int .u8 (.var
 89), .int .u8 (.var 90), .int .u8 (.var 91), .int .u8 (.var 92), .int .u8 (.var 93)])] (.leaf 4 [.bool (.var 120), .int .i64 (.var 100), .int .u32
 (.var 101), .var 102, .var 103, .bool (.var 104), .bool (.var 105), .bool (.var 106), .bool (.var 107), .bool (.var 108), .bool (.var 109), .bool (.var 110), .bool (.var 111),
 .int .u8 (.var 112), .int .u8 (.var 113), .int .u8 (.var 114), .int .u8 (.var 115), .int .u8 (.var 116), .int .u8 (.var 117), .int .u8 (.var
 118), .int .u8 (.var 119)] [29] [(29, [.int .i64 (.var 100), .int .u32 (.var 101), .var 102, .var 103, .bool (.var 104), .bool (.var 105), .bool (.var 106), .bool
 (.var 107), .bool (.var 108), .bool (.var 109), .bool (.var 110), .bool (.var 111), .int .u8 (.var 112), .int .u8 (.var 113), .int .u8 (.var 114), .int .u8
 (.var 115), .int .u8 (.var 116), .int .u8 (.var 117), .int .u8 (.var 118), .int .u8 (.var 119)]), (6, [.int .i64 (.var 74), .int .u32 (.var 75), .var
 76, .var 77, .bool (.var 78), .bool (.var 79), .bool (.var 80), .bool (.var 81), .bool (.var 82), .bool (.var 83), .bool (.var 84), .bool (.var 85), .int .u8 (.var 86),
 .int .u8 (.var 87), .int .u8 (.var 88), .int .u8 (.var 89), .int .u8 (.var 90), .int .u8 (.var 91), .int .u8 (.var 92), .int .u8 (.var
 93)])]))))))) (.leaf 4 [.bool (.var 73), .int .i64 (.var 53), .int .u32 (.var 54), .var 55, .var 56, .bool (.var 57), .bool (.var 58), .bool (.var 59), .bool (.var 60),
 .bool (.var 61), .bool (.var 62), .bool (.var 63), .bool (.var 64), .int .u8 (.var 65), .int .u8 (.var 66), .int .u8 (.var 67), .int .u8 (.var 68), .int
 .u8 (.var 69), .int .u8 (.var 70), .int .u8 (.var 71), .int .u8 (.var 72)] [] [(29, [.int .i64 (.var 53), .int .u32 (.var 54), .var 55, .var 56,
 .bool (.var 57), .bool (.var 58), .bool (.var 59), .bool (.var 60), .bool (.var 61), .bool (.var 62), .bool (.var 63), .bool (.var 64), .int .u8 (.var 65), .int .u8
 (.var 66), .int .u8 (.var 67), .int .u8 (.var 68), .int .u8 (.var 69), .int .u8 (.var 70), .int .u8 (.var 71), .int .u8 (.var 72)]), (6, [.int
 .i64 (.var 74), .int .u32 (.var 75), .var 76, .var 77, .bool (.var 78), .bool (.var 79), .bool (.var 80), .bool (.var 81), .bool (.var 82), .bool (.var 83), .bool
 (.var 84), .bool (.var 85), .int .u8 (.var 86), .int .u8 (.var 87), .int .u8 (.var 88), .int .u8 (.var 89), .int .u8 (.var 90), .int .u8 (.var 91),
 .int .u8 (.var 92), .int .u8 (.var 93)])])) (.leaf 4 [.bool (.var 73), .int .i64 (.var 53), .int .u32 (.var 54), .var 55, .var 56, .bool (.var 57), .bool
 (.var 58), .bool (.var 59), .bool (.var 60), .bool (.var 61), .bool (.var 62), .bool (.var 63), .bool (.var 64), .int .u8 (.var 65), .int .u8 (.var 66), .int .u8
 (.var 67), .int .u8 (.var 68), .int .u8 (.var 69), .int .u8 (.var 70), .int .u8 (.var 71), .int .u8 (.var 72)] [] [(29, [.int .i64 (.var 53), .int
 .u32 (.var 54), .var 55, .var 56, .bool (.var 57), .bool (.var 58), .bool (.var 59), .bool (.var 60), .bool (.var 61), .bool (.var 62), .bool (.var 63), .bool (.var 64),
 .int .u8 (.var 65), .int .u8 (.var 66), .int .u8 (.var 67), .int .u8 (.var 68), .int .u8 (.var 69), .int .u8 (.var 70), .int .u8 (.var 71),
 .int .u8 (.var 72)]), (6, [.int .i64 (.var 74), .int .u32 (.var 75), .var 76, .var 77, .bool (.var 78), .bool (.var 79), .bool (.var 80), .bool (.var 81), .bool
 (.var 82), .bool (.var 83), .bool (.var 84), .bool (.var 85), .int .u8 (.var 86), .int .u8 (.var 87), .int .u8 (.var 88), .int .u8 (.var 89), .int .u8
 (.var 90), .int .u8 (.var 91), .int .u8 (.var 92), .int .u8 (.var 93)])])) (.split (.not (.var 94)) (.leaf 0 [.bool (.lit false)] [] [(29, [.int .i64 (.var 95),
 .int .u32 (.var 96), .var 97, .var 98, .bool (.var 99), .bool (.var 100), .bool (.var 101), .bool (.var 102), .bool (.var 103), .bool (.var 104), .bool (.var 105), .bool
 (.var 106), .int .u8 (.var 107), .int .u8 (.var 108), .int .u8 (.var 109), .int .u8 (.var 110), .int .u8 (.var 111), .int .u8 (.var 112), .int
 .u8 (.var 113), .int .u8 (.var 114)]), (6, [.int .i64 (.var 74), .int .u32 (.var 75), .var 76, .var 77, .bool (.var 78), .bool (.var 79), .bool (.var 80),
 .bool (.var 81), .bool (.var 82), .bool (.var 83), .bool (.var 84), .bool (.var 85), .int .u8 (.var 86), .int .u8 (.var 87), .int .u8 (.var 88), .int .u8
 (.var 89), .int .u8 (.var 90), .int .u8 (.var 91), .int .u8 (.var 92), .int .u8 (.var 93)])]) (.ob (.le (.lit (-9223372036854775808)) (.add (.var 32) (.lit 1)))
 (.ob (.le (.add (.var 32) (.lit 1)) (.lit 9223372036854775807)) (.leaf 2 [.bool (.var 94), .int .i64 (.add (.var 32) (.lit 1)), .int .i64 (.var 74), .int .u32 (.var
 75), .var 76, .var 77, .bool (.var 78), .bool (.var 79), .bool (.var 80), .bool (.var 81), .bool (.var 82), .bool (.var 83), .bool (.var 84), .bool (.var 85), .int .u8
 (.var 86), .int .u8 (.var 87), .int .u8 (.var 88), .int .u8 (.var 89), .int .u8 (.var 90), .int .u8 (.var 91), .int .u8 (.var 92), .int .u8
 (.var 93), .int .i64 (.var 95), .int .u32 (.var 96), .var 97, .var 98, .bool (.var 99), .bool (.var 100), .bool (.var 101), .bool (.var 102), .bool (.var 103), .bool
 (.var 104), .bool (.var 105), .bool (.var 106), .int .u8 (.var 107), .int .u8 (.var 108), .int .u8 (.var 109), .int .u8 (.var 110), .int .u8 (.var 111),
 .int .u8 (.var 112), .int .u8 (.var 113), .int .u8 (.var 114)] [] [(29, [.int .i64 (.var 95), .int .u32 (.var 96), .var 97, .var 98, .bool (.var 99),
 .bool (.var 100), .bool (.var 101), .bool (.var 102), .bool (.var 103), .bool (.var 104), .bool (.var 105), .bool (.var 106), .int .u8 (.var 107), .int .u8 (.var 108),
 .int .u8 (.var 109), .int .u8 (.var 110), .int .u8 (.var 111), .int .u8 (.var 112), .int .u8 (.var 113), .int .u8 (.var 114)]), (6, [.int .i64
 (.var 74), .int .u32 (.var 75), .var 76, .var 77, .bool (.var 78), .bool (.var 79), .bool (.var 80), .bool (.var 81), .bool (.var 82), .bool (.var 83), .bool (.var 84),
 .bool (.var 85), .int .u8 (.var 86), .int .u8 (.var 87), .int .u8 (.var 88), .int .u8 (.var 89), .int .u8 (.var 90), .int .u8 (.var 91), .int
 .u8 (.var 92), .int .u8 (.var 93)])])))))) (.call 29 [.var 4, .agg [.int .i64 (.var 33), .int .u32 (.var 34), .var 35, .var 36, .bool (.var 37), .bool (.var
 38), .bool (.var 39), .bool (.var 40), .bool (.var 41), .bool (.var 42), .bool (.var 43), .bool (.var 44), .int .u8 (.var 45), .int .u8 (.var 46), .int .u8 (.var
 47), .int .u8 (.var 48), .int .u8 (.var 49), .int .u8 (.var 50), .int .u8 (.var 51), .int .u8 (.var 52)]] [.bool] (.bool (.var 73)) [] false [] [] [29, 6]
 [(29, [.int .i64 (.var 53), .int .u32 (.var 54), .var 55, .var 56, .bool (.var 57), .bool (.var 58), .bool (.var 59), .bool (.var 60), .bool (.var 61), .bool (.var 62),
 .bool (.var 63), .bool (.var 64), .int .u8 (.var 65), .int .u8 (.var 66), .int .u8 (.var 67), .int .u8 (.var 68), .int .u8 (.var 69), .int .u8
 (.var 70), .int .u8 (.var 71), .int .u8 (.var 72)]), (6, [.int .i64 (.var 33), .int .u32 (.var 34), .var 35, .var 36, .bool (.var 37), .bool (.var 38), .bool
 (.var 39), .bool (.var 40), .bool (.var 41), .bool (.var 42), .bool (.var 43), .bool (.var 44), .int .u8 (.var 45), .int .u8 (.var 46), .int .u8 (.var 47), .int
 .u8 (.var 48), .int .u8 (.var 49), .int .u8 (.var 50), .int .u8 (.var 51), .int .u8 (.var 52)])] (.split (.var 73) (.call 29 [.var 28, .agg [.int
 .i64 (.var 53), .int .u32 (.var 54), .var 55, .var 56, .bool (.var 57), .bool (.var 58), .bool (.var 59), .bool (.var 60), .bool (.var 61), .bool (.var 62), .bool
 (.var 63), .bool (.var 64), .int .u8 (.var 65), .int .u8 (.var 66), .int .u8 (.var 67), .int .u8 (.var 68), .int .u8 (.var 69), .int .u8 (.var 70),
 .int .u8 (.var 71), .int .u8 (.var 72)]] [.bool] (.bool (.var 74)) [] false [] [] [29, 6] [(29, [.int .i64 (.var 53), .int .u32 (.var 54), .var 55, .var 56,
 .bool (.var 57), .bool (.var 58), .bool (.var 59), .bool (.var 60), .bool (.var 61), .bool (.var 62), .bool (.var 63), .bool (.var 64), .int .u8 (.var 65), .int .u8
 (.var 66), .int .u8 (.var 67), .int .u8 (.var 68), .int .u8 (.var 69), .int .u8 (.var 70), .int .u8 (.var 71), .int .u8 (.var 72)]), (6, [.int
 .i64 (.var 33), .int .u32 (.var 34), .var 35, .var 36, .bool (.var 37), .bool (.var 38), .bool (.var 39), .bool (.var 40), .bool (.var 41), .bool (.var 42), .bool
 (.var 43), .bool (.var 44), .int .u8 (.var 45), .int .u8 (.var 46), .int .u8 (.var 47), .int .u8 (.var 48), .int .u8 (.var 49), .int .u8 (.var 50),
 .int .u8 (.var 51), .int .u8 (.var 52)])] (.split (.var 74) (.call 16 [] [.bool] (.bool (.var 75)) [] false [] [] [29, 6] [(29, [.int .i64 (.var 53), .int .u32
 (.var 54), .var 55, .var 56, .bool (.var 57), .bool (.var 58), .bool (.var 59), .bool (.var 60), .bool (.var 61), .bool (.var 62), .bool (.var 63), .bool (.var 64), .int
 .u8 (.var 65), .int .u8 (.var 66), .int .u8 (.var 67), .int .u8 (.var 68), .int .u8 (.var 69), .int .u8 (.var 70), .int .u8 (.var 71), .int
 .u8 (.var 72)]), (6, [.int .i64 (.var 33), .int .u32 (.var 34), .var 35, .var 36, .bool (.var 37), .bool (.var 38), .bool (.var 39), .bool (.var 40), .bool (.var
 41), .bool (.var 42), .bool (.var 43), .bool (.var 44), .int .u8 (.var 45), .int .u8 (.var 46), .int .u8 (.var 47), .int .u8 (.var 48), .int .u8 (.var
 49), .int .u8 (.var 50), .int .u8 (.var 51), .int .u8 (.var 52)])] (.leaf 0 [.bool (.var 75)] [] [(29, [.int .i64 (.var 53), .int .u32 (.var 54), .var 55,
 .var 56, .bool (.var 57), .bool (.var 58), .bool (.var 59), .bool (.var 60), .bool (.var 61), .bool (.var 62), .bool (.var 63), .bool (.var 64), .int .u8 (.var 65), .int
 .u8 (.var 66), .int .u8 (.var 67), .int .u8 (.var 68), .int .u8 (.var 69), .int .u8 (.var 70), .int .u8 (.var 71), .int .u8 (.var 72)]), (6,
 [.int .i64 (.var 33), .int .u32 (.var 34), .var 35, .var 36, .bool (.var 37), .bool (.var 38), .bool (.var 39), .bool (.var 40), .bool (.var 41), .bool (.var 42),
 .bool (.var 43), .bool (.var 44), .int .u8 (.var 45), .int .u8 (.var 46), .int .u8 (.var 47), .int .u8 (.var 48), .int .u8 (.var 49), .int .u8
 (.var 50), .int .u8 (.var 51), .int .u8 (.var 52)])])) (.leaf 0 [.bool (.lit false)] [] [(29, [.int .i64 (.var 53), .int .u32 (.var 54), .var 55, .var 56, .bool
 (.var 57), .bool (.var 58), .bool (.var 59), .bool (.var 60), .bool (.var 61), .bool (.var 62), .bool (.var 63), .bool (.var 64), .int .u8 (.var 65), .int .u8 (.var
 66), .int .u8 (.var 67), .int .u8 (.var 68), .int .u8 (.var 69), .int .u8 (.var 70), .int .u8 (.var 71), .int .u8 (.var 72)]), (6, [.int .i64
 (.var 33), .int .u32 (.var 34), .var 35, .var 36, .bool (.var 37), .bool (.var 38), .bool (.var 39), .bool (.var 40), .bool (.var 41), .bool (.var 42), .bool (.var 43),
 .bool (.var 44), .int .u8 (.var 45), .int .u8 (.var 46), .int .u8 (.var 47), .int .u8 (.var 48), .int .u8 (.var 49), .int .u8 (.var 50), .int
 .u8 (.var 51), .int .u8 (.var 52)])]))) (.leaf 0 [.bool (.lit false)] [] [(29, [.int .i64 (.var 53), .int .u32 (.var 54), .var 55, .var 56, .bool (.var 57),
 .bool (.var 58), .bool (.var 59), .bool (.var 60), .bool (.var 61), .bool (.var 62), .bool (.var 63), .bool (.var 64), .int .u8 (.var 65), .int .u8 (.var 66), .int
 .u8 (.var 67), .int .u8 (.var 68), .int .u8 (.var 69), .int .u8 (.var 70), .int .u8 (.var 71), .int .u8 (.var 72)]), (6, [.int .i64 (.var 33),
 .int .u32 (.var 34), .var 35, .var 36, .bool (.var 37), .bool (.var 38), .bool (.var 39), .bool (.var 40), .bool (.var 41), .bool (.var 42), .bool (.var 43), .bool (.var
 44), .int .u8 (.var 45), .int .u8 (.var 46), .int .u8 (.var 47), .int .u8 (.var 48), .int .u8 (.var 49), .int .u8 (.var 50), .int .u8 (.var
 51), .int .u8 (.var 52)])]))))))))))) (.blk (.call 28 [.var 4] [.ptr] (.var 29) [] true [] [] [28, 6] [(28, [.int .i64 (.lit 0), .int .u32 (.lit 0), .cst (.slice none
 0 0), .cst (.slice none 0 0), .bool (.lit false), .bool (.lit false), .bool (.lit false), .bool (.lit false), .bool (.lit false), .bool (.lit false), .bool (.lit false), .bool
 (.lit false), .int .u8 (.lit 0), .int .u8 (.lit 0), .int .u8 (.lit 0), .int .u8 (.lit 0), .int .u8 (.lit 0), .int .u8 (.lit 0), .int .u8
 (.lit 0), .int .u8 (.lit 0)]), (6, [.int .i64 (.var 8), .int .u32 (.var 9), .var 10, .var 11, .bool (.var 12), .bool (.var 13), .bool (.var 14), .bool (.var 15),
 .bool (.var 16), .bool (.var 17), .bool (.var 18), .bool (.var 19), .int .u8 (.var 20), .int .u8 (.var 21), .int .u8 (.var 22), .int .u8 (.var 23), .int
 .u8 (.var 24), .int .u8 (.var 25), .int .u8 (.var 26), .int .u8 (.var 27)])] (.split (.nil 29) (.leaf 0 [.bool (.lit false)] [28] [(28, [.int .i64 (.var 8),
 .int .u32 (.var 9), .var 10, .var 11, .bool (.var 12), .bool (.var 13), .bool (.var 14), .bool (.var 15), .bool (.var 16), .bool (.var 17), .bool (.var 18), .bool (.var
 19), .int .u8 (.var 20), .int .u8 (.var 21), .int .u8 (.var 22), .int .u8 (.var 23), .int .u8 (.var 24), .int .u8 (.var 25), .int .u8 (.var
 26), .int .u8 (.var 27)]), (6, [.int .i64 (.var 8), .int .u32 (.var 9), .var 10, .var 11, .bool (.var 12), .bool (.var 13), .bool (.var 14), .bool (.var 15), .bool
 (.var 16), .bool (.var 17), .bool (.var 18), .bool (.var 19), .int .u8 (.var 20), .int .u8 (.var 21), .int .u8 (.var 22), .int .u8 (.var 23), .int .u8
 (.var 24), .int .u8 (.var 25), .int .u8 (.var 26), .int .u8 (.var 27)])]) (.split (.not (.var 7)) (.leaf 0 [.bool (.lit false)] [28] [(28, [.int .i64 (.var 8),
 .int .u32 (.var 9), .var 10, .var 11, .bool (.var 12), .bool (.var 13), .bool (.var 14), .bool (.var 15), .bool (.var 16), .bool (.var 17), .bool (.var 18), .bool (.var
 19), .int .u8 (.var 20), .int .u8 (.var 21), .int .u8 (.var 22), .int .u8 (.var 23), .int .u8 (.var 24), .int .u8 (.var 25), .int .u8 (.var
 26), .int .u8 (.var 27)]), (6, [.int .i64 (.var 8), .int .u32 (.var 9), .var 10, .var 11, .bool (.var 12), .bool (.var 13), .bool (.var 14), .bool (.var 15), .bool
 (.var 16), .bool (.var 17), .bool (.var 18), .bool (.var 19), .int .u8 (.var 20), .int .u8 (.var 21), .int .u8 (.var 22), .int .u8 (.var 23), .int .u8
 (.var 24), .int .u8 (.var 25), .int .u8 (.var 26), .int .u8 (.var 27)])]) (.call 29 [.var 29, .agg [.int .i64 (.var 8), .int .u32 (.var 9), .var 10,
 .var 11, .bool (.var 12), .bool (.var 13), .bool (.var 14), .bool (.var 15), .bool (.var 16), .bool (.var 17), .bool (.var 18), .bool (.var 19), .int .u8 (.var 20), .int
 .u8 (.var 21), .int .u8 (.var 22), .int .u8 (.var 23), .int .u8 (.var 24), .int .u8 (.var 25), .int .u8 (.var 26), .int .u8 (.var 27)]]
 [.bool] (.bool (.var 30)) [] false [28] [] [28, 6] [(28, [.int .i64 (.var 8), .int .u32 (.var 9), .var 10, .var 11, .bool (.var 12), .bool (.var 13), .bool (.var 14),
 .bool (.var 15), .bool (.var 16), .bool (.var 17), .bool (.var 18), .bool (.var 19), .int .u8 (.var 20), .int .u8 (.var 21), .int .u8 (.var 22), .int .u8
 (.var 23), .int .u8 (.var 24), .int .u8 (.var 25), .int .u8 (.var 26), .int .u8 (.var 27)]), (6, [.int .i64 (.var 8), .int .u32 (.var 9), .var 10,
 .var 11, .bool (.var 12), .bool (.var 13), .bool (.var 14), .bool (.var 15), .bool (.var 16), .bool (.var 17), .bool (.var 18), .bool (.var 19), .int .u8 (.var 20), .int
 .u8 (.var 21), .int .u8 (.var 22), .int .u8 (.var 23), .int .u8 (.var 24), .int .u8 (.var 25), .int .u8 (.var 26), .int .u8 (.var 27)])]
 (.split (.not (.var 30)) (.leaf 0 [.bool (.lit false)] [] [(28, [.int .i64 (.var 8), .int .u32 (.var 9), .var 10, .var 11, .bool (.var 12), .bool (.var 13), .bool (.var
 14), .bool (.var 15), .bool (.var 16), .bool (.var 17), .bool (.var 18), .bool (.var 19), .int .u8 (.var 20), .int .u8 (.var 21), .int .u8 (.var 22), .int
 .u8 (.var 23), .int .u8 (.var 24), .int .u8 (.var 25), .int .u8 (.var 26), .int .u8 (.var 27)]), (6, [.int .i64 (.var 8), .int .u32 (.var 9),
 .var 10, .var 11, .bool (.var 12), .bool (.var 13), .bool (.var 14), .bool (.var 15), .bool (.var 16), .bool (.var 17), .bool (.var 18), .bool (.var 19), .int .u8 (.var
 20), .int .u8 (.var 21), .int .u8 (.var 22), .int .u8 (.var 23), .int .u8 (.var 24), .int .u8 (.var 25), .int .u8 (.var 26), .int .u8 (.var
 27)])]) (.loop 2 [.bool (.var 7), .int .i64 (.lit 0), .int .i64 (.var 8), .int .u32 (.var 9), .var 10, .var 11, .bool (.var 12), .bool (.var 13), .bool (.var 14),
 .bool (.var 15), .bool (.var 16), .bool (.var 17), .bool (.var 18), .bool (.var 19), .int .u8 (.var 20), .int .u8 (.var 21), .int .u8 (.var 22), .int .u8
 (.var 23), .int .u8 (.var 24), .int .u8 (.var 25), .int .u8 (.var 26), .int .u8 (.var 27), .int .i64 (.var 8), .int .u32 (.var 9), .var 10, .var
 11, .bool (.var 12), .bool (.var 13), .bool (.var 14), .bool (.var 15), .bool (.var 16), .bool (.var 17), .bool (.var 18), .bool (.var 19), .int .u8 (.var 20), .int
 .u8 (.var 21), .int .u8 (.var 22), .int .u8 (.var 23), .int .u8 (.var 24), .int .u8 (.var 25), .int .u8 (.var 26), .int .u8 (.var 27)]
 [.bool, .int .i64, .int .i64, .int .u32, .slice, .slice, .bool, .bool, .bool, .bool, .bool, .bool, .bool, .bool, .int .u8, .int
 .u8, .int .u8, .int .u8, .int .u8, .int .u8, .int .u8, .int .u8, .int .i64, .int .u32, .slice, .slice, .bool,
 .bool, .bool, .bool, .bool, .bool, .bool, .bool, .int .u8, .int .u8, .int .u8, .int .u8, .int .u8, .int .u8, .int
 .u8, .int .u8] [] [28, 6] [(28, [.int .i64 (.var 8), .int .u32 (.var 9), .var 10, .var 11, .bool (.var 12), .bool (.var 13), .bool (.var 14), .bool (.var 15),
 .bool (.var 16), .bool (.var 17), .bool (.var 18), .bool (.var 19), .int .u8 (.var 20), .int .u8 (.var 21), .int .u8 (.var 22), .int .u8 (.var 23), .int
 .u8 (.var 24), .int .u8 (.var 25), .int .u8 (.var 26), .int .u8 (.var 27)]), (6, [.int .i64 (.var 8), .int .u32 (.var 9), .var 10, .var 11, .bool
 (.var 12), .bool (.var 13), .bool (.var 14), .bool (.var 15), .bool (.var 16), .bool (.var 17), .bool (.var 18), .bool (.var 19), .int .u8 (.var 20), .int .u8 (.var
 21), .int .u8 (.var 22), .int .u8 (.var 23), .int .u8 (.var 24), .int .u8 (.var 25), .int .u8 (.var 26), .int .u8 (.var 27)])] [(28, [.int .i64
 (.var 53), .int .u32 (.var 54), .var 55, .var 56, .bool (.var 57), .bool (.var 58), .bool (.var 59), .bool (.var 60), .bool (.var 61), .bool (.var 62), .bool (.var 63),
 .bool (.var 64), .int .u8 (.var 65), .int .u8 (.var 66), .int .u8 (.var 67), .int .u8 (.var 68), .int .u8 (.var 69), .int .u8 (.var 70), .int
 .u8 (.var 71), .int .u8 (.var 72)]), (6, [.int .i64 (.var 33), .int .u32 (.var 34), .var 35, .var 36, .bool (.var 37), .bool (.var 38), .bool (.var 39), .bool
 (.var 40), .bool (.var 41), .bool (.var 42), .bool (.var 43), .bool (.var 44), .int .u8 (.var 45), .int .u8 (.var 46), .int .u8 (.var 47), .int .u8 (.var
 48), .int .u8 (.var 49), .int .u8 (.var 50), .int .u8 (.var 51), .int .u8 (.var 52)])] (.split (.lt (.var 32) (.max (.len 2) (.len 3))) (.cut 3 [.bool,
 .int .i64, .int .u32, .slice, .slice, .bool, .bool, .bool, .bool, .bool, .bool, .bool, .bool, .int .u8, .int .u8, .int .u8,
 .int .u8, .int .u8, .int .u8, .int .u8, .int .u8] [28, 6] [(28, [.int .i64 (.var 53), .int .u32 (.var 54), .var 55, .var 56, .bool
 (.var 57), .bool (.var 58), .bool (.var 59), .bool (.var 60), .bool (.var 61), .bool (.var 62), .bool (.var 63), .bool (.var 64), .int .u8 (.var 65), .int .u8 (.var
 66), .int .u8 (.var 67), .int .u8 (.var 68), .int .u8 (.var 69), .int .u8 (.var 70), .int .u8 (.var 71), .int .u8 (.var 72)]), (6, [.int .i64
 (.var 74), .int .u32 (.var 75), .var 76, .var 77, .bool (.var 78), .bool (.var 79), .bool (.var 80), .bool (.var 81), .bool (.var 82), .bool (.var 83), .bool (.var 84),
 .bool (.var 85), .int .u8 (.var 86), .int .u8 (.var 87), .int .u8 (.var 88), .int .u8 (.var 89), .int .u8 (.var 90), .int .u8 (.var 91), .int
 .u8 (.var 92), .int .u8 (.var 93)])] (.split (.lt (.var 32) (.len 2)) (.start true [] [28, 6] [(28, [.int .i64 (.var 53), .int .u32 (.var 54), .var 55, .var 56,
 .bool (.var 57), .bool (.var 58), .bool (.var 59), .bool (.var 60), .bool (.var 61), .bool (.var 62), .bool (.var 63), .bool (.var 64), .int .u8 (.var 65), .int .u8
 (.var 66), .int .u8 (.var 67), .int .u8 (.var 68), .int .u8 (.var 69), .int .u8 (.var 70), .int .u8 (.var 71), .int .u8 (.var 72)]), (6, [.int
 .i64 (.var 33), .int .u32 (.var 34), .var 35, .var 36, .bool (.var 37), .bool (.var 38), .bool (.var 39), .bool (.var 40), .bool (.var 41), .bool (.var 42), .bool
 (.var 43), .bool (.var 44), .int .u8 (.var 45), .int .u8 (.var 46), .int .u8 (.var 47), .int .u8 (.var 48), .int .u8 (.var 49), .int .u8 (.var 50),
 .int .u8 (.var 51), .int .u8 (.var 52)])] (.ob (.le (.lit 0) (.var 32)) (.ob (.lt (.var 32) (.len 2)) (.ob (.not (.nil 2)) (.load (.elt 2 0 (.var 32) 6 0) [.int
 .i64, .int .u16, .int .u8, .int .u8, .int .u8, .int .u32] (.call 26 [.var 4, .agg [.int .i64 (.var 33), .int .u32 (.var 34),
 .var 35, .var 36, .bool (.var 37), .bool (.var 38), .bool (.var 39), .bool (.var 40), .bool (.var 41), .bool (.var 42), .bool (.var 43), .bool (.var 44), .int .u8 (.var
 45), .int .u8 (.var 46), .int .u8 (.var 47), .int .u8 (.var 48), .int .u8 (.var 49), .int .u8 (.var 50), .int .u8 (.var 51), .int .u8 (.var
 52)], .agg [.int .i64 (.var 73), .int .u16 (.var 74), .int .u8 (.var 75), .int .u8 (.var 76), .int .u8 (.var 77), .int .u32 (.var 78)]] [.int
 .i64, .int .u32, .slice, .slice, .bool, .bool, .bool, .bool, .bool, .bool, .bool, .bool, .int .u8, .int .u8, .int .u8, .int
 .u8, .int .u8, .int .u8, .int .u8, .int .u8, .bool] (.tuple [.agg [.int .i64 (.var 79), .int .u32 (.var 80), .var 81, .var 82, .bool
 (.var 83), .bool (.var 84), .bool (.var 85), .bool (.var 86), .bool (.var 87), .bool (.var 88), .bool (.var 89), .bool (.var 90), .int .u8 (.var 91), .int .u8 (.var
 92), .int .u8 (.var 93), .int .u8 (.var 94), .int .u8 (.var 95), .int .u8 (.var 96), .int .u8 (.var 97), .int .u8 (.var 98)], .bool (.var 99)]) []
 true [] [] [28, 6] [(28, [.int .i64 (.var 53), .int .u32 (.var 54), .var 55, .var 56, .bool (.var 57), .bool (.var 58), .bool (.var 59), .bool (.var 60), .bool (.var 61),
 .bool (.var 62), .bool (.var 63), .bool (.var 64), .int .u8 (.var 65), .int .u8 (.var 66), .int .u8 (.var 67), .int .u8 (.var 68), .int .u8 (.var 69),
 .int .u8 (.var 70), .int .u8 (.var 71), .int .u8 (.var 72)]), (6, [.int .i64 (.var 33), .int .u32 (.var 34), .var 35, .var 36, .bool (.var 37), .bool
 (.var 38), .bool (.var 39), .bool (.var 40), .bool (.var 41), .bool (.var 42), .bool (.var 43), .bool (.var 44), .int .u8 (.var 45), .int .u8 (.var 46), .int .u8
 (.var 47), .int .u8 (.var 48), .int .u8 (.var 49), .int .u8 (.var 50), .int .u8 (.var 51), .int .u8 (.var 52)])] (.leaf 3 [.bool (.var 99), .int
 .i64 (.var 79), .int .u32 (.var 80), .var 81, .var 82, .bool (.var 83), .bool (.var 84), .bool (.var 85), .bool (.var 86), .bool (.var 87), .bool (.var 88), .bool
 (.var 89), .bool (.var 90), .int .u8 (.var 91), .int .u8 (.var 92), .int .u8 (.var 93), .int .u8 (.var 94), .int .u8 (.var 95), .int .u8 (.var 96),
 .int .u8 (.var 97), .int .u8 (.var 98)] [6] [(28, [.int .i64 (.var 53), .int .u32 (.var 54), .var 55, .var 56, .bool (.var 57), .bool (.var 58), .bool (.var
 59), .bool (.var 60), .bool (.var 61), .bool (.var 62), .bool (.var 63), .bool (.var 64), .int .u8 (.var 65), .int .u8 (.var 66), .int .u8 (.var 67), .int
 .u8 (.var 68), .int .u8 (.var 69), .int .u8 (.var 70), .int .u8 (.var 71), .int .u8 (.var 72)]), (6, [.int .i64 (.var 79), .int .u32 (.var 80),
 .var 81, .var 82, .bool (.var 83), .bool (.var 84), .bool (.var 85), .bool (.var 86), .bool (.var 87), .bool (.var 88), .bool (.var 89), .bool (.var 90), .int .u8 (.var
 91), .int .u8 (.var 92), .int .u8 (.var 93), .int .u8 (.var 94), .int .u8 (.var 95), .int .u8 (.var 96), .int .u8 (.var 97), .int .u8 (.var
 98)])]))))))) (.leaf 3 [.bool (.var 31), .int .i64 (.var 33), .int .u32 (.var 34), .var 35, .var 36, .bool (.var 37), .bool (.var 38), .bool (.var 39), .bool (.var 40),
 .bool (.var 41), .bool (.var 42), .bool (.var 43), .bool (.var 44), .int .u8 (.var 45), .int .u8 (.var 46), .int .u8 (.var 47), .int .u8 (.var 48), .int
 .u8 (.var 49), .int .u8 (.var 50), .int .u8 (.var 51), .int .u8 (.var 52)] [] [(28, [.int .i64 (.var 53), .int .u32 (.var 54), .var 55, .var 56,
 .bool (.var 57), .bool (.var 58), .bool (.var 59), .bool (.var 60), .bool (.var 61), .bool (.var 62), .bool (.var 63), .bool (.var 64), .int .u8 (.var 65), .int .u8
 (.var 66), .int .u8 (.var 67), .int .u8 (.var 68), .int .u8 (.var 69), .int .u8 (.var 70), .int .u8 (.var 71), .int .u8 (.var 72)]), (6, [.int
 .i64 (.var 33), .int .u32 (.var 34), .var 35, .var 36, .bool (.var 37), .bool (.var 38), .bool (.var 39), .bool (.var 40), .bool (.var 41), .bool (.var 42), .bool
 (.var 43), .bool (.var 44), .int .u8 (.var 45), .int .u8 (.var 46), .int .u8 (.var 47), .int .u8 (.var 48), .int .u8 (.var 49), .int .u8 (.var 50),
 .int .u8 (.var 51), .int .u8 (.var 52)])])) (.cut 4 [.bool, .int .i64, .int .u32, .slice, .slice, .bool, .bool, .bool, .bool, .bool,
 .bool, .bool, .bool, .int .u8, .int .u8, .int .u8, .int .u8, .int .u8, .int .u8, .int .u8, .int .u8] [28, 6] [(28,
 [.int .i64 (.var 95), .int .u32 (.var 96), .var 97, .var 98, .bool (.var 99), .bool (.var 100), .bool (.var 101), .bool (.var 102), .bool (.var 103), .bool (.var 104),
 .bool (.var 105), .bool (.var 106), .int .u8 (.var 107), .int .u8 (.var 108), .int .u8 (.var 109), .int .u8 (.var 110), .int .u8 (.var 111), .int
 .u8 (.var 112), .int .u8 (.var 113), .int .u8 (.var 114)]), (6, [.int .i64 (.var 74), .int .u32 (.var 75), .var 76, .var 77, .bool (.var 78), .bool (.var
 79), .bool (.var 80), .bool (.var 81), .bool (.var 82), .bool (.var 83), .bool (.var 84), .bool (.var 85), .int .u8 (.var 86), .int .u8 (.var 87), .int .u8 (.var
 88), .int .u8 (.var 89), .int .u8 (.var 90), .int .u8 (.var 91), .int .u8 (.var 92), .int .u8 (.var 93)])] (.split (.lt (.var 32) (.len 3)) (.split
 (.var 73) (.start true [] [28, 6] [(28, [.int .i64 (.var 53), .int .u32 (.var 54), .var 55, .var 56, .bool (.var 57), .bool (.var 58), .bool (.var 59), .bool (.var 60),
 .bool (.var 61), .bool (.var 62), .bool (.var 63), .bool (.var 64), .int .u8 (.var 65), .int .u8 (.var 66), .int .u8 (.var 67), .int .u8 (.var 68), .int
 .u8 (.var 69), .int .u8 (.var 70), .int .u8 (.var 71), .int .u8 (.var 72)]), (6, [.int .i64 (.var 74), .int .u32 (.var 75), .var 76, .var 77, .bool
 (.var 78), .bool (.var 79), .bool (.var 80), .bool (.var 81), .bool (.var 82), .bool (.var 83), .bool (.var 84), .bool (.var 85), .int .u8 (.var 86), .int .u8 (.var
 87), .int .u8 (.var 88), .int .u8 (.var 89), .int .u8 (.var 90), .int .u8 (.var 91), .int .u8 (.var 92), .int .u8 (.var 93)])] (.ob (.le (.lit 0)
 (.var 32)) (.ob (.lt (.var 32) (.len 3)) (.ob (.not (.nil 3)) (.load (.elt 3 0 (.var 32) 6 0) [.int .i64, .int .u16, .int .u8, .int .u8, .int
 .u8, .int .u32] (.call 26 [.var 29, .agg [.int .i64 (.var 53), .int .u32 (.var 54), .var 55, .var 56, .bool (.var 57), .bool (.var 58), .bool (.var 59),
 .bool (.var 60), .bool (.var 61), .bool (.var 62), .bool (.var 63), .bool (.var 64), .int .u8 (.var 65), .int .u8 (.var 66), .int .u8 (.var 67), .int .u8
 (.var 68), .int .u8 (.var 69), .int .u8 (.var 70), .int .u8 (.var 71), .int .u8 (.var 72)], .agg [.int .i64 (.var 94), .int .u16 (.var 95), .int
 .u8 (.var 96), .int .u8 (.var 97), .int .u8 (.var 98), .int .u32 (.var 99)]] [.int .i64, .int .u32, .slice, .slice, .bool, .bool,
 .bool, .bool, .bool, .bool, .bool, .bool, .int .u8, .int .u8, .int .u8, .int .u8, .int .u8, .int .u8, .int .u8,
 .int .u8, .bool] (.tuple [.agg [.int .i64 (.var 100), .int .u32 (.var 101), .var 102, .var 103, .bool (.var 104), .bool (.var 105), .bool (.var 106), .bool
 (.var 107), .bool (.var 108), .bool (.var 109), .bool (.var 110), .bool (.var 111), .int .u8 (.var 112), .int .u8 (.var 113), .int .u8 (.var 114), .int .u8
 (.var 115), .int .u8 (.var 116), .int .u8 (.var 117), .int .u8 (.var 118), .int .u8 (.var 119)], .bool (.var 120)]) [] true [] [] [28, 6] [(28, [.int .i64
 (.var 53), .int .u32 (.var 54), .var 55, .var 56, .bool (.var 57), .bool (.var 58), .bool (.var 59), .bool (.var 60), .bool (.var 61), .bool (.var 62), .bool (.var 63),
 .bool (.var 64), .int .u8 (.var 65), .int .u8 (.var 66), .int .u8 (.var 67), .int .u8 (.var 68), .int .u8 (.var 69), .int .u8 (.var 70), .int
 .u8 (.var 71), .int .u8 (.var 72)]), (6, [.int .i64 (.var 74), .int .u32 (.var 75), .var 76, .var 77, .bool (.var 78), .bool (.var 79), .bool (.var 80), .bool
 (.var 81), .bool (.var 82), .bool (.var 83), .bool (.var 84), .bool (.var 85), .int .u8 (.var 86), .int .u8 (.var 87), .int .u8 (.var 88), .int .u8 (.var
 89), .int .u8 (.var 90), .int .u8 (.var 91), .int .u8 (.var 92), .int .u8 (.var 93)])] (.leaf 4 [.bool (.var 120), .int .i64 (.var 100), .int .u32
 (.var 101), .var 102, .var 103, .bool (.var 104), .bool (.var 105), .bool (.var 106), .bool (.var 107), .bool (.var 108), .bool (.var 109), .bool (.var 110), .bool (.var 111),
 .int .u8 (.var 112), .int .u8 (.var 113), .int .u8 (.var 114), .int .u8 (.var 115), .int .u8 (.var 116), .int .u8 (.var 117), .int .u8 (.var
 118), .int .u8 (.var 119)] [28] [(28, [.int .i64 (.var 100), .int .u32 (.var 101), .var 102, .var 103, .bool (.var 104), .bool (.var 105), .bool (.var 106), .bool
 (.var 107), .bool (.var 108), .bool (.var 109), .bool (.var 110), .bool (.var 111), .int .u8 (.var 112), .int .u8 (.var 113), .int .u8 (.var 114), .int .u8
 (.var 115), .int .u8 (.var 116), .int .u8 (.var 117), .int .u8 (.var 118), .int .u8 (.var 119)]), (6, [.int .i64 (.var 74), .int .u32 (.var 75), .var
 76, .var 77, .bool (.var 78), .bool (.var 79), .bool (.var 80), .bool (.var 81), .bool (.var 82), .bool (.var 83), .bool (.var 84), .bool (.var 85), .int .u8 (.var 86),
 .int .u8 (.var 87), .int .u8 (.var 88), .int .u8 (.var 89), .int .u8 (.var 90), .int .u8 (.var 91), .int .u8 (.var 92), .int .u8 (.var
 93)])]))))))) (.leaf 4 [.bool (.var 73), .int .i64 (.var 53), .int .u32 (.var 54), .var 55, .var 56, .bool (.var 57), .bool (.var 58), .bool (.var 59), .bool (.var 60),
 .bool (.var 61), .bool (.var 62), .bool (.var 63), .bool (.var 64), .int .u8 (.var 65), .int .u8 (.var 66), .int .u8 (.var 67), .int .u8 (.var 68), .int
 .u8 (.var 69), .int .u8 (.var 70), .int .u8 (.var 71), .int .u8 (.var 72)] [] [(28, [.int .i64 (.var 53), .int .u32 (.var 54), .var 55, .var 56,
 .bool (.var 57), .bool (.var 58), .bool (.var 59), .bool (.var 60), .bool (.var 61), .bool (.var 62), .bool (.var 63), .bool (.var 64), .int .u8 (.var 65), .int .u8
 (.var 66), .int .u8 (.var 67), .int .u8 (.var 68), .int .u8 (.var 69), .int .u8 (.var 70), .int .u8 (.var 71), .int .u8 (.var 72)]), (6, [.int
 .i64 (.var 74), .int .u32 (.var 75), .var 76, .var 77, .bool (.var 78), .bool (.var 79), .bool (.var 80), .bool (.var 81), .bool (.var 82), .bool (.var 83), .bool
 (.var 84), .bool (.var 85), .int .u8 (.var 86), .int .u8 (.var 87), .int .u8 (.var 88), .int .u8 (.var 89), .int .u8 (.var 90), .int .u8 (.var 91),
 .int .u8 (.var 92), .int .u8 (.var 93)])])) (.leaf 4 [.bool (.var 73), .int .i64 (.var 53), .int .u32 (.var 54), .var 55, .var 56, .bool (.var 57), .bool
 (.var 58), .bool (.var 59), .bool (.var 60), .bool (.var 61), .bool (.var 62), .bool (.var 63), .bool (.var 64), .int .u8 (.var 65), .int .u8 (.var 66), .int .u8
 (.var 67), .int .u8 (.var 68), .int .u8 (.var 69), .int .u8 (.var 70), .int .u8 (.var 71), .int .u8 (.var 72)] [] [(28, [.int .i64 (.var 53), .int
 .u32 (.var 54), .var 55, .var 56, .bool (.var 57), .bool (.var 58), .bool (.var 59), .bool (.var 60), .bool (.var 61), .bool (.var 62), .bool (.var 63), .bool (.var 64),
 .int .u8 (.var 65), .int .u8 (.var 66), .int .u8 (.var 67), .int .u8 (.var 68), .int .u8 (.var 69), .int .u8 (.var 70), .int .u8 (.var 71),
 .int .u8 (.var 72)]), (6, [.int .i64 (.var 74), .int .u32 (.var 75), .var 76, .var 77, .bool (.var 78), .bool (.var 79), .bool (.var 80), .bool (.var 81), .bool
 (.var 82), .bool (.var 83), .bool (.var 84), .bool (.var 85), .int .u8 (.var 86), .int .u8 (.var 87), .int .u8 (.var 88), .int .u8 (.var 89), .int .u8
 (.var 90), .int .u8 (.var 91), .int .u8 (.var 92), .int .u8 (.var 93)])])) (.split (.not (.var 94)) (.leaf 0 [.bool (.lit false)] [] [(28, [.int .i64 (.var 95),
 .int .u32 (.var 96), .var 97, .var 98, .bool (.var 99), .bool (.var 100), .bool (.var 101), .bool (.var 102), .bool (.var 103), .bool (.var 104), .bool (.var 105), .bool
 (.var 106), .int .u8 (.var 107), .int .u8 (.var 108), .int .u8 (.var 109), .int .u8 (.var 110), .int .u8 (.var 111), .int .u8 (.var 112), .int
 .u8 (.var 113), .int .u8 (.var 114)]), (6, [.int .i64 (.var 74), .int .u32 (.var 75), .var 76, .var 77, .bool (.var 78), .bool (.var 79), .bool (.var 80),
 .bool (.var 81), .bool (.var 82), .bool (.var 83), .bool (.var 84), .bool (.var 85), .int .u8 (.var 86), .int .u8 (.var 87), .int .u8 (.var 88), .int .u8
 (.var 89), .int .u8 (.var 90), .int .u8 (.var 91), .int .u8 (.var 92), .int .u8 (.var 93)])]) (.ob (.le (.lit (-9223372036854775808)) (.add (.var 32) (.lit 1)))
 (.ob (.le (.add (.var 32) (.lit 1)) (.lit 9223372036854775807)) (.leaf 2 [.bool (.var 94), .int .i64 (.add (.var 32) (.lit 1)), .int .i64 (.var 74), .int .u32 (.var
 75), .var 76, .var 77, .bool (.var 78), .bool (.var 79), .bool (.var 80), .bool (.var 81), .bool (.var 82), .bool (.var 83), .bool (.var 84), .bool (.var 85), .int .u8
 (.var 86), .int .u8 (.var 87), .int .u8 (.var 88), .int .u8 (.var 89), .int .u8 (.var 90), .int .u8 (.var 91), .int .u8 (.var 92), .int .u8
 (.var 93), .int .i64 (.var 95), .int .u32 (.var 96), .var 97, .var 98, .bool (.var 99), .bool (.var 100), .bool (.var 101), .bool (.var 102), .bool (.var 103), .bool
 (.var 104), .bool (.var 105), .bool (.var 106), .int .u8 (.var 107), .int .u8 (.var 108), .int .u8 (.var 109), .int .u8 (.var 110), .int .u8 (.var 111),
 .int .u8 (.var 112), .int .u8 (.var 113), .int .u8 (.var 114)] [] [(28, [.int .i64 (.var 95), .int .u32 (.var 96), .var 97, .var 98, .bool (.var 99),
 .bool (.var 100), .bool (.var 101), .bool (.var 102), .bool (.var 103), .bool (.var 104), .bool (.var 105), .bool (.var 106), .int .u8 (.var 107), .int .u8 (.var 108),
 .int .u8 (.var 109), .int .u8 (.var 110), .int .u8 (.var 111), .int .u8 (.var 112), .int .u8 (.var 113), .int .u8 (.var 114)]), (6, [.int .i64
 (.var 74), .int .u32 (.var 75), .var 76, .var 77, .bool (.var 78), .bool (.var 79), .bool (.var 80), .bool (.var 81), .bool (.var 82), .bool (.var 83), .bool (.var 84),
 .bool (.var 85), .int .u8 (.var 86), .int .u8 (.var 87), .int .u8 (.var 88), .int .u8 (.var 89), .int .u8 (.var 90), .int .u8 (.var 91), .int
 .u8 (.var 92), .int .u8 (.var 93)])])))))) (.call 29 [.var 4, .agg [.int .i64 (.var 33), .int .u32 (.var 34), .var 35, .var 36, .bool (.var 37), .bool (.var
 38), .bool (.var 39), .bool (.var 40), .bool (.var 41), .bool (.var 42), .bool (.var 43), .bool (.var 44), .int .u8 (.var 45), .int .u8 (.var 46), .int .u8 (.var
 47), .int .u8 (.var 48), .int .u8 (.var 49), .int .u8 (.var 50), .int .u8 (.var 51), .int .u8 (.var 52)]] [.bool] (.bool (.var 73)) [] false [] [] [28, 6]
 [(28, [.int .i64 (.var 53), .int .u32 (.var 54), .var 55, .var 56, .bool (.var 57), .bool (.var 58), .bool (.var 59), .bool (.var 60), .bool (.var 61), .bool (.var 62),
 .bool (.var 63), .bool (.var 64), .int .u8 (.var 65), .int .u8 (.var 66), .int .u8 (.var 67), .int .u8 (.var 68), .int .u8 (.var 69), .int .u8
 (.var 70), .int .u8 (.var 71), .int .u8 (.var 72)]), (6, [.int .i64 (.var 33), .int .u32 (.var 34), .var 35, .var 36, .bool (.var 37), .bool (.var 38), .bool
 (.var 39), .bool (.var 40), .bool (.var 41), .bool (.var 42), .bool (.var 43), .bool (.var 44), .int .u8 (.var 45), .int .u8 (.var 46), .int .u8 (.var 47), .int
 .u8 (.var 48), .int .u8 (.var 49), .int .u8 (.var 50), .int .u8 (.var 51), .int .u8 (.var 52)])] (.split (.var 73) (.call 29 [.var 29, .agg [.int
 .i64 (.var 53), .int .u32 (.var 54), .var 55, .var 56, .bool (.var 57), .bool (.var 58), .bool (.var 59), .bool (.var 60), .bool (.var 61), .bool (.var 62), .bool
 (.var 63), .bool (.var 64), .int .u8 (.var 65), .int .u8 (.var 66), .int .u8 (.var 67), .int .u8 (.var 68), .int .u8 (.var 69), .int .u8 (.var 70),
 .int .u8 (.var 71), .int .u8 (.var 72)]] [.bool] (.bool (.var 74)) [] false [] [] [28, 6] [(28, [.int .i64 (.var 53), .int .u32 (.var 54), .var 55, .var 56,
 .bool (.var 57), .bool (.var 58), .bool (.var 59), .bool (.var 60), .bool (.var 61), .bool (.var 62), .bool (.var 63), .bool (.var 64), .int .u8 (.var 65), .int .u8
 (.var 66), .int .u8 (.var 67), .int .u8 (.var 68), .int .u8 (.var 69), .int .u8 (.var 70), .int .u8 (.var 71), .int .u8 (.var 72)]), (6, [.int
 .i64 (.var 33), .int .u32 (.var 34), .var 35, .var 36, .bool (.var 37), .bool (.var 38), .bool (.var 39), .bool (.var 40), .bool (.var 41), .bool (.var 42), .bool
 (.var 43), .bool (.var 44), .int .u8 (.var 45), .int .u8 (.var 46), .int .u8 (.var 47), .int .u8 (.var 48), .int .u8 (.var 49), .int .u8 (.var 50),
 .int .u8 (.var 51), .int .u8 (.var 52)])] (.split (.var 74) (.call 16 [] [.bool] (.bool (.var 75)) [] false [] [] [28, 6] [(28, [.int .i64 (.var 53), .int .u32
 (.var 54), .var 55, .var 56, .bool (.var 57), .bool (.var 58), .bool (.var 59), .bool (.var 60), .bool (.var 61), .bool (.var 62), .bool (.var 63), .bool (.var 64), .int
 .u8 (.var 65), .int .u8 (.var 66), .int .u8 (.var 67), .int .u8 (.var 68), .int .u8 (.var 69), .int .u8 (.var 70), .int .u8 (.var 71), .int
 .u8 (.var 72)]), (6, [.int .i64 (.var 33), .int .u32 (.var 34), .var 35, .var 36, .bool (.var 37), .bool (.var 38), .bool (.var 39), .bool (.var 40), .bool (.var
 41), .bool (.var 42), .bool (.var 43), .bool (.var 44), .int .u8 (.var 45), .int .u8 (.var 46), .int .u8 (.var 47), .int .u8 (.var 48), .int .u8 (.var
 49), .int .u8 (.var 50), .int .u8 (.var 51), .int .u8 (.var 52)])] (.leaf 0 [.bool (.var 75)] [] [(28, [.int .i64 (.var 53), .int .u32 (.var 54), .var 55,
 .var 56, .bool (.var 57), .bool (.var 58), .bool (.var 59), .bool (.var 60), .bool (.var 61), .bool (.var 62), .bool (.var 63), .bool (.var 64), .int .u8 (.var 65), .int
 .u8 (.var 66), .int .u8 (.var 67), .int .u8 (.var 68), .int .u8 (.var 69), .int .u8 (.var 70), .int .u8 (.var 71), .int .u8 (.var 72)]), (6,
 [.int .i64 (.var 33), .int .u32 (.var 34), .var 35, .var 36, .bool (.var 37), .bool (.var 38), .bool (.var 39), .bool (.var 40), .bool (.var 41), .bool (.var 42),
 .bool (.var 43), .bool (.var 44), .int .u8 (.var 45), .int .u8 (.var 46), .int .u8 (.var 47), .int .u8 (.var 48), .int .u8 (.var 49), .int .u8
 (.var 50), .int .u8 (.var 51), .int .u8 (.var 52)])])) (.leaf 0 [.bool (.lit false)] [] [(28, [.int .i64 (.var 53), .int .u32 (.var 54), .var 55, .var 56, .bool
 (.var 57), .bool (.var 58), .bool (.var 59), .bool (.var 60), .bool (.var 61), .bool (.var 62), .bool (.var 63), .bool (.var 64), .int .u8 (.var 65), .int .u8 (.var
 66), .int .u8 (.var 67), .int .u8 (.var 68), .int .u8 (.var 69), .int .u8 (.var 70), .int .u8 (.var 71), .int .u8 (.var 72)]), (6, [.int .i64
 (.var 33), .int .u32 (.var 34), .var 35, .var 36, .bool (.var 37), .bool (.var 38), .bool (.var 39), .bool (.var 40), .bool (.var 41), .bool (.var 42), .bool (.var 43),
 .bool (.var 44), .int .u8 (.var 45), .int .u8 (.var 46), .int .u8 (.var 47), .int .u8 (.var 48), .int .u8 (.var 49), .int .u8 (.var 50), .int
 .u8 (.var 51), .int .u8 (.var 52)])]))) (.leaf 0 [.bool (.lit false)] [] [(28, [.int .i64 (.var 53), .int .u32 (.var 54), .var 55, .var 56, .bool (.var 57),
 .bool (.var 58), .bool (.var 59), .bool (.var 60), .bool (.var 61), .bool (.var 62), .bool (.var 63), .bool (.var 64), .int .u8 (.var 65), .int .u8 (.var 66), .int
 .u8 (.var 67), .int .u8 (.var 68), .int .u8 (.var 69), .int .u8 (.var 70), .int .u8 (.var 71), .int .u8 (.var 72)]), (6, [.int .i64 (.var 33),
 .int .u32 (.var 34), .var 35, .var 36, .bool (.var 37), .bool (.var 38), .bool (.var 39), .bool (.var 40), .bool (.var 41), .bool (.var 42), .bool (.var 43), .bool (.var
 44), .int .u8 (.var 45), .int .u8 (.var 46), .int .u8 (.var 47), .int .u8 (.var 48), .int .u8 (.var 49), .int .u8 (.var 50), .int .u8 (.var
 51), .int .u8 (.var 52)])]))))))))))))))))))) := by kernel_rfl

end Go.Proofs.Ytfjlnfgbfclgbaa
