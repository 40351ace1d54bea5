/- What the functions of the chapter come to, printed by a program of the prover's and checked by the kernel. No conditions. -/
import Derived.Test.YtfjlnfgbfclgbaaSxZI
import Derived.Test.YtfjlnfgbfclgbaaProg
import Derived.KernelRfl
set_option maxRecDepth 100000
set_option linter.unusedVariables false
namespace Go.Proofs.Ytfjlnfgbfclgbaa
open Go.Sx

theorem t26 : exFn { P := Try.prog } 26 [.var 0, .agg [.int .i64 (.var 1), .int .u32 (.var 2), .var 3, .var 4, .bool (.var 5), .bool (.var 6), .bool (.var 7), .bool (.var 8), .bool (.var 9), .bool (.var 10), .bool (.var
 11), .bool (.var 12), .int .u8 (.var 13), .int .u8 (.var 14), .int .u8 (.var 15), .int .u8 (.var 16), .int .u8 (.var 17), .int .u8 (.var 18), .int .u8 (.var 19), .int .u8 (.var 20)], .agg [.int .i64 (.var 21), .int .u16
 (.var 22), .int .u8 (.var 23), .int .u8 (.var 24), .int .u8 (.var 25), .int .u32 (.var 26)]] [.ptr, .int .i64, .int .u32, .slice, .slice, .bool, .bool, .bool, .bool, .bool, .bool, .bool, .bool, .int .u8, .int .u8, .int
 .u8, .int .u8, .int .u8, .int .u8, .int .u8, .int .u8, .int .i64, .int .u16, .int .u8, .int .u8, .int .u8, .int .u32] [] = .blk (.blk (.blk (.split (.eq (.var 21) (.lit 0)) (.call 49 [.agg [.int
 .i64 (.var 1), .int .u32 (.var 2), .var 3, .var 4, .bool (.var 5), .bool (.var 6), .bool (.var 7), .bool (.var 8), .bool (.var 9), .bool (.var 10), .bool (.var 11),
 .bool (.var 12), .int .u8 (.var 13), .int .u8 (.var 14), .int .u8 (.var 15), .int .u8 (.var 16), .int .u8 (.var 17), .int .u8 (.var 18), .int
 .u8 (.var 19), .int .u8 (.var 20)], .int .u16 (.var 22)] [.int .i64, .int .u32, .slice, .slice, .bool, .bool, .bool, .bool, .bool,
 .bool, .bool, .bool, .int .u8, .int .u8, .int .u8, .int .u8, .int .u8, .int .u8, .int .u8, .int .u8, .int
 .i64] (.tuple [.agg [.int .i64 (.var 30), .int .u32 (.var 31), .var 32, .var 33, .bool (.var 34), .bool (.var 35), .bool (.var 36), .bool (.var 37), .bool (.var
 38), .bool (.var 39), .bool (.var 40), .bool (.var 41), .int .u8 (.var 42), .int .u8 (.var 43), .int .u8 (.var 44), .int .u8 (.var 45), .int .u8 (.var
 46), .int .u8 (.var 47), .int .u8 (.var 48), .int .u8 (.var 49)], .int .i64 (.var 50)]) [] false [] [] [29, 28, 27] [(29, [.int .i64 (.lit 0), .int .u32
 (.lit 0), .cst (.slice none 0 0), .cst (.slice none 0 0), .bool (.lit false), .bool (.lit false), .bool (.lit false), .bool (.lit false), .bool (.lit false), .bool (.lit false),
 .bool (.lit false), .bool (.lit false), .int .u8 (.lit 0), .int .u8 (.lit 0), .int .u8 (.lit 0), .int .u8 (.lit 0), .int .u8 (.lit 0), .int .u8
 (.lit 0), .int .u8 (.lit 0), .int .u8 (.lit 0)]), (28, [.int .i64 (.var 21), .int .u16 (.var 22), .int .u8 (.var 23), .int .u8 (.var 24), .int
 .u8 (.var 25), .int .u32 (.var 26)]), (27, [.int .i64 (.var 1), .int .u32 (.var 2), .var 3, .var 4, .bool (.var 5), .bool (.var 6), .bool (.var 7), .bool
 (.var 8), .bool (.var 9), .bool (.var 10), .bool (.var 11), .bool (.var 12), .int .u8 (.var 13), .int .u8 (.var 14), .int .u8 (.var 15), .int .u8 (.var 16),
 .int .u8 (.var 17), .int .u8 (.var 18), .int .u8 (.var 19), .int .u8 (.var 20)])] (.blk (.start true [51] [51, 29, 28, 27] [(51, [.int .i64 (.var 30), .int
 .u32 (.var 31), .var 32, .var 33, .bool (.var 34), .bool (.var 35), .bool (.var 36), .bool (.var 37), .bool (.var 38), .bool (.var 39), .bool (.var 40), .bool (.var 41),
 .int .u8 (.var 42), .int .u8 (.var 43), .int .u8 (.var 44), .int .u8 (.var 45), .int .u8 (.var 46), .int .u8 (.var 47), .int .u8 (.var 48),
 .int .u8 (.var 49)]), (29, [.int .i64 (.lit 0), .int .u32 (.lit 0), .cst (.slice none 0 0), .cst (.slice none 0 0), .bool (.lit false), .bool (.lit false), .bool
 (.lit false), .bool (.lit false), .bool (.lit false), .bool (.lit false), .bool (.lit false), .bool (.lit false), .int .u8 (.lit 0), .int .u8 (.lit 0), .int .u8
 (.lit 0), .int .u8 (.lit 0), .int .u8 (.lit 0), .int .u8 (.lit 0), .int .u8 (.lit 0), .int .u8 (.lit 0)]), (28, [.int .i64 (.var 21), .int
 .u16 (.var 22), .int .u8 (.var 23), .int .u8 (.var 24), .int .u8 (.var 25), .int .u32 (.var 26)]), (27, [.int .i64 (.var 1), .int .u32 (.var 2),
 .var 3, .var 4, .bool (.var 5), .bool (.var 6), .bool (.var 7), .bool (.var 8), .bool (.var 9), .bool (.var 10), .bool (.var 11), .bool (.var 12), .int .u8 (.var 13),
 .int .u8 (.var 14), .int .u8 (.var 15), .int .u8 (.var 16), .int .u8 (.var 17), .int .u8 (.var 18), .int .u8 (.var 19), .int .u8 (.var 20)])]
 (.call 20 [.var 0, .int .u16 (.var 22)] [.int .u8, .int .u8, .bool, .bool] (.agg [.int .u8 (.var 52), .int .u8 (.var 53), .bool (.var 54), .bool
 (.var 55)]) [] true [] [] [51, 29, 28, 27] [(51, [.int .i64 (.var 30), .int .u32 (.var 31), .var 32, .var 33, .bool (.var 34), .bool (.var 35), .bool (.var 36), .bool (.var
 37), .bool (.var 38), .bool (.var 39), .bool (.var 40), .bool (.var 41), .int .u8 (.var 42), .int .u8 (.var 43), .int .u8 (.var 44), .int .u8 (.var 45), .int
 .u8 (.var 46), .int .u8 (.var 47), .int .u8 (.var 48), .int .u8 (.var 49)]), (29, [.int .i64 (.lit 0), .int .u32 (.lit 0), .cst (.slice none 0 0),
 .cst (.slice none 0 0), .bool (.lit false), .bool (.lit false), .bool (.lit false), .bool (.lit false), .bool (.lit false), .bool (.lit false), .bool (.lit false), .bool (.lit
 false), .int .u8 (.lit 0), .int .u8 (.lit 0), .int .u8 (.lit 0), .int .u8 (.lit 0), .int .u8 (.lit 0), .int .u8 (.lit 0), .int .u8 (.lit 0),
 .int .u8 (.lit 0)]), (28, [.int .i64 (.var 21), .int .u16 (.var 22), .int .u8 (.var 23), .int .u8 (.var 24), .int .u8 (.var 25), .int .u32
 (.var 26)]), (27, [.int .i64 (.var 1), .int .u32 (.var 2), .var 3, .var 4, .bool (.var 5), .bool (.var 6), .bool (.var 7), .bool (.var 8), .bool (.var 9), .bool (.var
 10), .bool (.var 11), .bool (.var 12), .int .u8 (.var 13), .int .u8 (.var 14), .int .u8 (.var 15), .int .u8 (.var 16), .int .u8 (.var 17), .int .u8
 (.var 18), .int .u8 (.var 19), .int .u8 (.var 20)])] (.call 19 [.agg [.int .u8 (.var 52), .int .u8 (.var 53), .bool (.var 54), .bool (.var 55)], .int
 .i64 (.var 50)] [.bool] (.bool (.var 56)) [] true [] [] [51, 29, 28, 27] [(51, [.int .i64 (.var 30), .int .u32 (.var 31), .var 32, .var 33, .bool (.var 34), .bool (.var
 35), .bool (.var 36), .bool (.var 37), .bool (.var 38), .bool (.var 39), .bool (.var 40), .bool (.var 41), .int .u8 (.var 42), .int .u8 (.var 43), .int .u8 (.var
 44), .int .u8 (.var 45), .int .u8 (.var 46), .int .u8 (.var 47), .int .u8 (.var 48), .int .u8 (.var 49)]), (29, [.int .i64 (.lit 0), .int .u32
 (.lit 0), .cst (.slice none 0 0), .cst (.slice none 0 0), .bool (.lit false), .bool (.lit false), .bool (.lit false), .bool (.lit false), .bool (.lit false), .bool (.lit false),
 .bool (.lit false), .bool (.lit false), .int .u8 (.lit 0), .int .u8 (.lit 0), .int .u8 (.lit 0), .int .u8 (.lit 0), .int .u8 (.lit 0), .int .u8
 (.lit 0), .int .u8 (.lit 0), .int .u8 (.lit 0)]), (28, [.int .i64 (.var 21), .int .u16 (.var 22), .int .u8 (.var 23), .int .u8 (.var 24), .int
 .u8 (.var 25), .int .u32 (.var 26)]), (27, [.int .i64 (.var 1), .int .u32 (.var 2), .var 3, .var 4, .bool (.var 5), .bool (.var 6), .bool (.var 7), .bool
 (.var 8), .bool (.var 9), .bool (.var 10), .bool (.var 11), .bool (.var 12), .int .u8 (.var 13), .int .u8 (.var 14), .int .u8 (.var 15), .int .u8 (.var 16),
 .int .u8 (.var 17), .int .u8 (.var 18), .int .u8 (.var 19), .int .u8 (.var 20)])] (.split (.var 56) (.call 29 [.var 0, .agg [.int .i64 (.var 30), .int
 .u32 (.var 31), .var 32, .var 33, .bool (.var 34), .bool (.var 35), .bool (.var 36), .bool (.var 37), .bool (.var 38), .bool (.var 39), .bool (.var 40), .bool (.var 41),
 .int .u8 (.var 42), .int .u8 (.var 43), .int .u8 (.var 44), .int .u8 (.var 45), .int .u8 (.var 46), .int .u8 (.var 47), .int .u8 (.var 48),
 .int .u8 (.var 49)]] [.bool] (.bool (.var 57)) [] true [] [] [51, 29, 28, 27] [(51, [.int .i64 (.var 30), .int .u32 (.var 31), .var 32, .var 33, .bool (.var 34), .bool
 (.var 35), .bool (.var 36), .bool (.var 37), .bool (.var 38), .bool (.var 39), .bool (.var 40), .bool (.var 41), .int .u8 (.var 42), .int .u8 (.var 43), .int .u8
 (.var 44), .int .u8 (.var 45), .int .u8 (.var 46), .int .u8 (.var 47), .int .u8 (.var 48), .int .u8 (.var 49)]), (29, [.int .i64 (.lit 0), .int
 .u32 (.lit 0), .cst (.slice none 0 0), .cst (.slice none 0 0), .bool (.lit false), .bool (.lit false), .bool (.lit false), .bool (.lit false), .bool (.lit false), .bool
 (.lit false), .bool (.lit false), .bool (.lit false), .int .u8 (.lit 0), .int .u8 (.lit 0), .int .u8 (.lit 0), .int .u8 (.lit 0), .int .u8 (.lit 0),
 .int .u8 (.lit 0), .int .u8 (.lit 0), .int .u8 (.lit 0)]), (28, [.int .i64 (.var 21), .int .u16 (.var 22), .int .u8 (.var 23), .int .u8 (.var
 24), .int .u8 (.var 25), .int .u32 (.var 26)]), (27, [.int .i64 (.var 1), .int .u32 (.var 2), .var 3, .var 4, .bool (.var 5), .bool (.var 6), .bool (.var 7),
 .bool (.var 8), .bool (.var 9), .bool (.var 10), .bool (.var 11), .bool (.var 12), .int .u8 (.var 13), .int .u8 (.var 14), .int .u8 (.var 15), .int .u8
 (.var 16), .int .u8 (.var 17), .int .u8 (.var 18), .int .u8 (.var 19), .int .u8 (.var 20)])] (.leaf 0 [.tuple [.agg [.int .i64 (.var 30), .int .u32
 (.var 31), .var 32, .var 33, .bool (.var 34), .bool (.var 35), .bool (.var 36), .bool (.var 37), .bool (.var 38), .bool (.var 39), .bool (.var 40), .bool (.var 41), .int
 .u8 (.var 42), .int .u8 (.var 43), .int .u8 (.var 44), .int .u8 (.var 45), .int .u8 (.var 46), .int .u8 (.var 47), .int .u8 (.var 48), .int
 .u8 (.var 49)], .bool (.var 57)]] [29] [(51, [.int .i64 (.var 30), .int .u32 (.var 31), .var 32, .var 33, .bool (.var 34), .bool (.var 35), .bool (.var 36), .bool
 (.var 37), .bool (.var 38), .bool (.var 39), .bool (.var 40), .bool (.var 41), .int .u8 (.var 42), .int .u8 (.var 43), .int .u8 (.var 44), .int .u8 (.var
 45), .int .u8 (.var 46), .int .u8 (.var 47), .int .u8 (.var 48), .int .u8 (.var 49)]), (29, [.int .i64 (.var 30), .int .u32 (.var 31), .var 32, .var
 33, .bool (.var 34), .bool (.var 35), .bool (.var 36), .bool (.var 37), .bool (.var 38), .bool (.var 39), .bool (.var 40), .bool (.var 41), .int .u8 (.var 42), .int
 .u8 (.var 43), .int .u8 (.var 44), .int .u8 (.var 45), .int .u8 (.var 46), .int .u8 (.var 47), .int .u8 (.var 48), .int .u8 (.var 49)]), (28,
 [.int .i64 (.var 21), .int .u16 (.var 22), .int .u8 (.var 23), .int .u8 (.var 24), .int .u8 (.var 25), .int .u32 (.var 26)]), (27, [.int .i64
 (.var 1), .int .u32 (.var 2), .var 3, .var 4, .bool (.var 5), .bool (.var 6), .bool (.var 7), .bool (.var 8), .bool (.var 9), .bool (.var 10), .bool (.var 11), .bool
 (.var 12), .int .u8 (.var 13), .int .u8 (.var 14), .int .u8 (.var 15), .int .u8 (.var 16), .int .u8 (.var 17), .int .u8 (.var 18), .int .u8
 (.var 19), .int .u8 (.var 20)])])) (.leaf 0 [.tuple [.agg [.int .i64 (.var 30), .int .u32 (.var 31), .var 32, .var 33, .bool (.var 34), .bool (.var 35), .bool
 (.var 36), .bool (.var 37), .bool (.var 38), .bool (.var 39), .bool (.var 40), .bool (.var 41), .int .u8 (.var 42), .int .u8 (.var 43), .int .u8 (.var 44), .int
 .u8 (.var 45), .int .u8 (.var 46), .int .u8 (.var 47), .int .u8 (.var 48), .int .u8 (.var 49)], .bool (.lit false)]] [29] [(51, [.int .i64 (.var 30),
 .int .u32 (.var 31), .var 32, .var 33, .bool (.var 34), .bool (.var 35), .bool (.var 36), .bool (.var 37), .bool (.var 38), .bool (.var 39), .bool (.var 40), .bool (.var
 41), .int .u8 (.var 42), .int .u8 (.var 43), .int .u8 (.var 44), .int .u8 (.var 45), .int .u8 (.var 46), .int .u8 (.var 47), .int .u8 (.var
 48), .int .u8 (.var 49)]), (29, [.int .i64 (.var 30), .int .u32 (.var 31), .var 32, .var 33, .bool (.var 34), .bool (.var 35), .bool (.var 36), .bool (.var 37),
 .bool (.var 38), .bool (.var 39), .bool (.var 40), .bool (.var 41), .int .u8 (.var 42), .int .u8 (.var 43), .int .u8 (.var 44), .int .u8 (.var 45), .int
 .u8 (.var 46), .int .u8 (.var 47), .int .u8 (.var 48), .int .u8 (.var 49)]), (28, [.int .i64 (.var 21), .int .u16 (.var 22), .int .u8 (.var 23),
 .int .u8 (.var 24), .int .u8 (.var 25), .int .u32 (.var 26)]), (27, [.int .i64 (.var 1), .int .u32 (.var 2), .var 3, .var 4, .bool (.var 5), .bool (.var
 6), .bool (.var 7), .bool (.var 8), .bool (.var 9), .bool (.var 10), .bool (.var 11), .bool (.var 12), .int .u8 (.var 13), .int .u8 (.var 14), .int .u8 (.var 15),
 .int .u8 (.var 16), .int .u8 (.var 17), .int .u8 (.var 18), .int .u8 (.var 19), .int .u8 (.var 20)])]))))))) (.split (.eq (.var 21) (.lit 1)) (.call 21
 [.var 0, .agg [.int .u8 (.var 23), .int .u8 (.var 24), .int .u8 (.var 25)]] [.bool, .int .i64] (.tuple [.bool (.var 30), .int .i64 (.var 31)]) []
 false [] [] [29, 28, 27] [(29, [.int .i64 (.lit 0), .int .u32 (.lit 0), .cst (.slice none 0 0), .cst (.slice none 0 0), .bool (.lit false), .bool (.lit false), .bool (.lit
 false), .bool (.lit false), .bool (.lit false), .bool (.lit false), .bool (.lit false), .bool (.lit false), .int .u8 (.lit 0), .int .u8 (.lit 0), .int .u8 (.lit 0),
 .int .u8 (.lit 0), .int .u8 (.lit 0), .int .u8 (.lit 0), .int .u8 (.lit 0), .int .u8 (.lit 0)]), (28, [.int .i64 (.var 21), .int .u16 (.var
 22), .int .u8 (.var 23), .int .u8 (.var 24), .int .u8 (.var 25), .int .u32 (.var 26)]), (27, [.int .i64 (.var 1), .int .u32 (.var 2), .var 3, .var 4,
 .bool (.var 5), .bool (.var 6), .bool (.var 7), .bool (.var 8), .bool (.var 9), .bool (.var 10), .bool (.var 11), .bool (.var 12), .int .u8 (.var 13), .int .u8 (.var
 14), .int .u8 (.var 15), .int .u8 (.var 16), .int .u8 (.var 17), .int .u8 (.var 18), .int .u8 (.var 19), .int .u8 (.var 20)])] (.call 50 [.agg
 [.int .i64 (.var 1), .int .u32 (.var 2), .var 3, .var 4, .bool (.var 5), .bool (.var 6), .bool (.var 7), .bool (.var 8), .bool (.var 9), .bool (.var 10), .bool (.var
 11), .bool (.var 12), .int .u8 (.var 13), .int .u8 (.var 14), .int .u8 (.var 15), .int .u8 (.var 16), .int .u8 (.var 17), .int .u8 (.var 18), .int
 .u8 (.var 19), .int .u8 (.var 20)], .agg [.int .u8 (.var 23), .int .u8 (.var 24), .int .u8 (.var 25)]] [.int .i64, .int .u32, .slice,
 .slice, .bool, .bool, .bool, .bool, .bool, .bool, .bool, .bool, .int .u8, .int .u8, .int .u8, .int .u8, .int .u8, .int
 .u8, .int .u8, .int .u8, .bool, .int .i64] (.tuple [.agg [.int .i64 (.var 32), .int .u32 (.var 33), .var 34, .var 35, .bool (.var 36),
 .bool (.var 37), .bool (.var 38), .bool (.var 39), .bool (.var 40), .bool (.var 41), .bool (.var 42), .bool (.var 43), .int .u8 (.var 44), .int .u8 (.var 45), .int
 .u8 (.var 46), .int .u8 (.var 47), .int .u8 (.var 48), .int .u8 (.var 49), .int .u8 (.var 50), .int .u8 (.var 51)], .bool (.var 52), .int .i64
 (.var 53)]) [] false [] [] [29, 28, 27] [(29, [.int .i64 (.lit 0), .int .u32 (.lit 0), .cst (.slice none 0 0), .cst (.slice none 0 0), .bool (.lit false), .bool (.lit
 false), .bool (.lit false), .bool (.lit false), .bool (.lit false), .bool (.lit false), .bool (.lit false), .bool (.lit false), .int .u8 (.lit 0), .int .u8 (.lit 0), .int
 .u8 (.lit 0), .int .u8 (.lit 0), .int .u8 (.lit 0), .int .u8 (.lit 0), .int .u8 (.lit 0), .int .u8 (.lit 0)]), (28, [.int .i64 (.var 21), .int
 .u16 (.var 22), .int .u8 (.var 23), .int .u8 (.var 24), .int .u8 (.var 25), .int .u32 (.var 26)]), (27, [.int .i64 (.var 1), .int .u32 (.var 2),
 .var 3, .var 4, .bool (.var 5), .bool (.var 6), .bool (.var 7), .bool (.var 8), .bool (.var 9), .bool (.var 10), .bool (.var 11), .bool (.var 12), .int .u8 (.var 13),
 .int .u8 (.var 14), .int .u8 (.var 15), .int .u8 (.var 16), .int .u8 (.var 17), .int .u8 (.var 18), .int .u8 (.var 19), .int .u8 (.var 20)])]
 (.blk (.start true [54] [54, 29, 28, 27] [(54, [.int .i64 (.var 32), .int .u32 (.var 33), .var 34, .var 35, .bool (.var 36), .bool (.var 37), .bool (.var 38), .bool (.var
 39), .bool (.var 40), .bool (.var 41), .bool (.var 42), .bool (.var 43), .int .u8 (.var 44), .int .u8 (.var 45), .int .u8 (.var 46), .int .u8 (.var 47), .int
 .u8 (.var 48), .int .u8 (.var 49), .int .u8 (.var 50), .int .u8 (.var 51)]), (29, [.int .i64 (.lit 0), .int .u32 (.lit 0), .cst (.slice none 0 0),
 .cst (.slice none 0 0), .bool (.lit false), .bool (.lit false), .bool (.lit false), .bool (.lit false), .bool (.lit false), .bool (.lit false), .bool (.lit false), .bool (.lit
 false), .int .u8 (.lit 0), .int .u8 (.lit 0), .int .u8 (.lit 0), .int .u8 (.lit 0), .int .u8 (.lit 0), .int .u8 (.lit 0), .int .u8 (.lit 0),
 .int .u8 (.lit 0)]), (28, [.int .i64 (.var 21), .int .u16 (.var 22), .int .u8 (.var 23), .int .u8 (.var 24), .int .u8 (.var 25), .int .u32
 (.var 26)]), (27, [.int .i64 (.var 1), .int .u32 (.var 2), .var 3, .var 4, .bool (.var 5), .bool (.var 6), .bool (.var 7), .bool (.var 8), .bool (.var 9), .bool (.var
 10), .bool (.var 11), .bool (.var 12), .int .u8 (.var 13), .int .u8 (.var 14), .int .u8 (.var 15), .int .u8 (.var 16), .int .u8 (.var 17), .int .u8
 (.var 18), .int .u8 (.var 19), .int .u8 (.var 20)])] (.split (.beq (.var 30) (.var 52)) (.split (.eq (.var 31) (.var 53)) (.call 29 [.var 0, .agg [.int .i64 (.var
 32), .int .u32 (.var 33), .var 34, .var 35, .bool (.var 36), .bool (.var 37), .bool (.var 38), .bool (.var 39), .bool (.var 40), .bool (.var 41), .bool (.var 42), .bool
 (.var 43), .int .u8 (.var 44), .int .u8 (.var 45), .int .u8 (.var 46), .int .u8 (.var 47), .int .u8 (.var 48), .int .u8 (.var 49), .int .u8
 (.var 50), .int .u8 (.var 51)]] [.bool] (.bool (.var 55)) [] true [] [] [54, 29, 28, 27] [(54, [.int .i64 (.var 32), .int .u32 (.var 33), .var 34, .var 35, .bool (.var
 36), .bool (.var 37), .bool (.var 38), .bool (.var 39), .bool (.var 40), .bool (.var 41), .bool (.var 42), .bool (.var 43), .int .u8 (.var 44), .int .u8 (.var 45),
 .int .u8 (.var 46), .int .u8 (.var 47), .int .u8 (.var 48), .int .u8 (.var 49), .int .u8 (.var 50), .int .u8 (.var 51)]), (29, [.int .i64
 (.lit 0), .int .u32 (.lit 0), .cst (.slice none 0 0), .cst (.slice none 0 0), .bool (.lit false), .bool (.lit false), .bool (.lit false), .bool (.lit false), .bool (.lit
 false), .bool (.lit false), .bool (.lit false), .bool (.lit false), .int .u8 (.lit 0), .int .u8 (.lit 0), .int .u8 (.lit 0), .int .u8 (.lit 0), .int .u8
 (.lit 0), .int .u8 (.lit 0), .int .u8 (.lit 0), .int .u8 (.lit 0)]), (28, [.int .i64 (.var 21), .int .u16 (.var 22), .int .u8 (.var 23), .int
 .u8 (.var 24), .int .u8 (.var 25), .int .u32 (.var 26)]), (27, [.int .i64 (.var 1), .int .u32 (.var 2), .var 3, .var 4, .bool (.var 5), .bool (.var 6),
 .bool (.var 7), .bool (.var 8), .bool (.var 9), .bool (.var 10), .bool (.var 11), .bool (.var 12), .int .u8 (.var 13), .int .u8 (.var 14), .int .u8 (.var 15),
 .int .u8 (.var 16), .int .u8 (.var 17), .int .u8 (.var 18), .int .u8 (.var 19), .int .u8 (.var 20)])] (.leaf 0 [.tuple [.agg [.int .i64 (.var 32),
 .int .u32 (.var 33), .var 34, .var 35, .bool (.var 36), .bool (.var 37), .bool (.var 38), .bool (.var 39), .bool (.var 40), .bool (.var 41), .bool (.var 42), .bool (.var
 43), .int .u8 (.var 44), .int .u8 (.var 45), .int .u8 (.var 46), .int .u8 (.var 47), .int .u8 (.var 48), .int .u8 (.var 49), .int .u8 (.var
 50), .int .u8 (.var 51)], .bool (.var 55)]] [29] [(54, [.int .i64 (.var 32), .int .u32 (.var 33), .var 34, .var 35, .bool (.var 36), .bool (.var 37), .bool (.var 38),
 .bool (.var 39), .bool (.var 40), .bool (.var 41), .bool (.var 42), .bool (.var 43), .int .u8 (.var 44), .int .u8 (.var 45), .int .u8 (.var 46), .int .u8
 (.var 47), .int .u8 (.var 48), .int .u8 (.var 49), .int .u8 (.var 50), .int .u8 (.var 51)]), (29, [.int .i64 (.var 32), .int .u32 (.var 33), .var 34,
 .var 35, .bool (.var 36), .bool (.var 37), .bool (.var 38), .bool (.var 39), .bool (.var 40), .bool (.var 41), .bool (.var 42), .bool (.var 43), .int .u8 (.var 44), .int
 .u8 (.var 45), .int .u8 (.var 46), .int .u8 (.var 47), .int .u8 (.var 48), .int .u8 (.var 49), .int .u8 (.var 50), .int .u8 (.var 51)]), (28,
 [.int .i64 (.var 21), .int .u16 (.var 22), .int .u8 (.var 23), .int .u8 (.var 24), .int .u8 (.var 25), .int .u32 (.var 26)]), (27, [.int .i64
 (.var 1), .int .u32 (.var 2), .var 3, .var 4, .bool (.var 5), .bool (.var 6), .bool (.var 7), .bool (.var 8), .bool (.var 9), .bool (.var 10), .bool (.var 11), .bool
 (.var 12), .int .u8 (.var 13), .int .u8 (.var 14), .int .u8 (.var 15), .int .u8 (.var 16), .int .u8 (.var 17), .int .u8 (.var 18), .int .u8
 (.var 19), .int .u8 (.var 20)])])) (.leaf 0 [.tuple [.agg [.int .i64 (.var 32), .int .u32 (.var 33), .var 34, .var 35, .bool (.var 36), .bool (.var 37), .bool
 (.var 38), .bool (.var 39), .bool (.var 40), .bool (.var 41), .bool (.var 42), .bool (.var 43), .int .u8 (.var 44), .int .u8 (.var 45), .int .u8 (.var 46), .int
 .u8 (.var 47), .int .u8 (.var 48), .int .u8 (.var 49), .int .u8 (.var 50), .int .u8 (.var 51)], .bool (.lit false)]] [29] [(54, [.int .i64 (.var 32),
 .int .u32 (.var 33), .var 34, .var 35, .bool (.var 36), .bool (.var 37), .bool (.var 38), .bool (.var 39), .bool (.var 40), .bool (.var 41), .bool (.var 42), .bool (.var
 43), .int .u8 (.var 44), .int .u8 (.var 45), .int .u8 (.var 46), .int .u8 (.var 47), .int .u8 (.var 48), .int .u8 (.var 49), .int .u8 (.var
 50), .int .u8 (.var 51)]), (29, [.int .i64 (.var 32), .int .u32 (.var 33), .var 34, .var 35, .bool (.var 36), .bool (.var 37), .bool (.var 38), .bool (.var 39),
 .bool (.var 40), .bool (.var 41), .bool (.var 42), .bool (.var 43), .int .u8 (.var 44), .int .u8 (.var 45), .int .u8 (.var 46), .int .u8 (.var 47), .int
 .u8 (.var 48), .int .u8 (.var 49), .int .u8 (.var 50), .int .u8 (.var 51)]), (28, [.int .i64 (.var 21), .int .u16 (.var 22), .int .u8 (.var 23),
 .int .u8 (.var 24), .int .u8 (.var 25), .int .u32 (.var 26)]), (27, [.int .i64 (.var 1), .int .u32 (.var 2), .var 3, .var 4, .bool (.var 5), .bool (.var
 6), .bool (.var 7), .bool (.var 8), .bool (.var 9), .bool (.var 10), .bool (.var 11), .bool (.var 12), .int .u8 (.var 13), .int .u8 (.var 14), .int .u8 (.var 15),
 .int .u8 (.var 16), .int .u8 (.var 17), .int .u8 (.var 18), .int .u8 (.var 19), .int .u8 (.var 20)])])) (.leaf 0 [.tuple [.agg [.int .i64 (.var
 32), .int .u32 (.var 33), .var 34, .var 35, .bool (.var 36), .bool (.var 37), .bool (.var 38), .bool (.var 39), .bool (.var 40), .bool (.var 41), .bool (.var 42), .bool
 (.var 43), .int .u8 (.var 44), .int .u8 (.var 45), .int .u8 (.var 46), .int .u8 (.var 47), .int .u8 (.var 48), .int .u8 (.var 49), .int .u8
 (.var 50), .int .u8 (.var 51)], .bool (.lit false)]] [29] [(54, [.int .i64 (.var 32), .int .u32 (.var 33), .var 34, .var 35, .bool (.var 36), .bool (.var 37), .bool
 (.var 38), .bool (.var 39), .bool (.var 40), .bool (.var 41), .bool (.var 42), .bool (.var 43), .int .u8 (.var 44), .int .u8 (.var 45), .int .u8 (.var 46), .int
 .u8 (.var 47), .int .u8 (.var 48), .int .u8 (.var 49), .int .u8 (.var 50), .int .u8 (.var 51)]), (29, [.int .i64 (.var 32), .int .u32 (.var 33),
 .var 34, .var 35, .bool (.var 36), .bool (.var 37), .bool (.var 38), .bool (.var 39), .bool (.var 40), .bool (.var 41), .bool (.var 42), .bool (.var 43), .int .u8 (.var
 44), .int .u8 (.var 45), .int .u8 (.var 46), .int .u8 (.var 47), .int .u8 (.var 48), .int .u8 (.var 49), .int .u8 (.var 50), .int .u8 (.var
 51)]), (28, [.int .i64 (.var 21), .int .u16 (.var 22), .int .u8 (.var 23), .int .u8 (.var 24), .int .u8 (.var 25), .int .u32 (.var 26)]), (27, [.int
 .i64 (.var 1), .int .u32 (.var 2), .var 3, .var 4, .bool (.var 5), .bool (.var 6), .bool (.var 7), .bool (.var 8), .bool (.var 9), .bool (.var 10), .bool (.var 11),
 .bool (.var 12), .int .u8 (.var 13), .int .u8 (.var 14), .int .u8 (.var 15), .int .u8 (.var 16), .int .u8 (.var 17), .int .u8 (.var 18), .int
 .u8 (.var 19), .int .u8 (.var 20)])])))))) (.split (.eq (.var 21) (.lit 2)) (.call 22 [.var 0] [.slice] (.var 30) [] false [] [] [29, 28, 27] [(29, [.int .i64 (.lit 0),
 .int .u32 (.lit 0), .cst (.slice none 0 0), .cst (.slice none 0 0), .bool (.lit false), .bool (.lit false), .bool (.lit false), .bool (.lit false), .bool (.lit false),
 .bool (.lit false), .bool (.lit false), .bool (.lit false), .int .u8 (.lit 0), .int .u8 (.lit 0), .int .u8 (.lit 0), .int .u8 (.lit 0), .int .u8 (.lit
 0), .int .u8 (.lit 0), .int .u8 (.lit 0), .int .u8 (.lit 0)]), (28, [.int .i64 (.var 21), .int .u16 (.var 22), .int .u8 (.var 23), .int .u8
 (.var 24), .int .u8 (.var 25), .int .u32 (.var 26)]), (27, [.int .i64 (.var 1), .int .u32 (.var 2), .var 3, .var 4, .bool (.var 5), .bool (.var 6), .bool
 (.var 7), .bool (.var 8), .bool (.var 9), .bool (.var 10), .bool (.var 11), .bool (.var 12), .int .u8 (.var 13), .int .u8 (.var 14), .int .u8 (.var 15), .int
 .u8 (.var 16), .int .u8 (.var 17), .int .u8 (.var 18), .int .u8 (.var 19), .int .u8 (.var 20)])] (.call 51 [.agg [.int .i64 (.var 1), .int
 .u32 (.var 2), .var 3, .var 4, .bool (.var 5), .bool (.var 6), .bool (.var 7), .bool (.var 8), .bool (.var 9), .bool (.var 10), .bool (.var 11), .bool (.var 12), .int
 .u8 (.var 13), .int .u8 (.var 14), .int .u8 (.var 15), .int .u8 (.var 16), .int .u8 (.var 17), .int .u8 (.var 18), .int .u8 (.var 19), .int
 .u8 (.var 20)]] [.int .i64, .int .u32, .slice, .slice, .bool, .bool, .bool, .bool, .bool, .bool, .bool, .bool, .int .u8, .int
 .u8, .int .u8, .int .u8, .int .u8, .int .u8, .int .u8, .int .u8, .slice] (.tuple [.agg [.int .i64 (.var 31), .int .u32
 (.var 32), .var 33, .var 34, .bool (.var 35), .bool (.var 36), .bool (.var 37), .bool (.var 38), .bool (.var 39), .bool (.var 40), .bool (.var 41), .bool (.var 42), .int
 .u8 (.var 43), .int .u8 (.var 44), .int .u8 (.var 45), .int .u8 (.var 46), .int .u8 (.var 47), .int .u8 (.var 48), .int .u8 (.var 49), .int
 .u8 (.var 50)], .var 51]) [] false [] [] [29, 28, 27] [(29, [.int .i64 (.lit 0), .int .u32 (.lit 0), .cst (.slice none 0 0), .cst (.slice none 0 0), .bool (.lit false),
 .bool (.lit false), .bool (.lit false), .bool (.lit false), .bool (.lit false), .bool (.lit false), .bool (.lit false), .bool (.lit false), .int .u8 (.lit 0), .int .u8
 (.lit 0), .int .u8 (.lit 0), .int .u8 (.lit 0), .int .u8 (.lit 0), .int .u8 (.lit 0), .int .u8 (.lit 0), .int .u8 (.lit 0)]), (28, [.int .i64
 (.var 21), .int .u16 (.var 22), .int .u8 (.var 23), .int .u8 (.var 24), .int .u8 (.var 25), .int .u32 (.var 26)]), (27, [.int .i64 (.var 1), .int
 .u32 (.var 2), .var 3, .var 4, .bool (.var 5), .bool (.var 6), .bool (.var 7), .bool (.var 8), .bool (.var 9), .bool (.var 10), .bool (.var 11), .bool (.var 12), .int
 .u8 (.var 13), .int .u8 (.var 14), .int .u8 (.var 15), .int .u8 (.var 16), .int .u8 (.var 17), .int .u8 (.var 18), .int .u8 (.var 19), .int
 .u8 (.var 20)])] (.blk (.start true [52] [52, 29, 28, 27] [(52, [.int .i64 (.var 31), .int .u32 (.var 32), .var 33, .var 34, .bool (.var 35), .bool (.var 36), .bool
 (.var 37), .bool (.var 38), .bool (.var 39), .bool (.var 40), .bool (.var 41), .bool (.var 42), .int .u8 (.var 43), .int .u8 (.var 44), .int .u8 (.var 45), .int
 .u8 (.var 46), .int .u8 (.var 47), .int .u8 (.var 48), .int .u8 (.var 49), .int .u8 (.var 50)]), (29, [.int .i64 (.lit 0), .int .u32 (.lit 0),
 .cst (.slice none 0 0), .cst (.slice none 0 0), .bool (.lit false), .bool (.lit false), .bool (.lit false), .bool (.lit false), .bool (.lit false), .bool (.lit false), .bool
 (.lit false), .bool (.lit false), .int .u8 (.lit 0), .int .u8 (.lit 0), .int .u8 (.lit 0), .int .u8 (.lit 0), .int .u8 (.lit 0), .int .u8 (.lit 0),
 .int .u8 (.lit 0), .int .u8 (.lit 0)]), (28, [.int .i64 (.var 21), .int .u16 (.var 22), .int .u8 (.var 23), .int .u8 (.var 24), .int .u8 (.var
 25), .int .u32 (.var 26)]), (27, [.int .i64 (.var 1), .int .u32 (.var 2), .var 3, .var 4, .bool (.var 5), .bool (.var 6), .bool (.var 7), .bool (.var 8), .bool
 (.var 9), .bool (.var 10), .bool (.var 11), .bool (.var 12), .int .u8 (.var 13), .int .u8 (.var 14), .int .u8 (.var 15), .int .u8 (.var 16), .int .u8
 (.var 17), .int .u8 (.var 18), .int .u8 (.var 19), .int .u8 (.var 20)])] (.call 32 [.var 30, .var 51] [.bool] (.bool (.var 53)) [] true [] [] [52, 29, 28, 27] [(52,
 [.int .i64 (.var 31), .int .u32 (.var 32), .var 33, .var 34, .bool (.var 35), .bool (.var 36), .bool (.var 37), .bool (.var 38), .bool (.var 39), .bool (.var 40),
 .bool (.var 41), .bool (.var 42), .int .u8 (.var 43), .int .u8 (.var 44), .int .u8 (.var 45), .int .u8 (.var 46), .int .u8 (.var 47), .int .u8
 (.var 48), .int .u8 (.var 49), .int .u8 (.var 50)]), (29, [.int .i64 (.lit 0), .int .u32 (.lit 0), .cst (.slice none 0 0), .cst (.slice none 0 0), .bool
 (.lit false), .bool (.lit false), .bool (.lit false), .bool (.lit false), .bool (.lit false), .bool (.lit false), .bool (.lit false), .bool (.lit false), .int .u8 (.lit 0),
 .int .u8 (.lit 0), .int .u8 (.lit 0), .int .u8 (.lit 0), .int .u8 (.lit 0), .int .u8 (.lit 0), .int .u8 (.lit 0), .int .u8 (.lit 0)]), (28,
 [.int .i64 (.var 21), .int .u16 (.var 22), .int .u8 (.var 23), .int .u8 (.var 24), .int .u8 (.var 25), .int .u32 (.var 26)]), (27, [.int .i64
 (.var 1), .int .u32 (.var 2), .var 3, .var 4, .bool (.var 5), .bool (.var 6), .bool (.var 7), .bool (.var 8), .bool (.var 9), .bool (.var 10), .bool (.var 11), .bool
 (.var 12), .int .u8 (.var 13), .int .u8 (.var 14), .int .u8 (.var 15), .int .u8 (.var 16), .int .u8 (.var 17), .int .u8 (.var 18), .int .u8
 (.var 19), .int .u8 (.var 20)])] (.split (.var 53) (.call 29 [.var 0, .agg [.int .i64 (.var 31), .int .u32 (.var 32), .var 33, .var 34, .bool (.var 35), .bool
 (.var 36), .bool (.var 37), .bool (.var 38), .bool (.var 39), .bool (.var 40), .bool (.var 41), .bool (.var 42), .int .u8 (.var 43), .int .u8 (.var 44), .int .u8
 (.var 45), .int .u8 (.var 46), .int .u8 (.var 47), .int .u8 (.var 48), .int .u8 (.var 49), .int .u8 (.var 50)]] [.bool] (.bool (.var 54)) [] true [] []
 [52, 29, 28, 27] [(52, [.int .i64 (.var 31), .int .u32 (.var 32), .var 33, .var 34, .bool (.var 35), .bool (.var 36), .bool (.var 37), .bool (.var 38), .bool (.var 39),
 .bool (.var 40), .bool (.var 41), .bool (.var 42), .int .u8 (.var 43), .int .u8 (.var 44), .int .u8 (.var 45), .int .u8 (.var 46), .int .u8 (.var 47),
 .int .u8 (.var 48), .int .u8 (.var 49), .int .u8 (.var 50)]), (29, [.int .i64 (.lit 0), .int .u32 (.lit 0), .cst (.slice none 0 0), .cst (.slice none
 0 0), .bool (.lit false), .bool (.lit false), .bool (.lit false), .bool (.lit false), .bool (.lit false), .bool (.lit false), .bool (.lit false), .bool (.lit false), .int .u8
 (.lit 0), .int .u8 (.lit 0), .int .u8 (.lit 0), .int .u8 (.lit 0), .int .u8 (.lit 0), .int .u8 (.lit 0), .int .u8 (.lit 0), .int .u8 (.lit
 0)]), (28, [.int .i64 (.var 21), .int .u16 (.var 22), .int .u8 (.var 23), .int .u8 (.var 24), .int .u8 (.var 25), .int .u32 (.var 26)]), (27, [.int
 .i64 (.var 1), .int .u32 (.var 2), .var 3, .var 4, .bool (.var 5), .bool (.var 6), .bool (.var 7), .bool (.var 8), .bool (.var 9), .bool (.var 10), .bool (.var 11),
 .bool (.var 12), .int .u8 (.var 13), .int .u8 (.var 14), .int .u8 (.var 15), .int .u8 (.var 16), .int .u8 (.var 17), .int .u8 (.var 18), .int
 .u8 (.var 19), .int .u8 (.var 20)])] (.leaf 0 [.tuple [.agg [.int .i64 (.var 31), .int .u32 (.var 32), .var 33, .var 34, .bool (.var 35), .bool (.var 36),
 .bool (.var 37), .bool (.var 38), .bool (.var 39), .bool (.var 40), .bool (.var 41), .bool (.var 42), .int .u8 (.var 43), .int .u8 (.var 44), .int .u8 (.var 45),
 .int .u8 (.var 46), .int .u8 (.var 47), .int .u8 (.var 48), .int .u8 (.var 49), .int .u8 (.var 50)], .bool (.var 54)]] [29] [(52, [.int .i64 (.var
 31), .int .u32 (.var 32), .var 33, .var 34, .bool (.var 35), .bool (.var 36), .bool (.var 37), .bool (.var 38), .bool (.var 39), .bool (.var 40), .bool (.var 41), .bool
 (.var 42), .int .u8 (.var 43), .int .u8 (.var 44), .int .u8 (.var 45), .int .u8 (.var 46), .int .u8 (.var 47), .int .u8 (.var 48), .int .u8
 (.var 49), .int .u8 (.var 50)]), (29, [.int .i64 (.var 31), .int .u32 (.var 32), .var 33, .var 34, .bool (.var 35), .bool (.var 36), .bool (.var 37), .bool (.var
 38), .bool (.var 39), .bool (.var 40), .bool (.var 41), .bool (.var 42), .int .u8 (.var 43), .int .u8 (.var 44), .int .u8 (.var 45), .int .u8 (.var 46), .int
 .u8 (.var 47), .int .u8 (.var 48), .int .u8 (.var 49), .int .u8 (.var 50)]), (28, [.int .i64 (.var 21), .int .u16 (.var 22), .int .u8 (.var 23),
 .int .u8 (.var 24), .int .u8 (.var 25), .int .u32 (.var 26)]), (27, [.int .i64 (.var 1), .int .u32 (.var 2), .var 3, .var 4, .bool (.var 5), .bool (.var
 6), .bool (.var 7), .bool (.var 8), .bool (.var 9), .bool (.var 10), .bool (.var 11), .bool (.var 12), .int .u8 (.var 13), .int .u8 (.var 14), .int .u8 (.var 15),
 .int .u8 (.var 16), .int .u8 (.var 17), .int .u8 (.var 18), .int .u8 (.var 19), .int .u8 (.var 20)])])) (.leaf 0 [.tuple [.agg [.int .i64 (.var
 31), .int .u32 (.var 32), .var 33, .var 34, .bool (.var 35), .bool (.var 36), .bool (.var 37), .bool (.var 38), .bool (.var 39), .bool (.var 40), .bool (.var 41), .bool
 (.var 42), .int .u8 (.var 43), .int .u8 (.var 44), .int .u8 (.var 45), .int .u8 (.var 46), .int .u8 (.var 47), .int .u8 (.var 48), .int .u8
 (.var 49), .int .u8 (.var 50)], .bool (.lit false)]] [29] [(52, [.int .i64 (.var 31), .int .u32 (.var 32), .var 33, .var 34, .bool (.var 35), .bool (.var 36), .bool
 (.var 37), .bool (.var 38), .bool (.var 39), .bool (.var 40), .bool (.var 41), .bool (.var 42), .int .u8 (.var 43), .int .u8 (.var 44), .int .u8 (.var 45), .int
 .u8 (.var 46), .int .u8 (.var 47), .int .u8 (.var 48), .int .u8 (.var 49), .int .u8 (.var 50)]), (29, [.int .i64 (.var 31), .int .u32 (.var 32),
 .var 33, .var 34, .bool (.var 35), .bool (.var 36), .bool (.var 37), .bool (.var 38), .bool (.var 39), .bool (.var 40), .bool (.var 41), .bool (.var 42), .int .u8 (.var
 43), .int .u8 (.var 44), .int .u8 (.var 45), .int .u8 (.var 46), .int .u8 (.var 47), .int .u8 (.var 48), .int .u8 (.var 49), .int .u8 (.var
 50)]), (28, [.int .i64 (.var 21), .int .u16 (.var 22), .int .u8 (.var 23), .int .u8 (.var 24), .int .u8 (.var 25), .int .u32 (.var 26)]), (27, [.int
 .i64 (.var 1), .int .u32 (.var 2), .var 3, .var 4, .bool (.var 5), .bool (.var 6), .bool (.var 7), .bool (.var 8), .bool (.var 9), .bool (.var 10), .bool (.var 11),
 .bool (.var 12), .int .u8 (.var 13), .int .u8 (.var 14), .int .u8 (.var 15), .int .u8 (.var 16), .int .u8 (.var 17), .int .u8 (.var 18), .int
 .u8 (.var 19), .int .u8 (.var 20)])]))))))) (.split (.eq (.var 21) (.lit 3)) (.start true [] [29, 28, 27] [(29, [.int .i64 (.lit 0), .int .u32 (.lit 0), .cst
 (.slice none 0 0), .cst (.slice none 0 0), .bool (.lit false), .bool (.lit false), .bool (.lit false), .bool (.lit false), .bool (.lit false), .bool (.lit false), .bool (.lit
 false), .bool (.lit false), .int .u8 (.lit 0), .int .u8 (.lit 0), .int .u8 (.lit 0), .int .u8 (.lit 0), .int .u8 (.lit 0), .int .u8 (.lit 0), .int
 .u8 (.lit 0), .int .u8 (.lit 0)]), (28, [.int .i64 (.var 21), .int .u16 (.var 22), .int .u8 (.var 23), .int .u8 (.var 24), .int .u8 (.var 25),
 .int .u32 (.var 26)]), (27, [.int .i64 (.var 1), .int .u32 (.var 2), .var 3, .var 4, .bool (.var 5), .bool (.var 6), .bool (.var 7), .bool (.var 8), .bool (.var
 9), .bool (.var 10), .bool (.var 11), .bool (.var 12), .int .u8 (.var 13), .int .u8 (.var 14), .int .u8 (.var 15), .int .u8 (.var 16), .int .u8 (.var
 17), .int .u8 (.var 18), .int .u8 (.var 19), .int .u8 (.var 20)])] (.call 52 [.agg [.int .i64 (.var 1), .int .u32 (.var 2), .var 3, .var 4, .bool (.var
 5), .bool (.var 6), .bool (.var 7), .bool (.var 8), .bool (.var 9), .bool (.var 10), .bool (.var 11), .bool (.var 12), .int .u8 (.var 13), .int .u8 (.var 14), .int
 .u8 (.var 15), .int .u8 (.var 16), .int .u8 (.var 17), .int .u8 (.var 18), .int .u8 (.var 19), .int .u8 (.var 20)], .int .u8 (.var 25)]
 [.int .i64, .int .u32, .slice, .slice, .bool, .bool, .bool, .bool, .bool, .bool, .bool, .bool, .int .u8, .int .u8, .int .u8,
 .int .u8, .int .u8, .int .u8, .int .u8, .int .u8] (.agg [.int .i64 (.var 30), .int .u32 (.var 31), .var 32, .var 33, .bool (.var
 34), .bool (.var 35), .bool (.var 36), .bool (.var 37), .bool (.var 38), .bool (.var 39), .bool (.var 40), .bool (.var 41), .int .u8 (.var 42), .int .u8 (.var 43),
 .int .u8 (.var 44), .int .u8 (.var 45), .int .u8 (.var 46), .int .u8 (.var 47), .int .u8 (.var 48), .int .u8 (.var 49)]) [] true [] [] [29, 28, 27] [(29,
 [.int .i64 (.lit 0), .int .u32 (.lit 0), .cst (.slice none 0 0), .cst (.slice none 0 0), .bool (.lit false), .bool (.lit false), .bool (.lit false), .bool (.lit
 false), .bool (.lit false), .bool (.lit false), .bool (.lit false), .bool (.lit false), .int .u8 (.lit 0), .int .u8 (.lit 0), .int .u8 (.lit 0), .int .u8 (.lit
 0), .int .u8 (.lit 0), .int .u8 (.lit 0), .int .u8 (.lit 0), .int .u8 (.lit 0)]), (28, [.int .i64 (.var 21), .int .u16 (.var 22), .int .u8
 (.var 23), .int .u8 (.var 24), .int .u8 (.var 25), .int .u32 (.var 26)]), (27, [.int .i64 (.var 1), .int .u32 (.var 2), .var 3, .var 4, .bool (.var 5),
 .bool (.var 6), .bool (.var 7), .bool (.var 8), .bool (.var 9), .bool (.var 10), .bool (.var 11), .bool (.var 12), .int .u8 (.var 13), .int .u8 (.var 14), .int
 .u8 (.var 15), .int .u8 (.var 16), .int .u8 (.var 17), .int .u8 (.var 18), .int .u8 (.var 19), .int .u8 (.var 20)])] (.call 23 [.var 0, .int
 .u8 (.var 25)] [.int .i64] (.int .i64 (.var 50)) [] true [] [] [29, 28, 27] [(29, [.int .i64 (.lit 0), .int .u32 (.lit 0), .cst (.slice none 0 0), .cst
 (.slice none 0 0), .bool (.lit false), .bool (.lit false), .bool (.lit false), .bool (.lit false), .bool (.lit false), .bool (.lit false), .bool (.lit false), .bool (.lit false),
 .int .u8 (.lit 0), .int .u8 (.lit 0), .int .u8 (.lit 0), .int .u8 (.lit 0), .int .u8 (.lit 0), .int .u8 (.lit 0), .int .u8 (.lit 0), .int
 .u8 (.lit 0)]), (28, [.int .i64 (.var 21), .int .u16 (.var 22), .int .u8 (.var 23), .int .u8 (.var 24), .int .u8 (.var 25), .int .u32 (.var
 26)]), (27, [.int .i64 (.var 1), .int .u32 (.var 2), .var 3, .var 4, .bool (.var 5), .bool (.var 6), .bool (.var 7), .bool (.var 8), .bool (.var 9), .bool (.var 10),
 .bool (.var 11), .bool (.var 12), .int .u8 (.var 13), .int .u8 (.var 14), .int .u8 (.var 15), .int .u8 (.var 16), .int .u8 (.var 17), .int .u8
 (.var 18), .int .u8 (.var 19), .int .u8 (.var 20)])] (.leaf 0 [.tuple [.agg [.int .i64 (.var 30), .int .u32 (.var 31), .var 32, .var 33, .bool (.var 34),
 .bool (.var 35), .bool (.var 36), .bool (.var 37), .bool (.var 38), .bool (.var 39), .bool (.var 40), .bool (.var 41), .int .u8 (.var 42), .int .u8 (.var 43), .int
 .u8 (.var 44), .int .u8 (.var 45), .int .u8 (.var 46), .int .u8 (.var 47), .int .u8 (.var 48), .int .u8 (.var 49)], .bool (.eq (.var 50) (.lit
 0))]] [29] [(29, [.int .i64 (.var 30), .int .u32 (.var 31), .var 32, .var 33, .bool (.var 34), .bool (.var 35), .bool (.var 36), .bool (.var 37), .bool (.var 38), .bool
 (.var 39), .bool (.var 40), .bool (.var 41), .int .u8 (.var 42), .int .u8 (.var 43), .int .u8 (.var 44), .int .u8 (.var 45), .int .u8 (.var 46), .int
 .u8 (.var 47), .int .u8 (.var 48), .int .u8 (.var 49)]), (28, [.int .i64 (.var 21), .int .u16 (.var 22), .int .u8 (.var 23), .int .u8 (.var 24),
 .int .u8 (.var 25), .int .u32 (.var 26)]), (27, [.int .i64 (.var 1), .int .u32 (.var 2), .var 3, .var 4, .bool (.var 5), .bool (.var 6), .bool (.var 7),
 .bool (.var 8), .bool (.var 9), .bool (.var 10), .bool (.var 11), .bool (.var 12), .int .u8 (.var 13), .int .u8 (.var 14), .int .u8 (.var 15), .int .u8
 (.var 16), .int .u8 (.var 17), .int .u8 (.var 18), .int .u8 (.var 19), .int .u8 (.var 20)])])))) (.split (.eq (.var 21) (.lit 4)) (.call 53 [.agg [.int
 .i64 (.var 1), .int .u32 (.var 2), .var 3, .var 4, .bool (.var 5), .bool (.var 6), .bool (.var 7), .bool (.var 8), .bool (.var 9), .bool (.var 10), .bool (.var 11),
 .bool (.var 12), .int .u8 (.var 13), .int .u8 (.var 14), .int .u8 (.var 15), .int .u8 (.var 16), .int .u8 (.var 17), .int .u8 (.var 18), .int
 .u8 (.var 19), .int .u8 (.var 20)], .int .u32 (.var 26)] [.int .i64, .int .u32, .slice, .slice, .bool, .bool, .bool, .bool, .bool,
 .bool, .bool, .bool, .int .u8, .int .u8, .int .u8, .int .u8, .int .u8, .int .u8, .int .u8, .int .u8] (.agg [.int
 .i64 (.var 30), .int .u32 (.var 31), .var 32, .var 33, .bool (.var 34), .bool (.var 35), .bool (.var 36), .bool (.var 37), .bool (.var 38), .bool (.var 39), .bool
 (.var 40), .bool (.var 41), .int .u8 (.var 42), .int .u8 (.var 43), .int .u8 (.var 44), .int .u8 (.var 45), .int .u8 (.var 46), .int .u8 (.var 47),
 .int .u8 (.var 48), .int .u8 (.var 49)]) [] false [] [] [29, 28, 27] [(29, [.int .i64 (.lit 0), .int .u32 (.lit 0), .cst (.slice none 0 0), .cst (.slice none 0
 0), .bool (.lit false), .bool (.lit false), .bool (.lit false), .bool (.lit false), .bool (.lit false), .bool (.lit false), .bool (.lit false), .bool (.lit false), .int .u8
 (.lit 0), .int .u8 (.lit 0), .int .u8 (.lit 0), .int .u8 (.lit 0), .int .u8 (.lit 0), .int .u8 (.lit 0), .int .u8 (.lit 0), .int .u8 (.lit
 0)]), (28, [.int .i64 (.var 21), .int .u16 (.var 22), .int .u8 (.var 23), .int .u8 (.var 24), .int .u8 (.var 25), .int .u32 (.var 26)]), (27, [.int
 .i64 (.var 1), .int .u32 (.var 2), .var 3, .var 4, .bool (.var 5), .bool (.var 6), .bool (.var 7), .bool (.var 8), .bool (.var 9), .bool (.var 10), .bool (.var 11),
 .bool (.var 12), .int .u8 (.var 13), .int .u8 (.var 14), .int .u8 (.var 15), .int .u8 (.var 16), .int .u8 (.var 17), .int .u8 (.var 18), .int
 .u8 (.var 19), .int .u8 (.var 20)])] (.blk (.start true [50] [50, 29, 28, 27] [(50, [.int .i64 (.var 30), .int .u32 (.var 31), .var 32, .var 33, .bool (.var 34),
 .bool (.var 35), .bool (.var 36), .bool (.var 37), .bool (.var 38), .bool (.var 39), .bool (.var 40), .bool (.var 41), .int .u8 (.var 42), .int .u8 (.var 43), .int
 .u8 (.var 44), .int .u8 (.var 45), .int .u8 (.var 46), .int .u8 (.var 47), .int .u8 (.var 48), .int .u8 (.var 49)]), (29, [.int .i64 (.lit 0),
 .int .u32 (.lit 0), .cst (.slice none 0 0), .cst (.slice none 0 0), .bool (.lit false), .bool (.lit false), .bool (.lit false), .bool (.lit false), .bool (.lit false),
 .bool (.lit false), .bool (.lit false), .bool (.lit false), .int .u8 (.lit 0), .int .u8 (.lit 0), .int .u8 (.lit 0), .int .u8 (.lit 0), .int .u8 (.lit
 0), .int .u8 (.lit 0), .int .u8 (.lit 0), .int .u8 (.lit 0)]), (28, [.int .i64 (.var 21), .int .u16 (.var 22), .int .u8 (.var 23), .int .u8
 (.var 24), .int .u8 (.var 25), .int .u32 (.var 26)]), (27, [.int .i64 (.var 1), .int .u32 (.var 2), .var 3, .var 4, .bool (.var 5), .bool (.var 6), .bool
 (.var 7), .bool (.var 8), .bool (.var 9), .bool (.var 10), .bool (.var 11), .bool (.var 12), .int .u8 (.var 13), .int .u8 (.var 14), .int .u8 (.var 15), .int
 .u8 (.var 16), .int .u8 (.var 17), .int .u8 (.var 18), .int .u8 (.var 19), .int .u8 (.var 20)])] (.call 18 [.var 0, .int .u32 (.var 26)] [.int
 .i64] (.int .i64 (.var 51)) [] true [] [] [50, 29, 28, 27] [(50, [.int .i64 (.var 30), .int .u32 (.var 31), .var 32, .var 33, .bool (.var 34), .bool (.var 35), .bool
 (.var 36), .bool (.var 37), .bool (.var 38), .bool (.var 39), .bool (.var 40), .bool (.var 41), .int .u8 (.var 42), .int .u8 (.var 43), .int .u8 (.var 44), .int
 .u8 (.var 45), .int .u8 (.var 46), .int .u8 (.var 47), .int .u8 (.var 48), .int .u8 (.var 49)]), (29, [.int .i64 (.lit 0), .int .u32 (.lit 0),
 .cst (.slice none 0 0), .cst (.slice none 0 0), .bool (.lit false), .bool (.lit false), .bool (.lit false), .bool (.lit false), .bool (.lit false), .bool (.lit false), .bool
 (.lit false), .bool (.lit false), .int .u8 (.lit 0), .int .u8 (.lit 0), .int .u8 (.lit 0), .int .u8 (.lit 0), .int .u8 (.lit 0), .int .u8 (.lit 0),
 .int .u8 (.lit 0), .int .u8 (.lit 0)]), (28, [.int .i64 (.var 21), .int .u16 (.var 22), .int .u8 (.var 23), .int .u8 (.var 24), .int .u8 (.var
 25), .int .u32 (.var 26)]), (27, [.int .i64 (.var 1), .int .u32 (.var 2), .var 3, .var 4, .bool (.var 5), .bool (.var 6), .bool (.var 7), .bool (.var 8), .bool
 (.var 9), .bool (.var 10), .bool (.var 11), .bool (.var 12), .int .u8 (.var 13), .int .u8 (.var 14), .int .u8 (.var 15), .int .u8 (.var 16), .int .u8
 (.var 17), .int .u8 (.var 18), .int .u8 (.var 19), .int .u8 (.var 20)])] (.split (.eq (.var 51) (.lit 0)) (.call 29 [.var 0, .agg [.int .i64 (.var 30), .int
 .u32 (.var 31), .var 32, .var 33, .bool (.var 34), .bool (.var 35), .bool (.var 36), .bool (.var 37), .bool (.var 38), .bool (.var 39), .bool (.var 40), .bool (.var 41),
 .int .u8 (.var 42), .int .u8 (.var 43), .int .u8 (.var 44), .int .u8 (.var 45), .int .u8 (.var 46), .int .u8 (.var 47), .int .u8 (.var 48),
 .int .u8 (.var 49)]] [.bool] (.bool (.var 52)) [] true [] [] [50, 29, 28, 27] [(50, [.int .i64 (.var 30), .int .u32 (.var 31), .var 32, .var 33, .bool (.var 34), .bool
 (.var 35), .bool (.var 36), .bool (.var 37), .bool (.var 38), .bool (.var 39), .bool (.var 40), .bool (.var 41), .int .u8 (.var 42), .int .u8 (.var 43), .int .u8
 (.var 44), .int .u8 (.var 45), .int .u8 (.var 46), .int .u8 (.var 47), .int .u8 (.var 48), .int .u8 (.var 49)]), (29, [.int .i64 (.lit 0), .int
 .u32 (.lit 0), .cst (.slice none 0 0), .cst (.slice none 0 0), .bool (.lit false), .bool (.lit false), .bool (.lit false), .bool (.lit false), .bool (.lit false), .bool
 (.lit false), .bool (.lit false), .bool (.lit false), .int .u8 (.lit 0), .int .u8 (.lit 0), .int .u8 (.lit 0), .int .u8 (.lit 0), .int .u8 (.lit 0),
 .int .u8 (.lit 0), .int .u8 (.lit 0), .int .u8 (.lit 0)]), (28, [.int .i64 (.var 21), .int .u16 (.var 22), .int .u8 (.var 23), .int .u8 (.var
 24), .int .u8 (.var 25), .int .u32 (.var 26)]), (27, [.int .i64 (.var 1), .int .u32 (.var 2), .var 3, .var 4, .bool (.var 5), .bool (.var 6), .bool (.var 7),
 .bool (.var 8), .bool (.var 9), .bool (.var 10), .bool (.var 11), .bool (.var 12), .int .u8 (.var 13), .int .u8 (.var 14), .int .u8 (.var 15), .int .u8
 (.var 16), .int .u8 (.var 17), .int .u8 (.var 18), .int .u8 (.var 19), .int .u8 (.var 20)])] (.leaf 0 [.tuple [.agg [.int .i64 (.var 30), .int .u32
 (.var 31), .var 32, .var 33, .bool (.var 34), .bool (.var 35), .bool (.var 36), .bool (.var 37), .bool (.var 38), .bool (.var 39), .bool (.var 40), .bool (.var 41), .int
 .u8 (.var 42), .int .u8 (.var 43), .int .u8 (.var 44), .int .u8 (.var 45), .int .u8 (.var 46), .int .u8 (.var 47), .int .u8 (.var 48), .int
 .u8 (.var 49)], .bool (.var 52)]] [29] [(50, [.int .i64 (.var 30), .int .u32 (.var 31), .var 32, .var 33, .bool (.var 34), .bool (.var 35), .bool (.var 36), .bool
 (.var 37), .bool (.var 38), .bool (.var 39), .bool (.var 40), .bool (.var 41), .int .u8 (.var 42), .int .u8 (.var 43), .int .u8 (.var 44), .int .u8 (.var
 45), .int .u8 (.var 46), .int .u8 (.var 47), .int .u8 (.var 48), .int .u8 (.var 49)]), (29, [.int .i64 (.var 30), .int .u32 (.var 31), .var 32, .var
 33, .bool (.var 34), .bool (.var 35), .bool (.var 36), .bool (.var 37), .bool (.var 38), .bool (.var 39), .bool (.var 40), .bool (.var 41), .int .u8 (.var 42), .int
 .u8 (.var 43), .int .u8 (.var 44), .int .u8 (.var 45), .int .u8 (.var 46), .int .u8 (.var 47), .int .u8 (.var 48), .int .u8 (.var 49)]), (28,
 [.int .i64 (.var 21), .int .u16 (.var 22), .int .u8 (.var 23), .int .u8 (.var 24), .int .u8 (.var 25), .int .u32 (.var 26)]), (27, [.int .i64
 (.var 1), .int .u32 (.var 2), .var 3, .var 4, .bool (.var 5), .bool (.var 6), .bool (.var 7), .bool (.var 8), .bool (.var 9), .bool (.var 10), .bool (.var 11), .bool
 (.var 12), .int .u8 (.var 13), .int .u8 (.var 14), .int .u8 (.var 15), .int .u8 (.var 16), .int .u8 (.var 17), .int .u8 (.var 18), .int .u8
 (.var 19), .int .u8 (.var 20)])])) (.leaf 0 [.tuple [.agg [.int .i64 (.var 30), .int .u32 (.var 31), .var 32, .var 33, .bool (.var 34), .bool (.var 35), .bool
 (.var 36), .bool (.var 37), .bool (.var 38), .bool (.var 39), .bool (.var 40), .bool (.var 41), .int .u8 (.var 42), .int .u8 (.var 43), .int .u8 (.var 44), .int
 .u8 (.var 45), .int .u8 (.var 46), .int .u8 (.var 47), .int .u8 (.var 48), .int .u8 (.var 49)], .bool (.lit false)]] [29] [(50, [.int .i64 (.var 30),
 .int .u32 (.var 31), .var 32, .var 33, .bool (.var 34), .bool (.var 35), .bool (.var 36), .bool (.var 37), .bool (.var 38), .bool (.var 39), .bool (.var 40), .bool (.var
 41), .int .u8 (.var 42), .int .u8 (.var 43), .int .u8 (.var 44), .int .u8 (.var 45), .int .u8 (.var 46), .int .u8 (.var 47), .int .u8 (.var
 48), .int .u8 (.var 49)]), (29, [.int .i64 (.var 30), .int .u32 (.var 31), .var 32, .var 33, .bool (.var 34), .bool (.var 35), .bool (.var 36), .bool (.var 37),
 .bool (.var 38), .bool (.var 39), .bool (.var 40), .bool (.var 41), .int .u8 (.var 42), .int .u8 (.var 43), .int .u8 (.var 44), .int .u8 (.var 45), .int
 .u8 (.var 46), .int .u8 (.var 47), .int .u8 (.var 48), .int .u8 (.var 49)]), (28, [.int .i64 (.var 21), .int .u16 (.var 22), .int .u8 (.var 23),
 .int .u8 (.var 24), .int .u8 (.var 25), .int .u32 (.var 26)]), (27, [.int .i64 (.var 1), .int .u32 (.var 2), .var 3, .var 4, .bool (.var 5), .bool (.var
 6), .bool (.var 7), .bool (.var 8), .bool (.var 9), .bool (.var 10), .bool (.var 11), .bool (.var 12), .int .u8 (.var 13), .int .u8 (.var 14), .int .u8 (.var 15),
 .int .u8 (.var 16), .int .u8 (.var 17), .int .u8 (.var 18), .int .u8 (.var 19), .int .u8 (.var 20)])])))))) (.split (.eq (.var 21) (.lit 5)) (.call 54
 [.agg [.int .i64 (.var 1), .int .u32 (.var 2), .var 3, .var 4, .bool (.var 5), .bool (.var 6), .bool (.var 7), .bool (.var 8), .bool (.var 9), .bool (.var 10), .bool
 (.var 11), .bool (.var 12), .int .u8 (.var 13), .int .u8 (.var 14), .int .u8 (.var 15), .int .u8 (.var 16), .int .u8 (.var 17), .int .u8 (.var 18),
 .int .u8 (.var 19), .int .u8 (.var 20)], .int .u16 (.var 22)] [.int .i64, .int .u32, .slice, .slice, .bool, .bool, .bool, .bool, .bool,
 .bool, .bool, .bool, .int .u8, .int .u8, .int .u8, .int .u8, .int .u8, .int .u8, .int .u8, .int .u8, .int
 .i64] (.tuple [.agg [.int .i64 (.var 30), .int .u32 (.var 31), .var 32, .var 33, .bool (.var 34), .bool (.var 35), .bool (.var 36), .bool (.var 37), .bool (.var
 38), .bool (.var 39), .bool (.var 40), .bool (.var 41), .int .u8 (.var 42), .int .u8 (.var 43), .int .u8 (.var 44), .int .u8 (.var 45), .int .u8 (.var
 46), .int .u8 (.var 47), .int .u8 (.var 48), .int .u8 (.var 49)], .int .i64 (.var 50)]) [] false [] [] [29, 28, 27] [(29, [.int .i64 (.lit 0), .int .u32
 (.lit 0), .cst (.slice none 0 0), .cst (.slice none 0 0), .bool (.lit false), .bool (.lit false), .bool (.lit false), .bool (.lit false), .bool (.lit false), .bool (.lit false),
 .bool (.lit false), .bool (.lit false), .int .u8 (.lit 0), .int .u8 (.lit 0), .int .u8 (.lit 0), .int .u8 (.lit 0), .int .u8 (.lit 0), .int .u8
 (.lit 0), .int .u8 (.lit 0), .int .u8 (.lit 0)]), (28, [.int .i64 (.var 21), .int .u16 (.var 22), .int .u8 (.var 23), .int .u8 (.var 24), .int
 .u8 (.var 25), .int .u32 (.var 26)]), (27, [.int .i64 (.var 1), .int .u32 (.var 2), .var 3, .var 4, .bool (.var 5), .bool (.var 6), .bool (.var 7), .bool
 (.var 8), .bool (.var 9), .bool (.var 10), .bool (.var 11), .bool (.var 12), .int .u8 (.var 13), .int .u8 (.var 14), .int .u8 (.var 15), .int .u8 (.var 16),
 .int .u8 (.var 17), .int .u8 (.var 18), .int .u8 (.var 19), .int .u8 (.var 20)])] (.blk (.start true [51] [51, 29, 28, 27] [(51, [.int .i64 (.var 30), .int
 .u32 (.var 31), .var 32, .var 33, .bool (.var 34), .bool (.var 35), .bool (.var 36), .bool (.var 37), .bool (.var 38), .bool (.var 39), .bool (.var 40), .bool (.var 41),
 .int .u8 (.var 42), .int .u8 (.var 43), .int .u8 (.var 44), .int .u8 (.var 45), .int .u8 (.var 46), .int .u8 (.var 47), .int .u8 (.var 48),
 .int .u8 (.var 49)]), (29, [.int .i64 (.lit 0), .int .u32 (.lit 0), .cst (.slice none 0 0), .cst (.slice none 0 0), .bool (.lit false), .bool (.lit false), .bool
 (.lit false), .bool (.lit false), .bool (.lit false), .bool (.lit false), .bool (.lit false), .bool (.lit false), .int .u8 (.lit 0), .int .u8 (.lit 0), .int .u8
 (.lit 0), .int .u8 (.lit 0), .int .u8 (.lit 0), .int .u8 (.lit 0), .int .u8 (.lit 0), .int .u8 (.lit 0)]), (28, [.int .i64 (.var 21), .int
 .u16 (.var 22), .int .u8 (.var 23), .int .u8 (.var 24), .int .u8 (.var 25), .int .u32 (.var 26)]), (27, [.int .i64 (.var 1), .int .u32 (.var 2),
 .var 3, .var 4, .bool (.var 5), .bool (.var 6), .bool (.var 7), .bool (.var 8), .bool (.var 9), .bool (.var 10), .bool (.var 11), .bool (.var 12), .int .u8 (.var 13),
 .int .u8 (.var 14), .int .u8 (.var 15), .int .u8 (.var 16), .int .u8 (.var 17), .int .u8 (.var 18), .int .u8 (.var 19), .int .u8 (.var 20)])]
 (.call 30 [.var 0, .int .u16 (.var 22)] [.int .i64] (.int .i64 (.var 52)) [] true [] [] [51, 29, 28, 27] [(51, [.int .i64 (.var 30), .int .u32 (.var 31), .var
 32, .var 33, .bool (.var 34), .bool (.var 35), .bool (.var 36), .bool (.var 37), .bool (.var 38), .bool (.var 39), .bool (.var 40), .bool (.var 41), .int .u8 (.var 42),
 .int .u8 (.var 43), .int .u8 (.var 44), .int .u8 (.var 45), .int .u8 (.var 46), .int .u8 (.var 47), .int .u8 (.var 48), .int .u8 (.var 49)]),
 (29, [.int .i64 (.lit 0), .int .u32 (.lit 0), .cst (.slice none 0 0), .cst (.slice none 0 0), .bool (.lit false), .bool (.lit false), .bool (.lit false), .bool (.lit
 false), .bool (.lit false), .bool (.lit false), .bool (.lit false), .bool (.lit false), .int .u8 (.lit 0), .int .u8 (.lit 0), .int .u8 (.lit 0), .int .u8 (.lit
 0), .int .u8 (.lit 0), .int .u8 (.lit 0), .int .u8 (.lit 0), .int .u8 (.lit 0)]), (28, [.int .i64 (.var 21), .int .u16 (.var 22), .int .u8
 (.var 23), .int .u8 (.var 24), .int .u8 (.var 25), .int .u32 (.var 26)]), (27, [.int .i64 (.var 1), .int .u32 (.var 2), .var 3, .var 4, .bool (.var 5),
 .bool (.var 6), .bool (.var 7), .bool (.var 8), .bool (.var 9), .bool (.var 10), .bool (.var 11), .bool (.var 12), .int .u8 (.var 13), .int .u8 (.var 14), .int
 .u8 (.var 15), .int .u8 (.var 16), .int .u8 (.var 17), .int .u8 (.var 18), .int .u8 (.var 19), .int .u8 (.var 20)])] (.split (.eq (.var 52) (.var
 50)) (.call 29 [.var 0, .agg [.int .i64 (.var 30), .int .u32 (.var 31), .var 32, .var 33, .bool (.var 34), .bool (.var 35), .bool (.var 36), .bool (.var 37), .bool
 (.var 38), .bool (.var 39), .bool (.var 40), .bool (.var 41), .int .u8 (.var 42), .int .u8 (.var 43), .int .u8 (.var 44), .int .u8 (.var 45), .int .u8
 (.var 46), .int .u8 (.var 47), .int .u8 (.var 48), .int .u8 (.var 49)]] [.bool] (.bool (.var 53)) [] true [] [] [51, 29, 28, 27] [(51, [.int .i64 (.var 30), .int
 .u32 (.var 31), .var 32, .var 33, .bool (.var 34), .bool (.var 35), .bool (.var 36), .bool (.var 37), .bool (.var 38), .bool (.var 39), .bool (.var 40), .bool (.var 41),
 .int .u8 (.var 42), .int .u8 (.var 43), .int .u8 (.var 44), .int .u8 (.var 45), .int .u8 (.var 46), .int .u8 (.var 47), .int .u8 (.var 48),
 .int .u8 (.var 49)]), (29, [.int .i64 (.lit 0), .int .u32 (.lit 0), .cst (.slice none 0 0), .cst (.slice none 0 0), .bool (.lit false), .bool (.lit false), .bool
 (.lit false), .bool (.lit false), .bool (.lit false), .bool (.lit false), .bool (.lit false), .bool (.lit false), .int .u8 (.lit 0), .int .u8 (.lit 0), .int .u8
 (.lit 0), .int .u8 (.lit 0), .int .u8 (.lit 0), .int .u8 (.lit 0), .int .u8 (.lit 0), .int .u8 (.lit 0)]), (28, [.int .i64 (.var 21), .int
 .u16 (.var 22), .int .u8 (.var 23), .int .u8 (.var 24), .int .u8 (.var 25), .int .u32 (.var 26)]), (27, [.int .i64 (.var 1), .int .u32 (.var 2),
 .var 3, .var 4, .bool (.var 5), .bool (.var 6), .bool (.var 7), .bool (.var 8), .bool (.var 9), .bool (.var 10), .bool (.var 11), .bool (.var 12), .int .u8 (.var 13),
 .int .u8 (.var 14), .int .u8 (.var 15), .int .u8 (.var 16), .int .u8 (.var 17), .int .u8 (.var 18), .int .u8 (.var 19), .int .u8 (.var 20)])]
 (.leaf 0 [.tuple [.agg [.int .i64 (.var 30), .int .u32 (.var 31), .var 32, .var 33, .bool (.var 34), .bool (.var 35), .bool (.var 36), .bool (.var 37), .bool (.var
 38), .bool (.var 39), .bool (.var 40), .bool (.var 41), .int .u8 (.var 42), .int .u8 (.var 43), .int .u8 (.var 44), .int .u8 (.var 45), .int .u8 (.var
 46), .int .u8 (.var 47), .int .u8 (.var 48), .int .u8 (.var 49)], .bool (.var 53)]] [29] [(51, [.int .i64 (.var 30), .int .u32 (.var 31), .var 32, .var 33,
 .bool (.var 34), .bool (.var 35), .bool (.var 36), .bool (.var 37), .bool (.var 38), .bool (.var 39), .bool (.var 40), .bool (.var 41), .int .u8 (.var 42), .int .u8
 (.var 43), .int .u8 (.var 44), .int .u8 (.var 45), .int .u8 (.var 46), .int .u8 (.var 47), .int .u8 (.var 48), .int .u8 (.var 49)]), (29, [.int
 .i64 (.var 30), .int .u32 (.var 31), .var 32, .var 33, .bool (.var 34), .bool (.var 35), .bool (.var 36), .bool (.var 37), .bool (.var 38), .bool (.var 39), .bool
 (.var 40), .bool (.var 41), .int .u8 (.var 42), .int .u8 (.var 43), .int .u8 (.var 44), .int .u8 (.var 45), .int .u8 (.var 46), .int .u8 (.var 47),
 .int .u8 (.var 48), .int .u8 (.var 49)]), (28, [.int .i64 (.var 21), .int .u16 (.var 22), .int .u8 (.var 23), .int .u8 (.var 24), .int .u8
 (.var 25), .int .u32 (.var 26)]), (27, [.int .i64 (.var 1), .int .u32 (.var 2), .var 3, .var 4, .bool (.var 5), .bool (.var 6), .bool (.var 7), .bool (.var 8),
 .bool (.var 9), .bool (.var 10), .bool (.var 11), .bool (.var 12), .int .u8 (.var 13), .int .u8 (.var 14), .int .u8 (.var 15), .int .u8 (.var 16), .int
 .u8 (.var 17), .int .u8 (.var 18), .int .u8 (.var 19), .int .u8 (.var 20)])])) (.leaf 0 [.tuple [.agg [.int .i64 (.var 30), .int .u32 (.var 31),
 .var 32, .var 33, .bool (.var 34), .bool (.var 35), .bool (.var 36), .bool (.var 37), .bool (.var 38), .bool (.var 39), .bool (.var 40), .bool (.var 41), .int .u8 (.var
 42), .int .u8 (.var 43), .int .u8 (.var 44), .int .u8 (.var 45), .int .u8 (.var 46), .int .u8 (.var 47), .int .u8 (.var 48), .int .u8 (.var
 49)], .bool (.lit false)]] [29] [(51, [.int .i64 (.var 30), .int .u32 (.var 31), .var 32, .var 33, .bool (.var 34), .bool (.var 35), .bool (.var 36), .bool (.var 37),
 .bool (.var 38), .bool (.var 39), .bool (.var 40), .bool (.var 41), .int .u8 (.var 42), .int .u8 (.var 43), .int .u8 (.var 44), .int .u8 (.var 45), .int
 .u8 (.var 46), .int .u8 (.var 47), .int .u8 (.var 48), .int .u8 (.var 49)]), (29, [.int .i64 (.var 30), .int .u32 (.var 31), .var 32, .var 33, .bool
 (.var 34), .bool (.var 35), .bool (.var 36), .bool (.var 37), .bool (.var 38), .bool (.var 39), .bool (.var 40), .bool (.var 41), .int .u8 (.var 42), .int .u8 (.var
 43), .int .u8 (.var 44), .int .u8 (.var 45), .int .u8 (.var 46), .int .u8 (.var 47), .int .u8 (.var 48), .int .u8 (.var 49)]), (28, [.int .i64
 (.var 21), .int .u16 (.var 22), .int .u8 (.var 23), .int .u8 (.var 24), .int .u8 (.var 25), .int .u32 (.var 26)]), (27, [.int .i64 (.var 1), .int
 .u32 (.var 2), .var 3, .var 4, .bool (.var 5), .bool (.var 6), .bool (.var 7), .bool (.var 8), .bool (.var 9), .bool (.var 10), .bool (.var 11), .bool (.var 12), .int
 .u8 (.var 13), .int .u8 (.var 14), .int .u8 (.var 15), .int .u8 (.var 16), .int .u8 (.var 17), .int .u8 (.var 18), .int .u8 (.var 19), .int
 .u8 (.var 20)])])))))) (.split (.eq (.var 21) (.lit 6)) (.blk (.start true [30] [30, 29, 28, 27] [(30, [.int .i64 (.var 1), .int .u32 (.lit 0), .cst (.slice none 0 0),
 .cst (.slice none 0 0), .bool (.lit false), .bool (.lit false), .bool (.lit false), .bool (.lit false), .bool (.lit false), .bool (.lit false), .bool (.lit false), .bool (.lit
 false), .int .u8 (.lit 0), .int .u8 (.lit 0), .int .u8 (.lit 0), .int .u8 (.lit 0), .int .u8 (.lit 0), .int .u8 (.lit 0), .int .u8 (.lit 0),
 .int .u8 (.lit 0)]), (29, [.int .i64 (.lit 0), .int .u32 (.lit 0), .cst (.slice none 0 0), .cst (.slice none 0 0), .bool (.lit false), .bool (.lit false), .bool
 (.lit false), .bool (.lit false), .bool (.lit false), .bool (.lit false), .bool (.lit false), .bool (.lit false), .int .u8 (.lit 0), .int .u8 (.lit 0), .int .u8
 (.lit 0), .int .u8 (.lit 0), .int .u8 (.lit 0), .int .u8 (.lit 0), .int .u8 (.lit 0), .int .u8 (.lit 0)]), (28, [.int .i64 (.var 21), .int
 .u16 (.var 22), .int .u8 (.var 23), .int .u8 (.var 24), .int .u8 (.var 25), .int .u32 (.var 26)]), (27, [.int .i64 (.var 1), .int .u32 (.var 2),
 .var 3, .var 4, .bool (.var 5), .bool (.var 6), .bool (.var 7), .bool (.var 8), .bool (.var 9), .bool (.var 10), .bool (.var 11), .bool (.var 12), .int .u8 (.var 13),
 .int .u8 (.var 14), .int .u8 (.var 15), .int .u8 (.var 16), .int .u8 (.var 17), .int .u8 (.var 18), .int .u8 (.var 19), .int .u8 (.var 20)])]
 (.call 27 [.var 0] [.int .i64] (.int .i64 (.var 31)) [] true [] [] [30, 29, 28, 27] [(30, [.int .i64 (.var 1), .int .u32 (.lit 0), .cst (.slice none 0 0), .cst
 (.slice none 0 0), .bool (.lit false), .bool (.lit false), .bool (.lit false), .bool (.lit false), .bool (.lit false), .bool (.lit false), .bool (.lit false), .bool (.lit false),
 .int .u8 (.lit 0), .int .u8 (.lit 0), .int .u8 (.lit 0), .int .u8 (.lit 0), .int .u8 (.lit 0), .int .u8 (.lit 0), .int .u8 (.lit 0), .int
 .u8 (.lit 0)]), (29, [.int .i64 (.lit 0), .int .u32 (.lit 0), .cst (.slice none 0 0), .cst (.slice none 0 0), .bool (.lit false), .bool (.lit false), .bool (.lit
 false), .bool (.lit false), .bool (.lit false), .bool (.lit false), .bool (.lit false), .bool (.lit false), .int .u8 (.lit 0), .int .u8 (.lit 0), .int .u8 (.lit 0),
 .int .u8 (.lit 0), .int .u8 (.lit 0), .int .u8 (.lit 0), .int .u8 (.lit 0), .int .u8 (.lit 0)]), (28, [.int .i64 (.var 21), .int .u16 (.var
 22), .int .u8 (.var 23), .int .u8 (.var 24), .int .u8 (.var 25), .int .u32 (.var 26)]), (27, [.int .i64 (.var 1), .int .u32 (.var 2), .var 3, .var 4,
 .bool (.var 5), .bool (.var 6), .bool (.var 7), .bool (.var 8), .bool (.var 9), .bool (.var 10), .bool (.var 11), .bool (.var 12), .int .u8 (.var 13), .int .u8 (.var
 14), .int .u8 (.var 15), .int .u8 (.var 16), .int .u8 (.var 17), .int .u8 (.var 18), .int .u8 (.var 19), .int .u8 (.var 20)])] (.split (.eq (.var
 31) (.lit 0)) (.call 29 [.var 0, .agg [.int .i64 (.var 1), .int .u32 (.lit 0), .cst (.slice none 0 0), .cst (.slice none 0 0), .bool (.lit false), .bool (.lit false),
 .bool (.lit false), .bool (.lit false), .bool (.lit false), .bool (.lit false), .bool (.lit false), .bool (.lit false), .int .u8 (.lit 0), .int .u8 (.lit 0), .int
 .u8 (.lit 0), .int .u8 (.lit 0), .int .u8 (.lit 0), .int .u8 (.lit 0), .int .u8 (.lit 0), .int .u8 (.lit 0)]] [.bool] (.bool (.var 32)) [] true []
 [] [30, 29, 28, 27] [(30, [.int .i64 (.var 1), .int .u32 (.lit 0), .cst (.slice none 0 0), .cst (.slice none 0 0), .bool (.lit false), .bool (.lit false), .bool (.lit
 false), .bool (.lit false), .bool (.lit false), .bool (.lit false), .bool (.lit false), .bool (.lit false), .int .u8 (.lit 0), .int .u8 (.lit 0), .int .u8 (.lit 0),
 .int .u8 (.lit 0), .int .u8 (.lit 0), .int .u8 (.lit 0), .int .u8 (.lit 0), .int .u8 (.lit 0)]), (29, [.int .i64 (.lit 0), .int .u32 (.lit 0),
 .cst (.slice none 0 0), .cst (.slice none 0 0), .bool (.lit false), .bool (.lit false), .bool (.lit false), .bool (.lit false), .bool (.lit false), .bool (.lit false), .bool
 (.lit false), .bool (.lit false), .int .u8 (.lit 0), .int .u8 (.lit 0), .int .u8 (.lit 0), .int .u8 (.lit 0), .int .u8 (.lit 0), .int .u8 (.lit 0),
 .int .u8 (.lit 0), .int .u8 (.lit 0)]), (28, [.int .i64 (.var 21), .int .u16 (.var 22), .int .u8 (.var 23), .int .u8 (.var 24), .int .u8 (.var
 25), .int .u32 (.var 26)]), (27, [.int .i64 (.var 1), .int .u32 (.var 2), .var 3, .var 4, .bool (.var 5), .bool (.var 6), .bool (.var 7), .bool (.var 8), .bool
 (.var 9), .bool (.var 10), .bool (.var 11), .bool (.var 12), .int .u8 (.var 13), .int .u8 (.var 14), .int .u8 (.var 15), .int .u8 (.var 16), .int .u8
 (.var 17), .int .u8 (.var 18), .int .u8 (.var 19), .int .u8 (.var 20)])] (.leaf 0 [.tuple [.agg [.int .i64 (.var 1), .int .u32 (.lit 0), .cst (.slice
 none 0 0), .cst (.slice none 0 0), .bool (.lit false), .bool (.lit false), .bool (.lit false), .bool (.lit false), .bool (.lit false), .bool (.lit false), .bool (.lit false), .bool
 (.lit false), .int .u8 (.lit 0), .int .u8 (.lit 0), .int .u8 (.lit 0), .int .u8 (.lit 0), .int .u8 (.lit 0), .int .u8 (.lit 0), .int .u8
 (.lit 0), .int .u8 (.lit 0)], .bool (.var 32)]] [29] [(30, [.int .i64 (.var 1), .int .u32 (.lit 0), .cst (.slice none 0 0), .cst (.slice none 0 0), .bool (.lit
 false), .bool (.lit false), .bool (.lit false), .bool (.lit false), .bool (.lit false), .bool (.lit false), .bool (.lit false), .bool (.lit false), .int .u8 (.lit 0), .int
 .u8 (.lit 0), .int .u8 (.lit 0), .int .u8 (.lit 0), .int .u8 (.lit 0), .int .u8 (.lit 0), .int .u8 (.lit 0), .int .u8 (.lit 0)]), (29, [.int
 .i64 (.var 1), .int .u32 (.lit 0), .cst (.slice none 0 0), .cst (.slice none 0 0), .bool (.lit false), .bool (.lit false), .bool (.lit false), .bool (.lit false),
 .bool (.lit false), .bool (.lit false), .bool (.lit false), .bool (.lit false), .int .u8 (.lit 0), .int .u8 (.lit 0), .int .u8 (.lit 0), .int .u8 (.lit 0),
 .int .u8 (.lit 0), .int .u8 (.lit 0), .int .u8 (.lit 0), .int .u8 (.lit 0)]), (28, [.int .i64 (.var 21), .int .u16 (.var 22), .int .u8 (.var
 23), .int .u8 (.var 24), .int .u8 (.var 25), .int .u32 (.var 26)]), (27, [.int .i64 (.var 1), .int .u32 (.var 2), .var 3, .var 4, .bool (.var 5), .bool
 (.var 6), .bool (.var 7), .bool (.var 8), .bool (.var 9), .bool (.var 10), .bool (.var 11), .bool (.var 12), .int .u8 (.var 13), .int .u8 (.var 14), .int .u8
 (.var 15), .int .u8 (.var 16), .int .u8 (.var 17), .int .u8 (.var 18), .int .u8 (.var 19), .int .u8 (.var 20)])])) (.leaf 0 [.tuple [.agg [.int
 .i64 (.var 1), .int .u32 (.lit 0), .cst (.slice none 0 0), .cst (.slice none 0 0), .bool (.lit false), .bool (.lit false), .bool (.lit false), .bool (.lit false),
 .bool (.lit false), .bool (.lit false), .bool (.lit false), .bool (.lit false), .int .u8 (.lit 0), .int .u8 (.lit 0), .int .u8 (.lit 0), .int .u8 (.lit 0),
 .int .u8 (.lit 0), .int .u8 (.lit 0), .int .u8 (.lit 0), .int .u8 (.lit 0)], .bool (.lit false)]] [29] [(30, [.int .i64 (.var 1), .int .u32 (.lit 0),
 .cst (.slice none 0 0), .cst (.slice none 0 0), .bool (.lit false), .bool (.lit false), .bool (.lit false), .bool (.lit false), .bool (.lit false), .bool (.lit false), .bool
 (.lit false), .bool (.lit false), .int .u8 (.lit 0), .int .u8 (.lit 0), .int .u8 (.lit 0), .int .u8 (.lit 0), .int .u8 (.lit 0), .int .u8 (.lit 0),
 .int .u8 (.lit 0), .int .u8 (.lit 0)]), (29, [.int .i64 (.var 1), .int .u32 (.lit 0), .cst (.slice none 0 0), .cst (.slice none 0 0), .bool (.lit false),
 .bool (.lit false), .bool (.lit false), .bool (.lit false), .bool (.lit false), .bool (.lit false), .bool (.lit false), .bool (.lit false), .int .u8 (.lit 0), .int .u8
 (.lit 0), .int .u8 (.lit 0), .int .u8 (.lit 0), .int .u8 (.lit 0), .int .u8 (.lit 0), .int .u8 (.lit 0), .int .u8 (.lit 0)]), (28, [.int .i64
 (.var 21), .int .u16 (.var 22), .int .u8 (.var 23), .int .u8 (.var 24), .int .u8 (.var 25), .int .u32 (.var 26)]), (27, [.int .i64 (.var 1), .int
 .u32 (.var 2), .var 3, .var 4, .bool (.var 5), .bool (.var 6), .bool (.var 7), .bool (.var 8), .bool (.var 9), .bool (.var 10), .bool (.var 11), .bool (.var 12), .int
 .u8 (.var 13), .int .u8 (.var 14), .int .u8 (.var 15), .int .u8 (.var 16), .int .u8 (.var 17), .int .u8 (.var 18), .int .u8 (.var 19), .int
 .u8 (.var 20)])]))))) (.leaf 0 [.tuple [.agg [.int .i64 (.var 1), .int .u32 (.var 2), .var 3, .var 4, .bool (.var 5), .bool (.var 6), .bool (.var 7), .bool (.var
 8), .bool (.var 9), .bool (.var 10), .bool (.var 11), .bool (.var 12), .int .u8 (.var 13), .int .u8 (.var 14), .int .u8 (.var 15), .int .u8 (.var 16), .int
 .u8 (.var 17), .int .u8 (.var 18), .int .u8 (.var 19), .int .u8 (.var 20)], .bool (.lit true)]] [29] [(29, [.int .i64 (.var 1), .int .u32 (.var 2),
 .var 3, .var 4, .bool (.var 5), .bool (.var 6), .bool (.var 7), .bool (.var 8), .bool (.var 9), .bool (.var 10), .bool (.var 11), .bool (.var 12), .int .u8 (.var 13),
 .int .u8 (.var 14), .int .u8 (.var 15), .int .u8 (.var 16), .int .u8 (.var 17), .int .u8 (.var 18), .int .u8 (.var 19), .int .u8 (.var 20)]),
 (28, [.int .i64 (.var 21), .int .u16 (.var 22), .int .u8 (.var 23), .int .u8 (.var 24), .int .u8 (.var 25), .int .u32 (.var 26)]), (27, [.int
 .i64 (.var 1), .int .u32 (.var 2), .var 3, .var 4, .bool (.var 5), .bool (.var 6), .bool (.var 7), .bool (.var 8), .bool (.var 9), .bool (.var 10), .bool (.var 11),
 .bool (.var 12), .int .u8 (.var 13), .int .u8 (.var 14), .int .u8 (.var 15), .int .u8 (.var 16), .int .u8 (.var 17), .int .u8 (.var 18), .int
 .u8 (.var 19), .int .u8 (.var 20)])])))))))))) := by kernel_rfl

theorem t16 : exFn { P := Try.prog } 16 [] [] [] = .call 17 [.int .i64 (.lit 1)] [.ptr, .int .i64] (.tuple [.var 0, .int .i64 (.var 1)]) [] false [] [] [] [] (.split (.not
 (.eq (.var 1) (.lit 0))) (.leaf 0 [.bool (.lit false)] [] []) (.call 20 [.var 0, .int .u16 (.lit 7)] [.int .u8, .int .u8, .bool, .bool] (.agg [.int .u8
 (.var 2), .int .u8 (.var 3), .bool (.var 4), .bool (.var 5)]) [] false [] [] [] [] (.call 20 [.var 0, .int .u16 (.lit 8)] [.int .u8, .int .u8, .bool,
 .bool] (.agg [.int .u8 (.var 6), .int .u8 (.var 7), .bool (.var 8), .bool (.var 9)]) [] false [] [] [] [] (.blk (.blk (.call 21 [.var 0, .agg [.int .u8 (.lit 0),
 .int .u8 (.lit 3), .int .u8 (.lit 1)]] [.bool, .int .i64] (.tuple [.bool (.var 12), .int .i64 (.var 13)]) [] false [11, 10] [] [11, 10] [(11, [.int .u8
 (.var 6), .int .u8 (.var 7), .bool (.var 8), .bool (.var 9)]), (10, [.int .u8 (.var 2), .int .u8 (.var 3), .bool (.var 4), .bool (.var 5)])] (.call 19 [.agg [.int
 .u8 (.var 2), .int .u8 (.var 3), .bool (.var 4), .bool (.var 5)], .int .i64 (.lit 0)] [.bool] (.bool (.var 14)) [] false [] [] [11, 10] [(11, [.int .u8 (.var 6),
 .int .u8 (.var 7), .bool (.var 8), .bool (.var 9)]), (10, [.int .u8 (.var 2), .int .u8 (.var 3), .bool (.var 4), .bool (.var 5)])] (.split (.not (.var 14)) (.leaf
 0 [.bool (.lit false)] [] [(11, [.int .u8 (.var 6), .int .u8 (.var 7), .bool (.var 8), .bool (.var 9)]), (10, [.int .u8 (.var 2), .int .u8 (.var 3), .bool
 (.var 4), .bool (.var 5)])]) (.call 19 [.agg [.int .u8 (.var 6), .int .u8 (.var 7), .bool (.var 8), .bool (.var 9)], .int .i64 (.lit 261)] [.bool] (.bool (.var
 15)) [] false [] [] [11, 10] [(11, [.int .u8 (.var 6), .int .u8 (.var 7), .bool (.var 8), .bool (.var 9)]), (10, [.int .u8 (.var 2), .int .u8 (.var 3), .bool (.var
 4), .bool (.var 5)])] (.split (.not (.var 15)) (.leaf 0 [.bool (.lit false)] [] [(11, [.int .u8 (.var 6), .int .u8 (.var 7), .bool (.var 8), .bool (.var 9)]), (10, [.int
 .u8 (.var 2), .int .u8 (.var 3), .bool (.var 4), .bool (.var 5)])]) (.split (.not (.var 12)) (.leaf 0 [.bool (.lit false)] [] [(11, [.int .u8 (.var 6), .int
 .u8 (.var 7), .bool (.var 8), .bool (.var 9)]), (10, [.int .u8 (.var 2), .int .u8 (.var 3), .bool (.var 4), .bool (.var 5)])]) (.split (.not (.eq (.var 13) (.lit
 0))) (.leaf 0 [.bool (.lit false)] [] [(11, [.int .u8 (.var 6), .int .u8 (.var 7), .bool (.var 8), .bool (.var 9)]), (10, [.int .u8 (.var 2), .int .u8 (.var 3),
 .bool (.var 4), .bool (.var 5)])]) (.call 22 [.var 0] [.slice] (.var 16) [] false [] [] [11, 10] [(11, [.int .u8 (.var 6), .int .u8 (.var 7), .bool (.var 8), .bool (.var
 9)]), (10, [.int .u8 (.var 2), .int .u8 (.var 3), .bool (.var 4), .bool (.var 5)])] (.blk (.call 32 [.var 16, .slc 17 0 1 1] [.bool] (.bool (.var 18)) [] false [] [] [17,
 11, 10] [(17, [.int .u16 (.lit 7), .int .u32 (.lit 66304)]), (11, [.int .u8 (.var 6), .int .u8 (.var 7), .bool (.var 8), .bool (.var 9)]), (10, [.int .u8
 (.var 2), .int .u8 (.var 3), .bool (.var 4), .bool (.var 5)])] (.split (.not (.var 18)) (.leaf 0 [.bool (.lit false)] [] [(17, [.int .u16 (.lit 7), .int .u32 (.lit
 66304)]), (11, [.int .u8 (.var 6), .int .u8 (.var 7), .bool (.var 8), .bool (.var 9)]), (10, [.int .u8 (.var 2), .int .u8 (.var 3), .bool (.var 4), .bool (.var
 5)])]) (.call 20 [.var 0, .int .u16 (.lit 7)] [.int .u8, .int .u8, .bool, .bool] (.agg [.int .u8 (.var 19), .int .u8 (.var 20), .bool (.var 21),
 .bool (.var 22)]) [] false [] [] [17, 11, 10] [(17, [.int .u16 (.lit 7), .int .u32 (.lit 66304)]), (11, [.int .u8 (.var 6), .int .u8 (.var 7), .bool (.var 8), .bool
 (.var 9)]), (10, [.int .u8 (.var 2), .int .u8 (.var 3), .bool (.var 4), .bool (.var 5)])] (.blk (.call 21 [.var 0, .agg [.int .u8 (.lit 0), .int .u8 (.lit
 4), .int .u8 (.lit 1)]] [.bool, .int .i64] (.tuple [.bool (.var 24), .int .i64 (.var 25)]) [] false [23] [] [23, 17, 11, 10] [(23, [.int .u8 (.var 19), .int
 .u8 (.var 20), .bool (.var 21), .bool (.var 22)]), (17, [.int .u16 (.lit 7), .int .u32 (.lit 66304)]), (11, [.int .u8 (.var 6), .int .u8 (.var 7), .bool
 (.var 8), .bool (.var 9)]), (10, [.int .u8 (.var 2), .int .u8 (.var 3), .bool (.var 4), .bool (.var 5)])] (.call 19 [.agg [.int .u8 (.var 19), .int .u8 (.var
 20), .bool (.var 21), .bool (.var 22)], .int .i64 (.lit 0)] [.bool] (.bool (.var 26)) [] false [] [] [23, 17, 11, 10] [(23, [.int .u8 (.var 19), .int .u8 (.var 20),
 .bool (.var 21), .bool (.var 22)]), (17, [.int .u16 (.lit 7), .int .u32 (.lit 66304)]), (11, [.int .u8 (.var 6), .int .u8 (.var 7), .bool (.var 8), .bool (.var
 9)]), (10, [.int .u8 (.var 2), .int .u8 (.var 3), .bool (.var 4), .bool (.var 5)])] (.split (.not (.var 26)) (.leaf 0 [.bool (.lit false)] [] [(23, [.int .u8 (.var
 19), .int .u8 (.var 20), .bool (.var 21), .bool (.var 22)]), (17, [.int .u16 (.lit 7), .int .u32 (.lit 66304)]), (11, [.int .u8 (.var 6), .int .u8 (.var 7),
 .bool (.var 8), .bool (.var 9)]), (10, [.int .u8 (.var 2), .int .u8 (.var 3), .bool (.var 4), .bool (.var 5)])]) (.split (.not (.var 24)) (.leaf 0 [.bool (.lit false)]
 [] [(23, [.int .u8 (.var 19), .int .u8 (.var 20), .bool (.var 21), .bool (.var 22)]), (17, [.int .u16 (.lit 7), .int .u32 (.lit 66304)]), (11, [.int .u8
 (.var 6), .int .u8 (.var 7), .bool (.var 8), .bool (.var 9)]), (10, [.int .u8 (.var 2), .int .u8 (.var 3), .bool (.var 4), .bool (.var 5)])]) (.split (.not (.eq
 (.var 25) (.lit 0))) (.leaf 0 [.bool (.lit false)] [] [(23, [.int .u8 (.var 19), .int .u8 (.var 20), .bool (.var 21), .bool (.var 22)]), (17, [.int .u16 (.lit 7),
 .int .u32 (.lit 66304)]), (11, [.int .u8 (.var 6), .int .u8 (.var 7), .bool (.var 8), .bool (.var 9)]), (10, [.int .u8 (.var 2), .int .u8 (.var 3), .bool
 (.var 4), .bool (.var 5)])]) (.call 22 [.var 0] [.slice] (.var 27) [] false [] [] [23, 17, 11, 10] [(23, [.int .u8 (.var 19), .int .u8 (.var 20), .bool (.var 21), .bool
 (.var 22)]), (17, [.int .u16 (.lit 7), .int .u32 (.lit 66304)]), (11, [.int .u8 (.var 6), .int .u8 (.var 7), .bool (.var 8), .bool (.var 9)]), (10, [.int
 .u8 (.var 2), .int .u8 (.var 3), .bool (.var 4), .bool (.var 5)])] (.split (.not (.eq (.len 27) (.lit 0))) (.leaf 0 [.bool (.lit false)] [] [(23, [.int .u8 (.var
 19), .int .u8 (.var 20), .bool (.var 21), .bool (.var 22)]), (17, [.int .u16 (.lit 7), .int .u32 (.lit 66304)]), (11, [.int .u8 (.var 6), .int .u8 (.var 7),
 .bool (.var 8), .bool (.var 9)]), (10, [.int .u8 (.var 2), .int .u8 (.var 3), .bool (.var 4), .bool (.var 5)])]) (.call 23 [.var 0, .int .u8 (.lit 1)] [.int
 .i64] (.int .i64 (.var 28)) [] false [] [] [23, 17, 11, 10] [(23, [.int .u8 (.var 19), .int .u8 (.var 20), .bool (.var 21), .bool (.var 22)]), (17, [.int .u16
 (.lit 7), .int .u32 (.lit 66304)]), (11, [.int .u8 (.var 6), .int .u8 (.var 7), .bool (.var 8), .bool (.var 9)]), (10, [.int .u8 (.var 2), .int .u8 (.var
 3), .bool (.var 4), .bool (.var 5)])] (.split (.not (.eq (.var 28) (.lit 0))) (.leaf 0 [.bool (.lit false)] [] [(23, [.int .u8 (.var 19), .int .u8 (.var 20), .bool (.var
 21), .bool (.var 22)]), (17, [.int .u16 (.lit 7), .int .u32 (.lit 66304)]), (11, [.int .u8 (.var 6), .int .u8 (.var 7), .bool (.var 8), .bool (.var 9)]), (10,
 [.int .u8 (.var 2), .int .u8 (.var 3), .bool (.var 4), .bool (.var 5)])]) (.call 22 [.var 0] [.slice] (.var 29) [] false [] [] [23, 17, 11, 10] [(23, [.int .u8 (.var
 19), .int .u8 (.var 20), .bool (.var 21), .bool (.var 22)]), (17, [.int .u16 (.lit 7), .int .u32 (.lit 66304)]), (11, [.int .u8 (.var 6), .int .u8 (.var 7),
 .bool (.var 8), .bool (.var 9)]), (10, [.int .u8 (.var 2), .int .u8 (.var 3), .bool (.var 4), .bool (.var 5)])] (.blk (.call 32 [.var 29, .slc 30 0 1 1] [.bool] (.bool
 (.var 31)) [] false [] [] [30, 23, 17, 11, 10] [(30, [.int .u16 (.lit 7), .int .u32 (.lit 66560)]), (23, [.int .u8 (.var 19), .int .u8 (.var 20), .bool (.var 21),
 .bool (.var 22)]), (17, [.int .u16 (.lit 7), .int .u32 (.lit 66304)]), (11, [.int .u8 (.var 6), .int .u8 (.var 7), .bool (.var 8), .bool (.var 9)]), (10, [.int
 .u8 (.var 2), .int .u8 (.var 3), .bool (.var 4), .bool (.var 5)])] (.split (.not (.var 31)) (.leaf 0 [.bool (.lit false)] [] [(30, [.int .u16 (.lit 7), .int
 .u32 (.lit 66560)]), (23, [.int .u8 (.var 19), .int .u8 (.var 20), .bool (.var 21), .bool (.var 22)]), (17, [.int .u16 (.lit 7), .int .u32 (.lit 66304)]),
 (11, [.int .u8 (.var 6), .int .u8 (.var 7), .bool (.var 8), .bool (.var 9)]), (10, [.int .u8 (.var 2), .int .u8 (.var 3), .bool (.var 4), .bool (.var 5)])])
 (.call 21 [.var 0, .agg [.int .u8 (.lit 2), .int .u8 (.lit 0), .int .u8 (.lit 4)]] [.bool, .int .i64] (.tuple [.bool (.var 32), .int .i64 (.var
 33)]) [] false [] [] [30, 23, 17, 11, 10] [(30, [.int .u16 (.lit 7), .int .u32 (.lit 66560)]), (23, [.int .u8 (.var 19), .int .u8 (.var 20), .bool (.var 21), .bool
 (.var 22)]), (17, [.int .u16 (.lit 7), .int .u32 (.lit 66304)]), (11, [.int .u8 (.var 6), .int .u8 (.var 7), .bool (.var 8), .bool (.var 9)]), (10, [.int
 .u8 (.var 2), .int .u8 (.var 3), .bool (.var 4), .bool (.var 5)])] (.call 18 [.var 0, .int .u32 (.lit 256)] [.int .i64] (.int .i64 (.var 34)) [] false []
 [] [30, 23, 17, 11, 10] [(30, [.int .u16 (.lit 7), .int .u32 (.lit 66560)]), (23, [.int .u8 (.var 19), .int .u8 (.var 20), .bool (.var 21), .bool (.var 22)]), (17,
 [.int .u16 (.lit 7), .int .u32 (.lit 66304)]), (11, [.int .u8 (.var 6), .int .u8 (.var 7), .bool (.var 8), .bool (.var 9)]), (10, [.int .u8 (.var 2), .int
 .u8 (.var 3), .bool (.var 4), .bool (.var 5)])] (.call 21 [.var 0, .agg [.int .u8 (.lit 2), .int .u8 (.lit 0), .int .u8 (.lit 4)]] [.bool, .int
 .i64] (.tuple [.bool (.var 35), .int .i64 (.var 36)]) [] false [] [] [30, 23, 17, 11, 10] [(30, [.int .u16 (.lit 7), .int .u32 (.lit 66560)]), (23, [.int .u8
 (.var 19), .int .u8 (.var 20), .bool (.var 21), .bool (.var 22)]), (17, [.int .u16 (.lit 7), .int .u32 (.lit 66304)]), (11, [.int .u8 (.var 6), .int .u8
 (.var 7), .bool (.var 8), .bool (.var 9)]), (10, [.int .u8 (.var 2), .int .u8 (.var 3), .bool (.var 4), .bool (.var 5)])] (.call 21 [.var 0, .agg [.int .u8 (.lit
 2), .int .u8 (.lit 0), .int .u8 (.lit 4)]] [.bool, .int .i64] (.tuple [.bool (.var 37), .int .i64 (.var 38)]) [] false [] [] [30, 23, 17, 11, 10] [(30, [.int
 .u16 (.lit 7), .int .u32 (.lit 66560)]), (23, [.int .u8 (.var 19), .int .u8 (.var 20), .bool (.var 21), .bool (.var 22)]), (17, [.int .u16 (.lit 7), .int
 .u32 (.lit 66304)]), (11, [.int .u8 (.var 6), .int .u8 (.var 7), .bool (.var 8), .bool (.var 9)]), (10, [.int .u8 (.var 2), .int .u8 (.var 3), .bool (.var
 4), .bool (.var 5)])] (.call 21 [.var 0, .agg [.int .u8 (.lit 3), .int .u8 (.lit 0), .int .u8 (.lit 0)]] [.bool, .int .i64] (.tuple [.bool (.var 39),
 .int .i64 (.var 40)]) [] false [] [] [30, 23, 17, 11, 10] [(30, [.int .u16 (.lit 7), .int .u32 (.lit 66560)]), (23, [.int .u8 (.var 19), .int .u8 (.var 20), .bool
 (.var 21), .bool (.var 22)]), (17, [.int .u16 (.lit 7), .int .u32 (.lit 66304)]), (11, [.int .u8 (.var 6), .int .u8 (.var 7), .bool (.var 8), .bool (.var 9)]),
 (10, [.int .u8 (.var 2), .int .u8 (.var 3), .bool (.var 4), .bool (.var 5)])] (.split (.not (.var 32)) (.split (.eq (.var 34) (.lit 0)) (.split (.var 35) (.split (.not
 (.var 37)) (.leaf 0 [.bool (.eq (.var 40) (.lit 2))] [] [(30, [.int .u16 (.lit 7), .int .u32 (.lit 66560)]), (23, [.int .u8 (.var 19), .int .u8 (.var 20), .bool
 (.var 21), .bool (.var 22)]), (17, [.int .u16 (.lit 7), .int .u32 (.lit 66304)]), (11, [.int .u8 (.var 6), .int .u8 (.var 7), .bool (.var 8), .bool (.var 9)]),
 (10, [.int .u8 (.var 2), .int .u8 (.var 3), .bool (.var 4), .bool (.var 5)])]) (.leaf 0 [.bool (.lit false)] [] [(30, [.int .u16 (.lit 7), .int .u32 (.lit
 66560)]), (23, [.int .u8 (.var 19), .int .u8 (.var 20), .bool (.var 21), .bool (.var 22)]), (17, [.int .u16 (.lit 7), .int .u32 (.lit 66304)]), (11, [.int .u8
 (.var 6), .int .u8 (.var 7), .bool (.var 8), .bool (.var 9)]), (10, [.int .u8 (.var 2), .int .u8 (.var 3), .bool (.var 4), .bool (.var 5)])])) (.leaf 0 [.bool
 (.lit false)] [] [(30, [.int .u16 (.lit 7), .int .u32 (.lit 66560)]), (23, [.int .u8 (.var 19), .int .u8 (.var 20), .bool (.var 21), .bool (.var 22)]), (17, [.int
 .u16 (.lit 7), .int .u32 (.lit 66304)]), (11, [.int .u8 (.var 6), .int .u8 (.var 7), .bool (.var 8), .bool (.var 9)]), (10, [.int .u8 (.var 2), .int
 .u8 (.var 3), .bool (.var 4), .bool (.var 5)])])) (.leaf 0 [.bool (.lit false)] [] [(30, [.int .u16 (.lit 7), .int .u32 (.lit 66560)]), (23, [.int .u8 (.var 19),
 .int .u8 (.var 20), .bool (.var 21), .bool (.var 22)]), (17, [.int .u16 (.lit 7), .int .u32 (.lit 66304)]), (11, [.int .u8 (.var 6), .int .u8 (.var 7),
 .bool (.var 8), .bool (.var 9)]), (10, [.int .u8 (.var 2), .int .u8 (.var 3), .bool (.var 4), .bool (.var 5)])])) (.leaf 0 [.bool (.lit false)] [] [(30, [.int .u16
 (.lit 7), .int .u32 (.lit 66560)]), (23, [.int .u8 (.var 19), .int .u8 (.var 20), .bool (.var 21), .bool (.var 22)]), (17, [.int .u16 (.lit 7), .int .u32
 (.lit 66304)]), (11, [.int .u8 (.var 6), .int .u8 (.var 7), .bool (.var 8), .bool (.var 9)]), (10, [.int .u8 (.var 2), .int .u8 (.var 3), .bool (.var 4), .bool
 (.var 5)])])))))))))))))))))))))))))))))))))))))) := by kernel_rfl

end Go.Proofs.Ytfjlnfgbfclgbaa
