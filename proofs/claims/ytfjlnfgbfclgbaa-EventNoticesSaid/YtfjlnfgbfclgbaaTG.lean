/- What the functions of the chapter come to, printed by a program of the prover's and checked by the kernel. No conditions. -/
import Derived.Test.YtfjlnfgbfclgbaaSxZI
import Derived.Test.YtfjlnfgbfclgbaaProg
import Derived.KernelRfl
set_option maxRecDepth 100000
set_option linter.unusedVariables false
namespace Go.Proofs.Ytfjlnfgbfclgbaa
open Go.Sx

theorem t29 : exFn { P := Try.prog, loops := (fun r => if Nat.beq r 6 then some ⟨1, [(7, .int .i64)], []⟩ else none), ranged := true, ranges := fun t => if Nat.beq t 40 then some ⟨2, [23], [8]⟩ else none } 29 [.var 0,
 .agg [.int .i64 (.var 1), .int .u32 (.var 2), .var 3, .var 4, .bool (.var 5), .bool (.var 6), .bool (.var 7), .bool (.var 8), .bool (.var 9), .bool (.var 10), .bool (.var 11), .bool (.var 12), .int .u8 (.var 13), .int
 .u8 (.var 14), .int .u8 (.var 15), .int .u8 (.var 16), .int .u8 (.var 17), .int .u8 (.var 18), .int .u8 (.var 19), .int .u8 (.var 20)]] [.ptr, .int .i64, .int .u32, .slice, .slice, .bool, .bool, .bool, .bool, .bool,
 .bool, .bool, .bool, .int .u8, .int .u8, .int .u8, .int .u8, .int .u8, .int .u8, .int .u8, .int .u8] [] = VC.blk (VC.blk (VC.call 25 [SV.var 0] [Base.slice] (SV.var 23) [] false [] [] [22, 21] [(22, [SV.bool (BE.lit
 false)]), (21, [SV.int IntKind.i64 (IE.var 1), SV.int IntKind.u32 (IE.var 2), SV.var 3, SV.var 4, SV.bool (BE.var 5), SV.bool (BE.var 6), SV.bool (BE.var 7), SV.bool (BE.var 8), SV.bool (BE.var 9), SV.bool (BE.var 10),
 SV.bool (BE.var 11), SV.bool (BE.var 12), SV.int IntKind.u8 (IE.var 13), SV.int IntKind.u8 (IE.var 14), SV.int IntKind.u8 (IE.var 15), SV.int IntKind.u8 (IE.var 16), SV.int IntKind.u8 (IE.var 17), SV.int IntKind.u8
 (IE.var 18), SV.int IntKind.u8 (IE.var 19), SV.int IntKind.u8 (IE.var 20)])] (VC.call 24 [SV.var 0] [Base.func] (SV.var 24) [] false [] [] [22, 21] [(22, [SV.bool (BE.lit false)]), (21, [SV.int IntKind.i64 (IE.var 1),
 SV.int IntKind.u32 (IE.var 2), SV.var 3, SV.var 4, SV.bool (BE.var 5), SV.bool (BE.var 6), SV.bool (BE.var 7), SV.bool (BE.var 8), SV.bool (BE.var 9), SV.bool (BE.var 10), SV.bool (BE.var 11), SV.bool (BE.var 12),
 SV.int IntKind.u8 (IE.var 13), SV.int IntKind.u8 (IE.var 14), SV.int IntKind.u8 (IE.var 15), SV.int IntKind.u8 (IE.var 16), SV.int IntKind.u8 (IE.var 17), SV.int IntKind.u8 (IE.var 18), SV.int IntKind.u8 (IE.var 19),
 SV.int IntKind.u8 (IE.var 20)])] (VC.split (BE.not (BE.eq (IE.len 23) (IE.len 3))) (VC.leafM 0 [SV.bool (BE.lit false)] [22] [(22, [SV.bool (BE.lit false)]), (21, [SV.int IntKind.i64 (IE.var 1), SV.int IntKind.u32
 (IE.var 2), SV.var 3, SV.var 4, SV.bool (BE.var 5), SV.bool (BE.var 6), SV.bool (BE.var 7), SV.bool (BE.var 8), SV.bool (BE.var 9), SV.bool (BE.var 10), SV.bool (BE.var 11), SV.bool (BE.var 12), SV.int IntKind.u8
 (IE.var 13), SV.int IntKind.u8 (IE.var 14), SV.int IntKind.u8 (IE.var 15), SV.int IntKind.u8 (IE.var 16), SV.int IntKind.u8 (IE.var 17), SV.int IntKind.u8 (IE.var 18), SV.int IntKind.u8 (IE.var 19), SV.int IntKind.u8
 (IE.var 20)])]) (VC.split (BE.nil 24) (VC.leafM 0 [SV.bool (BE.lit false)] [22] [(22, [SV.bool (BE.lit false)]), (21, [SV.int IntKind.i64 (IE.var 1), SV.int IntKind.u32 (IE.var 2), SV.var 3, SV.var 4, SV.bool (BE.var
 5), SV.bool (BE.var 6), SV.bool (BE.var 7), SV.bool (BE.var 8), SV.bool (BE.var 9), SV.bool (BE.var 10), SV.bool (BE.var 11), SV.bool (BE.var 12), SV.int IntKind.u8 (IE.var 13), SV.int IntKind.u8 (IE.var 14), SV.int
 IntKind.u8 (IE.var 15), SV.int IntKind.u8 (IE.var 16), SV.int IntKind.u8 (IE.var 17), SV.int IntKind.u8 (IE.var 18), SV.int IntKind.u8 (IE.var 19), SV.int IntKind.u8 (IE.var 20)])]) (VC.loop 1 [SV.int IntKind.i64
 (IE.lit 0)] [Base.int IntKind.i64] [] [22, 21] [(22, [SV.bool (BE.lit false)]), (21, [SV.int IntKind.i64 (IE.var 1), SV.int IntKind.u32 (IE.var 2), SV.var 3, SV.var 4, SV.bool (BE.var 5), SV.bool (BE.var 6), SV.bool
 (BE.var 7), SV.bool (BE.var 8), SV.bool (BE.var 9), SV.bool (BE.var 10), SV.bool (BE.var 11), SV.bool (BE.var 12), SV.int IntKind.u8 (IE.var 13), SV.int IntKind.u8 (IE.var 14), SV.int IntKind.u8 (IE.var 15), SV.int
 IntKind.u8 (IE.var 16), SV.int IntKind.u8 (IE.var 17), SV.int IntKind.u8 (IE.var 18), SV.int IntKind.u8 (IE.var 19), SV.int IntKind.u8 (IE.var 20)])] [(22, [SV.bool (BE.lit false)]), (21, [SV.int IntKind.i64 (IE.var 1),
 SV.int IntKind.u32 (IE.var 2), SV.var 3, SV.var 4, SV.bool (BE.var 5), SV.bool (BE.var 6), SV.bool (BE.var 7), SV.bool (BE.var 8), SV.bool (BE.var 9), SV.bool (BE.var 10), SV.bool (BE.var 11), SV.bool (BE.var 12),
 SV.int IntKind.u8 (IE.var 13), SV.int IntKind.u8 (IE.var 14), SV.int IntKind.u8 (IE.var 15), SV.int IntKind.u8 (IE.var 16), SV.int IntKind.u8 (IE.var 17), SV.int IntKind.u8 (IE.var 18), SV.int IntKind.u8 (IE.var 19),
 SV.int IntKind.u8 (IE.var 20)])] (VC.split (BE.lt (IE.var 25) (IE.len 23)) (VC.start true [] [22, 21] [(22, [SV.bool (BE.lit false)]), (21, [SV.int IntKind.i64 (IE.var 1), SV.int IntKind.u32 (IE.var 2), SV.var 3, SV.var
 4, SV.bool (BE.var 5), SV.bool (BE.var 6), SV.bool (BE.var 7), SV.bool (BE.var 8), SV.bool (BE.var 9), SV.bool (BE.var 10), SV.bool (BE.var 11), SV.bool (BE.var 12), SV.int IntKind.u8 (IE.var 13), SV.int IntKind.u8
 (IE.var 14), SV.int IntKind.u8 (IE.var 15), SV.int IntKind.u8 (IE.var 16), SV.int IntKind.u8 (IE.var 17), SV.int IntKind.u8 (IE.var 18), SV.int IntKind.u8 (IE.var 19), SV.int IntKind.u8 (IE.var 20)])] (VC.ob (BE.le
 (IE.lit 0) (IE.var 25)) (VC.ob (BE.lt (IE.var 25) (IE.len 23)) (VC.ob (BE.not (BE.nil 23)) (VC.load (SV.elt 23 0 (IE.var 25) 1 0) [Base.int IntKind.u16] (VC.ob (BE.le (IE.lit 0) (IE.var 25)) (VC.ob (BE.lt (IE.var 25)
 (IE.len 3)) (VC.ob (BE.not (BE.nil 3)) (VC.load (SV.elt 3 0 (IE.var 25) 1 0) [Base.int IntKind.u16] (VC.split (BE.not (BE.eq (IE.var 26) (IE.var 27))) (VC.leafM 0 [SV.bool (BE.lit false)] [22] [(22, [SV.bool (BE.lit
 false)]), (21, [SV.int IntKind.i64 (IE.var 1), SV.int IntKind.u32 (IE.var 2), SV.var 3, SV.var 4, SV.bool (BE.var 5), SV.bool (BE.var 6), SV.bool (BE.var 7), SV.bool (BE.var 8), SV.bool (BE.var 9), SV.bool (BE.var 10),
 SV.bool (BE.var 11), SV.bool (BE.var 12), SV.int IntKind.u8 (IE.var 13), SV.int IntKind.u8 (IE.var 14), SV.int IntKind.u8 (IE.var 15), SV.int IntKind.u8 (IE.var 16), SV.int IntKind.u8 (IE.var 17), SV.int IntKind.u8
 (IE.var 18), SV.int IntKind.u8 (IE.var 19), SV.int IntKind.u8 (IE.var 20)])]) (VC.ob (BE.le (IE.lit (-9223372036854775808)) (IE.add (IE.var 25) (IE.lit 1))) (VC.ob (BE.le (IE.add (IE.var 25) (IE.lit 1)) (IE.lit
 9223372036854775807)) (VC.leaf 1 [SV.int IntKind.i64 (IE.add (IE.var 25) (IE.lit 1))] [] [(22, [SV.bool (BE.lit false)]), (21, [SV.int IntKind.i64 (IE.var 1), SV.int IntKind.u32 (IE.var 2), SV.var 3, SV.var 4, SV.bool
 (BE.var 5), SV.bool (BE.var 6), SV.bool (BE.var 7), SV.bool (BE.var 8), SV.bool (BE.var 9), SV.bool (BE.var 10), SV.bool (BE.var 11), SV.bool (BE.var 12), SV.int IntKind.u8 (IE.var 13), SV.int IntKind.u8 (IE.var 14),
 SV.int IntKind.u8 (IE.var 15), SV.int IntKind.u8 (IE.var 16), SV.int IntKind.u8 (IE.var 17), SV.int IntKind.u8 (IE.var 18), SV.int IntKind.u8 (IE.var 19), SV.int IntKind.u8 (IE.var 20)])]))))))))))))) (VC.blk (VC.range
 2 (SV.var 24) [Base.int IntKind.u8, Base.int IntKind.u8, Base.int IntKind.u8] [23] [SV.int IntKind.i64 (IE.lit 0)] [Base.int IntKind.i64] [26] [26, 22, 21] [(26, [SV.int IntKind.i64 (IE.lit 0)]), (22, [SV.bool (BE.lit
 false)]), (21, [SV.int IntKind.i64 (IE.var 1), SV.int IntKind.u32 (IE.var 2), SV.var 3, SV.var 4, SV.bool (BE.var 5), SV.bool (BE.var 6), SV.bool (BE.var 7), SV.bool (BE.var 8), SV.bool (BE.var 9), SV.bool (BE.var 10),
 SV.bool (BE.var 11), SV.bool (BE.var 12), SV.int IntKind.u8 (IE.var 13), SV.int IntKind.u8 (IE.var 14), SV.int IntKind.u8 (IE.var 15), SV.int IntKind.u8 (IE.var 16), SV.int IntKind.u8 (IE.var 17), SV.int IntKind.u8
 (IE.var 18), SV.int IntKind.u8 (IE.var 19), SV.int IntKind.u8 (IE.var 20)])] [(26, [SV.int IntKind.i64 (IE.var 27)]), (22, [SV.bool (BE.lit false)]), (21, [SV.int IntKind.i64 (IE.var 1), SV.int IntKind.u32 (IE.var 2),
 SV.var 3, SV.var 4, SV.bool (BE.var 5), SV.bool (BE.var 6), SV.bool (BE.var 7), SV.bool (BE.var 8), SV.bool (BE.var 9), SV.bool (BE.var 10), SV.bool (BE.var 11), SV.bool (BE.var 12), SV.int IntKind.u8 (IE.var 13),
 SV.int IntKind.u8 (IE.var 14), SV.int IntKind.u8 (IE.var 15), SV.int IntKind.u8 (IE.var 16), SV.int IntKind.u8 (IE.var 17), SV.int IntKind.u8 (IE.var 18), SV.int IntKind.u8 (IE.var 19), SV.int IntKind.u8 (IE.var 20)])]
 (VC.blk (VC.start true [] [31, 26, 22, 21] [(31, [SV.int IntKind.u8 (IE.var 28), SV.int IntKind.u8 (IE.var 29), SV.int IntKind.u8 (IE.var 30)]), (26, [SV.int IntKind.i64 (IE.var 27)]), (22, [SV.bool (BE.lit false)]),
 (21, [SV.int IntKind.i64 (IE.var 1), SV.int IntKind.u32 (IE.var 2), SV.var 3, SV.var 4, SV.bool (BE.var 5), SV.bool (BE.var 6), SV.bool (BE.var 7), SV.bool (BE.var 8), SV.bool (BE.var 9), SV.bool (BE.var 10), SV.bool
 (BE.var 11), SV.bool (BE.var 12), SV.int IntKind.u8 (IE.var 13), SV.int IntKind.u8 (IE.var 14), SV.int IntKind.u8 (IE.var 15), SV.int IntKind.u8 (IE.var 16), SV.int IntKind.u8 (IE.var 17), SV.int IntKind.u8 (IE.var 18),
 SV.int IntKind.u8 (IE.var 19), SV.int IntKind.u8 (IE.var 20)])] (VC.split (BE.le (IE.len 4) (IE.var 27)) (VC.resume [22] [31, 26, 22, 21] [(31, [SV.int IntKind.u8 (IE.var 28), SV.int IntKind.u8 (IE.var 29), SV.int
 IntKind.u8 (IE.var 30)]), (26, [SV.int IntKind.i64 (IE.var 27)]), (22, [SV.bool (BE.lit false)]), (21, [SV.int IntKind.i64 (IE.var 1), SV.int IntKind.u32 (IE.var 2), SV.var 3, SV.var 4, SV.bool (BE.var 5), SV.bool
 (BE.var 6), SV.bool (BE.var 7), SV.bool (BE.var 8), SV.bool (BE.var 9), SV.bool (BE.var 10), SV.bool (BE.var 11), SV.bool (BE.var 12), SV.int IntKind.u8 (IE.var 13), SV.int IntKind.u8 (IE.var 14), SV.int IntKind.u8
 (IE.var 15), SV.int IntKind.u8 (IE.var 16), SV.int IntKind.u8 (IE.var 17), SV.int IntKind.u8 (IE.var 18), SV.int IntKind.u8 (IE.var 19), SV.int IntKind.u8 (IE.var 20)])] (VC.leafM 0 [SV.bool (BE.lit false)] [] [(31,
 [SV.int IntKind.u8 (IE.var 28), SV.int IntKind.u8 (IE.var 29), SV.int IntKind.u8 (IE.var 30)]), (26, [SV.int IntKind.i64 (IE.var 27)]), (22, [SV.bool (BE.lit false)]), (21, [SV.int IntKind.i64 (IE.var 1), SV.int
 IntKind.u32 (IE.var 2), SV.var 3, SV.var 4, SV.bool (BE.var 5), SV.bool (BE.var 6), SV.bool (BE.var 7), SV.bool (BE.var 8), SV.bool (BE.var 9), SV.bool (BE.var 10), SV.bool (BE.var 11), SV.bool (BE.var 12), SV.int
 IntKind.u8 (IE.var 13), SV.int IntKind.u8 (IE.var 14), SV.int IntKind.u8 (IE.var 15), SV.int IntKind.u8 (IE.var 16), SV.int IntKind.u8 (IE.var 17), SV.int IntKind.u8 (IE.var 18), SV.int IntKind.u8 (IE.var 19), SV.int
 IntKind.u8 (IE.var 20)])])) (VC.ob (BE.le (IE.lit 0) (IE.var 27)) (VC.ob (BE.lt (IE.var 27) (IE.len 4)) (VC.ob (BE.not (BE.nil 4)) (VC.load (SV.elt 4 0 (IE.var 27) 3 0) [Base.int IntKind.u8, Base.int IntKind.u8,
 Base.int IntKind.u8] (VC.pur (Op.binOp BinOp.neq 23 (Operand.tmp 48) (Operand.tmp 53) 23) 4 [(Operand.tmp 48, SV.agg [SV.int IntKind.u8 (IE.var 28), SV.int IntKind.u8 (IE.var 29), SV.int IntKind.u8 (IE.var 30)]),
 (Operand.tmp 53, SV.agg [SV.int IntKind.u8 (IE.var 32), SV.int IntKind.u8 (IE.var 33), SV.int IntKind.u8 (IE.var 34)])] [Base.bool] (SV.bool (BE.var 35)) (VC.split (BE.var 35) (VC.resume [22] [31, 26, 22, 21] [(31,
 [SV.int IntKind.u8 (IE.var 28), SV.int IntKind.u8 (IE.var 29), SV.int IntKind.u8 (IE.var 30)]), (26, [SV.int IntKind.i64 (IE.var 27)]), (22, [SV.bool (BE.lit false)]), (21, [SV.int IntKind.i64 (IE.var 1), SV.int
 IntKind.u32 (IE.var 2), SV.var 3, SV.var 4, SV.bool (BE.var 5), SV.bool (BE.var 6), SV.bool (BE.var 7), SV.bool (BE.var 8), SV.bool (BE.var 9), SV.bool (BE.var 10), SV.bool (BE.var 11), SV.bool (BE.var 12), SV.int
 IntKind.u8 (IE.var 13), SV.int IntKind.u8 (IE.var 14), SV.int IntKind.u8 (IE.var 15), SV.int IntKind.u8 (IE.var 16), SV.int IntKind.u8 (IE.var 17), SV.int IntKind.u8 (IE.var 18), SV.int IntKind.u8 (IE.var 19), SV.int
 IntKind.u8 (IE.var 20)])] (VC.leafM 0 [SV.bool (BE.lit false)] [] [(31, [SV.int IntKind.u8 (IE.var 28), SV.int IntKind.u8 (IE.var 29), SV.int IntKind.u8 (IE.var 30)]), (26, [SV.int IntKind.i64 (IE.var 27)]), (22,
 [SV.bool (BE.lit false)]), (21, [SV.int IntKind.i64 (IE.var 1), SV.int IntKind.u32 (IE.var 2), SV.var 3, SV.var 4, SV.bool (BE.var 5), SV.bool (BE.var 6), SV.bool (BE.var 7), SV.bool (BE.var 8), SV.bool (BE.var 9),
 SV.bool (BE.var 10), SV.bool (BE.var 11), SV.bool (BE.var 12), SV.int IntKind.u8 (IE.var 13), SV.int IntKind.u8 (IE.var 14), SV.int IntKind.u8 (IE.var 15), SV.int IntKind.u8 (IE.var 16), SV.int IntKind.u8 (IE.var 17),
 SV.int IntKind.u8 (IE.var 18), SV.int IntKind.u8 (IE.var 19), SV.int IntKind.u8 (IE.var 20)])])) (VC.ob (BE.le (IE.lit (-9223372036854775808)) (IE.add (IE.var 27) (IE.lit 1))) (VC.ob (BE.le (IE.add (IE.var 27) (IE.lit
 1)) (IE.lit 9223372036854775807)) (VC.leaf 2 [SV.int IntKind.i64 (IE.add (IE.var 27) (IE.lit 1))] [26] [(31, [SV.int IntKind.u8 (IE.var 28), SV.int IntKind.u8 (IE.var 29), SV.int IntKind.u8 (IE.var 30)]), (26, [SV.int
 IntKind.i64 (IE.add (IE.var 27) (IE.lit 1))]), (22, [SV.bool (BE.lit false)]), (21, [SV.int IntKind.i64 (IE.var 1), SV.int IntKind.u32 (IE.var 2), SV.var 3, SV.var 4, SV.bool (BE.var 5), SV.bool (BE.var 6), SV.bool
 (BE.var 7), SV.bool (BE.var 8), SV.bool (BE.var 9), SV.bool (BE.var 10), SV.bool (BE.var 11), SV.bool (BE.var 12), SV.int IntKind.u8 (IE.var 13), SV.int IntKind.u8 (IE.var 14), SV.int IntKind.u8 (IE.var 15), SV.int
 IntKind.u8 (IE.var 16), SV.int IntKind.u8 (IE.var 17), SV.int IntKind.u8 (IE.var 18), SV.int IntKind.u8 (IE.var 19), SV.int IntKind.u8 (IE.var 20)])])))))))))))) (VC.leafM 0 [SV.bool (BE.eq (IE.var 27) (IE.len 4))] [22]
 [(26, [SV.int IntKind.i64 (IE.var 27)]), (22, [SV.bool (BE.eq (IE.var 27) (IE.len 4))]), (21, [SV.int IntKind.i64 (IE.var 1), SV.int IntKind.u32 (IE.var 2), SV.var 3, SV.var 4, SV.bool (BE.var 5), SV.bool (BE.var 6),
 SV.bool (BE.var 7), SV.bool (BE.var 8), SV.bool (BE.var 9), SV.bool (BE.var 10), SV.bool (BE.var 11), SV.bool (BE.var 12), SV.int IntKind.u8 (IE.var 13), SV.int IntKind.u8 (IE.var 14), SV.int IntKind.u8 (IE.var 15),
 SV.int IntKind.u8 (IE.var 16), SV.int IntKind.u8 (IE.var 17), SV.int IntKind.u8 (IE.var 18), SV.int IntKind.u8 (IE.var 19), SV.int IntKind.u8 (IE.var 20)])])))))))))) := by kernel_rfl

end Go.Proofs.Ytfjlnfgbfclgbaa
