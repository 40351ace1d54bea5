/- What the functions of the chapter come to, printed by a program of the prover's and checked by the kernel. No conditions. -/
import Derived.Test.YtfjlnfgbfclgbaaSxZI
import Derived.Test.YtfjlnfgbfclgbaaProg
import Derived.KernelRfl
set_option maxRecDepth 100000
set_option linter.unusedVariables false
namespace Go.Proofs.Ytfjlnfgbfclgbaa
open Go.Sx

theorem t10 : exFn { P := Try.prog } 10 [.agg [.int .u8 (.var 0), .int .u8 (.var 1), .int .u8 (.var 2)]] [.int .u8, .int .u8, .int .u8] [] = VC.blk (VC.leaf 0 [SV.int IntKind.u32 (IE.bit BinOp.or IntKind.u32 (IE.bit
 BinOp.or IntKind.u32 (IE.wrap IntKind.u32 (IE.var 0)) (IE.shl IntKind.u32 (IE.wrap IntKind.u32 (IE.var 1)) (IE.lit 8))) (IE.shl IntKind.u32 (IE.wrap IntKind.u32 (IE.var 2)) (IE.lit 16)))] [] [(3, [SV.int IntKind.u8
 (IE.var 0), SV.int IntKind.u8 (IE.var 1), SV.int IntKind.u8 (IE.var 2)])]) := by kernel_rfl

theorem t11 : exFn { P := Try.prog } 11 [.agg [.int .u8 (.var 0), .int .u8 (.var 1), .int .u8 (.var 2)]] [.int .u8, .int .u8, .int .u8] [] = VC.blk (VC.leaf 0 [SV.int IntKind.u32 (IE.wrap IntKind.u32 (IE.add (IE.wrap
 IntKind.u32 (IE.add (IE.wrap IntKind.u32 (IE.var 0)) (IE.wrap IntKind.u32 (IE.mul (IE.lit 256) (IE.wrap IntKind.u32 (IE.var 1)))))) (IE.wrap IntKind.u32 (IE.mul (IE.lit 65536) (IE.wrap IntKind.u32 (IE.var 2))))))] []
 [(3, [SV.int IntKind.u8 (IE.var 0), SV.int IntKind.u8 (IE.var 1), SV.int IntKind.u8 (IE.var 2)])]) := by kernel_rfl

theorem t12 : exFn { P := Try.prog } 12 [.agg [.int .u8 (.var 0), .int .u8 (.var 1), .int .u8 (.var 2)]] [.int .u8, .int .u8, .int .u8] [] = VC.blk (VC.call 31 [SV.agg [SV.int IntKind.u8 (IE.var 0), SV.int IntKind.u8
 (IE.var 1), SV.int IntKind.u8 (IE.var 2)]] [Base.int IntKind.i64, Base.bool] (SV.tuple [SV.int IntKind.i64 (IE.var 4), SV.bool (BE.var 5)]) [] false [] [] [3] [(3, [SV.int IntKind.u8 (IE.var 0), SV.int IntKind.u8
 (IE.var 1), SV.int IntKind.u8 (IE.var 2)])] (VC.leaf 0 [SV.bool (BE.var 5)] [] [(3, [SV.int IntKind.u8 (IE.var 0), SV.int IntKind.u8 (IE.var 1), SV.int IntKind.u8 (IE.var 2)])])) := by kernel_rfl

theorem t13 : exFn { P := Try.prog } 13 [.agg [.int .u8 (.var 0), .int .u8 (.var 1), .int .u8 (.var 2)]] [.int .u8, .int .u8, .int .u8] [] = VC.blk (VC.split (BE.eq (IE.var 0) (IE.lit 0)) (VC.leaf 0 [SV.bool (BE.lt
 (IE.var 1) (IE.lit 6))] [] [(3, [SV.int IntKind.u8 (IE.var 0), SV.int IntKind.u8 (IE.var 1), SV.int IntKind.u8 (IE.var 2)])]) (VC.split (BE.eq (IE.var 0) (IE.lit 1)) (VC.leaf 0 [SV.bool (BE.lt (IE.var 1) (IE.lit 3))] []
 [(3, [SV.int IntKind.u8 (IE.var 0), SV.int IntKind.u8 (IE.var 1), SV.int IntKind.u8 (IE.var 2)])]) (VC.split (BE.eq (IE.var 0) (IE.lit 2)) (VC.split (BE.eq (IE.var 1) (IE.lit 0)) (VC.leaf 0 [SV.bool (BE.lit true)] []
 [(3, [SV.int IntKind.u8 (IE.var 0), SV.int IntKind.u8 (IE.var 1), SV.int IntKind.u8 (IE.var 2)])]) (VC.split (BE.eq (IE.var 1) (IE.lit 1)) (VC.leaf 0 [SV.bool (BE.lit true)] [] [(3, [SV.int IntKind.u8 (IE.var 0), SV.int
 IntKind.u8 (IE.var 1), SV.int IntKind.u8 (IE.var 2)])]) (VC.split (BE.eq (IE.var 1) (IE.lit 3)) (VC.leaf 0 [SV.bool (BE.lit true)] [] [(3, [SV.int IntKind.u8 (IE.var 0), SV.int IntKind.u8 (IE.var 1), SV.int IntKind.u8
 (IE.var 2)])]) (VC.split (BE.eq (IE.var 1) (IE.lit 239)) (VC.leaf 0 [SV.bool (BE.lit true)] [] [(3, [SV.int IntKind.u8 (IE.var 0), SV.int IntKind.u8 (IE.var 1), SV.int IntKind.u8 (IE.var 2)])]) (VC.leaf 0 [SV.bool
 (BE.eq (IE.var 1) (IE.lit 240))] [] [(3, [SV.int IntKind.u8 (IE.var 0), SV.int IntKind.u8 (IE.var 1), SV.int IntKind.u8 (IE.var 2)])]))))) (VC.split (BE.eq (IE.var 0) (IE.lit 6)) (VC.leaf 0 [SV.bool (BE.lt (IE.var 1)
 (IE.lit 2))] [] [(3, [SV.int IntKind.u8 (IE.var 0), SV.int IntKind.u8 (IE.var 1), SV.int IntKind.u8 (IE.var 2)])]) (VC.leaf 0 [SV.bool (BE.lit false)] [] [(3, [SV.int IntKind.u8 (IE.var 0), SV.int IntKind.u8 (IE.var 1),
 SV.int IntKind.u8 (IE.var 2)])]))))) := by kernel_rfl

theorem t14 : exFn { P := Try.prog } 14 [.agg [.int .u8 (.var 0), .int .u8 (.var 1), .int .u8 (.var 2)], .int .u32 (.var 3)] [.int .u8, .int .u8, .int .u8, .int .u32] [] = VC.blk (VC.call 31 [SV.agg [SV.int IntKind.u8
 (IE.var 0), SV.int IntKind.u8 (IE.var 1), SV.int IntKind.u8 (IE.var 2)]] [Base.int IntKind.i64, Base.bool] (SV.tuple [SV.int IntKind.i64 (IE.var 5), SV.bool (BE.var 6)]) [] false [] [] [4] [(4, [SV.int IntKind.u8
 (IE.var 0), SV.int IntKind.u8 (IE.var 1), SV.int IntKind.u8 (IE.var 2)])] (VC.split (BE.var 6) (VC.split (BE.eq (IE.var 5) (IE.lit 32)) (VC.leaf 0 [SV.bool (BE.lit true)] [] [(4, [SV.int IntKind.u8 (IE.var 0), SV.int
 IntKind.u8 (IE.var 1), SV.int IntKind.u8 (IE.var 2)])]) (VC.ob (BE.le (IE.lit 0) (IE.var 5)) (VC.leaf 0 [SV.bool (BE.eq (IE.bit BinOp.and IntKind.u32 (IE.shr IntKind.u32 (IE.var 3) (IE.var 5)) (IE.lit 1)) (IE.lit 1))]
 [] [(4, [SV.int IntKind.u8 (IE.var 0), SV.int IntKind.u8 (IE.var 1), SV.int IntKind.u8 (IE.var 2)])]))) (VC.leaf 0 [SV.bool (BE.lit false)] [] [(4, [SV.int IntKind.u8 (IE.var 0), SV.int IntKind.u8 (IE.var 1), SV.int
 IntKind.u8 (IE.var 2)])]))) := by kernel_rfl

theorem t15 : exFn { P := Try.prog } 15 [.agg [.int .u8 (.var 0), .int .u8 (.var 1), .int .u8 (.var 2)], .int .u32 (.var 3)] [.int .u8, .int .u8, .int .u8, .int .u32] [] = VC.blk (VC.call 13 [SV.agg [SV.int IntKind.u8
 (IE.var 0), SV.int IntKind.u8 (IE.var 1), SV.int IntKind.u8 (IE.var 2)]] [Base.bool] (SV.bool (BE.var 5)) [] false [] [] [4] [(4, [SV.int IntKind.u8 (IE.var 0), SV.int IntKind.u8 (IE.var 1), SV.int IntKind.u8 (IE.var
 2)])] (VC.split (BE.not (BE.var 5)) (VC.leaf 0 [SV.bool (BE.lit false)] [] [(4, [SV.int IntKind.u8 (IE.var 0), SV.int IntKind.u8 (IE.var 1), SV.int IntKind.u8 (IE.var 2)])]) (VC.split (BE.eq (IE.var 0) (IE.lit 1))
 (VC.ob (BE.le (IE.lit 0) (IE.wrap IntKind.i64 (IE.var 1))) (VC.leaf 0 [SV.bool (BE.eq (IE.rem (IE.shr IntKind.u32 (IE.var 3) (IE.wrap IntKind.i64 (IE.var 1))) (IE.lit 2)) (IE.lit 1))] [] [(4, [SV.int IntKind.u8 (IE.var
 0), SV.int IntKind.u8 (IE.var 1), SV.int IntKind.u8 (IE.var 2)])])) (VC.split (BE.eq (IE.var 0) (IE.lit 2)) (VC.split (BE.eq (IE.var 1) (IE.lit 239)) (VC.leaf 0 [SV.bool (BE.eq (IE.rem (IE.shr IntKind.u32 (IE.var 3)
 (IE.lit 27)) (IE.lit 2)) (IE.lit 1))] [] [(4, [SV.int IntKind.u8 (IE.var 0), SV.int IntKind.u8 (IE.var 1), SV.int IntKind.u8 (IE.var 2)])]) (VC.split (BE.eq (IE.var 1) (IE.lit 240)) (VC.leaf 0 [SV.bool (BE.eq (IE.rem
 (IE.shr IntKind.u32 (IE.var 3) (IE.lit 31)) (IE.lit 2)) (IE.lit 1))] [] [(4, [SV.int IntKind.u8 (IE.var 0), SV.int IntKind.u8 (IE.var 1), SV.int IntKind.u8 (IE.var 2)])]) (VC.ob (BE.le (IE.lit (-9223372036854775808))
 (IE.add (IE.lit 8) (IE.wrap IntKind.i64 (IE.var 1)))) (VC.ob (BE.le (IE.add (IE.lit 8) (IE.wrap IntKind.i64 (IE.var 1))) (IE.lit 9223372036854775807)) (VC.ob (BE.le (IE.lit 0) (IE.add (IE.lit 8) (IE.wrap IntKind.i64
 (IE.var 1)))) (VC.leaf 0 [SV.bool (BE.eq (IE.rem (IE.shr IntKind.u32 (IE.var 3) (IE.add (IE.lit 8) (IE.wrap IntKind.i64 (IE.var 1)))) (IE.lit 2)) (IE.lit 1))] [] [(4, [SV.int IntKind.u8 (IE.var 0), SV.int IntKind.u8
 (IE.var 1), SV.int IntKind.u8 (IE.var 2)])])))))) (VC.leaf 0 [SV.bool (BE.lit true)] [] [(4, [SV.int IntKind.u8 (IE.var 0), SV.int IntKind.u8 (IE.var 1), SV.int IntKind.u8 (IE.var 2)])]))))) := by kernel_rfl

theorem t17 : exFn { P := Try.prog } 17 [.int .i64 (.var 0)] [.int .i64] [] = VC.split (BE.lt (IE.var 0) (IE.lit 1)) (VC.leaf 0 [SV.tuple [SV.cst (Value.pointer none), SV.int IntKind.i64 (IE.lit 2)]] [] []) (VC.split
 (BE.lt (IE.lit 16) (IE.var 0)) (VC.leaf 0 [SV.tuple [SV.cst (Value.pointer none), SV.int IntKind.i64 (IE.lit 2)]] [] []) (VC.gen (Op.makeMap 69 none) 69 [] [Base.map] (SV.var 1) [] false [] [] [] [] (VC.blk (VC.leaf 0
 [SV.tuple [SV.ptr 2 0, SV.int IntKind.i64 (IE.lit 0)]] [] [(2, [SV.int IntKind.i64 (IE.var 0), SV.int IntKind.u32 (IE.lit 0), SV.cst (Value.slice none 0 0), SV.cst (Value.slice none 0 0), SV.var 1])])))) := by
 kernel_rfl

theorem t19 : exFn { P := Try.prog } 19 [.agg [.int .u8 (.var 0), .int .u8 (.var 1), .bool (.var 2), .bool (.var 3)], .int .i64 (.var 4)] [.int .u8, .int .u8, .bool, .bool, .int .i64] [] = VC.blk (VC.call 38 [SV.agg
 [SV.int IntKind.u8 (IE.var 0), SV.int IntKind.u8 (IE.var 1), SV.bool (BE.var 2), SV.bool (BE.var 3)]] [Base.int IntKind.i64] (SV.int IntKind.i64 (IE.var 6)) [] false [] [] [5] [(5, [SV.int IntKind.u8 (IE.var 0), SV.int
 IntKind.u8 (IE.var 1), SV.bool (BE.var 2), SV.bool (BE.var 3)])] (VC.split (BE.eq (IE.var 6) (IE.var 4)) (VC.split (BE.not (BE.var 2)) (VC.leaf 0 [SV.bool (BE.not (BE.var 3))] [] [(5, [SV.int IntKind.u8 (IE.var 0),
 SV.int IntKind.u8 (IE.var 1), SV.bool (BE.var 2), SV.bool (BE.var 3)])]) (VC.leaf 0 [SV.bool (BE.lit false)] [] [(5, [SV.int IntKind.u8 (IE.var 0), SV.int IntKind.u8 (IE.var 1), SV.bool (BE.var 2), SV.bool (BE.var
 3)])])) (VC.leaf 0 [SV.bool (BE.lit false)] [] [(5, [SV.int IntKind.u8 (IE.var 0), SV.int IntKind.u8 (IE.var 1), SV.bool (BE.var 2), SV.bool (BE.var 3)])]))) := by kernel_rfl

theorem t31 : exFn { P := Try.prog } 31 [.agg [.int .u8 (.var 0), .int .u8 (.var 1), .int .u8 (.var 2)]] [.int .u8, .int .u8, .int .u8] [] = VC.blk (VC.split (BE.eq (IE.var 0) (IE.lit 0)) (VC.start true [] [3] [(3,
 [SV.int IntKind.u8 (IE.var 0), SV.int IntKind.u8 (IE.var 1), SV.int IntKind.u8 (IE.var 2)])] (VC.leaf 0 [SV.tuple [SV.int IntKind.i64 (IE.lit 32), SV.bool (BE.le (IE.var 1) (IE.lit 5))]] [] [(3, [SV.int IntKind.u8
 (IE.var 0), SV.int IntKind.u8 (IE.var 1), SV.int IntKind.u8 (IE.var 2)])])) (VC.split (BE.eq (IE.var 0) (IE.lit 1)) (VC.start true [] [3] [(3, [SV.int IntKind.u8 (IE.var 0), SV.int IntKind.u8 (IE.var 1), SV.int
 IntKind.u8 (IE.var 2)])] (VC.leaf 0 [SV.tuple [SV.int IntKind.i64 (IE.wrap IntKind.i64 (IE.var 1)), SV.bool (BE.le (IE.var 1) (IE.lit 2))]] [] [(3, [SV.int IntKind.u8 (IE.var 0), SV.int IntKind.u8 (IE.var 1), SV.int
 IntKind.u8 (IE.var 2)])])) (VC.split (BE.eq (IE.var 0) (IE.lit 2)) (VC.gen (Op.makeMap 103 none) 103 [] [Base.map] (SV.var 4) [] false [] [] [3] [(3, [SV.int IntKind.u8 (IE.var 0), SV.int IntKind.u8 (IE.var 1), SV.int
 IntKind.u8 (IE.var 2)])] (VC.gen (Op.insert 103 (Operand.tmp 24) (Operand.const (Value.int IntKind.u8 0)) (Operand.const (Value.int IntKind.i64 8))) 0 [(Operand.tmp 24, SV.var 4), (Operand.const (Value.int IntKind.u8
 0), SV.int IntKind.u8 (IE.lit 0)), (Operand.const (Value.int IntKind.i64 8), SV.int IntKind.i64 (IE.lit 8))] [] (SV.cst (Value.tuple #[])) [] false [] [] [3] [(3, [SV.int IntKind.u8 (IE.var 0), SV.int IntKind.u8 (IE.var
 1), SV.int IntKind.u8 (IE.var 2)])] (VC.gen (Op.insert 103 (Operand.tmp 24) (Operand.const (Value.int IntKind.u8 1)) (Operand.const (Value.int IntKind.i64 9))) 0 [(Operand.tmp 24, SV.var 4), (Operand.const (Value.int
 IntKind.u8 1), SV.int IntKind.u8 (IE.lit 1)), (Operand.const (Value.int IntKind.i64 9), SV.int IntKind.i64 (IE.lit 9))] [] (SV.cst (Value.tuple #[])) [] false [] [] [3] [(3, [SV.int IntKind.u8 (IE.var 0), SV.int
 IntKind.u8 (IE.var 1), SV.int IntKind.u8 (IE.var 2)])] (VC.gen (Op.insert 103 (Operand.tmp 24) (Operand.const (Value.int IntKind.u8 3)) (Operand.const (Value.int IntKind.i64 11))) 0 [(Operand.tmp 24, SV.var 4),
 (Operand.const (Value.int IntKind.u8 3), SV.int IntKind.u8 (IE.lit 3)), (Operand.const (Value.int IntKind.i64 11), SV.int IntKind.i64 (IE.lit 11))] [] (SV.cst (Value.tuple #[])) [] false [] [] [3] [(3, [SV.int
 IntKind.u8 (IE.var 0), SV.int IntKind.u8 (IE.var 1), SV.int IntKind.u8 (IE.var 2)])] (VC.gen (Op.insert 103 (Operand.tmp 24) (Operand.const (Value.int IntKind.u8 239)) (Operand.const (Value.int IntKind.i64 27))) 0
 [(Operand.tmp 24, SV.var 4), (Operand.const (Value.int IntKind.u8 239), SV.int IntKind.u8 (IE.lit 239)), (Operand.const (Value.int IntKind.i64 27), SV.int IntKind.i64 (IE.lit 27))] [] (SV.cst (Value.tuple #[])) [] false
 [] [] [3] [(3, [SV.int IntKind.u8 (IE.var 0), SV.int IntKind.u8 (IE.var 1), SV.int IntKind.u8 (IE.var 2)])] (VC.gen (Op.insert 103 (Operand.tmp 24) (Operand.const (Value.int IntKind.u8 240)) (Operand.const (Value.int
 IntKind.i64 31))) 0 [(Operand.tmp 24, SV.var 4), (Operand.const (Value.int IntKind.u8 240), SV.int IntKind.u8 (IE.lit 240)), (Operand.const (Value.int IntKind.i64 31), SV.int IntKind.i64 (IE.lit 31))] [] (SV.cst
 (Value.tuple #[])) [] false [] [] [3] [(3, [SV.int IntKind.u8 (IE.var 0), SV.int IntKind.u8 (IE.var 1), SV.int IntKind.u8 (IE.var 2)])] (VC.gen (Op.lookup 103 (Operand.tmp 25) (Operand.tmp 27) true) 75 [(Operand.tmp 25,
 SV.var 4), (Operand.tmp 27, SV.int IntKind.u8 (IE.var 1))] [Base.int IntKind.i64, Base.bool] (SV.tuple [SV.int IntKind.i64 (IE.var 5), SV.bool (BE.var 6)]) [] false [] [] [3] [(3, [SV.int IntKind.u8 (IE.var 0), SV.int
 IntKind.u8 (IE.var 1), SV.int IntKind.u8 (IE.var 2)])] (VC.leaf 0 [SV.tuple [SV.int IntKind.i64 (IE.var 5), SV.bool (BE.var 6)]] [] [(3, [SV.int IntKind.u8 (IE.var 0), SV.int IntKind.u8 (IE.var 1), SV.int IntKind.u8
 (IE.var 2)])])))))))) (VC.split (BE.eq (IE.var 0) (IE.lit 6)) (VC.start true [] [3] [(3, [SV.int IntKind.u8 (IE.var 0), SV.int IntKind.u8 (IE.var 1), SV.int IntKind.u8 (IE.var 2)])] (VC.leaf 0 [SV.tuple [SV.int
 IntKind.i64 (IE.lit 32), SV.bool (BE.le (IE.var 1) (IE.lit 1))]] [] [(3, [SV.int IntKind.u8 (IE.var 0), SV.int IntKind.u8 (IE.var 1), SV.int IntKind.u8 (IE.var 2)])])) (VC.leaf 0 [SV.tuple [SV.int IntKind.i64 (IE.lit
 0), SV.bool (BE.lit false)]] [] [(3, [SV.int IntKind.u8 (IE.var 0), SV.int IntKind.u8 (IE.var 1), SV.int IntKind.u8 (IE.var 2)])]))))) := by kernel_rfl

theorem t38 : exFn { P := Try.prog } 38 [.agg [.int .u8 (.var 0), .int .u8 (.var 1), .bool (.var 2), .bool (.var 3)]] [.int .u8, .int .u8, .bool, .bool] [] = VC.blk (VC.ob (BE.le (IE.lit (-9223372036854775808)) (IE.mul
 (IE.lit 256) (IE.wrap IntKind.i64 (IE.var 0)))) (VC.ob (BE.le (IE.mul (IE.lit 256) (IE.wrap IntKind.i64 (IE.var 0))) (IE.lit 9223372036854775807)) (VC.ob (BE.le (IE.lit (-9223372036854775808)) (IE.add (IE.mul (IE.lit
 256) (IE.wrap IntKind.i64 (IE.var 0))) (IE.wrap IntKind.i64 (IE.var 1)))) (VC.ob (BE.le (IE.add (IE.mul (IE.lit 256) (IE.wrap IntKind.i64 (IE.var 0))) (IE.wrap IntKind.i64 (IE.var 1))) (IE.lit 9223372036854775807))
 (VC.leaf 0 [SV.int IntKind.i64 (IE.add (IE.mul (IE.lit 256) (IE.wrap IntKind.i64 (IE.var 0))) (IE.wrap IntKind.i64 (IE.var 1)))] [] [(4, [SV.int IntKind.u8 (IE.var 0), SV.int IntKind.u8 (IE.var 1), SV.bool (BE.var 2),
 SV.bool (BE.var 3)])]))))) := by kernel_rfl

theorem t39 : exFn { P := Try.prog } 39 [.var 0] [.ptr] [] = VC.split (BE.nil 0) (VC.leaf 0 [SV.bool (BE.lit true)] [] []) (VC.start false [] [] [] (VC.load (SV.ptr 0 0) [Base.int IntKind.i64] (VC.leaf 0 [SV.bool (BE.eq
 (IE.var 1) (IE.lit 0))] [] []))) := by kernel_rfl

theorem t40 : exFn { P := Try.prog } 40 [.int .u16 (.var 0), .bool (.var 1)] [.int .u16, .bool] [] = VC.blk (VC.leaf 0 [SV.agg [SV.int IntKind.u8 (IE.wrap IntKind.u8 (IE.bit BinOp.and IntKind.u16 (IE.shr IntKind.u16
 (IE.var 0) (IE.lit 8)) (IE.lit 7))), SV.int IntKind.u8 (IE.wrap IntKind.u8 (IE.var 0)), SV.bool (BE.lit false), SV.bool (BE.var 1)]] [2] [(2, [SV.int IntKind.u8 (IE.wrap IntKind.u8 (IE.bit BinOp.and IntKind.u16 (IE.shr
 IntKind.u16 (IE.var 0) (IE.lit 8)) (IE.lit 7))), SV.int IntKind.u8 (IE.wrap IntKind.u8 (IE.var 0)), SV.bool (BE.lit false), SV.bool (BE.var 1)])]) := by kernel_rfl

theorem t41 : exFn { P := Try.prog } 41 [.var 0, .int .u16 (.var 1)] [.slice, .int .u16] [] = VC.call 60 [SV.var 0, SV.int IntKind.u16 (IE.var 1)] [Base.int IntKind.i64] (SV.int IntKind.i64 (IE.var 2)) [] false [] [] []
 [] (VC.leaf 0 [SV.bool (BE.le (IE.lit 0) (IE.var 2))] [] []) := by kernel_rfl

theorem t42 : exFn { P := Try.prog } 42 [.var 0] [.slice] [] = VC.split (BE.nil 0) (VC.leaf 0 [SV.cst (Value.slice none 0 0)] [] []) (VC.blk (VC.gen (Op.call { callee := Callee.builtin Builtin.append, args := #[Operand.tmp 5, Operand.tmp 6], argTypes := #[35, 35] })
 35 [(Operand.tmp 5, SV.slc 1 0 0 0), (Operand.tmp 6, SV.var 0)] [Base.slice] (SV.var 2) [] false [] [] [1] [(1, [])] (VC.leaf 0 [SV.var 2] [] [(1, [])]))) := by kernel_rfl

theorem t36 : exFn { P := Try.prog } 36 [.var 0] [.slice] [] = VC.split (BE.nil 0) (VC.leaf 0 [SV.cst (Value.slice none 0 0)] [] []) (VC.blk (VC.gen (Op.call { callee := Callee.builtin Builtin.append, args := #[Operand.tmp 5, Operand.tmp 6], argTypes := #[57, 57] })
 57 [(Operand.tmp 5, SV.slc 1 0 0 0), (Operand.tmp 6, SV.var 0)] [Base.slice] (SV.var 2) [] false [] [] [1] [(1, [])] (VC.leaf 0 [SV.var 2] [] [(1, [])]))) := by kernel_rfl

theorem t60 : exFn { P := Try.prog, loops := fun r => if Nat.beq r 2 then some ⟨1, [(8, .int .i64)], []⟩ else none } 60 [.var 0, .int .u16 (.var 1)] [.slice, .int .u16] [] = VC.loop 1 [SV.int IntKind.i64 (IE.lit 0)]
 [Base.int IntKind.i64] [] [] [] [] (VC.split (BE.lt (IE.var 2) (IE.len 0)) (VC.ob (BE.le (IE.lit 0) (IE.var 2)) (VC.ob (BE.lt (IE.var 2) (IE.len 0)) (VC.ob (BE.not (BE.nil 0)) (VC.start false [] [] [] (VC.load (SV.elt 0
 0 (IE.var 2) 1 0) [Base.int IntKind.u16] (VC.split (BE.eq (IE.var 1) (IE.var 3)) (VC.leaf 0 [SV.int IntKind.i64 (IE.var 2)] [] []) (VC.ob (BE.le (IE.lit (-9223372036854775808)) (IE.add (IE.var 2) (IE.lit 1))) (VC.ob
 (BE.le (IE.add (IE.var 2) (IE.lit 1)) (IE.lit 9223372036854775807)) (VC.leaf 1 [SV.int IntKind.i64 (IE.add (IE.var 2) (IE.lit 1))] [] []))))))))) (VC.leaf 0 [SV.int IntKind.i64 (IE.lit (-1))] [] [])) := by kernel_rfl

theorem t59 : exFn { P := Try.prog, loops := fun r => if Nat.beq r 2 then some ⟨1, [(8, .int .i64)], []⟩ else none } 59 [.var 0, .var 1] [.slice, .func] [] = VC.loop 1 [SV.int IntKind.i64 (IE.lit 0)] [Base.int
 IntKind.i64] [] [] [] [] (VC.split (BE.lt (IE.var 2) (IE.len 0)) (VC.ob (BE.le (IE.lit 0) (IE.var 2)) (VC.ob (BE.lt (IE.var 2) (IE.len 0)) (VC.ob (BE.not (BE.nil 0)) (VC.start false [] [] [] (VC.load (SV.elt 0 0 (IE.var
 2) 3 0) [Base.int IntKind.u8, Base.int IntKind.u8, Base.int IntKind.u8] (VC.gen (Op.call { callee := Callee.value (Operand.tmp 11), args := #[Operand.tmp 15], argTypes := #[23] }) 4 [(Operand.tmp 11, SV.var 1),
 (Operand.tmp 15, SV.agg [SV.int IntKind.u8 (IE.var 3), SV.int IntKind.u8 (IE.var 4), SV.int IntKind.u8 (IE.var 5)])] [Base.bool] (SV.bool (BE.var 6)) [] false [] [] [] [] (VC.split (BE.var 6) (VC.leaf 0 [SV.int
 IntKind.i64 (IE.var 2)] [] []) (VC.ob (BE.le (IE.lit (-9223372036854775808)) (IE.add (IE.var 2) (IE.lit 1))) (VC.ob (BE.le (IE.add (IE.var 2) (IE.lit 1)) (IE.lit 9223372036854775807)) (VC.leaf 1 [SV.int IntKind.i64
 (IE.add (IE.var 2) (IE.lit 1))] [] [])))))))))) (VC.leaf 0 [SV.int IntKind.i64 (IE.lit (-1))] [] [])) := by kernel_rfl

theorem t63 : exFn { P := Try.prog, loops := fun r => if Nat.beq r 2 then some ⟨1, [(8, .int .i64)], []⟩ else none } 63 [.var 0, .var 1] [.slice, .func] [] = VC.loop 1 [SV.int IntKind.i64 (IE.lit 0)] [Base.int
 IntKind.i64] [] [] [] [] (VC.split (BE.lt (IE.var 2) (IE.len 0)) (VC.ob (BE.le (IE.lit 0) (IE.var 2)) (VC.ob (BE.lt (IE.var 2) (IE.len 0)) (VC.ob (BE.not (BE.nil 0)) (VC.start false [] [] [] (VC.load (SV.elt 0 0 (IE.var
 2) 1 0) [Base.int IntKind.u16] (VC.gen (Op.call { callee := Callee.value (Operand.tmp 11), args := #[Operand.tmp 15], argTypes := #[37] }) 4 [(Operand.tmp 11, SV.var 1), (Operand.tmp 15, SV.int IntKind.u16 (IE.var 3))]
 [Base.bool] (SV.bool (BE.var 4)) [] false [] [] [] [] (VC.split (BE.var 4) (VC.leaf 0 [SV.int IntKind.i64 (IE.var 2)] [] []) (VC.ob (BE.le (IE.lit (-9223372036854775808)) (IE.add (IE.var 2) (IE.lit 1))) (VC.ob (BE.le
 (IE.add (IE.var 2) (IE.lit 1)) (IE.lit 9223372036854775807)) (VC.leaf 1 [SV.int IntKind.i64 (IE.add (IE.var 2) (IE.lit 1))] [] [])))))))))) (VC.leaf 0 [SV.int IntKind.i64 (IE.lit (-1))] [] [])) := by kernel_rfl

theorem t61 : exFn { P := Try.prog } 61 [.var 0, .int .i64 (.var 1), .int .i64 (.var 2)] [.slice, .int .i64, .int .i64] [] = VC.start false [] [] [] (VC.pur (Op.slice 57 (Operand.tmp 8) (some (Operand.tmp 9)) (some
 (Operand.tmp 10)) (some (Operand.tmp 12))) 57 [(Operand.tmp 8, SV.var 0), (Operand.tmp 9, SV.int IntKind.i64 (IE.var 1)), (Operand.tmp 10, SV.int IntKind.i64 (IE.var 2)), (Operand.tmp 12, SV.int IntKind.i64 (IE.len 0))]
 [Base.slice] (SV.var 3) (VC.split (BE.eq (IE.var 1) (IE.var 2)) (VC.leaf 0 [SV.var 0] [] []) (VC.start true [] [] [] (VC.pur (Op.slice 57 (Operand.tmp 20) none (some (Operand.tmp 21)) none) 57 [(Operand.tmp 20, SV.var
 0), (Operand.tmp 21, SV.int IntKind.i64 (IE.var 1))] [Base.slice] (SV.var 4) (VC.pur (Op.slice 57 (Operand.tmp 23) (some (Operand.tmp 24)) none none) 57 [(Operand.tmp 23, SV.var 0), (Operand.tmp 24, SV.int IntKind.i64
 (IE.var 2))] [Base.slice] (SV.var 5) (VC.gen (Op.call { callee := Callee.builtin Builtin.append, args := #[Operand.tmp 22, Operand.tmp 25], argTypes := #[57, 57] }) 57 [(Operand.tmp 22, SV.var 4), (Operand.tmp 25,
 SV.var 5)] [Base.slice] (SV.var 6) [] true [] [] [] [] (VC.start false [] [] [] (VC.pur (Op.slice 57 (Operand.tmp 27) (some (Operand.tmp 29)) (some (Operand.tmp 30)) none) 57 [(Operand.tmp 27, SV.var 6), (Operand.tmp
 29, SV.int IntKind.i64 (IE.len 6)), (Operand.tmp 30, SV.int IntKind.i64 (IE.len 0))] [Base.slice] (SV.var 7) (VC.gen (Op.call { callee := Callee.builtin Builtin.clear, args := #[Operand.tmp 31], argTypes := #[57] }) 0
 [(Operand.tmp 31, SV.var 7)] [] (SV.tuple []) [] false [] [] [] [] (VC.leaf 0 [SV.var 6] [] [])))))))))) := by kernel_rfl

theorem t64 : exFn { P := Try.prog } 64 [.var 0, .int .i64 (.var 1), .int .i64 (.var 2)] [.slice, .int .i64, .int .i64] [] = VC.start false [] [] [] (VC.pur (Op.slice 35 (Operand.tmp 8) (some (Operand.tmp 9)) (some
 (Operand.tmp 10)) (some (Operand.tmp 12))) 35 [(Operand.tmp 8, SV.var 0), (Operand.tmp 9, SV.int IntKind.i64 (IE.var 1)), (Operand.tmp 10, SV.int IntKind.i64 (IE.var 2)), (Operand.tmp 12, SV.int IntKind.i64 (IE.len 0))]
 [Base.slice] (SV.var 3) (VC.split (BE.eq (IE.var 1) (IE.var 2)) (VC.leaf 0 [SV.var 0] [] []) (VC.start true [] [] [] (VC.pur (Op.slice 35 (Operand.tmp 20) none (some (Operand.tmp 21)) none) 35 [(Operand.tmp 20, SV.var
 0), (Operand.tmp 21, SV.int IntKind.i64 (IE.var 1))] [Base.slice] (SV.var 4) (VC.pur (Op.slice 35 (Operand.tmp 23) (some (Operand.tmp 24)) none none) 35 [(Operand.tmp 23, SV.var 0), (Operand.tmp 24, SV.int IntKind.i64
 (IE.var 2))] [Base.slice] (SV.var 5) (VC.gen (Op.call { callee := Callee.builtin Builtin.append, args := #[Operand.tmp 22, Operand.tmp 25], argTypes := #[35, 35] }) 35 [(Operand.tmp 22, SV.var 4), (Operand.tmp 25,
 SV.var 5)] [Base.slice] (SV.var 6) [] true [] [] [] [] (VC.start false [] [] [] (VC.pur (Op.slice 35 (Operand.tmp 27) (some (Operand.tmp 29)) (some (Operand.tmp 30)) none) 35 [(Operand.tmp 27, SV.var 6), (Operand.tmp
 29, SV.int IntKind.i64 (IE.len 6)), (Operand.tmp 30, SV.int IntKind.i64 (IE.len 0))] [Base.slice] (SV.var 7) (VC.gen (Op.call { callee := Callee.builtin Builtin.clear, args := #[Operand.tmp 31], argTypes := #[35] }) 0
 [(Operand.tmp 31, SV.var 7)] [] (SV.tuple []) [] false [] [] [] [] (VC.leaf 0 [SV.var 6] [] [])))))))))) := by kernel_rfl

theorem t43 : exFn { P := Try.prog } 43 [.var 0, .var 1] [.slice, .func] [] = VC.blk (VC.call 59 [SV.var 0, SV.var 1] [Base.int IntKind.i64] (SV.int IntKind.i64 (IE.var 3)) [] false [] [] [2] [(2, [SV.int IntKind.u8
 (IE.lit 0), SV.int IntKind.u8 (IE.lit 0), SV.int IntKind.u8 (IE.lit 0)])] (VC.split (BE.lt (IE.var 3) (IE.lit 0)) (VC.start true [] [2] [(2, [SV.int IntKind.u8 (IE.lit 0), SV.int IntKind.u8 (IE.lit 0), SV.int IntKind.u8
 (IE.lit 0)])] (VC.leaf 0 [SV.tuple [SV.var 0, SV.agg [SV.int IntKind.u8 (IE.lit 0), SV.int IntKind.u8 (IE.lit 0), SV.int IntKind.u8 (IE.lit 0)], SV.bool (BE.lit false)]] [2] [(2, [SV.int IntKind.u8 (IE.lit 0), SV.int
 IntKind.u8 (IE.lit 0), SV.int IntKind.u8 (IE.lit 0)])])) (VC.start true [] [2] [(2, [SV.int IntKind.u8 (IE.lit 0), SV.int IntKind.u8 (IE.lit 0), SV.int IntKind.u8 (IE.lit 0)])] (VC.ob (BE.le (IE.lit
 (-9223372036854775808)) (IE.add (IE.var 3) (IE.lit 1))) (VC.ob (BE.le (IE.add (IE.var 3) (IE.lit 1)) (IE.lit 9223372036854775807)) (VC.ob (BE.le (IE.lit 0) (IE.var 3)) (VC.ob (BE.lt (IE.var 3) (IE.len 0)) (VC.ob (BE.not
 (BE.nil 0)) (VC.load (SV.elt 0 0 (IE.var 3) 3 0) [Base.int IntKind.u8, Base.int IntKind.u8, Base.int IntKind.u8] (VC.call 36 [SV.var 0] [Base.slice] (SV.var 7) [] true [] [] [2] [(2, [SV.int IntKind.u8 (IE.lit 0),
 SV.int IntKind.u8 (IE.lit 0), SV.int IntKind.u8 (IE.lit 0)])] (VC.call 61 [SV.var 7, SV.int IntKind.i64 (IE.var 3), SV.int IntKind.i64 (IE.add (IE.var 3) (IE.lit 1))] [Base.slice] (SV.var 8) [] true [] [] [2] [(2,
 [SV.int IntKind.u8 (IE.lit 0), SV.int IntKind.u8 (IE.lit 0), SV.int IntKind.u8 (IE.lit 0)])] (VC.leaf 0 [SV.tuple [SV.var 8, SV.agg [SV.int IntKind.u8 (IE.var 4), SV.int IntKind.u8 (IE.var 5), SV.int IntKind.u8 (IE.var
 6)], SV.bool (BE.lit true)]] [2] [(2, [SV.int IntKind.u8 (IE.var 4), SV.int IntKind.u8 (IE.var 5), SV.int IntKind.u8 (IE.var 6)])])))))))))))) := by kernel_rfl

theorem t57 : exFn { P := Try.prog } 57 [.var 0, .var 1] [.slice, .func] [] = VC.call 63 [SV.var 0, SV.var 1] [Base.int IntKind.i64] (SV.int IntKind.i64 (IE.var 2)) [] false [] [] [] [] (VC.split (BE.lt (IE.var 2)
 (IE.lit 0)) (VC.leaf 0 [SV.tuple [SV.var 0, SV.int IntKind.u16 (IE.lit 0), SV.bool (BE.lit false)]] [] []) (VC.start true [] [] [] (VC.ob (BE.le (IE.lit (-9223372036854775808)) (IE.add (IE.var 2) (IE.lit 1))) (VC.ob
 (BE.le (IE.add (IE.var 2) (IE.lit 1)) (IE.lit 9223372036854775807)) (VC.ob (BE.le (IE.lit 0) (IE.var 2)) (VC.ob (BE.lt (IE.var 2) (IE.len 0)) (VC.ob (BE.not (BE.nil 0)) (VC.load (SV.elt 0 0 (IE.var 2) 1 0) [Base.int
 IntKind.u16] (VC.call 42 [SV.var 0] [Base.slice] (SV.var 4) [] true [] [] [] [] (VC.call 64 [SV.var 4, SV.int IntKind.i64 (IE.var 2), SV.int IntKind.i64 (IE.add (IE.var 2) (IE.lit 1))] [Base.slice] (SV.var 5) [] true []
 [] [] [] (VC.leaf 0 [SV.tuple [SV.var 5, SV.int IntKind.u16 (IE.var 3), SV.bool (BE.lit true)]] [] []))))))))))) := by kernel_rfl

theorem t44 : exFn { P := Try.prog } 44 [.agg [.int .u8 (.var 0), .int .u8 (.var 1), .int .u8 (.var 2)], .ptr 3 0] [.int .u8, .int .u8, .int .u8, .ptr] [] = VC.blk (VC.start true [] [4] [(4, [SV.int IntKind.u8 (IE.var
 0), SV.int IntKind.u8 (IE.var 1), SV.int IntKind.u8 (IE.var 2)])] (VC.load (SV.ptr 3 0) [Base.ptr] (VC.ob (BE.not (BE.nil 5)) (VC.load (SV.ptr 5 4) [Base.map] (VC.gen (Op.lookup 69 (Operand.tmp 10) (Operand.tmp 12)
 true) 88 [(Operand.tmp 10, SV.var 6), (Operand.tmp 12, SV.int IntKind.u8 (IE.var 0))] [Base.int IntKind.u8, Base.bool] (SV.tuple [SV.int IntKind.u8 (IE.var 7), SV.bool (BE.var 8)]) [] true [] [] [4] [(4, [SV.int
 IntKind.u8 (IE.var 0), SV.int IntKind.u8 (IE.var 1), SV.int IntKind.u8 (IE.var 2)])] (VC.leaf 0 [SV.bool (BE.not (BE.var 8))] [] [(4, [SV.int IntKind.u8 (IE.var 0), SV.int IntKind.u8 (IE.var 1), SV.int IntKind.u8
 (IE.var 2)])])))))) := by kernel_rfl

theorem t37 : exFn { P := Try.prog } 37 [.agg [.int .u8 (.var 0), .int .u8 (.var 1), .int .u8 (.var 2)], .ptr 3 0] [.int .u8, .int .u8, .int .u8, .ptr] [] = VC.blk (VC.start false [] [] [(4, [SV.int IntKind.u8 (IE.var
 0), SV.int IntKind.u8 (IE.var 1), SV.int IntKind.u8 (IE.var 2)])] (VC.load (SV.ptr 3 0) [Base.int IntKind.u32] (VC.call 14 [SV.agg [SV.int IntKind.u8 (IE.var 0), SV.int IntKind.u8 (IE.var 1), SV.int IntKind.u8 (IE.var
 2)], SV.int IntKind.u32 (IE.var 5)] [Base.bool] (SV.bool (BE.var 6)) [] false [] [] [4] [(4, [SV.int IntKind.u8 (IE.var 0), SV.int IntKind.u8 (IE.var 1), SV.int IntKind.u8 (IE.var 2)])] (VC.leaf 0 [SV.bool (BE.not
 (BE.var 6))] [] [(4, [SV.int IntKind.u8 (IE.var 0), SV.int IntKind.u8 (IE.var 1), SV.int IntKind.u8 (IE.var 2)])])))) := by kernel_rfl

theorem t58 : exFn { P := Try.prog } 58 [.int .u16 (.var 0), .ptr 1 0] [.int .u16, .ptr] [] = VC.start false [] [] [] (VC.load (SV.ptr 1 0) [Base.int IntKind.u16] (VC.leaf 0 [SV.bool (BE.eq (IE.var 0) (IE.var 2))] []
 [])) := by kernel_rfl

theorem t47 : exFn { P := Try.prog } 47 [.int .u8 (.var 0), .int .u8 (.var 1), .ptr 2 0] [.int .u8, .int .u8, .ptr] [] = VC.start false [] [] [] (VC.load (SV.ptr 2 0) [Base.int IntKind.u8] (VC.leaf 0 [SV.bool (BE.eq
 (IE.var 1) (IE.var 3))] [] [])) := by kernel_rfl

theorem t35 : exFn { P := Try.prog, loops := fun r => if Nat.beq r 5 then some ⟨1, [(5, .int .i64), (6, .int .i64)], []⟩ else none } 35 [.var 0, .var 1] [.slice, .func] [] = VC.call 59 [SV.var 0, SV.var 1] [Base.int
 IntKind.i64] (SV.int IntKind.i64 (IE.var 2)) [] false [] [] [] [] (VC.split (BE.eq (IE.var 2) (IE.lit (-1))) (VC.leaf 0 [SV.var 0] [] []) (VC.ob (BE.le (IE.lit (-9223372036854775808)) (IE.add (IE.var 2) (IE.lit 1)))
 (VC.ob (BE.le (IE.add (IE.var 2) (IE.lit 1)) (IE.lit 9223372036854775807)) (VC.loop 1 [SV.int IntKind.i64 (IE.var 2), SV.int IntKind.i64 (IE.add (IE.var 2) (IE.lit 1))] [Base.int IntKind.i64, Base.int IntKind.i64] [] []
 [] [] (VC.split (BE.lt (IE.var 4) (IE.len 0)) (VC.ob (BE.le (IE.lit 0) (IE.var 4)) (VC.ob (BE.lt (IE.var 4) (IE.len 0)) (VC.ob (BE.not (BE.nil 0)) (VC.start false [] [] [] (VC.load (SV.elt 0 0 (IE.var 4) 3 0) [Base.int
 IntKind.u8, Base.int IntKind.u8, Base.int IntKind.u8] (VC.blk (VC.gen (Op.call { callee := Callee.value (Operand.tmp 26), args := #[Operand.tmp 27], argTypes := #[23] }) 4 [(Operand.tmp 26, SV.var 1), (Operand.tmp 27,
 SV.agg [SV.int IntKind.u8 (IE.var 5), SV.int IntKind.u8 (IE.var 6), SV.int IntKind.u8 (IE.var 7)])] [Base.bool] (SV.bool (BE.var 9)) [] false [8] [] [8] [(8, [SV.int IntKind.u8 (IE.var 5), SV.int IntKind.u8 (IE.var 6),
 SV.int IntKind.u8 (IE.var 7)])] (VC.split (BE.not (BE.var 9)) (VC.ob (BE.le (IE.lit 0) (IE.var 3)) (VC.ob (BE.lt (IE.var 3) (IE.len 0)) (VC.gen (Op.store 23 (Operand.tmp 33) (Operand.tmp 32)) 0 [(Operand.tmp 33, SV.elt
 0 0 (IE.var 3) 3 0), (Operand.tmp 32, SV.agg [SV.int IntKind.u8 (IE.var 5), SV.int IntKind.u8 (IE.var 6), SV.int IntKind.u8 (IE.var 7)])] [] (SV.cst (Value.tuple #[])) [] false [] [] [8] [(8, [SV.int IntKind.u8 (IE.var
 5), SV.int IntKind.u8 (IE.var 6), SV.int IntKind.u8 (IE.var 7)])] (VC.ob (BE.le (IE.lit (-9223372036854775808)) (IE.add (IE.var 3) (IE.lit 1))) (VC.ob (BE.le (IE.add (IE.var 3) (IE.lit 1)) (IE.lit 9223372036854775807))
 (VC.ob (BE.le (IE.lit (-9223372036854775808)) (IE.add (IE.var 4) (IE.lit 1))) (VC.ob (BE.le (IE.add (IE.var 4) (IE.lit 1)) (IE.lit 9223372036854775807)) (VC.leaf 1 [SV.int IntKind.i64 (IE.add (IE.var 3) (IE.lit 1)),
 SV.int IntKind.i64 (IE.add (IE.var 4) (IE.lit 1))] [] [(8, [SV.int IntKind.u8 (IE.var 5), SV.int IntKind.u8 (IE.var 6), SV.int IntKind.u8 (IE.var 7)])])))))))) (VC.ob (BE.le (IE.lit (-9223372036854775808)) (IE.add
 (IE.var 4) (IE.lit 1))) (VC.ob (BE.le (IE.add (IE.var 4) (IE.lit 1)) (IE.lit 9223372036854775807)) (VC.leaf 1 [SV.int IntKind.i64 (IE.var 3), SV.int IntKind.i64 (IE.add (IE.var 4) (IE.lit 1))] [] [(8, [SV.int IntKind.u8
 (IE.var 5), SV.int IntKind.u8 (IE.var 6), SV.int IntKind.u8 (IE.var 7)])]))))))))))) (VC.start false [] [] [] (VC.pur (Op.slice 57 (Operand.tmp 36) (some (Operand.tmp 37)) none none) 57 [(Operand.tmp 36, SV.var 0),
 (Operand.tmp 37, SV.int IntKind.i64 (IE.var 3))] [Base.slice] (SV.var 5) (VC.gen (Op.call { callee := Callee.builtin Builtin.clear, args := #[Operand.tmp 38], argTypes := #[57] }) 0 [(Operand.tmp 38, SV.var 5)] []
 (SV.tuple []) [] false [] [] [] [] (VC.start false [] [] [] (VC.pur (Op.slice 57 (Operand.tmp 39) none (some (Operand.tmp 40)) none) 57 [(Operand.tmp 39, SV.var 0), (Operand.tmp 40, SV.int IntKind.i64 (IE.var 3))]
 [Base.slice] (SV.var 6) (VC.leaf 0 [SV.var 6] [] []))))))))))) := by kernel_rfl

theorem t32 : exFn { P := Try.prog, loops := fun r => if Nat.beq r 4 then some ⟨1, [(5, .int .i64)], []⟩ else none } 32 [.var 0, .var 1] [.slice, .slice] [] = VC.split (BE.not (BE.eq (IE.len 0) (IE.len 1))) (VC.leaf 0
 [SV.bool (BE.lit false)] [] []) (VC.loop 1 [SV.int IntKind.i64 (IE.lit 0)] [Base.int IntKind.i64] [] [] [] [] (VC.split (BE.lt (IE.var 2) (IE.len 0)) (VC.start true [] [] [] (VC.ob (BE.le (IE.lit 0) (IE.var 2)) (VC.ob
 (BE.lt (IE.var 2) (IE.len 0)) (VC.ob (BE.not (BE.nil 0)) (VC.load (SV.elt 0 0 (IE.var 2) 2 0) [Base.int IntKind.u16, Base.int IntKind.u32] (VC.ob (BE.le (IE.lit 0) (IE.var 2)) (VC.ob (BE.lt (IE.var 2) (IE.len 1)) (VC.ob
 (BE.not (BE.nil 1)) (VC.load (SV.elt 1 0 (IE.var 2) 2 0) [Base.int IntKind.u16, Base.int IntKind.u32] (VC.pur (Op.binOp BinOp.neq 49 (Operand.tmp 20) (Operand.tmp 24) 49) 4 [(Operand.tmp 20, SV.agg [SV.int IntKind.u16
 (IE.var 3), SV.int IntKind.u32 (IE.var 4)]), (Operand.tmp 24, SV.agg [SV.int IntKind.u16 (IE.var 5), SV.int IntKind.u32 (IE.var 6)])] [Base.bool] (SV.bool (BE.var 7)) (VC.split (BE.var 7) (VC.leaf 0 [SV.bool (BE.lit
 false)] [] []) (VC.ob (BE.le (IE.lit (-9223372036854775808)) (IE.add (IE.var 2) (IE.lit 1))) (VC.ob (BE.le (IE.add (IE.var 2) (IE.lit 1)) (IE.lit 9223372036854775807)) (VC.leaf 1 [SV.int IntKind.i64 (IE.add (IE.var 2)
 (IE.lit 1))] [] [])))))))))))))) (VC.leaf 0 [SV.bool (BE.lit true)] [] []))) := by kernel_rfl

end Go.Proofs.Ytfjlnfgbfclgbaa
