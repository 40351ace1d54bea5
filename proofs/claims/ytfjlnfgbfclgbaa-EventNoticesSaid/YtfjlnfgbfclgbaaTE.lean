/- What the functions of the chapter come to, printed by a program of the prover's and checked by the kernel. No conditions. -/
import Derived.Test.YtfjlnfgbfclgbaaSxZI
import Derived.Test.YtfjlnfgbfclgbaaProg
import Derived.KernelRfl
set_option maxRecDepth 100000
set_option linter.unusedVariables false
namespace Go.Proofs.Ytfjlnfgbfclgbaa
open Go.Sx

theorem t21 : exFn { P := Try.prog, ranged := true, ranges := fun t => if Nat.beq t 15 then some ⟨2, [23], []⟩ else none } 21 [.ptr 0 0, .agg [.int .u8 (.var 6), .int .u8 (.var 7), .int .u8 (.var 8)]] [.ptr, .int .i64,
 .int .u32, .slice, .slice, .map, .int .u8, .int .u8, .int .u8] [(0, [.int .i64 (.var 1), .int .u32 (.var 2), .var 3, .var 4, .var 5])] = VC.blk (VC.blk (VC.blk (VC.call 39 [SV.ptr 0 0] [Base.bool] (SV.bool (BE.var 12))
 [] false [] [] [11, 10, 9, 0] [(11, [SV.int IntKind.i64 (IE.lit 0)]), (10, [SV.bool (BE.lit false)]), (9, [SV.int IntKind.u8 (IE.var 6), SV.int IntKind.u8 (IE.var 7), SV.int IntKind.u8 (IE.var 8)]), (0, [SV.int
 IntKind.i64 (IE.var 1), SV.int IntKind.u32 (IE.var 2), SV.var 3, SV.var 4, SV.var 5])] (VC.split (BE.var 12) (VC.leafM 0 [SV.tuple [SV.bool (BE.lit false), SV.int IntKind.i64 (IE.lit 1)]] [11, 10] [(11, [SV.int
 IntKind.i64 (IE.lit 1)]), (10, [SV.bool (BE.lit false)]), (9, [SV.int IntKind.u8 (IE.var 6), SV.int IntKind.u8 (IE.var 7), SV.int IntKind.u8 (IE.var 8)]), (0, [SV.int IntKind.i64 (IE.var 1), SV.int IntKind.u32 (IE.var
 2), SV.var 3, SV.var 4, SV.var 5])]) (VC.call 12 [SV.agg [SV.int IntKind.u8 (IE.var 6), SV.int IntKind.u8 (IE.var 7), SV.int IntKind.u8 (IE.var 8)]] [Base.bool] (SV.bool (BE.var 13)) [] false [] [] [11, 10, 9, 0] [(11,
 [SV.int IntKind.i64 (IE.lit 0)]), (10, [SV.bool (BE.lit false)]), (9, [SV.int IntKind.u8 (IE.var 6), SV.int IntKind.u8 (IE.var 7), SV.int IntKind.u8 (IE.var 8)]), (0, [SV.int IntKind.i64 (IE.var 1), SV.int IntKind.u32
 (IE.var 2), SV.var 3, SV.var 4, SV.var 5])] (VC.split (BE.not (BE.var 13)) (VC.leafM 0 [SV.tuple [SV.bool (BE.lit false), SV.int IntKind.i64 (IE.lit 2)]] [11, 10] [(11, [SV.int IntKind.i64 (IE.lit 2)]), (10, [SV.bool
 (BE.lit false)]), (9, [SV.int IntKind.u8 (IE.var 6), SV.int IntKind.u8 (IE.var 7), SV.int IntKind.u8 (IE.var 8)]), (0, [SV.int IntKind.i64 (IE.var 1), SV.int IntKind.u32 (IE.var 2), SV.var 3, SV.var 4, SV.var 5])])
 (VC.call 24 [SV.ptr 0 0] [Base.func] (SV.var 14) [] false [] [] [11, 10, 9, 0] [(11, [SV.int IntKind.i64 (IE.lit 0)]), (10, [SV.bool (BE.lit false)]), (9, [SV.int IntKind.u8 (IE.var 6), SV.int IntKind.u8 (IE.var 7),
 SV.int IntKind.u8 (IE.var 8)]), (0, [SV.int IntKind.i64 (IE.var 1), SV.int IntKind.u32 (IE.var 2), SV.var 3, SV.var 4, SV.var 5])] (VC.range 2 (SV.var 14) [Base.int IntKind.u8, Base.int IntKind.u8, Base.int IntKind.u8]
 [23] [] [] [] [11, 10, 9, 0] [(11, [SV.int IntKind.i64 (IE.lit 0)]), (10, [SV.bool (BE.lit false)]), (9, [SV.int IntKind.u8 (IE.var 6), SV.int IntKind.u8 (IE.var 7), SV.int IntKind.u8 (IE.var 8)]), (0, [SV.int
 IntKind.i64 (IE.var 1), SV.int IntKind.u32 (IE.var 2), SV.var 3, SV.var 4, SV.var 5])] [(11, [SV.int IntKind.i64 (IE.lit 0)]), (10, [SV.bool (BE.lit false)]), (9, [SV.int IntKind.u8 (IE.var 6), SV.int IntKind.u8 (IE.var
 7), SV.int IntKind.u8 (IE.var 8)]), (0, [SV.int IntKind.i64 (IE.var 1), SV.int IntKind.u32 (IE.var 2), SV.var 3, SV.var 4, SV.var 5])] (VC.blk (VC.split (BE.eq (IE.var 15) (IE.var 6)) (VC.split (BE.eq (IE.var 16)
 (IE.var 7)) (VC.resume [11, 10] [18, 11, 10, 9, 0] [(18, [SV.int IntKind.u8 (IE.var 15), SV.int IntKind.u8 (IE.var 16), SV.int IntKind.u8 (IE.var 17)]), (11, [SV.int IntKind.i64 (IE.lit 0)]), (10, [SV.bool (BE.lit
 false)]), (9, [SV.int IntKind.u8 (IE.var 6), SV.int IntKind.u8 (IE.var 7), SV.int IntKind.u8 (IE.var 8)]), (0, [SV.int IntKind.i64 (IE.var 1), SV.int IntKind.u32 (IE.var 2), SV.var 3, SV.var 4, SV.var 5])] (VC.leafM 0
 [SV.tuple [SV.bool (BE.lit false), SV.int IntKind.i64 (IE.lit 0)]] [] [(18, [SV.int IntKind.u8 (IE.var 15), SV.int IntKind.u8 (IE.var 16), SV.int IntKind.u8 (IE.var 17)]), (11, [SV.int IntKind.i64 (IE.lit 0)]), (10,
 [SV.bool (BE.lit false)]), (9, [SV.int IntKind.u8 (IE.var 6), SV.int IntKind.u8 (IE.var 7), SV.int IntKind.u8 (IE.var 8)]), (0, [SV.int IntKind.i64 (IE.var 1), SV.int IntKind.u32 (IE.var 2), SV.var 3, SV.var 4, SV.var
 5])])) (VC.leaf 2 [] [] [(18, [SV.int IntKind.u8 (IE.var 15), SV.int IntKind.u8 (IE.var 16), SV.int IntKind.u8 (IE.var 17)]), (11, [SV.int IntKind.i64 (IE.lit 0)]), (10, [SV.bool (BE.lit false)]), (9, [SV.int IntKind.u8
 (IE.var 6), SV.int IntKind.u8 (IE.var 7), SV.int IntKind.u8 (IE.var 8)]), (0, [SV.int IntKind.i64 (IE.var 1), SV.int IntKind.u32 (IE.var 2), SV.var 3, SV.var 4, SV.var 5])])) (VC.leaf 2 [] [] [(18, [SV.int IntKind.u8
 (IE.var 15), SV.int IntKind.u8 (IE.var 16), SV.int IntKind.u8 (IE.var 17)]), (11, [SV.int IntKind.i64 (IE.lit 0)]), (10, [SV.bool (BE.lit false)]), (9, [SV.int IntKind.u8 (IE.var 6), SV.int IntKind.u8 (IE.var 7), SV.int
 IntKind.u8 (IE.var 8)]), (0, [SV.int IntKind.i64 (IE.var 1), SV.int IntKind.u32 (IE.var 2), SV.var 3, SV.var 4, SV.var 5])]))) (VC.start true [] [11, 10, 9, 0] [(11, [SV.int IntKind.i64 (IE.lit 0)]), (10, [SV.bool
 (BE.lit false)]), (9, [SV.int IntKind.u8 (IE.var 6), SV.int IntKind.u8 (IE.var 7), SV.int IntKind.u8 (IE.var 8)]), (0, [SV.int IntKind.i64 (IE.var 1), SV.int IntKind.u32 (IE.var 2), SV.var 3, SV.var 4, SV.var 5])]
 (VC.call 14 [SV.agg [SV.int IntKind.u8 (IE.var 6), SV.int IntKind.u8 (IE.var 7), SV.int IntKind.u8 (IE.var 8)], SV.int IntKind.u32 (IE.var 2)] [Base.bool] (SV.bool (BE.var 15)) [] true [] [] [11, 10, 9, 0] [(11, [SV.int
 IntKind.i64 (IE.lit 0)]), (10, [SV.bool (BE.lit false)]), (9, [SV.int IntKind.u8 (IE.var 6), SV.int IntKind.u8 (IE.var 7), SV.int IntKind.u8 (IE.var 8)]), (0, [SV.int IntKind.i64 (IE.var 1), SV.int IntKind.u32 (IE.var
 2), SV.var 3, SV.var 4, SV.var 5])] (VC.split (BE.not (BE.var 15)) (VC.leafM 0 [SV.tuple [SV.bool (BE.lit false), SV.int IntKind.i64 (IE.lit 0)]] [11, 10] [(11, [SV.int IntKind.i64 (IE.lit 0)]), (10, [SV.bool (BE.lit
 false)]), (9, [SV.int IntKind.u8 (IE.var 6), SV.int IntKind.u8 (IE.var 7), SV.int IntKind.u8 (IE.var 8)]), (0, [SV.int IntKind.i64 (IE.var 1), SV.int IntKind.u32 (IE.var 2), SV.var 3, SV.var 4, SV.var 5])]) (VC.start
 true [] [11, 10, 9, 0] [(11, [SV.int IntKind.i64 (IE.lit 0)]), (10, [SV.bool (BE.lit false)]), (9, [SV.int IntKind.u8 (IE.var 6), SV.int IntKind.u8 (IE.var 7), SV.int IntKind.u8 (IE.var 8)]), (0, [SV.int IntKind.i64
 (IE.var 1), SV.int IntKind.u32 (IE.var 2), SV.var 3, SV.var 4, SV.var 5])] (VC.both (VC.both (VC.call 36 [SV.var 4] [Base.slice] (SV.var 16) [] true [] [] [11, 10, 9, 0] [(11, [SV.int IntKind.i64 (IE.lit 0)]), (10,
 [SV.bool (BE.lit false)]), (9, [SV.int IntKind.u8 (IE.var 6), SV.int IntKind.u8 (IE.var 7), SV.int IntKind.u8 (IE.var 8)]), (0, [SV.int IntKind.i64 (IE.var 1), SV.int IntKind.u32 (IE.var 2), SV.var 3, SV.var 4, SV.var
 5])] (VC.blk (VC.gen (Op.call { callee := Callee.builtin Builtin.append, args := #[Operand.tmp 41, Operand.tmp 43], argTypes := #[57, 57] }) 57 [(Operand.tmp 41, SV.var 16), (Operand.tmp 43, SV.slc 17 0 1 1)]
 [Base.slice] (SV.var 18) [] true [] [] [17, 11, 10, 9, 0] [(17, [SV.int IntKind.u8 (IE.var 6), SV.int IntKind.u8 (IE.var 7), SV.int IntKind.u8 (IE.var 8)]), (11, [SV.int IntKind.i64 (IE.lit 0)]), (10, [SV.bool (BE.lit
 false)]), (9, [SV.int IntKind.u8 (IE.var 6), SV.int IntKind.u8 (IE.var 7), SV.int IntKind.u8 (IE.var 8)]), (0, [SV.int IntKind.i64 (IE.var 1), SV.int IntKind.u32 (IE.var 2), SV.var 3, SV.var 4, SV.var 5])] (VC.leafM 0
 [SV.tuple [SV.bool (BE.lit true), SV.int IntKind.i64 (IE.lit 0)]] [11, 10, 0] [(17, [SV.int IntKind.u8 (IE.var 6), SV.int IntKind.u8 (IE.var 7), SV.int IntKind.u8 (IE.var 8)]), (11, [SV.int IntKind.i64 (IE.lit 0)]),
 (10, [SV.bool (BE.lit true)]), (9, [SV.int IntKind.u8 (IE.var 6), SV.int IntKind.u8 (IE.var 7), SV.int IntKind.u8 (IE.var 8)]), (0, [SV.int IntKind.i64 (IE.var 1), SV.int IntKind.u32 (IE.var 2), SV.var 3, SV.var 18,
 SV.var 5])])))) (VC.blk (VC.call 36 [SV.var 4] [Base.slice] (SV.var 17) [] true [] [] [16, 11, 10, 9, 0] [(16, [SV.int IntKind.u8 (IE.var 6), SV.int IntKind.u8 (IE.var 7), SV.int IntKind.u8 (IE.var 8)]), (11, [SV.int
 IntKind.i64 (IE.lit 0)]), (10, [SV.bool (BE.lit false)]), (9, [SV.int IntKind.u8 (IE.var 6), SV.int IntKind.u8 (IE.var 7), SV.int IntKind.u8 (IE.var 8)]), (0, [SV.int IntKind.i64 (IE.var 1), SV.int IntKind.u32 (IE.var
 2), SV.var 3, SV.var 4, SV.var 5])] (VC.gen (Op.call { callee := Callee.builtin Builtin.append, args := #[Operand.tmp 41, Operand.tmp 43], argTypes := #[57, 57] }) 57 [(Operand.tmp 41, SV.var 17), (Operand.tmp 43,
 SV.slc 16 0 1 1)] [Base.slice] (SV.var 18) [] true [] [] [16, 11, 10, 9, 0] [(16, [SV.int IntKind.u8 (IE.var 6), SV.int IntKind.u8 (IE.var 7), SV.int IntKind.u8 (IE.var 8)]), (11, [SV.int IntKind.i64 (IE.lit 0)]), (10,
 [SV.bool (BE.lit false)]), (9, [SV.int IntKind.u8 (IE.var 6), SV.int IntKind.u8 (IE.var 7), SV.int IntKind.u8 (IE.var 8)]), (0, [SV.int IntKind.i64 (IE.var 1), SV.int IntKind.u32 (IE.var 2), SV.var 3, SV.var 4, SV.var
 5])] (VC.leafM 0 [SV.tuple [SV.bool (BE.lit true), SV.int IntKind.i64 (IE.lit 0)]] [11, 10, 0] [(16, [SV.int IntKind.u8 (IE.var 6), SV.int IntKind.u8 (IE.var 7), SV.int IntKind.u8 (IE.var 8)]), (11, [SV.int IntKind.i64
 (IE.lit 0)]), (10, [SV.bool (BE.lit true)]), (9, [SV.int IntKind.u8 (IE.var 6), SV.int IntKind.u8 (IE.var 7), SV.int IntKind.u8 (IE.var 8)]), (0, [SV.int IntKind.i64 (IE.var 1), SV.int IntKind.u32 (IE.var 2), SV.var 3,
 SV.var 18, SV.var 5])]))))) (VC.blk (VC.call 36 [SV.var 4] [Base.slice] (SV.var 17) [] true [] [] [16, 11, 10, 9, 0] [(16, [SV.int IntKind.u8 (IE.var 6), SV.int IntKind.u8 (IE.var 7), SV.int IntKind.u8 (IE.var 8)]),
 (11, [SV.int IntKind.i64 (IE.lit 0)]), (10, [SV.bool (BE.lit false)]), (9, [SV.int IntKind.u8 (IE.var 6), SV.int IntKind.u8 (IE.var 7), SV.int IntKind.u8 (IE.var 8)]), (0, [SV.int IntKind.i64 (IE.var 1), SV.int
 IntKind.u32 (IE.var 2), SV.var 3, SV.var 4, SV.var 5])] (VC.gen (Op.call { callee := Callee.builtin Builtin.append, args := #[Operand.tmp 41, Operand.tmp 43], argTypes := #[57, 57] }) 57 [(Operand.tmp 41, SV.var 17),
 (Operand.tmp 43, SV.slc 16 0 1 1)] [Base.slice] (SV.var 18) [] true [] [] [16, 11, 10, 9, 0] [(16, [SV.int IntKind.u8 (IE.var 6), SV.int IntKind.u8 (IE.var 7), SV.int IntKind.u8 (IE.var 8)]), (11, [SV.int IntKind.i64
 (IE.lit 0)]), (10, [SV.bool (BE.lit false)]), (9, [SV.int IntKind.u8 (IE.var 6), SV.int IntKind.u8 (IE.var 7), SV.int IntKind.u8 (IE.var 8)]), (0, [SV.int IntKind.i64 (IE.var 1), SV.int IntKind.u32 (IE.var 2), SV.var 3,
 SV.var 4, SV.var 5])] (VC.leafM 0 [SV.tuple [SV.bool (BE.lit true), SV.int IntKind.i64 (IE.lit 0)]] [11, 10, 0] [(16, [SV.int IntKind.u8 (IE.var 6), SV.int IntKind.u8 (IE.var 7), SV.int IntKind.u8 (IE.var 8)]), (11,
 [SV.int IntKind.i64 (IE.lit 0)]), (10, [SV.bool (BE.lit true)]), (9, [SV.int IntKind.u8 (IE.var 6), SV.int IntKind.u8 (IE.var 7), SV.int IntKind.u8 (IE.var 8)]), (0, [SV.int IntKind.i64 (IE.var 1), SV.int IntKind.u32
 (IE.var 2), SV.var 3, SV.var 18, SV.var 5])]))))))))))))))))) := by kernel_rfl

end Go.Proofs.Ytfjlnfgbfclgbaa
