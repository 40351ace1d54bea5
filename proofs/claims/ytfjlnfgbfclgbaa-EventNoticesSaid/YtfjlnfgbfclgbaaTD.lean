/- What the functions of the chapter come to, printed by a program of the prover's and checked by the kernel. No conditions. -/
import Derived.Test.YtfjlnfgbfclgbaaSxZI
import Derived.Test.YtfjlnfgbfclgbaaProg
import Derived.KernelRfl
set_option maxRecDepth 100000
set_option linter.unusedVariables false
namespace Go.Proofs.Ytfjlnfgbfclgbaa
open Go.Sx

theorem t22 : exFn { P := Try.prog, loops := fun r => if Nat.beq r 1 then some ⟨1, [(2, .slice)], [0]⟩ else none } 22 [.ptr 0 0] [.ptr, .int .i64, .int .u32, .slice, .slice, .map] [(0, [.int .i64 (.var 1), .int .u32
 (.var 2), .var 3, .var 4, .var 5])] = VC.blk (VC.loop 1 [SV.cst (Value.slice none 0 0), SV.int IntKind.i64 (IE.var 1), SV.int IntKind.u32 (IE.var 2), SV.var 3, SV.var 4, SV.var 5] [Base.slice, Base.int IntKind.i64,
 Base.int IntKind.u32, Base.slice, Base.slice, Base.map] [] [6, 0] [(6, [SV.ptr 0 0]), (0, [SV.int IntKind.i64 (IE.var 1), SV.int IntKind.u32 (IE.var 2), SV.var 3, SV.var 4, SV.var 5])] [(6, [SV.ptr 0 0]), (0, [SV.int
 IntKind.i64 (IE.var 8), SV.int IntKind.u32 (IE.var 9), SV.var 10, SV.var 11, SV.var 12])] (VC.call 39 [SV.ptr 0 0] [Base.bool] (SV.bool (BE.var 13)) [] false [] [] [6, 0] [(6, [SV.ptr 0 0]), (0, [SV.int IntKind.i64
 (IE.var 8), SV.int IntKind.u32 (IE.var 9), SV.var 10, SV.var 11, SV.var 12])] (VC.split (BE.not (BE.var 13)) (VC.split (BE.lt (IE.lit 0) (IE.len 10)) (VC.call 43 [SV.var 11, SV.fn 44 [SV.ptr 6 0]] [Base.slice, Base.int
 IntKind.u8, Base.int IntKind.u8, Base.int IntKind.u8, Base.bool] (SV.tuple [SV.var 14, SV.agg [SV.int IntKind.u8 (IE.var 15), SV.int IntKind.u8 (IE.var 16), SV.int IntKind.u8 (IE.var 17)], SV.bool (BE.var 18)]) [] false
 [] [] [6, 0] [(6, [SV.ptr 0 0]), (0, [SV.int IntKind.i64 (IE.var 8), SV.int IntKind.u32 (IE.var 9), SV.var 10, SV.var 11, SV.var 12])] (VC.blk (VC.split (BE.not (BE.var 18)) (VC.leaf 0 [SV.var 7] [19] [(19, [SV.int
 IntKind.u8 (IE.var 15), SV.int IntKind.u8 (IE.var 16), SV.int IntKind.u8 (IE.var 17)]), (6, [SV.ptr 0 0]), (0, [SV.int IntKind.i64 (IE.var 8), SV.int IntKind.u32 (IE.var 9), SV.var 10, SV.var 11, SV.var 12])]) (VC.start
 true [19] [19, 6, 0] [(19, [SV.int IntKind.u8 (IE.var 15), SV.int IntKind.u8 (IE.var 16), SV.int IntKind.u8 (IE.var 17)]), (6, [SV.ptr 0 0]), (0, [SV.int IntKind.i64 (IE.var 8), SV.int IntKind.u32 (IE.var 9), SV.var 10,
 SV.var 11, SV.var 12])] (VC.ob (BE.lt (IE.lit 0) (IE.len 10)) (VC.ob (BE.not (BE.nil 10)) (VC.load (SV.elt 10 0 (IE.lit 0) 1 0) [Base.int IntKind.u16] (VC.call 10 [SV.agg [SV.int IntKind.u8 (IE.var 15), SV.int
 IntKind.u8 (IE.var 16), SV.int IntKind.u8 (IE.var 17)]] [Base.int IntKind.u32] (SV.int IntKind.u32 (IE.var 21)) [] true [] [] [19, 6, 0] [(19, [SV.int IntKind.u8 (IE.var 15), SV.int IntKind.u8 (IE.var 16), SV.int
 IntKind.u8 (IE.var 17)]), (6, [SV.ptr 0 0]), (0, [SV.int IntKind.i64 (IE.var 8), SV.int IntKind.u32 (IE.var 9), SV.var 10, SV.var 11, SV.var 12])] (VC.blk (VC.gen (Op.call { callee := Callee.builtin Builtin.append, args := #[Operand.tmp 29, Operand.tmp 39], argTypes := #[46, 46] })
 46 [(Operand.tmp 29, SV.var 7), (Operand.tmp 39, SV.slc 22 0 1 1)] [Base.slice] (SV.var 23) [] true [] [] [22, 19, 6, 0] [(22, [SV.int IntKind.u16 (IE.var 20), SV.int IntKind.u32 (IE.var 21)]), (19, [SV.int IntKind.u8
 (IE.var 15), SV.int IntKind.u8 (IE.var 16), SV.int IntKind.u8 (IE.var 17)]), (6, [SV.ptr 0 0]), (0, [SV.int IntKind.i64 (IE.var 8), SV.int IntKind.u32 (IE.var 9), SV.var 10, SV.var 11, SV.var 12])] (VC.start true []
 [22, 19, 6, 0] [(22, [SV.int IntKind.u16 (IE.var 20), SV.int IntKind.u32 (IE.var 21)]), (19, [SV.int IntKind.u8 (IE.var 15), SV.int IntKind.u8 (IE.var 16), SV.int IntKind.u8 (IE.var 17)]), (6, [SV.ptr 0 0]), (0, [SV.int
 IntKind.i64 (IE.var 8), SV.int IntKind.u32 (IE.var 9), SV.var 10, SV.var 11, SV.var 12])] (VC.pur (Op.slice 35 (Operand.tmp 46) (some (Operand.const (Value.int IntKind.i64 1))) none none) 35 [(Operand.tmp 46, SV.var
 10), (Operand.const (Value.int IntKind.i64 1), SV.int IntKind.i64 (IE.lit 1))] [Base.slice] (SV.var 24) (VC.start true [0] [22, 19, 6, 0] [(22, [SV.int IntKind.u16 (IE.var 20), SV.int IntKind.u32 (IE.var 21)]), (19,
 [SV.int IntKind.u8 (IE.var 15), SV.int IntKind.u8 (IE.var 16), SV.int IntKind.u8 (IE.var 17)]), (6, [SV.ptr 0 0]), (0, [SV.int IntKind.i64 (IE.var 8), SV.int IntKind.u32 (IE.var 9), SV.var 24, SV.var 14, SV.var 12])]
 (VC.gen (Op.mapUpdate 69 (Operand.tmp 56) (Operand.tmp 58) (Operand.tmp 60)) 0 [(Operand.tmp 56, SV.var 12), (Operand.tmp 58, SV.int IntKind.u8 (IE.var 15)), (Operand.tmp 60, SV.int IntKind.u8 (IE.var 17))] [] (SV.cst
 (Value.tuple #[])) [] true [] [] [22, 19, 6, 0] [(22, [SV.int IntKind.u16 (IE.var 20), SV.int IntKind.u32 (IE.var 21)]), (19, [SV.int IntKind.u8 (IE.var 15), SV.int IntKind.u8 (IE.var 16), SV.int IntKind.u8 (IE.var
 17)]), (6, [SV.ptr 0 0]), (0, [SV.int IntKind.i64 (IE.var 8), SV.int IntKind.u32 (IE.var 9), SV.var 24, SV.var 14, SV.var 12])] (VC.leaf 1 [SV.var 23, SV.int IntKind.i64 (IE.var 8), SV.int IntKind.u32 (IE.var 9), SV.var
 24, SV.var 14, SV.var 12] [] [(22, [SV.int IntKind.u16 (IE.var 20), SV.int IntKind.u32 (IE.var 21)]), (19, [SV.int IntKind.u8 (IE.var 15), SV.int IntKind.u8 (IE.var 16), SV.int IntKind.u8 (IE.var 17)]), (6, [SV.ptr 0
 0]), (0, [SV.int IntKind.i64 (IE.var 8), SV.int IntKind.u32 (IE.var 9), SV.var 24, SV.var 14, SV.var 12])]))))))))))))))) (VC.leaf 0 [SV.var 7] [] [(6, [SV.ptr 0 0]), (0, [SV.int IntKind.i64 (IE.var 8), SV.int
 IntKind.u32 (IE.var 9), SV.var 10, SV.var 11, SV.var 12])])) (VC.leaf 0 [SV.var 7] [] [(6, [SV.ptr 0 0]), (0, [SV.int IntKind.i64 (IE.var 8), SV.int IntKind.u32 (IE.var 9), SV.var 10, SV.var 11, SV.var 12])])))) := by
 kernel_rfl

end Go.Proofs.Ytfjlnfgbfclgbaa
