/- What the functions of the chapter come to, printed by a program of the prover's and checked by the kernel. No conditions. -/
import Derived.Test.YtfjlnfgbfclgbaaSxZI
import Derived.Test.YtfjlnfgbfclgbaaProg
import Derived.KernelRfl
set_option maxRecDepth 100000
set_option linter.unusedVariables false
namespace Go.Proofs.Ytfjlnfgbfclgbaa
open Go.Sx

theorem t20 : exFn { P := Try.prog } 20 [.var 0, .int .u16 (.var 1)] [.ptr, .int .u16] [] = VC.blk (VC.call 39 [SV.var 0] [Base.bool] (SV.bool (BE.var 3)) [] false [] [] [2] [(2, [SV.int IntKind.u8 (IE.lit 0), SV.int
 IntKind.u8 (IE.lit 0), SV.bool (BE.lit false), SV.bool (BE.lit false)])] (VC.split (BE.var 3) (VC.call 40 [SV.int IntKind.u16 (IE.lit 6), SV.bool (BE.lit false)] [Base.int IntKind.u8, Base.int IntKind.u8, Base.bool,
 Base.bool] (SV.agg [SV.int IntKind.u8 (IE.var 4), SV.int IntKind.u8 (IE.var 5), SV.bool (BE.var 6), SV.bool (BE.var 7)]) [] false [] [] [2] [(2, [SV.int IntKind.u8 (IE.lit 0), SV.int IntKind.u8 (IE.lit 0), SV.bool
 (BE.lit false), SV.bool (BE.lit false)])] (VC.leaf 0 [SV.agg [SV.int IntKind.u8 (IE.var 4), SV.int IntKind.u8 (IE.var 5), SV.bool (BE.var 6), SV.bool (BE.var 7)]] [2] [(2, [SV.int IntKind.u8 (IE.var 4), SV.int
 IntKind.u8 (IE.var 5), SV.bool (BE.var 6), SV.bool (BE.var 7)])])) (VC.ob (BE.not (BE.nil 0)) (VC.start false [] [] [(2, [SV.int IntKind.u8 (IE.lit 0), SV.int IntKind.u8 (IE.lit 0), SV.bool (BE.lit false), SV.bool
 (BE.lit false)])] (VC.load (SV.ptr 0 2) [Base.slice] (VC.call 41 [SV.var 4, SV.int IntKind.u16 (IE.var 1)] [Base.bool] (SV.bool (BE.var 5)) [] false [] [] [2] [(2, [SV.int IntKind.u8 (IE.lit 0), SV.int IntKind.u8
 (IE.lit 0), SV.bool (BE.lit false), SV.bool (BE.lit false)])] (VC.split (BE.var 5) (VC.call 40 [SV.int IntKind.u16 (IE.lit 3), SV.bool (BE.lit false)] [Base.int IntKind.u8, Base.int IntKind.u8, Base.bool, Base.bool]
 (SV.agg [SV.int IntKind.u8 (IE.var 6), SV.int IntKind.u8 (IE.var 7), SV.bool (BE.var 8), SV.bool (BE.var 9)]) [] false [] [] [2] [(2, [SV.int IntKind.u8 (IE.lit 0), SV.int IntKind.u8 (IE.lit 0), SV.bool (BE.lit false),
 SV.bool (BE.lit false)])] (VC.leaf 0 [SV.agg [SV.int IntKind.u8 (IE.var 6), SV.int IntKind.u8 (IE.var 7), SV.bool (BE.var 8), SV.bool (BE.var 9)]] [2] [(2, [SV.int IntKind.u8 (IE.var 6), SV.int IntKind.u8 (IE.var 7),
 SV.bool (BE.var 8), SV.bool (BE.var 9)])])) (VC.start true [] [2] [(2, [SV.int IntKind.u8 (IE.lit 0), SV.int IntKind.u8 (IE.lit 0), SV.bool (BE.lit false), SV.bool (BE.lit false)])] (VC.load (SV.ptr 0 2) [Base.slice]
 (VC.load (SV.ptr 0 0) [Base.int IntKind.i64] (VC.split (BE.eq (IE.len 6) (IE.var 7)) (VC.call 40 [SV.int IntKind.u16 (IE.lit 261), SV.bool (BE.lit false)] [Base.int IntKind.u8, Base.int IntKind.u8, Base.bool, Base.bool]
 (SV.agg [SV.int IntKind.u8 (IE.var 8), SV.int IntKind.u8 (IE.var 9), SV.bool (BE.var 10), SV.bool (BE.var 11)]) [] false [] [] [2] [(2, [SV.int IntKind.u8 (IE.lit 0), SV.int IntKind.u8 (IE.lit 0), SV.bool (BE.lit
 false), SV.bool (BE.lit false)])] (VC.leaf 0 [SV.agg [SV.int IntKind.u8 (IE.var 8), SV.int IntKind.u8 (IE.var 9), SV.bool (BE.var 10), SV.bool (BE.var 11)]] [2] [(2, [SV.int IntKind.u8 (IE.var 8), SV.int IntKind.u8
 (IE.var 9), SV.bool (BE.var 10), SV.bool (BE.var 11)])])) (VC.start false [] [] [(2, [SV.int IntKind.u8 (IE.lit 0), SV.int IntKind.u8 (IE.lit 0), SV.bool (BE.lit false), SV.bool (BE.lit false)])] (VC.load (SV.ptr 0 2)
 [Base.slice] (VC.call 42 [SV.var 8] [Base.slice] (SV.var 9) [] false [] [] [2] [(2, [SV.int IntKind.u8 (IE.lit 0), SV.int IntKind.u8 (IE.lit 0), SV.bool (BE.lit false), SV.bool (BE.lit false)])] (VC.blk (VC.gen (Op.call
 { callee := Callee.builtin Builtin.append, args := #[Operand.tmp 34, Operand.tmp 36], argTypes := #[35, 35] }) 35 [(Operand.tmp 34, SV.var 9), (Operand.tmp 36, SV.slc 10 0 1 1)] [Base.slice] (SV.var 11) [] false [] []
 [10, 2] [(10, [SV.int IntKind.u16 (IE.var 1)]), (2, [SV.int IntKind.u8 (IE.lit 0), SV.int IntKind.u8 (IE.lit 0), SV.bool (BE.lit false), SV.bool (BE.lit false)])] (VC.gen (Op.store 35 (Operand.tmp 39) (Operand.tmp 37))
 0 [(Operand.tmp 39, SV.ptr 0 2), (Operand.tmp 37, SV.var 11)] [] (SV.cst (Value.tuple #[])) [] false [] [] [10, 2] [(10, [SV.int IntKind.u16 (IE.var 1)]), (2, [SV.int IntKind.u8 (IE.lit 0), SV.int IntKind.u8 (IE.lit 0),
 SV.bool (BE.lit false), SV.bool (BE.lit false)])] (VC.leaf 0 [SV.agg [SV.int IntKind.u8 (IE.lit 0), SV.int IntKind.u8 (IE.lit 0), SV.bool (BE.lit false), SV.bool (BE.lit false)]] [2] [(10, [SV.int IntKind.u16 (IE.var
 1)]), (2, [SV.int IntKind.u8 (IE.lit 0), SV.int IntKind.u8 (IE.lit 0), SV.bool (BE.lit false), SV.bool (BE.lit false)])])))))))))))))))))) := by kernel_rfl

theorem t24 : exFn { P := Try.prog } 24 [.var 0] [.ptr] [] = VC.blk (VC.call 39 [SV.var 0] [Base.bool] (SV.bool (BE.var 2)) [] false [] [] [1] [(1, [SV.cst (Value.slice none 0 0)])] (VC.split (BE.not (BE.var 2)) (VC.ob
 (BE.not (BE.nil 0)) (VC.start false [] [] [(1, [SV.cst (Value.slice none 0 0)])] (VC.load (SV.ptr 0 3) [Base.slice] (VC.call 36 [SV.var 3] [Base.slice] (SV.var 4) [] false [] [] [1] [(1, [SV.cst (Value.slice none 0
 0)])] (VC.leaf 0 [SV.fn 48 [SV.ptr 1 0]] [1] [(1, [SV.var 4])]))))) (VC.leaf 0 [SV.fn 48 [SV.ptr 1 0]] [] [(1, [SV.cst (Value.slice none 0 0)])]))) := by kernel_rfl

theorem t25 : exFn { P := Try.prog } 25 [.var 0] [.ptr] [] = VC.call 39 [SV.var 0] [Base.bool] (SV.bool (BE.var 1)) [] false [] [] [] [] (VC.split (BE.var 1) (VC.leaf 0 [SV.cst (Value.slice none 0 0)] [] []) (VC.ob
 (BE.not (BE.nil 0)) (VC.start false [] [] [] (VC.load (SV.ptr 0 2) [Base.slice] (VC.call 42 [SV.var 2] [Base.slice] (SV.var 3) [] false [] [] [] [] (VC.leaf 0 [SV.var 3] [] [])))))) := by kernel_rfl

theorem t23 : exFn { P := Try.prog } 23 [.var 0, .int .u8 (.var 1)] [.ptr, .int .u8] [] = VC.blk (VC.blk (VC.call 33 [SV.var 0, SV.fn 45 [SV.ptr 2 0, SV.ptr 3 0]] [Base.int IntKind.i64] (SV.int IntKind.i64 (IE.var 4)) []
 false [] [] [3, 2] [(3, [SV.int IntKind.u8 (IE.var 1)]), (2, [SV.var 0])] (VC.leaf 0 [SV.int IntKind.i64 (IE.var 4)] [] [(3, [SV.int IntKind.u8 (IE.var 1)]), (2, [SV.var 0])]))) := by kernel_rfl

theorem t33 : exFn { P := Try.prog } 33 [.var 0, .var 1] [.ptr, .func] [] = VC.call 39 [SV.var 0] [Base.bool] (SV.bool (BE.var 2)) [] false [] [] [] [] (VC.split (BE.var 2) (VC.leaf 0 [SV.int IntKind.i64 (IE.lit 1)] []
 []) (VC.gen (Op.call { callee := Callee.value (Operand.tmp 7), args := #[], argTypes := #[] }) 0 [(Operand.tmp 7, SV.var 1)] [] (SV.tuple []) [] false [] [] [] [] (VC.leaf 0 [SV.int IntKind.i64 (IE.lit 0)] [] []))) :=
 by kernel_rfl

theorem t18 : exFn { P := Try.prog } 18 [.var 0, .int .u32 (.var 1)] [.ptr, .int .u32] [] = VC.blk (VC.blk (VC.call 33 [SV.var 0, SV.fn 34 [SV.ptr 3 0, SV.ptr 2 0]] [Base.int IntKind.i64] (SV.int IntKind.i64 (IE.var 4))
 [] false [] [] [3, 2] [(3, [SV.int IntKind.u32 (IE.var 1)]), (2, [SV.var 0])] (VC.leaf 0 [SV.int IntKind.i64 (IE.var 4)] [] [(3, [SV.int IntKind.u32 (IE.var 1)]), (2, [SV.var 0])]))) := by kernel_rfl

theorem t30 : exFn { P := Try.prog } 30 [.var 0, .int .u16 (.var 1)] [.ptr, .int .u16] [] = VC.blk (VC.call 39 [SV.var 0] [Base.bool] (SV.bool (BE.var 3)) [] false [] [] [2] [(2, [SV.int IntKind.u16 (IE.var 1)])]
 (VC.split (BE.var 3) (VC.leaf 0 [SV.int IntKind.i64 (IE.lit 1)] [] [(2, [SV.int IntKind.u16 (IE.var 1)])]) (VC.ob (BE.not (BE.nil 0)) (VC.start false [] [] [(2, [SV.int IntKind.u16 (IE.var 1)])] (VC.load (SV.ptr 0 2)
 [Base.slice] (VC.call 57 [SV.var 4, SV.fn 58 [SV.ptr 2 0]] [Base.slice, Base.int IntKind.u16, Base.bool] (SV.tuple [SV.var 5, SV.int IntKind.u16 (IE.var 6), SV.bool (BE.var 7)]) [] false [] [] [2] [(2, [SV.int
 IntKind.u16 (IE.var 1)])] (VC.split (BE.not (BE.var 7)) (VC.leaf 0 [SV.int IntKind.i64 (IE.lit 9)] [] [(2, [SV.int IntKind.u16 (IE.var 1)])]) (VC.gen (Op.store 35 (Operand.tmp 25) (Operand.tmp 23)) 0 [(Operand.tmp 25,
 SV.ptr 0 2), (Operand.tmp 23, SV.var 5)] [] (SV.cst (Value.tuple #[])) [] false [] [] [2] [(2, [SV.int IntKind.u16 (IE.var 1)])] (VC.leaf 0 [SV.int IntKind.i64 (IE.lit 0)] [] [(2, [SV.int IntKind.u16 (IE.var
 1)])]))))))))) := by kernel_rfl

theorem t34 : exFn { P := Try.prog } 34 [.ptr 0 0, .ptr 1 0] [.ptr, .ptr] [] = VC.start false [] [] [] (VC.load (SV.ptr 1 0) [Base.ptr] (VC.start false [] [] [] (VC.load (SV.ptr 0 0) [Base.int IntKind.u32] (VC.ob (BE.not
 (BE.nil 2)) (VC.gen (Op.store 24 (Operand.tmp 5) (Operand.tmp 3)) 0 [(Operand.tmp 5, SV.ptr 2 1), (Operand.tmp 3, SV.int IntKind.u32 (IE.var 3))] [] (SV.cst (Value.tuple #[])) [] false [] [] [] [] (VC.start true [] []
 [] (VC.load (SV.ptr 1 0) [Base.ptr] (VC.load (SV.ptr 1 0) [Base.ptr] (VC.ob (BE.not (BE.nil 5)) (VC.load (SV.ptr 5 3) [Base.slice] (VC.call 36 [SV.var 6] [Base.slice] (SV.var 7) [] true [] [] [] [] (VC.call 35 [SV.var
 7, SV.fn 37 [SV.ptr 0 0]] [Base.slice] (SV.var 8) [] true [] [] [] [] (VC.ob (BE.not (BE.nil 4)) (VC.gen (Op.store 57 (Operand.tmp 15) (Operand.tmp 13)) 0 [(Operand.tmp 15, SV.ptr 4 3), (Operand.tmp 13, SV.var 8)] []
 (SV.cst (Value.tuple #[])) [] true [] [] [] [] (VC.leaf 0 [SV.tuple []] [] []))))))))))))))) := by kernel_rfl

theorem t45 : exFn { P := Try.prog } 45 [.ptr 0 0, .ptr 1 0] [.ptr, .ptr] [] = VC.start false [] [] [] (VC.load (SV.ptr 0 0) [Base.ptr] (VC.ob (BE.not (BE.nil 2)) (VC.start false [] [] [] (VC.load (SV.ptr 2 4) [Base.map]
 (VC.call 46 [SV.var 3, SV.fn 47 [SV.ptr 1 0]] [] (SV.tuple []) [] false [] [] [] [] (VC.leaf 0 [SV.tuple []] [] [])))))) := by kernel_rfl

theorem t55 : exFn { P := Try.prog } 55 [.ptr 0 0] [.ptr] [] = VC.start true [] [] [] (VC.load (SV.ptr 0 0) [Base.ptr] (VC.load (SV.ptr 0 0) [Base.ptr] (VC.ob (BE.not (BE.nil 2)) (VC.load (SV.ptr 2 0) [Base.int
 IntKind.i64] (VC.gen (Op.makeMap 69 none) 69 [] [Base.map] (SV.var 4) [] true [] [] [] [] (VC.ob (BE.not (BE.nil 1)) (VC.gen (Op.store 71 (Operand.tmp 8) (Operand.tmp 7)) 0 [(Operand.tmp 8, SV.ptr 1 0), (Operand.tmp 7,
 SV.agg [SV.int IntKind.i64 (IE.var 3), SV.int IntKind.u32 (IE.lit 0), SV.cst (Value.slice none 0 0), SV.cst (Value.slice none 0 0), SV.var 4])] [] (SV.cst (Value.tuple #[])) [] true [] [] [] [] (VC.leaf 0 [SV.tuple []]
 [] [])))))))) := by kernel_rfl

theorem t27 : exFn { P := Try.prog } 27 [.var 0] [.ptr] [] = VC.blk (VC.call 33 [SV.var 0, SV.fn 55 [SV.ptr 1 0]] [Base.int IntKind.i64] (SV.int IntKind.i64 (IE.var 2)) [] false [] [] [1] [(1, [SV.var 0])] (VC.leaf 0
 [SV.int IntKind.i64 (IE.var 2)] [] [(1, [SV.var 0])])) := by kernel_rfl

theorem t28 : exFn { P := Try.prog } 28 [.var 0] [.ptr] [] = VC.call 39 [SV.var 0] [Base.bool] (SV.bool (BE.var 1)) [] false [] [] [] [] (VC.split (BE.var 1) (VC.leaf 0 [SV.cst (Value.pointer none)] [] []) (VC.ob (BE.not
 (BE.nil 0)) (VC.start false [] [] [] (VC.load (SV.ptr 0 0) [Base.int IntKind.i64, Base.int IntKind.u32, Base.slice, Base.slice, Base.map] (VC.blk (VC.start true [7] [7] [(7, [SV.int IntKind.i64 (IE.var 2), SV.int
 IntKind.u32 (IE.var 3), SV.var 4, SV.var 5, SV.var 6])] (VC.load (SV.ptr 0 2) [Base.slice] (VC.load (SV.ptr 0 3) [Base.slice] (VC.load (SV.ptr 0 4) [Base.map] (VC.call 42 [SV.var 8] [Base.slice] (SV.var 11) [] true []
 [] [7] [(7, [SV.int IntKind.i64 (IE.var 2), SV.int IntKind.u32 (IE.var 3), SV.var 4, SV.var 5, SV.var 6])] (VC.call 36 [SV.var 9] [Base.slice] (SV.var 12) [] true [] [] [7] [(7, [SV.int IntKind.i64 (IE.var 2), SV.int
 IntKind.u32 (IE.var 3), SV.var 4, SV.var 5, SV.var 6])] (VC.call 56 [SV.var 10] [Base.map] (SV.var 13) [] true [] [] [7] [(7, [SV.int IntKind.i64 (IE.var 2), SV.int IntKind.u32 (IE.var 3), SV.var 4, SV.var 5, SV.var
 6])] (VC.leaf 0 [SV.ptr 7 0] [7] [(7, [SV.int IntKind.i64 (IE.var 2), SV.int IntKind.u32 (IE.var 3), SV.var 11, SV.var 12, SV.var 13])]))))))))))))) := by kernel_rfl

end Go.Proofs.Ytfjlnfgbfclgbaa
