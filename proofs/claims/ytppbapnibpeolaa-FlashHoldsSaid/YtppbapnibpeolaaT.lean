/- What the functions of the chapter come to, printed by a program of the prover's and checked by the kernel. No conditions. -/
import Derived.Test.YtppbapnibpeolaaSxZI
import Derived.Test.YtppbapnibpeolaaProg
import Derived.KernelRfl
set_option maxRecDepth 100000
set_option linter.unusedVariables false
namespace Go.Proofs.Ytppbapnibpeolaa
open Go.Sx

theorem t8 : exFn { P := Try.prog } 8 [.agg [.int .i64 (.var 0), .int .i64 (.var 1), .int .i64 (.var 2), .int .i64 (.var 3)]] [.int .i64, .int .i64, .int .i64, .int .i64] [] =
  VC.blk
  (VC.call 10 [SV.agg [SV.int IntKind.i64 (IE.var 0), SV.int IntKind.i64 (IE.var 1), SV.int IntKind.i64 (IE.var 2), SV.int IntKind.i64 (IE.var 3)]] [Base.bool] (SV.bool (BE.var 5)) [] false [] [] [4]
    [(4, [SV.int IntKind.i64 (IE.var 0), SV.int IntKind.i64 (IE.var 1), SV.int IntKind.i64 (IE.var 2), SV.int IntKind.i64 (IE.var 3)])]
    (VC.split (BE.not (BE.var 5))
      (VC.leaf 0 [SV.bool (BE.lit true)] [] [(4, [SV.int IntKind.i64 (IE.var 0), SV.int IntKind.i64 (IE.var 1), SV.int IntKind.i64 (IE.var 2), SV.int IntKind.i64 (IE.var 3)])])
      (VC.split (BE.le (IE.var 0) (IE.lit 8))
        (VC.split (BE.le (IE.var 1) (IE.lit 8))
          (VC.leaf 0 [SV.bool (BE.le (IE.var 2) (IE.lit 40))] [] [(4, [SV.int IntKind.i64 (IE.var 0), SV.int IntKind.i64 (IE.var 1), SV.int IntKind.i64 (IE.var 2), SV.int IntKind.i64 (IE.var 3)])])
          (VC.leaf 0 [SV.bool (BE.lit false)] [] [(4, [SV.int IntKind.i64 (IE.var 0), SV.int IntKind.i64 (IE.var 1), SV.int IntKind.i64 (IE.var 2), SV.int IntKind.i64 (IE.var 3)])]))
        (VC.leaf 0 [SV.bool (BE.lit false)] [] [(4, [SV.int IntKind.i64 (IE.var 0), SV.int IntKind.i64 (IE.var 1), SV.int IntKind.i64 (IE.var 2), SV.int IntKind.i64 (IE.var 3)])])))) := by kernel_rfl

theorem t10 : exFn { P := Try.prog } 10 [.agg [.int .i64 (.var 0), .int .i64 (.var 1), .int .i64 (.var 2), .int .i64 (.var 3)]] [.int .i64, .int .i64, .int .i64, .int .i64] [] =
  VC.blk
  (VC.split (BE.le (IE.lit 2) (IE.var 0))
    (VC.split (BE.le (IE.var 0) (IE.lit 4096))
      (VC.split (BE.le (IE.lit 2) (IE.var 1))
        (VC.split (BE.le (IE.var 1) (IE.lit 512))
          (VC.split (BE.le (IE.lit 1) (IE.var 2))
            (VC.split (BE.le (IE.var 2) (IE.lit 8192))
              (VC.split (BE.le (IE.lit 1) (IE.var 3))
                (VC.leaf 0 [SV.bool (BE.le (IE.var 3) (IE.lit 1048576))] []
                  [(4, [SV.int IntKind.i64 (IE.var 0), SV.int IntKind.i64 (IE.var 1), SV.int IntKind.i64 (IE.var 2), SV.int IntKind.i64 (IE.var 3)])])
                (VC.leaf 0 [SV.bool (BE.lit false)] [] [(4, [SV.int IntKind.i64 (IE.var 0), SV.int IntKind.i64 (IE.var 1), SV.int IntKind.i64 (IE.var 2), SV.int IntKind.i64 (IE.var 3)])]))
              (VC.leaf 0 [SV.bool (BE.lit false)] [] [(4, [SV.int IntKind.i64 (IE.var 0), SV.int IntKind.i64 (IE.var 1), SV.int IntKind.i64 (IE.var 2), SV.int IntKind.i64 (IE.var 3)])]))
            (VC.leaf 0 [SV.bool (BE.lit false)] [] [(4, [SV.int IntKind.i64 (IE.var 0), SV.int IntKind.i64 (IE.var 1), SV.int IntKind.i64 (IE.var 2), SV.int IntKind.i64 (IE.var 3)])]))
          (VC.leaf 0 [SV.bool (BE.lit false)] [] [(4, [SV.int IntKind.i64 (IE.var 0), SV.int IntKind.i64 (IE.var 1), SV.int IntKind.i64 (IE.var 2), SV.int IntKind.i64 (IE.var 3)])]))
        (VC.leaf 0 [SV.bool (BE.lit false)] [] [(4, [SV.int IntKind.i64 (IE.var 0), SV.int IntKind.i64 (IE.var 1), SV.int IntKind.i64 (IE.var 2), SV.int IntKind.i64 (IE.var 3)])]))
      (VC.leaf 0 [SV.bool (BE.lit false)] [] [(4, [SV.int IntKind.i64 (IE.var 0), SV.int IntKind.i64 (IE.var 1), SV.int IntKind.i64 (IE.var 2), SV.int IntKind.i64 (IE.var 3)])]))
    (VC.leaf 0 [SV.bool (BE.lit false)] [] [(4, [SV.int IntKind.i64 (IE.var 0), SV.int IntKind.i64 (IE.var 1), SV.int IntKind.i64 (IE.var 2), SV.int IntKind.i64 (IE.var 3)])])) := by kernel_rfl

theorem t18 : exFn { P := Try.prog } 18 [.int .i64 (.var 0)] [.int .i64] [] =
  VC.leaf 0 [SV.int IntKind.i64 (IE.var 0)] [] [] := by kernel_rfl

theorem t30 : exFn { P := Try.prog } 30 [.var 0, .var 1] [.slice, .slice] [] =
  VC.start false [] [] []
  (VC.pur (Op.convert 26 9 (Operand.tmp 5)) 9 [(Operand.tmp 5, SV.var 0)] [Base.any] (SV.var 2)
    (VC.start false [] [] []
      (VC.pur (Op.convert 26 9 (Operand.tmp 7)) 9 [(Operand.tmp 7, SV.var 1)] [Base.any] (SV.var 3)
        (VC.start false [] [] []
          (VC.pur (Op.binOp BinOp.eql 9 (Operand.tmp 6) (Operand.tmp 8) 9) 4 [(Operand.tmp 6, SV.var 2), (Operand.tmp 8, SV.var 3)] [Base.bool] (SV.bool (BE.var 4))
            (VC.leaf 0 [SV.bool (BE.var 4)] [] [])))))) := by kernel_rfl

theorem t32 : exFn { P := Try.prog, loops := fun r => if Nat.beq r 3 then some ⟨1, [(6, .int .i64)], []⟩ else none } 32 [.int .i64 (.var 0), .int .u8 (.var 1)] [.int .i64, .int .u8] [] =
  VC.gen (Op.makeSlice 26 (Operand.tmp 7) (Operand.tmp 7)) 26 [(Operand.tmp 7, SV.int IntKind.i64 (IE.var 0)), (Operand.tmp 7, SV.int IntKind.i64 (IE.var 0))] [Base.slice] (SV.var 2) [] false [] [] []
  []
  (VC.loop 1 [SV.int IntKind.i64 (IE.lit 0)] [Base.int IntKind.i64] [] [] [] []
    (VC.split (BE.lt (IE.var 3) (IE.var 0))
      (VC.ob (BE.le (IE.lit 0) (IE.var 3))
        (VC.ob (BE.lt (IE.var 3) (IE.len 2))
          (VC.ob (BE.not (BE.nil 2))
            (VC.gen (Op.store 5 (Operand.tmp 17) (Operand.tmp 16)) 0 [(Operand.tmp 17, SV.elt 2 0 (IE.var 3) 1 0), (Operand.tmp 16, SV.int IntKind.u8 (IE.var 1))] [] (SV.cst (Value.tuple #[])) []
              false [] [] [] []
              (VC.ob (BE.le (IE.lit (-9223372036854775808)) (IE.add (IE.var 3) (IE.lit 1)))
                (VC.ob (BE.le (IE.add (IE.var 3) (IE.lit 1)) (IE.lit 9223372036854775807)) (VC.leaf 1 [SV.int IntKind.i64 (IE.add (IE.var 3) (IE.lit 1))] [] [])))))))
      (VC.leaf 0 [SV.var 2] [] []))) := by kernel_rfl

theorem t33 : exFn { P := Try.prog } 33 [.var 0] [.ptr] [] =
  VC.split (BE.nil 0) (VC.leaf 0 [SV.bool (BE.lit true)] [] []) (VC.start false [] [] [] (VC.load (SV.ptr 0 5) [Base.slice] (VC.leaf 0 [SV.bool (BE.nil 1)] [] []))) := by kernel_rfl

theorem t53 : exFn { P := Try.prog } 53 [.var 0, .int .i64 (.var 1)] [.ptr, .int .i64] [] =
  VC.split (BE.le (IE.lit 0) (IE.var 1)) (VC.ob (BE.not (BE.nil 0)) (VC.start false [] [] [] (VC.load (SV.ptr 0 5) [Base.slice] (VC.leaf 0 [SV.bool (BE.lt (IE.var 1) (IE.len 2))] [] []))))
  (VC.leaf 0 [SV.bool (BE.lit false)] [] []) := by kernel_rfl

theorem t34 : exFn { P := Try.prog } 34 [.var 0, .int .i64 (.var 1), .int .i64 (.var 2)] [.ptr, .int .i64, .int .i64] [] =
  VC.call 53 [SV.var 0, SV.int IntKind.i64 (IE.var 1)] [Base.bool] (SV.bool (BE.var 3)) [] false [] [] [] []
  (VC.split (BE.var 3)
    (VC.split (BE.le (IE.lit 0) (IE.var 2))
      (VC.ob (BE.not (BE.nil 0)) (VC.start false [] [] [] (VC.load (SV.ptr 0 1) [Base.int IntKind.i64] (VC.leaf 0 [SV.bool (BE.lt (IE.var 2) (IE.var 4))] [] []))))
      (VC.leaf 0 [SV.bool (BE.lit false)] [] []))
    (VC.leaf 0 [SV.bool (BE.lit false)] [] [])) := by kernel_rfl

theorem t70 : exFn { P := Try.prog } 70 [.int .i64 (.var 0), .int .i64 (.var 1), .int .i64 (.var 2)] [.int .i64, .int .i64, .int .i64] [] =
  VC.split (BE.le (IE.var 1) (IE.var 0)) (VC.leaf 0 [SV.bool (BE.le (IE.var 0) (IE.var 2))] [] []) (VC.leaf 0 [SV.bool (BE.lit false)] [] []) := by kernel_rfl

theorem t55 : exFn { P := Try.prog } 55 [.agg [.int .i64 (.var 0), .int .i64 (.var 1), .int .i64 (.var 2), .int .i64 (.var 3)]] [.int .i64, .int .i64, .int .i64, .int .i64] [] =
  VC.blk
  (VC.call 70 [SV.int IntKind.i64 (IE.var 0), SV.int IntKind.i64 (IE.lit 2), SV.int IntKind.i64 (IE.lit 4096)] [Base.bool] (SV.bool (BE.var 5)) [] false [] [] [4]
    [(4, [SV.int IntKind.i64 (IE.var 0), SV.int IntKind.i64 (IE.var 1), SV.int IntKind.i64 (IE.var 2), SV.int IntKind.i64 (IE.var 3)])]
    (VC.split (BE.var 5)
      (VC.call 70 [SV.int IntKind.i64 (IE.var 1), SV.int IntKind.i64 (IE.lit 2), SV.int IntKind.i64 (IE.lit 512)] [Base.bool] (SV.bool (BE.var 6)) [] false [] [] [4]
        [(4, [SV.int IntKind.i64 (IE.var 0), SV.int IntKind.i64 (IE.var 1), SV.int IntKind.i64 (IE.var 2), SV.int IntKind.i64 (IE.var 3)])]
        (VC.split (BE.var 6)
          (VC.call 70 [SV.int IntKind.i64 (IE.var 2), SV.int IntKind.i64 (IE.lit 1), SV.int IntKind.i64 (IE.lit 8192)] [Base.bool] (SV.bool (BE.var 7)) [] false [] [] [4]
            [(4, [SV.int IntKind.i64 (IE.var 0), SV.int IntKind.i64 (IE.var 1), SV.int IntKind.i64 (IE.var 2), SV.int IntKind.i64 (IE.var 3)])]
            (VC.split (BE.var 7)
              (VC.call 70 [SV.int IntKind.i64 (IE.var 3), SV.int IntKind.i64 (IE.lit 1), SV.int IntKind.i64 (IE.lit 1048576)] [Base.bool] (SV.bool (BE.var 8)) [] false [] [] [4]
                [(4, [SV.int IntKind.i64 (IE.var 0), SV.int IntKind.i64 (IE.var 1), SV.int IntKind.i64 (IE.var 2), SV.int IntKind.i64 (IE.var 3)])]
                (VC.leaf 0 [SV.bool (BE.var 8)] [] [(4, [SV.int IntKind.i64 (IE.var 0), SV.int IntKind.i64 (IE.var 1), SV.int IntKind.i64 (IE.var 2), SV.int IntKind.i64 (IE.var 3)])]))
              (VC.leaf 0 [SV.bool (BE.lit false)] [] [(4, [SV.int IntKind.i64 (IE.var 0), SV.int IntKind.i64 (IE.var 1), SV.int IntKind.i64 (IE.var 2), SV.int IntKind.i64 (IE.var 3)])])))
          (VC.leaf 0 [SV.bool (BE.lit false)] [] [(4, [SV.int IntKind.i64 (IE.var 0), SV.int IntKind.i64 (IE.var 1), SV.int IntKind.i64 (IE.var 2), SV.int IntKind.i64 (IE.var 3)])])))
      (VC.leaf 0 [SV.bool (BE.lit false)] [] [(4, [SV.int IntKind.i64 (IE.var 0), SV.int IntKind.i64 (IE.var 1), SV.int IntKind.i64 (IE.var 2), SV.int IntKind.i64 (IE.var 3)])]))) := by kernel_rfl

theorem t57 : exFn { P := Try.prog } 57 [.int .i64 (.var 0)] [.int .i64] [] =
  VC.leaf 0 [SV.bool (BE.lt (IE.var 0) (IE.lit 0))] [] [] := by kernel_rfl

theorem t71 : exFn { P := Try.prog, loops := fun r => if Nat.beq r 2 then some ⟨1, [(8, .int .i64)], []⟩ else none } 71 [.var 0, .var 1] [.slice, .func] [] =
  VC.loop 1 [SV.int IntKind.i64 (IE.lit 0)] [Base.int IntKind.i64] [] [] [] []
  (VC.split (BE.lt (IE.var 2) (IE.len 0))
    (VC.ob (BE.le (IE.lit 0) (IE.var 2))
      (VC.ob (BE.lt (IE.var 2) (IE.len 0))
        (VC.ob (BE.not (BE.nil 0))
          (VC.start false [] [] []
            (VC.load (SV.elt 0 0 (IE.var 2) 1 0) [Base.int IntKind.i64]
              (VC.gen (Op.call { callee := Callee.value (Operand.tmp 11), args := #[Operand.tmp 15], argTypes := #[3] }) 4 [(Operand.tmp 11, SV.var 1), (Operand.tmp 15, SV.int IntKind.i64 (IE.var 3))]
                [Base.bool] (SV.bool (BE.var 4)) [] false [] [] [] []
                (VC.split (BE.var 4) (VC.leaf 0 [SV.int IntKind.i64 (IE.var 2)] [] [])
                  (VC.ob (BE.le (IE.lit (-9223372036854775808)) (IE.add (IE.var 2) (IE.lit 1)))
                    (VC.ob (BE.le (IE.add (IE.var 2) (IE.lit 1)) (IE.lit 9223372036854775807)) (VC.leaf 1 [SV.int IntKind.i64 (IE.add (IE.var 2) (IE.lit 1))] [] []))))))))))
    (VC.leaf 0 [SV.int IntKind.i64 (IE.lit (-1))] [] [])) := by kernel_rfl

theorem t56 : exFn { P := Try.prog } 56 [.var 0, .var 1] [.slice, .func] [] =
  VC.call 71 [SV.var 0, SV.var 1] [Base.int IntKind.i64] (SV.int IntKind.i64 (IE.var 2)) [] false [] [] [] [] (VC.leaf 0 [SV.bool (BE.le (IE.lit 0) (IE.var 2))] [] []) := by kernel_rfl

theorem t35 : exFn { P := Try.prog } 35 [.var 0] [.slice] [] =
  VC.split (BE.nil 0) (VC.leaf 0 [SV.cst (Value.slice none 0 0)] [] [])
  (VC.blk
    (VC.gen (Op.call { callee := Callee.builtin Builtin.append, args := #[Operand.tmp 5, Operand.tmp 6], argTypes := #[26, 26] }) 26 [(Operand.tmp 5, SV.slc 1 0 0 0), (Operand.tmp 6, SV.var 0)]
      [Base.slice] (SV.var 2) [] false [] [] [1] [(1, [])] (VC.leaf 0 [SV.var 2] [] [(1, [])]))) := by kernel_rfl

theorem t39 : exFn { P := Try.prog } 39 [.var 0] [.slice] [] =
  VC.split (BE.nil 0) (VC.leaf 0 [SV.cst (Value.slice none 0 0)] [] [])
  (VC.blk
    (VC.gen (Op.call { callee := Callee.builtin Builtin.append, args := #[Operand.tmp 5, Operand.tmp 6], argTypes := #[79, 79] }) 79 [(Operand.tmp 5, SV.slc 1 0 0 0), (Operand.tmp 6, SV.var 0)]
      [Base.slice] (SV.var 2) [] false [] [] [1] [(1, [])] (VC.leaf 0 [SV.var 2] [] [(1, [])]))) := by kernel_rfl

theorem t23 : exFn { P := Try.prog } 23 [.var 0] [.ptr] [] =
  VC.call 33 [SV.var 0] [Base.bool] (SV.bool (BE.var 1)) [] false [] [] [] []
  (VC.split (BE.not (BE.var 1)) (VC.ob (BE.not (BE.nil 0)) (VC.start false [] [] [] (VC.load (SV.ptr 0 9) [Base.bool] (VC.leaf 0 [SV.bool (BE.not (BE.var 2))] [] []))))
    (VC.leaf 0 [SV.bool (BE.lit false)] [] [])) := by kernel_rfl

theorem t24 : exFn { P := Try.prog } 24 [.var 0] [.ptr] [] =
  VC.blk
  (VC.call 33 [SV.var 0] [Base.bool] (SV.bool (BE.var 2)) [] false [] [] [1]
    [(1, [SV.int IntKind.i64 (IE.lit 0), SV.int IntKind.i64 (IE.lit 0), SV.int IntKind.i64 (IE.lit 0), SV.int IntKind.i64 (IE.lit 0)])]
    (VC.split (BE.var 2)
      (VC.leaf 0 [SV.agg [SV.int IntKind.i64 (IE.lit 0), SV.int IntKind.i64 (IE.lit 0), SV.int IntKind.i64 (IE.lit 0), SV.int IntKind.i64 (IE.lit 0)]] [1]
        [(1, [SV.int IntKind.i64 (IE.lit 0), SV.int IntKind.i64 (IE.lit 0), SV.int IntKind.i64 (IE.lit 0), SV.int IntKind.i64 (IE.lit 0)])])
      (VC.ob (BE.not (BE.nil 0))
        (VC.start false [] [] [(1, [SV.int IntKind.i64 (IE.lit 0), SV.int IntKind.i64 (IE.lit 0), SV.int IntKind.i64 (IE.lit 0), SV.int IntKind.i64 (IE.lit 0)])]
          (VC.load (SV.ptr 0 0) [Base.int IntKind.i64, Base.int IntKind.i64, Base.int IntKind.i64, Base.int IntKind.i64]
            (VC.leaf 0 [SV.agg [SV.int IntKind.i64 (IE.var 3), SV.int IntKind.i64 (IE.var 4), SV.int IntKind.i64 (IE.var 5), SV.int IntKind.i64 (IE.var 6)]] [1]
              [(1, [SV.int IntKind.i64 (IE.var 3), SV.int IntKind.i64 (IE.var 4), SV.int IntKind.i64 (IE.var 5), SV.int IntKind.i64 (IE.var 6)])])))))) := by kernel_rfl

theorem t25 : exFn { P := Try.prog } 25 [.var 0] [.ptr] [] =
  VC.call 33 [SV.var 0] [Base.bool] (SV.bool (BE.var 1)) [] false [] [] [] []
  (VC.split (BE.var 1) (VC.leaf 0 [SV.int IntKind.i64 (IE.lit 0)] [] [])
    (VC.ob (BE.not (BE.nil 0)) (VC.start false [] [] [] (VC.load (SV.ptr 0 6) [Base.int IntKind.i64] (VC.leaf 0 [SV.int IntKind.i64 (IE.var 2)] [] []))))) := by kernel_rfl

theorem t26 : exFn { P := Try.prog } 26 [.var 0, .int .i64 (.var 1)] [.ptr, .int .i64] [] =
  VC.call 33 [SV.var 0] [Base.bool] (SV.bool (BE.var 2)) [] false [] [] [] []
  (VC.split (BE.var 2) (VC.leaf 0 [SV.int IntKind.i64 (IE.lit 0)] [] [])
    (VC.call 53 [SV.var 0, SV.int IntKind.i64 (IE.var 1)] [Base.bool] (SV.bool (BE.var 3)) [] false [] [] [] []
      (VC.split (BE.not (BE.var 3)) (VC.leaf 0 [SV.int IntKind.i64 (IE.lit 0)] [] [])
        (VC.ob (BE.not (BE.nil 0))
          (VC.start false [] [] []
            (VC.load (SV.ptr 0 5) [Base.slice]
              (VC.ob (BE.le (IE.lit 0) (IE.var 1))
                (VC.ob (BE.lt (IE.var 1) (IE.len 4))
                  (VC.ob (BE.not (BE.nil 4)) (VC.start false [] [] [] (VC.load (SV.elt 4 0 (IE.var 1) 3 1) [Base.int IntKind.i64] (VC.leaf 0 [SV.int IntKind.i64 (IE.var 5)] [] [])))))))))))) := by kernel_rfl

theorem t22 : exFn { P := Try.prog } 22 [.var 0] [.ptr] [] =
  VC.call 33 [SV.var 0] [Base.bool] (SV.bool (BE.var 1)) [] false [] [] [] []
  (VC.split (BE.var 1) (VC.leaf 0 [SV.int IntKind.i64 (IE.lit 1)] [] [])
    (VC.ob (BE.not (BE.nil 0))
      (VC.gen (Op.store 3 (Operand.tmp 8) (Operand.const (Value.int IntKind.i64 (-1)))) 0 [(Operand.tmp 8, SV.ptr 0 7), (Operand.const (Value.int IntKind.i64 (-1)), SV.int IntKind.i64 (IE.lit (-1)))]
        [] (SV.cst (Value.tuple #[])) [] false [] [] [] []
        (VC.gen (Op.store 4 (Operand.tmp 10) (Operand.const (Value.bool false))) 0 [(Operand.tmp 10, SV.ptr 0 9), (Operand.const (Value.bool false), SV.bool (BE.lit false))] []
          (SV.cst (Value.tuple #[])) [] false [] [] [] [] (VC.leaf 0 [SV.int IntKind.i64 (IE.lit 0)] [] []))))) := by kernel_rfl

theorem t21 : exFn { P := Try.prog } 21 [.var 0, .int .i64 (.var 1), .int .i64 (.var 2)] [.ptr, .int .i64, .int .i64] [] =
  VC.call 33 [SV.var 0] [Base.bool] (SV.bool (BE.var 3)) [] false [] [] [] []
  (VC.split (BE.var 3) (VC.leaf 0 [SV.int IntKind.i64 (IE.lit 1)] [] [])
    (VC.ob (BE.not (BE.nil 0))
      (VC.start false [] [] []
        (VC.load (SV.ptr 0 6) [Base.int IntKind.i64]
          (VC.split (BE.lt (IE.var 1) (IE.var 4)) (VC.leaf 0 [SV.int IntKind.i64 (IE.lit 2)] [] [])
            (VC.split (BE.lt (IE.var 2) (IE.lit 0)) (VC.leaf 0 [SV.int IntKind.i64 (IE.lit 2)] [] [])
              (VC.start false [] [] []
                (VC.load (SV.ptr 0 2) [Base.int IntKind.i64]
                  (VC.ob (BE.le (IE.lit (-9223372036854775808)) (IE.add (IE.var 5) (IE.lit 64)))
                    (VC.ob (BE.le (IE.add (IE.var 5) (IE.lit 64)) (IE.lit 9223372036854775807))
                      (VC.split (BE.lt (IE.add (IE.var 5) (IE.lit 64)) (IE.var 2)) (VC.leaf 0 [SV.int IntKind.i64 (IE.lit 2)] [] [])
                        (VC.start false [] [] []
                          (VC.load (SV.ptr 0 9) [Base.bool]
                            (VC.split (BE.var 6) (VC.leaf 0 [SV.int IntKind.i64 (IE.lit 50)] [] [])
                              (VC.gen (Op.store 3 (Operand.tmp 41) (Operand.tmp 38)) 0 [(Operand.tmp 41, SV.ptr 0 7), (Operand.tmp 38, SV.int IntKind.i64 (IE.var 1))] [] (SV.cst (Value.tuple #[])) []
                                false [] [] [] []
                                (VC.gen (Op.store 3 (Operand.tmp 43) (Operand.tmp 39)) 0 [(Operand.tmp 43, SV.ptr 0 8), (Operand.tmp 39, SV.int IntKind.i64 (IE.var 2))] [] (SV.cst (Value.tuple #[]))
                                  [] false [] [] [] [] (VC.leaf 0 [SV.int IntKind.i64 (IE.lit 0)] [] []))))))))))))))))) := by kernel_rfl

theorem t28 : exFn { P := Try.prog } 28 [.var 0, .int .i64 (.var 1), .int .i64 (.var 2)] [.ptr, .int .i64, .int .i64] [] =
  VC.call 33 [SV.var 0] [Base.bool] (SV.bool (BE.var 3)) [] false [] [] [] []
  (VC.split (BE.var 3) (VC.leaf 0 [SV.int IntKind.i64 (IE.lit 0)] [] [])
    (VC.call 34 [SV.var 0, SV.int IntKind.i64 (IE.var 1), SV.int IntKind.i64 (IE.var 2)] [Base.bool] (SV.bool (BE.var 4)) [] false [] [] [] []
      (VC.split (BE.not (BE.var 4)) (VC.leaf 0 [SV.int IntKind.i64 (IE.lit 0)] [] [])
        (VC.ob (BE.not (BE.nil 0))
          (VC.start false [] [] []
            (VC.load (SV.ptr 0 5) [Base.slice]
              (VC.ob (BE.le (IE.lit 0) (IE.var 1))
                (VC.ob (BE.lt (IE.var 1) (IE.len 5))
                  (VC.ob (BE.not (BE.nil 5))
                    (VC.start false [] [] []
                      (VC.load (SV.elt 5 0 (IE.var 1) 3 0) [Base.slice]
                        (VC.ob (BE.le (IE.lit 0) (IE.var 2))
                          (VC.ob (BE.lt (IE.var 2) (IE.len 6))
                            (VC.ob (BE.not (BE.nil 6))
                              (VC.start false [] [] [] (VC.load (SV.elt 6 0 (IE.var 2) 2 1) [Base.int IntKind.i64] (VC.leaf 0 [SV.int IntKind.i64 (IE.var 7)] [] []))))))))))))))))) := by kernel_rfl

theorem t13 : exFn { P := Try.prog } 13 [.var 0, .int .i64 (.var 1), .int .i64 (.var 2)] [.ptr, .int .i64, .int .i64] [] =
  VC.call 33 [SV.var 0] [Base.bool] (SV.bool (BE.var 3)) [] false [] [] [] []
  (VC.split (BE.var 3) (VC.leaf 0 [SV.tuple [SV.cst (Value.slice none 0 0), SV.cst (Value.slice none 0 0), SV.int IntKind.i64 (IE.lit 1)]] [] [])
    (VC.call 34 [SV.var 0, SV.int IntKind.i64 (IE.var 1), SV.int IntKind.i64 (IE.var 2)] [Base.bool] (SV.bool (BE.var 4)) [] false [] [] [] []
      (VC.split (BE.not (BE.var 4)) (VC.leaf 0 [SV.tuple [SV.cst (Value.slice none 0 0), SV.cst (Value.slice none 0 0), SV.int IntKind.i64 (IE.lit 2)]] [] [])
        (VC.ob (BE.not (BE.nil 0))
          (VC.start false [] [] []
            (VC.load (SV.ptr 0 9) [Base.bool]
              (VC.split (BE.var 5) (VC.leaf 0 [SV.tuple [SV.cst (Value.slice none 0 0), SV.cst (Value.slice none 0 0), SV.int IntKind.i64 (IE.lit 50)]] [] [])
                (VC.start false [] [] []
                  (VC.load (SV.ptr 0 5) [Base.slice]
                    (VC.ob (BE.le (IE.lit 0) (IE.var 1))
                      (VC.ob (BE.lt (IE.var 1) (IE.len 6))
                        (VC.ob (BE.not (BE.nil 6))
                          (VC.start false [] [] []
                            (VC.load (SV.elt 6 0 (IE.var 1) 3 0) [Base.slice]
                              (VC.ob (BE.le (IE.lit 0) (IE.var 2))
                                (VC.ob (BE.lt (IE.var 2) (IE.len 7))
                                  (VC.ob (BE.not (BE.nil 7))
                                    (VC.start false [] [] []
                                      (VC.load (SV.elt 7 0 (IE.var 2) 2 0) [Base.slice, Base.int IntKind.i64]
                                        (VC.blk
                                          (VC.split (BE.eq (IE.var 9) (IE.lit 1))
                                            (VC.leaf 0 [SV.tuple [SV.cst (Value.slice none 0 0), SV.cst (Value.slice none 0 0), SV.int IntKind.i64 (IE.lit 52)]] [10]
                                              [(10, [SV.var 8, SV.int IntKind.i64 (IE.var 9)])])
                                            (VC.split (BE.eq (IE.var 9) (IE.lit 4))
                                              (VC.leaf 0 [SV.tuple [SV.cst (Value.slice none 0 0), SV.cst (Value.slice none 0 0), SV.int IntKind.i64 (IE.lit 53)]] [10]
                                                [(10, [SV.var 8, SV.int IntKind.i64 (IE.var 9)])])
                                              (VC.split (BE.eq (IE.var 9) (IE.lit 5))
                                                (VC.leaf 0 [SV.tuple [SV.cst (Value.slice none 0 0), SV.cst (Value.slice none 0 0), SV.int IntKind.i64 (IE.lit 53)]] [10]
                                                  [(10, [SV.var 8, SV.int IntKind.i64 (IE.var 9)])])
                                                (VC.start false [10] [] [(10, [SV.var 8, SV.int IntKind.i64 (IE.var 9)])]
                                                  (VC.load (SV.ptr 0 2) [Base.int IntKind.i64]
                                                    (VC.start true [] [10] [(10, [SV.var 8, SV.int IntKind.i64 (IE.var 9)])]
                                                      (VC.pur (Op.slice 26 (Operand.tmp 50) none (some (Operand.tmp 51)) (some (Operand.tmp 52))) 26
                                                        [(Operand.tmp 50, SV.var 8), (Operand.tmp 51, SV.int IntKind.i64 (IE.var 11)), (Operand.tmp 52, SV.int IntKind.i64 (IE.var 11))] [Base.slice]
                                                        (SV.var 12)
                                                        (VC.pur (Op.slice 26 (Operand.tmp 57) (some (Operand.tmp 58)) none none) 26
                                                          [(Operand.tmp 57, SV.var 8), (Operand.tmp 58, SV.int IntKind.i64 (IE.var 11))] [Base.slice] (SV.var 13)
                                                          (VC.call 35 [SV.var 12] [Base.slice] (SV.var 14) [] true [] [] [10] [(10, [SV.var 8, SV.int IntKind.i64 (IE.var 9)])]
                                                            (VC.call 35 [SV.var 13] [Base.slice] (SV.var 15) [] true [] [] [10] [(10, [SV.var 8, SV.int IntKind.i64 (IE.var 9)])]
                                                              (VC.leaf 0 [SV.tuple [SV.var 14, SV.var 15, SV.int IntKind.i64 (IE.lit 0)]] []
                                                                [(10, [SV.var 8, SV.int IntKind.i64 (IE.var 9)])]))))))))))))))))))))))))))))))) := by kernel_rfl

theorem t20 : exFn { P := Try.prog } 20 [.var 0, .int .i64 (.var 1)] [.ptr, .int .i64] [] =
  VC.call 33 [SV.var 0] [Base.bool] (SV.bool (BE.var 2)) [] false [] [] [] []
  (VC.split (BE.var 2) (VC.leaf 0 [SV.int IntKind.i64 (IE.lit 1)] [] [])
    (VC.call 53 [SV.var 0, SV.int IntKind.i64 (IE.var 1)] [Base.bool] (SV.bool (BE.var 3)) [] false [] [] [] []
      (VC.split (BE.not (BE.var 3)) (VC.leaf 0 [SV.int IntKind.i64 (IE.lit 2)] [] [])
        (VC.ob (BE.not (BE.nil 0))
          (VC.start false [] [] []
            (VC.load (SV.ptr 0 9) [Base.bool]
              (VC.split (BE.var 4) (VC.leaf 0 [SV.int IntKind.i64 (IE.lit 50)] [] [])
                (VC.start true [] [] []
                  (VC.load (SV.ptr 0 5) [Base.slice]
                    (VC.ob (BE.le (IE.lit 0) (IE.var 1))
                      (VC.ob (BE.lt (IE.var 1) (IE.len 5))
                        (VC.ob (BE.not (BE.nil 5))
                          (VC.load (SV.elt 5 0 (IE.var 1) 3 2) [Base.int IntKind.i64]
                            (VC.load (SV.ptr 0 3) [Base.int IntKind.i64]
                              (VC.split (BE.le (IE.var 7) (IE.var 6)) (VC.leaf 0 [SV.int IntKind.i64 (IE.lit 56)] [] [])
                                (VC.start false [] [] []
                                  (VC.load (SV.ptr 0 5) [Base.slice]
                                    (VC.ob (BE.le (IE.lit 0) (IE.var 1))
                                      (VC.ob (BE.lt (IE.var 1) (IE.len 8))
                                        (VC.ob (BE.not (BE.nil 8))
                                          (VC.call 54 [SV.var 0, SV.elt 8 0 (IE.var 1) 3 0] [Base.int IntKind.i64] (SV.int IntKind.i64 (IE.var 9)) [] false [] [] [] []
                                            (VC.leaf 0 [SV.int IntKind.i64 (IE.var 9)] [] [])))))))))))))))))))))) := by kernel_rfl

theorem t19 : exFn { P := Try.prog } 19 [.var 0, .int .i64 (.var 1), .int .i64 (.var 2), .var 3, .var 4] [.ptr, .int .i64, .int .i64, .slice, .slice] [] =
  VC.call 33 [SV.var 0] [Base.bool] (SV.bool (BE.var 5)) [] false [] [] [] []
  (VC.split (BE.var 5) (VC.leaf 0 [SV.int IntKind.i64 (IE.lit 1)] [] [])
    (VC.call 34 [SV.var 0, SV.int IntKind.i64 (IE.var 1), SV.int IntKind.i64 (IE.var 2)] [Base.bool] (SV.bool (BE.var 6)) [] false [] [] [] []
      (VC.split (BE.not (BE.var 6)) (VC.leaf 0 [SV.int IntKind.i64 (IE.lit 2)] [] [])
        (VC.ob (BE.not (BE.nil 0))
          (VC.start false [] [] []
            (VC.load (SV.ptr 0 2) [Base.int IntKind.i64]
              (VC.split (BE.not (BE.eq (IE.len 3) (IE.var 7))) (VC.leaf 0 [SV.int IntKind.i64 (IE.lit 2)] [] [])
                (VC.split (BE.not (BE.eq (IE.len 4) (IE.lit 64))) (VC.leaf 0 [SV.int IntKind.i64 (IE.lit 2)] [] [])
                  (VC.start false [] [] []
                    (VC.load (SV.ptr 0 9) [Base.bool]
                      (VC.split (BE.var 8) (VC.leaf 0 [SV.int IntKind.i64 (IE.lit 50)] [] [])
                        (VC.start false [] [] []
                          (VC.load (SV.ptr 0 5) [Base.slice]
                            (VC.ob (BE.le (IE.lit 0) (IE.var 1))
                              (VC.ob (BE.lt (IE.var 1) (IE.len 9))
                                (VC.ob (BE.not (BE.nil 9))
                                  (VC.start false [] [] []
                                    (VC.load (SV.elt 9 0 (IE.var 1) 3 1) [Base.int IntKind.i64]
                                      (VC.split (BE.not (BE.eq (IE.var 2) (IE.var 10))) (VC.leaf 0 [SV.int IntKind.i64 (IE.lit 51)] [] [])
                                        (VC.blk
                                          (VC.call 52 [SV.slc 11 0 2 2] [Base.slice] (SV.var 12) [] false [] [] [11] [(11, [SV.var 3, SV.var 4])]
                                            (VC.call 51 [SV.var 0, SV.int IntKind.i64 (IE.var 1), SV.int IntKind.i64 (IE.var 2), SV.var 12] [Base.int IntKind.i64] (SV.int IntKind.i64 (IE.var 13)) []
                                              false [] [] [11] [(11, [SV.var 3, SV.var 4])] (VC.leaf 0 [SV.int IntKind.i64 (IE.var 13)] [] [(11, [SV.var 3, SV.var 4])]))))))))))))))))))))))) := by kernel_rfl

theorem t51 : exFn { P := Try.prog } 51 [.var 0, .int .i64 (.var 1), .int .i64 (.var 2), .var 3] [.ptr, .int .i64, .int .i64, .slice] [] =
  VC.blk
  (VC.blk
    (VC.ob (BE.not (BE.nil 0))
      (VC.start false [] [] [(5, [SV.var 3]), (4, [SV.var 0])]
        (VC.load (SV.ptr 0 5) [Base.slice]
          (VC.ob (BE.le (IE.lit 0) (IE.var 1))
            (VC.ob (BE.lt (IE.var 1) (IE.len 6))
              (VC.ob (BE.not (BE.nil 6))
                (VC.start false [] [] [(5, [SV.var 3]), (4, [SV.var 0])]
                  (VC.load (SV.elt 6 0 (IE.var 1) 3 1) [Base.int IntKind.i64]
                    (VC.ob (BE.le (IE.lit (-9223372036854775808)) (IE.add (IE.var 7) (IE.lit 1)))
                      (VC.ob (BE.le (IE.add (IE.var 7) (IE.lit 1)) (IE.lit 9223372036854775807))
                        (VC.gen (Op.store 3 (Operand.tmp 23) (Operand.tmp 21)) 0 [(Operand.tmp 23, SV.elt 6 0 (IE.var 1) 3 1), (Operand.tmp 21, SV.int IntKind.i64 (IE.add (IE.var 7) (IE.lit 1)))] []
                          (SV.cst (Value.tuple #[])) [] false [] [] [5, 4] [(5, [SV.var 3]), (4, [SV.var 0])]
                          (VC.start false [] [] [(5, [SV.var 3]), (4, [SV.var 0])]
                            (VC.load (SV.elt 6 0 (IE.var 1) 3 0) [Base.slice]
                              (VC.ob (BE.le (IE.lit 0) (IE.var 2))
                                (VC.ob (BE.lt (IE.var 2) (IE.len 8))
                                  (VC.ob (BE.not (BE.nil 8))
                                    (VC.blk
                                      (VC.call 63 [SV.var 0, SV.fn 64 [SV.ptr 5 0, SV.ptr 9 0], SV.fn 65 [SV.ptr 9 0], SV.fn 66 [SV.ptr 5 0, SV.ptr 9 0, SV.ptr 4 0], SV.int IntKind.i64 (IE.lit 54)]
                                        [Base.int IntKind.i64] (SV.int IntKind.i64 (IE.var 10)) [] false [9] [] [9, 5, 4] [(9, [SV.elt 8 0 (IE.var 2) 2 0]), (5, [SV.var 3]), (4, [SV.var 0])]
                                        (VC.leaf 0 [SV.int IntKind.i64 (IE.var 10)] [] [(9, [SV.elt 8 0 (IE.var 2) 2 0]), (5, [SV.var 3]), (4, [SV.var 0])])))))))))))))))))))) := by kernel_rfl

theorem t63 : exFn { P := Try.prog } 63 [.var 0, .var 1, .var 2, .var 3, .int .i64 (.var 4)] [.ptr, .func, .func, .func, .int .i64] [] =
  VC.ob (BE.not (BE.nil 0))
  (VC.start false [] [] []
    (VC.load (SV.ptr 0 6) [Base.int IntKind.i64]
      (VC.start false [] [] []
        (VC.load (SV.ptr 0 6) [Base.int IntKind.i64]
          (VC.ob (BE.le (IE.lit (-9223372036854775808)) (IE.add (IE.var 6) (IE.lit 1)))
            (VC.ob (BE.le (IE.add (IE.var 6) (IE.lit 1)) (IE.lit 9223372036854775807))
              (VC.gen (Op.store 3 (Operand.tmp 22) (Operand.tmp 20)) 0 [(Operand.tmp 22, SV.ptr 0 6), (Operand.tmp 20, SV.int IntKind.i64 (IE.add (IE.var 6) (IE.lit 1)))] [] (SV.cst (Value.tuple #[]))
                [] false [] [] [] []
                (VC.start false [] [] []
                  (VC.load (SV.ptr 0 7) [Base.int IntKind.i64]
                    (VC.split (BE.eq (IE.var 5) (IE.var 7))
                      (VC.gen (Op.store 4 (Operand.tmp 32) (Operand.const (Value.bool true))) 0 [(Operand.tmp 32, SV.ptr 0 9), (Operand.const (Value.bool true), SV.bool (BE.lit true))] []
                        (SV.cst (Value.tuple #[])) [] false [] [] [] []
                        (VC.gen (Op.call { callee := Callee.value (Operand.tmp 33), args := #[], argTypes := #[] }) 0 [(Operand.tmp 33, SV.var 3)] [] (SV.tuple []) [] false [] [] [] []
                          (VC.leaf 0 [SV.int IntKind.i64 (IE.lit 50)] [] [])))
                      (VC.start false [] [] []
                        (VC.load (SV.ptr 0 4) [Base.map]
                          (VC.gen (Op.lookup 47 (Operand.tmp 39) (Operand.tmp 40) false) 4 [(Operand.tmp 39, SV.var 8), (Operand.tmp 40, SV.int IntKind.i64 (IE.var 5))] [Base.bool]
                            (SV.bool (BE.var 9)) [] false [] [] [] []
                            (VC.split (BE.var 9)
                              (VC.gen (Op.call { callee := Callee.value (Operand.tmp 42), args := #[], argTypes := #[] }) 0 [(Operand.tmp 42, SV.var 2)] [] (SV.tuple []) [] false [] [] [] []
                                (VC.leaf 0 [SV.int IntKind.i64 (IE.var 4)] [] []))
                              (VC.gen (Op.call { callee := Callee.value (Operand.tmp 45), args := #[], argTypes := #[] }) 0 [(Operand.tmp 45, SV.var 1)] [] (SV.tuple []) [] false [] [] [] []
                                (VC.leaf 0 [SV.int IntKind.i64 (IE.lit 0)] [] [])))))))))))))))) := by kernel_rfl

theorem t64 : exFn { P := Try.prog } 64 [.ptr 0 0, .ptr 1 0] [.ptr, .ptr] [] =
  VC.start false [] [] []
  (VC.load (SV.ptr 1 0) [Base.ptr]
    (VC.start false [] [] []
      (VC.load (SV.ptr 0 0) [Base.slice]
        (VC.ob (BE.not (BE.nil 2))
          (VC.gen (Op.store 78 (Operand.tmp 6) (Operand.tmp 5)) 0 [(Operand.tmp 6, SV.ptr 2 0), (Operand.tmp 5, SV.agg [SV.var 3, SV.int IntKind.i64 (IE.lit 2)])] [] (SV.cst (Value.tuple #[])) []
            false [] [] [] [] (VC.leaf 0 [SV.tuple []] [] [])))))) := by kernel_rfl

theorem t65 : exFn { P := Try.prog } 65 [.ptr 0 0] [.ptr] [] =
  VC.start false [] [] []
  (VC.load (SV.ptr 0 0) [Base.ptr]
    (VC.ob (BE.not (BE.nil 1))
      (VC.gen (Op.store 78 (Operand.tmp 3) (Operand.tmp 2)) 0 [(Operand.tmp 3, SV.ptr 1 0), (Operand.tmp 2, SV.agg [SV.cst (Value.slice none 0 0), SV.int IntKind.i64 (IE.lit 4)])] []
        (SV.cst (Value.tuple #[])) [] false [] [] [] [] (VC.leaf 0 [SV.tuple []] [] [])))) := by kernel_rfl

theorem t66 : exFn { P := Try.prog, loops := fun r => if Nat.beq r 4 then some ⟨1, [(26, .int .i64)], []⟩ else none } 66 [.ptr 0 0, .ptr 1 0, .ptr 2 0] [.ptr, .ptr, .ptr] [] =
  VC.start false [] [] []
  (VC.load (SV.ptr 1 0) [Base.ptr]
    (VC.start false [] [] []
      (VC.load (SV.ptr 0 0) [Base.slice]
        (VC.ob (BE.not (BE.nil 3))
          (VC.gen (Op.store 78 (Operand.tmp 8) (Operand.tmp 7)) 0 [(Operand.tmp 8, SV.ptr 3 0), (Operand.tmp 7, SV.agg [SV.var 4, SV.int IntKind.i64 (IE.lit 3)])] [] (SV.cst (Value.tuple #[])) []
            false [] [] [] []
            (VC.start true [] [] []
              (VC.load (SV.ptr 2 0) [Base.ptr]
                (VC.ob (BE.not (BE.nil 5))
                  (VC.load (SV.ptr 5 8) [Base.int IntKind.i64]
                    (VC.load (SV.ptr 0 0) [Base.slice]
                      (VC.split (BE.eq (IE.var 6) (IE.len 7))
                        (VC.start false [] [] []
                          (VC.load (SV.ptr 1 0) [Base.ptr]
                            (VC.ob (BE.not (BE.nil 8))
                              (VC.gen (Op.store 62 (Operand.tmp 18) (Operand.const (Value.int IntKind.i64 2))) 0
                                [(Operand.tmp 18, SV.ptr 8 1), (Operand.const (Value.int IntKind.i64 2), SV.int IntKind.i64 (IE.lit 2))] [] (SV.cst (Value.tuple #[])) [] false [] [] [] []
                                (VC.start true [] [] []
                                  (VC.load (SV.ptr 0 0) [Base.slice]
                                    (VC.load (SV.ptr 2 0) [Base.ptr]
                                      (VC.ob (BE.not (BE.nil 10))
                                        (VC.load (SV.ptr 10 8) [Base.int IntKind.i64]
                                          (VC.pur (Op.slice 26 (Operand.tmp 19) (some (Operand.tmp 23)) none none) 26 [(Operand.tmp 19, SV.var 9), (Operand.tmp 23, SV.int IntKind.i64 (IE.var 11))]
                                            [Base.slice] (SV.var 12)
                                            (VC.loop 1 [SV.int IntKind.i64 (IE.lit 0)] [Base.int IntKind.i64] [] [] [] []
                                              (VC.split (BE.lt (IE.var 13) (IE.len 12))
                                                (VC.start true [] [] []
                                                  (VC.load (SV.ptr 0 0) [Base.slice]
                                                    (VC.load (SV.ptr 2 0) [Base.ptr]
                                                      (VC.ob (BE.not (BE.nil 15))
                                                        (VC.load (SV.ptr 15 8) [Base.int IntKind.i64]
                                                          (VC.ob (BE.le (IE.lit (-9223372036854775808)) (IE.add (IE.var 16) (IE.var 13)))
                                                            (VC.ob (BE.le (IE.add (IE.var 16) (IE.var 13)) (IE.lit 9223372036854775807))
                                                              (VC.ob (BE.le (IE.lit 0) (IE.add (IE.var 16) (IE.var 13)))
                                                                (VC.ob (BE.lt (IE.add (IE.var 16) (IE.var 13)) (IE.len 14))
                                                                  (VC.ob (BE.not (BE.nil 14))
                                                                    (VC.gen (Op.store 5 (Operand.tmp 36) (Operand.const (Value.int IntKind.u8 255))) 0
                                                                      [(Operand.tmp 36, SV.elt 14 0 (IE.add (IE.var 16) (IE.var 13)) 1 0),
                                                                        (Operand.const (Value.int IntKind.u8 255), SV.int IntKind.u8 (IE.lit 255))]
                                                                      [] (SV.cst (Value.tuple #[])) [] true [] [] [] []
                                                                      (VC.ob (BE.le (IE.lit (-9223372036854775808)) (IE.add (IE.var 13) (IE.lit 1)))
                                                                        (VC.ob (BE.le (IE.add (IE.var 13) (IE.lit 1)) (IE.lit 9223372036854775807))
                                                                          (VC.leaf 1 [SV.int IntKind.i64 (IE.add (IE.var 13) (IE.lit 1))] [] []))))))))))))))
                                                (VC.leaf 0 [SV.tuple []] [] [])))))))))))))
                        (VC.start true [] [] []
                          (VC.load (SV.ptr 0 0) [Base.slice]
                            (VC.load (SV.ptr 2 0) [Base.ptr]
                              (VC.ob (BE.not (BE.nil 9))
                                (VC.load (SV.ptr 9 8) [Base.int IntKind.i64]
                                  (VC.pur (Op.slice 26 (Operand.tmp 19) (some (Operand.tmp 23)) none none) 26 [(Operand.tmp 19, SV.var 8), (Operand.tmp 23, SV.int IntKind.i64 (IE.var 10))]
                                    [Base.slice] (SV.var 11)
                                    (VC.loop 1 [SV.int IntKind.i64 (IE.lit 0)] [Base.int IntKind.i64] [] [] [] []
                                      (VC.split (BE.lt (IE.var 12) (IE.len 11))
                                        (VC.start true [] [] []
                                          (VC.load (SV.ptr 0 0) [Base.slice]
                                            (VC.load (SV.ptr 2 0) [Base.ptr]
                                              (VC.ob (BE.not (BE.nil 14))
                                                (VC.load (SV.ptr 14 8) [Base.int IntKind.i64]
                                                  (VC.ob (BE.le (IE.lit (-9223372036854775808)) (IE.add (IE.var 15) (IE.var 12)))
                                                    (VC.ob (BE.le (IE.add (IE.var 15) (IE.var 12)) (IE.lit 9223372036854775807))
                                                      (VC.ob (BE.le (IE.lit 0) (IE.add (IE.var 15) (IE.var 12)))
                                                        (VC.ob (BE.lt (IE.add (IE.var 15) (IE.var 12)) (IE.len 13))
                                                          (VC.ob (BE.not (BE.nil 13))
                                                            (VC.gen (Op.store 5 (Operand.tmp 36) (Operand.const (Value.int IntKind.u8 255))) 0
                                                              [(Operand.tmp 36, SV.elt 13 0 (IE.add (IE.var 15) (IE.var 12)) 1 0),
                                                                (Operand.const (Value.int IntKind.u8 255), SV.int IntKind.u8 (IE.lit 255))]
                                                              [] (SV.cst (Value.tuple #[])) [] true [] [] [] []
                                                              (VC.ob (BE.le (IE.lit (-9223372036854775808)) (IE.add (IE.var 12) (IE.lit 1)))
                                                                (VC.ob (BE.le (IE.add (IE.var 12) (IE.lit 1)) (IE.lit 9223372036854775807))
                                                                  (VC.leaf 1 [SV.int IntKind.i64 (IE.add (IE.var 12) (IE.lit 1))] [] []))))))))))))))
                                        (VC.leaf 0 [SV.tuple []] [] [])))))))))))))))))))) := by kernel_rfl

theorem t54 : exFn { P := Try.prog } 54 [.var 0, .var 1] [.ptr, .ptr] [] =
  VC.blk
  (VC.blk
    (VC.ob (BE.not (BE.nil 1))
      (VC.start false [] [] [(3, [SV.var 1]), (2, [SV.var 0])]
        (VC.load (SV.ptr 1 2) [Base.int IntKind.i64]
          (VC.ob (BE.le (IE.lit (-9223372036854775808)) (IE.add (IE.var 4) (IE.lit 1)))
            (VC.ob (BE.le (IE.add (IE.var 4) (IE.lit 1)) (IE.lit 9223372036854775807))
              (VC.gen (Op.store 3 (Operand.tmp 12) (Operand.tmp 10)) 0 [(Operand.tmp 12, SV.ptr 1 2), (Operand.tmp 10, SV.int IntKind.i64 (IE.add (IE.var 4) (IE.lit 1)))] [] (SV.cst (Value.tuple #[]))
                [] false [] [] [3, 2] [(3, [SV.var 1]), (2, [SV.var 0])]
                (VC.call 63 [SV.var 0, SV.fn 69 [SV.ptr 3 0, SV.ptr 2 0], SV.fn 68 [SV.ptr 3 0, SV.ptr 2 0], SV.fn 68 [SV.ptr 3 0, SV.ptr 2 0], SV.int IntKind.i64 (IE.lit 55)] [Base.int IntKind.i64]
                  (SV.int IntKind.i64 (IE.var 5)) [] false [] [] [3, 2] [(3, [SV.var 1]), (2, [SV.var 0])] (VC.leaf 0 [SV.int IntKind.i64 (IE.var 5)] [] [(3, [SV.var 1]), (2, [SV.var 0])]))))))))) := by kernel_rfl

theorem t68 : exFn { P := Try.prog } 68 [.ptr 0 0, .ptr 1 0] [.ptr, .ptr] [] =
  VC.start true [] [] []
  (VC.load (SV.ptr 0 0) [Base.ptr]
    (VC.load (SV.ptr 1 0) [Base.ptr]
      (VC.ob (BE.not (BE.nil 3))
        (VC.load (SV.ptr 3 1) [Base.int IntKind.i64]
          (VC.call 58 [SV.var 2, SV.int IntKind.i64 (IE.var 4), SV.int IntKind.i64 (IE.lit 5)] [] (SV.tuple []) [] true [] [] [] [] (VC.leaf 0 [SV.tuple []] [] [])))))) := by kernel_rfl

theorem t69 : exFn { P := Try.prog } 69 [.ptr 0 0, .ptr 1 0] [.ptr, .ptr] [] =
  VC.start true [] [] []
  (VC.load (SV.ptr 0 0) [Base.ptr]
    (VC.load (SV.ptr 1 0) [Base.ptr]
      (VC.ob (BE.not (BE.nil 3))
        (VC.load (SV.ptr 3 1) [Base.int IntKind.i64]
          (VC.call 58 [SV.var 2, SV.int IntKind.i64 (IE.var 4), SV.int IntKind.i64 (IE.lit 1)] [] (SV.tuple []) [] true [] [] [] [] (VC.leaf 0 [SV.tuple []] [] [])))))) := by kernel_rfl

theorem t58 : exFn { P := Try.prog, loops := fun r => if Nat.beq r 2 then some ⟨1, [(17, .int .i64)], []⟩ else none } 58 [.var 0, .int .i64 (.var 1), .int .i64 (.var 2)] [.ptr, .int .i64, .int .i64] [] =
  VC.gen (Op.makeSlice 79 (Operand.tmp 8) (Operand.tmp 8)) 79 [(Operand.tmp 8, SV.int IntKind.i64 (IE.var 1)), (Operand.tmp 8, SV.int IntKind.i64 (IE.var 1))] [Base.slice] (SV.var 3) [] false [] [] []
  []
  (VC.ob (BE.not (BE.nil 0))
    (VC.gen (Op.store 79 (Operand.tmp 11) (Operand.tmp 9)) 0 [(Operand.tmp 11, SV.ptr 0 0), (Operand.tmp 9, SV.var 3)] [] (SV.cst (Value.tuple #[])) [] false [] [] [] []
      (VC.start false [] [] []
        (VC.load (SV.ptr 0 0) [Base.slice]
          (VC.loop 1 [SV.int IntKind.i64 (IE.lit 0)] [Base.int IntKind.i64] [] [] [] []
            (VC.split (BE.lt (IE.var 5) (IE.len 4))
              (VC.start false [] [] []
                (VC.load (SV.ptr 0 0) [Base.slice]
                  (VC.ob (BE.le (IE.lit 0) (IE.var 5))
                    (VC.ob (BE.lt (IE.var 5) (IE.len 6))
                      (VC.ob (BE.not (BE.nil 6))
                        (VC.gen (Op.store 62 (Operand.tmp 27) (Operand.tmp 25)) 0 [(Operand.tmp 27, SV.elt 6 0 (IE.var 5) 2 1), (Operand.tmp 25, SV.int IntKind.i64 (IE.var 2))] []
                          (SV.cst (Value.tuple #[])) [] false [] [] [] []
                          (VC.ob (BE.le (IE.lit (-9223372036854775808)) (IE.add (IE.var 5) (IE.lit 1)))
                            (VC.ob (BE.le (IE.add (IE.var 5) (IE.lit 1)) (IE.lit 9223372036854775807)) (VC.leaf 1 [SV.int IntKind.i64 (IE.add (IE.var 5) (IE.lit 1))] [] [])))))))))
              (VC.gen (Op.store 3 (Operand.tmp 31) (Operand.const (Value.int IntKind.i64 0))) 0 [(Operand.tmp 31, SV.ptr 0 1), (Operand.const (Value.int IntKind.i64 0), SV.int IntKind.i64 (IE.lit 0))]
                [] (SV.cst (Value.tuple #[])) [] false [] [] [] []
                (VC.split (BE.not (BE.eq (IE.var 2) (IE.lit 1)))
                  (VC.gen (Op.store 3 (Operand.tmp 37) (Operand.tmp 35)) 0 [(Operand.tmp 37, SV.ptr 0 1), (Operand.tmp 35, SV.int IntKind.i64 (IE.var 1))] [] (SV.cst (Value.tuple #[])) [] false [] []
                    [] [] (VC.leaf 0 [SV.tuple []] [] []))
                  (VC.leaf 0 [SV.tuple []] [] []))))))))) := by kernel_rfl

theorem t52 : exFn { P := Try.prog, loops := fun r => if Nat.beq r 3 then some ⟨1, [(3, .int .i64), (11, .int .i64)], []⟩ else if Nat.beq r 11 then some ⟨2, [(6, .slice), (27, .int .i64)], []⟩ else none } 52 [.var 0] [.slice] [] =
  VC.loop 1 [SV.int IntKind.i64 (IE.lit 0), SV.int IntKind.i64 (IE.lit 0)] [Base.int IntKind.i64, Base.int IntKind.i64] [] [] [] []
  (VC.split (BE.lt (IE.var 2) (IE.len 0))
    (VC.ob (BE.le (IE.lit 0) (IE.var 2))
      (VC.ob (BE.lt (IE.var 2) (IE.len 0))
        (VC.ob (BE.not (BE.nil 0))
          (VC.start false [] [] []
            (VC.load (SV.elt 0 0 (IE.var 2) 1 0) [Base.slice]
              (VC.ob (BE.le (IE.lit (-9223372036854775808)) (IE.add (IE.var 1) (IE.len 3)))
                (VC.ob (BE.le (IE.add (IE.var 1) (IE.len 3)) (IE.lit 9223372036854775807))
                  (VC.split (BE.lt (IE.add (IE.var 1) (IE.len 3)) (IE.lit 0))
                    (VC.gen (Op.makeInterface 9 (Operand.const (Value.string { data := #[108, 101, 110, 32, 111, 117, 116, 32, 111, 102, 32, 114, 97, 110, 103, 101] }))) 20
                      [(Operand.const (Value.string { data := #[108, 101, 110, 32, 111, 117, 116, 32, 111, 102, 32, 114, 97, 110, 103, 101] }),
                          SV.cst (Value.string { data := #[108, 101, 110, 32, 111, 117, 116, 32, 111, 102, 32, 114, 97, 110, 103, 101] }))]
                      [Base.any] (SV.var 4) [] false [] [] [] [] (VC.bad "panic"))
                    (VC.ob (BE.le (IE.lit (-9223372036854775808)) (IE.add (IE.var 2) (IE.lit 1)))
                      (VC.ob (BE.le (IE.add (IE.var 2) (IE.lit 1)) (IE.lit 9223372036854775807))
                        (VC.leaf 1 [SV.int IntKind.i64 (IE.add (IE.var 1) (IE.len 3)), SV.int IntKind.i64 (IE.add (IE.var 2) (IE.lit 1))] [] [])))))))))))
    (VC.call 67 [SV.cst (Value.slice none 0 0), SV.int IntKind.i64 (IE.var 1)] [Base.slice] (SV.var 3) [] false [] [] [] []
      (VC.loop 2 [SV.var 3, SV.int IntKind.i64 (IE.lit 0)] [Base.slice, Base.int IntKind.i64] [] [] [] []
        (VC.split (BE.lt (IE.var 5) (IE.len 0))
          (VC.ob (BE.le (IE.lit 0) (IE.var 5))
            (VC.ob (BE.lt (IE.var 5) (IE.len 0))
              (VC.ob (BE.not (BE.nil 0))
                (VC.start false [] [] []
                  (VC.load (SV.elt 0 0 (IE.var 5) 1 0) [Base.slice]
                    (VC.gen (Op.call { callee := Callee.builtin Builtin.append, args := #[Operand.tmp 31, Operand.tmp 32], argTypes := #[26, 26] }) 26
                      [(Operand.tmp 31, SV.var 4), (Operand.tmp 32, SV.var 6)] [Base.slice] (SV.var 7) [] false [] [] [] []
                      (VC.ob (BE.le (IE.lit (-9223372036854775808)) (IE.add (IE.var 5) (IE.lit 1)))
                        (VC.ob (BE.le (IE.add (IE.var 5) (IE.lit 1)) (IE.lit 9223372036854775807)) (VC.leaf 2 [SV.var 7, SV.int IntKind.i64 (IE.add (IE.var 5) (IE.lit 1))] [] [])))))))))
          (VC.leaf 0 [SV.var 4] [] []))))) := by kernel_rfl

theorem t67 : exFn { P := Try.prog } 67 [.var 0, .int .i64 (.var 1)] [.slice, .int .i64] [] =
  VC.split (BE.lt (IE.var 1) (IE.lit 0))
  (VC.gen (Op.makeInterface 9 (Operand.const (Value.string { data := #[99, 97, 110, 110, 111, 116, 32, 98, 101, 32, 110, 101, 103, 97, 116, 105, 118, 101] }))) 20
    [(Operand.const (Value.string { data := #[99, 97, 110, 110, 111, 116, 32, 98, 101, 32, 110, 101, 103, 97, 116, 105, 118, 101] }),
        SV.cst (Value.string { data := #[99, 97, 110, 110, 111, 116, 32, 98, 101, 32, 110, 101, 103, 97, 116, 105, 118, 101] }))]
    [Base.any] (SV.var 2) [] false [] [] [] [] (VC.bad "panic"))
  (VC.ob (BE.le (IE.lit (-9223372036854775808)) (IE.sub (IE.cap 0) (IE.len 0)))
    (VC.ob (BE.le (IE.sub (IE.cap 0) (IE.len 0)) (IE.lit 9223372036854775807))
      (VC.ob (BE.le (IE.lit (-9223372036854775808)) (IE.sub (IE.var 1) (IE.sub (IE.cap 0) (IE.len 0))))
        (VC.ob (BE.le (IE.sub (IE.var 1) (IE.sub (IE.cap 0) (IE.len 0))) (IE.lit 9223372036854775807))
          (VC.split (BE.lt (IE.lit 0) (IE.sub (IE.var 1) (IE.sub (IE.cap 0) (IE.len 0))))
            (VC.start false [] [] []
              (VC.pur (Op.slice 26 (Operand.tmp 17) none (some (Operand.tmp 19)) none) 26 [(Operand.tmp 17, SV.var 0), (Operand.tmp 19, SV.int IntKind.i64 (IE.cap 0))] [Base.slice] (SV.var 2)
                (VC.gen (Op.call { callee := Callee.builtin Builtin.append, args := #[Operand.tmp 20, Operand.tmp 21], argTypes := #[26, 3] }) 26
                  [(Operand.tmp 20, SV.var 2), (Operand.tmp 21, SV.int IntKind.i64 (IE.sub (IE.var 1) (IE.sub (IE.cap 0) (IE.len 0))))] [Base.slice] (SV.var 3) [] false [] [] [] []
                  (VC.start false [] [] []
                    (VC.pur (Op.slice 26 (Operand.tmp 22) none (some (Operand.tmp 24)) none) 26 [(Operand.tmp 22, SV.var 3), (Operand.tmp 24, SV.int IntKind.i64 (IE.len 0))] [Base.slice] (SV.var 4)
                      (VC.leaf 0 [SV.var 4] [] []))))))
            (VC.leaf 0 [SV.var 0] [] [])))))) := by kernel_rfl

theorem t17 : exFn { P := Try.prog } 17 [.var 0] [.ptr] [] =
  VC.blk
  (VC.call 33 [SV.var 0] [Base.bool] (SV.bool (BE.var 2)) [] false [] [] [1] [(1, [SV.cst (Value.slice none 0 0)])]
    (VC.split (BE.not (BE.var 2))
      (VC.ob (BE.not (BE.nil 0))
        (VC.start false [] [] [(1, [SV.cst (Value.slice none 0 0)])]
          (VC.load (SV.ptr 0 5) [Base.slice]
            (VC.call 48 [SV.var 3, SV.fn 49 []] [Base.slice] (SV.var 4) [] false [] [] [1] [(1, [SV.cst (Value.slice none 0 0)])] (VC.leaf 0 [SV.fn 50 [SV.ptr 1 0]] [1] [(1, [SV.var 4])])))))
      (VC.leaf 0 [SV.fn 50 [SV.ptr 1 0]] [] [(1, [SV.cst (Value.slice none 0 0)])]))) := by kernel_rfl

theorem t48 : exFn { P := Try.prog, loops := fun r => if Nat.beq r 2 then some ⟨1, [(9, .int .i64), (4, .slice)], []⟩ else none } 48 [.var 0, .var 1] [.slice, .func] [] =
  VC.loop 1 [SV.int IntKind.i64 (IE.lit 0), SV.cst (Value.slice none 0 0)] [Base.int IntKind.i64, Base.slice] [] [] [] []
  (VC.split (BE.lt (IE.var 2) (IE.len 0))
    (VC.ob (BE.le (IE.lit 0) (IE.var 2))
      (VC.ob (BE.lt (IE.var 2) (IE.len 0))
        (VC.ob (BE.not (BE.nil 0))
          (VC.start false [] [] []
            (VC.load (SV.elt 0 0 (IE.var 2) 3 0) [Base.slice, Base.int IntKind.i64, Base.int IntKind.i64]
              (VC.blk
                (VC.gen (Op.call { callee := Callee.value (Operand.tmp 14), args := #[Operand.tmp 15], argTypes := #[81] }) 3
                  [(Operand.tmp 14, SV.var 1), (Operand.tmp 15, SV.agg [SV.var 4, SV.int IntKind.i64 (IE.var 5), SV.int IntKind.i64 (IE.var 6)])] [Base.int IntKind.i64] (SV.int IntKind.i64 (IE.var 8))
                  [] false [7] [] [7] [(7, [SV.var 4, SV.int IntKind.i64 (IE.var 5), SV.int IntKind.i64 (IE.var 6)])]
                  (VC.blk
                    (VC.gen (Op.call { callee := Callee.builtin Builtin.append, args := #[Operand.tmp 13, Operand.tmp 17], argTypes := #[24, 24] }) 24
                      [(Operand.tmp 13, SV.var 3), (Operand.tmp 17, SV.slc 9 0 1 1)] [Base.slice] (SV.var 10) [] false [] [] [9, 7]
                      [(9, [SV.int IntKind.i64 (IE.var 8)]), (7, [SV.var 4, SV.int IntKind.i64 (IE.var 5), SV.int IntKind.i64 (IE.var 6)])]
                      (VC.ob (BE.le (IE.lit (-9223372036854775808)) (IE.add (IE.var 2) (IE.lit 1)))
                        (VC.ob (BE.le (IE.add (IE.var 2) (IE.lit 1)) (IE.lit 9223372036854775807))
                          (VC.leaf 1 [SV.int IntKind.i64 (IE.add (IE.var 2) (IE.lit 1)), SV.var 10] []
                            [(9, [SV.int IntKind.i64 (IE.var 8)]), (7, [SV.var 4, SV.int IntKind.i64 (IE.var 5), SV.int IntKind.i64 (IE.var 6)])]))))))))))))
    (VC.leaf 0 [SV.var 3] [] [])) := by kernel_rfl

theorem t37 : exFn { P := Try.prog, loops := fun r => if Nat.beq r 2 then some ⟨1, [(9, .int .i64), (4, .slice)], []⟩ else none } 37 [.var 0, .var 1] [.slice, .func] [] =
  VC.loop 1 [SV.int IntKind.i64 (IE.lit 0), SV.cst (Value.slice none 0 0)] [Base.int IntKind.i64, Base.slice] [] [] [] []
  (VC.split (BE.lt (IE.var 2) (IE.len 0))
    (VC.ob (BE.le (IE.lit 0) (IE.var 2))
      (VC.ob (BE.lt (IE.var 2) (IE.len 0))
        (VC.ob (BE.not (BE.nil 0))
          (VC.start false [] [] []
            (VC.load (SV.elt 0 0 (IE.var 2) 3 0) [Base.slice, Base.int IntKind.i64, Base.int IntKind.i64]
              (VC.blk
                (VC.gen (Op.call { callee := Callee.value (Operand.tmp 14), args := #[Operand.tmp 15], argTypes := #[81] }) 81
                  [(Operand.tmp 14, SV.var 1), (Operand.tmp 15, SV.agg [SV.var 4, SV.int IntKind.i64 (IE.var 5), SV.int IntKind.i64 (IE.var 6)])]
                  [Base.slice, Base.int IntKind.i64, Base.int IntKind.i64] (SV.agg [SV.var 8, SV.int IntKind.i64 (IE.var 9), SV.int IntKind.i64 (IE.var 10)]) [] false [7] [] [7]
                  [(7, [SV.var 4, SV.int IntKind.i64 (IE.var 5), SV.int IntKind.i64 (IE.var 6)])]
                  (VC.blk
                    (VC.gen (Op.call { callee := Callee.builtin Builtin.append, args := #[Operand.tmp 13, Operand.tmp 17], argTypes := #[48, 48] }) 48
                      [(Operand.tmp 13, SV.var 3), (Operand.tmp 17, SV.slc 11 0 1 1)] [Base.slice] (SV.var 12) [] false [] [] [11, 7]
                      [(11, [SV.var 8, SV.int IntKind.i64 (IE.var 9), SV.int IntKind.i64 (IE.var 10)]), (7, [SV.var 4, SV.int IntKind.i64 (IE.var 5), SV.int IntKind.i64 (IE.var 6)])]
                      (VC.ob (BE.le (IE.lit (-9223372036854775808)) (IE.add (IE.var 2) (IE.lit 1)))
                        (VC.ob (BE.le (IE.add (IE.var 2) (IE.lit 1)) (IE.lit 9223372036854775807))
                          (VC.leaf 1 [SV.int IntKind.i64 (IE.add (IE.var 2) (IE.lit 1)), SV.var 12] []
                            [(11, [SV.var 8, SV.int IntKind.i64 (IE.var 9), SV.int IntKind.i64 (IE.var 10)]), (7, [SV.var 4, SV.int IntKind.i64 (IE.var 5), SV.int IntKind.i64 (IE.var 6)])]))))))))))))
    (VC.leaf 0 [SV.var 3] [] [])) := by kernel_rfl

theorem t49 : exFn { P := Try.prog } 49 [.agg [.var 0, .int .i64 (.var 1), .int .i64 (.var 2)]] [.slice, .int .i64, .int .i64] [] =
  VC.blk (VC.leaf 0 [SV.int IntKind.i64 (IE.var 2)] [] [(3, [SV.var 0, SV.int IntKind.i64 (IE.var 1), SV.int IntKind.i64 (IE.var 2)])]) := by kernel_rfl

theorem t38 : exFn { P := Try.prog } 38 [.agg [.var 0, .int .i64 (.var 1), .int .i64 (.var 2)]] [.slice, .int .i64, .int .i64] [] =
  VC.blk
  (VC.blk
    (VC.call 39 [SV.var 0] [Base.slice] (SV.var 5) [] false [] [] [4, 3]
      [(4, [SV.cst (Value.slice none 0 0), SV.int IntKind.i64 (IE.lit 0), SV.int IntKind.i64 (IE.lit 0)]), (3, [SV.var 0, SV.int IntKind.i64 (IE.var 1), SV.int IntKind.i64 (IE.var 2)])]
      (VC.leaf 0 [SV.agg [SV.var 5, SV.int IntKind.i64 (IE.var 1), SV.int IntKind.i64 (IE.var 2)]] [4, 3]
        [(4, [SV.var 5, SV.int IntKind.i64 (IE.var 1), SV.int IntKind.i64 (IE.var 2)]), (3, [SV.var 5, SV.int IntKind.i64 (IE.var 1), SV.int IntKind.i64 (IE.var 2)])]))) := by kernel_rfl

theorem t50 : exFn { P := Try.prog, loops := fun r => if Nat.beq r 1 then some ⟨1, [(7, .int .i64)], []⟩ else none } 50 [.var 0, .ptr 1 0] [.func, .ptr] [] =
  VC.start false [] [] []
  (VC.load (SV.ptr 1 0) [Base.slice]
    (VC.loop 1 [SV.int IntKind.i64 (IE.lit 0)] [Base.int IntKind.i64] [] [] [] []
      (VC.split (BE.lt (IE.var 3) (IE.len 2))
        (VC.ob (BE.le (IE.lit 0) (IE.var 3))
          (VC.ob (BE.lt (IE.var 3) (IE.len 2))
            (VC.ob (BE.not (BE.nil 2))
              (VC.start false [] [] []
                (VC.load (SV.elt 2 0 (IE.var 3) 1 0) [Base.int IntKind.i64]
                  (VC.gen (Op.call { callee := Callee.value (Operand.tmp 12), args := #[Operand.tmp 13, Operand.tmp 14], argTypes := #[3, 3] }) 4
                    [(Operand.tmp 12, SV.var 0), (Operand.tmp 13, SV.int IntKind.i64 (IE.var 3)), (Operand.tmp 14, SV.int IntKind.i64 (IE.var 4))] [Base.bool] (SV.bool (BE.var 5)) [] false [] [] [] []
                    (VC.split (BE.not (BE.var 5)) (VC.leaf 0 [SV.tuple []] [] [])
                      (VC.ob (BE.le (IE.lit (-9223372036854775808)) (IE.add (IE.var 3) (IE.lit 1)))
                        (VC.ob (BE.le (IE.add (IE.var 3) (IE.lit 1)) (IE.lit 9223372036854775807)) (VC.leaf 1 [SV.int IntKind.i64 (IE.add (IE.var 3) (IE.lit 1))] [] []))))))))))
        (VC.leaf 0 [SV.tuple []] [] [])))) := by kernel_rfl

theorem t27 : exFn { P := Try.prog, ranged := true, ranges := fun t => if Nat.beq t 8 then some ⟨2, [3, 3], []⟩ else none } 27 [.var 0, .int .i64 (.var 1)] [.ptr, .int .i64] [] =
  VC.blk
  (VC.blk
    (VC.call 17 [SV.var 0] [Base.func] (SV.var 4) [] false [] [] [3, 2] [(3, [SV.int IntKind.i64 (IE.lit 0)]), (2, [SV.int IntKind.i64 (IE.var 1)])]
      (VC.range 2 (SV.var 4) [Base.int IntKind.i64, Base.int IntKind.i64] [3, 3] [] [] [] [3, 2] [(3, [SV.int IntKind.i64 (IE.lit 0)]), (2, [SV.int IntKind.i64 (IE.var 1)])]
        [(3, [SV.int IntKind.i64 (IE.lit 0)]), (2, [SV.int IntKind.i64 (IE.var 1)])]
        (VC.split (BE.eq (IE.var 5) (IE.var 1))
          (VC.resume [3] [3, 2] [(3, [SV.int IntKind.i64 (IE.var 6)]), (2, [SV.int IntKind.i64 (IE.var 1)])]
            (VC.leafM 0 [SV.int IntKind.i64 (IE.var 6)] [] [(3, [SV.int IntKind.i64 (IE.var 6)]), (2, [SV.int IntKind.i64 (IE.var 1)])]))
          (VC.leaf 2 [] [] [(3, [SV.int IntKind.i64 (IE.lit 0)]), (2, [SV.int IntKind.i64 (IE.var 1)])]))
        (VC.leafM 0 [SV.int IntKind.i64 (IE.lit 0)] [3] [(3, [SV.int IntKind.i64 (IE.lit 0)]), (2, [SV.int IntKind.i64 (IE.var 1)])])))) := by kernel_rfl

theorem t14 : exFn { P := Try.prog } 14 [.var 0] [.ptr] [] =
  VC.call 33 [SV.var 0] [Base.bool] (SV.bool (BE.var 1)) [] false [] [] [] []
  (VC.split (BE.var 1) (VC.leaf 0 [SV.cst (Value.pointer none)] [] [])
    (VC.ob (BE.not (BE.nil 0))
      (VC.start false [] [] []
        (VC.load (SV.ptr 0 0)
          [Base.int IntKind.i64, Base.int IntKind.i64, Base.int IntKind.i64, Base.int IntKind.i64, Base.map, Base.slice, Base.int IntKind.i64, Base.int IntKind.i64, Base.int IntKind.i64, Base.bool]
          (VC.blk
            (VC.start false [12] []
              [(12,
                  [SV.int IntKind.i64 (IE.var 2), SV.int IntKind.i64 (IE.var 3), SV.int IntKind.i64 (IE.var 4), SV.int IntKind.i64 (IE.var 5), SV.var 6, SV.var 7, SV.int IntKind.i64 (IE.var 8),
                    SV.int IntKind.i64 (IE.var 9), SV.int IntKind.i64 (IE.var 10), SV.bool (BE.var 11)])]
              (VC.load (SV.ptr 0 4) [Base.map]
                (VC.call 36 [SV.var 13] [Base.map] (SV.var 14) [] false [] [] [12]
                  [(12,
                      [SV.int IntKind.i64 (IE.var 2), SV.int IntKind.i64 (IE.var 3), SV.int IntKind.i64 (IE.var 4), SV.int IntKind.i64 (IE.var 5), SV.var 6, SV.var 7, SV.int IntKind.i64 (IE.var 8),
                        SV.int IntKind.i64 (IE.var 9), SV.int IntKind.i64 (IE.var 10), SV.bool (BE.var 11)])]
                  (VC.start false [12] []
                    [(12,
                        [SV.int IntKind.i64 (IE.var 2), SV.int IntKind.i64 (IE.var 3), SV.int IntKind.i64 (IE.var 4), SV.int IntKind.i64 (IE.var 5), SV.var 14, SV.var 7, SV.int IntKind.i64 (IE.var 8),
                          SV.int IntKind.i64 (IE.var 9), SV.int IntKind.i64 (IE.var 10), SV.bool (BE.var 11)])]
                    (VC.load (SV.ptr 0 5) [Base.slice]
                      (VC.call 37 [SV.var 15, SV.fn 38 []] [Base.slice] (SV.var 16) [] false [] [] [12]
                        [(12,
                            [SV.int IntKind.i64 (IE.var 2), SV.int IntKind.i64 (IE.var 3), SV.int IntKind.i64 (IE.var 4), SV.int IntKind.i64 (IE.var 5), SV.var 14, SV.var 7,
                              SV.int IntKind.i64 (IE.var 8), SV.int IntKind.i64 (IE.var 9), SV.int IntKind.i64 (IE.var 10), SV.bool (BE.var 11)])]
                        (VC.leaf 0 [SV.ptr 12 0] [12]
                          [(12,
                              [SV.int IntKind.i64 (IE.var 2), SV.int IntKind.i64 (IE.var 3), SV.int IntKind.i64 (IE.var 4), SV.int IntKind.i64 (IE.var 5), SV.var 14, SV.var 16,
                                SV.int IntKind.i64 (IE.var 8), SV.int IntKind.i64 (IE.var 9), SV.int IntKind.i64 (IE.var 10), SV.bool (BE.var 11)])])))))))))))) := by kernel_rfl

end Go.Proofs.Ytppbapnibpeolaa
