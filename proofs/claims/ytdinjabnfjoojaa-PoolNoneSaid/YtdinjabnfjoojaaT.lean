/- What the functions of the chapter come to, printed by a program of the prover's and checked by the kernel. No conditions. -/
import Derived.Test.YtdinjabnfjoojaaSxX
import Derived.Test.YtdinjabnfjoojaaProg
import Derived.KernelRfl
set_option maxRecDepth 100000
set_option linter.unusedVariables false
namespace Go.Proofs.Ytdinjabnfjoojaa
open Go.Sx

theorem t10 : exFn { P := Try.prog } 10 [.int .i64 (.var 0)] [.int .i64] [] =
  VC.leaf 0 [SV.int IntKind.i64 (IE.var 0)] [] [] := by kernel_rfl

theorem t27 : exFn { P := Try.prog } 27 [.var 0, .var 1] [.slice, .func] [] =
  VC.call 51 [SV.var 0, SV.var 1] [Base.int IntKind.i64] (SV.int IntKind.i64 (IE.var 2)) [] false [] [] [] [] (VC.leaf 0 [SV.bool (BE.le (IE.lit 0) (IE.var 2))] [] []) := by kernel_rfl

theorem t28 : exFn { P := Try.prog } 28 [.int .i64 (.var 0)] [.int .i64] [] =
  VC.call 29 [SV.int IntKind.i64 (IE.var 0)] [Base.bool] (SV.bool (BE.var 1)) [] false [] [] [] [] (VC.leaf 0 [SV.bool (BE.not (BE.var 1))] [] []) := by kernel_rfl

theorem t29 : exFn { P := Try.prog } 29 [.int .i64 (.var 0)] [.int .i64] [] =
  VC.split (BE.le (IE.lit 0) (IE.var 0)) (VC.leaf 0 [SV.bool (BE.le (IE.var 0) (IE.lit 1099511627776))] [] []) (VC.leaf 0 [SV.bool (BE.lit false)] [] []) := by kernel_rfl

theorem t30 : exFn { P := Try.prog } 30 [.var 0] [.ptr] [] =
  VC.split (BE.nil 0) (VC.leaf 0 [SV.bool (BE.lit true)] [] []) (VC.start false [] [] [] (VC.load (SV.ptr 0 0) [Base.slice] (VC.leaf 0 [SV.bool (BE.eq (IE.len 1) (IE.lit 0))] [] []))) := by kernel_rfl

theorem t51 : exFn { P := Try.prog, loops := fun r => if Nat.beq r 2 then some ⟨1, [(8, .int .i64)], []⟩ else none } 51 [.var 0, .var 1] [.slice, .func] [] =
  VC.loop 1 [SV.int IntKind.i64 (IE.lit 0)] [Base.int IntKind.i64] [] [] [] []
  (VC.split (BE.lt (IE.var 2) (IE.len 0))
    (VC.ob (BE.le (IE.lit 0) (IE.var 2))
      (VC.ob (BE.lt (IE.var 2) (IE.len 0))
        (VC.ob (BE.not (BE.nil 0))
          (VC.start false [] [] []
            (VC.load (SV.elt 0 0 (IE.var 2) 1 0) [Base.int IntKind.i64]
              (VC.gen (Op.call { callee := Callee.value (Operand.tmp 11), args := { toList := [Operand.tmp 15] }, argTypes := { toList := [3] } }) 4
                [(Operand.tmp 11, SV.var 1), (Operand.tmp 15, SV.int IntKind.i64 (IE.var 3))] [Base.bool] (SV.bool (BE.var 4)) [] false [] [] [] []
                (VC.split (BE.var 4) (VC.leaf 0 [SV.int IntKind.i64 (IE.var 2)] [] [])
                  (VC.ob (BE.le (IE.lit (-9223372036854775808)) (IE.add (IE.var 2) (IE.lit 1)))
                    (VC.ob (BE.le (IE.add (IE.var 2) (IE.lit 1)) (IE.lit 9223372036854775807)) (VC.leaf 1 [SV.int IntKind.i64 (IE.add (IE.var 2) (IE.lit 1))] [] []))))))))))
    (VC.leaf 0 [SV.int IntKind.i64 (IE.lit (-1))] [] [])) := by kernel_rfl

theorem t47 : exFn { P := Try.prog } 47 [.var 0] [.slice] [] =
  VC.split (BE.nil 0) (VC.leaf 0 [SV.cst (Value.slice none 0 0)] [] [])
  (VC.blk
    (VC.gen (Op.call { callee := Callee.builtin Builtin.append, args := { toList := [Operand.tmp 5, Operand.tmp 6] }, argTypes := { toList := [54, 54] } }) 54
      [(Operand.tmp 5, SV.slc 1 0 0 0), (Operand.tmp 6, SV.var 0)] [Base.slice] (SV.var 2) [] false [] [] [1] [(1, [])] (VC.leaf 0 [SV.var 2] [] [(1, [])]))) := by kernel_rfl

theorem t17 : exFn { P := Try.prog } 17 [.var 0, .int .i64 (.var 1)] [.ptr, .int .i64] [] =
  VC.blk
  (VC.blk
    (VC.call 30 [SV.var 0] [Base.bool] (SV.bool (BE.var 4)) [] false [] [] [3, 2] [(3, [SV.cst (Value.slice none 0 0)]), (2, [SV.int IntKind.i64 (IE.var 1)])]
      (VC.split (BE.not (BE.var 4))
        (VC.ob (BE.not (BE.nil 0))
          (VC.start false [] [] [(3, [SV.cst (Value.slice none 0 0)]), (2, [SV.int IntKind.i64 (IE.var 1)])]
            (VC.load (SV.ptr 0 0) [Base.slice]
              (VC.call 47 [SV.var 5] [Base.slice] (SV.var 6) [] false [] [] [3, 2] [(3, [SV.cst (Value.slice none 0 0)]), (2, [SV.int IntKind.i64 (IE.var 1)])]
                (VC.leaf 0 [SV.fn 48 [SV.ptr 3 0, SV.ptr 2 0]] [3] [(3, [SV.var 6]), (2, [SV.int IntKind.i64 (IE.var 1)])])))))
        (VC.leaf 0 [SV.fn 48 [SV.ptr 3 0, SV.ptr 2 0]] [] [(3, [SV.cst (Value.slice none 0 0)]), (2, [SV.int IntKind.i64 (IE.var 1)])])))) := by kernel_rfl

theorem t48 : exFn { P := Try.prog, loops := fun r => if Nat.beq r 1 then some ⟨1, [(8, .int .i64)], []⟩ else none } 48 [.var 0, .ptr 1 0, .ptr 2 0] [.func, .ptr, .ptr] [] =
  VC.start false [] [] []
  (VC.load (SV.ptr 1 0) [Base.slice]
    (VC.loop 1 [SV.int IntKind.i64 (IE.lit 0)] [Base.int IntKind.i64] [] [] [] []
      (VC.split (BE.lt (IE.var 4) (IE.len 3))
        (VC.ob (BE.le (IE.lit 0) (IE.var 4))
          (VC.ob (BE.lt (IE.var 4) (IE.len 3))
            (VC.ob (BE.not (BE.nil 3))
              (VC.start false [] [] []
                (VC.load (SV.elt 3 0 (IE.var 4) 2 0) [Base.int IntKind.i64, Base.int IntKind.i64]
                  (VC.blk
                    (VC.start false [7] [] [(7, [SV.int IntKind.i64 (IE.var 5), SV.int IntKind.i64 (IE.var 6)])]
                      (VC.load (SV.ptr 2 0) [Base.int IntKind.i64]
                        (VC.split (BE.eq (IE.var 6) (IE.var 8))
                          (VC.gen (Op.call { callee := Callee.value (Operand.tmp 18), args := { toList := [Operand.tmp 19, Operand.tmp 22] }, argTypes := { toList := [3, 3] } }) 4
                            [(Operand.tmp 18, SV.var 0), (Operand.tmp 19, SV.int IntKind.i64 (IE.var 4)), (Operand.tmp 22, SV.int IntKind.i64 (IE.var 5))] [Base.bool] (SV.bool (BE.var 9)) [] false []
                            [] [7] [(7, [SV.int IntKind.i64 (IE.var 5), SV.int IntKind.i64 (IE.var 6)])]
                            (VC.split (BE.not (BE.var 9)) (VC.leaf 0 [SV.tuple []] [] [(7, [SV.int IntKind.i64 (IE.var 5), SV.int IntKind.i64 (IE.var 6)])])
                              (VC.ob (BE.le (IE.lit (-9223372036854775808)) (IE.add (IE.var 4) (IE.lit 1)))
                                (VC.ob (BE.le (IE.add (IE.var 4) (IE.lit 1)) (IE.lit 9223372036854775807))
                                  (VC.leaf 1 [SV.int IntKind.i64 (IE.add (IE.var 4) (IE.lit 1))] [] [(7, [SV.int IntKind.i64 (IE.var 5), SV.int IntKind.i64 (IE.var 6)])])))))
                          (VC.ob (BE.le (IE.lit (-9223372036854775808)) (IE.add (IE.var 4) (IE.lit 1)))
                            (VC.ob (BE.le (IE.add (IE.var 4) (IE.lit 1)) (IE.lit 9223372036854775807))
                              (VC.leaf 1 [SV.int IntKind.i64 (IE.add (IE.var 4) (IE.lit 1))] [] [(7, [SV.int IntKind.i64 (IE.var 5), SV.int IntKind.i64 (IE.var 6)])]))))))))))))
        (VC.leaf 0 [SV.tuple []] [] [])))) := by kernel_rfl

theorem t31 : exFn { P := Try.prog, ranged := true, ranges := fun t => if Nat.beq t 11 then some ⟨1, [3, 3], [5, 6]⟩ else none } 31 [.var 0, .int .i64 (.var 1)] [.ptr, .int .i64] [] =
  VC.blk
  (VC.blk
    (VC.call 17 [SV.var 0, SV.int IntKind.i64 (IE.var 1)] [Base.func] (SV.var 4) [] false [3, 2] [] [3, 2] [(3, [SV.int IntKind.i64 (IE.lit 0)]), (2, [SV.int IntKind.i64 (IE.lit (-1))])]
      (VC.range 1 (SV.var 4) [Base.int IntKind.i64, Base.int IntKind.i64] [3, 3] [SV.int IntKind.i64 (IE.lit (-1)), SV.int IntKind.i64 (IE.lit 0)] [Base.int IntKind.i64, Base.int IntKind.i64] []
        [3, 2] [(3, [SV.int IntKind.i64 (IE.lit 0)]), (2, [SV.int IntKind.i64 (IE.lit (-1))])] [(3, [SV.int IntKind.i64 (IE.var 6)]), (2, [SV.int IntKind.i64 (IE.var 5)])]
        (VC.split (BE.lt (IE.var 5) (IE.lit 0))
          (VC.leaf 1 [SV.int IntKind.i64 (IE.var 7), SV.int IntKind.i64 (IE.var 8)] [3, 2] [(3, [SV.int IntKind.i64 (IE.var 8)]), (2, [SV.int IntKind.i64 (IE.var 7)])])
          (VC.split (BE.lt (IE.var 8) (IE.var 6))
            (VC.leaf 1 [SV.int IntKind.i64 (IE.var 7), SV.int IntKind.i64 (IE.var 8)] [3, 2] [(3, [SV.int IntKind.i64 (IE.var 8)]), (2, [SV.int IntKind.i64 (IE.var 7)])])
            (VC.leaf 1 [SV.int IntKind.i64 (IE.var 5), SV.int IntKind.i64 (IE.var 6)] [] [(3, [SV.int IntKind.i64 (IE.var 6)]), (2, [SV.int IntKind.i64 (IE.var 5)])])))
        (VC.leafM 0 [SV.int IntKind.i64 (IE.var 5)] [] [(3, [SV.int IntKind.i64 (IE.var 6)]), (2, [SV.int IntKind.i64 (IE.var 5)])])))) := by kernel_rfl

theorem t50 : exFn { P := Try.prog } 50 [.var 0, .int .i64 (.var 1)] [.ptr, .int .i64] [] =
  VC.split (BE.le (IE.lit 0) (IE.var 1)) (VC.ob (BE.not (BE.nil 0)) (VC.start false [] [] [] (VC.load (SV.ptr 0 0) [Base.slice] (VC.leaf 0 [SV.bool (BE.lt (IE.var 1) (IE.len 2))] [] []))))
  (VC.leaf 0 [SV.bool (BE.lit false)] [] []) := by kernel_rfl

theorem t33 : exFn { P := Try.prog } 33 [.var 0, .int .i64 (.var 1), .var 2] [.ptr, .int .i64, .func] [] =
  VC.call 30 [SV.var 0] [Base.bool] (SV.bool (BE.var 3)) [] false [] [] [] []
  (VC.split (BE.var 3) (VC.leaf 0 [SV.int IntKind.i64 (IE.lit 1)] [] [])
    (VC.call 50 [SV.var 0, SV.int IntKind.i64 (IE.var 1)] [Base.bool] (SV.bool (BE.var 4)) [] false [] [] [] []
      (VC.split (BE.not (BE.var 4)) (VC.leaf 0 [SV.int IntKind.i64 (IE.lit 3)] [] [])
        (VC.ob (BE.not (BE.nil 0))
          (VC.start false [] [] []
            (VC.load (SV.ptr 0 0) [Base.slice]
              (VC.ob (BE.le (IE.lit 0) (IE.var 1))
                (VC.ob (BE.lt (IE.var 1) (IE.len 5))
                  (VC.ob (BE.not (BE.nil 5))
                    (VC.start false [] [] []
                      (VC.load (SV.elt 5 0 (IE.var 1) 2 0) [Base.int IntKind.i64, Base.int IntKind.i64]
                        (VC.gen (Op.call { callee := Callee.value (Operand.tmp 13), args := { toList := [Operand.tmp 20] }, argTypes := { toList := [70] } }) 4
                          [(Operand.tmp 13, SV.var 2), (Operand.tmp 20, SV.agg [SV.int IntKind.i64 (IE.var 6), SV.int IntKind.i64 (IE.var 7)])] [Base.bool] (SV.bool (BE.var 8)) [] false [] [] [] []
                          (VC.split (BE.not (BE.var 8)) (VC.leaf 0 [SV.int IntKind.i64 (IE.lit 8)] [] []) (VC.leaf 0 [SV.int IntKind.i64 (IE.lit 0)] [] [])))))))))))))) := by kernel_rfl

theorem t34 : exFn { P := Try.prog } 34 [.agg [.int .i64 (.var 0), .int .i64 (.var 1)]] [.int .i64, .int .i64] [] =
  VC.blk
  (VC.call 49 [SV.agg [SV.int IntKind.i64 (IE.var 0), SV.int IntKind.i64 (IE.var 1)]] [Base.bool] (SV.bool (BE.var 3)) [] false [] [] [2]
    [(2, [SV.int IntKind.i64 (IE.var 0), SV.int IntKind.i64 (IE.var 1)])]
    (VC.split (BE.var 3) (VC.leaf 0 [SV.bool (BE.lt (IE.var 0) (IE.lit 1099511627776))] [] [(2, [SV.int IntKind.i64 (IE.var 0), SV.int IntKind.i64 (IE.var 1)])])
      (VC.split (BE.eq (IE.var 1) (IE.lit 3)) (VC.leaf 0 [SV.bool (BE.lt (IE.var 0) (IE.lit 1099511627776))] [] [(2, [SV.int IntKind.i64 (IE.var 0), SV.int IntKind.i64 (IE.var 1)])])
        (VC.leaf 0 [SV.bool (BE.lit false)] [] [(2, [SV.int IntKind.i64 (IE.var 0), SV.int IntKind.i64 (IE.var 1)])])))) := by kernel_rfl

theorem t36 : exFn { P := Try.prog } 36 [.agg [.int .i64 (.var 0), .int .i64 (.var 1)]] [.int .i64, .int .i64] [] =
  VC.blk (VC.leaf 0 [SV.bool (BE.not (BE.eq (IE.var 1) (IE.lit 4)))] [] [(2, [SV.int IntKind.i64 (IE.var 0), SV.int IntKind.i64 (IE.var 1)])]) := by kernel_rfl

theorem t49 : exFn { P := Try.prog } 49 [.agg [.int .i64 (.var 0), .int .i64 (.var 1)]] [.int .i64, .int .i64] [] =
  VC.blk (VC.leaf 0 [SV.bool (BE.eq (IE.var 1) (IE.lit 2))] [] [(2, [SV.int IntKind.i64 (IE.var 0), SV.int IntKind.i64 (IE.var 1)])]) := by kernel_rfl

theorem t37 : exFn { P := Try.prog } 37 [.agg [.int .i64 (.var 0), .int .i64 (.var 1)], .agg [.int .i64 (.var 2), .int .i64 (.var 3)]] [.int .i64, .int .i64, .int .i64, .int .i64] [] =
  VC.blk
  (VC.blk
    (VC.leaf 0 [SV.bool (BE.lt (IE.var 0) (IE.var 2))] [] [(5, [SV.int IntKind.i64 (IE.var 2), SV.int IntKind.i64 (IE.var 3)]), (4, [SV.int IntKind.i64 (IE.var 0), SV.int IntKind.i64 (IE.var 1)])])) := by kernel_rfl

theorem t38 : exFn { P := Try.prog } 38 [.agg [.int .i64 (.var 0), .int .i64 (.var 1)], .agg [.int .i64 (.var 2), .int .i64 (.var 3)]] [.int .i64, .int .i64, .int .i64, .int .i64] [] =
  VC.blk
  (VC.blk
    (VC.leaf 0 [SV.bool (BE.lt (IE.var 2) (IE.var 0))] [] [(5, [SV.int IntKind.i64 (IE.var 2), SV.int IntKind.i64 (IE.var 3)]), (4, [SV.int IntKind.i64 (IE.var 0), SV.int IntKind.i64 (IE.var 1)])])) := by kernel_rfl

theorem t9 : exFn { P := Try.prog, loops := fun r => if Nat.beq r 5 then some ⟨1, [(23, .int .i64)], [4]⟩ else none } 9 [.var 0] [.slice] [] =
  VC.split (BE.lt (IE.len 0) (IE.lit 1)) (VC.leaf 0 [SV.tuple [SV.cst (Value.pointer none), SV.int IntKind.i64 (IE.lit 2)]] [] [])
  (VC.split (BE.lt (IE.lit 4096) (IE.len 0)) (VC.leaf 0 [SV.tuple [SV.cst (Value.pointer none), SV.int IntKind.i64 (IE.lit 2)]] [] [])
    (VC.call 27 [SV.var 0, SV.fn 28 []] [Base.bool] (SV.bool (BE.var 1)) [] false [] [] [] []
      (VC.split (BE.var 1) (VC.leaf 0 [SV.tuple [SV.cst (Value.pointer none), SV.int IntKind.i64 (IE.lit 2)]] [] [])
        (VC.blk
          (VC.loop 1
            [SV.int IntKind.i64 (IE.lit 0), SV.cst (Value.slice none 0 0), SV.int IntKind.i64 (IE.lit 0), SV.int IntKind.i64 (IE.lit 0), SV.int IntKind.i64 (IE.lit 0), SV.int IntKind.i64 (IE.lit 0),
              SV.int IntKind.i64 (IE.lit 0)]
            [Base.int IntKind.i64, Base.slice, Base.int IntKind.i64, Base.int IntKind.i64, Base.int IntKind.i64, Base.int IntKind.i64, Base.int IntKind.i64] [] [2]
            [(2,
                [SV.cst (Value.slice none 0 0), SV.int IntKind.i64 (IE.lit 0), SV.int IntKind.i64 (IE.lit 0), SV.int IntKind.i64 (IE.lit 0), SV.int IntKind.i64 (IE.lit 0),
                  SV.int IntKind.i64 (IE.lit 0)])]
            [(2, [SV.var 4, SV.int IntKind.i64 (IE.var 5), SV.int IntKind.i64 (IE.var 6), SV.int IntKind.i64 (IE.var 7), SV.int IntKind.i64 (IE.var 8), SV.int IntKind.i64 (IE.var 9)])]
            (VC.split (BE.lt (IE.var 3) (IE.len 0))
              (VC.ob (BE.le (IE.lit 0) (IE.var 3))
                (VC.ob (BE.lt (IE.var 3) (IE.len 0))
                  (VC.ob (BE.not (BE.nil 0))
                    (VC.start false [] []
                      [(2, [SV.var 4, SV.int IntKind.i64 (IE.var 5), SV.int IntKind.i64 (IE.var 6), SV.int IntKind.i64 (IE.var 7), SV.int IntKind.i64 (IE.var 8), SV.int IntKind.i64 (IE.var 9)])]
                      (VC.load (SV.elt 0 0 (IE.var 3) 1 0) [Base.int IntKind.i64]
                        (VC.blk
                          (VC.gen (Op.call { callee := Callee.builtin Builtin.append, args := { toList := [Operand.tmp 31, Operand.tmp 35] }, argTypes := { toList := [54, 54] } }) 54
                            [(Operand.tmp 31, SV.var 4), (Operand.tmp 35, SV.slc 11 0 1 1)] [Base.slice] (SV.var 12) [] false [] [] [11, 2]
                            [(11, [SV.int IntKind.i64 (IE.var 10), SV.int IntKind.i64 (IE.lit 1)]),
                              (2,
                                [SV.var 4, SV.int IntKind.i64 (IE.var 5), SV.int IntKind.i64 (IE.var 6), SV.int IntKind.i64 (IE.var 7), SV.int IntKind.i64 (IE.var 8), SV.int IntKind.i64 (IE.var 9)])]
                            (VC.ob (BE.le (IE.lit (-9223372036854775808)) (IE.add (IE.var 3) (IE.lit 1)))
                              (VC.ob (BE.le (IE.add (IE.var 3) (IE.lit 1)) (IE.lit 9223372036854775807))
                                (VC.leaf 1
                                  [SV.int IntKind.i64 (IE.add (IE.var 3) (IE.lit 1)), SV.var 12, SV.int IntKind.i64 (IE.var 5), SV.int IntKind.i64 (IE.var 6), SV.int IntKind.i64 (IE.var 7),
                                    SV.int IntKind.i64 (IE.var 8), SV.int IntKind.i64 (IE.var 9)]
                                  [2]
                                  [(11, [SV.int IntKind.i64 (IE.var 10), SV.int IntKind.i64 (IE.lit 1)]),
                                    (2,
                                      [SV.var 12, SV.int IntKind.i64 (IE.var 5), SV.int IntKind.i64 (IE.var 6), SV.int IntKind.i64 (IE.var 7), SV.int IntKind.i64 (IE.var 8),
                                        SV.int IntKind.i64 (IE.var 9)])]))))))))))
              (VC.leaf 0 [SV.tuple [SV.ptr 2 0, SV.int IntKind.i64 (IE.lit 0)]] [2]
                [(2, [SV.var 4, SV.int IntKind.i64 (IE.var 5), SV.int IntKind.i64 (IE.len 0), SV.int IntKind.i64 (IE.var 7), SV.int IntKind.i64 (IE.var 8), SV.int IntKind.i64 (IE.var 9)])]))))))) := by kernel_rfl

theorem t32 : exFn { P := Try.prog } 32 [.ptr 0 0, .int .i64 (.var 7), .int .i64 (.var 8)] [.ptr, .slice, .int .i64, .int .i64, .int .i64, .int .i64, .int .i64, .int .i64, .int .i64] [(0, [.var 1, .int .i64 (.var 2), .int .i64 (.var 3), .int .i64 (.var 4), .int .i64 (.var 5), .int .i64 (.var 6)])] =
  VC.start true [] [0] [(0, [SV.var 1, SV.int IntKind.i64 (IE.var 2), SV.int IntKind.i64 (IE.var 3), SV.int IntKind.i64 (IE.var 4), SV.int IntKind.i64 (IE.var 5), SV.int IntKind.i64 (IE.var 6)])]
  (VC.ob (BE.le (IE.lit 0) (IE.var 7))
    (VC.ob (BE.lt (IE.var 7) (IE.len 1))
      (VC.ob (BE.not (BE.nil 1))
        (VC.load (SV.elt 1 0 (IE.var 7) 2 1) [Base.int IntKind.i64]
          (VC.ob (BE.le (IE.lit 0) (IE.var 9))
            (VC.ob (BE.lt (IE.var 9) (IE.lit 5))
              (VC.split (BE.eq (IE.var 9) (IE.lit 0))
                (VC.ob (BE.le (IE.lit (-9223372036854775808)) (IE.sub (IE.var 2) (IE.lit 1)))
                  (VC.ob (BE.le (IE.sub (IE.var 2) (IE.lit 1)) (IE.lit 9223372036854775807))
                    (VC.ob (BE.le (IE.lit 0) (IE.var 9))
                      (VC.ob (BE.lt (IE.var 9) (IE.lit 5))
                        (VC.start true [0] [0]
                          [(0,
                              [SV.var 1, SV.int IntKind.i64 (IE.sub (IE.var 2) (IE.lit 1)), SV.int IntKind.i64 (IE.var 3), SV.int IntKind.i64 (IE.var 4), SV.int IntKind.i64 (IE.var 5),
                                SV.int IntKind.i64 (IE.var 6)])]
                          (VC.ob (BE.le (IE.lit 0) (IE.var 8))
                            (VC.ob (BE.lt (IE.var 8) (IE.lit 5))
                              (VC.split (BE.eq (IE.var 8) (IE.lit 0))
                                (VC.ob (BE.le (IE.lit (-9223372036854775808)) (IE.add (IE.sub (IE.var 2) (IE.lit 1)) (IE.lit 1)))
                                  (VC.ob (BE.le (IE.add (IE.sub (IE.var 2) (IE.lit 1)) (IE.lit 1)) (IE.lit 9223372036854775807))
                                    (VC.ob (BE.le (IE.lit 0) (IE.var 8))
                                      (VC.ob (BE.lt (IE.var 8) (IE.lit 5))
                                        (VC.ob (BE.le (IE.lit 0) (IE.var 7))
                                          (VC.ob (BE.lt (IE.var 7) (IE.len 1))
                                            (VC.gen (Op.store 50 (Operand.tmp 40) (Operand.tmp 38)) 0 [(Operand.tmp 40, SV.elt 1 0 (IE.var 7) 2 1), (Operand.tmp 38, SV.int IntKind.i64 (IE.var 8))] []
                                              (SV.cst (Value.tuple { toList := [] })) [] false [0] [] [0]
                                              [(0,
                                                  [SV.var 1, SV.int IntKind.i64 (IE.add (IE.sub (IE.var 2) (IE.lit 1)) (IE.lit 1)), SV.int IntKind.i64 (IE.var 3), SV.int IntKind.i64 (IE.var 4),
                                                    SV.int IntKind.i64 (IE.var 5), SV.int IntKind.i64 (IE.var 6)])]
                                              (VC.leaf 0 [SV.tuple []] []
                                                [(0,
                                                    [SV.var 1, SV.int IntKind.i64 (IE.add (IE.sub (IE.var 2) (IE.lit 1)) (IE.lit 1)), SV.int IntKind.i64 (IE.var 3), SV.int IntKind.i64 (IE.var 4),
                                                      SV.int IntKind.i64 (IE.var 5), SV.int IntKind.i64 (IE.var 6)])]))))))))
                                (VC.split (BE.eq (IE.var 8) (IE.lit 1))
                                  (VC.ob (BE.le (IE.lit (-9223372036854775808)) (IE.add (IE.var 3) (IE.lit 1)))
                                    (VC.ob (BE.le (IE.add (IE.var 3) (IE.lit 1)) (IE.lit 9223372036854775807))
                                      (VC.ob (BE.le (IE.lit 0) (IE.var 8))
                                        (VC.ob (BE.lt (IE.var 8) (IE.lit 5))
                                          (VC.ob (BE.le (IE.lit 0) (IE.var 7))
                                            (VC.ob (BE.lt (IE.var 7) (IE.len 1))
                                              (VC.gen (Op.store 50 (Operand.tmp 40) (Operand.tmp 38)) 0 [(Operand.tmp 40, SV.elt 1 0 (IE.var 7) 2 1), (Operand.tmp 38, SV.int IntKind.i64 (IE.var 8))]
                                                [] (SV.cst (Value.tuple { toList := [] })) [] false [0] [] [0]
                                                [(0,
                                                    [SV.var 1, SV.int IntKind.i64 (IE.sub (IE.var 2) (IE.lit 1)), SV.int IntKind.i64 (IE.add (IE.var 3) (IE.lit 1)), SV.int IntKind.i64 (IE.var 4),
                                                      SV.int IntKind.i64 (IE.var 5), SV.int IntKind.i64 (IE.var 6)])]
                                                (VC.leaf 0 [SV.tuple []] []
                                                  [(0,
                                                      [SV.var 1, SV.int IntKind.i64 (IE.sub (IE.var 2) (IE.lit 1)), SV.int IntKind.i64 (IE.add (IE.var 3) (IE.lit 1)), SV.int IntKind.i64 (IE.var 4),
                                                        SV.int IntKind.i64 (IE.var 5), SV.int IntKind.i64 (IE.var 6)])]))))))))
                                  (VC.split (BE.eq (IE.var 8) (IE.lit 2))
                                    (VC.ob (BE.le (IE.lit (-9223372036854775808)) (IE.add (IE.var 4) (IE.lit 1)))
                                      (VC.ob (BE.le (IE.add (IE.var 4) (IE.lit 1)) (IE.lit 9223372036854775807))
                                        (VC.ob (BE.le (IE.lit 0) (IE.var 8))
                                          (VC.ob (BE.lt (IE.var 8) (IE.lit 5))
                                            (VC.ob (BE.le (IE.lit 0) (IE.var 7))
                                              (VC.ob (BE.lt (IE.var 7) (IE.len 1))
                                                (VC.gen (Op.store 50 (Operand.tmp 40) (Operand.tmp 38)) 0 [(Operand.tmp 40, SV.elt 1 0 (IE.var 7) 2 1), (Operand.tmp 38, SV.int IntKind.i64 (IE.var 8))]
                                                  [] (SV.cst (Value.tuple { toList := [] })) [] false [0] [] [0]
                                                  [(0,
                                                      [SV.var 1, SV.int IntKind.i64 (IE.sub (IE.var 2) (IE.lit 1)), SV.int IntKind.i64 (IE.var 3), SV.int IntKind.i64 (IE.add (IE.var 4) (IE.lit 1)),
                                                        SV.int IntKind.i64 (IE.var 5), SV.int IntKind.i64 (IE.var 6)])]
                                                  (VC.leaf 0 [SV.tuple []] []
                                                    [(0,
                                                        [SV.var 1, SV.int IntKind.i64 (IE.sub (IE.var 2) (IE.lit 1)), SV.int IntKind.i64 (IE.var 3), SV.int IntKind.i64 (IE.add (IE.var 4) (IE.lit 1)),
                                                          SV.int IntKind.i64 (IE.var 5), SV.int IntKind.i64 (IE.var 6)])]))))))))
                                    (VC.split (BE.eq (IE.var 8) (IE.lit 3))
                                      (VC.ob (BE.le (IE.lit (-9223372036854775808)) (IE.add (IE.var 5) (IE.lit 1)))
                                        (VC.ob (BE.le (IE.add (IE.var 5) (IE.lit 1)) (IE.lit 9223372036854775807))
                                          (VC.ob (BE.le (IE.lit 0) (IE.var 8))
                                            (VC.ob (BE.lt (IE.var 8) (IE.lit 5))
                                              (VC.ob (BE.le (IE.lit 0) (IE.var 7))
                                                (VC.ob (BE.lt (IE.var 7) (IE.len 1))
                                                  (VC.gen (Op.store 50 (Operand.tmp 40) (Operand.tmp 38)) 0
                                                    [(Operand.tmp 40, SV.elt 1 0 (IE.var 7) 2 1), (Operand.tmp 38, SV.int IntKind.i64 (IE.var 8))] [] (SV.cst (Value.tuple { toList := [] })) [] false
                                                    [0] [] [0]
                                                    [(0,
                                                        [SV.var 1, SV.int IntKind.i64 (IE.sub (IE.var 2) (IE.lit 1)), SV.int IntKind.i64 (IE.var 3), SV.int IntKind.i64 (IE.var 4),
                                                          SV.int IntKind.i64 (IE.add (IE.var 5) (IE.lit 1)), SV.int IntKind.i64 (IE.var 6)])]
                                                    (VC.leaf 0 [SV.tuple []] []
                                                      [(0,
                                                          [SV.var 1, SV.int IntKind.i64 (IE.sub (IE.var 2) (IE.lit 1)), SV.int IntKind.i64 (IE.var 3), SV.int IntKind.i64 (IE.var 4),
                                                            SV.int IntKind.i64 (IE.add (IE.var 5) (IE.lit 1)), SV.int IntKind.i64 (IE.var 6)])]))))))))
                                      (VC.split (BE.eq (IE.var 8) (IE.lit 4))
                                        (VC.ob (BE.le (IE.lit (-9223372036854775808)) (IE.add (IE.var 6) (IE.lit 1)))
                                          (VC.ob (BE.le (IE.add (IE.var 6) (IE.lit 1)) (IE.lit 9223372036854775807))
                                            (VC.ob (BE.le (IE.lit 0) (IE.var 8))
                                              (VC.ob (BE.lt (IE.var 8) (IE.lit 5))
                                                (VC.ob (BE.le (IE.lit 0) (IE.var 7))
                                                  (VC.ob (BE.lt (IE.var 7) (IE.len 1))
                                                    (VC.gen (Op.store 50 (Operand.tmp 40) (Operand.tmp 38)) 0
                                                      [(Operand.tmp 40, SV.elt 1 0 (IE.var 7) 2 1), (Operand.tmp 38, SV.int IntKind.i64 (IE.var 8))] [] (SV.cst (Value.tuple { toList := [] })) [] false
                                                      [0] [] [0]
                                                      [(0,
                                                          [SV.var 1, SV.int IntKind.i64 (IE.sub (IE.var 2) (IE.lit 1)), SV.int IntKind.i64 (IE.var 3), SV.int IntKind.i64 (IE.var 4),
                                                            SV.int IntKind.i64 (IE.var 5), SV.int IntKind.i64 (IE.add (IE.var 6) (IE.lit 1))])]
                                                      (VC.leaf 0 [SV.tuple []] []
                                                        [(0,
                                                            [SV.var 1, SV.int IntKind.i64 (IE.sub (IE.var 2) (IE.lit 1)), SV.int IntKind.i64 (IE.var 3), SV.int IntKind.i64 (IE.var 4),
                                                              SV.int IntKind.i64 (IE.var 5), SV.int IntKind.i64 (IE.add (IE.var 6) (IE.lit 1))])]))))))))
                                        (VC.bad "index")))))))))))))
                (VC.split (BE.eq (IE.var 9) (IE.lit 1))
                  (VC.ob (BE.le (IE.lit (-9223372036854775808)) (IE.sub (IE.var 3) (IE.lit 1)))
                    (VC.ob (BE.le (IE.sub (IE.var 3) (IE.lit 1)) (IE.lit 9223372036854775807))
                      (VC.ob (BE.le (IE.lit 0) (IE.var 9))
                        (VC.ob (BE.lt (IE.var 9) (IE.lit 5))
                          (VC.start true [0] [0]
                            [(0,
                                [SV.var 1, SV.int IntKind.i64 (IE.var 2), SV.int IntKind.i64 (IE.sub (IE.var 3) (IE.lit 1)), SV.int IntKind.i64 (IE.var 4), SV.int IntKind.i64 (IE.var 5),
                                  SV.int IntKind.i64 (IE.var 6)])]
                            (VC.ob (BE.le (IE.lit 0) (IE.var 8))
                              (VC.ob (BE.lt (IE.var 8) (IE.lit 5))
                                (VC.split (BE.eq (IE.var 8) (IE.lit 0))
                                  (VC.ob (BE.le (IE.lit (-9223372036854775808)) (IE.add (IE.var 2) (IE.lit 1)))
                                    (VC.ob (BE.le (IE.add (IE.var 2) (IE.lit 1)) (IE.lit 9223372036854775807))
                                      (VC.ob (BE.le (IE.lit 0) (IE.var 8))
                                        (VC.ob (BE.lt (IE.var 8) (IE.lit 5))
                                          (VC.ob (BE.le (IE.lit 0) (IE.var 7))
                                            (VC.ob (BE.lt (IE.var 7) (IE.len 1))
                                              (VC.gen (Op.store 50 (Operand.tmp 40) (Operand.tmp 38)) 0 [(Operand.tmp 40, SV.elt 1 0 (IE.var 7) 2 1), (Operand.tmp 38, SV.int IntKind.i64 (IE.var 8))]
                                                [] (SV.cst (Value.tuple { toList := [] })) [] false [0] [] [0]
                                                [(0,
                                                    [SV.var 1, SV.int IntKind.i64 (IE.add (IE.var 2) (IE.lit 1)), SV.int IntKind.i64 (IE.sub (IE.var 3) (IE.lit 1)), SV.int IntKind.i64 (IE.var 4),
                                                      SV.int IntKind.i64 (IE.var 5), SV.int IntKind.i64 (IE.var 6)])]
                                                (VC.leaf 0 [SV.tuple []] []
                                                  [(0,
                                                      [SV.var 1, SV.int IntKind.i64 (IE.add (IE.var 2) (IE.lit 1)), SV.int IntKind.i64 (IE.sub (IE.var 3) (IE.lit 1)), SV.int IntKind.i64 (IE.var 4),
                                                        SV.int IntKind.i64 (IE.var 5), SV.int IntKind.i64 (IE.var 6)])]))))))))
                                  (VC.split (BE.eq (IE.var 8) (IE.lit 1))
                                    (VC.ob (BE.le (IE.lit (-9223372036854775808)) (IE.add (IE.sub (IE.var 3) (IE.lit 1)) (IE.lit 1)))
                                      (VC.ob (BE.le (IE.add (IE.sub (IE.var 3) (IE.lit 1)) (IE.lit 1)) (IE.lit 9223372036854775807))
                                        (VC.ob (BE.le (IE.lit 0) (IE.var 8))
                                          (VC.ob (BE.lt (IE.var 8) (IE.lit 5))
                                            (VC.ob (BE.le (IE.lit 0) (IE.var 7))
                                              (VC.ob (BE.lt (IE.var 7) (IE.len 1))
                                                (VC.gen (Op.store 50 (Operand.tmp 40) (Operand.tmp 38)) 0 [(Operand.tmp 40, SV.elt 1 0 (IE.var 7) 2 1), (Operand.tmp 38, SV.int IntKind.i64 (IE.var 8))]
                                                  [] (SV.cst (Value.tuple { toList := [] })) [] false [0] [] [0]
                                                  [(0,
                                                      [SV.var 1, SV.int IntKind.i64 (IE.var 2), SV.int IntKind.i64 (IE.add (IE.sub (IE.var 3) (IE.lit 1)) (IE.lit 1)), SV.int IntKind.i64 (IE.var 4),
                                                        SV.int IntKind.i64 (IE.var 5), SV.int IntKind.i64 (IE.var 6)])]
                                                  (VC.leaf 0 [SV.tuple []] []
                                                    [(0,
                                                        [SV.var 1, SV.int IntKind.i64 (IE.var 2), SV.int IntKind.i64 (IE.add (IE.sub (IE.var 3) (IE.lit 1)) (IE.lit 1)), SV.int IntKind.i64 (IE.var 4),
                                                          SV.int IntKind.i64 (IE.var 5), SV.int IntKind.i64 (IE.var 6)])]))))))))
                                    (VC.split (BE.eq (IE.var 8) (IE.lit 2))
                                      (VC.ob (BE.le (IE.lit (-9223372036854775808)) (IE.add (IE.var 4) (IE.lit 1)))
                                        (VC.ob (BE.le (IE.add (IE.var 4) (IE.lit 1)) (IE.lit 9223372036854775807))
                                          (VC.ob (BE.le (IE.lit 0) (IE.var 8))
                                            (VC.ob (BE.lt (IE.var 8) (IE.lit 5))
                                              (VC.ob (BE.le (IE.lit 0) (IE.var 7))
                                                (VC.ob (BE.lt (IE.var 7) (IE.len 1))
                                                  (VC.gen (Op.store 50 (Operand.tmp 40) (Operand.tmp 38)) 0
                                                    [(Operand.tmp 40, SV.elt 1 0 (IE.var 7) 2 1), (Operand.tmp 38, SV.int IntKind.i64 (IE.var 8))] [] (SV.cst (Value.tuple { toList := [] })) [] false
                                                    [0] [] [0]
                                                    [(0,
                                                        [SV.var 1, SV.int IntKind.i64 (IE.var 2), SV.int IntKind.i64 (IE.sub (IE.var 3) (IE.lit 1)), SV.int IntKind.i64 (IE.add (IE.var 4) (IE.lit 1)),
                                                          SV.int IntKind.i64 (IE.var 5), SV.int IntKind.i64 (IE.var 6)])]
                                                    (VC.leaf 0 [SV.tuple []] []
                                                      [(0,
                                                          [SV.var 1, SV.int IntKind.i64 (IE.var 2), SV.int IntKind.i64 (IE.sub (IE.var 3) (IE.lit 1)),
                                                            SV.int IntKind.i64 (IE.add (IE.var 4) (IE.lit 1)), SV.int IntKind.i64 (IE.var 5), SV.int IntKind.i64 (IE.var 6)])]))))))))
                                      (VC.split (BE.eq (IE.var 8) (IE.lit 3))
                                        (VC.ob (BE.le (IE.lit (-9223372036854775808)) (IE.add (IE.var 5) (IE.lit 1)))
                                          (VC.ob (BE.le (IE.add (IE.var 5) (IE.lit 1)) (IE.lit 9223372036854775807))
                                            (VC.ob (BE.le (IE.lit 0) (IE.var 8))
                                              (VC.ob (BE.lt (IE.var 8) (IE.lit 5))
                                                (VC.ob (BE.le (IE.lit 0) (IE.var 7))
                                                  (VC.ob (BE.lt (IE.var 7) (IE.len 1))
                                                    (VC.gen (Op.store 50 (Operand.tmp 40) (Operand.tmp 38)) 0
                                                      [(Operand.tmp 40, SV.elt 1 0 (IE.var 7) 2 1), (Operand.tmp 38, SV.int IntKind.i64 (IE.var 8))] [] (SV.cst (Value.tuple { toList := [] })) [] false
                                                      [0] [] [0]
                                                      [(0,
                                                          [SV.var 1, SV.int IntKind.i64 (IE.var 2), SV.int IntKind.i64 (IE.sub (IE.var 3) (IE.lit 1)), SV.int IntKind.i64 (IE.var 4),
                                                            SV.int IntKind.i64 (IE.add (IE.var 5) (IE.lit 1)), SV.int IntKind.i64 (IE.var 6)])]
                                                      (VC.leaf 0 [SV.tuple []] []
                                                        [(0,
                                                            [SV.var 1, SV.int IntKind.i64 (IE.var 2), SV.int IntKind.i64 (IE.sub (IE.var 3) (IE.lit 1)), SV.int IntKind.i64 (IE.var 4),
                                                              SV.int IntKind.i64 (IE.add (IE.var 5) (IE.lit 1)), SV.int IntKind.i64 (IE.var 6)])]))))))))
                                        (VC.split (BE.eq (IE.var 8) (IE.lit 4))
                                          (VC.ob (BE.le (IE.lit (-9223372036854775808)) (IE.add (IE.var 6) (IE.lit 1)))
                                            (VC.ob (BE.le (IE.add (IE.var 6) (IE.lit 1)) (IE.lit 9223372036854775807))
                                              (VC.ob (BE.le (IE.lit 0) (IE.var 8))
                                                (VC.ob (BE.lt (IE.var 8) (IE.lit 5))
                                                  (VC.ob (BE.le (IE.lit 0) (IE.var 7))
                                                    (VC.ob (BE.lt (IE.var 7) (IE.len 1))
                                                      (VC.gen (Op.store 50 (Operand.tmp 40) (Operand.tmp 38)) 0
                                                        [(Operand.tmp 40, SV.elt 1 0 (IE.var 7) 2 1), (Operand.tmp 38, SV.int IntKind.i64 (IE.var 8))] [] (SV.cst (Value.tuple { toList := [] })) []
                                                        false [0] [] [0]
                                                        [(0,
                                                            [SV.var 1, SV.int IntKind.i64 (IE.var 2), SV.int IntKind.i64 (IE.sub (IE.var 3) (IE.lit 1)), SV.int IntKind.i64 (IE.var 4),
                                                              SV.int IntKind.i64 (IE.var 5), SV.int IntKind.i64 (IE.add (IE.var 6) (IE.lit 1))])]
                                                        (VC.leaf 0 [SV.tuple []] []
                                                          [(0,
                                                              [SV.var 1, SV.int IntKind.i64 (IE.var 2), SV.int IntKind.i64 (IE.sub (IE.var 3) (IE.lit 1)), SV.int IntKind.i64 (IE.var 4),
                                                                SV.int IntKind.i64 (IE.var 5), SV.int IntKind.i64 (IE.add (IE.var 6) (IE.lit 1))])]))))))))
                                          (VC.bad "index")))))))))))))
                  (VC.split (BE.eq (IE.var 9) (IE.lit 2))
                    (VC.ob (BE.le (IE.lit (-9223372036854775808)) (IE.sub (IE.var 4) (IE.lit 1)))
                      (VC.ob (BE.le (IE.sub (IE.var 4) (IE.lit 1)) (IE.lit 9223372036854775807))
                        (VC.ob (BE.le (IE.lit 0) (IE.var 9))
                          (VC.ob (BE.lt (IE.var 9) (IE.lit 5))
                            (VC.start true [0] [0]
                              [(0,
                                  [SV.var 1, SV.int IntKind.i64 (IE.var 2), SV.int IntKind.i64 (IE.var 3), SV.int IntKind.i64 (IE.sub (IE.var 4) (IE.lit 1)), SV.int IntKind.i64 (IE.var 5),
                                    SV.int IntKind.i64 (IE.var 6)])]
                              (VC.ob (BE.le (IE.lit 0) (IE.var 8))
                                (VC.ob (BE.lt (IE.var 8) (IE.lit 5))
                                  (VC.split (BE.eq (IE.var 8) (IE.lit 0))
                                    (VC.ob (BE.le (IE.lit (-9223372036854775808)) (IE.add (IE.var 2) (IE.lit 1)))
                                      (VC.ob (BE.le (IE.add (IE.var 2) (IE.lit 1)) (IE.lit 9223372036854775807))
                                        (VC.ob (BE.le (IE.lit 0) (IE.var 8))
                                          (VC.ob (BE.lt (IE.var 8) (IE.lit 5))
                                            (VC.ob (BE.le (IE.lit 0) (IE.var 7))
                                              (VC.ob (BE.lt (IE.var 7) (IE.len 1))
                                                (VC.gen (Op.store 50 (Operand.tmp 40) (Operand.tmp 38)) 0 [(Operand.tmp 40, SV.elt 1 0 (IE.var 7) 2 1), (Operand.tmp 38, SV.int IntKind.i64 (IE.var 8))]
                                                  [] (SV.cst (Value.tuple { toList := [] })) [] false [0] [] [0]
                                                  [(0,
                                                      [SV.var 1, SV.int IntKind.i64 (IE.add (IE.var 2) (IE.lit 1)), SV.int IntKind.i64 (IE.var 3), SV.int IntKind.i64 (IE.sub (IE.var 4) (IE.lit 1)),
                                                        SV.int IntKind.i64 (IE.var 5), SV.int IntKind.i64 (IE.var 6)])]
                                                  (VC.leaf 0 [SV.tuple []] []
                                                    [(0,
                                                        [SV.var 1, SV.int IntKind.i64 (IE.add (IE.var 2) (IE.lit 1)), SV.int IntKind.i64 (IE.var 3), SV.int IntKind.i64 (IE.sub (IE.var 4) (IE.lit 1)),
                                                          SV.int IntKind.i64 (IE.var 5), SV.int IntKind.i64 (IE.var 6)])]))))))))
                                    (VC.split (BE.eq (IE.var 8) (IE.lit 1))
                                      (VC.ob (BE.le (IE.lit (-9223372036854775808)) (IE.add (IE.var 3) (IE.lit 1)))
                                        (VC.ob (BE.le (IE.add (IE.var 3) (IE.lit 1)) (IE.lit 9223372036854775807))
                                          (VC.ob (BE.le (IE.lit 0) (IE.var 8))
                                            (VC.ob (BE.lt (IE.var 8) (IE.lit 5))
                                              (VC.ob (BE.le (IE.lit 0) (IE.var 7))
                                                (VC.ob (BE.lt (IE.var 7) (IE.len 1))
                                                  (VC.gen (Op.store 50 (Operand.tmp 40) (Operand.tmp 38)) 0
                                                    [(Operand.tmp 40, SV.elt 1 0 (IE.var 7) 2 1), (Operand.tmp 38, SV.int IntKind.i64 (IE.var 8))] [] (SV.cst (Value.tuple { toList := [] })) [] false
                                                    [0] [] [0]
                                                    [(0,
                                                        [SV.var 1, SV.int IntKind.i64 (IE.var 2), SV.int IntKind.i64 (IE.add (IE.var 3) (IE.lit 1)), SV.int IntKind.i64 (IE.sub (IE.var 4) (IE.lit 1)),
                                                          SV.int IntKind.i64 (IE.var 5), SV.int IntKind.i64 (IE.var 6)])]
                                                    (VC.leaf 0 [SV.tuple []] []
                                                      [(0,
                                                          [SV.var 1, SV.int IntKind.i64 (IE.var 2), SV.int IntKind.i64 (IE.add (IE.var 3) (IE.lit 1)),
                                                            SV.int IntKind.i64 (IE.sub (IE.var 4) (IE.lit 1)), SV.int IntKind.i64 (IE.var 5), SV.int IntKind.i64 (IE.var 6)])]))))))))
                                      (VC.split (BE.eq (IE.var 8) (IE.lit 2))
                                        (VC.ob (BE.le (IE.lit (-9223372036854775808)) (IE.add (IE.sub (IE.var 4) (IE.lit 1)) (IE.lit 1)))
                                          (VC.ob (BE.le (IE.add (IE.sub (IE.var 4) (IE.lit 1)) (IE.lit 1)) (IE.lit 9223372036854775807))
                                            (VC.ob (BE.le (IE.lit 0) (IE.var 8))
                                              (VC.ob (BE.lt (IE.var 8) (IE.lit 5))
                                                (VC.ob (BE.le (IE.lit 0) (IE.var 7))
                                                  (VC.ob (BE.lt (IE.var 7) (IE.len 1))
                                                    (VC.gen (Op.store 50 (Operand.tmp 40) (Operand.tmp 38)) 0
                                                      [(Operand.tmp 40, SV.elt 1 0 (IE.var 7) 2 1), (Operand.tmp 38, SV.int IntKind.i64 (IE.var 8))] [] (SV.cst (Value.tuple { toList := [] })) [] false
                                                      [0] [] [0]
                                                      [(0,
                                                          [SV.var 1, SV.int IntKind.i64 (IE.var 2), SV.int IntKind.i64 (IE.var 3),
                                                            SV.int IntKind.i64 (IE.add (IE.sub (IE.var 4) (IE.lit 1)) (IE.lit 1)), SV.int IntKind.i64 (IE.var 5), SV.int IntKind.i64 (IE.var 6)])]
                                                      (VC.leaf 0 [SV.tuple []] []
                                                        [(0,
                                                            [SV.var 1, SV.int IntKind.i64 (IE.var 2), SV.int IntKind.i64 (IE.var 3),
                                                              SV.int IntKind.i64 (IE.add (IE.sub (IE.var 4) (IE.lit 1)) (IE.lit 1)), SV.int IntKind.i64 (IE.var 5),
                                                              SV.int IntKind.i64 (IE.var 6)])]))))))))
                                        (VC.split (BE.eq (IE.var 8) (IE.lit 3))
                                          (VC.ob (BE.le (IE.lit (-9223372036854775808)) (IE.add (IE.var 5) (IE.lit 1)))
                                            (VC.ob (BE.le (IE.add (IE.var 5) (IE.lit 1)) (IE.lit 9223372036854775807))
                                              (VC.ob (BE.le (IE.lit 0) (IE.var 8))
                                                (VC.ob (BE.lt (IE.var 8) (IE.lit 5))
                                                  (VC.ob (BE.le (IE.lit 0) (IE.var 7))
                                                    (VC.ob (BE.lt (IE.var 7) (IE.len 1))
                                                      (VC.gen (Op.store 50 (Operand.tmp 40) (Operand.tmp 38)) 0
                                                        [(Operand.tmp 40, SV.elt 1 0 (IE.var 7) 2 1), (Operand.tmp 38, SV.int IntKind.i64 (IE.var 8))] [] (SV.cst (Value.tuple { toList := [] })) []
                                                        false [0] [] [0]
                                                        [(0,
                                                            [SV.var 1, SV.int IntKind.i64 (IE.var 2), SV.int IntKind.i64 (IE.var 3), SV.int IntKind.i64 (IE.sub (IE.var 4) (IE.lit 1)),
                                                              SV.int IntKind.i64 (IE.add (IE.var 5) (IE.lit 1)), SV.int IntKind.i64 (IE.var 6)])]
                                                        (VC.leaf 0 [SV.tuple []] []
                                                          [(0,
                                                              [SV.var 1, SV.int IntKind.i64 (IE.var 2), SV.int IntKind.i64 (IE.var 3), SV.int IntKind.i64 (IE.sub (IE.var 4) (IE.lit 1)),
                                                                SV.int IntKind.i64 (IE.add (IE.var 5) (IE.lit 1)), SV.int IntKind.i64 (IE.var 6)])]))))))))
                                          (VC.split (BE.eq (IE.var 8) (IE.lit 4))
                                            (VC.ob (BE.le (IE.lit (-9223372036854775808)) (IE.add (IE.var 6) (IE.lit 1)))
                                              (VC.ob (BE.le (IE.add (IE.var 6) (IE.lit 1)) (IE.lit 9223372036854775807))
                                                (VC.ob (BE.le (IE.lit 0) (IE.var 8))
                                                  (VC.ob (BE.lt (IE.var 8) (IE.lit 5))
                                                    (VC.ob (BE.le (IE.lit 0) (IE.var 7))
                                                      (VC.ob (BE.lt (IE.var 7) (IE.len 1))
                                                        (VC.gen (Op.store 50 (Operand.tmp 40) (Operand.tmp 38)) 0
                                                          [(Operand.tmp 40, SV.elt 1 0 (IE.var 7) 2 1), (Operand.tmp 38, SV.int IntKind.i64 (IE.var 8))] [] (SV.cst (Value.tuple { toList := [] })) []
                                                          false [0] [] [0]
                                                          [(0,
                                                              [SV.var 1, SV.int IntKind.i64 (IE.var 2), SV.int IntKind.i64 (IE.var 3), SV.int IntKind.i64 (IE.sub (IE.var 4) (IE.lit 1)),
                                                                SV.int IntKind.i64 (IE.var 5), SV.int IntKind.i64 (IE.add (IE.var 6) (IE.lit 1))])]
                                                          (VC.leaf 0 [SV.tuple []] []
                                                            [(0,
                                                                [SV.var 1, SV.int IntKind.i64 (IE.var 2), SV.int IntKind.i64 (IE.var 3), SV.int IntKind.i64 (IE.sub (IE.var 4) (IE.lit 1)),
                                                                  SV.int IntKind.i64 (IE.var 5), SV.int IntKind.i64 (IE.add (IE.var 6) (IE.lit 1))])]))))))))
                                            (VC.bad "index")))))))))))))
                    (VC.split (BE.eq (IE.var 9) (IE.lit 3))
                      (VC.ob (BE.le (IE.lit (-9223372036854775808)) (IE.sub (IE.var 5) (IE.lit 1)))
                        (VC.ob (BE.le (IE.sub (IE.var 5) (IE.lit 1)) (IE.lit 9223372036854775807))
                          (VC.ob (BE.le (IE.lit 0) (IE.var 9))
                            (VC.ob (BE.lt (IE.var 9) (IE.lit 5))
                              (VC.start true [0] [0]
                                [(0,
                                    [SV.var 1, SV.int IntKind.i64 (IE.var 2), SV.int IntKind.i64 (IE.var 3), SV.int IntKind.i64 (IE.var 4), SV.int IntKind.i64 (IE.sub (IE.var 5) (IE.lit 1)),
                                      SV.int IntKind.i64 (IE.var 6)])]
                                (VC.ob (BE.le (IE.lit 0) (IE.var 8))
                                  (VC.ob (BE.lt (IE.var 8) (IE.lit 5))
                                    (VC.split (BE.eq (IE.var 8) (IE.lit 0))
                                      (VC.ob (BE.le (IE.lit (-9223372036854775808)) (IE.add (IE.var 2) (IE.lit 1)))
                                        (VC.ob (BE.le (IE.add (IE.var 2) (IE.lit 1)) (IE.lit 9223372036854775807))
                                          (VC.ob (BE.le (IE.lit 0) (IE.var 8))
                                            (VC.ob (BE.lt (IE.var 8) (IE.lit 5))
                                              (VC.ob (BE.le (IE.lit 0) (IE.var 7))
                                                (VC.ob (BE.lt (IE.var 7) (IE.len 1))
                                                  (VC.gen (Op.store 50 (Operand.tmp 40) (Operand.tmp 38)) 0
                                                    [(Operand.tmp 40, SV.elt 1 0 (IE.var 7) 2 1), (Operand.tmp 38, SV.int IntKind.i64 (IE.var 8))] [] (SV.cst (Value.tuple { toList := [] })) [] false
                                                    [0] [] [0]
                                                    [(0,
                                                        [SV.var 1, SV.int IntKind.i64 (IE.add (IE.var 2) (IE.lit 1)), SV.int IntKind.i64 (IE.var 3), SV.int IntKind.i64 (IE.var 4),
                                                          SV.int IntKind.i64 (IE.sub (IE.var 5) (IE.lit 1)), SV.int IntKind.i64 (IE.var 6)])]
                                                    (VC.leaf 0 [SV.tuple []] []
                                                      [(0,
                                                          [SV.var 1, SV.int IntKind.i64 (IE.add (IE.var 2) (IE.lit 1)), SV.int IntKind.i64 (IE.var 3), SV.int IntKind.i64 (IE.var 4),
                                                            SV.int IntKind.i64 (IE.sub (IE.var 5) (IE.lit 1)), SV.int IntKind.i64 (IE.var 6)])]))))))))
                                      (VC.split (BE.eq (IE.var 8) (IE.lit 1))
                                        (VC.ob (BE.le (IE.lit (-9223372036854775808)) (IE.add (IE.var 3) (IE.lit 1)))
                                          (VC.ob (BE.le (IE.add (IE.var 3) (IE.lit 1)) (IE.lit 9223372036854775807))
                                            (VC.ob (BE.le (IE.lit 0) (IE.var 8))
                                              (VC.ob (BE.lt (IE.var 8) (IE.lit 5))
                                                (VC.ob (BE.le (IE.lit 0) (IE.var 7))
                                                  (VC.ob (BE.lt (IE.var 7) (IE.len 1))
                                                    (VC.gen (Op.store 50 (Operand.tmp 40) (Operand.tmp 38)) 0
                                                      [(Operand.tmp 40, SV.elt 1 0 (IE.var 7) 2 1), (Operand.tmp 38, SV.int IntKind.i64 (IE.var 8))] [] (SV.cst (Value.tuple { toList := [] })) [] false
                                                      [0] [] [0]
                                                      [(0,
                                                          [SV.var 1, SV.int IntKind.i64 (IE.var 2), SV.int IntKind.i64 (IE.add (IE.var 3) (IE.lit 1)), SV.int IntKind.i64 (IE.var 4),
                                                            SV.int IntKind.i64 (IE.sub (IE.var 5) (IE.lit 1)), SV.int IntKind.i64 (IE.var 6)])]
                                                      (VC.leaf 0 [SV.tuple []] []
                                                        [(0,
                                                            [SV.var 1, SV.int IntKind.i64 (IE.var 2), SV.int IntKind.i64 (IE.add (IE.var 3) (IE.lit 1)), SV.int IntKind.i64 (IE.var 4),
                                                              SV.int IntKind.i64 (IE.sub (IE.var 5) (IE.lit 1)), SV.int IntKind.i64 (IE.var 6)])]))))))))
                                        (VC.split (BE.eq (IE.var 8) (IE.lit 2))
                                          (VC.ob (BE.le (IE.lit (-9223372036854775808)) (IE.add (IE.var 4) (IE.lit 1)))
                                            (VC.ob (BE.le (IE.add (IE.var 4) (IE.lit 1)) (IE.lit 9223372036854775807))
                                              (VC.ob (BE.le (IE.lit 0) (IE.var 8))
                                                (VC.ob (BE.lt (IE.var 8) (IE.lit 5))
                                                  (VC.ob (BE.le (IE.lit 0) (IE.var 7))
                                                    (VC.ob (BE.lt (IE.var 7) (IE.len 1))
                                                      (VC.gen (Op.store 50 (Operand.tmp 40) (Operand.tmp 38)) 0
                                                        [(Operand.tmp 40, SV.elt 1 0 (IE.var 7) 2 1), (Operand.tmp 38, SV.int IntKind.i64 (IE.var 8))] [] (SV.cst (Value.tuple { toList := [] })) []
                                                        false [0] [] [0]
                                                        [(0,
                                                            [SV.var 1, SV.int IntKind.i64 (IE.var 2), SV.int IntKind.i64 (IE.var 3), SV.int IntKind.i64 (IE.add (IE.var 4) (IE.lit 1)),
                                                              SV.int IntKind.i64 (IE.sub (IE.var 5) (IE.lit 1)), SV.int IntKind.i64 (IE.var 6)])]
                                                        (VC.leaf 0 [SV.tuple []] []
                                                          [(0,
                                                              [SV.var 1, SV.int IntKind.i64 (IE.var 2), SV.int IntKind.i64 (IE.var 3), SV.int IntKind.i64 (IE.add (IE.var 4) (IE.lit 1)),
                                                                SV.int IntKind.i64 (IE.sub (IE.var 5) (IE.lit 1)), SV.int IntKind.i64 (IE.var 6)])]))))))))
                                          (VC.split (BE.eq (IE.var 8) (IE.lit 3))
                                            (VC.ob (BE.le (IE.lit (-9223372036854775808)) (IE.add (IE.sub (IE.var 5) (IE.lit 1)) (IE.lit 1)))
                                              (VC.ob (BE.le (IE.add (IE.sub (IE.var 5) (IE.lit 1)) (IE.lit 1)) (IE.lit 9223372036854775807))
                                                (VC.ob (BE.le (IE.lit 0) (IE.var 8))
                                                  (VC.ob (BE.lt (IE.var 8) (IE.lit 5))
                                                    (VC.ob (BE.le (IE.lit 0) (IE.var 7))
                                                      (VC.ob (BE.lt (IE.var 7) (IE.len 1))
                                                        (VC.gen (Op.store 50 (Operand.tmp 40) (Operand.tmp 38)) 0
                                                          [(Operand.tmp 40, SV.elt 1 0 (IE.var 7) 2 1), (Operand.tmp 38, SV.int IntKind.i64 (IE.var 8))] [] (SV.cst (Value.tuple { toList := [] })) []
                                                          false [0] [] [0]
                                                          [(0,
                                                              [SV.var 1, SV.int IntKind.i64 (IE.var 2), SV.int IntKind.i64 (IE.var 3), SV.int IntKind.i64 (IE.var 4),
                                                                SV.int IntKind.i64 (IE.add (IE.sub (IE.var 5) (IE.lit 1)) (IE.lit 1)), SV.int IntKind.i64 (IE.var 6)])]
                                                          (VC.leaf 0 [SV.tuple []] []
                                                            [(0,
                                                                [SV.var 1, SV.int IntKind.i64 (IE.var 2), SV.int IntKind.i64 (IE.var 3), SV.int IntKind.i64 (IE.var 4),
                                                                  SV.int IntKind.i64 (IE.add (IE.sub (IE.var 5) (IE.lit 1)) (IE.lit 1)), SV.int IntKind.i64 (IE.var 6)])]))))))))
                                            (VC.split (BE.eq (IE.var 8) (IE.lit 4))
                                              (VC.ob (BE.le (IE.lit (-9223372036854775808)) (IE.add (IE.var 6) (IE.lit 1)))
                                                (VC.ob (BE.le (IE.add (IE.var 6) (IE.lit 1)) (IE.lit 9223372036854775807))
                                                  (VC.ob (BE.le (IE.lit 0) (IE.var 8))
                                                    (VC.ob (BE.lt (IE.var 8) (IE.lit 5))
                                                      (VC.ob (BE.le (IE.lit 0) (IE.var 7))
                                                        (VC.ob (BE.lt (IE.var 7) (IE.len 1))
                                                          (VC.gen (Op.store 50 (Operand.tmp 40) (Operand.tmp 38)) 0
                                                            [(Operand.tmp 40, SV.elt 1 0 (IE.var 7) 2 1), (Operand.tmp 38, SV.int IntKind.i64 (IE.var 8))] [] (SV.cst (Value.tuple { toList := [] })) []
                                                            false [0] [] [0]
                                                            [(0,
                                                                [SV.var 1, SV.int IntKind.i64 (IE.var 2), SV.int IntKind.i64 (IE.var 3), SV.int IntKind.i64 (IE.var 4),
                                                                  SV.int IntKind.i64 (IE.sub (IE.var 5) (IE.lit 1)), SV.int IntKind.i64 (IE.add (IE.var 6) (IE.lit 1))])]
                                                            (VC.leaf 0 [SV.tuple []] []
                                                              [(0,
                                                                  [SV.var 1, SV.int IntKind.i64 (IE.var 2), SV.int IntKind.i64 (IE.var 3), SV.int IntKind.i64 (IE.var 4),
                                                                    SV.int IntKind.i64 (IE.sub (IE.var 5) (IE.lit 1)), SV.int IntKind.i64 (IE.add (IE.var 6) (IE.lit 1))])]))))))))
                                              (VC.bad "index")))))))))))))
                      (VC.split (BE.eq (IE.var 9) (IE.lit 4))
                        (VC.ob (BE.le (IE.lit (-9223372036854775808)) (IE.sub (IE.var 6) (IE.lit 1)))
                          (VC.ob (BE.le (IE.sub (IE.var 6) (IE.lit 1)) (IE.lit 9223372036854775807))
                            (VC.ob (BE.le (IE.lit 0) (IE.var 9))
                              (VC.ob (BE.lt (IE.var 9) (IE.lit 5))
                                (VC.start true [0] [0]
                                  [(0,
                                      [SV.var 1, SV.int IntKind.i64 (IE.var 2), SV.int IntKind.i64 (IE.var 3), SV.int IntKind.i64 (IE.var 4), SV.int IntKind.i64 (IE.var 5),
                                        SV.int IntKind.i64 (IE.sub (IE.var 6) (IE.lit 1))])]
                                  (VC.ob (BE.le (IE.lit 0) (IE.var 8))
                                    (VC.ob (BE.lt (IE.var 8) (IE.lit 5))
                                      (VC.split (BE.eq (IE.var 8) (IE.lit 0))
                                        (VC.ob (BE.le (IE.lit (-9223372036854775808)) (IE.add (IE.var 2) (IE.lit 1)))
                                          (VC.ob (BE.le (IE.add (IE.var 2) (IE.lit 1)) (IE.lit 9223372036854775807))
                                            (VC.ob (BE.le (IE.lit 0) (IE.var 8))
                                              (VC.ob (BE.lt (IE.var 8) (IE.lit 5))
                                                (VC.ob (BE.le (IE.lit 0) (IE.var 7))
                                                  (VC.ob (BE.lt (IE.var 7) (IE.len 1))
                                                    (VC.gen (Op.store 50 (Operand.tmp 40) (Operand.tmp 38)) 0
                                                      [(Operand.tmp 40, SV.elt 1 0 (IE.var 7) 2 1), (Operand.tmp 38, SV.int IntKind.i64 (IE.var 8))] [] (SV.cst (Value.tuple { toList := [] })) [] false
                                                      [0] [] [0]
                                                      [(0,
                                                          [SV.var 1, SV.int IntKind.i64 (IE.add (IE.var 2) (IE.lit 1)), SV.int IntKind.i64 (IE.var 3), SV.int IntKind.i64 (IE.var 4),
                                                            SV.int IntKind.i64 (IE.var 5), SV.int IntKind.i64 (IE.sub (IE.var 6) (IE.lit 1))])]
                                                      (VC.leaf 0 [SV.tuple []] []
                                                        [(0,
                                                            [SV.var 1, SV.int IntKind.i64 (IE.add (IE.var 2) (IE.lit 1)), SV.int IntKind.i64 (IE.var 3), SV.int IntKind.i64 (IE.var 4),
                                                              SV.int IntKind.i64 (IE.var 5), SV.int IntKind.i64 (IE.sub (IE.var 6) (IE.lit 1))])]))))))))
                                        (VC.split (BE.eq (IE.var 8) (IE.lit 1))
                                          (VC.ob (BE.le (IE.lit (-9223372036854775808)) (IE.add (IE.var 3) (IE.lit 1)))
                                            (VC.ob (BE.le (IE.add (IE.var 3) (IE.lit 1)) (IE.lit 9223372036854775807))
                                              (VC.ob (BE.le (IE.lit 0) (IE.var 8))
                                                (VC.ob (BE.lt (IE.var 8) (IE.lit 5))
                                                  (VC.ob (BE.le (IE.lit 0) (IE.var 7))
                                                    (VC.ob (BE.lt (IE.var 7) (IE.len 1))
                                                      (VC.gen (Op.store 50 (Operand.tmp 40) (Operand.tmp 38)) 0
                                                        [(Operand.tmp 40, SV.elt 1 0 (IE.var 7) 2 1), (Operand.tmp 38, SV.int IntKind.i64 (IE.var 8))] [] (SV.cst (Value.tuple { toList := [] })) []
                                                        false [0] [] [0]
                                                        [(0,
                                                            [SV.var 1, SV.int IntKind.i64 (IE.var 2), SV.int IntKind.i64 (IE.add (IE.var 3) (IE.lit 1)), SV.int IntKind.i64 (IE.var 4),
                                                              SV.int IntKind.i64 (IE.var 5), SV.int IntKind.i64 (IE.sub (IE.var 6) (IE.lit 1))])]
                                                        (VC.leaf 0 [SV.tuple []] []
                                                          [(0,
                                                              [SV.var 1, SV.int IntKind.i64 (IE.var 2), SV.int IntKind.i64 (IE.add (IE.var 3) (IE.lit 1)), SV.int IntKind.i64 (IE.var 4),
                                                                SV.int IntKind.i64 (IE.var 5), SV.int IntKind.i64 (IE.sub (IE.var 6) (IE.lit 1))])]))))))))
                                          (VC.split (BE.eq (IE.var 8) (IE.lit 2))
                                            (VC.ob (BE.le (IE.lit (-9223372036854775808)) (IE.add (IE.var 4) (IE.lit 1)))
                                              (VC.ob (BE.le (IE.add (IE.var 4) (IE.lit 1)) (IE.lit 9223372036854775807))
                                                (VC.ob (BE.le (IE.lit 0) (IE.var 8))
                                                  (VC.ob (BE.lt (IE.var 8) (IE.lit 5))
                                                    (VC.ob (BE.le (IE.lit 0) (IE.var 7))
                                                      (VC.ob (BE.lt (IE.var 7) (IE.len 1))
                                                        (VC.gen (Op.store 50 (Operand.tmp 40) (Operand.tmp 38)) 0
                                                          [(Operand.tmp 40, SV.elt 1 0 (IE.var 7) 2 1), (Operand.tmp 38, SV.int IntKind.i64 (IE.var 8))] [] (SV.cst (Value.tuple { toList := [] })) []
                                                          false [0] [] [0]
                                                          [(0,
                                                              [SV.var 1, SV.int IntKind.i64 (IE.var 2), SV.int IntKind.i64 (IE.var 3), SV.int IntKind.i64 (IE.add (IE.var 4) (IE.lit 1)),
                                                                SV.int IntKind.i64 (IE.var 5), SV.int IntKind.i64 (IE.sub (IE.var 6) (IE.lit 1))])]
                                                          (VC.leaf 0 [SV.tuple []] []
                                                            [(0,
                                                                [SV.var 1, SV.int IntKind.i64 (IE.var 2), SV.int IntKind.i64 (IE.var 3), SV.int IntKind.i64 (IE.add (IE.var 4) (IE.lit 1)),
                                                                  SV.int IntKind.i64 (IE.var 5), SV.int IntKind.i64 (IE.sub (IE.var 6) (IE.lit 1))])]))))))))
                                            (VC.split (BE.eq (IE.var 8) (IE.lit 3))
                                              (VC.ob (BE.le (IE.lit (-9223372036854775808)) (IE.add (IE.var 5) (IE.lit 1)))
                                                (VC.ob (BE.le (IE.add (IE.var 5) (IE.lit 1)) (IE.lit 9223372036854775807))
                                                  (VC.ob (BE.le (IE.lit 0) (IE.var 8))
                                                    (VC.ob (BE.lt (IE.var 8) (IE.lit 5))
                                                      (VC.ob (BE.le (IE.lit 0) (IE.var 7))
                                                        (VC.ob (BE.lt (IE.var 7) (IE.len 1))
                                                          (VC.gen (Op.store 50 (Operand.tmp 40) (Operand.tmp 38)) 0
                                                            [(Operand.tmp 40, SV.elt 1 0 (IE.var 7) 2 1), (Operand.tmp 38, SV.int IntKind.i64 (IE.var 8))] [] (SV.cst (Value.tuple { toList := [] })) []
                                                            false [0] [] [0]
                                                            [(0,
                                                                [SV.var 1, SV.int IntKind.i64 (IE.var 2), SV.int IntKind.i64 (IE.var 3), SV.int IntKind.i64 (IE.var 4),
                                                                  SV.int IntKind.i64 (IE.add (IE.var 5) (IE.lit 1)), SV.int IntKind.i64 (IE.sub (IE.var 6) (IE.lit 1))])]
                                                            (VC.leaf 0 [SV.tuple []] []
                                                              [(0,
                                                                  [SV.var 1, SV.int IntKind.i64 (IE.var 2), SV.int IntKind.i64 (IE.var 3), SV.int IntKind.i64 (IE.var 4),
                                                                    SV.int IntKind.i64 (IE.add (IE.var 5) (IE.lit 1)), SV.int IntKind.i64 (IE.sub (IE.var 6) (IE.lit 1))])]))))))))
                                              (VC.split (BE.eq (IE.var 8) (IE.lit 4))
                                                (VC.ob (BE.le (IE.lit (-9223372036854775808)) (IE.add (IE.sub (IE.var 6) (IE.lit 1)) (IE.lit 1)))
                                                  (VC.ob (BE.le (IE.add (IE.sub (IE.var 6) (IE.lit 1)) (IE.lit 1)) (IE.lit 9223372036854775807))
                                                    (VC.ob (BE.le (IE.lit 0) (IE.var 8))
                                                      (VC.ob (BE.lt (IE.var 8) (IE.lit 5))
                                                        (VC.ob (BE.le (IE.lit 0) (IE.var 7))
                                                          (VC.ob (BE.lt (IE.var 7) (IE.len 1))
                                                            (VC.gen (Op.store 50 (Operand.tmp 40) (Operand.tmp 38)) 0
                                                              [(Operand.tmp 40, SV.elt 1 0 (IE.var 7) 2 1), (Operand.tmp 38, SV.int IntKind.i64 (IE.var 8))] [] (SV.cst (Value.tuple { toList := [] }))
                                                              [] false [0] [] [0]
                                                              [(0,
                                                                  [SV.var 1, SV.int IntKind.i64 (IE.var 2), SV.int IntKind.i64 (IE.var 3), SV.int IntKind.i64 (IE.var 4), SV.int IntKind.i64 (IE.var 5),
                                                                    SV.int IntKind.i64 (IE.add (IE.sub (IE.var 6) (IE.lit 1)) (IE.lit 1))])]
                                                              (VC.leaf 0 [SV.tuple []] []
                                                                [(0,
                                                                    [SV.var 1, SV.int IntKind.i64 (IE.var 2), SV.int IntKind.i64 (IE.var 3), SV.int IntKind.i64 (IE.var 4),
                                                                      SV.int IntKind.i64 (IE.var 5), SV.int IntKind.i64 (IE.add (IE.sub (IE.var 6) (IE.lit 1)) (IE.lit 1))])]))))))))
                                                (VC.bad "index")))))))))))))
                        (VC.bad "index")))))))))))) := by kernel_rfl

theorem t35 : exFn { P := Try.prog, loops := fun r => if Nat.beq r 3 then some ⟨1, [(12, .int .i64), (7, .int .i64)], []⟩ else none } 35 [.var 0, .var 1, .var 2] [.slice, .func, .func] [] =
  VC.loop 1 [SV.int IntKind.i64 (IE.lit 0), SV.int IntKind.i64 (IE.lit (-1))] [Base.int IntKind.i64, Base.int IntKind.i64] [] [] [] []
  (VC.split (BE.lt (IE.var 3) (IE.len 0))
    (VC.ob (BE.le (IE.lit 0) (IE.var 3))
      (VC.ob (BE.lt (IE.var 3) (IE.len 0))
        (VC.ob (BE.not (BE.nil 0))
          (VC.start false [] [] []
            (VC.load (SV.elt 0 0 (IE.var 3) 2 0) [Base.int IntKind.i64, Base.int IntKind.i64]
              (VC.blk
                (VC.start true [7] [7] [(7, [SV.int IntKind.i64 (IE.var 5), SV.int IntKind.i64 (IE.var 6)])]
                  (VC.gen (Op.call { callee := Callee.value (Operand.tmp 17), args := { toList := [Operand.tmp 18] }, argTypes := { toList := [70] } }) 4
                    [(Operand.tmp 17, SV.var 1), (Operand.tmp 18, SV.agg [SV.int IntKind.i64 (IE.var 5), SV.int IntKind.i64 (IE.var 6)])] [Base.bool] (SV.bool (BE.var 8)) [] true [] [] [7]
                    [(7, [SV.int IntKind.i64 (IE.var 5), SV.int IntKind.i64 (IE.var 6)])]
                    (VC.split (BE.var 8)
                      (VC.split (BE.lt (IE.var 4) (IE.lit 0))
                        (VC.ob (BE.le (IE.lit (-9223372036854775808)) (IE.add (IE.var 3) (IE.lit 1)))
                          (VC.ob (BE.le (IE.add (IE.var 3) (IE.lit 1)) (IE.lit 9223372036854775807))
                            (VC.leaf 1 [SV.int IntKind.i64 (IE.add (IE.var 3) (IE.lit 1)), SV.int IntKind.i64 (IE.var 3)] [] [(7, [SV.int IntKind.i64 (IE.var 5), SV.int IntKind.i64 (IE.var 6)])])))
                        (VC.ob (BE.le (IE.lit 0) (IE.var 4))
                          (VC.ob (BE.lt (IE.var 4) (IE.len 0))
                            (VC.load (SV.elt 0 0 (IE.var 4) 2 0) [Base.int IntKind.i64, Base.int IntKind.i64]
                              (VC.gen (Op.call { callee := Callee.value (Operand.tmp 24), args := { toList := [Operand.tmp 25, Operand.tmp 29] }, argTypes := { toList := [70, 70] } }) 4
                                [(Operand.tmp 24, SV.var 2), (Operand.tmp 25, SV.agg [SV.int IntKind.i64 (IE.var 5), SV.int IntKind.i64 (IE.var 6)]),
                                  (Operand.tmp 29, SV.agg [SV.int IntKind.i64 (IE.var 9), SV.int IntKind.i64 (IE.var 10)])]
                                [Base.bool] (SV.bool (BE.var 11)) [] true [] [] [7] [(7, [SV.int IntKind.i64 (IE.var 5), SV.int IntKind.i64 (IE.var 6)])]
                                (VC.split (BE.var 11)
                                  (VC.ob (BE.le (IE.lit (-9223372036854775808)) (IE.add (IE.var 3) (IE.lit 1)))
                                    (VC.ob (BE.le (IE.add (IE.var 3) (IE.lit 1)) (IE.lit 9223372036854775807))
                                      (VC.leaf 1 [SV.int IntKind.i64 (IE.add (IE.var 3) (IE.lit 1)), SV.int IntKind.i64 (IE.var 3)] []
                                        [(7, [SV.int IntKind.i64 (IE.var 5), SV.int IntKind.i64 (IE.var 6)])])))
                                  (VC.ob (BE.le (IE.lit (-9223372036854775808)) (IE.add (IE.var 3) (IE.lit 1)))
                                    (VC.ob (BE.le (IE.add (IE.var 3) (IE.lit 1)) (IE.lit 9223372036854775807))
                                      (VC.leaf 1 [SV.int IntKind.i64 (IE.add (IE.var 3) (IE.lit 1)), SV.int IntKind.i64 (IE.var 4)] []
                                        [(7, [SV.int IntKind.i64 (IE.var 5), SV.int IntKind.i64 (IE.var 6)])])))))))))
                      (VC.ob (BE.le (IE.lit (-9223372036854775808)) (IE.add (IE.var 3) (IE.lit 1)))
                        (VC.ob (BE.le (IE.add (IE.var 3) (IE.lit 1)) (IE.lit 9223372036854775807))
                          (VC.leaf 1 [SV.int IntKind.i64 (IE.add (IE.var 3) (IE.lit 1)), SV.int IntKind.i64 (IE.var 4)] []
                            [(7, [SV.int IntKind.i64 (IE.var 5), SV.int IntKind.i64 (IE.var 6)])]))))))))))))
    (VC.leaf 0 [SV.int IntKind.i64 (IE.var 4)] [] [])) := by kernel_rfl

theorem t11 : exFn { P := Try.prog, muts := fun f => if Nat.beq f 32 then [0] else [] } 11 [.ptr 0 0] [.ptr, .slice, .int .i64, .int .i64, .int .i64, .int .i64, .int .i64] [(0, [.var 1, .int .i64 (.var 2), .int .i64 (.var 3), .int .i64 (.var 4), .int .i64 (.var 5), .int .i64 (.var 6)])] =
  VC.call 30 [SV.ptr 0 0] [Base.bool] (SV.bool (BE.var 7)) [] false [] [] [0]
  [(0, [SV.var 1, SV.int IntKind.i64 (IE.var 2), SV.int IntKind.i64 (IE.var 3), SV.int IntKind.i64 (IE.var 4), SV.int IntKind.i64 (IE.var 5), SV.int IntKind.i64 (IE.var 6)])]
  (VC.split (BE.var 7)
    (VC.leaf 0 [SV.tuple [SV.int IntKind.i64 (IE.lit 0), SV.int IntKind.i64 (IE.lit 1)]] []
      [(0, [SV.var 1, SV.int IntKind.i64 (IE.var 2), SV.int IntKind.i64 (IE.var 3), SV.int IntKind.i64 (IE.var 4), SV.int IntKind.i64 (IE.var 5), SV.int IntKind.i64 (IE.var 6)])])
    (VC.call 31 [SV.ptr 0 0, SV.int IntKind.i64 (IE.lit 1)] [Base.int IntKind.i64] (SV.int IntKind.i64 (IE.var 8)) [] false [] [] [0]
      [(0, [SV.var 1, SV.int IntKind.i64 (IE.var 2), SV.int IntKind.i64 (IE.var 3), SV.int IntKind.i64 (IE.var 4), SV.int IntKind.i64 (IE.var 5), SV.int IntKind.i64 (IE.var 6)])]
      (VC.split (BE.lt (IE.var 8) (IE.lit 0))
        (VC.leaf 0 [SV.tuple [SV.int IntKind.i64 (IE.lit 0), SV.int IntKind.i64 (IE.lit 9)]] []
          [(0, [SV.var 1, SV.int IntKind.i64 (IE.var 2), SV.int IntKind.i64 (IE.var 3), SV.int IntKind.i64 (IE.var 4), SV.int IntKind.i64 (IE.var 5), SV.int IntKind.i64 (IE.var 6)])])
        (VC.call 32 [SV.ptr 0 0, SV.int IntKind.i64 (IE.var 8), SV.int IntKind.i64 (IE.lit 2)]
          [Base.slice, Base.int IntKind.i64, Base.int IntKind.i64, Base.int IntKind.i64, Base.int IntKind.i64, Base.int IntKind.i64] (SV.tuple [])
          [(0, [SV.var 9, SV.int IntKind.i64 (IE.var 10), SV.int IntKind.i64 (IE.var 11), SV.int IntKind.i64 (IE.var 12), SV.int IntKind.i64 (IE.var 13), SV.int IntKind.i64 (IE.var 14)])] false [] []
          [] [(0, [SV.var 1, SV.int IntKind.i64 (IE.var 2), SV.int IntKind.i64 (IE.var 3), SV.int IntKind.i64 (IE.var 4), SV.int IntKind.i64 (IE.var 5), SV.int IntKind.i64 (IE.var 6)])]
          (VC.leaf 0 [SV.tuple [SV.int IntKind.i64 (IE.var 8), SV.int IntKind.i64 (IE.lit 0)]] []
            [(0, [SV.var 9, SV.int IntKind.i64 (IE.var 10), SV.int IntKind.i64 (IE.var 11), SV.int IntKind.i64 (IE.var 12), SV.int IntKind.i64 (IE.var 13), SV.int IntKind.i64 (IE.var 14)])]))))) := by kernel_rfl

theorem t12 : exFn { P := Try.prog, muts := fun f => if Nat.beq f 32 then [0] else [] } 12 [.ptr 0 0, .int .i64 (.var 7)] [.ptr, .slice, .int .i64, .int .i64, .int .i64, .int .i64, .int .i64, .int .i64] [(0, [.var 1, .int .i64 (.var 2), .int .i64 (.var 3), .int .i64 (.var 4), .int .i64 (.var 5), .int .i64 (.var 6)])] =
  VC.call 33 [SV.ptr 0 0, SV.int IntKind.i64 (IE.var 7), SV.fn 34 []] [Base.int IntKind.i64] (SV.int IntKind.i64 (IE.var 8)) [] false [] [] [0]
  [(0, [SV.var 1, SV.int IntKind.i64 (IE.var 2), SV.int IntKind.i64 (IE.var 3), SV.int IntKind.i64 (IE.var 4), SV.int IntKind.i64 (IE.var 5), SV.int IntKind.i64 (IE.var 6)])]
  (VC.split (BE.eq (IE.var 8) (IE.lit 0))
    (VC.call 32 [SV.ptr 0 0, SV.int IntKind.i64 (IE.var 7), SV.int IntKind.i64 (IE.lit 1)]
      [Base.slice, Base.int IntKind.i64, Base.int IntKind.i64, Base.int IntKind.i64, Base.int IntKind.i64, Base.int IntKind.i64] (SV.tuple [])
      [(0, [SV.var 9, SV.int IntKind.i64 (IE.var 10), SV.int IntKind.i64 (IE.var 11), SV.int IntKind.i64 (IE.var 12), SV.int IntKind.i64 (IE.var 13), SV.int IntKind.i64 (IE.var 14)])] false [] [] []
      [(0, [SV.var 1, SV.int IntKind.i64 (IE.var 2), SV.int IntKind.i64 (IE.var 3), SV.int IntKind.i64 (IE.var 4), SV.int IntKind.i64 (IE.var 5), SV.int IntKind.i64 (IE.var 6)])]
      (VC.ob (BE.le (IE.lit 0) (IE.var 7))
        (VC.ob (BE.lt (IE.var 7) (IE.len 9))
          (VC.ob (BE.not (BE.nil 9))
            (VC.start false [] []
              [(0, [SV.var 9, SV.int IntKind.i64 (IE.var 10), SV.int IntKind.i64 (IE.var 11), SV.int IntKind.i64 (IE.var 12), SV.int IntKind.i64 (IE.var 13), SV.int IntKind.i64 (IE.var 14)])]
              (VC.load (SV.elt 9 0 (IE.var 7) 2 0) [Base.int IntKind.i64]
                (VC.ob (BE.le (IE.lit (-9223372036854775808)) (IE.add (IE.var 15) (IE.lit 1)))
                  (VC.ob (BE.le (IE.add (IE.var 15) (IE.lit 1)) (IE.lit 9223372036854775807))
                    (VC.ob (BE.le (IE.lit 0) (IE.var 7))
                      (VC.ob (BE.lt (IE.var 7) (IE.len 9))
                        (VC.gen (Op.store 3 (Operand.tmp 26) (Operand.tmp 23)) 0 [(Operand.tmp 26, SV.elt 9 0 (IE.var 7) 2 0), (Operand.tmp 23, SV.int IntKind.i64 (IE.add (IE.var 15) (IE.lit 1)))] []
                          (SV.cst (Value.tuple { toList := [] })) [] false [] [] [0]
                          [(0,
                              [SV.var 9, SV.int IntKind.i64 (IE.var 10), SV.int IntKind.i64 (IE.var 11), SV.int IntKind.i64 (IE.var 12), SV.int IntKind.i64 (IE.var 13),
                                SV.int IntKind.i64 (IE.var 14)])]
                          (VC.leaf 0 [SV.int IntKind.i64 (IE.var 8)] []
                            [(0,
                                [SV.var 9, SV.int IntKind.i64 (IE.var 10), SV.int IntKind.i64 (IE.var 11), SV.int IntKind.i64 (IE.var 12), SV.int IntKind.i64 (IE.var 13),
                                  SV.int IntKind.i64 (IE.var 14)])]))))))))))))
    (VC.leaf 0 [SV.int IntKind.i64 (IE.var 8)] []
      [(0, [SV.var 1, SV.int IntKind.i64 (IE.var 2), SV.int IntKind.i64 (IE.var 3), SV.int IntKind.i64 (IE.var 4), SV.int IntKind.i64 (IE.var 5), SV.int IntKind.i64 (IE.var 6)])])) := by kernel_rfl

theorem t21 : exFn { P := Try.prog, muts := fun f => if Nat.beq f 32 then [0] else [] } 21 [.ptr 0 0, .int .i64 (.var 7)] [.ptr, .slice, .int .i64, .int .i64, .int .i64, .int .i64, .int .i64, .int .i64] [(0, [.var 1, .int .i64 (.var 2), .int .i64 (.var 3), .int .i64 (.var 4), .int .i64 (.var 5), .int .i64 (.var 6)])] =
  VC.call 33 [SV.ptr 0 0, SV.int IntKind.i64 (IE.var 7), SV.fn 49 []] [Base.int IntKind.i64] (SV.int IntKind.i64 (IE.var 8)) [] false [] [] [0]
  [(0, [SV.var 1, SV.int IntKind.i64 (IE.var 2), SV.int IntKind.i64 (IE.var 3), SV.int IntKind.i64 (IE.var 4), SV.int IntKind.i64 (IE.var 5), SV.int IntKind.i64 (IE.var 6)])]
  (VC.split (BE.eq (IE.var 8) (IE.lit 0))
    (VC.call 32 [SV.ptr 0 0, SV.int IntKind.i64 (IE.var 7), SV.int IntKind.i64 (IE.lit 3)]
      [Base.slice, Base.int IntKind.i64, Base.int IntKind.i64, Base.int IntKind.i64, Base.int IntKind.i64, Base.int IntKind.i64] (SV.tuple [])
      [(0, [SV.var 9, SV.int IntKind.i64 (IE.var 10), SV.int IntKind.i64 (IE.var 11), SV.int IntKind.i64 (IE.var 12), SV.int IntKind.i64 (IE.var 13), SV.int IntKind.i64 (IE.var 14)])] false [] [] []
      [(0, [SV.var 1, SV.int IntKind.i64 (IE.var 2), SV.int IntKind.i64 (IE.var 3), SV.int IntKind.i64 (IE.var 4), SV.int IntKind.i64 (IE.var 5), SV.int IntKind.i64 (IE.var 6)])]
      (VC.leaf 0 [SV.int IntKind.i64 (IE.var 8)] []
        [(0, [SV.var 9, SV.int IntKind.i64 (IE.var 10), SV.int IntKind.i64 (IE.var 11), SV.int IntKind.i64 (IE.var 12), SV.int IntKind.i64 (IE.var 13), SV.int IntKind.i64 (IE.var 14)])]))
    (VC.leaf 0 [SV.int IntKind.i64 (IE.var 8)] []
      [(0, [SV.var 1, SV.int IntKind.i64 (IE.var 2), SV.int IntKind.i64 (IE.var 3), SV.int IntKind.i64 (IE.var 4), SV.int IntKind.i64 (IE.var 5), SV.int IntKind.i64 (IE.var 6)])])) := by kernel_rfl

theorem t22 : exFn { P := Try.prog, muts := fun f => if Nat.beq f 32 then [0] else [] } 22 [.ptr 0 0, .int .i64 (.var 7)] [.ptr, .slice, .int .i64, .int .i64, .int .i64, .int .i64, .int .i64, .int .i64] [(0, [.var 1, .int .i64 (.var 2), .int .i64 (.var 3), .int .i64 (.var 4), .int .i64 (.var 5), .int .i64 (.var 6)])] =
  VC.call 33 [SV.ptr 0 0, SV.int IntKind.i64 (IE.var 7), SV.fn 36 []] [Base.int IntKind.i64] (SV.int IntKind.i64 (IE.var 8)) [] false [] [] [0]
  [(0, [SV.var 1, SV.int IntKind.i64 (IE.var 2), SV.int IntKind.i64 (IE.var 3), SV.int IntKind.i64 (IE.var 4), SV.int IntKind.i64 (IE.var 5), SV.int IntKind.i64 (IE.var 6)])]
  (VC.split (BE.eq (IE.var 8) (IE.lit 0))
    (VC.call 32 [SV.ptr 0 0, SV.int IntKind.i64 (IE.var 7), SV.int IntKind.i64 (IE.lit 4)]
      [Base.slice, Base.int IntKind.i64, Base.int IntKind.i64, Base.int IntKind.i64, Base.int IntKind.i64, Base.int IntKind.i64] (SV.tuple [])
      [(0, [SV.var 9, SV.int IntKind.i64 (IE.var 10), SV.int IntKind.i64 (IE.var 11), SV.int IntKind.i64 (IE.var 12), SV.int IntKind.i64 (IE.var 13), SV.int IntKind.i64 (IE.var 14)])] false [] [] []
      [(0, [SV.var 1, SV.int IntKind.i64 (IE.var 2), SV.int IntKind.i64 (IE.var 3), SV.int IntKind.i64 (IE.var 4), SV.int IntKind.i64 (IE.var 5), SV.int IntKind.i64 (IE.var 6)])]
      (VC.leaf 0 [SV.int IntKind.i64 (IE.var 8)] []
        [(0, [SV.var 9, SV.int IntKind.i64 (IE.var 10), SV.int IntKind.i64 (IE.var 11), SV.int IntKind.i64 (IE.var 12), SV.int IntKind.i64 (IE.var 13), SV.int IntKind.i64 (IE.var 14)])]))
    (VC.leaf 0 [SV.int IntKind.i64 (IE.var 8)] []
      [(0, [SV.var 1, SV.int IntKind.i64 (IE.var 2), SV.int IntKind.i64 (IE.var 3), SV.int IntKind.i64 (IE.var 4), SV.int IntKind.i64 (IE.var 5), SV.int IntKind.i64 (IE.var 6)])])) := by kernel_rfl

theorem t23 : exFn { P := Try.prog, muts := fun f => if Nat.beq f 32 then [0] else [] } 23 [.ptr 0 0, .int .i64 (.var 7), .int .i64 (.var 8), .int .i64 (.var 9)] [.ptr, .slice, .int .i64, .int .i64, .int .i64, .int .i64, .int .i64, .int .i64, .int .i64, .int .i64] [(0, [.var 1, .int .i64 (.var 2), .int .i64 (.var 3), .int .i64 (.var 4), .int .i64 (.var 5), .int .i64 (.var 6)])] =
  VC.call 30 [SV.ptr 0 0] [Base.bool] (SV.bool (BE.var 10)) [] false [] [] [0]
  [(0, [SV.var 1, SV.int IntKind.i64 (IE.var 2), SV.int IntKind.i64 (IE.var 3), SV.int IntKind.i64 (IE.var 4), SV.int IntKind.i64 (IE.var 5), SV.int IntKind.i64 (IE.var 6)])]
  (VC.split (BE.var 10)
    (VC.leaf 0 [SV.int IntKind.i64 (IE.lit 1)] []
      [(0, [SV.var 1, SV.int IntKind.i64 (IE.var 2), SV.int IntKind.i64 (IE.var 3), SV.int IntKind.i64 (IE.var 4), SV.int IntKind.i64 (IE.var 5), SV.int IntKind.i64 (IE.var 6)])])
    (VC.split (BE.lt (IE.var 8) (IE.lit 1))
      (VC.leaf 0 [SV.int IntKind.i64 (IE.lit 2)] []
        [(0, [SV.var 1, SV.int IntKind.i64 (IE.var 2), SV.int IntKind.i64 (IE.var 3), SV.int IntKind.i64 (IE.var 4), SV.int IntKind.i64 (IE.var 5), SV.int IntKind.i64 (IE.var 6)])])
      (VC.split (BE.lt (IE.lit 4) (IE.var 8))
        (VC.leaf 0 [SV.int IntKind.i64 (IE.lit 2)] []
          [(0, [SV.var 1, SV.int IntKind.i64 (IE.var 2), SV.int IntKind.i64 (IE.var 3), SV.int IntKind.i64 (IE.var 4), SV.int IntKind.i64 (IE.var 5), SV.int IntKind.i64 (IE.var 6)])])
        (VC.call 29 [SV.int IntKind.i64 (IE.var 9)] [Base.bool] (SV.bool (BE.var 11)) [] false [] [] [0]
          [(0, [SV.var 1, SV.int IntKind.i64 (IE.var 2), SV.int IntKind.i64 (IE.var 3), SV.int IntKind.i64 (IE.var 4), SV.int IntKind.i64 (IE.var 5), SV.int IntKind.i64 (IE.var 6)])]
          (VC.split (BE.not (BE.var 11))
            (VC.leaf 0 [SV.int IntKind.i64 (IE.lit 2)] []
              [(0, [SV.var 1, SV.int IntKind.i64 (IE.var 2), SV.int IntKind.i64 (IE.var 3), SV.int IntKind.i64 (IE.var 4), SV.int IntKind.i64 (IE.var 5), SV.int IntKind.i64 (IE.var 6)])])
            (VC.call 50 [SV.ptr 0 0, SV.int IntKind.i64 (IE.var 7)] [Base.bool] (SV.bool (BE.var 12)) [] false [] [] [0]
              [(0, [SV.var 1, SV.int IntKind.i64 (IE.var 2), SV.int IntKind.i64 (IE.var 3), SV.int IntKind.i64 (IE.var 4), SV.int IntKind.i64 (IE.var 5), SV.int IntKind.i64 (IE.var 6)])]
              (VC.split (BE.not (BE.var 12))
                (VC.leaf 0 [SV.int IntKind.i64 (IE.lit 3)] []
                  [(0, [SV.var 1, SV.int IntKind.i64 (IE.var 2), SV.int IntKind.i64 (IE.var 3), SV.int IntKind.i64 (IE.var 4), SV.int IntKind.i64 (IE.var 5), SV.int IntKind.i64 (IE.var 6)])])
                (VC.call 32 [SV.ptr 0 0, SV.int IntKind.i64 (IE.var 7), SV.int IntKind.i64 (IE.var 8)]
                  [Base.slice, Base.int IntKind.i64, Base.int IntKind.i64, Base.int IntKind.i64, Base.int IntKind.i64, Base.int IntKind.i64] (SV.tuple [])
                  [(0, [SV.var 13, SV.int IntKind.i64 (IE.var 14), SV.int IntKind.i64 (IE.var 15), SV.int IntKind.i64 (IE.var 16), SV.int IntKind.i64 (IE.var 17), SV.int IntKind.i64 (IE.var 18)])]
                  false [] [] []
                  [(0, [SV.var 1, SV.int IntKind.i64 (IE.var 2), SV.int IntKind.i64 (IE.var 3), SV.int IntKind.i64 (IE.var 4), SV.int IntKind.i64 (IE.var 5), SV.int IntKind.i64 (IE.var 6)])]
                  (VC.ob (BE.le (IE.lit 0) (IE.var 7))
                    (VC.ob (BE.lt (IE.var 7) (IE.len 13))
                      (VC.ob (BE.not (BE.nil 13))
                        (VC.gen (Op.store 3 (Operand.tmp 41) (Operand.tmp 38)) 0 [(Operand.tmp 41, SV.elt 13 0 (IE.var 7) 2 0), (Operand.tmp 38, SV.int IntKind.i64 (IE.var 9))] []
                          (SV.cst (Value.tuple { toList := [] })) [] false [] [] [0]
                          [(0,
                              [SV.var 13, SV.int IntKind.i64 (IE.var 14), SV.int IntKind.i64 (IE.var 15), SV.int IntKind.i64 (IE.var 16), SV.int IntKind.i64 (IE.var 17),
                                SV.int IntKind.i64 (IE.var 18)])]
                          (VC.leaf 0 [SV.int IntKind.i64 (IE.lit 0)] []
                            [(0,
                                [SV.var 13, SV.int IntKind.i64 (IE.var 14), SV.int IntKind.i64 (IE.var 15), SV.int IntKind.i64 (IE.var 16), SV.int IntKind.i64 (IE.var 17),
                                  SV.int IntKind.i64 (IE.var 18)])]))))))))))))) := by kernel_rfl

theorem t24 : exFn { P := Try.prog } 24 [.var 0, .int .i64 (.var 1)] [.ptr, .int .i64] [] =
  VC.split (BE.nil 0) (VC.leaf 0 [SV.int IntKind.i64 (IE.lit 0)] [] [])
  (VC.call 50 [SV.var 0, SV.int IntKind.i64 (IE.var 1)] [Base.bool] (SV.bool (BE.var 2)) [] false [] [] [] []
    (VC.split (BE.not (BE.var 2)) (VC.leaf 0 [SV.int IntKind.i64 (IE.lit 0)] [] [])
      (VC.start false [] [] []
        (VC.load (SV.ptr 0 0) [Base.slice]
          (VC.ob (BE.le (IE.lit 0) (IE.var 1))
            (VC.ob (BE.lt (IE.var 1) (IE.len 3))
              (VC.ob (BE.not (BE.nil 3)) (VC.start false [] [] [] (VC.load (SV.elt 3 0 (IE.var 1) 2 1) [Base.int IntKind.i64] (VC.leaf 0 [SV.int IntKind.i64 (IE.var 4)] [] [])))))))))) := by kernel_rfl

theorem t25 : exFn { P := Try.prog } 25 [.var 0, .int .i64 (.var 1)] [.ptr, .int .i64] [] =
  VC.split (BE.nil 0) (VC.leaf 0 [SV.int IntKind.i64 (IE.lit 0)] [] [])
  (VC.call 50 [SV.var 0, SV.int IntKind.i64 (IE.var 1)] [Base.bool] (SV.bool (BE.var 2)) [] false [] [] [] []
    (VC.split (BE.not (BE.var 2)) (VC.leaf 0 [SV.int IntKind.i64 (IE.lit 0)] [] [])
      (VC.start false [] [] []
        (VC.load (SV.ptr 0 0) [Base.slice]
          (VC.ob (BE.le (IE.lit 0) (IE.var 1))
            (VC.ob (BE.lt (IE.var 1) (IE.len 3))
              (VC.ob (BE.not (BE.nil 3)) (VC.start false [] [] [] (VC.load (SV.elt 3 0 (IE.var 1) 2 0) [Base.int IntKind.i64] (VC.leaf 0 [SV.int IntKind.i64 (IE.var 4)] [] [])))))))))) := by kernel_rfl

theorem t26 : exFn { P := Try.prog } 26 [.ptr 0 0, .int .i64 (.var 7)] [.ptr, .slice, .int .i64, .int .i64, .int .i64, .int .i64, .int .i64, .int .i64] [(0, [.var 1, .int .i64 (.var 2), .int .i64 (.var 3), .int .i64 (.var 4), .int .i64 (.var 5), .int .i64 (.var 6)])] =
  VC.call 30 [SV.ptr 0 0] [Base.bool] (SV.bool (BE.var 8)) [] false [] [] [0]
  [(0, [SV.var 1, SV.int IntKind.i64 (IE.var 2), SV.int IntKind.i64 (IE.var 3), SV.int IntKind.i64 (IE.var 4), SV.int IntKind.i64 (IE.var 5), SV.int IntKind.i64 (IE.var 6)])]
  (VC.split (BE.var 8)
    (VC.leaf 0 [SV.int IntKind.i64 (IE.lit 0)] []
      [(0, [SV.var 1, SV.int IntKind.i64 (IE.var 2), SV.int IntKind.i64 (IE.var 3), SV.int IntKind.i64 (IE.var 4), SV.int IntKind.i64 (IE.var 5), SV.int IntKind.i64 (IE.var 6)])])
    (VC.split (BE.lt (IE.var 7) (IE.lit 1))
      (VC.leaf 0 [SV.int IntKind.i64 (IE.lit 0)] []
        [(0, [SV.var 1, SV.int IntKind.i64 (IE.var 2), SV.int IntKind.i64 (IE.var 3), SV.int IntKind.i64 (IE.var 4), SV.int IntKind.i64 (IE.var 5), SV.int IntKind.i64 (IE.var 6)])])
      (VC.split (BE.lt (IE.lit 4) (IE.var 7))
        (VC.leaf 0 [SV.int IntKind.i64 (IE.lit 0)] []
          [(0, [SV.var 1, SV.int IntKind.i64 (IE.var 2), SV.int IntKind.i64 (IE.var 3), SV.int IntKind.i64 (IE.var 4), SV.int IntKind.i64 (IE.var 5), SV.int IntKind.i64 (IE.var 6)])])
        (VC.ob (BE.le (IE.lit 0) (IE.var 7))
          (VC.ob (BE.lt (IE.var 7) (IE.lit 5))
            (VC.split (BE.eq (IE.var 7) (IE.lit 0))
              (VC.leaf 0 [SV.int IntKind.i64 (IE.var 2)] []
                [(0, [SV.var 1, SV.int IntKind.i64 (IE.var 2), SV.int IntKind.i64 (IE.var 3), SV.int IntKind.i64 (IE.var 4), SV.int IntKind.i64 (IE.var 5), SV.int IntKind.i64 (IE.var 6)])])
              (VC.split (BE.eq (IE.var 7) (IE.lit 1))
                (VC.leaf 0 [SV.int IntKind.i64 (IE.var 3)] []
                  [(0, [SV.var 1, SV.int IntKind.i64 (IE.var 2), SV.int IntKind.i64 (IE.var 3), SV.int IntKind.i64 (IE.var 4), SV.int IntKind.i64 (IE.var 5), SV.int IntKind.i64 (IE.var 6)])])
                (VC.split (BE.eq (IE.var 7) (IE.lit 2))
                  (VC.leaf 0 [SV.int IntKind.i64 (IE.var 4)] []
                    [(0, [SV.var 1, SV.int IntKind.i64 (IE.var 2), SV.int IntKind.i64 (IE.var 3), SV.int IntKind.i64 (IE.var 4), SV.int IntKind.i64 (IE.var 5), SV.int IntKind.i64 (IE.var 6)])])
                  (VC.split (BE.eq (IE.var 7) (IE.lit 3))
                    (VC.leaf 0 [SV.int IntKind.i64 (IE.var 5)] []
                      [(0, [SV.var 1, SV.int IntKind.i64 (IE.var 2), SV.int IntKind.i64 (IE.var 3), SV.int IntKind.i64 (IE.var 4), SV.int IntKind.i64 (IE.var 5), SV.int IntKind.i64 (IE.var 6)])])
                    (VC.split (BE.eq (IE.var 7) (IE.lit 4))
                      (VC.leaf 0 [SV.int IntKind.i64 (IE.var 6)] []
                        [(0, [SV.var 1, SV.int IntKind.i64 (IE.var 2), SV.int IntKind.i64 (IE.var 3), SV.int IntKind.i64 (IE.var 4), SV.int IntKind.i64 (IE.var 5), SV.int IntKind.i64 (IE.var 6)])])
                      (VC.bad "index"))))))))))) := by kernel_rfl

theorem t20 : exFn { P := Try.prog } 20 [.var 0] [.ptr] [] =
  VC.call 30 [SV.var 0] [Base.bool] (SV.bool (BE.var 1)) [] false [] [] [] []
  (VC.split (BE.var 1) (VC.leaf 0 [SV.tuple [SV.int IntKind.i64 (IE.lit 0), SV.bool (BE.lit false)]] [] [])
    (VC.call 31 [SV.var 0, SV.int IntKind.i64 (IE.lit 3)] [Base.int IntKind.i64] (SV.int IntKind.i64 (IE.var 2)) [] false [] [] [] []
      (VC.leaf 0 [SV.tuple [SV.int IntKind.i64 (IE.max (IE.var 2) (IE.lit 0)), SV.bool (BE.le (IE.lit 0) (IE.var 2))]] [] []))) := by kernel_rfl

theorem t13 : exFn { P := Try.prog } 13 [.var 0] [.ptr] [] =
  VC.call 30 [SV.var 0] [Base.bool] (SV.bool (BE.var 1)) [] false [] [] [] []
  (VC.split (BE.var 1) (VC.leaf 0 [SV.tuple [SV.int IntKind.i64 (IE.lit 0), SV.int IntKind.i64 (IE.lit 0)]] [] [])
    (VC.ob (BE.not (BE.nil 0))
      (VC.start false [] [] []
        (VC.load (SV.ptr 0 0) [Base.slice]
          (VC.call 35 [SV.var 2, SV.fn 36 [], SV.fn 37 []] [Base.int IntKind.i64] (SV.int IntKind.i64 (IE.var 3)) [] false [] [] [] []
            (VC.start false [] [] []
              (VC.load (SV.ptr 0 0) [Base.slice]
                (VC.call 35 [SV.var 4, SV.fn 36 [], SV.fn 38 []] [Base.int IntKind.i64] (SV.int IntKind.i64 (IE.var 5)) [] false [] [] [] []
                  (VC.split (BE.lt (IE.var 3) (IE.lit 0)) (VC.leaf 0 [SV.tuple [SV.int IntKind.i64 (IE.lit 0), SV.int IntKind.i64 (IE.lit 0)]] [] [])
                    (VC.start true [] [] []
                      (VC.load (SV.ptr 0 0) [Base.slice]
                        (VC.ob (BE.le (IE.lit 0) (IE.var 3))
                          (VC.ob (BE.lt (IE.var 3) (IE.len 6))
                            (VC.ob (BE.not (BE.nil 6))
                              (VC.load (SV.elt 6 0 (IE.var 3) 2 0) [Base.int IntKind.i64]
                                (VC.load (SV.ptr 0 0) [Base.slice]
                                  (VC.ob (BE.le (IE.lit 0) (IE.var 5))
                                    (VC.ob (BE.lt (IE.var 5) (IE.len 8))
                                      (VC.ob (BE.not (BE.nil 8))
                                        (VC.load (SV.elt 8 0 (IE.var 5) 2 0) [Base.int IntKind.i64]
                                          (VC.leaf 0 [SV.tuple [SV.int IntKind.i64 (IE.var 7), SV.int IntKind.i64 (IE.var 9)]] [] []))))))))))))))))))))) := by kernel_rfl

theorem t19 : exFn { P := Try.prog } 19 [.var 0] [.ptr] [] =
  VC.call 30 [SV.var 0] [Base.bool] (SV.bool (BE.var 1)) [] false [] [] [] []
  (VC.split (BE.var 1) (VC.leaf 0 [SV.cst (Value.pointer none)] [] [])
    (VC.start true [] [] []
      (VC.ob (BE.not (BE.nil 0))
        (VC.load (SV.ptr 0 0) [Base.slice]
          (VC.load (SV.ptr 0 1) [Base.int IntKind.i64, Base.int IntKind.i64, Base.int IntKind.i64, Base.int IntKind.i64, Base.int IntKind.i64]
            (VC.call 47 [SV.var 2] [Base.slice] (SV.var 8) [] true [] [] [] []
              (VC.blk
                (VC.leaf 0 [SV.ptr 9 0] []
                  [(9, [SV.var 8, SV.int IntKind.i64 (IE.var 3), SV.int IntKind.i64 (IE.var 4), SV.int IntKind.i64 (IE.var 5), SV.int IntKind.i64 (IE.var 6), SV.int IntKind.i64 (IE.var 7)])])))))))) := by kernel_rfl

theorem t14 : exFn { P := Try.prog, loops := fun r => if Nat.beq r 5 then some ⟨1, [(5, .int .i64), (4, .slice)], []⟩ else none } 14 [.var 0] [.slice] [] =
  VC.split (BE.lt (IE.len 0) (IE.lit 1)) (VC.leaf 0 [SV.tuple [SV.cst (Value.slice none 0 0), SV.int IntKind.i64 (IE.lit 2)]] [] [])
  (VC.split (BE.lt (IE.lit 4096) (IE.len 0)) (VC.leaf 0 [SV.tuple [SV.cst (Value.slice none 0 0), SV.int IntKind.i64 (IE.lit 2)]] [] [])
    (VC.loop 1 [SV.int IntKind.i64 (IE.lit 0), SV.cst (Value.slice none 0 0)] [Base.int IntKind.i64, Base.slice] [] [] [] []
      (VC.split (BE.lt (IE.var 1) (IE.len 0))
        (VC.ob (BE.le (IE.lit 0) (IE.var 1))
          (VC.ob (BE.lt (IE.var 1) (IE.len 0))
            (VC.ob (BE.not (BE.nil 0))
              (VC.start false [] [] []
                (VC.load (SV.elt 0 0 (IE.var 1) 1 0) [Base.int IntKind.i64]
                  (VC.split (BE.lt (IE.var 3) (IE.lit 0)) (VC.leaf 0 [SV.tuple [SV.cst (Value.slice none 0 0), SV.int IntKind.i64 (IE.lit 2)]] [] [])
                    (VC.ob (BE.le (IE.lit 0) (IE.var 1))
                      (VC.ob (BE.lt (IE.var 1) (IE.len 0))
                        (VC.start false [] [] []
                          (VC.load (SV.elt 0 0 (IE.var 1) 1 0) [Base.int IntKind.i64]
                            (VC.split (BE.lt (IE.lit 1099511627776) (IE.var 4)) (VC.leaf 0 [SV.tuple [SV.cst (Value.slice none 0 0), SV.int IntKind.i64 (IE.lit 2)]] [] [])
                              (VC.ob (BE.le (IE.lit 0) (IE.var 1))
                                (VC.ob (BE.lt (IE.var 1) (IE.len 0))
                                  (VC.start false [] [] []
                                    (VC.load (SV.elt 0 0 (IE.var 1) 1 0) [Base.int IntKind.i64]
                                      (VC.blk
                                        (VC.gen (Op.call { callee := Callee.builtin Builtin.append, args := { toList := [Operand.tmp 32, Operand.tmp 38] }, argTypes := { toList := [37, 37] } }) 37
                                          [(Operand.tmp 32, SV.var 2), (Operand.tmp 38, SV.slc 6 0 1 1)] [Base.slice] (SV.var 7) [] false [] [] [6]
                                          [(6, [SV.int IntKind.i64 (IE.lit 1), SV.int IntKind.i64 (IE.var 5)])]
                                          (VC.ob (BE.le (IE.lit (-9223372036854775808)) (IE.add (IE.var 1) (IE.lit 1)))
                                            (VC.ob (BE.le (IE.add (IE.var 1) (IE.lit 1)) (IE.lit 9223372036854775807))
                                              (VC.leaf 1 [SV.int IntKind.i64 (IE.add (IE.var 1) (IE.lit 1)), SV.var 7] []
                                                [(6, [SV.int IntKind.i64 (IE.lit 1), SV.int IntKind.i64 (IE.var 5)])]))))))))))))))))))))
        (VC.leaf 0 [SV.tuple [SV.var 2, SV.int IntKind.i64 (IE.lit 0)]] [] [])))) := by kernel_rfl

theorem t52 : exFn { P := Try.prog, loops := fun r => if Nat.beq r 3 then some ⟨1, [(6, .int .i64), (5, .int .i64)], []⟩ else none } 52 [.var 0, .int .i64 (.var 1)] [.slice, .int .i64] [] =
  VC.loop 1 [SV.int IntKind.i64 (IE.lit 0), SV.int IntKind.i64 (IE.lit (-1))] [Base.int IntKind.i64, Base.int IntKind.i64] [] [] [] []
  (VC.split (BE.lt (IE.var 2) (IE.len 0))
    (VC.start true [] [] []
      (VC.ob (BE.le (IE.lit 0) (IE.var 2))
        (VC.ob (BE.lt (IE.var 2) (IE.len 0))
          (VC.ob (BE.not (BE.nil 0))
            (VC.load (SV.elt 0 0 (IE.var 2) 2 0) [Base.int IntKind.i64]
              (VC.split (BE.eq (IE.var 4) (IE.var 1))
                (VC.split (BE.lt (IE.var 3) (IE.lit 0))
                  (VC.ob (BE.le (IE.lit (-9223372036854775808)) (IE.add (IE.var 2) (IE.lit 1)))
                    (VC.ob (BE.le (IE.add (IE.var 2) (IE.lit 1)) (IE.lit 9223372036854775807)) (VC.leaf 1 [SV.int IntKind.i64 (IE.add (IE.var 2) (IE.lit 1)), SV.int IntKind.i64 (IE.var 2)] [] [])))
                  (VC.ob (BE.le (IE.lit 0) (IE.var 2))
                    (VC.ob (BE.lt (IE.var 2) (IE.len 0))
                      (VC.load (SV.elt 0 0 (IE.var 2) 2 1) [Base.int IntKind.i64]
                        (VC.ob (BE.le (IE.lit 0) (IE.var 3))
                          (VC.ob (BE.lt (IE.var 3) (IE.len 0))
                            (VC.load (SV.elt 0 0 (IE.var 3) 2 1) [Base.int IntKind.i64]
                              (VC.split (BE.lt (IE.var 5) (IE.var 6))
                                (VC.ob (BE.le (IE.lit (-9223372036854775808)) (IE.add (IE.var 2) (IE.lit 1)))
                                  (VC.ob (BE.le (IE.add (IE.var 2) (IE.lit 1)) (IE.lit 9223372036854775807))
                                    (VC.leaf 1 [SV.int IntKind.i64 (IE.add (IE.var 2) (IE.lit 1)), SV.int IntKind.i64 (IE.var 2)] [] [])))
                                (VC.ob (BE.le (IE.lit (-9223372036854775808)) (IE.add (IE.var 2) (IE.lit 1)))
                                  (VC.ob (BE.le (IE.add (IE.var 2) (IE.lit 1)) (IE.lit 9223372036854775807))
                                    (VC.leaf 1 [SV.int IntKind.i64 (IE.add (IE.var 2) (IE.lit 1)), SV.int IntKind.i64 (IE.var 3)] [] [])))))))))))
                (VC.ob (BE.le (IE.lit (-9223372036854775808)) (IE.add (IE.var 2) (IE.lit 1)))
                  (VC.ob (BE.le (IE.add (IE.var 2) (IE.lit 1)) (IE.lit 9223372036854775807))
                    (VC.leaf 1 [SV.int IntKind.i64 (IE.add (IE.var 2) (IE.lit 1)), SV.int IntKind.i64 (IE.var 3)] [] [])))))))))
    (VC.leaf 0 [SV.int IntKind.i64 (IE.var 3)] [] [])) := by kernel_rfl

theorem t53 : exFn { P := Try.prog } 53 [.var 0, .int .i64 (.var 1), .int .i64 (.var 2), .int .i64 (.var 3)] [.slice, .int .i64, .int .i64, .int .i64] [] =
  VC.blk
  (VC.gen (Op.call { callee := Callee.builtin Builtin.append, args := { toList := [Operand.tmp 9, Operand.tmp 10] }, argTypes := { toList := [37, 37] } }) 37
    [(Operand.tmp 9, SV.slc 4 0 0 0), (Operand.tmp 10, SV.var 0)] [Base.slice] (SV.var 5) [] false [] [] [4] [(4, [])]
    (VC.ob (BE.le (IE.lit 0) (IE.var 1))
      (VC.ob (BE.lt (IE.var 1) (IE.len 5))
        (VC.ob (BE.not (BE.nil 5))
          (VC.gen (Op.store 77 (Operand.tmp 17) (Operand.tmp 16)) 0
            [(Operand.tmp 17, SV.elt 5 0 (IE.var 1) 2 0), (Operand.tmp 16, SV.agg [SV.int IntKind.i64 (IE.var 2), SV.int IntKind.i64 (IE.var 3)])] [] (SV.cst (Value.tuple { toList := [] })) [] false
            [] [] [4] [(4, [])] (VC.leaf 0 [SV.var 5] [] [(4, [])])))))) := by kernel_rfl

theorem t39 : exFn { P := Try.prog } 39 [.var 0] [.slice] [] =
  VC.call 52 [SV.var 0, SV.int IntKind.i64 (IE.lit 1)] [Base.int IntKind.i64] (SV.int IntKind.i64 (IE.var 1)) [] false [] [] [] []
  (VC.split (BE.lt (IE.var 1) (IE.lit 0)) (VC.leaf 0 [SV.tuple [SV.var 0, SV.int IntKind.i64 (IE.lit 0), SV.int IntKind.i64 (IE.lit 9)]] [] [])
    (VC.ob (BE.le (IE.lit 0) (IE.var 1))
      (VC.ob (BE.lt (IE.var 1) (IE.len 0))
        (VC.ob (BE.not (BE.nil 0))
          (VC.start false [] [] []
            (VC.load (SV.elt 0 0 (IE.var 1) 2 1) [Base.int IntKind.i64]
              (VC.call 53 [SV.var 0, SV.int IntKind.i64 (IE.var 1), SV.int IntKind.i64 (IE.lit 2), SV.int IntKind.i64 (IE.var 2)] [Base.slice] (SV.var 3) [] false [] [] [] []
                (VC.leaf 0 [SV.tuple [SV.var 3, SV.int IntKind.i64 (IE.var 1), SV.int IntKind.i64 (IE.lit 0)]] [] [])))))))) := by kernel_rfl

theorem t40 : exFn { P := Try.prog } 40 [.var 0, .int .i64 (.var 1)] [.slice, .int .i64] [] =
  VC.split (BE.lt (IE.var 1) (IE.lit 0)) (VC.leaf 0 [SV.tuple [SV.var 0, SV.int IntKind.i64 (IE.lit 3)]] [] [])
  (VC.split (BE.le (IE.len 0) (IE.var 1)) (VC.leaf 0 [SV.tuple [SV.var 0, SV.int IntKind.i64 (IE.lit 3)]] [] [])
    (VC.ob (BE.le (IE.lit 0) (IE.var 1))
      (VC.ob (BE.lt (IE.var 1) (IE.len 0))
        (VC.ob (BE.not (BE.nil 0))
          (VC.start false [] [] []
            (VC.load (SV.elt 0 0 (IE.var 1) 2 0) [Base.int IntKind.i64]
              (VC.split (BE.not (BE.eq (IE.var 2) (IE.lit 2))) (VC.leaf 0 [SV.tuple [SV.var 0, SV.int IntKind.i64 (IE.lit 8)]] [] [])
                (VC.ob (BE.le (IE.lit 0) (IE.var 1))
                  (VC.ob (BE.lt (IE.var 1) (IE.len 0))
                    (VC.start false [] [] []
                      (VC.load (SV.elt 0 0 (IE.var 1) 2 1) [Base.int IntKind.i64]
                        (VC.call 53 [SV.var 0, SV.int IntKind.i64 (IE.var 1), SV.int IntKind.i64 (IE.lit 3), SV.int IntKind.i64 (IE.var 3)] [Base.slice] (SV.var 4) [] false [] [] [] []
                          (VC.leaf 0 [SV.tuple [SV.var 4, SV.int IntKind.i64 (IE.lit 0)]] [] []))))))))))))) := by kernel_rfl

theorem t41 : exFn { P := Try.prog } 41 [.var 0, .int .i64 (.var 1)] [.slice, .int .i64] [] =
  VC.split (BE.lt (IE.var 1) (IE.lit 0)) (VC.leaf 0 [SV.tuple [SV.var 0, SV.int IntKind.i64 (IE.lit 3)]] [] [])
  (VC.split (BE.le (IE.len 0) (IE.var 1)) (VC.leaf 0 [SV.tuple [SV.var 0, SV.int IntKind.i64 (IE.lit 3)]] [] [])
    (VC.ob (BE.le (IE.lit 0) (IE.var 1))
      (VC.ob (BE.lt (IE.var 1) (IE.len 0))
        (VC.ob (BE.not (BE.nil 0))
          (VC.start false [] [] []
            (VC.load (SV.elt 0 0 (IE.var 1) 2 0) [Base.int IntKind.i64]
              (VC.split (BE.not (BE.eq (IE.var 2) (IE.lit 2)))
                (VC.ob (BE.le (IE.lit 0) (IE.var 1))
                  (VC.ob (BE.lt (IE.var 1) (IE.len 0))
                    (VC.start false [] [] []
                      (VC.load (SV.elt 0 0 (IE.var 1) 2 0) [Base.int IntKind.i64]
                        (VC.split (BE.not (BE.eq (IE.var 3) (IE.lit 3))) (VC.leaf 0 [SV.tuple [SV.var 0, SV.int IntKind.i64 (IE.lit 8)]] [] [])
                          (VC.ob (BE.le (IE.lit 0) (IE.var 1))
                            (VC.ob (BE.lt (IE.var 1) (IE.len 0))
                              (VC.start false [] [] []
                                (VC.load (SV.elt 0 0 (IE.var 1) 2 1) [Base.int IntKind.i64]
                                  (VC.split (BE.eq (IE.var 4) (IE.lit 1099511627776)) (VC.leaf 0 [SV.tuple [SV.var 0, SV.int IntKind.i64 (IE.lit 8)]] [] [])
                                    (VC.ob (BE.le (IE.lit 0) (IE.var 1))
                                      (VC.ob (BE.lt (IE.var 1) (IE.len 0))
                                        (VC.start false [] [] []
                                          (VC.load (SV.elt 0 0 (IE.var 1) 2 1) [Base.int IntKind.i64]
                                            (VC.ob (BE.le (IE.lit (-9223372036854775808)) (IE.add (IE.var 5) (IE.lit 1)))
                                              (VC.ob (BE.le (IE.add (IE.var 5) (IE.lit 1)) (IE.lit 9223372036854775807))
                                                (VC.call 53 [SV.var 0, SV.int IntKind.i64 (IE.var 1), SV.int IntKind.i64 (IE.lit 1), SV.int IntKind.i64 (IE.add (IE.var 5) (IE.lit 1))] [Base.slice]
                                                  (SV.var 6) [] false [] [] [] [] (VC.leaf 0 [SV.tuple [SV.var 6, SV.int IntKind.i64 (IE.lit 0)]] [] []))))))))))))))))))
                (VC.ob (BE.le (IE.lit 0) (IE.var 1))
                  (VC.ob (BE.lt (IE.var 1) (IE.len 0))
                    (VC.start false [] [] []
                      (VC.load (SV.elt 0 0 (IE.var 1) 2 1) [Base.int IntKind.i64]
                        (VC.split (BE.eq (IE.var 3) (IE.lit 1099511627776)) (VC.leaf 0 [SV.tuple [SV.var 0, SV.int IntKind.i64 (IE.lit 8)]] [] [])
                          (VC.ob (BE.le (IE.lit 0) (IE.var 1))
                            (VC.ob (BE.lt (IE.var 1) (IE.len 0))
                              (VC.start false [] [] []
                                (VC.load (SV.elt 0 0 (IE.var 1) 2 1) [Base.int IntKind.i64]
                                  (VC.ob (BE.le (IE.lit (-9223372036854775808)) (IE.add (IE.var 4) (IE.lit 1)))
                                    (VC.ob (BE.le (IE.add (IE.var 4) (IE.lit 1)) (IE.lit 9223372036854775807))
                                      (VC.call 53 [SV.var 0, SV.int IntKind.i64 (IE.var 1), SV.int IntKind.i64 (IE.lit 1), SV.int IntKind.i64 (IE.add (IE.var 4) (IE.lit 1))] [Base.slice] (SV.var 5) []
                                        false [] [] [] [] (VC.leaf 0 [SV.tuple [SV.var 5, SV.int IntKind.i64 (IE.lit 0)]] [] [])))))))))))))))))))) := by kernel_rfl

theorem t42 : exFn { P := Try.prog } 42 [.var 0, .int .i64 (.var 1)] [.slice, .int .i64] [] =
  VC.split (BE.lt (IE.var 1) (IE.lit 0)) (VC.leaf 0 [SV.tuple [SV.var 0, SV.int IntKind.i64 (IE.lit 3)]] [] [])
  (VC.split (BE.le (IE.len 0) (IE.var 1)) (VC.leaf 0 [SV.tuple [SV.var 0, SV.int IntKind.i64 (IE.lit 3)]] [] [])
    (VC.ob (BE.le (IE.lit 0) (IE.var 1))
      (VC.ob (BE.lt (IE.var 1) (IE.len 0))
        (VC.ob (BE.not (BE.nil 0))
          (VC.start false [] [] []
            (VC.load (SV.elt 0 0 (IE.var 1) 2 0) [Base.int IntKind.i64]
              (VC.split (BE.eq (IE.var 2) (IE.lit 4)) (VC.leaf 0 [SV.tuple [SV.var 0, SV.int IntKind.i64 (IE.lit 8)]] [] [])
                (VC.ob (BE.le (IE.lit 0) (IE.var 1))
                  (VC.ob (BE.lt (IE.var 1) (IE.len 0))
                    (VC.start false [] [] []
                      (VC.load (SV.elt 0 0 (IE.var 1) 2 1) [Base.int IntKind.i64]
                        (VC.call 53 [SV.var 0, SV.int IntKind.i64 (IE.var 1), SV.int IntKind.i64 (IE.lit 4), SV.int IntKind.i64 (IE.var 3)] [Base.slice] (SV.var 4) [] false [] [] [] []
                          (VC.leaf 0 [SV.tuple [SV.var 4, SV.int IntKind.i64 (IE.lit 0)]] [] []))))))))))))) := by kernel_rfl

theorem t43 : exFn { P := Try.prog } 43 [.var 0, .int .i64 (.var 1), .int .i64 (.var 2), .int .i64 (.var 3)] [.slice, .int .i64, .int .i64, .int .i64] [] =
  VC.split (BE.lt (IE.var 2) (IE.lit 1)) (VC.leaf 0 [SV.tuple [SV.var 0, SV.int IntKind.i64 (IE.lit 2)]] [] [])
  (VC.split (BE.lt (IE.lit 4) (IE.var 2)) (VC.leaf 0 [SV.tuple [SV.var 0, SV.int IntKind.i64 (IE.lit 2)]] [] [])
    (VC.split (BE.lt (IE.var 3) (IE.lit 0)) (VC.leaf 0 [SV.tuple [SV.var 0, SV.int IntKind.i64 (IE.lit 2)]] [] [])
      (VC.split (BE.lt (IE.lit 1099511627776) (IE.var 3)) (VC.leaf 0 [SV.tuple [SV.var 0, SV.int IntKind.i64 (IE.lit 2)]] [] [])
        (VC.split (BE.lt (IE.var 1) (IE.lit 0)) (VC.leaf 0 [SV.tuple [SV.var 0, SV.int IntKind.i64 (IE.lit 3)]] [] [])
          (VC.split (BE.le (IE.len 0) (IE.var 1)) (VC.leaf 0 [SV.tuple [SV.var 0, SV.int IntKind.i64 (IE.lit 3)]] [] [])
            (VC.call 53 [SV.var 0, SV.int IntKind.i64 (IE.var 1), SV.int IntKind.i64 (IE.var 2), SV.int IntKind.i64 (IE.var 3)] [Base.slice] (SV.var 4) [] false [] [] [] []
              (VC.leaf 0 [SV.tuple [SV.var 4, SV.int IntKind.i64 (IE.lit 0)]] [] []))))))) := by kernel_rfl

theorem t44 : exFn { P := Try.prog } 44 [.var 0, .int .i64 (.var 1)] [.slice, .int .i64] [] =
  VC.blk
  (VC.split (BE.lt (IE.var 1) (IE.lit 0)) (VC.leaf 0 [SV.agg [SV.int IntKind.i64 (IE.lit 0), SV.int IntKind.i64 (IE.lit 0)]] [2] [(2, [SV.int IntKind.i64 (IE.lit 0), SV.int IntKind.i64 (IE.lit 0)])])
    (VC.split (BE.le (IE.len 0) (IE.var 1))
      (VC.leaf 0 [SV.agg [SV.int IntKind.i64 (IE.lit 0), SV.int IntKind.i64 (IE.lit 0)]] [2] [(2, [SV.int IntKind.i64 (IE.lit 0), SV.int IntKind.i64 (IE.lit 0)])])
      (VC.ob (BE.le (IE.lit 0) (IE.var 1))
        (VC.ob (BE.lt (IE.var 1) (IE.len 0))
          (VC.ob (BE.not (BE.nil 0))
            (VC.start false [] [] [(2, [SV.int IntKind.i64 (IE.lit 0), SV.int IntKind.i64 (IE.lit 0)])]
              (VC.load (SV.elt 0 0 (IE.var 1) 2 0) [Base.int IntKind.i64, Base.int IntKind.i64]
                (VC.leaf 0 [SV.agg [SV.int IntKind.i64 (IE.var 3), SV.int IntKind.i64 (IE.var 4)]] [2] [(2, [SV.int IntKind.i64 (IE.var 3), SV.int IntKind.i64 (IE.var 4)])])))))))) := by kernel_rfl

theorem t45 : exFn { P := Try.prog } 45 [.var 0] [.slice] [] =
  VC.call 52 [SV.var 0, SV.int IntKind.i64 (IE.lit 3)] [Base.int IntKind.i64] (SV.int IntKind.i64 (IE.var 1)) [] false [] [] [] []
  (VC.leaf 0 [SV.tuple [SV.int IntKind.i64 (IE.max (IE.var 1) (IE.lit 0)), SV.bool (BE.le (IE.lit 0) (IE.var 1))]] [] []) := by kernel_rfl

theorem t46 : exFn { P := Try.prog, loops := fun r => if Nat.beq r 3 then some ⟨1, [(7, .int .i64), (4, .int .i64), (5, .int .i64), (6, .bool)], []⟩ else none } 46 [.var 0] [.slice] [] =
  VC.loop 1 [SV.int IntKind.i64 (IE.lit 0), SV.int IntKind.i64 (IE.lit 0), SV.int IntKind.i64 (IE.lit 0), SV.bool (BE.lit false)]
  [Base.int IntKind.i64, Base.int IntKind.i64, Base.int IntKind.i64, Base.bool] [] [] [] []
  (VC.split (BE.lt (IE.var 1) (IE.len 0))
    (VC.ob (BE.le (IE.lit 0) (IE.var 1))
      (VC.ob (BE.lt (IE.var 1) (IE.len 0))
        (VC.ob (BE.not (BE.nil 0))
          (VC.start false [] [] []
            (VC.load (SV.elt 0 0 (IE.var 1) 2 0) [Base.int IntKind.i64]
              (VC.split (BE.eq (IE.var 5) (IE.lit 4))
                (VC.ob (BE.le (IE.lit (-9223372036854775808)) (IE.add (IE.var 1) (IE.lit 1)))
                  (VC.ob (BE.le (IE.add (IE.var 1) (IE.lit 1)) (IE.lit 9223372036854775807))
                    (VC.leaf 1 [SV.int IntKind.i64 (IE.add (IE.var 1) (IE.lit 1)), SV.int IntKind.i64 (IE.var 2), SV.int IntKind.i64 (IE.var 3), SV.bool (BE.var 4)] [] [])))
                (VC.ob (BE.le (IE.lit 0) (IE.var 1))
                  (VC.ob (BE.lt (IE.var 1) (IE.len 0))
                    (VC.start false [] [] []
                      (VC.load (SV.elt 0 0 (IE.var 1) 2 1) [Base.int IntKind.i64]
                        (VC.split (BE.not (BE.var 4))
                          (VC.ob (BE.le (IE.lit (-9223372036854775808)) (IE.add (IE.var 1) (IE.lit 1)))
                            (VC.ob (BE.le (IE.add (IE.var 1) (IE.lit 1)) (IE.lit 9223372036854775807))
                              (VC.leaf 1 [SV.int IntKind.i64 (IE.add (IE.var 1) (IE.lit 1)), SV.int IntKind.i64 (IE.var 6), SV.int IntKind.i64 (IE.var 6), SV.bool (BE.lit true)] [] [])))
                          (VC.split (BE.lt (IE.var 6) (IE.var 2))
                            (VC.split (BE.lt (IE.var 3) (IE.var 6))
                              (VC.ob (BE.le (IE.lit (-9223372036854775808)) (IE.add (IE.var 1) (IE.lit 1)))
                                (VC.ob (BE.le (IE.add (IE.var 1) (IE.lit 1)) (IE.lit 9223372036854775807))
                                  (VC.leaf 1 [SV.int IntKind.i64 (IE.add (IE.var 1) (IE.lit 1)), SV.int IntKind.i64 (IE.var 6), SV.int IntKind.i64 (IE.var 6), SV.bool (BE.lit true)] [] [])))
                              (VC.ob (BE.le (IE.lit (-9223372036854775808)) (IE.add (IE.var 1) (IE.lit 1)))
                                (VC.ob (BE.le (IE.add (IE.var 1) (IE.lit 1)) (IE.lit 9223372036854775807))
                                  (VC.leaf 1 [SV.int IntKind.i64 (IE.add (IE.var 1) (IE.lit 1)), SV.int IntKind.i64 (IE.var 6), SV.int IntKind.i64 (IE.var 3), SV.bool (BE.lit true)] [] []))))
                            (VC.split (BE.lt (IE.var 3) (IE.var 6))
                              (VC.ob (BE.le (IE.lit (-9223372036854775808)) (IE.add (IE.var 1) (IE.lit 1)))
                                (VC.ob (BE.le (IE.add (IE.var 1) (IE.lit 1)) (IE.lit 9223372036854775807))
                                  (VC.leaf 1 [SV.int IntKind.i64 (IE.add (IE.var 1) (IE.lit 1)), SV.int IntKind.i64 (IE.var 2), SV.int IntKind.i64 (IE.var 6), SV.bool (BE.lit true)] [] [])))
                              (VC.ob (BE.le (IE.lit (-9223372036854775808)) (IE.add (IE.var 1) (IE.lit 1)))
                                (VC.ob (BE.le (IE.add (IE.var 1) (IE.lit 1)) (IE.lit 9223372036854775807))
                                  (VC.leaf 1 [SV.int IntKind.i64 (IE.add (IE.var 1) (IE.lit 1)), SV.int IntKind.i64 (IE.var 2), SV.int IntKind.i64 (IE.var 3), SV.bool (BE.lit true)] []
                                    []))))))))))))))))
    (VC.leaf 0 [SV.tuple [SV.int IntKind.i64 (IE.var 2), SV.int IntKind.i64 (IE.var 3)]] [] [])) := by kernel_rfl

theorem t18 : exFn { P := Try.prog, loops := fun r => if Nat.beq r 3 then some ⟨1, [(6, .int .i64), (5, .slice)], []⟩ else none } 18 [.var 0, .int .i64 (.var 1)] [.slice, .int .i64] [] =
  VC.loop 1 [SV.int IntKind.i64 (IE.lit 0), SV.cst (Value.slice none 0 0)] [Base.int IntKind.i64, Base.slice] [] [] [] []
  (VC.split (BE.lt (IE.var 2) (IE.len 0))
    (VC.ob (BE.le (IE.lit 0) (IE.var 2))
      (VC.ob (BE.lt (IE.var 2) (IE.len 0))
        (VC.ob (BE.not (BE.nil 0))
          (VC.start false [] [] []
            (VC.load (SV.elt 0 0 (IE.var 2) 2 0) [Base.int IntKind.i64]
              (VC.split (BE.eq (IE.var 4) (IE.var 1))
                (VC.blk
                  (VC.gen (Op.call { callee := Callee.builtin Builtin.append, args := { toList := [Operand.tmp 20, Operand.tmp 22] }, argTypes := { toList := [23, 23] } }) 23
                    [(Operand.tmp 20, SV.var 3), (Operand.tmp 22, SV.slc 5 0 1 1)] [Base.slice] (SV.var 6) [] false [] [] [5] [(5, [SV.int IntKind.i64 (IE.var 2)])]
                    (VC.ob (BE.le (IE.lit (-9223372036854775808)) (IE.add (IE.var 2) (IE.lit 1)))
                      (VC.ob (BE.le (IE.add (IE.var 2) (IE.lit 1)) (IE.lit 9223372036854775807))
                        (VC.leaf 1 [SV.int IntKind.i64 (IE.add (IE.var 2) (IE.lit 1)), SV.var 6] [] [(5, [SV.int IntKind.i64 (IE.var 2)])])))))
                (VC.ob (BE.le (IE.lit (-9223372036854775808)) (IE.add (IE.var 2) (IE.lit 1)))
                  (VC.ob (BE.le (IE.add (IE.var 2) (IE.lit 1)) (IE.lit 9223372036854775807)) (VC.leaf 1 [SV.int IntKind.i64 (IE.add (IE.var 2) (IE.lit 1)), SV.var 3] [] [])))))))))
    (VC.leaf 0 [SV.var 3] [] [])) := by kernel_rfl

theorem t15 : exFn { P := Try.prog } 15 [.var 0, .var 1, .agg [.int .i64 (.var 2), .int .i64 (.var 3), .int .i64 (.var 4), .int .i64 (.var 5)]] [.ptr, .slice, .int .i64, .int .i64, .int .i64, .int .i64] [] =
  VC.blk
  (VC.split (BE.eq (IE.var 2) (IE.lit 0))
    (VC.call 11 [SV.var 0] [Base.int IntKind.i64, Base.int IntKind.i64] (SV.tuple [SV.int IntKind.i64 (IE.var 7), SV.int IntKind.i64 (IE.var 8)]) [] false [] [] [6]
      [(6, [SV.int IntKind.i64 (IE.var 2), SV.int IntKind.i64 (IE.var 3), SV.int IntKind.i64 (IE.var 4), SV.int IntKind.i64 (IE.var 5)])]
      (VC.call 39 [SV.var 1] [Base.slice, Base.int IntKind.i64, Base.int IntKind.i64] (SV.tuple [SV.var 9, SV.int IntKind.i64 (IE.var 10), SV.int IntKind.i64 (IE.var 11)]) [] false [] [] [6]
        [(6, [SV.int IntKind.i64 (IE.var 2), SV.int IntKind.i64 (IE.var 3), SV.int IntKind.i64 (IE.var 4), SV.int IntKind.i64 (IE.var 5)])]
        (VC.split (BE.eq (IE.var 7) (IE.var 10))
          (VC.call 10 [SV.int IntKind.i64 (IE.var 8)] [Base.int IntKind.i64] (SV.int IntKind.i64 (IE.var 12)) [] false [] [] [6]
            [(6, [SV.int IntKind.i64 (IE.var 2), SV.int IntKind.i64 (IE.var 3), SV.int IntKind.i64 (IE.var 4), SV.int IntKind.i64 (IE.var 5)])]
            (VC.leaf 0 [SV.tuple [SV.var 9, SV.bool (BE.eq (IE.var 12) (IE.var 11))]] []
              [(6, [SV.int IntKind.i64 (IE.var 2), SV.int IntKind.i64 (IE.var 3), SV.int IntKind.i64 (IE.var 4), SV.int IntKind.i64 (IE.var 5)])]))
          (VC.leaf 0 [SV.tuple [SV.var 9, SV.bool (BE.lit false)]] []
            [(6, [SV.int IntKind.i64 (IE.var 2), SV.int IntKind.i64 (IE.var 3), SV.int IntKind.i64 (IE.var 4), SV.int IntKind.i64 (IE.var 5)])]))))
    (VC.split (BE.eq (IE.var 2) (IE.lit 1))
      (VC.call 11 [SV.var 0] [Base.int IntKind.i64, Base.int IntKind.i64] (SV.tuple [SV.int IntKind.i64 (IE.var 7), SV.int IntKind.i64 (IE.var 8)]) [] false [] [] [6]
        [(6, [SV.int IntKind.i64 (IE.var 2), SV.int IntKind.i64 (IE.var 3), SV.int IntKind.i64 (IE.var 4), SV.int IntKind.i64 (IE.var 5)])]
        (VC.call 39 [SV.var 1] [Base.slice, Base.int IntKind.i64, Base.int IntKind.i64] (SV.tuple [SV.var 9, SV.int IntKind.i64 (IE.var 10), SV.int IntKind.i64 (IE.var 11)]) [] false [] [] [6]
          [(6, [SV.int IntKind.i64 (IE.var 2), SV.int IntKind.i64 (IE.var 3), SV.int IntKind.i64 (IE.var 4), SV.int IntKind.i64 (IE.var 5)])]
          (VC.split (BE.eq (IE.var 7) (IE.var 10))
            (VC.call 10 [SV.int IntKind.i64 (IE.var 8)] [Base.int IntKind.i64] (SV.int IntKind.i64 (IE.var 12)) [] false [] [] [6]
              [(6, [SV.int IntKind.i64 (IE.var 2), SV.int IntKind.i64 (IE.var 3), SV.int IntKind.i64 (IE.var 4), SV.int IntKind.i64 (IE.var 5)])]
              (VC.leaf 0 [SV.tuple [SV.var 9, SV.bool (BE.eq (IE.var 12) (IE.var 11))]] []
                [(6, [SV.int IntKind.i64 (IE.var 2), SV.int IntKind.i64 (IE.var 3), SV.int IntKind.i64 (IE.var 4), SV.int IntKind.i64 (IE.var 5)])]))
            (VC.leaf 0 [SV.tuple [SV.var 9, SV.bool (BE.lit false)]] []
              [(6, [SV.int IntKind.i64 (IE.var 2), SV.int IntKind.i64 (IE.var 3), SV.int IntKind.i64 (IE.var 4), SV.int IntKind.i64 (IE.var 5)])]))))
      (VC.split (BE.eq (IE.var 2) (IE.lit 2))
        (VC.call 40 [SV.var 1, SV.int IntKind.i64 (IE.var 3)] [Base.slice, Base.int IntKind.i64] (SV.tuple [SV.var 7, SV.int IntKind.i64 (IE.var 8)]) [] false [] [] [6]
          [(6, [SV.int IntKind.i64 (IE.var 2), SV.int IntKind.i64 (IE.var 3), SV.int IntKind.i64 (IE.var 4), SV.int IntKind.i64 (IE.var 5)])]
          (VC.call 21 [SV.var 0, SV.int IntKind.i64 (IE.var 3)] [Base.int IntKind.i64] (SV.int IntKind.i64 (IE.var 9)) [] false [] [] [6]
            [(6, [SV.int IntKind.i64 (IE.var 2), SV.int IntKind.i64 (IE.var 3), SV.int IntKind.i64 (IE.var 4), SV.int IntKind.i64 (IE.var 5)])]
            (VC.call 10 [SV.int IntKind.i64 (IE.var 9)] [Base.int IntKind.i64] (SV.int IntKind.i64 (IE.var 10)) [] false [] [] [6]
              [(6, [SV.int IntKind.i64 (IE.var 2), SV.int IntKind.i64 (IE.var 3), SV.int IntKind.i64 (IE.var 4), SV.int IntKind.i64 (IE.var 5)])]
              (VC.leaf 0 [SV.tuple [SV.var 7, SV.bool (BE.eq (IE.var 10) (IE.var 8))]] []
                [(6, [SV.int IntKind.i64 (IE.var 2), SV.int IntKind.i64 (IE.var 3), SV.int IntKind.i64 (IE.var 4), SV.int IntKind.i64 (IE.var 5)])]))))
        (VC.split (BE.eq (IE.var 2) (IE.lit 3))
          (VC.call 40 [SV.var 1, SV.int IntKind.i64 (IE.var 3)] [Base.slice, Base.int IntKind.i64] (SV.tuple [SV.var 7, SV.int IntKind.i64 (IE.var 8)]) [] false [] [] [6]
            [(6, [SV.int IntKind.i64 (IE.var 2), SV.int IntKind.i64 (IE.var 3), SV.int IntKind.i64 (IE.var 4), SV.int IntKind.i64 (IE.var 5)])]
            (VC.call 21 [SV.var 0, SV.int IntKind.i64 (IE.var 3)] [Base.int IntKind.i64] (SV.int IntKind.i64 (IE.var 9)) [] false [] [] [6]
              [(6, [SV.int IntKind.i64 (IE.var 2), SV.int IntKind.i64 (IE.var 3), SV.int IntKind.i64 (IE.var 4), SV.int IntKind.i64 (IE.var 5)])]
              (VC.call 10 [SV.int IntKind.i64 (IE.var 9)] [Base.int IntKind.i64] (SV.int IntKind.i64 (IE.var 10)) [] false [] [] [6]
                [(6, [SV.int IntKind.i64 (IE.var 2), SV.int IntKind.i64 (IE.var 3), SV.int IntKind.i64 (IE.var 4), SV.int IntKind.i64 (IE.var 5)])]
                (VC.leaf 0 [SV.tuple [SV.var 7, SV.bool (BE.eq (IE.var 10) (IE.var 8))]] []
                  [(6, [SV.int IntKind.i64 (IE.var 2), SV.int IntKind.i64 (IE.var 3), SV.int IntKind.i64 (IE.var 4), SV.int IntKind.i64 (IE.var 5)])]))))
          (VC.split (BE.eq (IE.var 2) (IE.lit 4))
            (VC.call 41 [SV.var 1, SV.int IntKind.i64 (IE.var 3)] [Base.slice, Base.int IntKind.i64] (SV.tuple [SV.var 7, SV.int IntKind.i64 (IE.var 8)]) [] false [] [] [6]
              [(6, [SV.int IntKind.i64 (IE.var 2), SV.int IntKind.i64 (IE.var 3), SV.int IntKind.i64 (IE.var 4), SV.int IntKind.i64 (IE.var 5)])]
              (VC.call 12 [SV.var 0, SV.int IntKind.i64 (IE.var 3)] [Base.int IntKind.i64] (SV.int IntKind.i64 (IE.var 9)) [] false [] [] [6]
                [(6, [SV.int IntKind.i64 (IE.var 2), SV.int IntKind.i64 (IE.var 3), SV.int IntKind.i64 (IE.var 4), SV.int IntKind.i64 (IE.var 5)])]
                (VC.call 10 [SV.int IntKind.i64 (IE.var 9)] [Base.int IntKind.i64] (SV.int IntKind.i64 (IE.var 10)) [] false [] [] [6]
                  [(6, [SV.int IntKind.i64 (IE.var 2), SV.int IntKind.i64 (IE.var 3), SV.int IntKind.i64 (IE.var 4), SV.int IntKind.i64 (IE.var 5)])]
                  (VC.leaf 0 [SV.tuple [SV.var 7, SV.bool (BE.eq (IE.var 10) (IE.var 8))]] []
                    [(6, [SV.int IntKind.i64 (IE.var 2), SV.int IntKind.i64 (IE.var 3), SV.int IntKind.i64 (IE.var 4), SV.int IntKind.i64 (IE.var 5)])]))))
            (VC.split (BE.eq (IE.var 2) (IE.lit 5))
              (VC.call 41 [SV.var 1, SV.int IntKind.i64 (IE.var 3)] [Base.slice, Base.int IntKind.i64] (SV.tuple [SV.var 7, SV.int IntKind.i64 (IE.var 8)]) [] false [] [] [6]
                [(6, [SV.int IntKind.i64 (IE.var 2), SV.int IntKind.i64 (IE.var 3), SV.int IntKind.i64 (IE.var 4), SV.int IntKind.i64 (IE.var 5)])]
                (VC.call 12 [SV.var 0, SV.int IntKind.i64 (IE.var 3)] [Base.int IntKind.i64] (SV.int IntKind.i64 (IE.var 9)) [] false [] [] [6]
                  [(6, [SV.int IntKind.i64 (IE.var 2), SV.int IntKind.i64 (IE.var 3), SV.int IntKind.i64 (IE.var 4), SV.int IntKind.i64 (IE.var 5)])]
                  (VC.call 10 [SV.int IntKind.i64 (IE.var 9)] [Base.int IntKind.i64] (SV.int IntKind.i64 (IE.var 10)) [] false [] [] [6]
                    [(6, [SV.int IntKind.i64 (IE.var 2), SV.int IntKind.i64 (IE.var 3), SV.int IntKind.i64 (IE.var 4), SV.int IntKind.i64 (IE.var 5)])]
                    (VC.leaf 0 [SV.tuple [SV.var 7, SV.bool (BE.eq (IE.var 10) (IE.var 8))]] []
                      [(6, [SV.int IntKind.i64 (IE.var 2), SV.int IntKind.i64 (IE.var 3), SV.int IntKind.i64 (IE.var 4), SV.int IntKind.i64 (IE.var 5)])]))))
              (VC.split (BE.eq (IE.var 2) (IE.lit 6))
                (VC.call 42 [SV.var 1, SV.int IntKind.i64 (IE.var 3)] [Base.slice, Base.int IntKind.i64] (SV.tuple [SV.var 7, SV.int IntKind.i64 (IE.var 8)]) [] false [] [] [6]
                  [(6, [SV.int IntKind.i64 (IE.var 2), SV.int IntKind.i64 (IE.var 3), SV.int IntKind.i64 (IE.var 4), SV.int IntKind.i64 (IE.var 5)])]
                  (VC.call 22 [SV.var 0, SV.int IntKind.i64 (IE.var 3)] [Base.int IntKind.i64] (SV.int IntKind.i64 (IE.var 9)) [] false [] [] [6]
                    [(6, [SV.int IntKind.i64 (IE.var 2), SV.int IntKind.i64 (IE.var 3), SV.int IntKind.i64 (IE.var 4), SV.int IntKind.i64 (IE.var 5)])]
                    (VC.call 10 [SV.int IntKind.i64 (IE.var 9)] [Base.int IntKind.i64] (SV.int IntKind.i64 (IE.var 10)) [] false [] [] [6]
                      [(6, [SV.int IntKind.i64 (IE.var 2), SV.int IntKind.i64 (IE.var 3), SV.int IntKind.i64 (IE.var 4), SV.int IntKind.i64 (IE.var 5)])]
                      (VC.leaf 0 [SV.tuple [SV.var 7, SV.bool (BE.eq (IE.var 10) (IE.var 8))]] []
                        [(6, [SV.int IntKind.i64 (IE.var 2), SV.int IntKind.i64 (IE.var 3), SV.int IntKind.i64 (IE.var 4), SV.int IntKind.i64 (IE.var 5)])]))))
                (VC.call 43 [SV.var 1, SV.int IntKind.i64 (IE.var 3), SV.int IntKind.i64 (IE.var 4), SV.int IntKind.i64 (IE.var 5)] [Base.slice, Base.int IntKind.i64]
                  (SV.tuple [SV.var 7, SV.int IntKind.i64 (IE.var 8)]) [] false [] [] [6]
                  [(6, [SV.int IntKind.i64 (IE.var 2), SV.int IntKind.i64 (IE.var 3), SV.int IntKind.i64 (IE.var 4), SV.int IntKind.i64 (IE.var 5)])]
                  (VC.call 23 [SV.var 0, SV.int IntKind.i64 (IE.var 3), SV.int IntKind.i64 (IE.var 4), SV.int IntKind.i64 (IE.var 5)] [Base.int IntKind.i64] (SV.int IntKind.i64 (IE.var 9)) [] false []
                    [] [6] [(6, [SV.int IntKind.i64 (IE.var 2), SV.int IntKind.i64 (IE.var 3), SV.int IntKind.i64 (IE.var 4), SV.int IntKind.i64 (IE.var 5)])]
                    (VC.call 10 [SV.int IntKind.i64 (IE.var 9)] [Base.int IntKind.i64] (SV.int IntKind.i64 (IE.var 10)) [] false [] [] [6]
                      [(6, [SV.int IntKind.i64 (IE.var 2), SV.int IntKind.i64 (IE.var 3), SV.int IntKind.i64 (IE.var 4), SV.int IntKind.i64 (IE.var 5)])]
                      (VC.leaf 0 [SV.tuple [SV.var 7, SV.bool (BE.eq (IE.var 10) (IE.var 8))]] []
                        [(6, [SV.int IntKind.i64 (IE.var 2), SV.int IntKind.i64 (IE.var 3), SV.int IntKind.i64 (IE.var 4), SV.int IntKind.i64 (IE.var 5)])]))))))))))) := by kernel_rfl

theorem t16 : exFn { P := Try.prog, loops := (fun r => if Nat.beq r 2 then some ⟨1, [(5, .int .i64)], []⟩ else if Nat.beq r 7 then some ⟨2, [(6, .int .i64)], []⟩ else none), ranged := true, ranges := fun t => if Nat.beq t 64 then some ⟨3, [3, 3], [9]⟩ else none } 16 [.var 0, .var 1] [.ptr, .slice] [] =
  VC.blk
  (VC.blk
    (VC.loop 1 [SV.int IntKind.i64 (IE.lit (-1))] [Base.int IntKind.i64] [] [3, 2] [(3, [SV.bool (BE.lit false)]), (2, [SV.var 1])] [(3, [SV.bool (BE.lit false)]), (2, [SV.var 1])]
      (VC.split (BE.le (IE.var 4) (IE.len 1))
        (VC.start true [] [3, 2] [(3, [SV.bool (BE.lit false)]), (2, [SV.var 1])]
          (VC.call 24 [SV.var 0, SV.int IntKind.i64 (IE.var 4)] [Base.int IntKind.i64] (SV.int IntKind.i64 (IE.var 5)) [] true [] [] [3, 2] [(3, [SV.bool (BE.lit false)]), (2, [SV.var 1])]
            (VC.call 44 [SV.var 1, SV.int IntKind.i64 (IE.var 4)] [Base.int IntKind.i64, Base.int IntKind.i64] (SV.agg [SV.int IntKind.i64 (IE.var 6), SV.int IntKind.i64 (IE.var 7)]) [] true [] []
              [3, 2] [(3, [SV.bool (BE.lit false)]), (2, [SV.var 1])]
              (VC.split (BE.not (BE.eq (IE.var 5) (IE.var 6))) (VC.leafM 0 [SV.bool (BE.lit false)] [3] [(3, [SV.bool (BE.lit false)]), (2, [SV.var 1])])
                (VC.call 25 [SV.var 0, SV.int IntKind.i64 (IE.var 4)] [Base.int IntKind.i64] (SV.int IntKind.i64 (IE.var 8)) [] true [] [] [3, 2] [(3, [SV.bool (BE.lit false)]), (2, [SV.var 1])]
                  (VC.call 44 [SV.var 1, SV.int IntKind.i64 (IE.var 4)] [Base.int IntKind.i64, Base.int IntKind.i64] (SV.agg [SV.int IntKind.i64 (IE.var 9), SV.int IntKind.i64 (IE.var 10)]) [] true []
                    [] [3, 2] [(3, [SV.bool (BE.lit false)]), (2, [SV.var 1])]
                    (VC.split (BE.not (BE.eq (IE.var 8) (IE.var 10))) (VC.leafM 0 [SV.bool (BE.lit false)] [3] [(3, [SV.bool (BE.lit false)]), (2, [SV.var 1])])
                      (VC.ob (BE.le (IE.lit (-9223372036854775808)) (IE.add (IE.var 4) (IE.lit 1)))
                        (VC.ob (BE.le (IE.add (IE.var 4) (IE.lit 1)) (IE.lit 9223372036854775807))
                          (VC.leaf 1 [SV.int IntKind.i64 (IE.add (IE.var 4) (IE.lit 1))] [] [(3, [SV.bool (BE.lit false)]), (2, [SV.var 1])]))))))))))
        (VC.loop 2 [SV.int IntKind.i64 (IE.lit 0)] [Base.int IntKind.i64] [] [3, 2] [(3, [SV.bool (BE.lit false)]), (2, [SV.var 1])] [(3, [SV.bool (BE.lit false)]), (2, [SV.var 1])]
          (VC.split (BE.le (IE.var 5) (IE.lit 5))
            (VC.call 18 [SV.var 1, SV.int IntKind.i64 (IE.var 5)] [Base.slice] (SV.var 6) [] false [] [] [3, 2] [(3, [SV.bool (BE.lit false)]), (2, [SV.var 1])]
              (VC.blk
                (VC.call 17 [SV.var 0, SV.int IntKind.i64 (IE.var 5)] [Base.func] (SV.var 8) [] false [7] [] [7, 3, 2] [(7, [SV.var 6]), (3, [SV.bool (BE.lit false)]), (2, [SV.var 1])]
                  (VC.start true [] [7, 3, 2] [(7, [SV.var 6]), (3, [SV.bool (BE.lit false)]), (2, [SV.var 1])]
                    (VC.call 26 [SV.var 0, SV.int IntKind.i64 (IE.var 5)] [Base.int IntKind.i64] (SV.int IntKind.i64 (IE.var 9)) [] true [] [] [7, 3, 2]
                      [(7, [SV.var 6]), (3, [SV.bool (BE.lit false)]), (2, [SV.var 1])]
                      (VC.split (BE.not (BE.eq (IE.var 9) (IE.len 6))) (VC.leafM 0 [SV.bool (BE.lit false)] [3] [(7, [SV.var 6]), (3, [SV.bool (BE.lit false)]), (2, [SV.var 1])])
                        (VC.split (BE.nil 8) (VC.leafM 0 [SV.bool (BE.lit false)] [3] [(7, [SV.var 6]), (3, [SV.bool (BE.lit false)]), (2, [SV.var 1])])
                          (VC.blk
                            (VC.range 3 (SV.var 8) [Base.int IntKind.i64, Base.int IntKind.i64] [3, 3] [SV.int IntKind.i64 (IE.lit 0)] [Base.int IntKind.i64] [10] [10, 7, 3, 2]
                              [(10, [SV.int IntKind.i64 (IE.lit 0)]), (7, [SV.var 6]), (3, [SV.bool (BE.lit false)]), (2, [SV.var 1])]
                              [(10, [SV.int IntKind.i64 (IE.var 11)]), (7, [SV.var 6]), (3, [SV.bool (BE.lit false)]), (2, [SV.var 1])]
                              (VC.split (BE.le (IE.len 6) (IE.var 11))
                                (VC.resume [3] [10, 7, 3, 2] [(10, [SV.int IntKind.i64 (IE.var 11)]), (7, [SV.var 6]), (3, [SV.bool (BE.lit false)]), (2, [SV.var 1])]
                                  (VC.leafM 0 [SV.bool (BE.lit false)] [] [(10, [SV.int IntKind.i64 (IE.var 11)]), (7, [SV.var 6]), (3, [SV.bool (BE.lit false)]), (2, [SV.var 1])]))
                                (VC.ob (BE.le (IE.lit 0) (IE.var 11))
                                  (VC.ob (BE.lt (IE.var 11) (IE.len 6))
                                    (VC.ob (BE.not (BE.nil 6))
                                      (VC.start false [] [] [(10, [SV.int IntKind.i64 (IE.var 11)]), (7, [SV.var 6]), (3, [SV.bool (BE.lit false)]), (2, [SV.var 1])]
                                        (VC.load (SV.elt 6 0 (IE.var 11) 1 0) [Base.int IntKind.i64]
                                          (VC.split (BE.not (BE.eq (IE.var 12) (IE.var 14)))
                                            (VC.resume [3] [10, 7, 3, 2] [(10, [SV.int IntKind.i64 (IE.var 11)]), (7, [SV.var 6]), (3, [SV.bool (BE.lit false)]), (2, [SV.var 1])]
                                              (VC.leafM 0 [SV.bool (BE.lit false)] [] [(10, [SV.int IntKind.i64 (IE.var 11)]), (7, [SV.var 6]), (3, [SV.bool (BE.lit false)]), (2, [SV.var 1])]))
                                            (VC.ob (BE.le (IE.lit 0) (IE.var 12))
                                              (VC.ob (BE.lt (IE.var 12) (IE.len 1))
                                                (VC.ob (BE.not (BE.nil 1))
                                                  (VC.start false [] [] [(10, [SV.int IntKind.i64 (IE.var 11)]), (7, [SV.var 6]), (3, [SV.bool (BE.lit false)]), (2, [SV.var 1])]
                                                    (VC.load (SV.elt 1 0 (IE.var 12) 2 1) [Base.int IntKind.i64]
                                                      (VC.split (BE.not (BE.eq (IE.var 13) (IE.var 15)))
                                                        (VC.resume [3] [10, 7, 3, 2] [(10, [SV.int IntKind.i64 (IE.var 11)]), (7, [SV.var 6]), (3, [SV.bool (BE.lit false)]), (2, [SV.var 1])]
                                                          (VC.leafM 0 [SV.bool (BE.lit false)] []
                                                            [(10, [SV.int IntKind.i64 (IE.var 11)]), (7, [SV.var 6]), (3, [SV.bool (BE.lit false)]), (2, [SV.var 1])]))
                                                        (VC.ob (BE.le (IE.lit (-9223372036854775808)) (IE.add (IE.var 11) (IE.lit 1)))
                                                          (VC.ob (BE.le (IE.add (IE.var 11) (IE.lit 1)) (IE.lit 9223372036854775807))
                                                            (VC.leaf 3 [SV.int IntKind.i64 (IE.add (IE.var 11) (IE.lit 1))] [10]
                                                              [(10, [SV.int IntKind.i64 (IE.add (IE.var 11) (IE.lit 1))]), (7, [SV.var 6]), (3, [SV.bool (BE.lit false)]),
                                                                (2, [SV.var 1])]))))))))))))))))
                              (VC.split (BE.not (BE.eq (IE.var 11) (IE.len 6)))
                                (VC.leafM 0 [SV.bool (BE.lit false)] [3] [(10, [SV.int IntKind.i64 (IE.var 11)]), (7, [SV.var 6]), (3, [SV.bool (BE.lit false)]), (2, [SV.var 1])])
                                (VC.ob (BE.le (IE.lit (-9223372036854775808)) (IE.add (IE.var 5) (IE.lit 1)))
                                  (VC.ob (BE.le (IE.add (IE.var 5) (IE.lit 1)) (IE.lit 9223372036854775807))
                                    (VC.leaf 2 [SV.int IntKind.i64 (IE.add (IE.var 5) (IE.lit 1))] []
                                      [(10, [SV.int IntKind.i64 (IE.var 11)]), (7, [SV.var 6]), (3, [SV.bool (BE.lit false)]), (2, [SV.var 1])])))))))))))))
            (VC.call 20 [SV.var 0] [Base.int IntKind.i64, Base.bool] (SV.tuple [SV.int IntKind.i64 (IE.var 6), SV.bool (BE.var 7)]) [] false [] [] [3, 2]
              [(3, [SV.bool (BE.lit false)]), (2, [SV.var 1])]
              (VC.call 45 [SV.var 1] [Base.int IntKind.i64, Base.bool] (SV.tuple [SV.int IntKind.i64 (IE.var 8), SV.bool (BE.var 9)]) [] false [] [] [3, 2]
                [(3, [SV.bool (BE.lit false)]), (2, [SV.var 1])]
                (VC.call 13 [SV.var 0] [Base.int IntKind.i64, Base.int IntKind.i64] (SV.tuple [SV.int IntKind.i64 (IE.var 10), SV.int IntKind.i64 (IE.var 11)]) [] false [] [] [3, 2]
                  [(3, [SV.bool (BE.lit false)]), (2, [SV.var 1])]
                  (VC.call 46 [SV.var 1] [Base.int IntKind.i64, Base.int IntKind.i64] (SV.tuple [SV.int IntKind.i64 (IE.var 12), SV.int IntKind.i64 (IE.var 13)]) [] false [] [] [3, 2]
                    [(3, [SV.bool (BE.lit false)]), (2, [SV.var 1])]
                    (VC.split (BE.eq (IE.var 6) (IE.var 8))
                      (VC.split (BE.beq (BE.var 7) (BE.var 9))
                        (VC.split (BE.eq (IE.var 10) (IE.var 12)) (VC.leafM 0 [SV.bool (BE.eq (IE.var 11) (IE.var 13))] [3] [(3, [SV.bool (BE.eq (IE.var 11) (IE.var 13))]), (2, [SV.var 1])])
                          (VC.leafM 0 [SV.bool (BE.lit false)] [3] [(3, [SV.bool (BE.lit false)]), (2, [SV.var 1])]))
                        (VC.leafM 0 [SV.bool (BE.lit false)] [3] [(3, [SV.bool (BE.lit false)]), (2, [SV.var 1])]))
                      (VC.leafM 0 [SV.bool (BE.lit false)] [3] [(3, [SV.bool (BE.lit false)]), (2, [SV.var 1])]))))))))))) := by kernel_rfl

theorem t26n : exFn { P := Try.prog } 26 [.cst (.pointer none), .int .i64 (.var 0)] [.int .i64] [] =
  VC.call 30 [SV.cst (Value.pointer none)] [Base.bool] (SV.bool (BE.var 1)) [] false [] [] [] []
  (VC.split (BE.var 1) (VC.leaf 0 [SV.int IntKind.i64 (IE.lit 0)] [] [])
    (VC.split (BE.lt (IE.var 0) (IE.lit 1)) (VC.leaf 0 [SV.int IntKind.i64 (IE.lit 0)] [] [])
      (VC.split (BE.lt (IE.lit 4) (IE.var 0)) (VC.leaf 0 [SV.int IntKind.i64 (IE.lit 0)] [] []) (VC.bad "nilCheck")))) := by kernel_rfl

theorem t30n : exFn { P := Try.prog } 30 [.cst (.pointer none)] [] [] =
  VC.leaf 0 [SV.bool (BE.lit true)] [] [] := by kernel_rfl

end Go.Proofs.Ytdinjabnfjoojaa
