/- What the functions of the chapter come to, printed by a program of the prover's and checked by the kernel. No conditions. -/
import Derived.Test.YtfjimghpjopgoaaSxX
import Derived.Test.YtfjimghpjopgoaaProg
import Derived.KernelRfl
set_option maxRecDepth 100000
set_option linter.unusedVariables false
namespace Go.Proofs.Ytfjimghpjopgoaa
open Go.Sx

theorem t45 : exFn { P := Try.prog, loops := fun r => if Nat.beq r 2 then some ⟨1, [(13, .int .i64)], []⟩ else none } 45 [.var 0, .ptr 1 0] [.func, .ptr] [] =
  VC.start false [] [] []
  (VC.load (SV.ptr 1 0) [Base.ptr]
    (VC.split (BE.nil 2) (VC.leaf 0 [SV.tuple []] [] [])
      (VC.start false [] [] []
        (VC.load (SV.ptr 1 0) [Base.ptr]
          (VC.ob (BE.not (BE.nil 3))
            (VC.start false [] [] []
              (VC.load (SV.ptr 3 0) [Base.slice]
                (VC.loop 1 [SV.int IntKind.i64 (IE.lit 0)] [Base.int IntKind.i64] [] [] [] []
                  (VC.split (BE.lt (IE.var 5) (IE.len 4))
                    (VC.ob (BE.le (IE.lit 0) (IE.var 5))
                      (VC.ob (BE.lt (IE.var 5) (IE.len 4))
                        (VC.ob (BE.not (BE.nil 4))
                          (VC.start false [] [] []
                            (VC.load (SV.elt 4 0 (IE.var 5) 4 0) [Base.int IntKind.i64, Base.int IntKind.i64, Base.int IntKind.i64, Base.bool]
                              (VC.blk
                                (VC.start true [10] [10] [(10, [SV.int IntKind.i64 (IE.var 6), SV.int IntKind.i64 (IE.var 7), SV.int IntKind.i64 (IE.var 8), SV.bool (BE.var 9)])]
                                  (VC.load (SV.ptr 1 0) [Base.ptr]
                                    (VC.ob (BE.not (BE.nil 11))
                                      (VC.call 36 [SV.ptr 11 0, SV.int IntKind.i64 (IE.var 5)] [Base.bool] (SV.bool (BE.var 12)) [] true [] [] [10]
                                        [(10, [SV.int IntKind.i64 (IE.var 6), SV.int IntKind.i64 (IE.var 7), SV.int IntKind.i64 (IE.var 8), SV.bool (BE.var 9)])]
                                        (VC.gen (Op.call { callee := Callee.value (Operand.tmp 18), args := { toList := [Operand.tmp 20, Operand.tmp 25] }, argTypes := { toList := [3, 4] } }) 4
                                          [(Operand.tmp 18, SV.var 0), (Operand.tmp 20, SV.int IntKind.i64 (IE.var 6)), (Operand.tmp 25, SV.bool (BE.var 12))] [Base.bool] (SV.bool (BE.var 13)) [] true
                                          [] [] [10] [(10, [SV.int IntKind.i64 (IE.var 6), SV.int IntKind.i64 (IE.var 7), SV.int IntKind.i64 (IE.var 8), SV.bool (BE.var 9)])]
                                          (VC.split (BE.not (BE.var 13))
                                            (VC.leaf 0 [SV.tuple []] [] [(10, [SV.int IntKind.i64 (IE.var 6), SV.int IntKind.i64 (IE.var 7), SV.int IntKind.i64 (IE.var 8), SV.bool (BE.var 9)])])
                                            (VC.ob (BE.le (IE.lit (-9223372036854775808)) (IE.add (IE.var 5) (IE.lit 1)))
                                              (VC.ob (BE.le (IE.add (IE.var 5) (IE.lit 1)) (IE.lit 9223372036854775807))
                                                (VC.leaf 1 [SV.int IntKind.i64 (IE.add (IE.var 5) (IE.lit 1))] []
                                                  [(10, [SV.int IntKind.i64 (IE.var 6), SV.int IntKind.i64 (IE.var 7), SV.int IntKind.i64 (IE.var 8), SV.bool (BE.var 9)])])))))))))))))))
                    (VC.leaf 0 [SV.tuple []] [] [])))))))))) := by kernel_rfl

theorem t25n : exFn { P := Try.prog } 25 [.cst (.pointer none)] [] [] =
  VC.call 24 [SV.cst (Value.pointer none)] [Base.ptr] (SV.var 0) [] false [] [] [] [] (VC.blk (VC.leaf 0 [SV.fn 45 [SV.ptr 1 0]] [1] [(1, [SV.var 0])])) := by kernel_rfl

theorem t24n : exFn { P := Try.prog } 24 [.cst (.pointer none)] [] [] =
  VC.leaf 0 [SV.cst (Value.pointer none)] [] [] := by kernel_rfl

theorem t21n : exFn { P := Try.prog } 21 [.cst (.pointer none)] [] [] =
  VC.blk (VC.leaf 0 [SV.tuple [SV.int IntKind.i64 (IE.lit 0), SV.int IntKind.i64 (IE.lit 1)]] [] [(0, [SV.cst (Value.pointer none)])]) := by kernel_rfl

theorem t22n : exFn { P := Try.prog } 22 [.cst (.pointer none), .int .i64 (.var 0)] [.int .i64] [] =
  VC.call 35 [SV.cst (Value.pointer none), SV.int IntKind.i64 (IE.var 0)] [Base.int IntKind.i64, Base.int IntKind.i64] (SV.tuple [SV.int IntKind.i64 (IE.var 1), SV.int IntKind.i64 (IE.var 2)]) [] false
  [] [] [] [] (VC.split (BE.eq (IE.var 2) (IE.lit 0)) (VC.bad "nilCheck") (VC.leaf 0 [SV.tuple [SV.bool (BE.lit false), SV.int IntKind.i64 (IE.var 2)]] [] [])) := by kernel_rfl

theorem t35n : exFn { P := Try.prog } 35 [.cst (.pointer none), .int .i64 (.var 0)] [.int .i64] [] =
  VC.leaf 0 [SV.tuple [SV.int IntKind.i64 (IE.lit 0), SV.int IntKind.i64 (IE.lit 1)]] [] [] := by kernel_rfl

theorem t18n : exFn { P := Try.prog } 18 [.cst (.pointer none), .int .i64 (.var 0), .bool (.var 1), .int .i64 (.var 2)] [.int .i64, .bool, .int .i64] [] =
  VC.call 22 [SV.cst (Value.pointer none), SV.int IntKind.i64 (IE.var 0)] [Base.bool, Base.int IntKind.i64] (SV.tuple [SV.bool (BE.var 3), SV.int IntKind.i64 (IE.var 4)]) [] false [] [] [] []
  (VC.split (BE.beq (BE.var 3) (BE.var 1))
    (VC.call 15 [SV.int IntKind.i64 (IE.var 4)] [Base.int IntKind.i64] (SV.int IntKind.i64 (IE.var 5)) [] false [] [] [] [] (VC.leaf 0 [SV.bool (BE.eq (IE.var 5) (IE.var 2))] [] []))
    (VC.leaf 0 [SV.bool (BE.lit false)] [] [])) := by kernel_rfl

theorem t19n : exFn { P := Try.prog } 19 [.cst (.pointer none), .int .i64 (.var 0)] [.int .i64] [] =
  VC.call 35 [SV.cst (Value.pointer none), SV.int IntKind.i64 (IE.var 0)] [Base.int IntKind.i64, Base.int IntKind.i64] (SV.tuple [SV.int IntKind.i64 (IE.var 1), SV.int IntKind.i64 (IE.var 2)]) [] false
  [] [] [] [] (VC.split (BE.not (BE.eq (IE.var 2) (IE.lit 0))) (VC.leaf 0 [SV.int IntKind.i64 (IE.var 2)] [] []) (VC.bad "nilCheck")) := by kernel_rfl

theorem t29n : exFn { P := Try.prog } 29 [.cst (.pointer none), .int .i64 (.var 0)] [.int .i64] [] =
  VC.call 35 [SV.cst (Value.pointer none), SV.int IntKind.i64 (IE.var 0)] [Base.int IntKind.i64, Base.int IntKind.i64] (SV.tuple [SV.int IntKind.i64 (IE.var 1), SV.int IntKind.i64 (IE.var 2)]) [] false
  [] [] [] []
  (VC.split (BE.eq (IE.var 2) (IE.lit 0))
    (VC.call 37 [SV.cst (Value.pointer none), SV.int IntKind.i64 (IE.var 1)] [] (SV.tuple []) [] false [] [] [] [] (VC.leaf 0 [SV.int IntKind.i64 (IE.var 2)] [] []))
    (VC.leaf 0 [SV.int IntKind.i64 (IE.var 2)] [] [])) := by kernel_rfl

theorem t17n : exFn { P := Try.prog } 17 [.cst (.pointer none)] [] [] =
  VC.leaf 0 [SV.int IntKind.i64 (IE.lit 0)] [] [] := by kernel_rfl

theorem t16n : exFn { P := Try.prog } 16 [.cst (.pointer none), .int .i64 (.var 0), .int .i64 (.var 1), .int .i64 (.var 2), .bool (.var 3)] [.int .i64, .int .i64, .int .i64, .bool] [] =
  VC.leaf 0 [SV.int IntKind.i64 (IE.lit 1)] [] [] := by kernel_rfl

theorem t26 : exFn { P := Try.prog, ranged := true, ranges := fun t => if Nat.beq t 15 then some ⟨1, [3, 4], [8]⟩ else none } 26 [.var 0, .agg [.var 1], .int .i64 (.var 2)] [.ptr, .slice, .int .i64] [] =
  VC.blk
  (VC.blk
    (VC.blk
      (VC.call 25 [SV.var 0] [Base.func] (SV.var 6) [] false [] [] [5, 4, 3] [(5, [SV.bool (BE.lit false)]), (4, [SV.int IntKind.i64 (IE.var 2)]), (3, [SV.var 1])]
        (VC.split (BE.nil 6) (VC.leafM 0 [SV.bool (BE.lit false)] [5] [(5, [SV.bool (BE.lit false)]), (4, [SV.int IntKind.i64 (IE.var 2)]), (3, [SV.var 1])])
          (VC.blk
            (VC.range 1 (SV.var 6) [Base.int IntKind.i64, Base.bool] [3, 4] [SV.int IntKind.i64 (IE.lit 0)] [Base.int IntKind.i64] [7] [7, 5, 4, 3]
              [(7, [SV.int IntKind.i64 (IE.lit 0)]), (5, [SV.bool (BE.lit false)]), (4, [SV.int IntKind.i64 (IE.var 2)]), (3, [SV.var 1])]
              [(7, [SV.int IntKind.i64 (IE.var 8)]), (5, [SV.bool (BE.lit false)]), (4, [SV.int IntKind.i64 (IE.var 2)]), (3, [SV.var 1])]
              (VC.split (BE.le (IE.len 1) (IE.var 8))
                (VC.resume [5] [7, 5, 4, 3] [(7, [SV.int IntKind.i64 (IE.var 8)]), (5, [SV.bool (BE.lit false)]), (4, [SV.int IntKind.i64 (IE.var 2)]), (3, [SV.var 1])]
                  (VC.leafM 0 [SV.bool (BE.lit false)] [] [(7, [SV.int IntKind.i64 (IE.var 8)]), (5, [SV.bool (BE.lit false)]), (4, [SV.int IntKind.i64 (IE.var 2)]), (3, [SV.var 1])]))
                (VC.ob (BE.le (IE.lit 0) (IE.var 8))
                  (VC.ob (BE.lt (IE.var 8) (IE.len 1))
                    (VC.ob (BE.not (BE.nil 1))
                      (VC.start false [] [] [(7, [SV.int IntKind.i64 (IE.var 8)]), (5, [SV.bool (BE.lit false)]), (4, [SV.int IntKind.i64 (IE.var 2)]), (3, [SV.var 1])]
                        (VC.load (SV.elt 1 0 (IE.var 8) 4 0) [Base.int IntKind.i64]
                          (VC.split (BE.not (BE.eq (IE.var 9) (IE.var 11)))
                            (VC.resume [5] [7, 5, 4, 3] [(7, [SV.int IntKind.i64 (IE.var 8)]), (5, [SV.bool (BE.lit false)]), (4, [SV.int IntKind.i64 (IE.var 2)]), (3, [SV.var 1])]
                              (VC.leafM 0 [SV.bool (BE.lit false)] [] [(7, [SV.int IntKind.i64 (IE.var 8)]), (5, [SV.bool (BE.lit false)]), (4, [SV.int IntKind.i64 (IE.var 2)]), (3, [SV.var 1])]))
                            (VC.call 27 [SV.agg [SV.var 1], SV.int IntKind.i64 (IE.var 8)] [Base.bool] (SV.bool (BE.var 12)) [] false [] [] [7, 5, 4, 3]
                              [(7, [SV.int IntKind.i64 (IE.var 8)]), (5, [SV.bool (BE.lit false)]), (4, [SV.int IntKind.i64 (IE.var 2)]), (3, [SV.var 1])]
                              (VC.split (BE.not (BE.beq (BE.var 10) (BE.var 12)))
                                (VC.resume [5] [7, 5, 4, 3] [(7, [SV.int IntKind.i64 (IE.var 8)]), (5, [SV.bool (BE.lit false)]), (4, [SV.int IntKind.i64 (IE.var 2)]), (3, [SV.var 1])]
                                  (VC.leafM 0 [SV.bool (BE.lit false)] [] [(7, [SV.int IntKind.i64 (IE.var 8)]), (5, [SV.bool (BE.lit false)]), (4, [SV.int IntKind.i64 (IE.var 2)]), (3, [SV.var 1])]))
                                (VC.ob (BE.le (IE.lit (-9223372036854775808)) (IE.add (IE.var 8) (IE.lit 1)))
                                  (VC.ob (BE.le (IE.add (IE.var 8) (IE.lit 1)) (IE.lit 9223372036854775807))
                                    (VC.split (BE.le (IE.var 2) (IE.add (IE.var 8) (IE.lit 1)))
                                      (VC.resume [7] [7, 5, 4, 3]
                                        [(7, [SV.int IntKind.i64 (IE.add (IE.var 8) (IE.lit 1))]), (5, [SV.bool (BE.lit false)]), (4, [SV.int IntKind.i64 (IE.var 2)]), (3, [SV.var 1])]
                                        (VC.leafM 0 [SV.bool (BE.eq (IE.add (IE.var 8) (IE.lit 1)) (IE.min (IE.len 1) (IE.max (IE.lit 1) (IE.var 2))))] [5]
                                          [(7, [SV.int IntKind.i64 (IE.add (IE.var 8) (IE.lit 1))]),
                                            (5, [SV.bool (BE.eq (IE.add (IE.var 8) (IE.lit 1)) (IE.min (IE.len 1) (IE.max (IE.lit 1) (IE.var 2))))]), (4, [SV.int IntKind.i64 (IE.var 2)]),
                                            (3, [SV.var 1])]))
                                      (VC.leaf 1 [SV.int IntKind.i64 (IE.add (IE.var 8) (IE.lit 1))] [7]
                                        [(7, [SV.int IntKind.i64 (IE.add (IE.var 8) (IE.lit 1))]), (5, [SV.bool (BE.lit false)]), (4, [SV.int IntKind.i64 (IE.var 2)]), (3, [SV.var 1])])))))))))))))
              (VC.leafM 0 [SV.bool (BE.eq (IE.var 8) (IE.min (IE.len 1) (IE.max (IE.lit 1) (IE.var 2))))] [5]
                [(7, [SV.int IntKind.i64 (IE.var 8)]), (5, [SV.bool (BE.eq (IE.var 8) (IE.min (IE.len 1) (IE.max (IE.lit 1) (IE.var 2))))]), (4, [SV.int IntKind.i64 (IE.var 2)]),
                  (3, [SV.var 1])]))))))) := by kernel_rfl

theorem t26n : exFn { P := Try.prog, ranged := true, ranges := fun t => if Nat.beq t 15 then some ⟨1, [3, 4], [8]⟩ else none } 26 [.cst (.pointer none), .agg [.var 0], .int .i64 (.var 1)] [.slice, .int .i64] [] =
  VC.blk
  (VC.blk
    (VC.blk
      (VC.call 25 [SV.cst (Value.pointer none)] [Base.func] (SV.var 5) [] false [] [] [4, 3, 2] [(4, [SV.bool (BE.lit false)]), (3, [SV.int IntKind.i64 (IE.var 1)]), (2, [SV.var 0])]
        (VC.split (BE.nil 5) (VC.leafM 0 [SV.bool (BE.lit false)] [4] [(4, [SV.bool (BE.lit false)]), (3, [SV.int IntKind.i64 (IE.var 1)]), (2, [SV.var 0])])
          (VC.blk
            (VC.range 1 (SV.var 5) [Base.int IntKind.i64, Base.bool] [3, 4] [SV.int IntKind.i64 (IE.lit 0)] [Base.int IntKind.i64] [6] [6, 4, 3, 2]
              [(6, [SV.int IntKind.i64 (IE.lit 0)]), (4, [SV.bool (BE.lit false)]), (3, [SV.int IntKind.i64 (IE.var 1)]), (2, [SV.var 0])]
              [(6, [SV.int IntKind.i64 (IE.var 7)]), (4, [SV.bool (BE.lit false)]), (3, [SV.int IntKind.i64 (IE.var 1)]), (2, [SV.var 0])]
              (VC.split (BE.le (IE.len 0) (IE.var 7))
                (VC.resume [4] [6, 4, 3, 2] [(6, [SV.int IntKind.i64 (IE.var 7)]), (4, [SV.bool (BE.lit false)]), (3, [SV.int IntKind.i64 (IE.var 1)]), (2, [SV.var 0])]
                  (VC.leafM 0 [SV.bool (BE.lit false)] [] [(6, [SV.int IntKind.i64 (IE.var 7)]), (4, [SV.bool (BE.lit false)]), (3, [SV.int IntKind.i64 (IE.var 1)]), (2, [SV.var 0])]))
                (VC.ob (BE.le (IE.lit 0) (IE.var 7))
                  (VC.ob (BE.lt (IE.var 7) (IE.len 0))
                    (VC.ob (BE.not (BE.nil 0))
                      (VC.start false [] [] [(6, [SV.int IntKind.i64 (IE.var 7)]), (4, [SV.bool (BE.lit false)]), (3, [SV.int IntKind.i64 (IE.var 1)]), (2, [SV.var 0])]
                        (VC.load (SV.elt 0 0 (IE.var 7) 4 0) [Base.int IntKind.i64]
                          (VC.split (BE.not (BE.eq (IE.var 8) (IE.var 10)))
                            (VC.resume [4] [6, 4, 3, 2] [(6, [SV.int IntKind.i64 (IE.var 7)]), (4, [SV.bool (BE.lit false)]), (3, [SV.int IntKind.i64 (IE.var 1)]), (2, [SV.var 0])]
                              (VC.leafM 0 [SV.bool (BE.lit false)] [] [(6, [SV.int IntKind.i64 (IE.var 7)]), (4, [SV.bool (BE.lit false)]), (3, [SV.int IntKind.i64 (IE.var 1)]), (2, [SV.var 0])]))
                            (VC.call 27 [SV.agg [SV.var 0], SV.int IntKind.i64 (IE.var 7)] [Base.bool] (SV.bool (BE.var 11)) [] false [] [] [6, 4, 3, 2]
                              [(6, [SV.int IntKind.i64 (IE.var 7)]), (4, [SV.bool (BE.lit false)]), (3, [SV.int IntKind.i64 (IE.var 1)]), (2, [SV.var 0])]
                              (VC.split (BE.not (BE.beq (BE.var 9) (BE.var 11)))
                                (VC.resume [4] [6, 4, 3, 2] [(6, [SV.int IntKind.i64 (IE.var 7)]), (4, [SV.bool (BE.lit false)]), (3, [SV.int IntKind.i64 (IE.var 1)]), (2, [SV.var 0])]
                                  (VC.leafM 0 [SV.bool (BE.lit false)] [] [(6, [SV.int IntKind.i64 (IE.var 7)]), (4, [SV.bool (BE.lit false)]), (3, [SV.int IntKind.i64 (IE.var 1)]), (2, [SV.var 0])]))
                                (VC.ob (BE.le (IE.lit (-9223372036854775808)) (IE.add (IE.var 7) (IE.lit 1)))
                                  (VC.ob (BE.le (IE.add (IE.var 7) (IE.lit 1)) (IE.lit 9223372036854775807))
                                    (VC.split (BE.le (IE.var 1) (IE.add (IE.var 7) (IE.lit 1)))
                                      (VC.resume [6] [6, 4, 3, 2]
                                        [(6, [SV.int IntKind.i64 (IE.add (IE.var 7) (IE.lit 1))]), (4, [SV.bool (BE.lit false)]), (3, [SV.int IntKind.i64 (IE.var 1)]), (2, [SV.var 0])]
                                        (VC.leafM 0 [SV.bool (BE.eq (IE.add (IE.var 7) (IE.lit 1)) (IE.min (IE.len 0) (IE.max (IE.lit 1) (IE.var 1))))] [4]
                                          [(6, [SV.int IntKind.i64 (IE.add (IE.var 7) (IE.lit 1))]),
                                            (4, [SV.bool (BE.eq (IE.add (IE.var 7) (IE.lit 1)) (IE.min (IE.len 0) (IE.max (IE.lit 1) (IE.var 1))))]), (3, [SV.int IntKind.i64 (IE.var 1)]),
                                            (2, [SV.var 0])]))
                                      (VC.leaf 1 [SV.int IntKind.i64 (IE.add (IE.var 7) (IE.lit 1))] [6]
                                        [(6, [SV.int IntKind.i64 (IE.add (IE.var 7) (IE.lit 1))]), (4, [SV.bool (BE.lit false)]), (3, [SV.int IntKind.i64 (IE.var 1)]), (2, [SV.var 0])])))))))))))))
              (VC.leafM 0 [SV.bool (BE.eq (IE.var 7) (IE.min (IE.len 0) (IE.max (IE.lit 1) (IE.var 1))))] [4]
                [(6, [SV.int IntKind.i64 (IE.var 7)]), (4, [SV.bool (BE.eq (IE.var 7) (IE.min (IE.len 0) (IE.max (IE.lit 1) (IE.var 1))))]), (3, [SV.int IntKind.i64 (IE.var 1)]),
                  (2, [SV.var 0])]))))))) := by kernel_rfl

theorem t8 : exFn { P := Try.prog } 8 [.agg [.int .i64 (.var 0), .int .i64 (.var 1), .int .i64 (.var 2), .int .i64 (.var 3), .bool (.var 4)]] [.int .i64, .int .i64, .int .i64, .int .i64, .bool] [] =
  VC.blk
  (VC.call 21 [SV.cst (Value.pointer none)] [Base.int IntKind.i64, Base.int IntKind.i64] (SV.tuple [SV.int IntKind.i64 (IE.var 6), SV.int IntKind.i64 (IE.var 7)]) [] false [] [] [5]
    [(5, [SV.int IntKind.i64 (IE.var 0), SV.int IntKind.i64 (IE.var 1), SV.int IntKind.i64 (IE.var 2), SV.int IntKind.i64 (IE.var 3), SV.bool (BE.var 4)])]
    (VC.call 16 [SV.cst (Value.pointer none), SV.int IntKind.i64 (IE.var 1), SV.int IntKind.i64 (IE.var 2), SV.int IntKind.i64 (IE.var 3), SV.bool (BE.var 4)] [Base.int IntKind.i64]
      (SV.int IntKind.i64 (IE.var 8)) [] false [] [] [5]
      [(5, [SV.int IntKind.i64 (IE.var 0), SV.int IntKind.i64 (IE.var 1), SV.int IntKind.i64 (IE.var 2), SV.int IntKind.i64 (IE.var 3), SV.bool (BE.var 4)])]
      (VC.call 15 [SV.int IntKind.i64 (IE.var 8)] [Base.int IntKind.i64] (SV.int IntKind.i64 (IE.var 9)) [] false [] [] [5]
        [(5, [SV.int IntKind.i64 (IE.var 0), SV.int IntKind.i64 (IE.var 1), SV.int IntKind.i64 (IE.var 2), SV.int IntKind.i64 (IE.var 3), SV.bool (BE.var 4)])]
        (VC.split (BE.eq (IE.var 9) (IE.lit 1))
          (VC.call 18 [SV.cst (Value.pointer none), SV.int IntKind.i64 (IE.var 1), SV.bool (BE.lit false), SV.int IntKind.i64 (IE.lit 1)] [Base.bool] (SV.bool (BE.var 10)) [] false [] [] [5]
            [(5, [SV.int IntKind.i64 (IE.var 0), SV.int IntKind.i64 (IE.var 1), SV.int IntKind.i64 (IE.var 2), SV.int IntKind.i64 (IE.var 3), SV.bool (BE.var 4)])]
            (VC.split (BE.var 10)
              (VC.call 15 [SV.int IntKind.i64 (IE.var 7)] [Base.int IntKind.i64] (SV.int IntKind.i64 (IE.var 11)) [] false [] [] [5]
                [(5, [SV.int IntKind.i64 (IE.var 0), SV.int IntKind.i64 (IE.var 1), SV.int IntKind.i64 (IE.var 2), SV.int IntKind.i64 (IE.var 3), SV.bool (BE.var 4)])]
                (VC.split (BE.eq (IE.var 11) (IE.lit 1))
                  (VC.call 19 [SV.cst (Value.pointer none), SV.int IntKind.i64 (IE.var 1)] [Base.int IntKind.i64] (SV.int IntKind.i64 (IE.var 12)) [] false [] [] [5]
                    [(5, [SV.int IntKind.i64 (IE.var 0), SV.int IntKind.i64 (IE.var 1), SV.int IntKind.i64 (IE.var 2), SV.int IntKind.i64 (IE.var 3), SV.bool (BE.var 4)])]
                    (VC.call 15 [SV.int IntKind.i64 (IE.var 12)] [Base.int IntKind.i64] (SV.int IntKind.i64 (IE.var 13)) [] false [] [] [5]
                      [(5, [SV.int IntKind.i64 (IE.var 0), SV.int IntKind.i64 (IE.var 1), SV.int IntKind.i64 (IE.var 2), SV.int IntKind.i64 (IE.var 3), SV.bool (BE.var 4)])]
                      (VC.split (BE.eq (IE.var 13) (IE.lit 1))
                        (VC.call 29 [SV.cst (Value.pointer none), SV.int IntKind.i64 (IE.var 1)] [Base.int IntKind.i64] (SV.int IntKind.i64 (IE.var 14)) [] false [] [] [5]
                          [(5, [SV.int IntKind.i64 (IE.var 0), SV.int IntKind.i64 (IE.var 1), SV.int IntKind.i64 (IE.var 2), SV.int IntKind.i64 (IE.var 3), SV.bool (BE.var 4)])]
                          (VC.call 15 [SV.int IntKind.i64 (IE.var 14)] [Base.int IntKind.i64] (SV.int IntKind.i64 (IE.var 15)) [] false [] [] [5]
                            [(5, [SV.int IntKind.i64 (IE.var 0), SV.int IntKind.i64 (IE.var 1), SV.int IntKind.i64 (IE.var 2), SV.int IntKind.i64 (IE.var 3), SV.bool (BE.var 4)])]
                            (VC.split (BE.eq (IE.var 15) (IE.lit 1))
                              (VC.call 17 [SV.cst (Value.pointer none)] [Base.int IntKind.i64] (SV.int IntKind.i64 (IE.var 16)) [] false [] [] [5]
                                [(5, [SV.int IntKind.i64 (IE.var 0), SV.int IntKind.i64 (IE.var 1), SV.int IntKind.i64 (IE.var 2), SV.int IntKind.i64 (IE.var 3), SV.bool (BE.var 4)])]
                                (VC.split (BE.eq (IE.var 16) (IE.lit 0))
                                  (VC.call 26 [SV.cst (Value.pointer none), SV.agg [SV.cst (Value.slice none 0 0)], SV.int IntKind.i64 (IE.lit 9)] [Base.bool] (SV.bool (BE.var 17)) [] false [] [] [5]
                                    [(5, [SV.int IntKind.i64 (IE.var 0), SV.int IntKind.i64 (IE.var 1), SV.int IntKind.i64 (IE.var 2), SV.int IntKind.i64 (IE.var 3), SV.bool (BE.var 4)])]
                                    (VC.split (BE.var 17)
                                      (VC.call 24 [SV.cst (Value.pointer none)] [Base.ptr] (SV.var 18) [] false [] [] [5]
                                        [(5, [SV.int IntKind.i64 (IE.var 0), SV.int IntKind.i64 (IE.var 1), SV.int IntKind.i64 (IE.var 2), SV.int IntKind.i64 (IE.var 3), SV.bool (BE.var 4)])]
                                        (VC.split (BE.nil 18)
                                          (VC.call 9 [] [Base.bool] (SV.bool (BE.var 19)) [] false [] [] [5]
                                            [(5, [SV.int IntKind.i64 (IE.var 0), SV.int IntKind.i64 (IE.var 1), SV.int IntKind.i64 (IE.var 2), SV.int IntKind.i64 (IE.var 3), SV.bool (BE.var 4)])]
                                            (VC.leaf 0 [SV.bool (BE.var 19)] []
                                              [(5, [SV.int IntKind.i64 (IE.var 0), SV.int IntKind.i64 (IE.var 1), SV.int IntKind.i64 (IE.var 2), SV.int IntKind.i64 (IE.var 3), SV.bool (BE.var 4)])]))
                                          (VC.leaf 0 [SV.bool (BE.lit false)] []
                                            [(5, [SV.int IntKind.i64 (IE.var 0), SV.int IntKind.i64 (IE.var 1), SV.int IntKind.i64 (IE.var 2), SV.int IntKind.i64 (IE.var 3), SV.bool (BE.var 4)])])))
                                      (VC.leaf 0 [SV.bool (BE.lit false)] []
                                        [(5, [SV.int IntKind.i64 (IE.var 0), SV.int IntKind.i64 (IE.var 1), SV.int IntKind.i64 (IE.var 2), SV.int IntKind.i64 (IE.var 3), SV.bool (BE.var 4)])])))
                                  (VC.leaf 0 [SV.bool (BE.lit false)] []
                                    [(5, [SV.int IntKind.i64 (IE.var 0), SV.int IntKind.i64 (IE.var 1), SV.int IntKind.i64 (IE.var 2), SV.int IntKind.i64 (IE.var 3), SV.bool (BE.var 4)])])))
                              (VC.leaf 0 [SV.bool (BE.lit false)] []
                                [(5, [SV.int IntKind.i64 (IE.var 0), SV.int IntKind.i64 (IE.var 1), SV.int IntKind.i64 (IE.var 2), SV.int IntKind.i64 (IE.var 3), SV.bool (BE.var 4)])]))))
                        (VC.leaf 0 [SV.bool (BE.lit false)] []
                          [(5, [SV.int IntKind.i64 (IE.var 0), SV.int IntKind.i64 (IE.var 1), SV.int IntKind.i64 (IE.var 2), SV.int IntKind.i64 (IE.var 3), SV.bool (BE.var 4)])]))))
                  (VC.leaf 0 [SV.bool (BE.lit false)] []
                    [(5, [SV.int IntKind.i64 (IE.var 0), SV.int IntKind.i64 (IE.var 1), SV.int IntKind.i64 (IE.var 2), SV.int IntKind.i64 (IE.var 3), SV.bool (BE.var 4)])])))
              (VC.leaf 0 [SV.bool (BE.lit false)] []
                [(5, [SV.int IntKind.i64 (IE.var 0), SV.int IntKind.i64 (IE.var 1), SV.int IntKind.i64 (IE.var 2), SV.int IntKind.i64 (IE.var 3), SV.bool (BE.var 4)])])))
          (VC.leaf 0 [SV.bool (BE.lit false)] []
            [(5, [SV.int IntKind.i64 (IE.var 0), SV.int IntKind.i64 (IE.var 1), SV.int IntKind.i64 (IE.var 2), SV.int IntKind.i64 (IE.var 3), SV.bool (BE.var 4)])]))))) := by kernel_rfl

end Go.Proofs.Ytfjimghpjopgoaa
