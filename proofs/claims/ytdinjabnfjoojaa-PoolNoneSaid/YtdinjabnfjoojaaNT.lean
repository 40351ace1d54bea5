/- What the functions of the chapter come to, printed by a program of the prover's and checked by the kernel. No conditions. -/
import Derived.Test.YtdinjabnfjoojaaSxX
import Derived.Test.YtdinjabnfjoojaaProg
import Derived.KernelRfl
set_option maxRecDepth 100000
set_option linter.unusedVariables false
namespace Go.Proofs.Ytdinjabnfjoojaa
open Go.Sx

theorem t6 : exFn { P := Try.prog, ranged := true, ranges := fun t => if Nat.beq t 37 then some ⟨1, [3, 3], []⟩ else none, joins := fun r => if Nat.beq r 4 then some ⟨2, [(5, .ptr)], []⟩ else none } 6 [.agg [.int .i64 (.var 0), .int .i64 (.var 1), .int .i64 (.var 2), .int .i64 (.var 3)], .bool (.var 4)] [.int .i64, .int .i64, .int .i64, .int .i64, .bool] [] =
  VC.blk
  (VC.blk
    (VC.cut 2 [Base.ptr] [6, 5] [(6, [SV.bool (BE.lit false)]), (5, [SV.int IntKind.i64 (IE.var 0), SV.int IntKind.i64 (IE.var 1), SV.int IntKind.i64 (IE.var 2), SV.int IntKind.i64 (IE.var 3)])]
      (VC.split (BE.var 4)
        (VC.blk
          (VC.leaf 2 [SV.ptr 7 0] []
            [(7,
                [SV.cst (Value.slice none 0 0), SV.int IntKind.i64 (IE.lit 0), SV.int IntKind.i64 (IE.lit 0), SV.int IntKind.i64 (IE.lit 0), SV.int IntKind.i64 (IE.lit 0),
                  SV.int IntKind.i64 (IE.lit 0)]),
              (6, [SV.bool (BE.lit false)]), (5, [SV.int IntKind.i64 (IE.var 0), SV.int IntKind.i64 (IE.var 1), SV.int IntKind.i64 (IE.var 2), SV.int IntKind.i64 (IE.var 3)])]))
        (VC.leaf 2 [SV.cst (Value.pointer none)] []
          [(6, [SV.bool (BE.lit false)]), (5, [SV.int IntKind.i64 (IE.var 0), SV.int IntKind.i64 (IE.var 1), SV.int IntKind.i64 (IE.var 2), SV.int IntKind.i64 (IE.var 3)])]))
      (VC.call 11 [SV.var 7] [Base.int IntKind.i64, Base.int IntKind.i64] (SV.tuple [SV.int IntKind.i64 (IE.var 8), SV.int IntKind.i64 (IE.var 9)]) [] false [] [] [6, 5]
        [(6, [SV.bool (BE.lit false)]), (5, [SV.int IntKind.i64 (IE.var 0), SV.int IntKind.i64 (IE.var 1), SV.int IntKind.i64 (IE.var 2), SV.int IntKind.i64 (IE.var 3)])]
        (VC.call 20 [SV.var 7] [Base.int IntKind.i64, Base.bool] (SV.tuple [SV.int IntKind.i64 (IE.var 10), SV.bool (BE.var 11)]) [] false [] [] [6, 5]
          [(6, [SV.bool (BE.lit false)]), (5, [SV.int IntKind.i64 (IE.var 0), SV.int IntKind.i64 (IE.var 1), SV.int IntKind.i64 (IE.var 2), SV.int IntKind.i64 (IE.var 3)])]
          (VC.call 13 [SV.var 7] [Base.int IntKind.i64, Base.int IntKind.i64] (SV.tuple [SV.int IntKind.i64 (IE.var 12), SV.int IntKind.i64 (IE.var 13)]) [] false [] [] [6, 5]
            [(6, [SV.bool (BE.lit false)]), (5, [SV.int IntKind.i64 (IE.var 0), SV.int IntKind.i64 (IE.var 1), SV.int IntKind.i64 (IE.var 2), SV.int IntKind.i64 (IE.var 3)])]
            (VC.call 17 [SV.var 7, SV.int IntKind.i64 (IE.var 2)] [Base.func] (SV.var 14) [] false [] [] [6, 5]
              [(6, [SV.bool (BE.lit false)]), (5, [SV.int IntKind.i64 (IE.var 0), SV.int IntKind.i64 (IE.var 1), SV.int IntKind.i64 (IE.var 2), SV.int IntKind.i64 (IE.var 3)])]
              (VC.split (BE.nil 14)
                (VC.leafM 0 [SV.bool (BE.lit false)] [6]
                  [(6, [SV.bool (BE.lit false)]), (5, [SV.int IntKind.i64 (IE.var 0), SV.int IntKind.i64 (IE.var 1), SV.int IntKind.i64 (IE.var 2), SV.int IntKind.i64 (IE.var 3)])])
                (VC.range 1 (SV.var 14) [Base.int IntKind.i64, Base.int IntKind.i64] [3, 3] [] [] [] [6, 5]
                  [(6, [SV.bool (BE.lit false)]), (5, [SV.int IntKind.i64 (IE.var 0), SV.int IntKind.i64 (IE.var 1), SV.int IntKind.i64 (IE.var 2), SV.int IntKind.i64 (IE.var 3)])]
                  [(6, [SV.bool (BE.lit false)]), (5, [SV.int IntKind.i64 (IE.var 0), SV.int IntKind.i64 (IE.var 1), SV.int IntKind.i64 (IE.var 2), SV.int IntKind.i64 (IE.var 3)])]
                  (VC.resume [6] [6, 5]
                    [(6, [SV.bool (BE.lit false)]), (5, [SV.int IntKind.i64 (IE.var 0), SV.int IntKind.i64 (IE.var 1), SV.int IntKind.i64 (IE.var 2), SV.int IntKind.i64 (IE.var 3)])]
                    (VC.leafM 0 [SV.bool (BE.lit false)] []
                      [(6, [SV.bool (BE.lit false)]), (5, [SV.int IntKind.i64 (IE.var 0), SV.int IntKind.i64 (IE.var 1), SV.int IntKind.i64 (IE.var 2), SV.int IntKind.i64 (IE.var 3)])]))
                  (VC.start true [] [6, 5]
                    [(6, [SV.bool (BE.lit false)]), (5, [SV.int IntKind.i64 (IE.var 0), SV.int IntKind.i64 (IE.var 1), SV.int IntKind.i64 (IE.var 2), SV.int IntKind.i64 (IE.var 3)])]
                    (VC.ob (BE.le (IE.lit (-9223372036854775808)) (IE.add (IE.var 8) (IE.var 10)))
                      (VC.ob (BE.le (IE.add (IE.var 8) (IE.var 10)) (IE.lit 9223372036854775807))
                        (VC.ob (BE.le (IE.lit (-9223372036854775808)) (IE.add (IE.add (IE.var 8) (IE.var 10)) (IE.var 12)))
                          (VC.ob (BE.le (IE.add (IE.add (IE.var 8) (IE.var 10)) (IE.var 12)) (IE.lit 9223372036854775807))
                            (VC.ob (BE.le (IE.lit (-9223372036854775808)) (IE.add (IE.add (IE.add (IE.var 8) (IE.var 10)) (IE.var 12)) (IE.var 13)))
                              (VC.ob (BE.le (IE.add (IE.add (IE.add (IE.var 8) (IE.var 10)) (IE.var 12)) (IE.var 13)) (IE.lit 9223372036854775807))
                                (VC.split (BE.eq (IE.add (IE.add (IE.add (IE.var 8) (IE.var 10)) (IE.var 12)) (IE.var 13)) (IE.lit 0))
                                  (VC.split (BE.not (BE.var 11))
                                    (VC.call 10 [SV.int IntKind.i64 (IE.var 9)] [Base.int IntKind.i64] (SV.int IntKind.i64 (IE.var 15)) [] true [] [] [6, 5]
                                      [(6, [SV.bool (BE.lit false)]), (5, [SV.int IntKind.i64 (IE.var 0), SV.int IntKind.i64 (IE.var 1), SV.int IntKind.i64 (IE.var 2), SV.int IntKind.i64 (IE.var 3)])]
                                      (VC.split (BE.eq (IE.var 15) (IE.lit 1))
                                        (VC.call 21 [SV.var 7, SV.int IntKind.i64 (IE.var 1)] [Base.int IntKind.i64] (SV.int IntKind.i64 (IE.var 16)) [] true [] [] [6, 5]
                                          [(6, [SV.bool (BE.lit false)]),
                                            (5, [SV.int IntKind.i64 (IE.var 0), SV.int IntKind.i64 (IE.var 1), SV.int IntKind.i64 (IE.var 2), SV.int IntKind.i64 (IE.var 3)])]
                                          (VC.call 10 [SV.int IntKind.i64 (IE.var 16)] [Base.int IntKind.i64] (SV.int IntKind.i64 (IE.var 17)) [] true [] [] [6, 5]
                                            [(6, [SV.bool (BE.lit false)]),
                                              (5, [SV.int IntKind.i64 (IE.var 0), SV.int IntKind.i64 (IE.var 1), SV.int IntKind.i64 (IE.var 2), SV.int IntKind.i64 (IE.var 3)])]
                                            (VC.split (BE.eq (IE.var 17) (IE.lit 1))
                                              (VC.call 12 [SV.var 7, SV.int IntKind.i64 (IE.var 1)] [Base.int IntKind.i64] (SV.int IntKind.i64 (IE.var 18)) [] true [] [] [6, 5]
                                                [(6, [SV.bool (BE.lit false)]),
                                                  (5, [SV.int IntKind.i64 (IE.var 0), SV.int IntKind.i64 (IE.var 1), SV.int IntKind.i64 (IE.var 2), SV.int IntKind.i64 (IE.var 3)])]
                                                (VC.call 10 [SV.int IntKind.i64 (IE.var 18)] [Base.int IntKind.i64] (SV.int IntKind.i64 (IE.var 19)) [] true [] [] [6, 5]
                                                  [(6, [SV.bool (BE.lit false)]),
                                                    (5, [SV.int IntKind.i64 (IE.var 0), SV.int IntKind.i64 (IE.var 1), SV.int IntKind.i64 (IE.var 2), SV.int IntKind.i64 (IE.var 3)])]
                                                  (VC.split (BE.eq (IE.var 19) (IE.lit 1))
                                                    (VC.call 22 [SV.var 7, SV.int IntKind.i64 (IE.var 1)] [Base.int IntKind.i64] (SV.int IntKind.i64 (IE.var 20)) [] true [] [] [6, 5]
                                                      [(6, [SV.bool (BE.lit false)]),
                                                        (5, [SV.int IntKind.i64 (IE.var 0), SV.int IntKind.i64 (IE.var 1), SV.int IntKind.i64 (IE.var 2), SV.int IntKind.i64 (IE.var 3)])]
                                                      (VC.call 10 [SV.int IntKind.i64 (IE.var 20)] [Base.int IntKind.i64] (SV.int IntKind.i64 (IE.var 21)) [] true [] [] [6, 5]
                                                        [(6, [SV.bool (BE.lit false)]),
                                                          (5, [SV.int IntKind.i64 (IE.var 0), SV.int IntKind.i64 (IE.var 1), SV.int IntKind.i64 (IE.var 2), SV.int IntKind.i64 (IE.var 3)])]
                                                        (VC.split (BE.eq (IE.var 21) (IE.lit 1))
                                                          (VC.call 23 [SV.var 7, SV.int IntKind.i64 (IE.var 1), SV.int IntKind.i64 (IE.var 2), SV.int IntKind.i64 (IE.var 3)] [Base.int IntKind.i64]
                                                            (SV.int IntKind.i64 (IE.var 22)) [] true [] [] [6, 5]
                                                            [(6, [SV.bool (BE.lit false)]),
                                                              (5, [SV.int IntKind.i64 (IE.var 0), SV.int IntKind.i64 (IE.var 1), SV.int IntKind.i64 (IE.var 2), SV.int IntKind.i64 (IE.var 3)])]
                                                            (VC.call 10 [SV.int IntKind.i64 (IE.var 22)] [Base.int IntKind.i64] (SV.int IntKind.i64 (IE.var 23)) [] true [] [] [6, 5]
                                                              [(6, [SV.bool (BE.lit false)]),
                                                                (5, [SV.int IntKind.i64 (IE.var 0), SV.int IntKind.i64 (IE.var 1), SV.int IntKind.i64 (IE.var 2), SV.int IntKind.i64 (IE.var 3)])]
                                                              (VC.split (BE.eq (IE.var 23) (IE.lit 1))
                                                                (VC.call 24 [SV.var 7, SV.int IntKind.i64 (IE.var 1)] [Base.int IntKind.i64] (SV.int IntKind.i64 (IE.var 24)) [] true [] [] [6, 5]
                                                                  [(6, [SV.bool (BE.lit false)]),
                                                                    (5, [SV.int IntKind.i64 (IE.var 0), SV.int IntKind.i64 (IE.var 1), SV.int IntKind.i64 (IE.var 2), SV.int IntKind.i64 (IE.var 3)])]
                                                                  (VC.split (BE.eq (IE.var 24) (IE.lit 0))
                                                                    (VC.call 25 [SV.var 7, SV.int IntKind.i64 (IE.var 1)] [Base.int IntKind.i64] (SV.int IntKind.i64 (IE.var 25)) [] true [] [] [6, 5]
                                                                      [(6, [SV.bool (BE.lit false)]),
                                                                        (5,
                                                                          [SV.int IntKind.i64 (IE.var 0), SV.int IntKind.i64 (IE.var 1), SV.int IntKind.i64 (IE.var 2), SV.int IntKind.i64 (IE.var 3)])]
                                                                      (VC.call 26 [SV.var 7, SV.int IntKind.i64 (IE.var 2)] [Base.int IntKind.i64] (SV.int IntKind.i64 (IE.var 26)) [] true [] [] [6, 5]
                                                                        [(6, [SV.bool (BE.lit false)]),
                                                                          (5,
                                                                            [SV.int IntKind.i64 (IE.var 0), SV.int IntKind.i64 (IE.var 1), SV.int IntKind.i64 (IE.var 2),
                                                                              SV.int IntKind.i64 (IE.var 3)])]
                                                                        (VC.ob (BE.le (IE.lit (-9223372036854775808)) (IE.add (IE.var 25) (IE.var 26)))
                                                                          (VC.ob (BE.le (IE.add (IE.var 25) (IE.var 26)) (IE.lit 9223372036854775807))
                                                                            (VC.split (BE.eq (IE.add (IE.var 25) (IE.var 26)) (IE.lit 0))
                                                                              (VC.call 19 [SV.var 7] [Base.ptr] (SV.var 27) [] true [] [] [6, 5]
                                                                                [(6, [SV.bool (BE.lit false)]),
                                                                                  (5,
                                                                                    [SV.int IntKind.i64 (IE.var 0), SV.int IntKind.i64 (IE.var 1), SV.int IntKind.i64 (IE.var 2),
                                                                                      SV.int IntKind.i64 (IE.var 3)])]
                                                                                (VC.split (BE.nil 27)
                                                                                  (VC.call 8 [] [Base.bool] (SV.bool (BE.var 28)) [] true [] [] [6, 5]
                                                                                    [(6, [SV.bool (BE.lit false)]),
                                                                                      (5,
                                                                                        [SV.int IntKind.i64 (IE.var 0), SV.int IntKind.i64 (IE.var 1), SV.int IntKind.i64 (IE.var 2),
                                                                                          SV.int IntKind.i64 (IE.var 3)])]
                                                                                    (VC.leafM 0 [SV.bool (BE.var 28)] [6]
                                                                                      [(6, [SV.bool (BE.var 28)]),
                                                                                        (5,
                                                                                          [SV.int IntKind.i64 (IE.var 0), SV.int IntKind.i64 (IE.var 1), SV.int IntKind.i64 (IE.var 2),
                                                                                            SV.int IntKind.i64 (IE.var 3)])]))
                                                                                  (VC.leafM 0 [SV.bool (BE.lit false)] [6]
                                                                                    [(6, [SV.bool (BE.lit false)]),
                                                                                      (5,
                                                                                        [SV.int IntKind.i64 (IE.var 0), SV.int IntKind.i64 (IE.var 1), SV.int IntKind.i64 (IE.var 2),
                                                                                          SV.int IntKind.i64 (IE.var 3)])])))
                                                                              (VC.leafM 0 [SV.bool (BE.lit false)] [6]
                                                                                [(6, [SV.bool (BE.lit false)]),
                                                                                  (5,
                                                                                    [SV.int IntKind.i64 (IE.var 0), SV.int IntKind.i64 (IE.var 1), SV.int IntKind.i64 (IE.var 2),
                                                                                      SV.int IntKind.i64 (IE.var 3)])]))))))
                                                                    (VC.leafM 0 [SV.bool (BE.lit false)] [6]
                                                                      [(6, [SV.bool (BE.lit false)]),
                                                                        (5,
                                                                          [SV.int IntKind.i64 (IE.var 0), SV.int IntKind.i64 (IE.var 1), SV.int IntKind.i64 (IE.var 2),
                                                                            SV.int IntKind.i64 (IE.var 3)])])))
                                                                (VC.leafM 0 [SV.bool (BE.lit false)] [6]
                                                                  [(6, [SV.bool (BE.lit false)]),
                                                                    (5,
                                                                      [SV.int IntKind.i64 (IE.var 0), SV.int IntKind.i64 (IE.var 1), SV.int IntKind.i64 (IE.var 2), SV.int IntKind.i64 (IE.var 3)])]))))
                                                          (VC.leafM 0 [SV.bool (BE.lit false)] [6]
                                                            [(6, [SV.bool (BE.lit false)]),
                                                              (5, [SV.int IntKind.i64 (IE.var 0), SV.int IntKind.i64 (IE.var 1), SV.int IntKind.i64 (IE.var 2), SV.int IntKind.i64 (IE.var 3)])]))))
                                                    (VC.leafM 0 [SV.bool (BE.lit false)] [6]
                                                      [(6, [SV.bool (BE.lit false)]),
                                                        (5, [SV.int IntKind.i64 (IE.var 0), SV.int IntKind.i64 (IE.var 1), SV.int IntKind.i64 (IE.var 2), SV.int IntKind.i64 (IE.var 3)])]))))
                                              (VC.leafM 0 [SV.bool (BE.lit false)] [6]
                                                [(6, [SV.bool (BE.lit false)]),
                                                  (5, [SV.int IntKind.i64 (IE.var 0), SV.int IntKind.i64 (IE.var 1), SV.int IntKind.i64 (IE.var 2), SV.int IntKind.i64 (IE.var 3)])]))))
                                        (VC.leafM 0 [SV.bool (BE.lit false)] [6]
                                          [(6, [SV.bool (BE.lit false)]),
                                            (5, [SV.int IntKind.i64 (IE.var 0), SV.int IntKind.i64 (IE.var 1), SV.int IntKind.i64 (IE.var 2), SV.int IntKind.i64 (IE.var 3)])])))
                                    (VC.leafM 0 [SV.bool (BE.lit false)] [6]
                                      [(6, [SV.bool (BE.lit false)]),
                                        (5, [SV.int IntKind.i64 (IE.var 0), SV.int IntKind.i64 (IE.var 1), SV.int IntKind.i64 (IE.var 2), SV.int IntKind.i64 (IE.var 3)])]))
                                  (VC.leafM 0 [SV.bool (BE.lit false)] [6]
                                    [(6, [SV.bool (BE.lit false)]),
                                      (5, [SV.int IntKind.i64 (IE.var 0), SV.int IntKind.i64 (IE.var 1), SV.int IntKind.i64 (IE.var 2), SV.int IntKind.i64 (IE.var 3)])]))))))))))))))))) := by kernel_rfl

theorem t11z : exFn { P := Try.prog } 11 [.var 0] [.ptr] [] =
  VC.call 30 [SV.var 0] [Base.bool] (SV.bool (BE.var 1)) [] false [] [] [] []
  (VC.split (BE.var 1) (VC.leaf 0 [SV.tuple [SV.int IntKind.i64 (IE.lit 0), SV.int IntKind.i64 (IE.lit 1)]] [] [])
    (VC.call 31 [SV.var 0, SV.int IntKind.i64 (IE.lit 1)] [Base.int IntKind.i64] (SV.int IntKind.i64 (IE.var 2)) [] false [] [] [] []
      (VC.split (BE.lt (IE.var 2) (IE.lit 0)) (VC.leaf 0 [SV.tuple [SV.int IntKind.i64 (IE.lit 0), SV.int IntKind.i64 (IE.lit 9)]] [] [])
        (VC.call 32 [SV.var 0, SV.int IntKind.i64 (IE.var 2), SV.int IntKind.i64 (IE.lit 2)] [] (SV.tuple []) [] false [] [] [] []
          (VC.leaf 0 [SV.tuple [SV.int IntKind.i64 (IE.var 2), SV.int IntKind.i64 (IE.lit 0)]] [] []))))) := by kernel_rfl

theorem t12z : exFn { P := Try.prog } 12 [.var 0, .int .i64 (.var 1)] [.ptr, .int .i64] [] =
  VC.call 33 [SV.var 0, SV.int IntKind.i64 (IE.var 1), SV.fn 34 []] [Base.int IntKind.i64] (SV.int IntKind.i64 (IE.var 2)) [] false [] [] [] []
  (VC.split (BE.eq (IE.var 2) (IE.lit 0))
    (VC.call 32 [SV.var 0, SV.int IntKind.i64 (IE.var 1), SV.int IntKind.i64 (IE.lit 1)] [] (SV.tuple []) [] false [] [] [] []
      (VC.ob (BE.not (BE.nil 0))
        (VC.start false [] [] []
          (VC.load (SV.ptr 0 0) [Base.slice]
            (VC.ob (BE.le (IE.lit 0) (IE.var 1))
              (VC.ob (BE.lt (IE.var 1) (IE.len 3))
                (VC.ob (BE.not (BE.nil 3))
                  (VC.start false [] [] []
                    (VC.load (SV.elt 3 0 (IE.var 1) 2 0) [Base.int IntKind.i64]
                      (VC.ob (BE.le (IE.lit (-9223372036854775808)) (IE.add (IE.var 4) (IE.lit 1)))
                        (VC.ob (BE.le (IE.add (IE.var 4) (IE.lit 1)) (IE.lit 9223372036854775807))
                          (VC.ob (BE.le (IE.lit 0) (IE.var 1))
                            (VC.ob (BE.lt (IE.var 1) (IE.len 3))
                              (VC.gen (Op.store 3 (Operand.tmp 26) (Operand.tmp 23)) 0
                                [(Operand.tmp 26, SV.elt 3 0 (IE.var 1) 2 0), (Operand.tmp 23, SV.int IntKind.i64 (IE.add (IE.var 4) (IE.lit 1)))] [] (SV.cst (Value.tuple #[])) [] false [] [] [] []
                                (VC.leaf 0 [SV.int IntKind.i64 (IE.var 2)] [] [])))))))))))))))
    (VC.leaf 0 [SV.int IntKind.i64 (IE.var 2)] [] [])) := by kernel_rfl

theorem t13z : exFn { P := Try.prog } 13 [.var 0] [.ptr] [] =
  VC.call 30 [SV.var 0] [Base.bool] (SV.bool (BE.var 1)) [] false [] [] [] []
  (VC.split (BE.var 1) (VC.leaf 0 [SV.tuple [SV.int IntKind.i64 (IE.lit 0), SV.int IntKind.i64 (IE.lit 0)]] [] [])
    (VC.ob (BE.not (BE.nil 0))
      (VC.start false [] [] []
        (VC.load (SV.ptr 0 0) [Base.slice]
          (VC.call 35 [SV.var 2, SV.fn 36 [], SV.fn 37 []] [Base.int IntKind.i64] (SV.int IntKind.i64 (IE.var 3)) [] false [] [] [] []
            (VC.start false [] [] []
              (VC.load (SV.ptr 0 0) [Base.slice]
                (VC.call 35 [SV.var 4, SV.fn 36 [], SV.fn 38 []] [Base.int IntKind.i64] (SV.int IntKind.i64 (IE.var 5)) [] false [] [] [] []
                  (VC.split (BE.lt (IE.var 3) (IE.lit 0)) (VC.leaf 0 [SV.tuple [SV.int IntKind.i64 (IE.lit 0), SV.int IntKind.i64 (IE.lit 0)]] [] [])
                    (VC.start true [] [] []
                      (VC.load (SV.ptr 0 0) [Base.slice]
                        (VC.ob (BE.le (IE.lit 0) (IE.var 3))
                          (VC.ob (BE.lt (IE.var 3) (IE.len 6))
                            (VC.ob (BE.not (BE.nil 6))
                              (VC.load (SV.elt 6 0 (IE.var 3) 2 0) [Base.int IntKind.i64]
                                (VC.load (SV.ptr 0 0) [Base.slice]
                                  (VC.ob (BE.le (IE.lit 0) (IE.var 5))
                                    (VC.ob (BE.lt (IE.var 5) (IE.len 8))
                                      (VC.ob (BE.not (BE.nil 8))
                                        (VC.load (SV.elt 8 0 (IE.var 5) 2 0) [Base.int IntKind.i64]
                                          (VC.leaf 0 [SV.tuple [SV.int IntKind.i64 (IE.var 7), SV.int IntKind.i64 (IE.var 9)]] [] []))))))))))))))))))))) := by kernel_rfl

theorem t21z : exFn { P := Try.prog } 21 [.var 0, .int .i64 (.var 1)] [.ptr, .int .i64] [] =
  VC.call 33 [SV.var 0, SV.int IntKind.i64 (IE.var 1), SV.fn 49 []] [Base.int IntKind.i64] (SV.int IntKind.i64 (IE.var 2)) [] false [] [] [] []
  (VC.split (BE.eq (IE.var 2) (IE.lit 0))
    (VC.call 32 [SV.var 0, SV.int IntKind.i64 (IE.var 1), SV.int IntKind.i64 (IE.lit 3)] [] (SV.tuple []) [] false [] [] [] [] (VC.leaf 0 [SV.int IntKind.i64 (IE.var 2)] [] []))
    (VC.leaf 0 [SV.int IntKind.i64 (IE.var 2)] [] [])) := by kernel_rfl

theorem t22z : exFn { P := Try.prog } 22 [.var 0, .int .i64 (.var 1)] [.ptr, .int .i64] [] =
  VC.call 33 [SV.var 0, SV.int IntKind.i64 (IE.var 1), SV.fn 36 []] [Base.int IntKind.i64] (SV.int IntKind.i64 (IE.var 2)) [] false [] [] [] []
  (VC.split (BE.eq (IE.var 2) (IE.lit 0))
    (VC.call 32 [SV.var 0, SV.int IntKind.i64 (IE.var 1), SV.int IntKind.i64 (IE.lit 4)] [] (SV.tuple []) [] false [] [] [] [] (VC.leaf 0 [SV.int IntKind.i64 (IE.var 2)] [] []))
    (VC.leaf 0 [SV.int IntKind.i64 (IE.var 2)] [] [])) := by kernel_rfl

theorem t23z : exFn { P := Try.prog } 23 [.var 0, .int .i64 (.var 1), .int .i64 (.var 2), .int .i64 (.var 3)] [.ptr, .int .i64, .int .i64, .int .i64] [] =
  VC.call 30 [SV.var 0] [Base.bool] (SV.bool (BE.var 4)) [] false [] [] [] []
  (VC.split (BE.var 4) (VC.leaf 0 [SV.int IntKind.i64 (IE.lit 1)] [] [])
    (VC.split (BE.lt (IE.var 2) (IE.lit 1)) (VC.leaf 0 [SV.int IntKind.i64 (IE.lit 2)] [] [])
      (VC.split (BE.lt (IE.lit 4) (IE.var 2)) (VC.leaf 0 [SV.int IntKind.i64 (IE.lit 2)] [] [])
        (VC.call 29 [SV.int IntKind.i64 (IE.var 3)] [Base.bool] (SV.bool (BE.var 5)) [] false [] [] [] []
          (VC.split (BE.not (BE.var 5)) (VC.leaf 0 [SV.int IntKind.i64 (IE.lit 2)] [] [])
            (VC.call 50 [SV.var 0, SV.int IntKind.i64 (IE.var 1)] [Base.bool] (SV.bool (BE.var 6)) [] false [] [] [] []
              (VC.split (BE.not (BE.var 6)) (VC.leaf 0 [SV.int IntKind.i64 (IE.lit 3)] [] [])
                (VC.call 32 [SV.var 0, SV.int IntKind.i64 (IE.var 1), SV.int IntKind.i64 (IE.var 2)] [] (SV.tuple []) [] false [] [] [] []
                  (VC.ob (BE.not (BE.nil 0))
                    (VC.start false [] [] []
                      (VC.load (SV.ptr 0 0) [Base.slice]
                        (VC.ob (BE.le (IE.lit 0) (IE.var 1))
                          (VC.ob (BE.lt (IE.var 1) (IE.len 7))
                            (VC.ob (BE.not (BE.nil 7))
                              (VC.gen (Op.store 3 (Operand.tmp 41) (Operand.tmp 38)) 0 [(Operand.tmp 41, SV.elt 7 0 (IE.var 1) 2 0), (Operand.tmp 38, SV.int IntKind.i64 (IE.var 3))] []
                                (SV.cst (Value.tuple #[])) [] false [] [] [] [] (VC.leaf 0 [SV.int IntKind.i64 (IE.lit 0)] [] [])))))))))))))))) := by kernel_rfl

theorem t25z : exFn { P := Try.prog } 25 [.var 0, .int .i64 (.var 1)] [.ptr, .int .i64] [] =
  VC.split (BE.nil 0) (VC.leaf 0 [SV.int IntKind.i64 (IE.lit 0)] [] [])
  (VC.call 50 [SV.var 0, SV.int IntKind.i64 (IE.var 1)] [Base.bool] (SV.bool (BE.var 2)) [] false [] [] [] []
    (VC.split (BE.not (BE.var 2)) (VC.leaf 0 [SV.int IntKind.i64 (IE.lit 0)] [] [])
      (VC.start false [] [] []
        (VC.load (SV.ptr 0 0) [Base.slice]
          (VC.ob (BE.le (IE.lit 0) (IE.var 1))
            (VC.ob (BE.lt (IE.var 1) (IE.len 3))
              (VC.ob (BE.not (BE.nil 3)) (VC.start false [] [] [] (VC.load (SV.elt 3 0 (IE.var 1) 2 0) [Base.int IntKind.i64] (VC.leaf 0 [SV.int IntKind.i64 (IE.var 4)] [] [])))))))))) := by kernel_rfl

theorem t26z : exFn { P := Try.prog } 26 [.var 0, .int .i64 (.var 1)] [.ptr, .int .i64] [] =
  VC.call 30 [SV.var 0] [Base.bool] (SV.bool (BE.var 2)) [] false [] [] [] []
  (VC.split (BE.var 2) (VC.leaf 0 [SV.int IntKind.i64 (IE.lit 0)] [] [])
    (VC.split (BE.lt (IE.var 1) (IE.lit 1)) (VC.leaf 0 [SV.int IntKind.i64 (IE.lit 0)] [] [])
      (VC.split (BE.lt (IE.lit 4) (IE.var 1)) (VC.leaf 0 [SV.int IntKind.i64 (IE.lit 0)] [] [])
        (VC.ob (BE.not (BE.nil 0))
          (VC.ob (BE.le (IE.lit 0) (IE.var 1))
            (VC.ob (BE.lt (IE.var 1) (IE.lit 5)) (VC.start false [] [] [] (VC.load (SV.elt 0 1 (IE.var 1) 1 0) [Base.int IntKind.i64] (VC.leaf 0 [SV.int IntKind.i64 (IE.var 3)] [] []))))))))) := by kernel_rfl

end Go.Proofs.Ytdinjabnfjoojaa
