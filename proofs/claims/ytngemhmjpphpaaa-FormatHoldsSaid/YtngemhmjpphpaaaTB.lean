/- What the functions of the chapter come to, printed by a program of the prover's and checked by the kernel. No conditions. -/
import Derived.Test.YtngemhmjpphpaaaSxX
import Derived.Test.YtngemhmjpphpaaaProg
import Derived.KernelRfl
set_option maxRecDepth 100000
set_option linter.unusedVariables false
namespace Go.Proofs.Ytngemhmjpphpaaa
open Go.Sx

theorem t4 : exFn { P := Try.prog, loops := fun r => if Nat.beq r 8 then some ⟨1, [(19, .int .i64)], []⟩ else none } 4 [.agg [.int .i64 (.var 0), .int .i64 (.var 1), .bool (.var 2), .int .i64 (.var 3), .bool (.var 4)], .int .i64 (.var 5), .bool (.var 6), .var 7, .var 8] [.int .i64, .int .i64, .bool, .int .i64, .bool, .int .i64, .bool, .slice, .slice] [] =
  VC.blk
  (VC.split (BE.lt (IE.lit 20000) (IE.len 7))
    (VC.call 19 [] [Base.bool] (SV.bool (BE.var 10)) [] false [] [] [9]
      [(9, [SV.int IntKind.i64 (IE.var 0), SV.int IntKind.i64 (IE.var 1), SV.bool (BE.var 2), SV.int IntKind.i64 (IE.var 3), SV.bool (BE.var 4)])]
      (VC.leaf 0 [SV.bool (BE.var 10)] [] [(9, [SV.int IntKind.i64 (IE.var 0), SV.int IntKind.i64 (IE.var 1), SV.bool (BE.var 2), SV.int IntKind.i64 (IE.var 3), SV.bool (BE.var 4)])]))
    (VC.split (BE.lt (IE.lit 20000) (IE.len 8))
      (VC.call 19 [] [Base.bool] (SV.bool (BE.var 10)) [] false [] [] [9]
        [(9, [SV.int IntKind.i64 (IE.var 0), SV.int IntKind.i64 (IE.var 1), SV.bool (BE.var 2), SV.int IntKind.i64 (IE.var 3), SV.bool (BE.var 4)])]
        (VC.leaf 0 [SV.bool (BE.var 10)] [] [(9, [SV.int IntKind.i64 (IE.var 0), SV.int IntKind.i64 (IE.var 1), SV.bool (BE.var 2), SV.int IntKind.i64 (IE.var 3), SV.bool (BE.var 4)])]))
      (VC.call 20
        [SV.agg [SV.int IntKind.i64 (IE.var 0), SV.int IntKind.i64 (IE.var 1), SV.bool (BE.var 2), SV.int IntKind.i64 (IE.var 3), SV.bool (BE.var 4)], SV.int IntKind.i64 (IE.var 5),
          SV.bool (BE.var 6)]
        [Base.int IntKind.i64, Base.int IntKind.i64, Base.int IntKind.i64] (SV.tuple [SV.int IntKind.i64 (IE.var 10), SV.int IntKind.i64 (IE.var 11), SV.int IntKind.i64 (IE.var 12)]) [] false [] []
        [9] [(9, [SV.int IntKind.i64 (IE.var 0), SV.int IntKind.i64 (IE.var 1), SV.bool (BE.var 2), SV.int IntKind.i64 (IE.var 3), SV.bool (BE.var 4)])]
        (VC.blk
          (VC.gen (Op.call { callee := Callee.builtin Builtin.append, args := #[Operand.tmp 37, Operand.tmp 38], argTypes := #[40, 40] }) 40
            [(Operand.tmp 37, SV.slc 13 0 0 0), (Operand.tmp 38, SV.var 7)] [Base.slice] (SV.var 14) [] false [] [] [13, 9]
            [(13, []), (9, [SV.int IntKind.i64 (IE.var 0), SV.int IntKind.i64 (IE.var 1), SV.bool (BE.var 2), SV.int IntKind.i64 (IE.var 3), SV.bool (BE.var 4)])]
            (VC.call 21
              [SV.agg [SV.int IntKind.i64 (IE.var 0), SV.int IntKind.i64 (IE.var 1), SV.bool (BE.var 2), SV.int IntKind.i64 (IE.var 3), SV.bool (BE.var 4)], SV.int IntKind.i64 (IE.var 5),
                SV.bool (BE.var 6), SV.var 14, SV.var 8]
              [Base.slice, Base.int IntKind.i64] (SV.tuple [SV.var 15, SV.int IntKind.i64 (IE.var 16)]) [] false [] [] [13, 9]
              [(13, []), (9, [SV.int IntKind.i64 (IE.var 0), SV.int IntKind.i64 (IE.var 1), SV.bool (BE.var 2), SV.int IntKind.i64 (IE.var 3), SV.bool (BE.var 4)])]
              (VC.call 22
                [SV.agg [SV.int IntKind.i64 (IE.var 0), SV.int IntKind.i64 (IE.var 1), SV.bool (BE.var 2), SV.int IntKind.i64 (IE.var 3), SV.bool (BE.var 4)], SV.int IntKind.i64 (IE.var 5),
                  SV.bool (BE.var 6), SV.var 7, SV.var 8]
                [Base.slice, Base.int IntKind.i64] (SV.tuple [SV.var 17, SV.int IntKind.i64 (IE.var 18)]) [] false [] [] [13, 9]
                [(13, []), (9, [SV.int IntKind.i64 (IE.var 0), SV.int IntKind.i64 (IE.var 1), SV.bool (BE.var 2), SV.int IntKind.i64 (IE.var 3), SV.bool (BE.var 4)])]
                (VC.loop 1 [SV.int IntKind.i64 (IE.lit 0)] [Base.int IntKind.i64] [] [13, 9]
                  [(13, []), (9, [SV.int IntKind.i64 (IE.var 0), SV.int IntKind.i64 (IE.var 1), SV.bool (BE.var 2), SV.int IntKind.i64 (IE.var 3), SV.bool (BE.var 4)])]
                  [(13, []), (9, [SV.int IntKind.i64 (IE.var 0), SV.int IntKind.i64 (IE.var 1), SV.bool (BE.var 2), SV.int IntKind.i64 (IE.var 3), SV.bool (BE.var 4)])]
                  (VC.split (BE.lt (IE.var 19) (IE.len 14))
                    (VC.ob (BE.le (IE.lit 0) (IE.var 19))
                      (VC.ob (BE.lt (IE.var 19) (IE.len 14))
                        (VC.ob (BE.not (BE.nil 14))
                          (VC.start false [] [] [(13, []), (9, [SV.int IntKind.i64 (IE.var 0), SV.int IntKind.i64 (IE.var 1), SV.bool (BE.var 2), SV.int IntKind.i64 (IE.var 3), SV.bool (BE.var 4)])]
                            (VC.load (SV.elt 14 0 (IE.var 19) 1 0) [Base.int IntKind.u8]
                              (VC.ob (BE.le (IE.lit 0) (IE.var 19))
                                (VC.ob (BE.lt (IE.var 19) (IE.len 14))
                                  (VC.gen (Op.store 5 (Operand.tmp 69) (Operand.tmp 68)) 0
                                    [(Operand.tmp 69, SV.elt 14 0 (IE.var 19) 1 0), (Operand.tmp 68, SV.int IntKind.u8 (IE.wrap IntKind.u8 (IE.add (IE.var 20) (IE.lit 1))))] []
                                    (SV.cst (Value.tuple #[])) [] false [] [] [13, 9]
                                    [(13, []), (9, [SV.int IntKind.i64 (IE.var 0), SV.int IntKind.i64 (IE.var 1), SV.bool (BE.var 2), SV.int IntKind.i64 (IE.var 3), SV.bool (BE.var 4)])]
                                    (VC.ob (BE.le (IE.lit (-9223372036854775808)) (IE.add (IE.var 19) (IE.lit 1)))
                                      (VC.ob (BE.le (IE.add (IE.var 19) (IE.lit 1)) (IE.lit 9223372036854775807))
                                        (VC.leaf 1 [SV.int IntKind.i64 (IE.add (IE.var 19) (IE.lit 1))] []
                                          [(13, []),
                                            (9, [SV.int IntKind.i64 (IE.var 0), SV.int IntKind.i64 (IE.var 1), SV.bool (BE.var 2), SV.int IntKind.i64 (IE.var 3), SV.bool (BE.var 4)])])))))))))))
                    (VC.call 23
                      [SV.agg [SV.int IntKind.i64 (IE.var 0), SV.int IntKind.i64 (IE.var 1), SV.bool (BE.var 2), SV.int IntKind.i64 (IE.var 3), SV.bool (BE.var 4)], SV.int IntKind.i64 (IE.var 5),
                        SV.bool (BE.var 6), SV.int IntKind.i64 (IE.var 10), SV.int IntKind.i64 (IE.var 11), SV.int IntKind.i64 (IE.var 12)]
                      [Base.bool] (SV.bool (BE.var 20)) [] false [] [] [13, 9]
                      [(13, []), (9, [SV.int IntKind.i64 (IE.var 0), SV.int IntKind.i64 (IE.var 1), SV.bool (BE.var 2), SV.int IntKind.i64 (IE.var 3), SV.bool (BE.var 4)])]
                      (VC.split (BE.var 20)
                        (VC.call 24 [SV.var 15, SV.var 17] [Base.bool] (SV.bool (BE.var 21)) [] false [] [] [13, 9]
                          [(13, []), (9, [SV.int IntKind.i64 (IE.var 0), SV.int IntKind.i64 (IE.var 1), SV.bool (BE.var 2), SV.int IntKind.i64 (IE.var 3), SV.bool (BE.var 4)])]
                          (VC.split (BE.var 21)
                            (VC.call 18 [SV.int IntKind.i64 (IE.var 16)] [Base.int IntKind.i64] (SV.int IntKind.i64 (IE.var 22)) [] false [] [] [13, 9]
                              [(13, []), (9, [SV.int IntKind.i64 (IE.var 0), SV.int IntKind.i64 (IE.var 1), SV.bool (BE.var 2), SV.int IntKind.i64 (IE.var 3), SV.bool (BE.var 4)])]
                              (VC.split (BE.eq (IE.var 22) (IE.var 18))
                                (VC.call 19 [] [Base.bool] (SV.bool (BE.var 23)) [] false [] [] [13, 9]
                                  [(13, []), (9, [SV.int IntKind.i64 (IE.var 0), SV.int IntKind.i64 (IE.var 1), SV.bool (BE.var 2), SV.int IntKind.i64 (IE.var 3), SV.bool (BE.var 4)])]
                                  (VC.leaf 0 [SV.bool (BE.var 23)] []
                                    [(13, []), (9, [SV.int IntKind.i64 (IE.var 0), SV.int IntKind.i64 (IE.var 1), SV.bool (BE.var 2), SV.int IntKind.i64 (IE.var 3), SV.bool (BE.var 4)])]))
                                (VC.leaf 0 [SV.bool (BE.lit false)] []
                                  [(13, []), (9, [SV.int IntKind.i64 (IE.var 0), SV.int IntKind.i64 (IE.var 1), SV.bool (BE.var 2), SV.int IntKind.i64 (IE.var 3), SV.bool (BE.var 4)])])))
                            (VC.leaf 0 [SV.bool (BE.lit false)] []
                              [(13, []), (9, [SV.int IntKind.i64 (IE.var 0), SV.int IntKind.i64 (IE.var 1), SV.bool (BE.var 2), SV.int IntKind.i64 (IE.var 3), SV.bool (BE.var 4)])])))
                        (VC.leaf 0 [SV.bool (BE.lit false)] []
                          [(13, []), (9, [SV.int IntKind.i64 (IE.var 0), SV.int IntKind.i64 (IE.var 1), SV.bool (BE.var 2), SV.int IntKind.i64 (IE.var 3), SV.bool (BE.var 4)])])))))))))))) := by kernel_rfl

theorem t7 : exFn { P := Try.prog } 7 [.agg [.int .i64 (.var 0), .int .i64 (.var 1), .bool (.var 2), .int .i64 (.var 3), .bool (.var 4)], .bool (.var 5), .var 6] [.int .i64, .int .i64, .bool, .int .i64, .bool, .bool, .slice] [] =
  VC.blk
  (VC.call 27 [SV.var 6] [Base.bool] (SV.bool (BE.var 8)) [] false [] [] [7]
    [(7, [SV.int IntKind.i64 (IE.var 0), SV.int IntKind.i64 (IE.var 1), SV.bool (BE.var 2), SV.int IntKind.i64 (IE.var 3), SV.bool (BE.var 4)])]
    (VC.split (BE.not (BE.var 8))
      (VC.call 19 [] [Base.bool] (SV.bool (BE.var 9)) [] false [] [] [7]
        [(7, [SV.int IntKind.i64 (IE.var 0), SV.int IntKind.i64 (IE.var 1), SV.bool (BE.var 2), SV.int IntKind.i64 (IE.var 3), SV.bool (BE.var 4)])]
        (VC.leaf 0 [SV.bool (BE.var 9)] [] [(7, [SV.int IntKind.i64 (IE.var 0), SV.int IntKind.i64 (IE.var 1), SV.bool (BE.var 2), SV.int IntKind.i64 (IE.var 3), SV.bool (BE.var 4)])]))
      (VC.call 28 [SV.agg [SV.int IntKind.i64 (IE.var 0), SV.int IntKind.i64 (IE.var 1), SV.bool (BE.var 2), SV.int IntKind.i64 (IE.var 3), SV.bool (BE.var 4)], SV.bool (BE.var 5), SV.var 6]
        [Base.slice, Base.slice, Base.int IntKind.i64] (SV.tuple [SV.var 9, SV.var 10, SV.int IntKind.i64 (IE.var 11)]) [] false [] [] [7]
        [(7, [SV.int IntKind.i64 (IE.var 0), SV.int IntKind.i64 (IE.var 1), SV.bool (BE.var 2), SV.int IntKind.i64 (IE.var 3), SV.bool (BE.var 4)])]
        (VC.call 29 [SV.agg [SV.int IntKind.i64 (IE.var 0), SV.int IntKind.i64 (IE.var 1), SV.bool (BE.var 2), SV.int IntKind.i64 (IE.var 3), SV.bool (BE.var 4)], SV.bool (BE.var 5), SV.var 6]
          [Base.slice, Base.slice, Base.int IntKind.i64] (SV.tuple [SV.var 12, SV.var 13, SV.int IntKind.i64 (IE.var 14)]) [] false [] [] [7]
          [(7, [SV.int IntKind.i64 (IE.var 0), SV.int IntKind.i64 (IE.var 1), SV.bool (BE.var 2), SV.int IntKind.i64 (IE.var 3), SV.bool (BE.var 4)])]
          (VC.start false [] [] [(7, [SV.int IntKind.i64 (IE.var 0), SV.int IntKind.i64 (IE.var 1), SV.bool (BE.var 2), SV.int IntKind.i64 (IE.var 3), SV.bool (BE.var 4)])]
            (VC.pur (Op.convert 40 9 (Operand.tmp 33)) 9 [(Operand.tmp 33, SV.var 9)] [Base.any] (SV.var 15)
              (VC.start false [] [] [(7, [SV.int IntKind.i64 (IE.var 0), SV.int IntKind.i64 (IE.var 1), SV.bool (BE.var 2), SV.int IntKind.i64 (IE.var 3), SV.bool (BE.var 4)])]
                (VC.pur (Op.convert 40 9 (Operand.tmp 35)) 9 [(Operand.tmp 35, SV.var 12)] [Base.any] (SV.var 16)
                  (VC.start false [] [] [(7, [SV.int IntKind.i64 (IE.var 0), SV.int IntKind.i64 (IE.var 1), SV.bool (BE.var 2), SV.int IntKind.i64 (IE.var 3), SV.bool (BE.var 4)])]
                    (VC.pur (Op.binOp BinOp.eql 9 (Operand.tmp 34) (Operand.tmp 36) 9) 4 [(Operand.tmp 34, SV.var 15), (Operand.tmp 36, SV.var 16)] [Base.bool] (SV.bool (BE.var 17))
                      (VC.split (BE.var 17)
                        (VC.start false [] [] [(7, [SV.int IntKind.i64 (IE.var 0), SV.int IntKind.i64 (IE.var 1), SV.bool (BE.var 2), SV.int IntKind.i64 (IE.var 3), SV.bool (BE.var 4)])]
                          (VC.pur (Op.convert 40 9 (Operand.tmp 39)) 9 [(Operand.tmp 39, SV.var 10)] [Base.any] (SV.var 18)
                            (VC.start false [] [] [(7, [SV.int IntKind.i64 (IE.var 0), SV.int IntKind.i64 (IE.var 1), SV.bool (BE.var 2), SV.int IntKind.i64 (IE.var 3), SV.bool (BE.var 4)])]
                              (VC.pur (Op.convert 40 9 (Operand.tmp 41)) 9 [(Operand.tmp 41, SV.var 13)] [Base.any] (SV.var 19)
                                (VC.start false [] [] [(7, [SV.int IntKind.i64 (IE.var 0), SV.int IntKind.i64 (IE.var 1), SV.bool (BE.var 2), SV.int IntKind.i64 (IE.var 3), SV.bool (BE.var 4)])]
                                  (VC.pur (Op.binOp BinOp.eql 9 (Operand.tmp 40) (Operand.tmp 42) 9) 4 [(Operand.tmp 40, SV.var 18), (Operand.tmp 42, SV.var 19)] [Base.bool] (SV.bool (BE.var 20))
                                    (VC.split (BE.var 20)
                                      (VC.call 18 [SV.int IntKind.i64 (IE.var 11)] [Base.int IntKind.i64] (SV.int IntKind.i64 (IE.var 21)) [] false [] [] [7]
                                        [(7, [SV.int IntKind.i64 (IE.var 0), SV.int IntKind.i64 (IE.var 1), SV.bool (BE.var 2), SV.int IntKind.i64 (IE.var 3), SV.bool (BE.var 4)])]
                                        (VC.split (BE.eq (IE.var 21) (IE.var 14))
                                          (VC.call 19 [] [Base.bool] (SV.bool (BE.var 22)) [] false [] [] [7]
                                            [(7, [SV.int IntKind.i64 (IE.var 0), SV.int IntKind.i64 (IE.var 1), SV.bool (BE.var 2), SV.int IntKind.i64 (IE.var 3), SV.bool (BE.var 4)])]
                                            (VC.leaf 0 [SV.bool (BE.var 22)] []
                                              [(7, [SV.int IntKind.i64 (IE.var 0), SV.int IntKind.i64 (IE.var 1), SV.bool (BE.var 2), SV.int IntKind.i64 (IE.var 3), SV.bool (BE.var 4)])]))
                                          (VC.leaf 0 [SV.bool (BE.lit false)] []
                                            [(7, [SV.int IntKind.i64 (IE.var 0), SV.int IntKind.i64 (IE.var 1), SV.bool (BE.var 2), SV.int IntKind.i64 (IE.var 3), SV.bool (BE.var 4)])])))
                                      (VC.leaf 0 [SV.bool (BE.lit false)] []
                                        [(7, [SV.int IntKind.i64 (IE.var 0), SV.int IntKind.i64 (IE.var 1), SV.bool (BE.var 2), SV.int IntKind.i64 (IE.var 3), SV.bool (BE.var 4)])]))))))))
                        (VC.leaf 0 [SV.bool (BE.lit false)] []
                          [(7, [SV.int IntKind.i64 (IE.var 0), SV.int IntKind.i64 (IE.var 1), SV.bool (BE.var 2), SV.int IntKind.i64 (IE.var 3), SV.bool (BE.var 4)])])))))))))))) := by kernel_rfl

theorem t8 : exFn { P := Try.prog, loops := fun r => if Nat.beq r 9 then some ⟨1, [(16, .int .i64)], []⟩ else none } 8 [.agg [.int .i64 (.var 0), .int .i64 (.var 1), .bool (.var 2), .int .i64 (.var 3), .bool (.var 4)], .var 5, .var 6] [.int .i64, .int .i64, .bool, .int .i64, .bool, .slice, .slice] [] =
  VC.blk
  (VC.call 27 [SV.var 5] [Base.bool] (SV.bool (BE.var 8)) [] false [] [] [7]
    [(7, [SV.int IntKind.i64 (IE.var 0), SV.int IntKind.i64 (IE.var 1), SV.bool (BE.var 2), SV.int IntKind.i64 (IE.var 3), SV.bool (BE.var 4)])]
    (VC.split (BE.not (BE.var 8))
      (VC.call 19 [] [Base.bool] (SV.bool (BE.var 9)) [] false [] [] [7]
        [(7, [SV.int IntKind.i64 (IE.var 0), SV.int IntKind.i64 (IE.var 1), SV.bool (BE.var 2), SV.int IntKind.i64 (IE.var 3), SV.bool (BE.var 4)])]
        (VC.leaf 0 [SV.bool (BE.var 9)] [] [(7, [SV.int IntKind.i64 (IE.var 0), SV.int IntKind.i64 (IE.var 1), SV.bool (BE.var 2), SV.int IntKind.i64 (IE.var 3), SV.bool (BE.var 4)])]))
      (VC.split (BE.lt (IE.lit 5000) (IE.len 6))
        (VC.call 19 [] [Base.bool] (SV.bool (BE.var 9)) [] false [] [] [7]
          [(7, [SV.int IntKind.i64 (IE.var 0), SV.int IntKind.i64 (IE.var 1), SV.bool (BE.var 2), SV.int IntKind.i64 (IE.var 3), SV.bool (BE.var 4)])]
          (VC.leaf 0 [SV.bool (BE.var 9)] [] [(7, [SV.int IntKind.i64 (IE.var 0), SV.int IntKind.i64 (IE.var 1), SV.bool (BE.var 2), SV.int IntKind.i64 (IE.var 3), SV.bool (BE.var 4)])]))
        (VC.call 30 [SV.agg [SV.int IntKind.i64 (IE.var 0), SV.int IntKind.i64 (IE.var 1), SV.bool (BE.var 2), SV.int IntKind.i64 (IE.var 3), SV.bool (BE.var 4)], SV.var 5]
          [Base.slice, Base.int IntKind.i64] (SV.tuple [SV.var 9, SV.int IntKind.i64 (IE.var 10)]) [] false [] [] [7]
          [(7, [SV.int IntKind.i64 (IE.var 0), SV.int IntKind.i64 (IE.var 1), SV.bool (BE.var 2), SV.int IntKind.i64 (IE.var 3), SV.bool (BE.var 4)])]
          (VC.call 31 [SV.agg [SV.int IntKind.i64 (IE.var 0), SV.int IntKind.i64 (IE.var 1), SV.bool (BE.var 2), SV.int IntKind.i64 (IE.var 3), SV.bool (BE.var 4)], SV.var 5]
            [Base.slice, Base.int IntKind.i64] (SV.tuple [SV.var 11, SV.int IntKind.i64 (IE.var 12)]) [] false [] [] [7]
            [(7, [SV.int IntKind.i64 (IE.var 0), SV.int IntKind.i64 (IE.var 1), SV.bool (BE.var 2), SV.int IntKind.i64 (IE.var 3), SV.bool (BE.var 4)])]
            (VC.blk
              (VC.gen (Op.call { callee := Callee.builtin Builtin.append, args := #[Operand.tmp 38, Operand.tmp 39], argTypes := #[40, 40] }) 40
                [(Operand.tmp 38, SV.slc 13 0 0 0), (Operand.tmp 39, SV.var 6)] [Base.slice] (SV.var 14) [] false [] [] [13, 7]
                [(13, []), (7, [SV.int IntKind.i64 (IE.var 0), SV.int IntKind.i64 (IE.var 1), SV.bool (BE.var 2), SV.int IntKind.i64 (IE.var 3), SV.bool (BE.var 4)])]
                (VC.call 32 [SV.agg [SV.int IntKind.i64 (IE.var 0), SV.int IntKind.i64 (IE.var 1), SV.bool (BE.var 2), SV.int IntKind.i64 (IE.var 3), SV.bool (BE.var 4)], SV.var 14]
                  [Base.slice, Base.int IntKind.i64] (SV.tuple [SV.var 15, SV.int IntKind.i64 (IE.var 16)]) [] false [] [] [13, 7]
                  [(13, []), (7, [SV.int IntKind.i64 (IE.var 0), SV.int IntKind.i64 (IE.var 1), SV.bool (BE.var 2), SV.int IntKind.i64 (IE.var 3), SV.bool (BE.var 4)])]
                  (VC.call 33 [SV.agg [SV.int IntKind.i64 (IE.var 0), SV.int IntKind.i64 (IE.var 1), SV.bool (BE.var 2), SV.int IntKind.i64 (IE.var 3), SV.bool (BE.var 4)], SV.var 6]
                    [Base.slice, Base.int IntKind.i64] (SV.tuple [SV.var 17, SV.int IntKind.i64 (IE.var 18)]) [] false [] [] [13, 7]
                    [(13, []), (7, [SV.int IntKind.i64 (IE.var 0), SV.int IntKind.i64 (IE.var 1), SV.bool (BE.var 2), SV.int IntKind.i64 (IE.var 3), SV.bool (BE.var 4)])]
                    (VC.loop 1 [SV.int IntKind.i64 (IE.lit 0)] [Base.int IntKind.i64] [] [13, 7]
                      [(13, []), (7, [SV.int IntKind.i64 (IE.var 0), SV.int IntKind.i64 (IE.var 1), SV.bool (BE.var 2), SV.int IntKind.i64 (IE.var 3), SV.bool (BE.var 4)])]
                      [(13, []), (7, [SV.int IntKind.i64 (IE.var 0), SV.int IntKind.i64 (IE.var 1), SV.bool (BE.var 2), SV.int IntKind.i64 (IE.var 3), SV.bool (BE.var 4)])]
                      (VC.split (BE.lt (IE.var 19) (IE.len 14))
                        (VC.ob (BE.le (IE.lit 0) (IE.var 19))
                          (VC.ob (BE.lt (IE.var 19) (IE.len 14))
                            (VC.ob (BE.not (BE.nil 14))
                              (VC.start false [] []
                                [(13, []), (7, [SV.int IntKind.i64 (IE.var 0), SV.int IntKind.i64 (IE.var 1), SV.bool (BE.var 2), SV.int IntKind.i64 (IE.var 3), SV.bool (BE.var 4)])]
                                (VC.load (SV.elt 14 0 (IE.var 19) 1 0) [Base.int IntKind.u8]
                                  (VC.ob (BE.le (IE.lit 0) (IE.var 19))
                                    (VC.ob (BE.lt (IE.var 19) (IE.len 14))
                                      (VC.gen (Op.store 5 (Operand.tmp 64) (Operand.tmp 63)) 0
                                        [(Operand.tmp 64, SV.elt 14 0 (IE.var 19) 1 0), (Operand.tmp 63, SV.int IntKind.u8 (IE.wrap IntKind.u8 (IE.add (IE.var 20) (IE.lit 1))))] []
                                        (SV.cst (Value.tuple #[])) [] false [] [] [13, 7]
                                        [(13, []), (7, [SV.int IntKind.i64 (IE.var 0), SV.int IntKind.i64 (IE.var 1), SV.bool (BE.var 2), SV.int IntKind.i64 (IE.var 3), SV.bool (BE.var 4)])]
                                        (VC.ob (BE.le (IE.lit (-9223372036854775808)) (IE.add (IE.var 19) (IE.lit 1)))
                                          (VC.ob (BE.le (IE.add (IE.var 19) (IE.lit 1)) (IE.lit 9223372036854775807))
                                            (VC.leaf 1 [SV.int IntKind.i64 (IE.add (IE.var 19) (IE.lit 1))] []
                                              [(13, []),
                                                (7, [SV.int IntKind.i64 (IE.var 0), SV.int IntKind.i64 (IE.var 1), SV.bool (BE.var 2), SV.int IntKind.i64 (IE.var 3), SV.bool (BE.var 4)])])))))))))))
                        (VC.start false [] [] [(13, []), (7, [SV.int IntKind.i64 (IE.var 0), SV.int IntKind.i64 (IE.var 1), SV.bool (BE.var 2), SV.int IntKind.i64 (IE.var 3), SV.bool (BE.var 4)])]
                          (VC.pur (Op.convert 40 9 (Operand.tmp 65)) 9 [(Operand.tmp 65, SV.var 9)] [Base.any] (SV.var 20)
                            (VC.start false [] [] [(13, []), (7, [SV.int IntKind.i64 (IE.var 0), SV.int IntKind.i64 (IE.var 1), SV.bool (BE.var 2), SV.int IntKind.i64 (IE.var 3), SV.bool (BE.var 4)])]
                              (VC.pur (Op.convert 40 9 (Operand.tmp 67)) 9 [(Operand.tmp 67, SV.var 11)] [Base.any] (SV.var 21)
                                (VC.start false [] []
                                  [(13, []), (7, [SV.int IntKind.i64 (IE.var 0), SV.int IntKind.i64 (IE.var 1), SV.bool (BE.var 2), SV.int IntKind.i64 (IE.var 3), SV.bool (BE.var 4)])]
                                  (VC.pur (Op.binOp BinOp.eql 9 (Operand.tmp 66) (Operand.tmp 68) 9) 4 [(Operand.tmp 66, SV.var 20), (Operand.tmp 68, SV.var 21)] [Base.bool] (SV.bool (BE.var 22))
                                    (VC.split (BE.var 22)
                                      (VC.call 18 [SV.int IntKind.i64 (IE.var 10)] [Base.int IntKind.i64] (SV.int IntKind.i64 (IE.var 23)) [] false [] [] [13, 7]
                                        [(13, []), (7, [SV.int IntKind.i64 (IE.var 0), SV.int IntKind.i64 (IE.var 1), SV.bool (BE.var 2), SV.int IntKind.i64 (IE.var 3), SV.bool (BE.var 4)])]
                                        (VC.split (BE.eq (IE.var 23) (IE.var 12))
                                          (VC.call 24 [SV.var 15, SV.var 17] [Base.bool] (SV.bool (BE.var 24)) [] false [] [] [13, 7]
                                            [(13, []), (7, [SV.int IntKind.i64 (IE.var 0), SV.int IntKind.i64 (IE.var 1), SV.bool (BE.var 2), SV.int IntKind.i64 (IE.var 3), SV.bool (BE.var 4)])]
                                            (VC.split (BE.var 24)
                                              (VC.call 18 [SV.int IntKind.i64 (IE.var 16)] [Base.int IntKind.i64] (SV.int IntKind.i64 (IE.var 25)) [] false [] [] [13, 7]
                                                [(13, []), (7, [SV.int IntKind.i64 (IE.var 0), SV.int IntKind.i64 (IE.var 1), SV.bool (BE.var 2), SV.int IntKind.i64 (IE.var 3), SV.bool (BE.var 4)])]
                                                (VC.split (BE.eq (IE.var 25) (IE.var 18))
                                                  (VC.call 19 [] [Base.bool] (SV.bool (BE.var 26)) [] false [] [] [13, 7]
                                                    [(13, []),
                                                      (7, [SV.int IntKind.i64 (IE.var 0), SV.int IntKind.i64 (IE.var 1), SV.bool (BE.var 2), SV.int IntKind.i64 (IE.var 3), SV.bool (BE.var 4)])]
                                                    (VC.leaf 0 [SV.bool (BE.var 26)] []
                                                      [(13, []),
                                                        (7, [SV.int IntKind.i64 (IE.var 0), SV.int IntKind.i64 (IE.var 1), SV.bool (BE.var 2), SV.int IntKind.i64 (IE.var 3), SV.bool (BE.var 4)])]))
                                                  (VC.leaf 0 [SV.bool (BE.lit false)] []
                                                    [(13, []),
                                                      (7, [SV.int IntKind.i64 (IE.var 0), SV.int IntKind.i64 (IE.var 1), SV.bool (BE.var 2), SV.int IntKind.i64 (IE.var 3), SV.bool (BE.var 4)])])))
                                              (VC.leaf 0 [SV.bool (BE.lit false)] []
                                                [(13, []),
                                                  (7, [SV.int IntKind.i64 (IE.var 0), SV.int IntKind.i64 (IE.var 1), SV.bool (BE.var 2), SV.int IntKind.i64 (IE.var 3), SV.bool (BE.var 4)])])))
                                          (VC.leaf 0 [SV.bool (BE.lit false)] []
                                            [(13, []), (7, [SV.int IntKind.i64 (IE.var 0), SV.int IntKind.i64 (IE.var 1), SV.bool (BE.var 2), SV.int IntKind.i64 (IE.var 3), SV.bool (BE.var 4)])])))
                                      (VC.leaf 0 [SV.bool (BE.lit false)] []
                                        [(13, []),
                                          (7, [SV.int IntKind.i64 (IE.var 0), SV.int IntKind.i64 (IE.var 1), SV.bool (BE.var 2), SV.int IntKind.i64 (IE.var 3), SV.bool (BE.var 4)])]))))))))))))))))))) := by kernel_rfl

end Go.Proofs.Ytngemhmjpphpaaa
