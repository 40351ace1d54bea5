/- What the functions of the chapter come to, printed by a program of the prover's and checked by the kernel. No conditions. -/
import Derived.Test.YtppbapnibpeolaaSxZI
import Derived.Test.YtppbapnibpeolaaProg
import Derived.KernelRfl
set_option maxRecDepth 100000
set_option linter.unusedVariables false
namespace Go.Proofs.Ytppbapnibpeolaa
open Go.Sx

theorem t5 : exFn { P := Try.prog, lastOut := true, loops := (fun r => if Nat.beq r 8 then some ⟨1, [(10, .int .i64)], []⟩ else if Nat.beq r 28 then some ⟨2, [(13, .int .i64)], []⟩ else if Nat.beq r 31 then some ⟨3, [(14, .int .i64)], []⟩ else none), joins := fun r => if Nat.beq r 25 then some ⟨4, [], []⟩ else if Nat.beq r 27 then some ⟨5, [], []⟩ else if Nat.beq r 17 then some ⟨6, [(60, .bool)], []⟩ else none } 5 [.agg [.int .i64 (.var 0), .int .i64 (.var 1), .int .i64 (.var 2), .int .i64 (.var 3)], .var 4, .var 5] [.int .i64, .int .i64, .int .i64, .int .i64, .slice, .slice] [] =
  VC.blk
  (VC.call 8 [SV.agg [SV.int IntKind.i64 (IE.var 0), SV.int IntKind.i64 (IE.var 1), SV.int IntKind.i64 (IE.var 2), SV.int IntKind.i64 (IE.var 3)]] [Base.bool] (SV.bool (BE.var 7)) [] false [] [] [6]
    [(6, [SV.int IntKind.i64 (IE.var 0), SV.int IntKind.i64 (IE.var 1), SV.int IntKind.i64 (IE.var 2), SV.int IntKind.i64 (IE.var 3)])]
    (VC.split (BE.not (BE.var 7))
      (VC.call 11 [] [Base.bool] (SV.bool (BE.var 8)) [] false [] [] [6]
        [(6, [SV.int IntKind.i64 (IE.var 0), SV.int IntKind.i64 (IE.var 1), SV.int IntKind.i64 (IE.var 2), SV.int IntKind.i64 (IE.var 3)])]
        (VC.leaf 0 [SV.bool (BE.var 8)] [] [(6, [SV.int IntKind.i64 (IE.var 0), SV.int IntKind.i64 (IE.var 1), SV.int IntKind.i64 (IE.var 2), SV.int IntKind.i64 (IE.var 3)])]))
      (VC.split (BE.lt (IE.lit 20) (IE.len 4))
        (VC.call 11 [] [Base.bool] (SV.bool (BE.var 8)) [] false [] [] [6]
          [(6, [SV.int IntKind.i64 (IE.var 0), SV.int IntKind.i64 (IE.var 1), SV.int IntKind.i64 (IE.var 2), SV.int IntKind.i64 (IE.var 3)])]
          (VC.leaf 0 [SV.bool (BE.var 8)] [] [(6, [SV.int IntKind.i64 (IE.var 0), SV.int IntKind.i64 (IE.var 1), SV.int IntKind.i64 (IE.var 2), SV.int IntKind.i64 (IE.var 3)])]))
        (VC.call 9 [SV.var 5, SV.int IntKind.i64 (IE.lit 40)] [Base.bool] (SV.bool (BE.var 8)) [] false [] [] [6]
          [(6, [SV.int IntKind.i64 (IE.var 0), SV.int IntKind.i64 (IE.var 1), SV.int IntKind.i64 (IE.var 2), SV.int IntKind.i64 (IE.var 3)])]
          (VC.split (BE.not (BE.var 8))
            (VC.call 11 [] [Base.bool] (SV.bool (BE.var 9)) [] false [] [] [6]
              [(6, [SV.int IntKind.i64 (IE.var 0), SV.int IntKind.i64 (IE.var 1), SV.int IntKind.i64 (IE.var 2), SV.int IntKind.i64 (IE.var 3)])]
              (VC.leaf 0 [SV.bool (BE.var 9)] [] [(6, [SV.int IntKind.i64 (IE.var 0), SV.int IntKind.i64 (IE.var 1), SV.int IntKind.i64 (IE.var 2), SV.int IntKind.i64 (IE.var 3)])]))
            (VC.call 29 [SV.agg [SV.int IntKind.i64 (IE.var 0), SV.int IntKind.i64 (IE.var 1), SV.int IntKind.i64 (IE.var 2), SV.int IntKind.i64 (IE.var 3)], SV.var 4] [Base.ptr, Base.int IntKind.i64]
              (SV.tuple [SV.var 9, SV.int IntKind.i64 (IE.var 10)]) [] false [] [] [6]
              [(6, [SV.int IntKind.i64 (IE.var 0), SV.int IntKind.i64 (IE.var 1), SV.int IntKind.i64 (IE.var 2), SV.int IntKind.i64 (IE.var 3)])]
              (VC.call 18 [SV.int IntKind.i64 (IE.var 10)] [Base.int IntKind.i64] (SV.int IntKind.i64 (IE.var 11)) [] false [] [] [6]
                [(6, [SV.int IntKind.i64 (IE.var 0), SV.int IntKind.i64 (IE.var 1), SV.int IntKind.i64 (IE.var 2), SV.int IntKind.i64 (IE.var 3)])]
                (VC.split (BE.not (BE.eq (IE.var 11) (IE.lit 0)))
                  (VC.call 11 [] [Base.bool] (SV.bool (BE.var 12)) [] false [] [] [6]
                    [(6, [SV.int IntKind.i64 (IE.var 0), SV.int IntKind.i64 (IE.var 1), SV.int IntKind.i64 (IE.var 2), SV.int IntKind.i64 (IE.var 3)])]
                    (VC.leaf 0 [SV.bool (BE.var 12)] [] [(6, [SV.int IntKind.i64 (IE.var 0), SV.int IntKind.i64 (IE.var 1), SV.int IntKind.i64 (IE.var 2), SV.int IntKind.i64 (IE.var 3)])]))
                  (VC.gen (Op.makeSlice 67 (Operand.tmp 44) (Operand.tmp 44)) 67 [(Operand.tmp 44, SV.int IntKind.i64 (IE.var 0)), (Operand.tmp 44, SV.int IntKind.i64 (IE.var 0))] [Base.slice]
                    (SV.var 12) [] false [] [] [6] [(6, [SV.int IntKind.i64 (IE.var 0), SV.int IntKind.i64 (IE.var 1), SV.int IntKind.i64 (IE.var 2), SV.int IntKind.i64 (IE.var 3)])]
                    (VC.loop 1 [SV.int IntKind.i64 (IE.lit 0)] [Base.int IntKind.i64] [] [6]
                      [(6, [SV.int IntKind.i64 (IE.var 0), SV.int IntKind.i64 (IE.var 1), SV.int IntKind.i64 (IE.var 2), SV.int IntKind.i64 (IE.var 3)])]
                      [(6, [SV.int IntKind.i64 (IE.var 0), SV.int IntKind.i64 (IE.var 1), SV.int IntKind.i64 (IE.var 2), SV.int IntKind.i64 (IE.var 3)])]
                      (VC.split (BE.lt (IE.var 13) (IE.len 5))
                        (VC.ob (BE.le (IE.lit 0) (IE.var 13))
                          (VC.ob (BE.lt (IE.var 13) (IE.len 5))
                            (VC.ob (BE.not (BE.nil 5))
                              (VC.start false [] [] [(6, [SV.int IntKind.i64 (IE.var 0), SV.int IntKind.i64 (IE.var 1), SV.int IntKind.i64 (IE.var 2), SV.int IntKind.i64 (IE.var 3)])]
                                (VC.load (SV.elt 5 0 (IE.var 13) 5 0) [Base.int IntKind.i64, Base.int IntKind.i64, Base.int IntKind.i64, Base.slice, Base.slice]
                                  (VC.blk
                                    (VC.call 25 [SV.var 9] [Base.int IntKind.i64] (SV.int IntKind.i64 (IE.var 20)) [] false [19] [] [19, 6]
                                      [(19, [SV.int IntKind.i64 (IE.var 14), SV.int IntKind.i64 (IE.var 15), SV.int IntKind.i64 (IE.var 16), SV.var 17, SV.var 18]),
                                        (6, [SV.int IntKind.i64 (IE.var 0), SV.int IntKind.i64 (IE.var 1), SV.int IntKind.i64 (IE.var 2), SV.int IntKind.i64 (IE.var 3)])]
                                      (VC.cut 4 [] [19, 6]
                                        [(19, [SV.int IntKind.i64 (IE.var 14), SV.int IntKind.i64 (IE.var 15), SV.int IntKind.i64 (IE.var 16), SV.var 17, SV.var 18]),
                                          (6, [SV.int IntKind.i64 (IE.var 0), SV.int IntKind.i64 (IE.var 1), SV.int IntKind.i64 (IE.var 2), SV.int IntKind.i64 (IE.var 3)])]
                                        (VC.cut 6 [Base.bool] [19, 6]
                                          [(19, [SV.int IntKind.i64 (IE.var 14), SV.int IntKind.i64 (IE.var 15), SV.int IntKind.i64 (IE.var 16), SV.var 17, SV.var 18]),
                                            (6, [SV.int IntKind.i64 (IE.var 0), SV.int IntKind.i64 (IE.var 1), SV.int IntKind.i64 (IE.var 2), SV.int IntKind.i64 (IE.var 3)])]
                                          (VC.split (BE.eq (IE.var 14) (IE.lit 0))
                                            (VC.leaf 6 [SV.bool (BE.eq (IE.var 14) (IE.lit 0))] []
                                              [(19, [SV.int IntKind.i64 (IE.var 14), SV.int IntKind.i64 (IE.var 15), SV.int IntKind.i64 (IE.var 16), SV.var 17, SV.var 18]),
                                                (6, [SV.int IntKind.i64 (IE.var 0), SV.int IntKind.i64 (IE.var 1), SV.int IntKind.i64 (IE.var 2), SV.int IntKind.i64 (IE.var 3)])])
                                            (VC.split (BE.eq (IE.var 14) (IE.lit 1))
                                              (VC.leaf 6 [SV.bool (BE.eq (IE.var 14) (IE.lit 1))] []
                                                [(19, [SV.int IntKind.i64 (IE.var 14), SV.int IntKind.i64 (IE.var 15), SV.int IntKind.i64 (IE.var 16), SV.var 17, SV.var 18]),
                                                  (6, [SV.int IntKind.i64 (IE.var 0), SV.int IntKind.i64 (IE.var 1), SV.int IntKind.i64 (IE.var 2), SV.int IntKind.i64 (IE.var 3)])])
                                              (VC.split (BE.eq (IE.var 14) (IE.lit 2))
                                                (VC.leaf 6 [SV.bool (BE.eq (IE.var 14) (IE.lit 2))] []
                                                  [(19, [SV.int IntKind.i64 (IE.var 14), SV.int IntKind.i64 (IE.var 15), SV.int IntKind.i64 (IE.var 16), SV.var 17, SV.var 18]),
                                                    (6, [SV.int IntKind.i64 (IE.var 0), SV.int IntKind.i64 (IE.var 1), SV.int IntKind.i64 (IE.var 2), SV.int IntKind.i64 (IE.var 3)])])
                                                (VC.leaf 6 [SV.bool (BE.eq (IE.var 14) (IE.lit 3))] []
                                                  [(19, [SV.int IntKind.i64 (IE.var 14), SV.int IntKind.i64 (IE.var 15), SV.int IntKind.i64 (IE.var 16), SV.var 17, SV.var 18]),
                                                    (6, [SV.int IntKind.i64 (IE.var 0), SV.int IntKind.i64 (IE.var 1), SV.int IntKind.i64 (IE.var 2), SV.int IntKind.i64 (IE.var 3)])]))))
                                          (VC.split (BE.var 21)
                                            (VC.call 19 [SV.var 9, SV.int IntKind.i64 (IE.var 15), SV.int IntKind.i64 (IE.var 16), SV.var 17, SV.var 18] [Base.int IntKind.i64]
                                              (SV.int IntKind.i64 (IE.var 22)) [] false [] [] [19, 6]
                                              [(19, [SV.int IntKind.i64 (IE.var 14), SV.int IntKind.i64 (IE.var 15), SV.int IntKind.i64 (IE.var 16), SV.var 17, SV.var 18]),
                                                (6, [SV.int IntKind.i64 (IE.var 0), SV.int IntKind.i64 (IE.var 1), SV.int IntKind.i64 (IE.var 2), SV.int IntKind.i64 (IE.var 3)])]
                                              (VC.call 18 [SV.int IntKind.i64 (IE.var 22)] [Base.int IntKind.i64] (SV.int IntKind.i64 (IE.var 23)) [] false [] [] [19, 6]
                                                [(19, [SV.int IntKind.i64 (IE.var 14), SV.int IntKind.i64 (IE.var 15), SV.int IntKind.i64 (IE.var 16), SV.var 17, SV.var 18]),
                                                  (6, [SV.int IntKind.i64 (IE.var 0), SV.int IntKind.i64 (IE.var 1), SV.int IntKind.i64 (IE.var 2), SV.int IntKind.i64 (IE.var 3)])]
                                                (VC.split (BE.eq (IE.var 23) (IE.lit 0))
                                                  (VC.start true [] [19, 6]
                                                    [(19, [SV.int IntKind.i64 (IE.var 14), SV.int IntKind.i64 (IE.var 15), SV.int IntKind.i64 (IE.var 16), SV.var 17, SV.var 18]),
                                                      (6, [SV.int IntKind.i64 (IE.var 0), SV.int IntKind.i64 (IE.var 1), SV.int IntKind.i64 (IE.var 2), SV.int IntKind.i64 (IE.var 3)])]
                                                    (VC.ob (BE.le (IE.lit 0) (IE.var 15))
                                                      (VC.ob (BE.lt (IE.var 15) (IE.len 12))
                                                        (VC.ob (BE.not (BE.nil 12))
                                                          (VC.load (SV.elt 12 0 (IE.var 15) 1 0) [Base.slice]
                                                            (VC.both
                                                              (VC.blk
                                                                (VC.both
                                                                  (VC.gen (Op.call { callee := Callee.builtin Builtin.append, args := #[Operand.tmp 80, Operand.tmp 85], argTypes := #[25, 25] }) 25
                                                                    [(Operand.tmp 80, SV.slc 25 0 0 0), (Operand.tmp 85, SV.var 24)] [Base.slice] (SV.var 26) [] true [] [] [25, 19, 6]
                                                                    [(25, []),
                                                                      (19, [SV.int IntKind.i64 (IE.var 14), SV.int IntKind.i64 (IE.var 15), SV.int IntKind.i64 (IE.var 16), SV.var 17, SV.var 18]),
                                                                      (6, [SV.int IntKind.i64 (IE.var 0), SV.int IntKind.i64 (IE.var 1), SV.int IntKind.i64 (IE.var 2), SV.int IntKind.i64 (IE.var 3)])]
                                                                    (VC.blk
                                                                      (VC.gen (Op.call { callee := Callee.builtin Builtin.append, args := #[Operand.tmp 86, Operand.tmp 88], argTypes := #[25, 25] }) 25
                                                                        [(Operand.tmp 86, SV.var 26), (Operand.tmp 88, SV.slc 27 0 1 1)] [Base.slice] (SV.var 28) [] true [] [] [27, 25, 19, 6]
                                                                        [(27, [SV.int IntKind.i64 (IE.var 14), SV.int IntKind.i64 (IE.var 15), SV.int IntKind.i64 (IE.var 16), SV.var 17, SV.var 18]),
                                                                          (25, []),
                                                                          (19, [SV.int IntKind.i64 (IE.var 14), SV.int IntKind.i64 (IE.var 15), SV.int IntKind.i64 (IE.var 16), SV.var 17, SV.var 18]),
                                                                          (6,
                                                                            [SV.int IntKind.i64 (IE.var 0), SV.int IntKind.i64 (IE.var 1), SV.int IntKind.i64 (IE.var 2),
                                                                              SV.int IntKind.i64 (IE.var 3)])]
                                                                        (VC.ob (BE.le (IE.lit 0) (IE.var 15))
                                                                          (VC.ob (BE.lt (IE.var 15) (IE.len 12))
                                                                            (VC.gen (Op.store 25 (Operand.tmp 90) (Operand.tmp 89)) 0
                                                                              [(Operand.tmp 90, SV.elt 12 0 (IE.var 15) 1 0), (Operand.tmp 89, SV.var 28)] [] (SV.cst (Value.tuple #[])) [] false [] []
                                                                              [27, 25, 19, 6]
                                                                              [(27,
                                                                                  [SV.int IntKind.i64 (IE.var 14), SV.int IntKind.i64 (IE.var 15), SV.int IntKind.i64 (IE.var 16), SV.var 17,
                                                                                    SV.var 18]),
                                                                                (25, []),
                                                                                (19,
                                                                                  [SV.int IntKind.i64 (IE.var 14), SV.int IntKind.i64 (IE.var 15), SV.int IntKind.i64 (IE.var 16), SV.var 17,
                                                                                    SV.var 18]),
                                                                                (6,
                                                                                  [SV.int IntKind.i64 (IE.var 0), SV.int IntKind.i64 (IE.var 1), SV.int IntKind.i64 (IE.var 2),
                                                                                    SV.int IntKind.i64 (IE.var 3)])]
                                                                              (VC.leaf 4 [] []
                                                                                [(27,
                                                                                    [SV.int IntKind.i64 (IE.var 14), SV.int IntKind.i64 (IE.var 15), SV.int IntKind.i64 (IE.var 16), SV.var 17,
                                                                                      SV.var 18]),
                                                                                  (25, []),
                                                                                  (19,
                                                                                    [SV.int IntKind.i64 (IE.var 14), SV.int IntKind.i64 (IE.var 15), SV.int IntKind.i64 (IE.var 16), SV.var 17,
                                                                                      SV.var 18]),
                                                                                  (6,
                                                                                    [SV.int IntKind.i64 (IE.var 0), SV.int IntKind.i64 (IE.var 1), SV.int IntKind.i64 (IE.var 2),
                                                                                      SV.int IntKind.i64 (IE.var 3)])])))))))
                                                                  (VC.blk
                                                                    (VC.gen (Op.call { callee := Callee.builtin Builtin.append, args := #[Operand.tmp 80, Operand.tmp 85], argTypes := #[25, 25] }) 25
                                                                      [(Operand.tmp 80, SV.slc 25 0 0 0), (Operand.tmp 85, SV.var 24)] [Base.slice] (SV.var 27) [] true [] [] [26, 25, 19, 6]
                                                                      [(26, [SV.int IntKind.i64 (IE.var 14), SV.int IntKind.i64 (IE.var 15), SV.int IntKind.i64 (IE.var 16), SV.var 17, SV.var 18]),
                                                                        (25, []),
                                                                        (19, [SV.int IntKind.i64 (IE.var 14), SV.int IntKind.i64 (IE.var 15), SV.int IntKind.i64 (IE.var 16), SV.var 17, SV.var 18]),
                                                                        (6,
                                                                          [SV.int IntKind.i64 (IE.var 0), SV.int IntKind.i64 (IE.var 1), SV.int IntKind.i64 (IE.var 2), SV.int IntKind.i64 (IE.var 3)])]
                                                                      (VC.gen (Op.call { callee := Callee.builtin Builtin.append, args := #[Operand.tmp 86, Operand.tmp 88], argTypes := #[25, 25] }) 25
                                                                        [(Operand.tmp 86, SV.var 27), (Operand.tmp 88, SV.slc 26 0 1 1)] [Base.slice] (SV.var 28) [] true [] [] [26, 25, 19, 6]
                                                                        [(26, [SV.int IntKind.i64 (IE.var 14), SV.int IntKind.i64 (IE.var 15), SV.int IntKind.i64 (IE.var 16), SV.var 17, SV.var 18]),
                                                                          (25, []),
                                                                          (19, [SV.int IntKind.i64 (IE.var 14), SV.int IntKind.i64 (IE.var 15), SV.int IntKind.i64 (IE.var 16), SV.var 17, SV.var 18]),
                                                                          (6,
                                                                            [SV.int IntKind.i64 (IE.var 0), SV.int IntKind.i64 (IE.var 1), SV.int IntKind.i64 (IE.var 2),
                                                                              SV.int IntKind.i64 (IE.var 3)])]
                                                                        (VC.ob (BE.le (IE.lit 0) (IE.var 15))
                                                                          (VC.ob (BE.lt (IE.var 15) (IE.len 12))
                                                                            (VC.gen (Op.store 25 (Operand.tmp 90) (Operand.tmp 89)) 0
                                                                              [(Operand.tmp 90, SV.elt 12 0 (IE.var 15) 1 0), (Operand.tmp 89, SV.var 28)] [] (SV.cst (Value.tuple #[])) [] false [] []
                                                                              [26, 25, 19, 6]
                                                                              [(26,
                                                                                  [SV.int IntKind.i64 (IE.var 14), SV.int IntKind.i64 (IE.var 15), SV.int IntKind.i64 (IE.var 16), SV.var 17,
                                                                                    SV.var 18]),
                                                                                (25, []),
                                                                                (19,
                                                                                  [SV.int IntKind.i64 (IE.var 14), SV.int IntKind.i64 (IE.var 15), SV.int IntKind.i64 (IE.var 16), SV.var 17,
                                                                                    SV.var 18]),
                                                                                (6,
                                                                                  [SV.int IntKind.i64 (IE.var 0), SV.int IntKind.i64 (IE.var 1), SV.int IntKind.i64 (IE.var 2),
                                                                                    SV.int IntKind.i64 (IE.var 3)])]
                                                                              (VC.leaf 4 [] []
                                                                                [(26,
                                                                                    [SV.int IntKind.i64 (IE.var 14), SV.int IntKind.i64 (IE.var 15), SV.int IntKind.i64 (IE.var 16), SV.var 17,
                                                                                      SV.var 18]),
                                                                                  (25, []),
                                                                                  (19,
                                                                                    [SV.int IntKind.i64 (IE.var 14), SV.int IntKind.i64 (IE.var 15), SV.int IntKind.i64 (IE.var 16), SV.var 17,
                                                                                      SV.var 18]),
                                                                                  (6,
                                                                                    [SV.int IntKind.i64 (IE.var 0), SV.int IntKind.i64 (IE.var 1), SV.int IntKind.i64 (IE.var 2),
                                                                                      SV.int IntKind.i64 (IE.var 3)])])))))))))
                                                              (VC.blk
                                                                (VC.blk
                                                                  (VC.gen (Op.call { callee := Callee.builtin Builtin.append, args := #[Operand.tmp 80, Operand.tmp 85], argTypes := #[25, 25] }) 25
                                                                    [(Operand.tmp 80, SV.slc 26 0 0 0), (Operand.tmp 85, SV.var 24)] [Base.slice] (SV.var 27) [] true [] [] [26, 25, 19, 6]
                                                                    [(26, []),
                                                                      (25, [SV.int IntKind.i64 (IE.var 14), SV.int IntKind.i64 (IE.var 15), SV.int IntKind.i64 (IE.var 16), SV.var 17, SV.var 18]),
                                                                      (19, [SV.int IntKind.i64 (IE.var 14), SV.int IntKind.i64 (IE.var 15), SV.int IntKind.i64 (IE.var 16), SV.var 17, SV.var 18]),
                                                                      (6, [SV.int IntKind.i64 (IE.var 0), SV.int IntKind.i64 (IE.var 1), SV.int IntKind.i64 (IE.var 2), SV.int IntKind.i64 (IE.var 3)])]
                                                                    (VC.gen (Op.call { callee := Callee.builtin Builtin.append, args := #[Operand.tmp 86, Operand.tmp 88], argTypes := #[25, 25] }) 25
                                                                      [(Operand.tmp 86, SV.var 27), (Operand.tmp 88, SV.slc 25 0 1 1)] [Base.slice] (SV.var 28) [] true [] [] [26, 25, 19, 6]
                                                                      [(26, []),
                                                                        (25, [SV.int IntKind.i64 (IE.var 14), SV.int IntKind.i64 (IE.var 15), SV.int IntKind.i64 (IE.var 16), SV.var 17, SV.var 18]),
                                                                        (19, [SV.int IntKind.i64 (IE.var 14), SV.int IntKind.i64 (IE.var 15), SV.int IntKind.i64 (IE.var 16), SV.var 17, SV.var 18]),
                                                                        (6,
                                                                          [SV.int IntKind.i64 (IE.var 0), SV.int IntKind.i64 (IE.var 1), SV.int IntKind.i64 (IE.var 2), SV.int IntKind.i64 (IE.var 3)])]
                                                                      (VC.ob (BE.le (IE.lit 0) (IE.var 15))
                                                                        (VC.ob (BE.lt (IE.var 15) (IE.len 12))
                                                                          (VC.gen (Op.store 25 (Operand.tmp 90) (Operand.tmp 89)) 0
                                                                            [(Operand.tmp 90, SV.elt 12 0 (IE.var 15) 1 0), (Operand.tmp 89, SV.var 28)] [] (SV.cst (Value.tuple #[])) [] false [] []
                                                                            [26, 25, 19, 6]
                                                                            [(26, []),
                                                                              (25,
                                                                                [SV.int IntKind.i64 (IE.var 14), SV.int IntKind.i64 (IE.var 15), SV.int IntKind.i64 (IE.var 16), SV.var 17, SV.var 18]),
                                                                              (19,
                                                                                [SV.int IntKind.i64 (IE.var 14), SV.int IntKind.i64 (IE.var 15), SV.int IntKind.i64 (IE.var 16), SV.var 17, SV.var 18]),
                                                                              (6,
                                                                                [SV.int IntKind.i64 (IE.var 0), SV.int IntKind.i64 (IE.var 1), SV.int IntKind.i64 (IE.var 2),
                                                                                  SV.int IntKind.i64 (IE.var 3)])]
                                                                            (VC.leaf 4 [] []
                                                                              [(26, []),
                                                                                (25,
                                                                                  [SV.int IntKind.i64 (IE.var 14), SV.int IntKind.i64 (IE.var 15), SV.int IntKind.i64 (IE.var 16), SV.var 17,
                                                                                    SV.var 18]),
                                                                                (19,
                                                                                  [SV.int IntKind.i64 (IE.var 14), SV.int IntKind.i64 (IE.var 15), SV.int IntKind.i64 (IE.var 16), SV.var 17,
                                                                                    SV.var 18]),
                                                                                (6,
                                                                                  [SV.int IntKind.i64 (IE.var 0), SV.int IntKind.i64 (IE.var 1), SV.int IntKind.i64 (IE.var 2),
                                                                                    SV.int IntKind.i64 (IE.var 3)])]))))))))))))))
                                                  (VC.leaf 4 [] []
                                                    [(19, [SV.int IntKind.i64 (IE.var 14), SV.int IntKind.i64 (IE.var 15), SV.int IntKind.i64 (IE.var 16), SV.var 17, SV.var 18]),
                                                      (6, [SV.int IntKind.i64 (IE.var 0), SV.int IntKind.i64 (IE.var 1), SV.int IntKind.i64 (IE.var 2), SV.int IntKind.i64 (IE.var 3)])]))))
                                            (VC.split (BE.eq (IE.var 14) (IE.lit 4))
                                              (VC.call 20 [SV.var 9, SV.int IntKind.i64 (IE.var 15)] [Base.int IntKind.i64] (SV.int IntKind.i64 (IE.var 22)) [] false [] [] [19, 6]
                                                [(19, [SV.int IntKind.i64 (IE.var 14), SV.int IntKind.i64 (IE.var 15), SV.int IntKind.i64 (IE.var 16), SV.var 17, SV.var 18]),
                                                  (6, [SV.int IntKind.i64 (IE.var 0), SV.int IntKind.i64 (IE.var 1), SV.int IntKind.i64 (IE.var 2), SV.int IntKind.i64 (IE.var 3)])]
                                                (VC.call 25 [SV.var 9] [Base.int IntKind.i64] (SV.int IntKind.i64 (IE.var 23)) [] false [] [] [19, 6]
                                                  [(19, [SV.int IntKind.i64 (IE.var 14), SV.int IntKind.i64 (IE.var 15), SV.int IntKind.i64 (IE.var 16), SV.var 17, SV.var 18]),
                                                    (6, [SV.int IntKind.i64 (IE.var 0), SV.int IntKind.i64 (IE.var 1), SV.int IntKind.i64 (IE.var 2), SV.int IntKind.i64 (IE.var 3)])]
                                                  (VC.split (BE.lt (IE.var 20) (IE.var 23))
                                                    (VC.ob (BE.le (IE.lit 0) (IE.var 15))
                                                      (VC.ob (BE.lt (IE.var 15) (IE.len 12))
                                                        (VC.ob (BE.not (BE.nil 12))
                                                          (VC.gen (Op.store 25 (Operand.tmp 104) (Operand.const (Value.slice none 0 0))) 0
                                                            [(Operand.tmp 104, SV.elt 12 0 (IE.var 15) 1 0), (Operand.const (Value.slice none 0 0), SV.cst (Value.slice none 0 0))] []
                                                            (SV.cst (Value.tuple #[])) [] false [] [] [19, 6]
                                                            [(19, [SV.int IntKind.i64 (IE.var 14), SV.int IntKind.i64 (IE.var 15), SV.int IntKind.i64 (IE.var 16), SV.var 17, SV.var 18]),
                                                              (6, [SV.int IntKind.i64 (IE.var 0), SV.int IntKind.i64 (IE.var 1), SV.int IntKind.i64 (IE.var 2), SV.int IntKind.i64 (IE.var 3)])]
                                                            (VC.leaf 4 [] []
                                                              [(19, [SV.int IntKind.i64 (IE.var 14), SV.int IntKind.i64 (IE.var 15), SV.int IntKind.i64 (IE.var 16), SV.var 17, SV.var 18]),
                                                                (6, [SV.int IntKind.i64 (IE.var 0), SV.int IntKind.i64 (IE.var 1), SV.int IntKind.i64 (IE.var 2), SV.int IntKind.i64 (IE.var 3)])])))))
                                                    (VC.leaf 4 [] []
                                                      [(19, [SV.int IntKind.i64 (IE.var 14), SV.int IntKind.i64 (IE.var 15), SV.int IntKind.i64 (IE.var 16), SV.var 17, SV.var 18]),
                                                        (6, [SV.int IntKind.i64 (IE.var 0), SV.int IntKind.i64 (IE.var 1), SV.int IntKind.i64 (IE.var 2), SV.int IntKind.i64 (IE.var 3)])]))))
                                              (VC.split (BE.eq (IE.var 14) (IE.lit 6))
                                                (VC.call 21 [SV.var 9, SV.int IntKind.i64 (IE.var 15), SV.int IntKind.i64 (IE.var 16)] [Base.int IntKind.i64] (SV.int IntKind.i64 (IE.var 22)) [] false
                                                  [] [] [19, 6]
                                                  [(19, [SV.int IntKind.i64 (IE.var 14), SV.int IntKind.i64 (IE.var 15), SV.int IntKind.i64 (IE.var 16), SV.var 17, SV.var 18]),
                                                    (6, [SV.int IntKind.i64 (IE.var 0), SV.int IntKind.i64 (IE.var 1), SV.int IntKind.i64 (IE.var 2), SV.int IntKind.i64 (IE.var 3)])]
                                                  (VC.leaf 4 [] []
                                                    [(19, [SV.int IntKind.i64 (IE.var 14), SV.int IntKind.i64 (IE.var 15), SV.int IntKind.i64 (IE.var 16), SV.var 17, SV.var 18]),
                                                      (6, [SV.int IntKind.i64 (IE.var 0), SV.int IntKind.i64 (IE.var 1), SV.int IntKind.i64 (IE.var 2), SV.int IntKind.i64 (IE.var 3)])]))
                                                (VC.leaf 4 [] []
                                                  [(19, [SV.int IntKind.i64 (IE.var 14), SV.int IntKind.i64 (IE.var 15), SV.int IntKind.i64 (IE.var 16), SV.var 17, SV.var 18]),
                                                    (6, [SV.int IntKind.i64 (IE.var 0), SV.int IntKind.i64 (IE.var 1), SV.int IntKind.i64 (IE.var 2), SV.int IntKind.i64 (IE.var 3)])])))))
                                        (VC.cut 5 [] [19, 6]
                                          [(19, [SV.int IntKind.i64 (IE.var 14), SV.int IntKind.i64 (IE.var 15), SV.int IntKind.i64 (IE.var 16), SV.var 17, SV.var 18]),
                                            (6, [SV.int IntKind.i64 (IE.var 0), SV.int IntKind.i64 (IE.var 1), SV.int IntKind.i64 (IE.var 2), SV.int IntKind.i64 (IE.var 3)])]
                                          (VC.call 23 [SV.var 9] [Base.bool] (SV.bool (BE.var 21)) [] false [] [] [19, 6]
                                            [(19, [SV.int IntKind.i64 (IE.var 14), SV.int IntKind.i64 (IE.var 15), SV.int IntKind.i64 (IE.var 16), SV.var 17, SV.var 18]),
                                              (6, [SV.int IntKind.i64 (IE.var 0), SV.int IntKind.i64 (IE.var 1), SV.int IntKind.i64 (IE.var 2), SV.int IntKind.i64 (IE.var 3)])]
                                            (VC.split (BE.not (BE.var 21))
                                              (VC.call 22 [SV.var 9] [Base.int IntKind.i64] (SV.int IntKind.i64 (IE.var 22)) [] false [] [] [19, 6]
                                                [(19, [SV.int IntKind.i64 (IE.var 14), SV.int IntKind.i64 (IE.var 15), SV.int IntKind.i64 (IE.var 16), SV.var 17, SV.var 18]),
                                                  (6, [SV.int IntKind.i64 (IE.var 0), SV.int IntKind.i64 (IE.var 1), SV.int IntKind.i64 (IE.var 2), SV.int IntKind.i64 (IE.var 3)])]
                                                (VC.leaf 5 [] []
                                                  [(19, [SV.int IntKind.i64 (IE.var 14), SV.int IntKind.i64 (IE.var 15), SV.int IntKind.i64 (IE.var 16), SV.var 17, SV.var 18]),
                                                    (6, [SV.int IntKind.i64 (IE.var 0), SV.int IntKind.i64 (IE.var 1), SV.int IntKind.i64 (IE.var 2), SV.int IntKind.i64 (IE.var 3)])]))
                                              (VC.leaf 5 [] []
                                                [(19, [SV.int IntKind.i64 (IE.var 14), SV.int IntKind.i64 (IE.var 15), SV.int IntKind.i64 (IE.var 16), SV.var 17, SV.var 18]),
                                                  (6, [SV.int IntKind.i64 (IE.var 0), SV.int IntKind.i64 (IE.var 1), SV.int IntKind.i64 (IE.var 2), SV.int IntKind.i64 (IE.var 3)])])))
                                          (VC.loop 2 [SV.int IntKind.i64 (IE.lit 0)] [Base.int IntKind.i64] [] [19, 6]
                                            [(19, [SV.int IntKind.i64 (IE.var 14), SV.int IntKind.i64 (IE.var 15), SV.int IntKind.i64 (IE.var 16), SV.var 17, SV.var 18]),
                                              (6, [SV.int IntKind.i64 (IE.var 0), SV.int IntKind.i64 (IE.var 1), SV.int IntKind.i64 (IE.var 2), SV.int IntKind.i64 (IE.var 3)])]
                                            [(19, [SV.int IntKind.i64 (IE.var 14), SV.int IntKind.i64 (IE.var 15), SV.int IntKind.i64 (IE.var 16), SV.var 17, SV.var 18]),
                                              (6, [SV.int IntKind.i64 (IE.var 0), SV.int IntKind.i64 (IE.var 1), SV.int IntKind.i64 (IE.var 2), SV.int IntKind.i64 (IE.var 3)])]
                                            (VC.split (BE.lt (IE.var 21) (IE.var 0))
                                              (VC.loop 3 [SV.int IntKind.i64 (IE.lit 0)] [Base.int IntKind.i64] [] [19, 6]
                                                [(19, [SV.int IntKind.i64 (IE.var 14), SV.int IntKind.i64 (IE.var 15), SV.int IntKind.i64 (IE.var 16), SV.var 17, SV.var 18]),
                                                  (6, [SV.int IntKind.i64 (IE.var 0), SV.int IntKind.i64 (IE.var 1), SV.int IntKind.i64 (IE.var 2), SV.int IntKind.i64 (IE.var 3)])]
                                                [(19, [SV.int IntKind.i64 (IE.var 14), SV.int IntKind.i64 (IE.var 15), SV.int IntKind.i64 (IE.var 16), SV.var 17, SV.var 18]),
                                                  (6, [SV.int IntKind.i64 (IE.var 0), SV.int IntKind.i64 (IE.var 1), SV.int IntKind.i64 (IE.var 2), SV.int IntKind.i64 (IE.var 3)])]
                                                (VC.ob (BE.le (IE.lit 0) (IE.var 21))
                                                  (VC.ob (BE.lt (IE.var 21) (IE.len 12))
                                                    (VC.ob (BE.not (BE.nil 12))
                                                      (VC.start false [] []
                                                        [(19, [SV.int IntKind.i64 (IE.var 14), SV.int IntKind.i64 (IE.var 15), SV.int IntKind.i64 (IE.var 16), SV.var 17, SV.var 18]),
                                                          (6, [SV.int IntKind.i64 (IE.var 0), SV.int IntKind.i64 (IE.var 1), SV.int IntKind.i64 (IE.var 2), SV.int IntKind.i64 (IE.var 3)])]
                                                        (VC.load (SV.elt 12 0 (IE.var 21) 1 0) [Base.slice]
                                                          (VC.split (BE.lt (IE.var 22) (IE.len 23))
                                                            (VC.ob (BE.le (IE.lit 0) (IE.var 21))
                                                              (VC.ob (BE.lt (IE.var 21) (IE.len 12))
                                                                (VC.start false [] []
                                                                  [(19, [SV.int IntKind.i64 (IE.var 14), SV.int IntKind.i64 (IE.var 15), SV.int IntKind.i64 (IE.var 16), SV.var 17, SV.var 18]),
                                                                    (6, [SV.int IntKind.i64 (IE.var 0), SV.int IntKind.i64 (IE.var 1), SV.int IntKind.i64 (IE.var 2), SV.int IntKind.i64 (IE.var 3)])]
                                                                  (VC.load (SV.elt 12 0 (IE.var 21) 1 0) [Base.slice]
                                                                    (VC.ob (BE.le (IE.lit 0) (IE.var 22))
                                                                      (VC.ob (BE.lt (IE.var 22) (IE.len 24))
                                                                        (VC.ob (BE.not (BE.nil 24))
                                                                          (VC.start false [] []
                                                                            [(19,
                                                                                [SV.int IntKind.i64 (IE.var 14), SV.int IntKind.i64 (IE.var 15), SV.int IntKind.i64 (IE.var 16), SV.var 17, SV.var 18]),
                                                                              (6,
                                                                                [SV.int IntKind.i64 (IE.var 0), SV.int IntKind.i64 (IE.var 1), SV.int IntKind.i64 (IE.var 2),
                                                                                  SV.int IntKind.i64 (IE.var 3)])]
                                                                            (VC.load (SV.elt 24 0 (IE.var 22) 5 0)
                                                                              [Base.int IntKind.i64, Base.int IntKind.i64, Base.int IntKind.i64, Base.slice, Base.slice]
                                                                              (VC.blk
                                                                                (VC.call 13 [SV.var 9, SV.int IntKind.i64 (IE.var 26), SV.int IntKind.i64 (IE.var 27)]
                                                                                  [Base.slice, Base.slice, Base.int IntKind.i64] (SV.tuple [SV.var 31, SV.var 32, SV.int IntKind.i64 (IE.var 33)]) []
                                                                                  false [30] [] [30, 19, 6]
                                                                                  [(30,
                                                                                      [SV.int IntKind.i64 (IE.var 25), SV.int IntKind.i64 (IE.var 26), SV.int IntKind.i64 (IE.var 27), SV.var 28,
                                                                                        SV.var 29]),
                                                                                    (19,
                                                                                      [SV.int IntKind.i64 (IE.var 14), SV.int IntKind.i64 (IE.var 15), SV.int IntKind.i64 (IE.var 16), SV.var 17,
                                                                                        SV.var 18]),
                                                                                    (6,
                                                                                      [SV.int IntKind.i64 (IE.var 0), SV.int IntKind.i64 (IE.var 1), SV.int IntKind.i64 (IE.var 2),
                                                                                        SV.int IntKind.i64 (IE.var 3)])]
                                                                                  (VC.start true [] [30, 19, 6]
                                                                                    [(30,
                                                                                        [SV.int IntKind.i64 (IE.var 25), SV.int IntKind.i64 (IE.var 26), SV.int IntKind.i64 (IE.var 27), SV.var 28,
                                                                                          SV.var 29]),
                                                                                      (19,
                                                                                        [SV.int IntKind.i64 (IE.var 14), SV.int IntKind.i64 (IE.var 15), SV.int IntKind.i64 (IE.var 16), SV.var 17,
                                                                                          SV.var 18]),
                                                                                      (6,
                                                                                        [SV.int IntKind.i64 (IE.var 0), SV.int IntKind.i64 (IE.var 1), SV.int IntKind.i64 (IE.var 2),
                                                                                          SV.int IntKind.i64 (IE.var 3)])]
                                                                                    (VC.call 18 [SV.int IntKind.i64 (IE.var 33)] [Base.int IntKind.i64] (SV.int IntKind.i64 (IE.var 34)) [] true [] []
                                                                                      [30, 19, 6]
                                                                                      [(30,
                                                                                          [SV.int IntKind.i64 (IE.var 25), SV.int IntKind.i64 (IE.var 26), SV.int IntKind.i64 (IE.var 27), SV.var 28,
                                                                                            SV.var 29]),
                                                                                        (19,
                                                                                          [SV.int IntKind.i64 (IE.var 14), SV.int IntKind.i64 (IE.var 15), SV.int IntKind.i64 (IE.var 16), SV.var 17,
                                                                                            SV.var 18]),
                                                                                        (6,
                                                                                          [SV.int IntKind.i64 (IE.var 0), SV.int IntKind.i64 (IE.var 1), SV.int IntKind.i64 (IE.var 2),
                                                                                            SV.int IntKind.i64 (IE.var 3)])]
                                                                                      (VC.split (BE.not (BE.eq (IE.var 34) (IE.lit 0)))
                                                                                        (VC.leaf 0 [SV.bool (BE.lit false)] []
                                                                                          [(30,
                                                                                              [SV.int IntKind.i64 (IE.var 25), SV.int IntKind.i64 (IE.var 26), SV.int IntKind.i64 (IE.var 27),
                                                                                                SV.var 28, SV.var 29]),
                                                                                            (19,
                                                                                              [SV.int IntKind.i64 (IE.var 14), SV.int IntKind.i64 (IE.var 15), SV.int IntKind.i64 (IE.var 16),
                                                                                                SV.var 17, SV.var 18]),
                                                                                            (6,
                                                                                              [SV.int IntKind.i64 (IE.var 0), SV.int IntKind.i64 (IE.var 1), SV.int IntKind.i64 (IE.var 2),
                                                                                                SV.int IntKind.i64 (IE.var 3)])])
                                                                                        (VC.call 30 [SV.var 31, SV.var 28] [Base.bool] (SV.bool (BE.var 35)) [] true [] [] [30, 19, 6]
                                                                                          [(30,
                                                                                              [SV.int IntKind.i64 (IE.var 25), SV.int IntKind.i64 (IE.var 26), SV.int IntKind.i64 (IE.var 27),
                                                                                                SV.var 28, SV.var 29]),
                                                                                            (19,
                                                                                              [SV.int IntKind.i64 (IE.var 14), SV.int IntKind.i64 (IE.var 15), SV.int IntKind.i64 (IE.var 16),
                                                                                                SV.var 17, SV.var 18]),
                                                                                            (6,
                                                                                              [SV.int IntKind.i64 (IE.var 0), SV.int IntKind.i64 (IE.var 1), SV.int IntKind.i64 (IE.var 2),
                                                                                                SV.int IntKind.i64 (IE.var 3)])]
                                                                                          (VC.split (BE.not (BE.var 35))
                                                                                            (VC.leaf 0 [SV.bool (BE.lit false)] []
                                                                                              [(30,
                                                                                                  [SV.int IntKind.i64 (IE.var 25), SV.int IntKind.i64 (IE.var 26), SV.int IntKind.i64 (IE.var 27),
                                                                                                    SV.var 28, SV.var 29]),
                                                                                                (19,
                                                                                                  [SV.int IntKind.i64 (IE.var 14), SV.int IntKind.i64 (IE.var 15), SV.int IntKind.i64 (IE.var 16),
                                                                                                    SV.var 17, SV.var 18]),
                                                                                                (6,
                                                                                                  [SV.int IntKind.i64 (IE.var 0), SV.int IntKind.i64 (IE.var 1), SV.int IntKind.i64 (IE.var 2),
                                                                                                    SV.int IntKind.i64 (IE.var 3)])])
                                                                                            (VC.call 30 [SV.var 32, SV.var 29] [Base.bool] (SV.bool (BE.var 36)) [] true [] [] [30, 19, 6]
                                                                                              [(30,
                                                                                                  [SV.int IntKind.i64 (IE.var 25), SV.int IntKind.i64 (IE.var 26), SV.int IntKind.i64 (IE.var 27),
                                                                                                    SV.var 28, SV.var 29]),
                                                                                                (19,
                                                                                                  [SV.int IntKind.i64 (IE.var 14), SV.int IntKind.i64 (IE.var 15), SV.int IntKind.i64 (IE.var 16),
                                                                                                    SV.var 17, SV.var 18]),
                                                                                                (6,
                                                                                                  [SV.int IntKind.i64 (IE.var 0), SV.int IntKind.i64 (IE.var 1), SV.int IntKind.i64 (IE.var 2),
                                                                                                    SV.int IntKind.i64 (IE.var 3)])]
                                                                                              (VC.split (BE.not (BE.var 36))
                                                                                                (VC.leaf 0 [SV.bool (BE.lit false)] []
                                                                                                  [(30,
                                                                                                      [SV.int IntKind.i64 (IE.var 25), SV.int IntKind.i64 (IE.var 26), SV.int IntKind.i64 (IE.var 27),
                                                                                                        SV.var 28, SV.var 29]),
                                                                                                    (19,
                                                                                                      [SV.int IntKind.i64 (IE.var 14), SV.int IntKind.i64 (IE.var 15), SV.int IntKind.i64 (IE.var 16),
                                                                                                        SV.var 17, SV.var 18]),
                                                                                                    (6,
                                                                                                      [SV.int IntKind.i64 (IE.var 0), SV.int IntKind.i64 (IE.var 1), SV.int IntKind.i64 (IE.var 2),
                                                                                                        SV.int IntKind.i64 (IE.var 3)])])
                                                                                                (VC.call 28 [SV.var 9, SV.int IntKind.i64 (IE.var 21), SV.int IntKind.i64 (IE.var 27)]
                                                                                                  [Base.int IntKind.i64] (SV.int IntKind.i64 (IE.var 37)) [] true [] [] [30, 19, 6]
                                                                                                  [(30,
                                                                                                      [SV.int IntKind.i64 (IE.var 25), SV.int IntKind.i64 (IE.var 26), SV.int IntKind.i64 (IE.var 27),
                                                                                                        SV.var 28, SV.var 29]),
                                                                                                    (19,
                                                                                                      [SV.int IntKind.i64 (IE.var 14), SV.int IntKind.i64 (IE.var 15), SV.int IntKind.i64 (IE.var 16),
                                                                                                        SV.var 17, SV.var 18]),
                                                                                                    (6,
                                                                                                      [SV.int IntKind.i64 (IE.var 0), SV.int IntKind.i64 (IE.var 1), SV.int IntKind.i64 (IE.var 2),
                                                                                                        SV.int IntKind.i64 (IE.var 3)])]
                                                                                                  (VC.split (BE.not (BE.eq (IE.var 37) (IE.lit 2)))
                                                                                                    (VC.leaf 0 [SV.bool (BE.lit false)] []
                                                                                                      [(30,
                                                                                                          [SV.int IntKind.i64 (IE.var 25), SV.int IntKind.i64 (IE.var 26),
                                                                                                            SV.int IntKind.i64 (IE.var 27), SV.var 28, SV.var 29]),
                                                                                                        (19,
                                                                                                          [SV.int IntKind.i64 (IE.var 14), SV.int IntKind.i64 (IE.var 15),
                                                                                                            SV.int IntKind.i64 (IE.var 16), SV.var 17, SV.var 18]),
                                                                                                        (6,
                                                                                                          [SV.int IntKind.i64 (IE.var 0), SV.int IntKind.i64 (IE.var 1), SV.int IntKind.i64 (IE.var 2),
                                                                                                            SV.int IntKind.i64 (IE.var 3)])])
                                                                                                    (VC.call 26 [SV.var 9, SV.int IntKind.i64 (IE.var 21)] [Base.int IntKind.i64]
                                                                                                      (SV.int IntKind.i64 (IE.var 38)) [] true [] [] [30, 19, 6]
                                                                                                      [(30,
                                                                                                          [SV.int IntKind.i64 (IE.var 25), SV.int IntKind.i64 (IE.var 26),
                                                                                                            SV.int IntKind.i64 (IE.var 27), SV.var 28, SV.var 29]),
                                                                                                        (19,
                                                                                                          [SV.int IntKind.i64 (IE.var 14), SV.int IntKind.i64 (IE.var 15),
                                                                                                            SV.int IntKind.i64 (IE.var 16), SV.var 17, SV.var 18]),
                                                                                                        (6,
                                                                                                          [SV.int IntKind.i64 (IE.var 0), SV.int IntKind.i64 (IE.var 1), SV.int IntKind.i64 (IE.var 2),
                                                                                                            SV.int IntKind.i64 (IE.var 3)])]
                                                                                                      (VC.split (BE.le (IE.var 38) (IE.var 27))
                                                                                                        (VC.leaf 0 [SV.bool (BE.lit false)] []
                                                                                                          [(30,
                                                                                                              [SV.int IntKind.i64 (IE.var 25), SV.int IntKind.i64 (IE.var 26),
                                                                                                                SV.int IntKind.i64 (IE.var 27), SV.var 28, SV.var 29]),
                                                                                                            (19,
                                                                                                              [SV.int IntKind.i64 (IE.var 14), SV.int IntKind.i64 (IE.var 15),
                                                                                                                SV.int IntKind.i64 (IE.var 16), SV.var 17, SV.var 18]),
                                                                                                            (6,
                                                                                                              [SV.int IntKind.i64 (IE.var 0), SV.int IntKind.i64 (IE.var 1),
                                                                                                                SV.int IntKind.i64 (IE.var 2), SV.int IntKind.i64 (IE.var 3)])])
                                                                                                        (VC.ob (BE.le (IE.lit (-9223372036854775808)) (IE.add (IE.var 22) (IE.lit 1)))
                                                                                                          (VC.ob (BE.le (IE.add (IE.var 22) (IE.lit 1)) (IE.lit 9223372036854775807))
                                                                                                            (VC.leaf 3 [SV.int IntKind.i64 (IE.add (IE.var 22) (IE.lit 1))] []
                                                                                                              [(30,
                                                                                                                  [SV.int IntKind.i64 (IE.var 25), SV.int IntKind.i64 (IE.var 26),
                                                                                                                    SV.int IntKind.i64 (IE.var 27), SV.var 28, SV.var 29]),
                                                                                                                (19,
                                                                                                                  [SV.int IntKind.i64 (IE.var 14), SV.int IntKind.i64 (IE.var 15),
                                                                                                                    SV.int IntKind.i64 (IE.var 16), SV.var 17, SV.var 18]),
                                                                                                                (6,
                                                                                                                  [SV.int IntKind.i64 (IE.var 0), SV.int IntKind.i64 (IE.var 1),
                                                                                                                    SV.int IntKind.i64 (IE.var 2),
                                                                                                                    SV.int IntKind.i64 (IE.var 3)])])))))))))))))))))))))))))
                                                            (VC.ob (BE.le (IE.lit (-9223372036854775808)) (IE.add (IE.var 21) (IE.lit 1)))
                                                              (VC.ob (BE.le (IE.add (IE.var 21) (IE.lit 1)) (IE.lit 9223372036854775807))
                                                                (VC.leaf 2 [SV.int IntKind.i64 (IE.add (IE.var 21) (IE.lit 1))] []
                                                                  [(19, [SV.int IntKind.i64 (IE.var 14), SV.int IntKind.i64 (IE.var 15), SV.int IntKind.i64 (IE.var 16), SV.var 17, SV.var 18]),
                                                                    (6,
                                                                      [SV.int IntKind.i64 (IE.var 0), SV.int IntKind.i64 (IE.var 1), SV.int IntKind.i64 (IE.var 2),
                                                                        SV.int IntKind.i64 (IE.var 3)])]))))))))))
                                              (VC.ob (BE.le (IE.lit (-9223372036854775808)) (IE.add (IE.var 13) (IE.lit 1)))
                                                (VC.ob (BE.le (IE.add (IE.var 13) (IE.lit 1)) (IE.lit 9223372036854775807))
                                                  (VC.leaf 1 [SV.int IntKind.i64 (IE.add (IE.var 13) (IE.lit 1))] []
                                                    [(19, [SV.int IntKind.i64 (IE.var 14), SV.int IntKind.i64 (IE.var 15), SV.int IntKind.i64 (IE.var 16), SV.var 17, SV.var 18]),
                                                      (6, [SV.int IntKind.i64 (IE.var 0), SV.int IntKind.i64 (IE.var 1), SV.int IntKind.i64 (IE.var 2), SV.int IntKind.i64 (IE.var 3)])]))))))))))))))
                        (VC.call 11 [] [Base.bool] (SV.bool (BE.var 14)) [] false [] [] [6]
                          [(6, [SV.int IntKind.i64 (IE.var 0), SV.int IntKind.i64 (IE.var 1), SV.int IntKind.i64 (IE.var 2), SV.int IntKind.i64 (IE.var 3)])]
                          (VC.leaf 0 [SV.bool (BE.var 14)] []
                            [(6, [SV.int IntKind.i64 (IE.var 0), SV.int IntKind.i64 (IE.var 1), SV.int IntKind.i64 (IE.var 2), SV.int IntKind.i64 (IE.var 3)])]))))))))))))) := by kernel_rfl

end Go.Proofs.Ytppbapnibpeolaa
