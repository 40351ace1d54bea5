/- What the functions of the chapter come to, printed by a program of the prover's and checked by the kernel. No conditions. -/
import Derived.Test.YtppbapnibpeolaaSxZI
import Derived.Test.YtppbapnibpeolaaProg
import Derived.KernelRfl
set_option maxRecDepth 100000
set_option linter.unusedVariables false
namespace Go.Proofs.Ytppbapnibpeolaa
open Go.Sx

theorem t29 : exFn { P := Try.prog, loops := fun r => if Nat.beq r 5 then some ⟨1, [(26, .int .i64)], []⟩ else if Nat.beq r 10 then some ⟨2, [(41, .int .i64)], []⟩ else none } 29 [.agg [.int .i64 (.var 0), .int .i64 (.var 1), .int .i64 (.var 2), .int .i64 (.var 3)], .var 4] [.int .i64, .int .i64, .int .i64, .int .i64, .slice] [] =
  VC.blk
  (VC.call 55 [SV.agg [SV.int IntKind.i64 (IE.var 0), SV.int IntKind.i64 (IE.var 1), SV.int IntKind.i64 (IE.var 2), SV.int IntKind.i64 (IE.var 3)]] [Base.bool] (SV.bool (BE.var 6)) [] false [] [] [5]
    [(5, [SV.int IntKind.i64 (IE.var 0), SV.int IntKind.i64 (IE.var 1), SV.int IntKind.i64 (IE.var 2), SV.int IntKind.i64 (IE.var 3)])]
    (VC.split (BE.not (BE.var 6))
      (VC.leaf 0 [SV.tuple [SV.cst (Value.pointer none), SV.int IntKind.i64 (IE.lit 2)]] []
        [(5, [SV.int IntKind.i64 (IE.var 0), SV.int IntKind.i64 (IE.var 1), SV.int IntKind.i64 (IE.var 2), SV.int IntKind.i64 (IE.var 3)])])
      (VC.call 56 [SV.var 4, SV.fn 57 []] [Base.bool] (SV.bool (BE.var 7)) [] false [] [] [5]
        [(5, [SV.int IntKind.i64 (IE.var 0), SV.int IntKind.i64 (IE.var 1), SV.int IntKind.i64 (IE.var 2), SV.int IntKind.i64 (IE.var 3)])]
        (VC.split (BE.var 7)
          (VC.leaf 0 [SV.tuple [SV.cst (Value.pointer none), SV.int IntKind.i64 (IE.lit 2)]] []
            [(5, [SV.int IntKind.i64 (IE.var 0), SV.int IntKind.i64 (IE.var 1), SV.int IntKind.i64 (IE.var 2), SV.int IntKind.i64 (IE.var 3)])])
          (VC.start true [] [5] [(5, [SV.int IntKind.i64 (IE.var 0), SV.int IntKind.i64 (IE.var 1), SV.int IntKind.i64 (IE.var 2), SV.int IntKind.i64 (IE.var 3)])]
            (VC.both
              (VC.gen (Op.makeMap 47 none) 47 [] [Base.map] (SV.var 8) [] true [] [] [5]
                [(5, [SV.int IntKind.i64 (IE.var 0), SV.int IntKind.i64 (IE.var 1), SV.int IntKind.i64 (IE.var 2), SV.int IntKind.i64 (IE.var 3)])]
                (VC.gen (Op.makeSlice 48 (Operand.tmp 20) (Operand.tmp 20)) 48 [(Operand.tmp 20, SV.int IntKind.i64 (IE.var 0)), (Operand.tmp 20, SV.int IntKind.i64 (IE.var 0))] [Base.slice]
                  (SV.var 9) [] true [] [] [5] [(5, [SV.int IntKind.i64 (IE.var 0), SV.int IntKind.i64 (IE.var 1), SV.int IntKind.i64 (IE.var 2), SV.int IntKind.i64 (IE.var 3)])]
                  (VC.blk
                    (VC.loop 1 [SV.int IntKind.i64 (IE.lit 0)] [Base.int IntKind.i64] [] [10, 5]
                      [(10,
                          [SV.int IntKind.i64 (IE.var 0), SV.int IntKind.i64 (IE.var 1), SV.int IntKind.i64 (IE.var 2), SV.int IntKind.i64 (IE.var 3), SV.var 8, SV.var 9,
                            SV.int IntKind.i64 (IE.lit 0), SV.int IntKind.i64 (IE.lit (-1)), SV.int IntKind.i64 (IE.lit 0), SV.bool (BE.lit false)]),
                        (5, [SV.int IntKind.i64 (IE.var 0), SV.int IntKind.i64 (IE.var 1), SV.int IntKind.i64 (IE.var 2), SV.int IntKind.i64 (IE.var 3)])]
                      [(10,
                          [SV.int IntKind.i64 (IE.var 0), SV.int IntKind.i64 (IE.var 1), SV.int IntKind.i64 (IE.var 2), SV.int IntKind.i64 (IE.var 3), SV.var 8, SV.var 9,
                            SV.int IntKind.i64 (IE.lit 0), SV.int IntKind.i64 (IE.lit (-1)), SV.int IntKind.i64 (IE.lit 0), SV.bool (BE.lit false)]),
                        (5, [SV.int IntKind.i64 (IE.var 0), SV.int IntKind.i64 (IE.var 1), SV.int IntKind.i64 (IE.var 2), SV.int IntKind.i64 (IE.var 3)])]
                      (VC.split (BE.lt (IE.var 11) (IE.len 4))
                        (VC.ob (BE.le (IE.lit 0) (IE.var 11))
                          (VC.ob (BE.lt (IE.var 11) (IE.len 4))
                            (VC.ob (BE.not (BE.nil 4))
                              (VC.start false [] []
                                [(10,
                                    [SV.int IntKind.i64 (IE.var 0), SV.int IntKind.i64 (IE.var 1), SV.int IntKind.i64 (IE.var 2), SV.int IntKind.i64 (IE.var 3), SV.var 8, SV.var 9,
                                      SV.int IntKind.i64 (IE.lit 0), SV.int IntKind.i64 (IE.lit (-1)), SV.int IntKind.i64 (IE.lit 0), SV.bool (BE.lit false)]),
                                  (5, [SV.int IntKind.i64 (IE.var 0), SV.int IntKind.i64 (IE.var 1), SV.int IntKind.i64 (IE.var 2), SV.int IntKind.i64 (IE.var 3)])]
                                (VC.load (SV.elt 4 0 (IE.var 11) 1 0) [Base.int IntKind.i64]
                                  (VC.gen (Op.mapUpdate 47 (Operand.tmp 33) (Operand.tmp 34) (Operand.const (Value.bool true))) 0
                                    [(Operand.tmp 33, SV.var 8), (Operand.tmp 34, SV.int IntKind.i64 (IE.var 12)), (Operand.const (Value.bool true), SV.bool (BE.lit true))] []
                                    (SV.cst (Value.tuple #[])) [] false [] [] [10, 5]
                                    [(10,
                                        [SV.int IntKind.i64 (IE.var 0), SV.int IntKind.i64 (IE.var 1), SV.int IntKind.i64 (IE.var 2), SV.int IntKind.i64 (IE.var 3), SV.var 8, SV.var 9,
                                          SV.int IntKind.i64 (IE.lit 0), SV.int IntKind.i64 (IE.lit (-1)), SV.int IntKind.i64 (IE.lit 0), SV.bool (BE.lit false)]),
                                      (5, [SV.int IntKind.i64 (IE.var 0), SV.int IntKind.i64 (IE.var 1), SV.int IntKind.i64 (IE.var 2), SV.int IntKind.i64 (IE.var 3)])]
                                    (VC.ob (BE.le (IE.lit (-9223372036854775808)) (IE.add (IE.var 11) (IE.lit 1)))
                                      (VC.ob (BE.le (IE.add (IE.var 11) (IE.lit 1)) (IE.lit 9223372036854775807))
                                        (VC.leaf 1 [SV.int IntKind.i64 (IE.add (IE.var 11) (IE.lit 1))] []
                                          [(10,
                                              [SV.int IntKind.i64 (IE.var 0), SV.int IntKind.i64 (IE.var 1), SV.int IntKind.i64 (IE.var 2), SV.int IntKind.i64 (IE.var 3), SV.var 8, SV.var 9,
                                                SV.int IntKind.i64 (IE.lit 0), SV.int IntKind.i64 (IE.lit (-1)), SV.int IntKind.i64 (IE.lit 0), SV.bool (BE.lit false)]),
                                            (5, [SV.int IntKind.i64 (IE.var 0), SV.int IntKind.i64 (IE.var 1), SV.int IntKind.i64 (IE.var 2), SV.int IntKind.i64 (IE.var 3)])])))))))))
                        (VC.loop 2 [SV.int IntKind.i64 (IE.lit 0)] [Base.int IntKind.i64] [] [10, 5]
                          [(10,
                              [SV.int IntKind.i64 (IE.var 0), SV.int IntKind.i64 (IE.var 1), SV.int IntKind.i64 (IE.var 2), SV.int IntKind.i64 (IE.var 3), SV.var 8, SV.var 9,
                                SV.int IntKind.i64 (IE.lit 0), SV.int IntKind.i64 (IE.lit (-1)), SV.int IntKind.i64 (IE.lit 0), SV.bool (BE.lit false)]),
                            (5, [SV.int IntKind.i64 (IE.var 0), SV.int IntKind.i64 (IE.var 1), SV.int IntKind.i64 (IE.var 2), SV.int IntKind.i64 (IE.var 3)])]
                          [(10,
                              [SV.int IntKind.i64 (IE.var 0), SV.int IntKind.i64 (IE.var 1), SV.int IntKind.i64 (IE.var 2), SV.int IntKind.i64 (IE.var 3), SV.var 8, SV.var 9,
                                SV.int IntKind.i64 (IE.lit 0), SV.int IntKind.i64 (IE.lit (-1)), SV.int IntKind.i64 (IE.lit 0), SV.bool (BE.lit false)]),
                            (5, [SV.int IntKind.i64 (IE.var 0), SV.int IntKind.i64 (IE.var 1), SV.int IntKind.i64 (IE.var 2), SV.int IntKind.i64 (IE.var 3)])]
                          (VC.split (BE.lt (IE.var 12) (IE.len 9))
                            (VC.start true [] [10, 5]
                              [(10,
                                  [SV.int IntKind.i64 (IE.var 0), SV.int IntKind.i64 (IE.var 1), SV.int IntKind.i64 (IE.var 2), SV.int IntKind.i64 (IE.var 3), SV.var 8, SV.var 9,
                                    SV.int IntKind.i64 (IE.lit 0), SV.int IntKind.i64 (IE.lit (-1)), SV.int IntKind.i64 (IE.lit 0), SV.bool (BE.lit false)]),
                                (5, [SV.int IntKind.i64 (IE.var 0), SV.int IntKind.i64 (IE.var 1), SV.int IntKind.i64 (IE.var 2), SV.int IntKind.i64 (IE.var 3)])]
                              (VC.ob (BE.le (IE.lit 0) (IE.var 12))
                                (VC.ob (BE.lt (IE.var 12) (IE.len 9))
                                  (VC.ob (BE.not (BE.nil 9))
                                    (VC.call 58 [SV.elt 9 0 (IE.var 12) 3 0, SV.int IntKind.i64 (IE.var 1), SV.int IntKind.i64 (IE.lit 1)] [] (SV.tuple []) [] true [] [] [10, 5]
                                      [(10,
                                          [SV.int IntKind.i64 (IE.var 0), SV.int IntKind.i64 (IE.var 1), SV.int IntKind.i64 (IE.var 2), SV.int IntKind.i64 (IE.var 3), SV.var 8, SV.var 9,
                                            SV.int IntKind.i64 (IE.lit 0), SV.int IntKind.i64 (IE.lit (-1)), SV.int IntKind.i64 (IE.lit 0), SV.bool (BE.lit false)]),
                                        (5, [SV.int IntKind.i64 (IE.var 0), SV.int IntKind.i64 (IE.var 1), SV.int IntKind.i64 (IE.var 2), SV.int IntKind.i64 (IE.var 3)])]
                                      (VC.ob (BE.le (IE.lit (-9223372036854775808)) (IE.add (IE.var 12) (IE.lit 1)))
                                        (VC.ob (BE.le (IE.add (IE.var 12) (IE.lit 1)) (IE.lit 9223372036854775807))
                                          (VC.leaf 2 [SV.int IntKind.i64 (IE.add (IE.var 12) (IE.lit 1))] []
                                            [(10,
                                                [SV.int IntKind.i64 (IE.var 0), SV.int IntKind.i64 (IE.var 1), SV.int IntKind.i64 (IE.var 2), SV.int IntKind.i64 (IE.var 3), SV.var 8, SV.var 9,
                                                  SV.int IntKind.i64 (IE.lit 0), SV.int IntKind.i64 (IE.lit (-1)), SV.int IntKind.i64 (IE.lit 0), SV.bool (BE.lit false)]),
                                              (5, [SV.int IntKind.i64 (IE.var 0), SV.int IntKind.i64 (IE.var 1), SV.int IntKind.i64 (IE.var 2), SV.int IntKind.i64 (IE.var 3)])]))))))))
                            (VC.leaf 0 [SV.tuple [SV.ptr 10 0, SV.int IntKind.i64 (IE.lit 0)]] []
                              [(10,
                                  [SV.int IntKind.i64 (IE.var 0), SV.int IntKind.i64 (IE.var 1), SV.int IntKind.i64 (IE.var 2), SV.int IntKind.i64 (IE.var 3), SV.var 8, SV.var 9,
                                    SV.int IntKind.i64 (IE.lit 0), SV.int IntKind.i64 (IE.lit (-1)), SV.int IntKind.i64 (IE.lit 0), SV.bool (BE.lit false)]),
                                (5, [SV.int IntKind.i64 (IE.var 0), SV.int IntKind.i64 (IE.var 1), SV.int IntKind.i64 (IE.var 2), SV.int IntKind.i64 (IE.var 3)])]))))))))
              (VC.gen (Op.makeSlice 48 (Operand.tmp 20) (Operand.tmp 20)) 48 [(Operand.tmp 20, SV.int IntKind.i64 (IE.var 0)), (Operand.tmp 20, SV.int IntKind.i64 (IE.var 0))] [Base.slice] (SV.var 8)
                [] true [] [] [5] [(5, [SV.int IntKind.i64 (IE.var 0), SV.int IntKind.i64 (IE.var 1), SV.int IntKind.i64 (IE.var 2), SV.int IntKind.i64 (IE.var 3)])]
                (VC.gen (Op.makeMap 47 none) 47 [] [Base.map] (SV.var 9) [] true [] [] [5]
                  [(5, [SV.int IntKind.i64 (IE.var 0), SV.int IntKind.i64 (IE.var 1), SV.int IntKind.i64 (IE.var 2), SV.int IntKind.i64 (IE.var 3)])]
                  (VC.blk
                    (VC.loop 1 [SV.int IntKind.i64 (IE.lit 0)] [Base.int IntKind.i64] [] [10, 5]
                      [(10,
                          [SV.int IntKind.i64 (IE.var 0), SV.int IntKind.i64 (IE.var 1), SV.int IntKind.i64 (IE.var 2), SV.int IntKind.i64 (IE.var 3), SV.var 9, SV.var 8,
                            SV.int IntKind.i64 (IE.lit 0), SV.int IntKind.i64 (IE.lit (-1)), SV.int IntKind.i64 (IE.lit 0), SV.bool (BE.lit false)]),
                        (5, [SV.int IntKind.i64 (IE.var 0), SV.int IntKind.i64 (IE.var 1), SV.int IntKind.i64 (IE.var 2), SV.int IntKind.i64 (IE.var 3)])]
                      [(10,
                          [SV.int IntKind.i64 (IE.var 0), SV.int IntKind.i64 (IE.var 1), SV.int IntKind.i64 (IE.var 2), SV.int IntKind.i64 (IE.var 3), SV.var 9, SV.var 8,
                            SV.int IntKind.i64 (IE.lit 0), SV.int IntKind.i64 (IE.lit (-1)), SV.int IntKind.i64 (IE.lit 0), SV.bool (BE.lit false)]),
                        (5, [SV.int IntKind.i64 (IE.var 0), SV.int IntKind.i64 (IE.var 1), SV.int IntKind.i64 (IE.var 2), SV.int IntKind.i64 (IE.var 3)])]
                      (VC.split (BE.lt (IE.var 11) (IE.len 4))
                        (VC.ob (BE.le (IE.lit 0) (IE.var 11))
                          (VC.ob (BE.lt (IE.var 11) (IE.len 4))
                            (VC.ob (BE.not (BE.nil 4))
                              (VC.start false [] []
                                [(10,
                                    [SV.int IntKind.i64 (IE.var 0), SV.int IntKind.i64 (IE.var 1), SV.int IntKind.i64 (IE.var 2), SV.int IntKind.i64 (IE.var 3), SV.var 9, SV.var 8,
                                      SV.int IntKind.i64 (IE.lit 0), SV.int IntKind.i64 (IE.lit (-1)), SV.int IntKind.i64 (IE.lit 0), SV.bool (BE.lit false)]),
                                  (5, [SV.int IntKind.i64 (IE.var 0), SV.int IntKind.i64 (IE.var 1), SV.int IntKind.i64 (IE.var 2), SV.int IntKind.i64 (IE.var 3)])]
                                (VC.load (SV.elt 4 0 (IE.var 11) 1 0) [Base.int IntKind.i64]
                                  (VC.gen (Op.mapUpdate 47 (Operand.tmp 33) (Operand.tmp 34) (Operand.const (Value.bool true))) 0
                                    [(Operand.tmp 33, SV.var 9), (Operand.tmp 34, SV.int IntKind.i64 (IE.var 12)), (Operand.const (Value.bool true), SV.bool (BE.lit true))] []
                                    (SV.cst (Value.tuple #[])) [] false [] [] [10, 5]
                                    [(10,
                                        [SV.int IntKind.i64 (IE.var 0), SV.int IntKind.i64 (IE.var 1), SV.int IntKind.i64 (IE.var 2), SV.int IntKind.i64 (IE.var 3), SV.var 9, SV.var 8,
                                          SV.int IntKind.i64 (IE.lit 0), SV.int IntKind.i64 (IE.lit (-1)), SV.int IntKind.i64 (IE.lit 0), SV.bool (BE.lit false)]),
                                      (5, [SV.int IntKind.i64 (IE.var 0), SV.int IntKind.i64 (IE.var 1), SV.int IntKind.i64 (IE.var 2), SV.int IntKind.i64 (IE.var 3)])]
                                    (VC.ob (BE.le (IE.lit (-9223372036854775808)) (IE.add (IE.var 11) (IE.lit 1)))
                                      (VC.ob (BE.le (IE.add (IE.var 11) (IE.lit 1)) (IE.lit 9223372036854775807))
                                        (VC.leaf 1 [SV.int IntKind.i64 (IE.add (IE.var 11) (IE.lit 1))] []
                                          [(10,
                                              [SV.int IntKind.i64 (IE.var 0), SV.int IntKind.i64 (IE.var 1), SV.int IntKind.i64 (IE.var 2), SV.int IntKind.i64 (IE.var 3), SV.var 9, SV.var 8,
                                                SV.int IntKind.i64 (IE.lit 0), SV.int IntKind.i64 (IE.lit (-1)), SV.int IntKind.i64 (IE.lit 0), SV.bool (BE.lit false)]),
                                            (5, [SV.int IntKind.i64 (IE.var 0), SV.int IntKind.i64 (IE.var 1), SV.int IntKind.i64 (IE.var 2), SV.int IntKind.i64 (IE.var 3)])])))))))))
                        (VC.loop 2 [SV.int IntKind.i64 (IE.lit 0)] [Base.int IntKind.i64] [] [10, 5]
                          [(10,
                              [SV.int IntKind.i64 (IE.var 0), SV.int IntKind.i64 (IE.var 1), SV.int IntKind.i64 (IE.var 2), SV.int IntKind.i64 (IE.var 3), SV.var 9, SV.var 8,
                                SV.int IntKind.i64 (IE.lit 0), SV.int IntKind.i64 (IE.lit (-1)), SV.int IntKind.i64 (IE.lit 0), SV.bool (BE.lit false)]),
                            (5, [SV.int IntKind.i64 (IE.var 0), SV.int IntKind.i64 (IE.var 1), SV.int IntKind.i64 (IE.var 2), SV.int IntKind.i64 (IE.var 3)])]
                          [(10,
                              [SV.int IntKind.i64 (IE.var 0), SV.int IntKind.i64 (IE.var 1), SV.int IntKind.i64 (IE.var 2), SV.int IntKind.i64 (IE.var 3), SV.var 9, SV.var 8,
                                SV.int IntKind.i64 (IE.lit 0), SV.int IntKind.i64 (IE.lit (-1)), SV.int IntKind.i64 (IE.lit 0), SV.bool (BE.lit false)]),
                            (5, [SV.int IntKind.i64 (IE.var 0), SV.int IntKind.i64 (IE.var 1), SV.int IntKind.i64 (IE.var 2), SV.int IntKind.i64 (IE.var 3)])]
                          (VC.split (BE.lt (IE.var 12) (IE.len 8))
                            (VC.start true [] [10, 5]
                              [(10,
                                  [SV.int IntKind.i64 (IE.var 0), SV.int IntKind.i64 (IE.var 1), SV.int IntKind.i64 (IE.var 2), SV.int IntKind.i64 (IE.var 3), SV.var 9, SV.var 8,
                                    SV.int IntKind.i64 (IE.lit 0), SV.int IntKind.i64 (IE.lit (-1)), SV.int IntKind.i64 (IE.lit 0), SV.bool (BE.lit false)]),
                                (5, [SV.int IntKind.i64 (IE.var 0), SV.int IntKind.i64 (IE.var 1), SV.int IntKind.i64 (IE.var 2), SV.int IntKind.i64 (IE.var 3)])]
                              (VC.ob (BE.le (IE.lit 0) (IE.var 12))
                                (VC.ob (BE.lt (IE.var 12) (IE.len 8))
                                  (VC.ob (BE.not (BE.nil 8))
                                    (VC.call 58 [SV.elt 8 0 (IE.var 12) 3 0, SV.int IntKind.i64 (IE.var 1), SV.int IntKind.i64 (IE.lit 1)] [] (SV.tuple []) [] true [] [] [10, 5]
                                      [(10,
                                          [SV.int IntKind.i64 (IE.var 0), SV.int IntKind.i64 (IE.var 1), SV.int IntKind.i64 (IE.var 2), SV.int IntKind.i64 (IE.var 3), SV.var 9, SV.var 8,
                                            SV.int IntKind.i64 (IE.lit 0), SV.int IntKind.i64 (IE.lit (-1)), SV.int IntKind.i64 (IE.lit 0), SV.bool (BE.lit false)]),
                                        (5, [SV.int IntKind.i64 (IE.var 0), SV.int IntKind.i64 (IE.var 1), SV.int IntKind.i64 (IE.var 2), SV.int IntKind.i64 (IE.var 3)])]
                                      (VC.ob (BE.le (IE.lit (-9223372036854775808)) (IE.add (IE.var 12) (IE.lit 1)))
                                        (VC.ob (BE.le (IE.add (IE.var 12) (IE.lit 1)) (IE.lit 9223372036854775807))
                                          (VC.leaf 2 [SV.int IntKind.i64 (IE.add (IE.var 12) (IE.lit 1))] []
                                            [(10,
                                                [SV.int IntKind.i64 (IE.var 0), SV.int IntKind.i64 (IE.var 1), SV.int IntKind.i64 (IE.var 2), SV.int IntKind.i64 (IE.var 3), SV.var 9, SV.var 8,
                                                  SV.int IntKind.i64 (IE.lit 0), SV.int IntKind.i64 (IE.lit (-1)), SV.int IntKind.i64 (IE.lit 0), SV.bool (BE.lit false)]),
                                              (5, [SV.int IntKind.i64 (IE.var 0), SV.int IntKind.i64 (IE.var 1), SV.int IntKind.i64 (IE.var 2), SV.int IntKind.i64 (IE.var 3)])]))))))))
                            (VC.leaf 0 [SV.tuple [SV.ptr 10 0, SV.int IntKind.i64 (IE.lit 0)]] []
                              [(10,
                                  [SV.int IntKind.i64 (IE.var 0), SV.int IntKind.i64 (IE.var 1), SV.int IntKind.i64 (IE.var 2), SV.int IntKind.i64 (IE.var 3), SV.var 9, SV.var 8,
                                    SV.int IntKind.i64 (IE.lit 0), SV.int IntKind.i64 (IE.lit (-1)), SV.int IntKind.i64 (IE.lit 0), SV.bool (BE.lit false)]),
                                (5, [SV.int IntKind.i64 (IE.var 0), SV.int IntKind.i64 (IE.var 1), SV.int IntKind.i64 (IE.var 2), SV.int IntKind.i64 (IE.var 3)])])))))))))))))) := by kernel_rfl

theorem t63p : exFn { P := Try.prog } 63 [.var 0, .fn 64 [.ptr 1 0, .ptr 2 0], .fn 65 [.ptr 3 0], .fn 66 [.ptr 4 0, .ptr 5 0, .ptr 6 0], .int .i64 (.var 7)] [.ptr, .ptr, .ptr, .ptr, .ptr, .ptr, .ptr, .int .i64] [] =
  VC.ob (BE.not (BE.nil 0))
  (VC.start false [] [] []
    (VC.load (SV.ptr 0 6) [Base.int IntKind.i64]
      (VC.start false [] [] []
        (VC.load (SV.ptr 0 6) [Base.int IntKind.i64]
          (VC.ob (BE.le (IE.lit (-9223372036854775808)) (IE.add (IE.var 9) (IE.lit 1)))
            (VC.ob (BE.le (IE.add (IE.var 9) (IE.lit 1)) (IE.lit 9223372036854775807))
              (VC.gen (Op.store 3 (Operand.tmp 22) (Operand.tmp 20)) 0 [(Operand.tmp 22, SV.ptr 0 6), (Operand.tmp 20, SV.int IntKind.i64 (IE.add (IE.var 9) (IE.lit 1)))] [] (SV.cst (Value.tuple #[]))
                [] false [] [] [] []
                (VC.start false [] [] []
                  (VC.load (SV.ptr 0 7) [Base.int IntKind.i64]
                    (VC.split (BE.eq (IE.var 8) (IE.var 10))
                      (VC.gen (Op.store 4 (Operand.tmp 32) (Operand.const (Value.bool true))) 0 [(Operand.tmp 32, SV.ptr 0 9), (Operand.const (Value.bool true), SV.bool (BE.lit true))] []
                        (SV.cst (Value.tuple #[])) [] false [] [] [] []
                        (VC.call 66 [SV.ptr 4 0, SV.ptr 5 0, SV.ptr 6 0] [] (SV.tuple []) [] false [] [] [] [] (VC.leaf 0 [SV.int IntKind.i64 (IE.lit 50)] [] [])))
                      (VC.start false [] [] []
                        (VC.load (SV.ptr 0 4) [Base.map]
                          (VC.gen (Op.lookup 47 (Operand.tmp 39) (Operand.tmp 40) false) 4 [(Operand.tmp 39, SV.var 11), (Operand.tmp 40, SV.int IntKind.i64 (IE.var 8))] [Base.bool]
                            (SV.bool (BE.var 12)) [] false [] [] [] []
                            (VC.split (BE.var 12) (VC.call 65 [SV.ptr 3 0] [] (SV.tuple []) [] false [] [] [] [] (VC.leaf 0 [SV.int IntKind.i64 (IE.var 7)] [] []))
                              (VC.call 64 [SV.ptr 1 0, SV.ptr 2 0] [] (SV.tuple []) [] false [] [] [] [] (VC.leaf 0 [SV.int IntKind.i64 (IE.lit 0)] [] [])))))))))))))))) := by kernel_rfl

theorem t63e : exFn { P := Try.prog } 63 [.var 0, .fn 69 [.ptr 1 0, .ptr 2 0], .fn 68 [.ptr 3 0, .ptr 4 0], .fn 68 [.ptr 5 0, .ptr 6 0], .int .i64 (.var 7)] [.ptr, .ptr, .ptr, .ptr, .ptr, .ptr, .ptr, .int .i64] [] =
  VC.ob (BE.not (BE.nil 0))
  (VC.start false [] [] []
    (VC.load (SV.ptr 0 6) [Base.int IntKind.i64]
      (VC.start false [] [] []
        (VC.load (SV.ptr 0 6) [Base.int IntKind.i64]
          (VC.ob (BE.le (IE.lit (-9223372036854775808)) (IE.add (IE.var 9) (IE.lit 1)))
            (VC.ob (BE.le (IE.add (IE.var 9) (IE.lit 1)) (IE.lit 9223372036854775807))
              (VC.gen (Op.store 3 (Operand.tmp 22) (Operand.tmp 20)) 0 [(Operand.tmp 22, SV.ptr 0 6), (Operand.tmp 20, SV.int IntKind.i64 (IE.add (IE.var 9) (IE.lit 1)))] [] (SV.cst (Value.tuple #[]))
                [] false [] [] [] []
                (VC.start false [] [] []
                  (VC.load (SV.ptr 0 7) [Base.int IntKind.i64]
                    (VC.split (BE.eq (IE.var 8) (IE.var 10))
                      (VC.gen (Op.store 4 (Operand.tmp 32) (Operand.const (Value.bool true))) 0 [(Operand.tmp 32, SV.ptr 0 9), (Operand.const (Value.bool true), SV.bool (BE.lit true))] []
                        (SV.cst (Value.tuple #[])) [] false [] [] [] [] (VC.call 68 [SV.ptr 5 0, SV.ptr 6 0] [] (SV.tuple []) [] false [] [] [] [] (VC.leaf 0 [SV.int IntKind.i64 (IE.lit 50)] [] [])))
                      (VC.start false [] [] []
                        (VC.load (SV.ptr 0 4) [Base.map]
                          (VC.gen (Op.lookup 47 (Operand.tmp 39) (Operand.tmp 40) false) 4 [(Operand.tmp 39, SV.var 11), (Operand.tmp 40, SV.int IntKind.i64 (IE.var 8))] [Base.bool]
                            (SV.bool (BE.var 12)) [] false [] [] [] []
                            (VC.split (BE.var 12) (VC.call 68 [SV.ptr 3 0, SV.ptr 4 0] [] (SV.tuple []) [] false [] [] [] [] (VC.leaf 0 [SV.int IntKind.i64 (IE.var 7)] [] []))
                              (VC.call 69 [SV.ptr 1 0, SV.ptr 2 0] [] (SV.tuple []) [] false [] [] [] [] (VC.leaf 0 [SV.int IntKind.i64 (IE.lit 0)] [] [])))))))))))))))) := by kernel_rfl

end Go.Proofs.Ytppbapnibpeolaa
