/- What the functions of the chapter come to, printed by a program of the prover's and checked by the kernel. No conditions. -/
import Derived.Test.YtppbapnibpeolaaSxZI
import Derived.Test.YtppbapnibpeolaaProg
import Derived.KernelRfl
set_option maxRecDepth 100000
set_option linter.unusedVariables false
namespace Go.Proofs.Ytppbapnibpeolaa
open Go.Sx

theorem t11 : exFn { P := Try.prog } 11 [] [] [] =
  VC.blk
  (VC.call 29 [SV.agg [SV.int IntKind.i64 (IE.lit 2), SV.int IntKind.i64 (IE.lit 2), SV.int IntKind.i64 (IE.lit 2), SV.int IntKind.i64 (IE.lit 2)], SV.slc 0 0 1 1] [Base.ptr, Base.int IntKind.i64]
    (SV.tuple [SV.var 1, SV.int IntKind.i64 (IE.var 2)]) [] false [] [] [0] [(0, [SV.int IntKind.i64 (IE.lit 2)])]
    (VC.call 32 [SV.int IntKind.i64 (IE.lit 64), SV.int IntKind.u8 (IE.lit 7)] [Base.slice] (SV.var 3) [] false [] [] [0] [(0, [SV.int IntKind.i64 (IE.lit 2)])]
      (VC.call 18 [SV.int IntKind.i64 (IE.var 2)] [Base.int IntKind.i64] (SV.int IntKind.i64 (IE.var 4)) [] false [] [] [0] [(0, [SV.int IntKind.i64 (IE.lit 2)])]
        (VC.split (BE.not (BE.eq (IE.var 4) (IE.lit 0))) (VC.leaf 0 [SV.bool (BE.lit false)] [] [(0, [SV.int IntKind.i64 (IE.lit 2)])])
          (VC.split (BE.nil 1) (VC.leaf 0 [SV.bool (BE.lit false)] [] [(0, [SV.int IntKind.i64 (IE.lit 2)])])
            (VC.blk
              (VC.gen (Op.convert 26 26 (Operand.tmp 38)) 26 [(Operand.tmp 38, SV.slc 5 0 2 2)] [Base.slice] (SV.var 6) [] false [] [] [0]
                [(5, [SV.int IntKind.u8 (IE.lit 97), SV.int IntKind.u8 (IE.lit 98)]), (0, [SV.int IntKind.i64 (IE.lit 2)])]
                (VC.call 19 [SV.var 1, SV.int IntKind.i64 (IE.lit 0), SV.int IntKind.i64 (IE.lit 0), SV.var 6, SV.var 3] [Base.int IntKind.i64] (SV.int IntKind.i64 (IE.var 7)) [] false [] [] [0]
                  [(0, [SV.int IntKind.i64 (IE.lit 2)])]
                  (VC.call 18 [SV.int IntKind.i64 (IE.var 7)] [Base.int IntKind.i64] (SV.int IntKind.i64 (IE.var 8)) [] false [] [] [0] [(0, [SV.int IntKind.i64 (IE.lit 2)])]
                    (VC.split (BE.not (BE.eq (IE.var 8) (IE.lit 0))) (VC.leaf 0 [SV.bool (BE.lit false)] [] [(0, [SV.int IntKind.i64 (IE.lit 2)])])
                      (VC.blk
                        (VC.gen (Op.convert 26 26 (Operand.tmp 47)) 26 [(Operand.tmp 47, SV.slc 9 0 2 2)] [Base.slice] (SV.var 10) [] false [] [] [0]
                          [(9, [SV.int IntKind.u8 (IE.lit 99), SV.int IntKind.u8 (IE.lit 100)]), (0, [SV.int IntKind.i64 (IE.lit 2)])]
                          (VC.call 19 [SV.var 1, SV.int IntKind.i64 (IE.lit 0), SV.int IntKind.i64 (IE.lit 0), SV.var 10, SV.var 3] [Base.int IntKind.i64] (SV.int IntKind.i64 (IE.var 11)) [] false []
                            [] [0] [(0, [SV.int IntKind.i64 (IE.lit 2)])]
                            (VC.split (BE.not (BE.eq (IE.var 11) (IE.lit 51))) (VC.leaf 0 [SV.bool (BE.lit false)] [] [(0, [SV.int IntKind.i64 (IE.lit 2)])])
                              (VC.blk
                                (VC.gen (Op.convert 26 26 (Operand.tmp 55)) 26 [(Operand.tmp 55, SV.slc 12 0 2 2)] [Base.slice] (SV.var 13) [] false [] [] [0]
                                  [(12, [SV.int IntKind.u8 (IE.lit 99), SV.int IntKind.u8 (IE.lit 100)]), (0, [SV.int IntKind.i64 (IE.lit 2)])]
                                  (VC.call 19 [SV.var 1, SV.int IntKind.i64 (IE.lit 1), SV.int IntKind.i64 (IE.lit 1), SV.var 13, SV.var 3] [Base.int IntKind.i64] (SV.int IntKind.i64 (IE.var 14)) []
                                    false [] [] [0] [(0, [SV.int IntKind.i64 (IE.lit 2)])]
                                    (VC.split (BE.not (BE.eq (IE.var 14) (IE.lit 51))) (VC.leaf 0 [SV.bool (BE.lit false)] [] [(0, [SV.int IntKind.i64 (IE.lit 2)])])
                                      (VC.call 13 [SV.var 1, SV.int IntKind.i64 (IE.lit 0), SV.int IntKind.i64 (IE.lit 0)] [Base.slice, Base.slice, Base.int IntKind.i64]
                                        (SV.tuple [SV.var 15, SV.var 16, SV.int IntKind.i64 (IE.var 17)]) [] false [] [] [0] [(0, [SV.int IntKind.i64 (IE.lit 2)])]
                                        (VC.call 13 [SV.var 1, SV.int IntKind.i64 (IE.lit 0), SV.int IntKind.i64 (IE.lit 1)] [Base.slice, Base.slice, Base.int IntKind.i64]
                                          (SV.tuple [SV.var 18, SV.var 19, SV.int IntKind.i64 (IE.var 20)]) [] false [] [] [0] [(0, [SV.int IntKind.i64 (IE.lit 2)])]
                                          (VC.call 18 [SV.int IntKind.i64 (IE.var 17)] [Base.int IntKind.i64] (SV.int IntKind.i64 (IE.var 21)) [] false [] [] [0] [(0, [SV.int IntKind.i64 (IE.lit 2)])]
                                            (VC.split (BE.not (BE.eq (IE.var 21) (IE.lit 0))) (VC.leaf 0 [SV.bool (BE.lit false)] [] [(0, [SV.int IntKind.i64 (IE.lit 2)])])
                                              (VC.blk
                                                (VC.gen (Op.convert 26 26 (Operand.tmp 78)) 26 [(Operand.tmp 78, SV.slc 22 0 2 2)] [Base.slice] (SV.var 23) [] false [] [] [0]
                                                  [(22, [SV.int IntKind.u8 (IE.lit 97), SV.int IntKind.u8 (IE.lit 98)]), (0, [SV.int IntKind.i64 (IE.lit 2)])]
                                                  (VC.call 30 [SV.var 15, SV.var 23] [Base.bool] (SV.bool (BE.var 24)) [] false [] [] [0] [(0, [SV.int IntKind.i64 (IE.lit 2)])]
                                                    (VC.split (BE.not (BE.var 24)) (VC.leaf 0 [SV.bool (BE.lit false)] [] [(0, [SV.int IntKind.i64 (IE.lit 2)])])
                                                      (VC.call 30 [SV.var 16, SV.var 3] [Base.bool] (SV.bool (BE.var 25)) [] false [] [] [0] [(0, [SV.int IntKind.i64 (IE.lit 2)])]
                                                        (VC.split (BE.not (BE.var 25)) (VC.leaf 0 [SV.bool (BE.lit false)] [] [(0, [SV.int IntKind.i64 (IE.lit 2)])])
                                                          (VC.split (BE.not (BE.eq (IE.var 20) (IE.lit 52))) (VC.leaf 0 [SV.bool (BE.lit false)] [] [(0, [SV.int IntKind.i64 (IE.lit 2)])])
                                                            (VC.call 21 [SV.var 1, SV.int IntKind.i64 (IE.lit 1), SV.int IntKind.i64 (IE.lit 1)] [Base.int IntKind.i64] (SV.int IntKind.i64 (IE.var 26))
                                                              [] false [] [] [0] [(0, [SV.int IntKind.i64 (IE.lit 2)])]
                                                              (VC.call 18 [SV.int IntKind.i64 (IE.var 26)] [Base.int IntKind.i64] (SV.int IntKind.i64 (IE.var 27)) [] false [] [] [0]
                                                                [(0, [SV.int IntKind.i64 (IE.lit 2)])]
                                                                (VC.split (BE.not (BE.eq (IE.var 27) (IE.lit 0))) (VC.leaf 0 [SV.bool (BE.lit false)] [] [(0, [SV.int IntKind.i64 (IE.lit 2)])])
                                                                  (VC.blk
                                                                    (VC.gen (Op.convert 26 26 (Operand.tmp 101)) 26 [(Operand.tmp 101, SV.slc 28 0 2 2)] [Base.slice] (SV.var 29) [] false [] [] [0]
                                                                      [(28, [SV.int IntKind.u8 (IE.lit 99), SV.int IntKind.u8 (IE.lit 100)]), (0, [SV.int IntKind.i64 (IE.lit 2)])]
                                                                      (VC.call 19 [SV.var 1, SV.int IntKind.i64 (IE.lit 0), SV.int IntKind.i64 (IE.lit 1), SV.var 29, SV.var 3] [Base.int IntKind.i64]
                                                                        (SV.int IntKind.i64 (IE.var 30)) [] false [] [] [0] [(0, [SV.int IntKind.i64 (IE.lit 2)])]
                                                                        (VC.split (BE.not (BE.eq (IE.var 30) (IE.lit 50)))
                                                                          (VC.leaf 0 [SV.bool (BE.lit false)] [] [(0, [SV.int IntKind.i64 (IE.lit 2)])])
                                                                          (VC.call 13 [SV.var 1, SV.int IntKind.i64 (IE.lit 0), SV.int IntKind.i64 (IE.lit 0)]
                                                                            [Base.slice, Base.slice, Base.int IntKind.i64] (SV.tuple [SV.var 31, SV.var 32, SV.int IntKind.i64 (IE.var 33)]) [] false []
                                                                            [] [0] [(0, [SV.int IntKind.i64 (IE.lit 2)])]
                                                                            (VC.call 22 [SV.var 1] [Base.int IntKind.i64] (SV.int IntKind.i64 (IE.var 34)) [] false [] [] [0]
                                                                              [(0, [SV.int IntKind.i64 (IE.lit 2)])]
                                                                              (VC.call 13 [SV.var 1, SV.int IntKind.i64 (IE.lit 0), SV.int IntKind.i64 (IE.lit 1)]
                                                                                [Base.slice, Base.slice, Base.int IntKind.i64] (SV.tuple [SV.var 35, SV.var 36, SV.int IntKind.i64 (IE.var 37)]) []
                                                                                false [] [] [0] [(0, [SV.int IntKind.i64 (IE.lit 2)])]
                                                                                (VC.split (BE.not (BE.eq (IE.var 33) (IE.lit 50)))
                                                                                  (VC.leaf 0 [SV.bool (BE.lit false)] [] [(0, [SV.int IntKind.i64 (IE.lit 2)])])
                                                                                  (VC.call 18 [SV.int IntKind.i64 (IE.var 34)] [Base.int IntKind.i64] (SV.int IntKind.i64 (IE.var 38)) [] false [] []
                                                                                    [0] [(0, [SV.int IntKind.i64 (IE.lit 2)])]
                                                                                    (VC.call 18 [SV.int IntKind.i64 (IE.var 37)] [Base.int IntKind.i64] (SV.int IntKind.i64 (IE.var 39)) [] false [] []
                                                                                      [0] [(0, [SV.int IntKind.i64 (IE.lit 2)])]
                                                                                      (VC.ob (BE.le (IE.lit (-9223372036854775808)) (IE.add (IE.var 38) (IE.var 39)))
                                                                                        (VC.ob (BE.le (IE.add (IE.var 38) (IE.var 39)) (IE.lit 9223372036854775807))
                                                                                          (VC.split (BE.not (BE.eq (IE.add (IE.var 38) (IE.var 39)) (IE.lit 0)))
                                                                                            (VC.leaf 0 [SV.bool (BE.lit false)] [] [(0, [SV.int IntKind.i64 (IE.lit 2)])])
                                                                                            (VC.blk
                                                                                              (VC.call 30 [SV.var 35, SV.slc 40 0 2 2] [Base.bool] (SV.bool (BE.var 41)) [] false [] [] [40, 0]
                                                                                                [(40, [SV.int IntKind.u8 (IE.lit 99), SV.int IntKind.u8 (IE.lit 255)]),
                                                                                                  (0, [SV.int IntKind.i64 (IE.lit 2)])]
                                                                                                (VC.split (BE.not (BE.var 41))
                                                                                                  (VC.leaf 0 [SV.bool (BE.lit false)] []
                                                                                                    [(40, [SV.int IntKind.u8 (IE.lit 99), SV.int IntKind.u8 (IE.lit 255)]),
                                                                                                      (0, [SV.int IntKind.i64 (IE.lit 2)])])
                                                                                                  (VC.call 32 [SV.int IntKind.i64 (IE.lit 64), SV.int IntKind.u8 (IE.lit 255)] [Base.slice] (SV.var 42)
                                                                                                    [] false [] [] [40, 0]
                                                                                                    [(40, [SV.int IntKind.u8 (IE.lit 99), SV.int IntKind.u8 (IE.lit 255)]),
                                                                                                      (0, [SV.int IntKind.i64 (IE.lit 2)])]
                                                                                                    (VC.call 30 [SV.var 36, SV.var 42] [Base.bool] (SV.bool (BE.var 43)) [] false [] [] [40, 0]
                                                                                                      [(40, [SV.int IntKind.u8 (IE.lit 99), SV.int IntKind.u8 (IE.lit 255)]),
                                                                                                        (0, [SV.int IntKind.i64 (IE.lit 2)])]
                                                                                                      (VC.split (BE.not (BE.var 43))
                                                                                                        (VC.leaf 0 [SV.bool (BE.lit false)] []
                                                                                                          [(40, [SV.int IntKind.u8 (IE.lit 99), SV.int IntKind.u8 (IE.lit 255)]),
                                                                                                            (0, [SV.int IntKind.i64 (IE.lit 2)])])
                                                                                                        (VC.call 28 [SV.var 1, SV.int IntKind.i64 (IE.lit 0), SV.int IntKind.i64 (IE.lit 1)]
                                                                                                          [Base.int IntKind.i64] (SV.int IntKind.i64 (IE.var 44)) [] false [] [] [40, 0]
                                                                                                          [(40, [SV.int IntKind.u8 (IE.lit 99), SV.int IntKind.u8 (IE.lit 255)]),
                                                                                                            (0, [SV.int IntKind.i64 (IE.lit 2)])]
                                                                                                          (VC.split (BE.not (BE.eq (IE.var 44) (IE.lit 3)))
                                                                                                            (VC.leaf 0 [SV.bool (BE.lit false)] []
                                                                                                              [(40, [SV.int IntKind.u8 (IE.lit 99), SV.int IntKind.u8 (IE.lit 255)]),
                                                                                                                (0, [SV.int IntKind.i64 (IE.lit 2)])])
                                                                                                            (VC.call 20 [SV.var 1, SV.int IntKind.i64 (IE.lit 0)] [Base.int IntKind.i64]
                                                                                                              (SV.int IntKind.i64 (IE.var 45)) [] false [] [] [40, 0]
                                                                                                              [(40, [SV.int IntKind.u8 (IE.lit 99), SV.int IntKind.u8 (IE.lit 255)]),
                                                                                                                (0, [SV.int IntKind.i64 (IE.lit 2)])]
                                                                                                              (VC.split (BE.not (BE.eq (IE.var 45) (IE.lit 55)))
                                                                                                                (VC.leaf 0 [SV.bool (BE.lit false)] []
                                                                                                                  [(40, [SV.int IntKind.u8 (IE.lit 99), SV.int IntKind.u8 (IE.lit 255)]),
                                                                                                                    (0, [SV.int IntKind.i64 (IE.lit 2)])])
                                                                                                                (VC.call 28 [SV.var 1, SV.int IntKind.i64 (IE.lit 0), SV.int IntKind.i64 (IE.lit 0)]
                                                                                                                  [Base.int IntKind.i64] (SV.int IntKind.i64 (IE.var 46)) [] false [] [] [40, 0]
                                                                                                                  [(40, [SV.int IntKind.u8 (IE.lit 99), SV.int IntKind.u8 (IE.lit 255)]),
                                                                                                                    (0, [SV.int IntKind.i64 (IE.lit 2)])]
                                                                                                                  (VC.split (BE.not (BE.eq (IE.var 46) (IE.lit 5)))
                                                                                                                    (VC.leaf 0 [SV.bool (BE.lit false)] []
                                                                                                                      [(40, [SV.int IntKind.u8 (IE.lit 99), SV.int IntKind.u8 (IE.lit 255)]),
                                                                                                                        (0, [SV.int IntKind.i64 (IE.lit 2)])])
                                                                                                                    (VC.call 13 [SV.var 1, SV.int IntKind.i64 (IE.lit 0), SV.int IntKind.i64 (IE.lit 0)]
                                                                                                                      [Base.slice, Base.slice, Base.int IntKind.i64]
                                                                                                                      (SV.tuple [SV.var 47, SV.var 48, SV.int IntKind.i64 (IE.var 49)]) [] false [] []
                                                                                                                      [40, 0]
                                                                                                                      [(40, [SV.int IntKind.u8 (IE.lit 99), SV.int IntKind.u8 (IE.lit 255)]),
                                                                                                                        (0, [SV.int IntKind.i64 (IE.lit 2)])]
                                                                                                                      (VC.call 20 [SV.var 1, SV.int IntKind.i64 (IE.lit 0)] [Base.int IntKind.i64]
                                                                                                                        (SV.int IntKind.i64 (IE.var 50)) [] false [] [] [40, 0]
                                                                                                                        [(40, [SV.int IntKind.u8 (IE.lit 99), SV.int IntKind.u8 (IE.lit 255)]),
                                                                                                                          (0, [SV.int IntKind.i64 (IE.lit 2)])]
                                                                                                                        (VC.call 26 [SV.var 1, SV.int IntKind.i64 (IE.lit 0)] [Base.int IntKind.i64]
                                                                                                                          (SV.int IntKind.i64 (IE.var 51)) [] false [] [] [40, 0]
                                                                                                                          [(40, [SV.int IntKind.u8 (IE.lit 99), SV.int IntKind.u8 (IE.lit 255)]),
                                                                                                                            (0, [SV.int IntKind.i64 (IE.lit 2)])]
                                                                                                                          (VC.split (BE.eq (IE.var 49) (IE.lit 53))
                                                                                                                            (VC.call 18 [SV.int IntKind.i64 (IE.var 50)] [Base.int IntKind.i64]
                                                                                                                              (SV.int IntKind.i64 (IE.var 52)) [] false [] [] [40, 0]
                                                                                                                              [(40, [SV.int IntKind.u8 (IE.lit 99), SV.int IntKind.u8 (IE.lit 255)]),
                                                                                                                                (0, [SV.int IntKind.i64 (IE.lit 2)])]
                                                                                                                              (VC.split (BE.eq (IE.var 52) (IE.lit 0))
                                                                                                                                (VC.split (BE.eq (IE.var 51) (IE.lit 0))
                                                                                                                                  (VC.call 20 [SV.var 1, SV.int IntKind.i64 (IE.lit 0)]
                                                                                                                                    [Base.int IntKind.i64] (SV.int IntKind.i64 (IE.var 53)) [] false []
                                                                                                                                    [] [40, 0]
                                                                                                                                    [(40,
                                                                                                                                        [SV.int IntKind.u8 (IE.lit 99),
                                                                                                                                          SV.int IntKind.u8 (IE.lit 255)]),
                                                                                                                                      (0, [SV.int IntKind.i64 (IE.lit 2)])]
                                                                                                                                    (VC.split (BE.eq (IE.var 53) (IE.lit 56))
                                                                                                                                      (VC.call 25 [SV.var 1] [Base.int IntKind.i64]
                                                                                                                                        (SV.int IntKind.i64 (IE.var 54)) [] false [] [] [40, 0]
                                                                                                                                        [(40,
                                                                                                                                            [SV.int IntKind.u8 (IE.lit 99),
                                                                                                                                              SV.int IntKind.u8 (IE.lit 255)]),
                                                                                                                                          (0, [SV.int IntKind.i64 (IE.lit 2)])]
                                                                                                                                        (VC.leaf 0 [SV.bool (BE.eq (IE.var 54) (IE.lit 4))] []
                                                                                                                                          [(40,
                                                                                                                                              [SV.int IntKind.u8 (IE.lit 99),
                                                                                                                                                SV.int IntKind.u8 (IE.lit 255)]),
                                                                                                                                            (0, [SV.int IntKind.i64 (IE.lit 2)])]))
                                                                                                                                      (VC.leaf 0 [SV.bool (BE.lit false)] []
                                                                                                                                        [(40,
                                                                                                                                            [SV.int IntKind.u8 (IE.lit 99),
                                                                                                                                              SV.int IntKind.u8 (IE.lit 255)]),
                                                                                                                                          (0, [SV.int IntKind.i64 (IE.lit 2)])])))
                                                                                                                                  (VC.leaf 0 [SV.bool (BE.lit false)] []
                                                                                                                                    [(40,
                                                                                                                                        [SV.int IntKind.u8 (IE.lit 99),
                                                                                                                                          SV.int IntKind.u8 (IE.lit 255)]),
                                                                                                                                      (0, [SV.int IntKind.i64 (IE.lit 2)])]))
                                                                                                                                (VC.leaf 0 [SV.bool (BE.lit false)] []
                                                                                                                                  [(40,
                                                                                                                                      [SV.int IntKind.u8 (IE.lit 99), SV.int IntKind.u8 (IE.lit 255)]),
                                                                                                                                    (0, [SV.int IntKind.i64 (IE.lit 2)])])))
                                                                                                                            (VC.leaf 0 [SV.bool (BE.lit false)] []
                                                                                                                              [(40, [SV.int IntKind.u8 (IE.lit 99), SV.int IntKind.u8 (IE.lit 255)]),
                                                                                                                                (0,
                                                                                                                                  [SV.int IntKind.i64
                                                                                                                                      (IE.lit
                                                                                                                                        2)])])))))))))))))))))))))))))))))))))))))))))))))))))))))))))))))) := by kernel_rfl

end Go.Proofs.Ytppbapnibpeolaa
