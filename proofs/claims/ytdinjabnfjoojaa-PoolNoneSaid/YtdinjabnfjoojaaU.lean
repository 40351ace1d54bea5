/- What the functions of the chapter come to, printed by a program of the prover's and checked by the kernel. No conditions. -/
import Derived.Test.YtdinjabnfjoojaaSxX
import Derived.Test.YtdinjabnfjoojaaProg
import Derived.KernelRfl
set_option maxRecDepth 100000
set_option linter.unusedVariables false
namespace Go.Proofs.Ytdinjabnfjoojaa
open Go.Sx

theorem t8 : exFn { P := Try.prog } 8 [] [] [] =
  VC.blk
  (VC.call 9 [SV.slc 0 0 3 3] [Base.ptr, Base.int IntKind.i64] (SV.tuple [SV.var 1, SV.int IntKind.i64 (IE.var 2)]) [] false [] [] [0]
    [(0, [SV.int IntKind.i64 (IE.lit 3), SV.int IntKind.i64 (IE.lit 1), SV.int IntKind.i64 (IE.lit 1)])]
    (VC.call 10 [SV.int IntKind.i64 (IE.var 2)] [Base.int IntKind.i64] (SV.int IntKind.i64 (IE.var 3)) [] false [] [] [0]
      [(0, [SV.int IntKind.i64 (IE.lit 3), SV.int IntKind.i64 (IE.lit 1), SV.int IntKind.i64 (IE.lit 1)])]
      (VC.split (BE.not (BE.eq (IE.var 3) (IE.lit 0))) (VC.leaf 0 [SV.bool (BE.lit false)] [] [(0, [SV.int IntKind.i64 (IE.lit 3), SV.int IntKind.i64 (IE.lit 1), SV.int IntKind.i64 (IE.lit 1)])])
        (VC.split (BE.nil 1) (VC.leaf 0 [SV.bool (BE.lit false)] [] [(0, [SV.int IntKind.i64 (IE.lit 3), SV.int IntKind.i64 (IE.lit 1), SV.int IntKind.i64 (IE.lit 1)])])
          (VC.call 11 [SV.var 1] [Base.int IntKind.i64, Base.int IntKind.i64] (SV.tuple [SV.int IntKind.i64 (IE.var 4), SV.int IntKind.i64 (IE.var 5)]) [] false [] [] [0]
            [(0, [SV.int IntKind.i64 (IE.lit 3), SV.int IntKind.i64 (IE.lit 1), SV.int IntKind.i64 (IE.lit 1)])]
            (VC.call 11 [SV.var 1] [Base.int IntKind.i64, Base.int IntKind.i64] (SV.tuple [SV.int IntKind.i64 (IE.var 6), SV.int IntKind.i64 (IE.var 7)]) [] false [] [] [0]
              [(0, [SV.int IntKind.i64 (IE.lit 3), SV.int IntKind.i64 (IE.lit 1), SV.int IntKind.i64 (IE.lit 1)])]
              (VC.call 21 [SV.var 1, SV.int IntKind.i64 (IE.lit 1)] [Base.int IntKind.i64] (SV.int IntKind.i64 (IE.var 8)) [] false [] [] [0]
                [(0, [SV.int IntKind.i64 (IE.lit 3), SV.int IntKind.i64 (IE.lit 1), SV.int IntKind.i64 (IE.lit 1)])]
                (VC.call 21 [SV.var 1, SV.int IntKind.i64 (IE.lit 1)] [Base.int IntKind.i64] (SV.int IntKind.i64 (IE.var 9)) [] false [] [] [0]
                  [(0, [SV.int IntKind.i64 (IE.lit 3), SV.int IntKind.i64 (IE.lit 1), SV.int IntKind.i64 (IE.lit 1)])]
                  (VC.call 20 [SV.var 1] [Base.int IntKind.i64, Base.bool] (SV.tuple [SV.int IntKind.i64 (IE.var 10), SV.bool (BE.var 11)]) [] false [] [] [0]
                    [(0, [SV.int IntKind.i64 (IE.lit 3), SV.int IntKind.i64 (IE.lit 1), SV.int IntKind.i64 (IE.lit 1)])]
                    (VC.split (BE.not (BE.eq (IE.var 4) (IE.lit 1)))
                      (VC.leaf 0 [SV.bool (BE.lit false)] [] [(0, [SV.int IntKind.i64 (IE.lit 3), SV.int IntKind.i64 (IE.lit 1), SV.int IntKind.i64 (IE.lit 1)])])
                      (VC.split (BE.not (BE.eq (IE.var 6) (IE.lit 2)))
                        (VC.leaf 0 [SV.bool (BE.lit false)] [] [(0, [SV.int IntKind.i64 (IE.lit 3), SV.int IntKind.i64 (IE.lit 1), SV.int IntKind.i64 (IE.lit 1)])])
                        (VC.call 10 [SV.int IntKind.i64 (IE.var 5)] [Base.int IntKind.i64] (SV.int IntKind.i64 (IE.var 12)) [] false [] [] [0]
                          [(0, [SV.int IntKind.i64 (IE.lit 3), SV.int IntKind.i64 (IE.lit 1), SV.int IntKind.i64 (IE.lit 1)])]
                          (VC.call 10 [SV.int IntKind.i64 (IE.var 7)] [Base.int IntKind.i64] (SV.int IntKind.i64 (IE.var 13)) [] false [] [] [0]
                            [(0, [SV.int IntKind.i64 (IE.lit 3), SV.int IntKind.i64 (IE.lit 1), SV.int IntKind.i64 (IE.lit 1)])]
                            (VC.ob (BE.le (IE.lit (-9223372036854775808)) (IE.add (IE.var 12) (IE.var 13)))
                              (VC.ob (BE.le (IE.add (IE.var 12) (IE.var 13)) (IE.lit 9223372036854775807))
                                (VC.call 10 [SV.int IntKind.i64 (IE.var 8)] [Base.int IntKind.i64] (SV.int IntKind.i64 (IE.var 14)) [] false [] [] [0]
                                  [(0, [SV.int IntKind.i64 (IE.lit 3), SV.int IntKind.i64 (IE.lit 1), SV.int IntKind.i64 (IE.lit 1)])]
                                  (VC.ob (BE.le (IE.lit (-9223372036854775808)) (IE.add (IE.add (IE.var 12) (IE.var 13)) (IE.var 14)))
                                    (VC.ob (BE.le (IE.add (IE.add (IE.var 12) (IE.var 13)) (IE.var 14)) (IE.lit 9223372036854775807))
                                      (VC.split (BE.not (BE.eq (IE.add (IE.add (IE.var 12) (IE.var 13)) (IE.var 14)) (IE.lit 0)))
                                        (VC.leaf 0 [SV.bool (BE.lit false)] [] [(0, [SV.int IntKind.i64 (IE.lit 3), SV.int IntKind.i64 (IE.lit 1), SV.int IntKind.i64 (IE.lit 1)])])
                                        (VC.split (BE.not (BE.eq (IE.var 9) (IE.lit 8)))
                                          (VC.leaf 0 [SV.bool (BE.lit false)] [] [(0, [SV.int IntKind.i64 (IE.lit 3), SV.int IntKind.i64 (IE.lit 1), SV.int IntKind.i64 (IE.lit 1)])])
                                          (VC.split (BE.not (BE.eq (IE.var 10) (IE.lit 1)))
                                            (VC.leaf 0 [SV.bool (BE.lit false)] [] [(0, [SV.int IntKind.i64 (IE.lit 3), SV.int IntKind.i64 (IE.lit 1), SV.int IntKind.i64 (IE.lit 1)])])
                                            (VC.split (BE.not (BE.var 11))
                                              (VC.leaf 0 [SV.bool (BE.lit false)] [] [(0, [SV.int IntKind.i64 (IE.lit 3), SV.int IntKind.i64 (IE.lit 1), SV.int IntKind.i64 (IE.lit 1)])])
                                              (VC.call 26 [SV.var 1, SV.int IntKind.i64 (IE.lit 1)] [Base.int IntKind.i64] (SV.int IntKind.i64 (IE.var 15)) [] false [] [] [0]
                                                [(0, [SV.int IntKind.i64 (IE.lit 3), SV.int IntKind.i64 (IE.lit 1), SV.int IntKind.i64 (IE.lit 1)])]
                                                (VC.split (BE.not (BE.eq (IE.var 15) (IE.lit 1)))
                                                  (VC.leaf 0 [SV.bool (BE.lit false)] [] [(0, [SV.int IntKind.i64 (IE.lit 3), SV.int IntKind.i64 (IE.lit 1), SV.int IntKind.i64 (IE.lit 1)])])
                                                  (VC.call 12 [SV.var 1, SV.int IntKind.i64 (IE.lit 1)] [Base.int IntKind.i64] (SV.int IntKind.i64 (IE.var 16)) [] false [] [] [0]
                                                    [(0, [SV.int IntKind.i64 (IE.lit 3), SV.int IntKind.i64 (IE.lit 1), SV.int IntKind.i64 (IE.lit 1)])]
                                                    (VC.call 10 [SV.int IntKind.i64 (IE.var 16)] [Base.int IntKind.i64] (SV.int IntKind.i64 (IE.var 17)) [] false [] [] [0]
                                                      [(0, [SV.int IntKind.i64 (IE.lit 3), SV.int IntKind.i64 (IE.lit 1), SV.int IntKind.i64 (IE.lit 1)])]
                                                      (VC.split (BE.not (BE.eq (IE.var 17) (IE.lit 0)))
                                                        (VC.leaf 0 [SV.bool (BE.lit false)] [] [(0, [SV.int IntKind.i64 (IE.lit 3), SV.int IntKind.i64 (IE.lit 1), SV.int IntKind.i64 (IE.lit 1)])])
                                                        (VC.call 11 [SV.var 1] [Base.int IntKind.i64, Base.int IntKind.i64] (SV.tuple [SV.int IntKind.i64 (IE.var 18), SV.int IntKind.i64 (IE.var 19)])
                                                          [] false [] [] [0] [(0, [SV.int IntKind.i64 (IE.lit 3), SV.int IntKind.i64 (IE.lit 1), SV.int IntKind.i64 (IE.lit 1)])]
                                                          (VC.call 13 [SV.var 1] [Base.int IntKind.i64, Base.int IntKind.i64]
                                                            (SV.tuple [SV.int IntKind.i64 (IE.var 20), SV.int IntKind.i64 (IE.var 21)]) [] false [] [] [0]
                                                            [(0, [SV.int IntKind.i64 (IE.lit 3), SV.int IntKind.i64 (IE.lit 1), SV.int IntKind.i64 (IE.lit 1)])]
                                                            (VC.split (BE.not (BE.eq (IE.var 18) (IE.lit 1)))
                                                              (VC.leaf 0 [SV.bool (BE.lit false)] []
                                                                [(0, [SV.int IntKind.i64 (IE.lit 3), SV.int IntKind.i64 (IE.lit 1), SV.int IntKind.i64 (IE.lit 1)])])
                                                              (VC.call 10 [SV.int IntKind.i64 (IE.var 19)] [Base.int IntKind.i64] (SV.int IntKind.i64 (IE.var 22)) [] false [] [] [0]
                                                                [(0, [SV.int IntKind.i64 (IE.lit 3), SV.int IntKind.i64 (IE.lit 1), SV.int IntKind.i64 (IE.lit 1)])]
                                                                (VC.split (BE.not (BE.eq (IE.var 22) (IE.lit 0)))
                                                                  (VC.leaf 0 [SV.bool (BE.lit false)] []
                                                                    [(0, [SV.int IntKind.i64 (IE.lit 3), SV.int IntKind.i64 (IE.lit 1), SV.int IntKind.i64 (IE.lit 1)])])
                                                                  (VC.call 25 [SV.var 1, SV.int IntKind.i64 (IE.lit 1)] [Base.int IntKind.i64] (SV.int IntKind.i64 (IE.var 23)) [] false [] [] [0]
                                                                    [(0, [SV.int IntKind.i64 (IE.lit 3), SV.int IntKind.i64 (IE.lit 1), SV.int IntKind.i64 (IE.lit 1)])]
                                                                    (VC.split (BE.not (BE.eq (IE.var 23) (IE.lit 2)))
                                                                      (VC.leaf 0 [SV.bool (BE.lit false)] []
                                                                        [(0, [SV.int IntKind.i64 (IE.lit 3), SV.int IntKind.i64 (IE.lit 1), SV.int IntKind.i64 (IE.lit 1)])])
                                                                      (VC.split (BE.not (BE.eq (IE.var 20) (IE.lit 1)))
                                                                        (VC.leaf 0 [SV.bool (BE.lit false)] []
                                                                          [(0, [SV.int IntKind.i64 (IE.lit 3), SV.int IntKind.i64 (IE.lit 1), SV.int IntKind.i64 (IE.lit 1)])])
                                                                        (VC.split (BE.not (BE.eq (IE.var 21) (IE.lit 3)))
                                                                          (VC.leaf 0 [SV.bool (BE.lit false)] []
                                                                            [(0, [SV.int IntKind.i64 (IE.lit 3), SV.int IntKind.i64 (IE.lit 1), SV.int IntKind.i64 (IE.lit 1)])])
                                                                          (VC.call 22 [SV.var 1, SV.int IntKind.i64 (IE.lit 0)] [Base.int IntKind.i64] (SV.int IntKind.i64 (IE.var 24)) [] false [] []
                                                                            [0] [(0, [SV.int IntKind.i64 (IE.lit 3), SV.int IntKind.i64 (IE.lit 1), SV.int IntKind.i64 (IE.lit 1)])]
                                                                            (VC.call 10 [SV.int IntKind.i64 (IE.var 24)] [Base.int IntKind.i64] (SV.int IntKind.i64 (IE.var 25)) [] false [] [] [0]
                                                                              [(0, [SV.int IntKind.i64 (IE.lit 3), SV.int IntKind.i64 (IE.lit 1), SV.int IntKind.i64 (IE.lit 1)])]
                                                                              (VC.split (BE.not (BE.eq (IE.var 25) (IE.lit 0)))
                                                                                (VC.leaf 0 [SV.bool (BE.lit false)] []
                                                                                  [(0, [SV.int IntKind.i64 (IE.lit 3), SV.int IntKind.i64 (IE.lit 1), SV.int IntKind.i64 (IE.lit 1)])])
                                                                                (VC.call 22 [SV.var 1, SV.int IntKind.i64 (IE.lit 0)] [Base.int IntKind.i64] (SV.int IntKind.i64 (IE.var 26)) [] false
                                                                                  [] [] [0] [(0, [SV.int IntKind.i64 (IE.lit 3), SV.int IntKind.i64 (IE.lit 1), SV.int IntKind.i64 (IE.lit 1)])]
                                                                                  (VC.split (BE.not (BE.eq (IE.var 26) (IE.lit 8)))
                                                                                    (VC.leaf 0 [SV.bool (BE.lit false)] []
                                                                                      [(0, [SV.int IntKind.i64 (IE.lit 3), SV.int IntKind.i64 (IE.lit 1), SV.int IntKind.i64 (IE.lit 1)])])
                                                                                    (VC.call 11 [SV.var 1] [Base.int IntKind.i64, Base.int IntKind.i64]
                                                                                      (SV.tuple [SV.int IntKind.i64 (IE.var 27), SV.int IntKind.i64 (IE.var 28)]) [] false [] [] [0]
                                                                                      [(0, [SV.int IntKind.i64 (IE.lit 3), SV.int IntKind.i64 (IE.lit 1), SV.int IntKind.i64 (IE.lit 1)])]
                                                                                      (VC.call 12 [SV.var 1, SV.int IntKind.i64 (IE.lit 0)] [Base.int IntKind.i64] (SV.int IntKind.i64 (IE.var 29)) []
                                                                                        false [] [] [0]
                                                                                        [(0, [SV.int IntKind.i64 (IE.lit 3), SV.int IntKind.i64 (IE.lit 1), SV.int IntKind.i64 (IE.lit 1)])]
                                                                                        (VC.call 12 [SV.var 1, SV.int IntKind.i64 (IE.lit 3)] [Base.int IntKind.i64] (SV.int IntKind.i64 (IE.var 30)) []
                                                                                          false [] [] [0]
                                                                                          [(0, [SV.int IntKind.i64 (IE.lit 3), SV.int IntKind.i64 (IE.lit 1), SV.int IntKind.i64 (IE.lit 1)])]
                                                                                          (VC.call 23
                                                                                            [SV.var 1, SV.int IntKind.i64 (IE.lit 0), SV.int IntKind.i64 (IE.lit 1), SV.int IntKind.i64 (IE.lit 9)]
                                                                                            [Base.int IntKind.i64] (SV.int IntKind.i64 (IE.var 31)) [] false [] [] [0]
                                                                                            [(0, [SV.int IntKind.i64 (IE.lit 3), SV.int IntKind.i64 (IE.lit 1), SV.int IntKind.i64 (IE.lit 1)])]
                                                                                            (VC.call 11 [SV.var 1] [Base.int IntKind.i64, Base.int IntKind.i64]
                                                                                              (SV.tuple [SV.int IntKind.i64 (IE.var 32), SV.int IntKind.i64 (IE.var 33)]) [] false [] [] [0]
                                                                                              [(0, [SV.int IntKind.i64 (IE.lit 3), SV.int IntKind.i64 (IE.lit 1), SV.int IntKind.i64 (IE.lit 1)])]
                                                                                              (VC.call 9 [SV.cst (Value.slice none 0 0)] [Base.ptr, Base.int IntKind.i64]
                                                                                                (SV.tuple [SV.var 34, SV.int IntKind.i64 (IE.var 35)]) [] false [] [] [0]
                                                                                                [(0, [SV.int IntKind.i64 (IE.lit 3), SV.int IntKind.i64 (IE.lit 1), SV.int IntKind.i64 (IE.lit 1)])]
                                                                                                (VC.split (BE.eq (IE.var 28) (IE.lit 9))
                                                                                                  (VC.split (BE.eq (IE.var 29) (IE.lit 8))
                                                                                                    (VC.split (BE.eq (IE.var 30) (IE.lit 3))
                                                                                                      (VC.call 10 [SV.int IntKind.i64 (IE.var 31)] [Base.int IntKind.i64]
                                                                                                        (SV.int IntKind.i64 (IE.var 36)) [] false [] [] [0]
                                                                                                        [(0,
                                                                                                            [SV.int IntKind.i64 (IE.lit 3), SV.int IntKind.i64 (IE.lit 1),
                                                                                                              SV.int IntKind.i64 (IE.lit 1)])]
                                                                                                        (VC.call 10 [SV.int IntKind.i64 (IE.var 33)] [Base.int IntKind.i64]
                                                                                                          (SV.int IntKind.i64 (IE.var 37)) [] false [] [] [0]
                                                                                                          [(0,
                                                                                                              [SV.int IntKind.i64 (IE.lit 3), SV.int IntKind.i64 (IE.lit 1),
                                                                                                                SV.int IntKind.i64 (IE.lit 1)])]
                                                                                                          (VC.ob (BE.le (IE.lit (-9223372036854775808)) (IE.add (IE.var 36) (IE.var 37)))
                                                                                                            (VC.ob (BE.le (IE.add (IE.var 36) (IE.var 37)) (IE.lit 9223372036854775807))
                                                                                                              (VC.split (BE.eq (IE.add (IE.var 36) (IE.var 37)) (IE.lit 0))
                                                                                                                (VC.split (BE.eq (IE.var 32) (IE.lit 0))
                                                                                                                  (VC.leaf 0 [SV.bool (BE.eq (IE.var 35) (IE.lit 2))] []
                                                                                                                    [(0,
                                                                                                                        [SV.int IntKind.i64 (IE.lit 3), SV.int IntKind.i64 (IE.lit 1),
                                                                                                                          SV.int IntKind.i64 (IE.lit 1)])])
                                                                                                                  (VC.leaf 0 [SV.bool (BE.lit false)] []
                                                                                                                    [(0,
                                                                                                                        [SV.int IntKind.i64 (IE.lit 3), SV.int IntKind.i64 (IE.lit 1),
                                                                                                                          SV.int IntKind.i64 (IE.lit 1)])]))
                                                                                                                (VC.leaf 0 [SV.bool (BE.lit false)] []
                                                                                                                  [(0,
                                                                                                                      [SV.int IntKind.i64 (IE.lit 3), SV.int IntKind.i64 (IE.lit 1),
                                                                                                                        SV.int IntKind.i64 (IE.lit 1)])]))))))
                                                                                                      (VC.leaf 0 [SV.bool (BE.lit false)] []
                                                                                                        [(0,
                                                                                                            [SV.int IntKind.i64 (IE.lit 3), SV.int IntKind.i64 (IE.lit 1),
                                                                                                              SV.int IntKind.i64 (IE.lit 1)])]))
                                                                                                    (VC.leaf 0 [SV.bool (BE.lit false)] []
                                                                                                      [(0,
                                                                                                          [SV.int IntKind.i64 (IE.lit 3), SV.int IntKind.i64 (IE.lit 1),
                                                                                                            SV.int IntKind.i64 (IE.lit 1)])]))
                                                                                                  (VC.leaf 0 [SV.bool (BE.lit false)] []
                                                                                                    [(0,
                                                                                                        [SV.int IntKind.i64 (IE.lit 3), SV.int IntKind.i64 (IE.lit 1),
                                                                                                          SV.int IntKind.i64 (IE.lit 1)])]))))))))))))))))))))))))))))))))))))))))))))))))) := by kernel_rfl

end Go.Proofs.Ytdinjabnfjoojaa
