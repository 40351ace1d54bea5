/- What further functions of the law FormatBounds return, each for every argument that its theorem names. No conditions beyond those. -/
import Derived.Test.YtngemhmjpphpaaaF
import Derived.Test.YtngemhmjpphpaaaProg
import Derived.KernelRfl
set_option maxRecDepth 100000
set_option maxHeartbeats 4000000
set_option linter.unusedVariables false
set_option linter.unusedSimpArgs false
namespace Go.Proofs.Ytngemhmjpphpaaa
open Go.Sx

theorem t20 : exFn { P := Try.prog } 20 [.agg [.int .i64 (.var 0), .int .i64 (.var 1), .bool (.var 2), .int .i64 (.var 3), .bool (.var 4)], .int .i64 (.var 5), .bool (.var 6)] [.int .i64, .int .i64, .bool, .int .i64, .bool, .int .i64, .bool] [] =
  VC.blk
  (VC.call 15 [SV.agg [SV.int IntKind.i64 (IE.var 0), SV.int IntKind.i64 (IE.var 1), SV.bool (BE.var 2), SV.int IntKind.i64 (IE.var 3), SV.bool (BE.var 4)]] [Base.bool] (SV.bool (BE.var 8)) [] false
    [] [7] [7] [(7, [SV.int IntKind.i64 (IE.var 0), SV.int IntKind.i64 (IE.var 1), SV.bool (BE.var 2), SV.int IntKind.i64 (IE.var 3), SV.bool (BE.var 4)])]
    (VC.split (BE.not (BE.var 8))
      (VC.leaf 0 [SV.tuple [SV.int IntKind.i64 (IE.lit 0), SV.int IntKind.i64 (IE.lit 0), SV.int IntKind.i64 (IE.lit 2)]] [7]
        [(7, [SV.int IntKind.i64 (IE.var 0), SV.int IntKind.i64 (IE.var 1), SV.bool (BE.var 2), SV.int IntKind.i64 (IE.var 3), SV.bool (BE.var 4)])])
      (VC.split (BE.lt (IE.var 5) (IE.lit 0))
        (VC.leaf 0 [SV.tuple [SV.int IntKind.i64 (IE.lit 0), SV.int IntKind.i64 (IE.lit 0), SV.int IntKind.i64 (IE.lit 2)]] [7]
          [(7, [SV.int IntKind.i64 (IE.var 0), SV.int IntKind.i64 (IE.var 1), SV.bool (BE.var 2), SV.int IntKind.i64 (IE.var 3), SV.bool (BE.var 4)])])
        (VC.split (BE.lt (IE.lit 65536) (IE.var 5))
          (VC.leaf 0 [SV.tuple [SV.int IntKind.i64 (IE.lit 0), SV.int IntKind.i64 (IE.lit 0), SV.int IntKind.i64 (IE.lit 2)]] [7]
            [(7, [SV.int IntKind.i64 (IE.var 0), SV.int IntKind.i64 (IE.var 1), SV.bool (BE.var 2), SV.int IntKind.i64 (IE.var 3), SV.bool (BE.var 4)])])
          (VC.split (BE.var 6)
            (VC.split (BE.eq (IE.var 3) (IE.lit 0))
              (VC.leaf 0 [SV.tuple [SV.int IntKind.i64 (IE.lit 0), SV.int IntKind.i64 (IE.lit 0), SV.int IntKind.i64 (IE.lit 2)]] [7]
                [(7, [SV.int IntKind.i64 (IE.var 0), SV.int IntKind.i64 (IE.var 1), SV.bool (BE.var 2), SV.int IntKind.i64 (IE.var 3), SV.bool (BE.var 4)])])
              (VC.split (BE.var 2)
                (VC.start true [7] [7] [(7, [SV.int IntKind.i64 (IE.var 0), SV.int IntKind.i64 (IE.var 1), SV.bool (BE.var 2), SV.int IntKind.i64 (IE.var 3), SV.bool (BE.var 4)])]
                  (VC.call 25 [SV.agg [SV.int IntKind.i64 (IE.var 0), SV.int IntKind.i64 (IE.var 1), SV.bool (BE.var 2), SV.int IntKind.i64 (IE.var 3), SV.bool (BE.var 4)], SV.bool (BE.var 6)]
                    [Base.int IntKind.i64] (SV.int IntKind.i64 (IE.var 9)) [] true [7] [7] [7]
                    [(7, [SV.int IntKind.i64 (IE.var 0), SV.int IntKind.i64 (IE.var 1), SV.bool (BE.var 2), SV.int IntKind.i64 (IE.var 3), SV.bool (BE.var 4)])]
                    (VC.ob (BE.le (IE.lit (-9223372036854775808)) (IE.add (IE.var 0) (IE.var 9)))
                      (VC.ob (BE.le (IE.add (IE.var 0) (IE.var 9)) (IE.lit 9223372036854775807))
                        (VC.ob (BE.le (IE.lit (-9223372036854775808)) (IE.mul (IE.var 5) (IE.add (IE.var 0) (IE.var 9))))
                          (VC.ob (BE.le (IE.mul (IE.var 5) (IE.add (IE.var 0) (IE.var 9))) (IE.lit 9223372036854775807))
                            (VC.leaf 0 [SV.tuple [SV.int IntKind.i64 (IE.mul (IE.var 5) (IE.add (IE.var 0) (IE.var 9))), SV.int IntKind.i64 (IE.lit 0), SV.int IntKind.i64 (IE.lit 0)]] [7]
                              [(7, [SV.int IntKind.i64 (IE.var 0), SV.int IntKind.i64 (IE.var 1), SV.bool (BE.var 2), SV.int IntKind.i64 (IE.var 3), SV.bool (BE.var 4)])])))))))
                (VC.start true [7] [7] [(7, [SV.int IntKind.i64 (IE.var 0), SV.int IntKind.i64 (IE.var 1), SV.bool (BE.var 2), SV.int IntKind.i64 (IE.var 3), SV.bool (BE.var 4)])]
                  (VC.ob (BE.le (IE.lit (-9223372036854775808)) (IE.mul (IE.var 5) (IE.var 0)))
                    (VC.ob (BE.le (IE.mul (IE.var 5) (IE.var 0)) (IE.lit 9223372036854775807))
                      (VC.call 25 [SV.agg [SV.int IntKind.i64 (IE.var 0), SV.int IntKind.i64 (IE.var 1), SV.bool (BE.var 2), SV.int IntKind.i64 (IE.var 3), SV.bool (BE.var 4)], SV.bool (BE.var 6)]
                        [Base.int IntKind.i64] (SV.int IntKind.i64 (IE.var 9)) [] true [7] [7] [7]
                        [(7, [SV.int IntKind.i64 (IE.var 0), SV.int IntKind.i64 (IE.var 1), SV.bool (BE.var 2), SV.int IntKind.i64 (IE.var 3), SV.bool (BE.var 4)])]
                        (VC.ob (BE.le (IE.lit (-9223372036854775808)) (IE.mul (IE.var 5) (IE.var 9)))
                          (VC.ob (BE.le (IE.mul (IE.var 5) (IE.var 9)) (IE.lit 9223372036854775807))
                            (VC.leaf 0 [SV.tuple [SV.int IntKind.i64 (IE.mul (IE.var 5) (IE.var 0)), SV.int IntKind.i64 (IE.mul (IE.var 5) (IE.var 9)), SV.int IntKind.i64 (IE.lit 0)]] [7]
                              [(7, [SV.int IntKind.i64 (IE.var 0), SV.int IntKind.i64 (IE.var 1), SV.bool (BE.var 2), SV.int IntKind.i64 (IE.var 3), SV.bool (BE.var 4)])])))))))))
            (VC.split (BE.var 2)
              (VC.start true [7] [7] [(7, [SV.int IntKind.i64 (IE.var 0), SV.int IntKind.i64 (IE.var 1), SV.bool (BE.var 2), SV.int IntKind.i64 (IE.var 3), SV.bool (BE.var 4)])]
                (VC.call 25 [SV.agg [SV.int IntKind.i64 (IE.var 0), SV.int IntKind.i64 (IE.var 1), SV.bool (BE.var 2), SV.int IntKind.i64 (IE.var 3), SV.bool (BE.var 4)], SV.bool (BE.var 6)]
                  [Base.int IntKind.i64] (SV.int IntKind.i64 (IE.var 9)) [] true [7] [7] [7]
                  [(7, [SV.int IntKind.i64 (IE.var 0), SV.int IntKind.i64 (IE.var 1), SV.bool (BE.var 2), SV.int IntKind.i64 (IE.var 3), SV.bool (BE.var 4)])]
                  (VC.ob (BE.le (IE.lit (-9223372036854775808)) (IE.add (IE.var 0) (IE.var 9)))
                    (VC.ob (BE.le (IE.add (IE.var 0) (IE.var 9)) (IE.lit 9223372036854775807))
                      (VC.ob (BE.le (IE.lit (-9223372036854775808)) (IE.mul (IE.var 5) (IE.add (IE.var 0) (IE.var 9))))
                        (VC.ob (BE.le (IE.mul (IE.var 5) (IE.add (IE.var 0) (IE.var 9))) (IE.lit 9223372036854775807))
                          (VC.leaf 0 [SV.tuple [SV.int IntKind.i64 (IE.mul (IE.var 5) (IE.add (IE.var 0) (IE.var 9))), SV.int IntKind.i64 (IE.lit 0), SV.int IntKind.i64 (IE.lit 0)]] [7]
                            [(7, [SV.int IntKind.i64 (IE.var 0), SV.int IntKind.i64 (IE.var 1), SV.bool (BE.var 2), SV.int IntKind.i64 (IE.var 3), SV.bool (BE.var 4)])])))))))
              (VC.start true [7] [7] [(7, [SV.int IntKind.i64 (IE.var 0), SV.int IntKind.i64 (IE.var 1), SV.bool (BE.var 2), SV.int IntKind.i64 (IE.var 3), SV.bool (BE.var 4)])]
                (VC.ob (BE.le (IE.lit (-9223372036854775808)) (IE.mul (IE.var 5) (IE.var 0)))
                  (VC.ob (BE.le (IE.mul (IE.var 5) (IE.var 0)) (IE.lit 9223372036854775807))
                    (VC.call 25 [SV.agg [SV.int IntKind.i64 (IE.var 0), SV.int IntKind.i64 (IE.var 1), SV.bool (BE.var 2), SV.int IntKind.i64 (IE.var 3), SV.bool (BE.var 4)], SV.bool (BE.var 6)]
                      [Base.int IntKind.i64] (SV.int IntKind.i64 (IE.var 9)) [] true [7] [7] [7]
                      [(7, [SV.int IntKind.i64 (IE.var 0), SV.int IntKind.i64 (IE.var 1), SV.bool (BE.var 2), SV.int IntKind.i64 (IE.var 3), SV.bool (BE.var 4)])]
                      (VC.ob (BE.le (IE.lit (-9223372036854775808)) (IE.mul (IE.var 5) (IE.var 9)))
                        (VC.ob (BE.le (IE.mul (IE.var 5) (IE.var 9)) (IE.lit 9223372036854775807))
                          (VC.leaf 0 [SV.tuple [SV.int IntKind.i64 (IE.mul (IE.var 5) (IE.var 0)), SV.int IntKind.i64 (IE.mul (IE.var 5) (IE.var 9)), SV.int IntKind.i64 (IE.lit 0)]] [7]
                            [(7, [SV.int IntKind.i64 (IE.var 0), SV.int IntKind.i64 (IE.var 1), SV.bool (BE.var 2), SV.int IntKind.i64 (IE.var 3), SV.bool (BE.var 4)])]))))))))))))) := by kernel_rfl

theorem t25 : exFn { P := Try.prog } 25 [.agg [.int .i64 (.var 0), .int .i64 (.var 1), .bool (.var 2), .int .i64 (.var 3), .bool (.var 4)], .bool (.var 5)] [.int .i64, .int .i64, .bool, .int .i64, .bool, .bool] [] =
  VC.blk
  (VC.split (BE.var 5)
    (VC.split (BE.eq (IE.var 1) (IE.lit 8))
      (VC.leaf 0 [SV.int IntKind.i64 (IE.lit 0)] [] [(6, [SV.int IntKind.i64 (IE.var 0), SV.int IntKind.i64 (IE.var 1), SV.bool (BE.var 2), SV.int IntKind.i64 (IE.var 3), SV.bool (BE.var 4)])])
      (VC.leaf 0 [SV.int IntKind.i64 (IE.var 1)] [] [(6, [SV.int IntKind.i64 (IE.var 0), SV.int IntKind.i64 (IE.var 1), SV.bool (BE.var 2), SV.int IntKind.i64 (IE.var 3), SV.bool (BE.var 4)])]))
    (VC.leaf 0 [SV.int IntKind.i64 (IE.var 1)] [] [(6, [SV.int IntKind.i64 (IE.var 0), SV.int IntKind.i64 (IE.var 1), SV.bool (BE.var 2), SV.int IntKind.i64 (IE.var 3), SV.bool (BE.var 4)])])) := by kernel_rfl

theorem t5 : exFn { P := Try.prog } 5 [.agg [.int .i64 (.var 0), .int .i64 (.var 1), .bool (.var 2), .int .i64 (.var 3), .bool (.var 4)], .bool (.var 5)] [.int .i64, .int .i64, .bool, .int .i64, .bool, .bool] [] =
  VC.blk
  (VC.call 20
    [SV.agg [SV.int IntKind.i64 (IE.var 0), SV.int IntKind.i64 (IE.var 1), SV.bool (BE.var 2), SV.int IntKind.i64 (IE.var 3), SV.bool (BE.var 4)], SV.int IntKind.i64 (IE.lit 65536),
      SV.bool (BE.var 5)]
    [Base.int IntKind.i64, Base.int IntKind.i64, Base.int IntKind.i64] (SV.tuple [SV.int IntKind.i64 (IE.var 7), SV.int IntKind.i64 (IE.var 8), SV.int IntKind.i64 (IE.var 9)]) [] false [] [6] [6]
    [(6, [SV.int IntKind.i64 (IE.var 0), SV.int IntKind.i64 (IE.var 1), SV.bool (BE.var 2), SV.int IntKind.i64 (IE.var 3), SV.bool (BE.var 4)])]
    (VC.call 15 [SV.agg [SV.int IntKind.i64 (IE.var 0), SV.int IntKind.i64 (IE.var 1), SV.bool (BE.var 2), SV.int IntKind.i64 (IE.var 3), SV.bool (BE.var 4)]] [Base.bool] (SV.bool (BE.var 10)) []
      false [6] [6] [6] [(6, [SV.int IntKind.i64 (IE.var 0), SV.int IntKind.i64 (IE.var 1), SV.bool (BE.var 2), SV.int IntKind.i64 (IE.var 3), SV.bool (BE.var 4)])]
      (VC.split (BE.not (BE.var 10))
        (VC.split (BE.eq (IE.var 9) (IE.lit 2))
          (VC.call 23
            [SV.agg [SV.int IntKind.i64 (IE.var 0), SV.int IntKind.i64 (IE.var 1), SV.bool (BE.var 2), SV.int IntKind.i64 (IE.var 3), SV.bool (BE.var 4)], SV.int IntKind.i64 (IE.lit 65536),
              SV.bool (BE.var 5), SV.int IntKind.i64 (IE.lit 0), SV.int IntKind.i64 (IE.lit 0), SV.int IntKind.i64 (IE.lit 2)]
            [Base.bool] (SV.bool (BE.var 11)) [] false [6] [6] [6]
            [(6, [SV.int IntKind.i64 (IE.var 0), SV.int IntKind.i64 (IE.var 1), SV.bool (BE.var 2), SV.int IntKind.i64 (IE.var 3), SV.bool (BE.var 4)])]
            (VC.split (BE.var 11)
              (VC.call 19 [] [Base.bool] (SV.bool (BE.var 12)) [] false [6] [6] [6]
                [(6, [SV.int IntKind.i64 (IE.var 0), SV.int IntKind.i64 (IE.var 1), SV.bool (BE.var 2), SV.int IntKind.i64 (IE.var 3), SV.bool (BE.var 4)])]
                (VC.leaf 0 [SV.bool (BE.var 12)] [6] [(6, [SV.int IntKind.i64 (IE.var 0), SV.int IntKind.i64 (IE.var 1), SV.bool (BE.var 2), SV.int IntKind.i64 (IE.var 3), SV.bool (BE.var 4)])]))
              (VC.leaf 0 [SV.bool (BE.lit false)] [6] [(6, [SV.int IntKind.i64 (IE.var 0), SV.int IntKind.i64 (IE.var 1), SV.bool (BE.var 2), SV.int IntKind.i64 (IE.var 3), SV.bool (BE.var 4)])])))
          (VC.leaf 0 [SV.bool (BE.lit false)] [6] [(6, [SV.int IntKind.i64 (IE.var 0), SV.int IntKind.i64 (IE.var 1), SV.bool (BE.var 2), SV.int IntKind.i64 (IE.var 3), SV.bool (BE.var 4)])]))
        (VC.split (BE.var 5)
          (VC.split (BE.eq (IE.var 3) (IE.lit 0))
            (VC.split (BE.eq (IE.var 9) (IE.lit 2))
              (VC.call 23
                [SV.agg [SV.int IntKind.i64 (IE.var 0), SV.int IntKind.i64 (IE.var 1), SV.bool (BE.var 2), SV.int IntKind.i64 (IE.var 3), SV.bool (BE.var 4)], SV.int IntKind.i64 (IE.lit 65536),
                  SV.bool (BE.var 5), SV.int IntKind.i64 (IE.lit 0), SV.int IntKind.i64 (IE.lit 0), SV.int IntKind.i64 (IE.lit 2)]
                [Base.bool] (SV.bool (BE.var 11)) [] false [6] [6] [6]
                [(6, [SV.int IntKind.i64 (IE.var 0), SV.int IntKind.i64 (IE.var 1), SV.bool (BE.var 2), SV.int IntKind.i64 (IE.var 3), SV.bool (BE.var 4)])]
                (VC.split (BE.var 11)
                  (VC.call 19 [] [Base.bool] (SV.bool (BE.var 12)) [] false [6] [6] [6]
                    [(6, [SV.int IntKind.i64 (IE.var 0), SV.int IntKind.i64 (IE.var 1), SV.bool (BE.var 2), SV.int IntKind.i64 (IE.var 3), SV.bool (BE.var 4)])]
                    (VC.leaf 0 [SV.bool (BE.var 12)] [6] [(6, [SV.int IntKind.i64 (IE.var 0), SV.int IntKind.i64 (IE.var 1), SV.bool (BE.var 2), SV.int IntKind.i64 (IE.var 3), SV.bool (BE.var 4)])]))
                  (VC.leaf 0 [SV.bool (BE.lit false)] [6]
                    [(6, [SV.int IntKind.i64 (IE.var 0), SV.int IntKind.i64 (IE.var 1), SV.bool (BE.var 2), SV.int IntKind.i64 (IE.var 3), SV.bool (BE.var 4)])])))
              (VC.leaf 0 [SV.bool (BE.lit false)] [6] [(6, [SV.int IntKind.i64 (IE.var 0), SV.int IntKind.i64 (IE.var 1), SV.bool (BE.var 2), SV.int IntKind.i64 (IE.var 3), SV.bool (BE.var 4)])]))
            (VC.start true [6] [6] [(6, [SV.int IntKind.i64 (IE.var 0), SV.int IntKind.i64 (IE.var 1), SV.bool (BE.var 2), SV.int IntKind.i64 (IE.var 3), SV.bool (BE.var 4)])]
              (VC.split (BE.eq (IE.var 9) (IE.lit 0))
                (VC.ob (BE.le (IE.lit (-9223372036854775808)) (IE.add (IE.var 7) (IE.var 8)))
                  (VC.ob (BE.le (IE.add (IE.var 7) (IE.var 8)) (IE.lit 9223372036854775807))
                    (VC.call 25 [SV.agg [SV.int IntKind.i64 (IE.var 0), SV.int IntKind.i64 (IE.var 1), SV.bool (BE.var 2), SV.int IntKind.i64 (IE.var 3), SV.bool (BE.var 4)], SV.bool (BE.var 5)]
                      [Base.int IntKind.i64] (SV.int IntKind.i64 (IE.var 11)) [] true [6] [6] [6]
                      [(6, [SV.int IntKind.i64 (IE.var 0), SV.int IntKind.i64 (IE.var 1), SV.bool (BE.var 2), SV.int IntKind.i64 (IE.var 3), SV.bool (BE.var 4)])]
                      (VC.ob (BE.le (IE.lit (-9223372036854775808)) (IE.add (IE.var 0) (IE.var 11)))
                        (VC.ob (BE.le (IE.add (IE.var 0) (IE.var 11)) (IE.lit 9223372036854775807))
                          (VC.ob (BE.le (IE.lit (-9223372036854775808)) (IE.mul (IE.lit 65536) (IE.add (IE.var 0) (IE.var 11))))
                            (VC.ob (BE.le (IE.mul (IE.lit 65536) (IE.add (IE.var 0) (IE.var 11))) (IE.lit 9223372036854775807))
                              (VC.split (BE.eq (IE.add (IE.var 7) (IE.var 8)) (IE.mul (IE.lit 65536) (IE.add (IE.var 0) (IE.var 11))))
                                (VC.call 23
                                  [SV.agg [SV.int IntKind.i64 (IE.var 0), SV.int IntKind.i64 (IE.var 1), SV.bool (BE.var 2), SV.int IntKind.i64 (IE.var 3), SV.bool (BE.var 4)],
                                    SV.int IntKind.i64 (IE.lit 65536), SV.bool (BE.var 5), SV.int IntKind.i64 (IE.var 7), SV.int IntKind.i64 (IE.var 8), SV.int IntKind.i64 (IE.lit 0)]
                                  [Base.bool] (SV.bool (BE.var 12)) [] true [6] [6] [6]
                                  [(6, [SV.int IntKind.i64 (IE.var 0), SV.int IntKind.i64 (IE.var 1), SV.bool (BE.var 2), SV.int IntKind.i64 (IE.var 3), SV.bool (BE.var 4)])]
                                  (VC.split (BE.var 12)
                                    (VC.call 23
                                      [SV.agg [SV.int IntKind.i64 (IE.var 0), SV.int IntKind.i64 (IE.var 1), SV.bool (BE.var 2), SV.int IntKind.i64 (IE.var 3), SV.bool (BE.var 4)],
                                        SV.int IntKind.i64 (IE.lit 65537), SV.bool (BE.var 5), SV.int IntKind.i64 (IE.lit 0), SV.int IntKind.i64 (IE.lit 0), SV.int IntKind.i64 (IE.lit 2)]
                                      [Base.bool] (SV.bool (BE.var 13)) [] true [6] [6] [6]
                                      [(6, [SV.int IntKind.i64 (IE.var 0), SV.int IntKind.i64 (IE.var 1), SV.bool (BE.var 2), SV.int IntKind.i64 (IE.var 3), SV.bool (BE.var 4)])]
                                      (VC.split (BE.var 13)
                                        (VC.call 23
                                          [SV.agg [SV.int IntKind.i64 (IE.var 0), SV.int IntKind.i64 (IE.var 1), SV.bool (BE.var 2), SV.int IntKind.i64 (IE.var 3), SV.bool (BE.var 4)],
                                            SV.int IntKind.i64 (IE.lit (-1)), SV.bool (BE.var 5), SV.int IntKind.i64 (IE.lit 0), SV.int IntKind.i64 (IE.lit 0), SV.int IntKind.i64 (IE.lit 2)]
                                          [Base.bool] (SV.bool (BE.var 14)) [] true [6] [6] [6]
                                          [(6, [SV.int IntKind.i64 (IE.var 0), SV.int IntKind.i64 (IE.var 1), SV.bool (BE.var 2), SV.int IntKind.i64 (IE.var 3), SV.bool (BE.var 4)])]
                                          (VC.split (BE.var 14)
                                            (VC.call 19 [] [Base.bool] (SV.bool (BE.var 15)) [] true [6] [6] [6]
                                              [(6, [SV.int IntKind.i64 (IE.var 0), SV.int IntKind.i64 (IE.var 1), SV.bool (BE.var 2), SV.int IntKind.i64 (IE.var 3), SV.bool (BE.var 4)])]
                                              (VC.leaf 0 [SV.bool (BE.var 15)] [6]
                                                [(6, [SV.int IntKind.i64 (IE.var 0), SV.int IntKind.i64 (IE.var 1), SV.bool (BE.var 2), SV.int IntKind.i64 (IE.var 3), SV.bool (BE.var 4)])]))
                                            (VC.leaf 0 [SV.bool (BE.lit false)] [6]
                                              [(6, [SV.int IntKind.i64 (IE.var 0), SV.int IntKind.i64 (IE.var 1), SV.bool (BE.var 2), SV.int IntKind.i64 (IE.var 3), SV.bool (BE.var 4)])])))
                                        (VC.leaf 0 [SV.bool (BE.lit false)] [6]
                                          [(6, [SV.int IntKind.i64 (IE.var 0), SV.int IntKind.i64 (IE.var 1), SV.bool (BE.var 2), SV.int IntKind.i64 (IE.var 3), SV.bool (BE.var 4)])])))
                                    (VC.leaf 0 [SV.bool (BE.lit false)] [6]
                                      [(6, [SV.int IntKind.i64 (IE.var 0), SV.int IntKind.i64 (IE.var 1), SV.bool (BE.var 2), SV.int IntKind.i64 (IE.var 3), SV.bool (BE.var 4)])])))
                                (VC.leaf 0 [SV.bool (BE.lit false)] [6]
                                  [(6, [SV.int IntKind.i64 (IE.var 0), SV.int IntKind.i64 (IE.var 1), SV.bool (BE.var 2), SV.int IntKind.i64 (IE.var 3), SV.bool (BE.var 4)])])))))))))
                (VC.leaf 0 [SV.bool (BE.lit false)] [6] [(6, [SV.int IntKind.i64 (IE.var 0), SV.int IntKind.i64 (IE.var 1), SV.bool (BE.var 2), SV.int IntKind.i64 (IE.var 3), SV.bool (BE.var 4)])]))))
          (VC.start true [6] [6] [(6, [SV.int IntKind.i64 (IE.var 0), SV.int IntKind.i64 (IE.var 1), SV.bool (BE.var 2), SV.int IntKind.i64 (IE.var 3), SV.bool (BE.var 4)])]
            (VC.split (BE.eq (IE.var 9) (IE.lit 0))
              (VC.ob (BE.le (IE.lit (-9223372036854775808)) (IE.add (IE.var 7) (IE.var 8)))
                (VC.ob (BE.le (IE.add (IE.var 7) (IE.var 8)) (IE.lit 9223372036854775807))
                  (VC.call 25 [SV.agg [SV.int IntKind.i64 (IE.var 0), SV.int IntKind.i64 (IE.var 1), SV.bool (BE.var 2), SV.int IntKind.i64 (IE.var 3), SV.bool (BE.var 4)], SV.bool (BE.var 5)]
                    [Base.int IntKind.i64] (SV.int IntKind.i64 (IE.var 11)) [] true [6] [6] [6]
                    [(6, [SV.int IntKind.i64 (IE.var 0), SV.int IntKind.i64 (IE.var 1), SV.bool (BE.var 2), SV.int IntKind.i64 (IE.var 3), SV.bool (BE.var 4)])]
                    (VC.ob (BE.le (IE.lit (-9223372036854775808)) (IE.add (IE.var 0) (IE.var 11)))
                      (VC.ob (BE.le (IE.add (IE.var 0) (IE.var 11)) (IE.lit 9223372036854775807))
                        (VC.ob (BE.le (IE.lit (-9223372036854775808)) (IE.mul (IE.lit 65536) (IE.add (IE.var 0) (IE.var 11))))
                          (VC.ob (BE.le (IE.mul (IE.lit 65536) (IE.add (IE.var 0) (IE.var 11))) (IE.lit 9223372036854775807))
                            (VC.split (BE.eq (IE.add (IE.var 7) (IE.var 8)) (IE.mul (IE.lit 65536) (IE.add (IE.var 0) (IE.var 11))))
                              (VC.call 23
                                [SV.agg [SV.int IntKind.i64 (IE.var 0), SV.int IntKind.i64 (IE.var 1), SV.bool (BE.var 2), SV.int IntKind.i64 (IE.var 3), SV.bool (BE.var 4)],
                                  SV.int IntKind.i64 (IE.lit 65536), SV.bool (BE.var 5), SV.int IntKind.i64 (IE.var 7), SV.int IntKind.i64 (IE.var 8), SV.int IntKind.i64 (IE.lit 0)]
                                [Base.bool] (SV.bool (BE.var 12)) [] true [6] [6] [6]
                                [(6, [SV.int IntKind.i64 (IE.var 0), SV.int IntKind.i64 (IE.var 1), SV.bool (BE.var 2), SV.int IntKind.i64 (IE.var 3), SV.bool (BE.var 4)])]
                                (VC.split (BE.var 12)
                                  (VC.call 23
                                    [SV.agg [SV.int IntKind.i64 (IE.var 0), SV.int IntKind.i64 (IE.var 1), SV.bool (BE.var 2), SV.int IntKind.i64 (IE.var 3), SV.bool (BE.var 4)],
                                      SV.int IntKind.i64 (IE.lit 65537), SV.bool (BE.var 5), SV.int IntKind.i64 (IE.lit 0), SV.int IntKind.i64 (IE.lit 0), SV.int IntKind.i64 (IE.lit 2)]
                                    [Base.bool] (SV.bool (BE.var 13)) [] true [6] [6] [6]
                                    [(6, [SV.int IntKind.i64 (IE.var 0), SV.int IntKind.i64 (IE.var 1), SV.bool (BE.var 2), SV.int IntKind.i64 (IE.var 3), SV.bool (BE.var 4)])]
                                    (VC.split (BE.var 13)
                                      (VC.call 23
                                        [SV.agg [SV.int IntKind.i64 (IE.var 0), SV.int IntKind.i64 (IE.var 1), SV.bool (BE.var 2), SV.int IntKind.i64 (IE.var 3), SV.bool (BE.var 4)],
                                          SV.int IntKind.i64 (IE.lit (-1)), SV.bool (BE.var 5), SV.int IntKind.i64 (IE.lit 0), SV.int IntKind.i64 (IE.lit 0), SV.int IntKind.i64 (IE.lit 2)]
                                        [Base.bool] (SV.bool (BE.var 14)) [] true [6] [6] [6]
                                        [(6, [SV.int IntKind.i64 (IE.var 0), SV.int IntKind.i64 (IE.var 1), SV.bool (BE.var 2), SV.int IntKind.i64 (IE.var 3), SV.bool (BE.var 4)])]
                                        (VC.split (BE.var 14)
                                          (VC.call 19 [] [Base.bool] (SV.bool (BE.var 15)) [] true [6] [6] [6]
                                            [(6, [SV.int IntKind.i64 (IE.var 0), SV.int IntKind.i64 (IE.var 1), SV.bool (BE.var 2), SV.int IntKind.i64 (IE.var 3), SV.bool (BE.var 4)])]
                                            (VC.leaf 0 [SV.bool (BE.var 15)] [6]
                                              [(6, [SV.int IntKind.i64 (IE.var 0), SV.int IntKind.i64 (IE.var 1), SV.bool (BE.var 2), SV.int IntKind.i64 (IE.var 3), SV.bool (BE.var 4)])]))
                                          (VC.leaf 0 [SV.bool (BE.lit false)] [6]
                                            [(6, [SV.int IntKind.i64 (IE.var 0), SV.int IntKind.i64 (IE.var 1), SV.bool (BE.var 2), SV.int IntKind.i64 (IE.var 3), SV.bool (BE.var 4)])])))
                                      (VC.leaf 0 [SV.bool (BE.lit false)] [6]
                                        [(6, [SV.int IntKind.i64 (IE.var 0), SV.int IntKind.i64 (IE.var 1), SV.bool (BE.var 2), SV.int IntKind.i64 (IE.var 3), SV.bool (BE.var 4)])])))
                                  (VC.leaf 0 [SV.bool (BE.lit false)] [6]
                                    [(6, [SV.int IntKind.i64 (IE.var 0), SV.int IntKind.i64 (IE.var 1), SV.bool (BE.var 2), SV.int IntKind.i64 (IE.var 3), SV.bool (BE.var 4)])])))
                              (VC.leaf 0 [SV.bool (BE.lit false)] [6]
                                [(6, [SV.int IntKind.i64 (IE.var 0), SV.int IntKind.i64 (IE.var 1), SV.bool (BE.var 2), SV.int IntKind.i64 (IE.var 3), SV.bool (BE.var 4)])])))))))))
              (VC.leaf 0 [SV.bool (BE.lit false)] [6]
                [(6, [SV.int IntKind.i64 (IE.var 0), SV.int IntKind.i64 (IE.var 1), SV.bool (BE.var 2), SV.int IntKind.i64 (IE.var 3), SV.bool (BE.var 4)])]))))))) := by kernel_rfl

theorem c25 (z m : Int) (x : Bool) (t : Int) (fi act : Bool) (w : World) : Gives Try.prog 25 [fmtV z m x t fi, .bool act] w (.int .i64 (mvd m act)) := by
  refine gives mix t25 rfl rfl (ε := [.int .i64 z, .int .i64 m, .bool x, .int .i64 t, .bool fi, .bool act]) (fitsF _ _ _ _ _ ⟨⟨_, rfl⟩, trivial⟩) (den_blk fun b _ _ _ => ?_)
  refine den_split (fun h => den_split (fun h' => den_leaf ?_) (fun h' => den_leaf ?_)) (fun h => den_leaf ?_)
  all_goals simp_all [BE.den, IE.den, nth, vint, vbool, denL, SV.den, mvd]
theorem fOk_t {z m : Int} {x : Bool} {t : Int} {fi : Bool} (h : fOk z m x t fi = true) : 0 ≤ t := by
  simp only [fOk, pOk, Bool.and_eq_true, Bool.or_eq_true, decide_eq_true_eq] at h
  omega
theorem c20 (z m : Int) (x : Bool) (t : Int) (fi : Bool) (n : Int) (act : Bool) (w : World) :
    Gives Try.prog 20 [fmtV z m x t fi, .int .i64 n, .bool act] w (.tuple #[.int .i64 (leA z m x t fi n act), .int .i64 (leB z m x t fi n act), .int .i64 (leE z m x t fi n act)]) := by
  refine gives mix t20 rfl rfl (ε := [.int .i64 z, .int .i64 m, .bool x, .int .i64 t, .bool fi, .int .i64 n, .bool act]) (fitsF _ _ _ _ _ ⟨⟨_, rfl⟩, ⟨_, rfl⟩, trivial⟩) (den_blk fun b _ _ _ => ?_)
  refine den_call_bool (b := fOk z m x t fi) (fun w _ => c15 z m x t fi w) rfl (fun _ _ _ _ => ?_)
  refine den_norm (by simp only [List.cons_append, List.nil_append]; rfl) ?_
  have no : lOk z m x t fi n act = false → denL ([] : List Value) [.tuple [.int .i64 (.lit 0), .int .i64 (.lit 0), .int .i64 (.lit 2)]] = [.tuple #[.int .i64 (leA z m x t fi n act), .int .i64 (leB z m x t fi n act), .int .i64 (leE z m x t fi n act)]] := fun h => by
    simp [leA, leB, leE, h]; rfl
  refine den_split (fun h => den_leaf (no ?_)) (fun h => den_split (fun h1 => den_leaf (no ?_)) (fun h1 => den_split (fun h2 => den_leaf (no ?_)) (fun h2 => ?_)))
  · have h : fOk z m x t fi = false := by simpa [BE.den, nth, vbool] using h
    simp [lOk, h]
  · have h1 : n < 0 := of_decide_eq_true h1
    have : ¬ 0 ≤ n := by omega
    simp [lOk, this]
  · have h2 : 65536 < n := of_decide_eq_true h2
    have : ¬ n ≤ 65536 := by omega
    simp [lOk, this]
  have hF : fOk z m x t fi = true := by simpa [BE.den, nth, vbool] using h
  have hn0 : 0 ≤ n := Int.not_lt.1 (of_decide_eq_false h1)
  have hn1 : n ≤ 65536 := Int.not_lt.1 (of_decide_eq_false h2)
  have hf := fOk_parts hF
  have ht := fOk_t hF
  have hz : 0 ≤ z ∧ z ≤ 4096 := by omega
  have hm := mvd_range (act := act) hf.2
  have k1 := mul_range hn0 hn1 (show 0 ≤ z + mvd m act by omega) (by omega)
  have k2 := mul_range hn0 hn1 hz.1 (by omega)
  have k3 := mul_range hn0 hn1 hm.1 (by omega)
  have key : lOk z m x t fi n act = true → ∀ (ε : List Value) (wx ws : World) (X : Nat → Prop) (k : VC), True := fun _ _ _ _ _ _ => trivial
  have yes : lOk z m x t fi n act = true → (leA z m x t fi n act = lenA z x (mvd m act) n ∧ leB z m x t fi n act = lenB x (mvd m act) n ∧ leE z m x t fi n act = 0) := fun hl => by simp [leA, leB, leE, hl]
  cases act with
  | true =>
    refine den_split_true rfl (den_split (fun h3 => den_leaf (no ?_)) (fun h3 => ?_))
    · have h3 : t = 0 := of_decide_eq_true h3
      simp [lOk, h3]
    · have h3 : ¬ t = 0 := of_decide_eq_false h3
      have hl : lOk z m x t fi n true = true := by unfold lOk; rw [hF, decide_eq_true hn0, decide_eq_true hn1, decide_eq_true (show 0 < t by omega)]; rfl
      obtain ⟨e1, e2, e3⟩ := yes hl
      rw [e1, e2, e3]
      cases x with
      | true =>
        refine den_split_true rfl (den_start1 fun _ _ => den_call_int (x := mvd m true) (fun w _ => c25 z m true t fi true w) rfl (fun _ _ _ _ => den_norm (by simp only [List.cons_append, List.nil_append]; rfl) (den_ob ?_ (den_ob ?_ (den_ob ?_ (den_ob ?_ (den_leaf rfl)))))))
        all_goals (refine decide_eq_true ?_; simp only [IE.den, nth, vint]; omega)
      | false =>
        refine den_split_false rfl (den_start1 fun _ _ => den_ob ?_ (den_ob ?_ (den_call_int (x := mvd m true) (fun w _ => c25 z m false t fi true w) rfl (fun _ _ _ _ => den_norm (by simp only [List.cons_append, List.nil_append]; rfl) (den_ob ?_ (den_ob ?_ (den_leaf rfl)))))))
        all_goals (refine decide_eq_true ?_; simp only [IE.den, nth, vint]; omega)
  | false =>
    have hl : lOk z m x t fi n false = true := by unfold lOk; rw [hF, decide_eq_true hn0, decide_eq_true hn1]; rfl
    obtain ⟨e1, e2, e3⟩ := yes hl
    rw [e1, e2, e3]
    cases x with
    | true =>
      refine den_split_false rfl (den_split_true rfl (den_start1 fun _ _ => den_call_int (x := mvd m false) (fun w _ => c25 z m true t fi false w) rfl (fun _ _ _ _ => den_norm (by simp only [List.cons_append, List.nil_append]; rfl) (den_ob ?_ (den_ob ?_ (den_ob ?_ (den_ob ?_ (den_leaf rfl))))))))
      all_goals (refine decide_eq_true ?_; simp only [IE.den, nth, vint]; omega)
    | false =>
      refine den_split_false rfl (den_split_false rfl (den_start1 fun _ _ => den_ob ?_ (den_ob ?_ (den_call_int (x := mvd m false) (fun w _ => c25 z m false t fi false w) rfl (fun _ _ _ _ => den_norm (by simp only [List.cons_append, List.nil_append]; rfl) (den_ob ?_ (den_ob ?_ (den_leaf rfl))))))))
      all_goals (refine decide_eq_true ?_; simp only [IE.den, nth, vint]; omega)
theorem leb (z m : Int) (x : Bool) (t : Int) (fi : Bool) (n : Int) (act : Bool) (a b no : Int) (h1 : leA z m x t fi n act = a) (h2 : leB z m x t fi n act = b) (h3 : leE z m x t fi n act = no) (w : World) :
    Gives Try.prog 23 [fmtV z m x t fi, .int .i64 n, .bool act, .int .i64 a, .int .i64 b, .int .i64 no] w (.bool true) :=
  (c23 z m x t fi n act a b no w).to (by rw [decide_eq_true h1, decide_eq_true h2, decide_eq_true h3]; rfl)
theorem le_no {z m : Int} {x : Bool} {t : Int} {fi : Bool} {n : Int} {act : Bool} (h : lOk z m x t fi n act = false) : leA z m x t fi n act = 0 ∧ leB z m x t fi n act = 0 ∧ leE z m x t fi n act = 2 := by simp [leA, leB, leE, h]
theorem le_yes {z m : Int} {x : Bool} {t : Int} {fi : Bool} {n : Int} {act : Bool} (h : lOk z m x t fi n act = true) : leA z m x t fi n act = lenA z x (mvd m act) n ∧ leB z m x t fi n act = lenB x (mvd m act) n ∧ leE z m x t fi n act = 0 := by simp [leA, leB, leE, h]
theorem c5 (z m : Int) (x : Bool) (t : Int) (fi act : Bool) (w : World) : Gives Try.prog 5 [fmtV z m x t fi, .bool act] w (.bool true) := by
  refine gives mix t5 rfl rfl (ε := [.int .i64 z, .int .i64 m, .bool x, .int .i64 t, .bool fi, .bool act]) (fitsF _ _ _ _ _ ⟨⟨_, rfl⟩, trivial⟩) (den_blk fun b _ _ _ => ?_)
  have hno : fOk z m x t fi = false ∨ (act = true ∧ t = 0) → lOk z m x t fi 65536 act = false := fun h => by
    rcases h with h | ⟨rfl, rfl⟩
    · unfold lOk; rw [h]; rfl
    · unfold lOk; simp
  cases hf : fOk z m x t fi with
  | false =>
    obtain ⟨e1, e2, e3⟩ := le_no (hno (.inl hf))
    refine den_call [.int .i64 0, .int .i64 0, .int .i64 2] ⟨⟨_, rfl⟩, ⟨_, rfl⟩, ⟨_, rfl⟩, trivial⟩ rfl (fun w _ => (c20 z m x t fi 65536 act w).to (by rw [e1, e2, e3]; rfl)) (fun _ _ _ _ => den_norm (by simp only [List.cons_append, List.nil_append]; rfl) ?_)
    refine den_call_bool (b := false) (fun w _ => hf ▸ c15 z m x t fi w) rfl (fun _ _ _ _ => den_norm (by simp only [List.cons_append, List.nil_append]; rfl) (den_split_true rfl (den_split_true rfl ?_)))
    exact den_call_bool (b := true) (fun w _ => leb z m x t fi 65536 act 0 0 2 e1 e2 e3 w) rfl (fun _ _ _ _ => den_split_true rfl (den_call_bool (b := true) (fun w _ => c19 w) rfl (fun _ _ _ _ => den_leaf rfl)))
  | true =>
    have hp := fOk_parts hf
    have ht := fOk_t hf
    by_cases hbad : act = true ∧ t = 0
    · obtain ⟨e1, e2, e3⟩ := le_no (hno (.inr hbad))
      obtain ⟨rfl, rfl⟩ := hbad
      refine den_call [.int .i64 0, .int .i64 0, .int .i64 2] ⟨⟨_, rfl⟩, ⟨_, rfl⟩, ⟨_, rfl⟩, trivial⟩ rfl (fun w _ => (c20 z m x 0 fi 65536 true w).to (by rw [e1, e2, e3]; rfl)) (fun _ _ _ _ => den_norm (by simp only [List.cons_append, List.nil_append]; rfl) ?_)
      refine den_call_bool (b := true) (fun w _ => hf ▸ c15 z m x 0 fi w) rfl (fun _ _ _ _ => den_norm (by simp only [List.cons_append, List.nil_append]; rfl) (den_split_false rfl (den_split_true rfl (den_split_true rfl (den_split_true rfl ?_)))))
      exact den_call_bool (b := true) (fun w _ => leb z m x 0 fi 65536 true 0 0 2 e1 e2 e3 w) rfl (fun _ _ _ _ => den_split_true rfl (den_call_bool (b := true) (fun w _ => c19 w) rfl (fun _ _ _ _ => den_leaf rfl)))
    · have hl : lOk z m x t fi 65536 act = true := by
        unfold lOk
        rw [hf]
        cases act with
        | false => rfl
        | true => rw [decide_eq_true (show 0 < t by have : ¬ t = 0 := fun e => hbad ⟨rfl, e⟩; omega)]; rfl
      obtain ⟨e1, e2, e3⟩ := le_yes hl
      have hm := mvd_range (act := act) hp.2
      have n1 : lOk z m x t fi 65537 act = false := by unfold lOk; simp
      have n2 : lOk z m x t fi (-1) act = false := by unfold lOk; simp
      obtain ⟨f1, f2, f3⟩ := le_no n1
      obtain ⟨g1, g2, g3⟩ := le_no n2
      have hsum : lenA z x (mvd m act) 65536 + lenB x (mvd m act) 65536 = 65536 * (z + mvd m act) := by
        unfold lenA lenB; cases x <;> simp <;> omega
      refine den_call [.int .i64 (lenA z x (mvd m act) 65536), .int .i64 (lenB x (mvd m act) 65536), .int .i64 0] ⟨⟨_, rfl⟩, ⟨_, rfl⟩, ⟨_, rfl⟩, trivial⟩ rfl (fun w _ => (c20 z m x t fi 65536 act w).to (by rw [e1, e2, e3]; rfl)) (fun _ _ _ _ => den_norm (by simp only [List.cons_append, List.nil_append]; rfl) ?_)
      refine den_call_bool (b := true) (fun w _ => hf ▸ c15 z m x t fi w) rfl (fun _ _ _ _ => den_norm (by simp only [List.cons_append, List.nil_append]; rfl) (den_split_false rfl ?_))
      have rest : ∀ {ε' : List Value} {wx' ws' : World} {X' : Nat → Prop}, True := trivial
      refine den_split (fun ha => den_split (fun h0 => ?_) (fun _ => ?_)) (fun _ => ?_)
      · exact absurd ⟨ha, of_decide_eq_true h0⟩ hbad
      all_goals
        refine den_start1 fun _ _ => den_split_true rfl (den_ob ?_ (den_ob ?_ (den_call_int (x := mvd m act) (fun w _ => c25 z m x t fi act w) rfl (fun _ _ _ _ => den_norm (by simp only [List.cons_append, List.nil_append]; rfl) (den_ob ?_ (den_ob ?_ (den_ob ?_ (den_ob ?_ (den_split_true ?_ ?_)))))))))
        · refine decide_eq_true ?_; simp only [IE.den, nth, vint]; omega
        · refine decide_eq_true ?_; simp only [IE.den, nth, vint]; omega
        · refine decide_eq_true ?_; simp only [IE.den, nth, vint]; omega
        · refine decide_eq_true ?_; simp only [IE.den, nth, vint]; omega
        · refine decide_eq_true ?_; simp only [IE.den, nth, vint]; omega
        · refine decide_eq_true ?_; simp only [IE.den, nth, vint]; omega
        · exact decide_eq_true hsum
        refine den_call_bool (b := true) (fun w _ => leb z m x t fi 65536 act _ _ 0 e1 e2 e3 w) rfl (fun _ _ _ _ => den_norm (by simp only [List.cons_append, List.nil_append]; rfl) (den_split_true rfl ?_))
        refine den_call_bool (b := true) (fun w _ => leb z m x t fi 65537 act 0 0 2 f1 f2 f3 w) rfl (fun _ _ _ _ => den_norm (by simp only [List.cons_append, List.nil_append]; rfl) (den_split_true rfl ?_))
        refine den_call_bool (b := true) (fun w _ => leb z m x t fi (-1) act 0 0 2 g1 g2 g3 w) rfl (fun _ _ _ _ => den_norm (by simp only [List.cons_append, List.nil_append]; rfl) (den_split_true rfl ?_))
        exact den_call_bool (b := true) (fun w _ => c19 w) rfl (fun _ _ _ _ => den_leaf rfl)
end Go.Proofs.Ytngemhmjpphpaaa
