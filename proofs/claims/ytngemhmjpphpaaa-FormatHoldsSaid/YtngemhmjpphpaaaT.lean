/- What the functions of the chapter come to, printed by a program of the prover's and checked by the kernel. No conditions. -/
import Derived.Test.YtngemhmjpphpaaaSxX
import Derived.Test.YtngemhmjpphpaaaProg
import Derived.KernelRfl
set_option maxRecDepth 100000
set_option linter.unusedVariables false
namespace Go.Proofs.Ytngemhmjpphpaaa
open Go.Sx

theorem t36 : exFn { P := Try.prog } 36 [.agg [.int .i64 (.var 0), .bool (.var 1)]] [.int .i64, .bool] [] =
  VC.blk
  (VC.split (BE.eq (IE.shr IntKind.i64 (IE.var 0) (IE.lit 2)) (IE.lit 0))
    (VC.split (BE.lt (IE.lit 0) (IE.var 0)) (VC.leaf 0 [SV.bool (BE.lit true)] [] [(2, [SV.int IntKind.i64 (IE.var 0), SV.bool (BE.var 1)])])
      (VC.leaf 0 [SV.bool (BE.not (BE.var 1))] [] [(2, [SV.int IntKind.i64 (IE.var 0), SV.bool (BE.var 1)])]))
    (VC.leaf 0 [SV.bool (BE.lit false)] [] [(2, [SV.int IntKind.i64 (IE.var 0), SV.bool (BE.var 1)])])) := by kernel_rfl

theorem t37 : exFn { P := Try.prog } 37 [.agg [.int .i64 (.var 0), .bool (.var 1)]] [.int .i64, .bool] [] =
  VC.blk
  (VC.split (BE.le (IE.lit 0) (IE.var 0))
    (VC.split (BE.le (IE.var 0) (IE.lit 3))
      (VC.split (BE.lt (IE.lit 0) (IE.var 0)) (VC.leaf 0 [SV.bool (BE.lit true)] [] [(2, [SV.int IntKind.i64 (IE.var 0), SV.bool (BE.var 1)])])
        (VC.leaf 0 [SV.bool (BE.not (BE.var 1))] [] [(2, [SV.int IntKind.i64 (IE.var 0), SV.bool (BE.var 1)])]))
      (VC.leaf 0 [SV.bool (BE.lit false)] [] [(2, [SV.int IntKind.i64 (IE.var 0), SV.bool (BE.var 1)])]))
    (VC.leaf 0 [SV.bool (BE.lit false)] [] [(2, [SV.int IntKind.i64 (IE.var 0), SV.bool (BE.var 1)])])) := by kernel_rfl

theorem t35 : exFn { P := Try.prog } 35 [.var 0, .int .i64 (.var 1)] [.slice, .int .i64] [] =
  VC.call 52 [SV.var 0, SV.int IntKind.i64 (IE.var 1)] [Base.int IntKind.i64] (SV.int IntKind.i64 (IE.var 2)) [] false [] [] [] [] (VC.leaf 0 [SV.bool (BE.le (IE.lit 0) (IE.var 2))] [] []) := by kernel_rfl

theorem t51 : exFn { P := Try.prog } 51 [.var 0, .bool (.var 1)] [.slice, .bool] [] =
  VC.call 56 [SV.var 0, SV.bool (BE.var 1)] [Base.int IntKind.i64] (SV.int IntKind.i64 (IE.var 2)) [] false [] [] [] [] (VC.leaf 0 [SV.bool (BE.le (IE.lit 0) (IE.var 2))] [] []) := by kernel_rfl

theorem t34 : exFn { P := Try.prog } 34 [.var 0] [.slice] [] =
  VC.call 51 [SV.var 0, SV.bool (BE.lit false)] [Base.bool] (SV.bool (BE.var 1)) [] false [] [] [] [] (VC.leaf 0 [SV.bool (BE.not (BE.var 1))] [] []) := by kernel_rfl

theorem t14 : exFn { P := Try.prog } 14 [.agg [.int .i64 (.var 0), .int .i64 (.var 1), .bool (.var 2), .int .i64 (.var 3), .bool (.var 4)]] [.int .i64, .int .i64, .bool, .int .i64, .bool] [] =
  VC.blk
  (VC.blk
    (VC.blk
      (VC.start true [7, 6] [7, 6, 5]
        [(7, [SV.int IntKind.i64 (IE.lit 0), SV.int IntKind.i64 (IE.lit 8), SV.int IntKind.i64 (IE.lit 16), SV.int IntKind.i64 (IE.lit 64)]),
          (6, [SV.int IntKind.i64 (IE.lit 512), SV.int IntKind.i64 (IE.lit 4096)]),
          (5, [SV.int IntKind.i64 (IE.var 0), SV.int IntKind.i64 (IE.var 1), SV.bool (BE.var 2), SV.int IntKind.i64 (IE.var 3), SV.bool (BE.var 4)])]
        (VC.call 35 [SV.slc 6 0 2 2, SV.int IntKind.i64 (IE.var 0)] [Base.bool] (SV.bool (BE.var 8)) [] true [] [] [7, 6, 5]
          [(7, [SV.int IntKind.i64 (IE.lit 0), SV.int IntKind.i64 (IE.lit 8), SV.int IntKind.i64 (IE.lit 16), SV.int IntKind.i64 (IE.lit 64)]),
            (6, [SV.int IntKind.i64 (IE.lit 512), SV.int IntKind.i64 (IE.lit 4096)]),
            (5, [SV.int IntKind.i64 (IE.var 0), SV.int IntKind.i64 (IE.var 1), SV.bool (BE.var 2), SV.int IntKind.i64 (IE.var 3), SV.bool (BE.var 4)])]
          (VC.call 35 [SV.slc 7 0 4 4, SV.int IntKind.i64 (IE.var 1)] [Base.bool] (SV.bool (BE.var 9)) [] true [] [] [7, 6, 5]
            [(7, [SV.int IntKind.i64 (IE.lit 0), SV.int IntKind.i64 (IE.lit 8), SV.int IntKind.i64 (IE.lit 16), SV.int IntKind.i64 (IE.lit 64)]),
              (6, [SV.int IntKind.i64 (IE.lit 512), SV.int IntKind.i64 (IE.lit 4096)]),
              (5, [SV.int IntKind.i64 (IE.var 0), SV.int IntKind.i64 (IE.var 1), SV.bool (BE.var 2), SV.int IntKind.i64 (IE.var 3), SV.bool (BE.var 4)])]
            (VC.call 36 [SV.agg [SV.int IntKind.i64 (IE.var 3), SV.bool (BE.var 4)]] [Base.bool] (SV.bool (BE.var 10)) [] true [] [] [7, 6, 5]
              [(7, [SV.int IntKind.i64 (IE.lit 0), SV.int IntKind.i64 (IE.lit 8), SV.int IntKind.i64 (IE.lit 16), SV.int IntKind.i64 (IE.lit 64)]),
                (6, [SV.int IntKind.i64 (IE.lit 512), SV.int IntKind.i64 (IE.lit 4096)]),
                (5, [SV.int IntKind.i64 (IE.var 0), SV.int IntKind.i64 (IE.var 1), SV.bool (BE.var 2), SV.int IntKind.i64 (IE.var 3), SV.bool (BE.var 4)])]
              (VC.split (BE.lt (IE.lit 0) (IE.var 1))
                (VC.blk
                  (VC.call 34 [SV.slc 11 0 4 4] [Base.bool] (SV.bool (BE.var 12)) [] true [] [] [11, 7, 6, 5]
                    [(11, [SV.bool (BE.var 8), SV.bool (BE.var 9), SV.bool (BE.var 10), SV.bool (BE.lit true)]),
                      (7, [SV.int IntKind.i64 (IE.lit 0), SV.int IntKind.i64 (IE.lit 8), SV.int IntKind.i64 (IE.lit 16), SV.int IntKind.i64 (IE.lit 64)]),
                      (6, [SV.int IntKind.i64 (IE.lit 512), SV.int IntKind.i64 (IE.lit 4096)]),
                      (5, [SV.int IntKind.i64 (IE.var 0), SV.int IntKind.i64 (IE.var 1), SV.bool (BE.var 2), SV.int IntKind.i64 (IE.var 3), SV.bool (BE.var 4)])]
                    (VC.leaf 0 [SV.bool (BE.var 12)] []
                      [(11, [SV.bool (BE.var 8), SV.bool (BE.var 9), SV.bool (BE.var 10), SV.bool (BE.lit true)]),
                        (7, [SV.int IntKind.i64 (IE.lit 0), SV.int IntKind.i64 (IE.lit 8), SV.int IntKind.i64 (IE.lit 16), SV.int IntKind.i64 (IE.lit 64)]),
                        (6, [SV.int IntKind.i64 (IE.lit 512), SV.int IntKind.i64 (IE.lit 4096)]),
                        (5, [SV.int IntKind.i64 (IE.var 0), SV.int IntKind.i64 (IE.var 1), SV.bool (BE.var 2), SV.int IntKind.i64 (IE.var 3), SV.bool (BE.var 4)])])))
                (VC.split (BE.eq (IE.var 3) (IE.lit 0))
                  (VC.blk
                    (VC.call 34 [SV.slc 11 0 4 4] [Base.bool] (SV.bool (BE.var 12)) [] true [] [] [11, 7, 6, 5]
                      [(11, [SV.bool (BE.var 8), SV.bool (BE.var 9), SV.bool (BE.var 10), SV.bool (BE.not (BE.var 2))]),
                        (7, [SV.int IntKind.i64 (IE.lit 0), SV.int IntKind.i64 (IE.lit 8), SV.int IntKind.i64 (IE.lit 16), SV.int IntKind.i64 (IE.lit 64)]),
                        (6, [SV.int IntKind.i64 (IE.lit 512), SV.int IntKind.i64 (IE.lit 4096)]),
                        (5, [SV.int IntKind.i64 (IE.var 0), SV.int IntKind.i64 (IE.var 1), SV.bool (BE.var 2), SV.int IntKind.i64 (IE.var 3), SV.bool (BE.var 4)])]
                      (VC.leaf 0 [SV.bool (BE.var 12)] []
                        [(11, [SV.bool (BE.var 8), SV.bool (BE.var 9), SV.bool (BE.var 10), SV.bool (BE.not (BE.var 2))]),
                          (7, [SV.int IntKind.i64 (IE.lit 0), SV.int IntKind.i64 (IE.lit 8), SV.int IntKind.i64 (IE.lit 16), SV.int IntKind.i64 (IE.lit 64)]),
                          (6, [SV.int IntKind.i64 (IE.lit 512), SV.int IntKind.i64 (IE.lit 4096)]),
                          (5, [SV.int IntKind.i64 (IE.var 0), SV.int IntKind.i64 (IE.var 1), SV.bool (BE.var 2), SV.int IntKind.i64 (IE.var 3), SV.bool (BE.var 4)])])))
                  (VC.blk
                    (VC.call 34 [SV.slc 11 0 4 4] [Base.bool] (SV.bool (BE.var 12)) [] true [] [] [11, 7, 6, 5]
                      [(11, [SV.bool (BE.var 8), SV.bool (BE.var 9), SV.bool (BE.var 10), SV.bool (BE.lit false)]),
                        (7, [SV.int IntKind.i64 (IE.lit 0), SV.int IntKind.i64 (IE.lit 8), SV.int IntKind.i64 (IE.lit 16), SV.int IntKind.i64 (IE.lit 64)]),
                        (6, [SV.int IntKind.i64 (IE.lit 512), SV.int IntKind.i64 (IE.lit 4096)]),
                        (5, [SV.int IntKind.i64 (IE.var 0), SV.int IntKind.i64 (IE.var 1), SV.bool (BE.var 2), SV.int IntKind.i64 (IE.var 3), SV.bool (BE.var 4)])]
                      (VC.leaf 0 [SV.bool (BE.var 12)] []
                        [(11, [SV.bool (BE.var 8), SV.bool (BE.var 9), SV.bool (BE.var 10), SV.bool (BE.lit false)]),
                          (7, [SV.int IntKind.i64 (IE.lit 0), SV.int IntKind.i64 (IE.lit 8), SV.int IntKind.i64 (IE.lit 16), SV.int IntKind.i64 (IE.lit 64)]),
                          (6, [SV.int IntKind.i64 (IE.lit 512), SV.int IntKind.i64 (IE.lit 4096)]),
                          (5, [SV.int IntKind.i64 (IE.var 0), SV.int IntKind.i64 (IE.var 1), SV.bool (BE.var 2), SV.int IntKind.i64 (IE.var 3), SV.bool (BE.var 4)])]))))))))))) := by kernel_rfl

theorem t15 : exFn { P := Try.prog } 15 [.agg [.int .i64 (.var 0), .int .i64 (.var 1), .bool (.var 2), .int .i64 (.var 3), .bool (.var 4)]] [.int .i64, .int .i64, .bool, .int .i64, .bool] [] =
  VC.blk
  (VC.split (BE.not (BE.eq (IE.var 0) (IE.lit 512)))
    (VC.split (BE.not (BE.eq (IE.var 0) (IE.lit 4096)))
      (VC.leaf 0 [SV.bool (BE.lit false)] [] [(5, [SV.int IntKind.i64 (IE.var 0), SV.int IntKind.i64 (IE.var 1), SV.bool (BE.var 2), SV.int IntKind.i64 (IE.var 3), SV.bool (BE.var 4)])])
      (VC.split (BE.not (BE.eq (IE.var 1) (IE.lit 0)))
        (VC.split (BE.not (BE.eq (IE.var 1) (IE.lit 8)))
          (VC.split (BE.not (BE.eq (IE.var 1) (IE.lit 16)))
            (VC.split (BE.not (BE.eq (IE.var 1) (IE.lit 64)))
              (VC.leaf 0 [SV.bool (BE.lit false)] [] [(5, [SV.int IntKind.i64 (IE.var 0), SV.int IntKind.i64 (IE.var 1), SV.bool (BE.var 2), SV.int IntKind.i64 (IE.var 3), SV.bool (BE.var 4)])])
              (VC.call 37 [SV.agg [SV.int IntKind.i64 (IE.var 3), SV.bool (BE.var 4)]] [Base.bool] (SV.bool (BE.var 6)) [] false [] [] [5]
                [(5, [SV.int IntKind.i64 (IE.var 0), SV.int IntKind.i64 (IE.var 1), SV.bool (BE.var 2), SV.int IntKind.i64 (IE.var 3), SV.bool (BE.var 4)])]
                (VC.split (BE.not (BE.var 6))
                  (VC.leaf 0 [SV.bool (BE.lit false)] [] [(5, [SV.int IntKind.i64 (IE.var 0), SV.int IntKind.i64 (IE.var 1), SV.bool (BE.var 2), SV.int IntKind.i64 (IE.var 3), SV.bool (BE.var 4)])])
                  (VC.split (BE.lt (IE.lit 0) (IE.var 1))
                    (VC.leaf 0 [SV.bool (BE.lit true)] [] [(5, [SV.int IntKind.i64 (IE.var 0), SV.int IntKind.i64 (IE.var 1), SV.bool (BE.var 2), SV.int IntKind.i64 (IE.var 3), SV.bool (BE.var 4)])])
                    (VC.split (BE.eq (IE.var 3) (IE.lit 0))
                      (VC.leaf 0 [SV.bool (BE.not (BE.var 2))] []
                        [(5, [SV.int IntKind.i64 (IE.var 0), SV.int IntKind.i64 (IE.var 1), SV.bool (BE.var 2), SV.int IntKind.i64 (IE.var 3), SV.bool (BE.var 4)])])
                      (VC.leaf 0 [SV.bool (BE.lit false)] []
                        [(5, [SV.int IntKind.i64 (IE.var 0), SV.int IntKind.i64 (IE.var 1), SV.bool (BE.var 2), SV.int IntKind.i64 (IE.var 3), SV.bool (BE.var 4)])]))))))
            (VC.call 37 [SV.agg [SV.int IntKind.i64 (IE.var 3), SV.bool (BE.var 4)]] [Base.bool] (SV.bool (BE.var 6)) [] false [] [] [5]
              [(5, [SV.int IntKind.i64 (IE.var 0), SV.int IntKind.i64 (IE.var 1), SV.bool (BE.var 2), SV.int IntKind.i64 (IE.var 3), SV.bool (BE.var 4)])]
              (VC.split (BE.not (BE.var 6))
                (VC.leaf 0 [SV.bool (BE.lit false)] [] [(5, [SV.int IntKind.i64 (IE.var 0), SV.int IntKind.i64 (IE.var 1), SV.bool (BE.var 2), SV.int IntKind.i64 (IE.var 3), SV.bool (BE.var 4)])])
                (VC.split (BE.lt (IE.lit 0) (IE.var 1))
                  (VC.leaf 0 [SV.bool (BE.lit true)] [] [(5, [SV.int IntKind.i64 (IE.var 0), SV.int IntKind.i64 (IE.var 1), SV.bool (BE.var 2), SV.int IntKind.i64 (IE.var 3), SV.bool (BE.var 4)])])
                  (VC.split (BE.eq (IE.var 3) (IE.lit 0))
                    (VC.leaf 0 [SV.bool (BE.not (BE.var 2))] []
                      [(5, [SV.int IntKind.i64 (IE.var 0), SV.int IntKind.i64 (IE.var 1), SV.bool (BE.var 2), SV.int IntKind.i64 (IE.var 3), SV.bool (BE.var 4)])])
                    (VC.leaf 0 [SV.bool (BE.lit false)] []
                      [(5, [SV.int IntKind.i64 (IE.var 0), SV.int IntKind.i64 (IE.var 1), SV.bool (BE.var 2), SV.int IntKind.i64 (IE.var 3), SV.bool (BE.var 4)])]))))))
          (VC.call 37 [SV.agg [SV.int IntKind.i64 (IE.var 3), SV.bool (BE.var 4)]] [Base.bool] (SV.bool (BE.var 6)) [] false [] [] [5]
            [(5, [SV.int IntKind.i64 (IE.var 0), SV.int IntKind.i64 (IE.var 1), SV.bool (BE.var 2), SV.int IntKind.i64 (IE.var 3), SV.bool (BE.var 4)])]
            (VC.split (BE.not (BE.var 6))
              (VC.leaf 0 [SV.bool (BE.lit false)] [] [(5, [SV.int IntKind.i64 (IE.var 0), SV.int IntKind.i64 (IE.var 1), SV.bool (BE.var 2), SV.int IntKind.i64 (IE.var 3), SV.bool (BE.var 4)])])
              (VC.split (BE.lt (IE.lit 0) (IE.var 1))
                (VC.leaf 0 [SV.bool (BE.lit true)] [] [(5, [SV.int IntKind.i64 (IE.var 0), SV.int IntKind.i64 (IE.var 1), SV.bool (BE.var 2), SV.int IntKind.i64 (IE.var 3), SV.bool (BE.var 4)])])
                (VC.split (BE.eq (IE.var 3) (IE.lit 0))
                  (VC.leaf 0 [SV.bool (BE.not (BE.var 2))] []
                    [(5, [SV.int IntKind.i64 (IE.var 0), SV.int IntKind.i64 (IE.var 1), SV.bool (BE.var 2), SV.int IntKind.i64 (IE.var 3), SV.bool (BE.var 4)])])
                  (VC.leaf 0 [SV.bool (BE.lit false)] []
                    [(5, [SV.int IntKind.i64 (IE.var 0), SV.int IntKind.i64 (IE.var 1), SV.bool (BE.var 2), SV.int IntKind.i64 (IE.var 3), SV.bool (BE.var 4)])]))))))
        (VC.call 37 [SV.agg [SV.int IntKind.i64 (IE.var 3), SV.bool (BE.var 4)]] [Base.bool] (SV.bool (BE.var 6)) [] false [] [] [5]
          [(5, [SV.int IntKind.i64 (IE.var 0), SV.int IntKind.i64 (IE.var 1), SV.bool (BE.var 2), SV.int IntKind.i64 (IE.var 3), SV.bool (BE.var 4)])]
          (VC.split (BE.not (BE.var 6))
            (VC.leaf 0 [SV.bool (BE.lit false)] [] [(5, [SV.int IntKind.i64 (IE.var 0), SV.int IntKind.i64 (IE.var 1), SV.bool (BE.var 2), SV.int IntKind.i64 (IE.var 3), SV.bool (BE.var 4)])])
            (VC.split (BE.lt (IE.lit 0) (IE.var 1))
              (VC.leaf 0 [SV.bool (BE.lit true)] [] [(5, [SV.int IntKind.i64 (IE.var 0), SV.int IntKind.i64 (IE.var 1), SV.bool (BE.var 2), SV.int IntKind.i64 (IE.var 3), SV.bool (BE.var 4)])])
              (VC.split (BE.eq (IE.var 3) (IE.lit 0))
                (VC.leaf 0 [SV.bool (BE.not (BE.var 2))] []
                  [(5, [SV.int IntKind.i64 (IE.var 0), SV.int IntKind.i64 (IE.var 1), SV.bool (BE.var 2), SV.int IntKind.i64 (IE.var 3), SV.bool (BE.var 4)])])
                (VC.leaf 0 [SV.bool (BE.lit false)] []
                  [(5, [SV.int IntKind.i64 (IE.var 0), SV.int IntKind.i64 (IE.var 1), SV.bool (BE.var 2), SV.int IntKind.i64 (IE.var 3), SV.bool (BE.var 4)])])))))))
    (VC.split (BE.not (BE.eq (IE.var 1) (IE.lit 0)))
      (VC.split (BE.not (BE.eq (IE.var 1) (IE.lit 8)))
        (VC.split (BE.not (BE.eq (IE.var 1) (IE.lit 16)))
          (VC.split (BE.not (BE.eq (IE.var 1) (IE.lit 64)))
            (VC.leaf 0 [SV.bool (BE.lit false)] [] [(5, [SV.int IntKind.i64 (IE.var 0), SV.int IntKind.i64 (IE.var 1), SV.bool (BE.var 2), SV.int IntKind.i64 (IE.var 3), SV.bool (BE.var 4)])])
            (VC.call 37 [SV.agg [SV.int IntKind.i64 (IE.var 3), SV.bool (BE.var 4)]] [Base.bool] (SV.bool (BE.var 6)) [] false [] [] [5]
              [(5, [SV.int IntKind.i64 (IE.var 0), SV.int IntKind.i64 (IE.var 1), SV.bool (BE.var 2), SV.int IntKind.i64 (IE.var 3), SV.bool (BE.var 4)])]
              (VC.split (BE.not (BE.var 6))
                (VC.leaf 0 [SV.bool (BE.lit false)] [] [(5, [SV.int IntKind.i64 (IE.var 0), SV.int IntKind.i64 (IE.var 1), SV.bool (BE.var 2), SV.int IntKind.i64 (IE.var 3), SV.bool (BE.var 4)])])
                (VC.split (BE.lt (IE.lit 0) (IE.var 1))
                  (VC.leaf 0 [SV.bool (BE.lit true)] [] [(5, [SV.int IntKind.i64 (IE.var 0), SV.int IntKind.i64 (IE.var 1), SV.bool (BE.var 2), SV.int IntKind.i64 (IE.var 3), SV.bool (BE.var 4)])])
                  (VC.split (BE.eq (IE.var 3) (IE.lit 0))
                    (VC.leaf 0 [SV.bool (BE.not (BE.var 2))] []
                      [(5, [SV.int IntKind.i64 (IE.var 0), SV.int IntKind.i64 (IE.var 1), SV.bool (BE.var 2), SV.int IntKind.i64 (IE.var 3), SV.bool (BE.var 4)])])
                    (VC.leaf 0 [SV.bool (BE.lit false)] []
                      [(5, [SV.int IntKind.i64 (IE.var 0), SV.int IntKind.i64 (IE.var 1), SV.bool (BE.var 2), SV.int IntKind.i64 (IE.var 3), SV.bool (BE.var 4)])]))))))
          (VC.call 37 [SV.agg [SV.int IntKind.i64 (IE.var 3), SV.bool (BE.var 4)]] [Base.bool] (SV.bool (BE.var 6)) [] false [] [] [5]
            [(5, [SV.int IntKind.i64 (IE.var 0), SV.int IntKind.i64 (IE.var 1), SV.bool (BE.var 2), SV.int IntKind.i64 (IE.var 3), SV.bool (BE.var 4)])]
            (VC.split (BE.not (BE.var 6))
              (VC.leaf 0 [SV.bool (BE.lit false)] [] [(5, [SV.int IntKind.i64 (IE.var 0), SV.int IntKind.i64 (IE.var 1), SV.bool (BE.var 2), SV.int IntKind.i64 (IE.var 3), SV.bool (BE.var 4)])])
              (VC.split (BE.lt (IE.lit 0) (IE.var 1))
                (VC.leaf 0 [SV.bool (BE.lit true)] [] [(5, [SV.int IntKind.i64 (IE.var 0), SV.int IntKind.i64 (IE.var 1), SV.bool (BE.var 2), SV.int IntKind.i64 (IE.var 3), SV.bool (BE.var 4)])])
                (VC.split (BE.eq (IE.var 3) (IE.lit 0))
                  (VC.leaf 0 [SV.bool (BE.not (BE.var 2))] []
                    [(5, [SV.int IntKind.i64 (IE.var 0), SV.int IntKind.i64 (IE.var 1), SV.bool (BE.var 2), SV.int IntKind.i64 (IE.var 3), SV.bool (BE.var 4)])])
                  (VC.leaf 0 [SV.bool (BE.lit false)] []
                    [(5, [SV.int IntKind.i64 (IE.var 0), SV.int IntKind.i64 (IE.var 1), SV.bool (BE.var 2), SV.int IntKind.i64 (IE.var 3), SV.bool (BE.var 4)])]))))))
        (VC.call 37 [SV.agg [SV.int IntKind.i64 (IE.var 3), SV.bool (BE.var 4)]] [Base.bool] (SV.bool (BE.var 6)) [] false [] [] [5]
          [(5, [SV.int IntKind.i64 (IE.var 0), SV.int IntKind.i64 (IE.var 1), SV.bool (BE.var 2), SV.int IntKind.i64 (IE.var 3), SV.bool (BE.var 4)])]
          (VC.split (BE.not (BE.var 6))
            (VC.leaf 0 [SV.bool (BE.lit false)] [] [(5, [SV.int IntKind.i64 (IE.var 0), SV.int IntKind.i64 (IE.var 1), SV.bool (BE.var 2), SV.int IntKind.i64 (IE.var 3), SV.bool (BE.var 4)])])
            (VC.split (BE.lt (IE.lit 0) (IE.var 1))
              (VC.leaf 0 [SV.bool (BE.lit true)] [] [(5, [SV.int IntKind.i64 (IE.var 0), SV.int IntKind.i64 (IE.var 1), SV.bool (BE.var 2), SV.int IntKind.i64 (IE.var 3), SV.bool (BE.var 4)])])
              (VC.split (BE.eq (IE.var 3) (IE.lit 0))
                (VC.leaf 0 [SV.bool (BE.not (BE.var 2))] []
                  [(5, [SV.int IntKind.i64 (IE.var 0), SV.int IntKind.i64 (IE.var 1), SV.bool (BE.var 2), SV.int IntKind.i64 (IE.var 3), SV.bool (BE.var 4)])])
                (VC.leaf 0 [SV.bool (BE.lit false)] []
                  [(5, [SV.int IntKind.i64 (IE.var 0), SV.int IntKind.i64 (IE.var 1), SV.bool (BE.var 2), SV.int IntKind.i64 (IE.var 3), SV.bool (BE.var 4)])]))))))
      (VC.call 37 [SV.agg [SV.int IntKind.i64 (IE.var 3), SV.bool (BE.var 4)]] [Base.bool] (SV.bool (BE.var 6)) [] false [] [] [5]
        [(5, [SV.int IntKind.i64 (IE.var 0), SV.int IntKind.i64 (IE.var 1), SV.bool (BE.var 2), SV.int IntKind.i64 (IE.var 3), SV.bool (BE.var 4)])]
        (VC.split (BE.not (BE.var 6))
          (VC.leaf 0 [SV.bool (BE.lit false)] [] [(5, [SV.int IntKind.i64 (IE.var 0), SV.int IntKind.i64 (IE.var 1), SV.bool (BE.var 2), SV.int IntKind.i64 (IE.var 3), SV.bool (BE.var 4)])])
          (VC.split (BE.lt (IE.lit 0) (IE.var 1))
            (VC.leaf 0 [SV.bool (BE.lit true)] [] [(5, [SV.int IntKind.i64 (IE.var 0), SV.int IntKind.i64 (IE.var 1), SV.bool (BE.var 2), SV.int IntKind.i64 (IE.var 3), SV.bool (BE.var 4)])])
            (VC.split (BE.eq (IE.var 3) (IE.lit 0))
              (VC.leaf 0 [SV.bool (BE.not (BE.var 2))] [] [(5, [SV.int IntKind.i64 (IE.var 0), SV.int IntKind.i64 (IE.var 1), SV.bool (BE.var 2), SV.int IntKind.i64 (IE.var 3), SV.bool (BE.var 4)])])
              (VC.leaf 0 [SV.bool (BE.lit false)] [] [(5, [SV.int IntKind.i64 (IE.var 0), SV.int IntKind.i64 (IE.var 1), SV.bool (BE.var 2), SV.int IntKind.i64 (IE.var 3), SV.bool (BE.var 4)])]))))))) := by kernel_rfl

theorem t16 : exFn { P := Try.prog } 16 [.agg [.int .i64 (.var 0), .int .i64 (.var 1), .bool (.var 2), .int .i64 (.var 3), .bool (.var 4)]] [.int .i64, .int .i64, .bool, .int .i64, .bool] [] =
  VC.blk
  (VC.call 14 [SV.agg [SV.int IntKind.i64 (IE.var 0), SV.int IntKind.i64 (IE.var 1), SV.bool (BE.var 2), SV.int IntKind.i64 (IE.var 3), SV.bool (BE.var 4)]] [Base.bool] (SV.bool (BE.var 6)) [] false
    [] [] [5] [(5, [SV.int IntKind.i64 (IE.var 0), SV.int IntKind.i64 (IE.var 1), SV.bool (BE.var 2), SV.int IntKind.i64 (IE.var 3), SV.bool (BE.var 4)])]
    (VC.split (BE.not (BE.var 6))
      (VC.leaf 0 [SV.int IntKind.i64 (IE.lit 0)] [] [(5, [SV.int IntKind.i64 (IE.var 0), SV.int IntKind.i64 (IE.var 1), SV.bool (BE.var 2), SV.int IntKind.i64 (IE.var 3), SV.bool (BE.var 4)])])
      (VC.ob (BE.le (IE.lit (-9223372036854775808)) (IE.add (IE.var 0) (IE.var 1)))
        (VC.ob (BE.le (IE.add (IE.var 0) (IE.var 1)) (IE.lit 9223372036854775807))
          (VC.ob (BE.not (BE.eq (IE.add (IE.var 0) (IE.var 1)) (IE.lit 0)))
            (VC.ob (BE.le (IE.lit (-9223372036854775808)) (IE.quo (IE.lit 4160) (IE.add (IE.var 0) (IE.var 1))))
              (VC.ob (BE.le (IE.quo (IE.lit 4160) (IE.add (IE.var 0) (IE.var 1))) (IE.lit 9223372036854775807))
                (VC.leaf 0 [SV.int IntKind.i64 (IE.quo (IE.lit 4160) (IE.add (IE.var 0) (IE.var 1)))] []
                  [(5, [SV.int IntKind.i64 (IE.var 0), SV.int IntKind.i64 (IE.var 1), SV.bool (BE.var 2), SV.int IntKind.i64 (IE.var 3), SV.bool (BE.var 4)])])))))))) := by kernel_rfl

theorem t17 : exFn { P := Try.prog } 17 [.agg [.int .i64 (.var 0), .int .i64 (.var 1), .bool (.var 2), .int .i64 (.var 3), .bool (.var 4)]] [.int .i64, .int .i64, .bool, .int .i64, .bool] [] =
  VC.blk
  (VC.call 15 [SV.agg [SV.int IntKind.i64 (IE.var 0), SV.int IntKind.i64 (IE.var 1), SV.bool (BE.var 2), SV.int IntKind.i64 (IE.var 3), SV.bool (BE.var 4)]] [Base.bool] (SV.bool (BE.var 6)) [] false
    [] [] [5] [(5, [SV.int IntKind.i64 (IE.var 0), SV.int IntKind.i64 (IE.var 1), SV.bool (BE.var 2), SV.int IntKind.i64 (IE.var 3), SV.bool (BE.var 4)])]
    (VC.split (BE.not (BE.var 6))
      (VC.leaf 0 [SV.int IntKind.i64 (IE.lit 0)] [] [(5, [SV.int IntKind.i64 (IE.var 0), SV.int IntKind.i64 (IE.var 1), SV.bool (BE.var 2), SV.int IntKind.i64 (IE.var 3), SV.bool (BE.var 4)])])
      (VC.ob (BE.le (IE.lit (-9223372036854775808)) (IE.add (IE.var 0) (IE.var 1)))
        (VC.ob (BE.le (IE.add (IE.var 0) (IE.var 1)) (IE.lit 9223372036854775807))
          (VC.ob (BE.not (BE.eq (IE.add (IE.var 0) (IE.var 1)) (IE.lit 0)))
            (VC.ob (BE.le (IE.lit (-9223372036854775808)) (IE.quo (IE.lit 4160) (IE.add (IE.var 0) (IE.var 1))))
              (VC.ob (BE.le (IE.quo (IE.lit 4160) (IE.add (IE.var 0) (IE.var 1))) (IE.lit 9223372036854775807))
                (VC.leaf 0 [SV.int IntKind.i64 (IE.quo (IE.lit 4160) (IE.add (IE.var 0) (IE.var 1)))] []
                  [(5, [SV.int IntKind.i64 (IE.var 0), SV.int IntKind.i64 (IE.var 1), SV.bool (BE.var 2), SV.int IntKind.i64 (IE.var 3), SV.bool (BE.var 4)])])))))))) := by kernel_rfl

theorem t10 : exFn { P := Try.prog } 10 [.agg [.int .i64 (.var 0), .int .i64 (.var 1), .bool (.var 2), .int .i64 (.var 3), .bool (.var 4)], .int .i64 (.var 5)] [.int .i64, .int .i64, .bool, .int .i64, .bool, .int .i64] [] =
  VC.blk
  (VC.call 14 [SV.agg [SV.int IntKind.i64 (IE.var 0), SV.int IntKind.i64 (IE.var 1), SV.bool (BE.var 2), SV.int IntKind.i64 (IE.var 3), SV.bool (BE.var 4)]] [Base.bool] (SV.bool (BE.var 7)) [] false
    [] [] [6] [(6, [SV.int IntKind.i64 (IE.var 0), SV.int IntKind.i64 (IE.var 1), SV.bool (BE.var 2), SV.int IntKind.i64 (IE.var 3), SV.bool (BE.var 4)])]
    (VC.blk
      (VC.call 34 [SV.slc 8 0 2 2] [Base.bool] (SV.bool (BE.var 9)) [] false [] [] [8, 6]
        [(8, [SV.bool (BE.var 7), SV.bool (BE.le (IE.lit 0) (IE.var 5))]),
          (6, [SV.int IntKind.i64 (IE.var 0), SV.int IntKind.i64 (IE.var 1), SV.bool (BE.var 2), SV.int IntKind.i64 (IE.var 3), SV.bool (BE.var 4)])]
        (VC.split (BE.not (BE.var 9))
          (VC.leaf 0 [SV.tuple [SV.int IntKind.i64 (IE.lit 0), SV.int IntKind.i64 (IE.lit 0), SV.int IntKind.i64 (IE.lit 2)]] []
            [(8, [SV.bool (BE.var 7), SV.bool (BE.le (IE.lit 0) (IE.var 5))]),
              (6, [SV.int IntKind.i64 (IE.var 0), SV.int IntKind.i64 (IE.var 1), SV.bool (BE.var 2), SV.int IntKind.i64 (IE.var 3), SV.bool (BE.var 4)])])
          (VC.call 16 [SV.agg [SV.int IntKind.i64 (IE.var 0), SV.int IntKind.i64 (IE.var 1), SV.bool (BE.var 2), SV.int IntKind.i64 (IE.var 3), SV.bool (BE.var 4)]] [Base.int IntKind.i64]
            (SV.int IntKind.i64 (IE.var 10)) [] false [] [] [8, 6]
            [(8, [SV.bool (BE.var 7), SV.bool (BE.le (IE.lit 0) (IE.var 5))]),
              (6, [SV.int IntKind.i64 (IE.var 0), SV.int IntKind.i64 (IE.var 1), SV.bool (BE.var 2), SV.int IntKind.i64 (IE.var 3), SV.bool (BE.var 4)])]
            (VC.start true [] [8, 6]
              [(8, [SV.bool (BE.var 7), SV.bool (BE.le (IE.lit 0) (IE.var 5))]),
                (6, [SV.int IntKind.i64 (IE.var 0), SV.int IntKind.i64 (IE.var 1), SV.bool (BE.var 2), SV.int IntKind.i64 (IE.var 3), SV.bool (BE.var 4)])]
              (VC.ob (BE.not (BE.eq (IE.var 10) (IE.lit 0)))
                (VC.ob (BE.le (IE.lit (-9223372036854775808)) (IE.quo (IE.var 5) (IE.var 10)))
                  (VC.ob (BE.le (IE.quo (IE.var 5) (IE.var 10)) (IE.lit 9223372036854775807))
                    (VC.ob (BE.not (BE.eq (IE.var 10) (IE.lit 0)))
                      (VC.leaf 0 [SV.tuple [SV.int IntKind.i64 (IE.quo (IE.var 5) (IE.var 10)), SV.int IntKind.i64 (IE.rem (IE.var 5) (IE.var 10)), SV.int IntKind.i64 (IE.lit 0)]] []
                        [(8, [SV.bool (BE.var 7), SV.bool (BE.le (IE.lit 0) (IE.var 5))]),
                          (6, [SV.int IntKind.i64 (IE.var 0), SV.int IntKind.i64 (IE.var 1), SV.bool (BE.var 2), SV.int IntKind.i64 (IE.var 3), SV.bool (BE.var 4)])]))))))))))) := by kernel_rfl

theorem t11 : exFn { P := Try.prog } 11 [.agg [.int .i64 (.var 0), .int .i64 (.var 1), .bool (.var 2), .int .i64 (.var 3), .bool (.var 4)], .int .i64 (.var 5)] [.int .i64, .int .i64, .bool, .int .i64, .bool, .int .i64] [] =
  VC.blk
  (VC.call 15 [SV.agg [SV.int IntKind.i64 (IE.var 0), SV.int IntKind.i64 (IE.var 1), SV.bool (BE.var 2), SV.int IntKind.i64 (IE.var 3), SV.bool (BE.var 4)]] [Base.bool] (SV.bool (BE.var 7)) [] false
    [] [] [6] [(6, [SV.int IntKind.i64 (IE.var 0), SV.int IntKind.i64 (IE.var 1), SV.bool (BE.var 2), SV.int IntKind.i64 (IE.var 3), SV.bool (BE.var 4)])]
    (VC.split (BE.not (BE.var 7))
      (VC.leaf 0 [SV.tuple [SV.int IntKind.i64 (IE.lit 0), SV.int IntKind.i64 (IE.lit 0), SV.int IntKind.i64 (IE.lit 2)]] []
        [(6, [SV.int IntKind.i64 (IE.var 0), SV.int IntKind.i64 (IE.var 1), SV.bool (BE.var 2), SV.int IntKind.i64 (IE.var 3), SV.bool (BE.var 4)])])
      (VC.split (BE.lt (IE.var 5) (IE.lit 0))
        (VC.leaf 0 [SV.tuple [SV.int IntKind.i64 (IE.lit 0), SV.int IntKind.i64 (IE.lit 0), SV.int IntKind.i64 (IE.lit 2)]] []
          [(6, [SV.int IntKind.i64 (IE.var 0), SV.int IntKind.i64 (IE.var 1), SV.bool (BE.var 2), SV.int IntKind.i64 (IE.var 3), SV.bool (BE.var 4)])])
        (VC.start true [] [6] [(6, [SV.int IntKind.i64 (IE.var 0), SV.int IntKind.i64 (IE.var 1), SV.bool (BE.var 2), SV.int IntKind.i64 (IE.var 3), SV.bool (BE.var 4)])]
          (VC.call 17 [SV.agg [SV.int IntKind.i64 (IE.var 0), SV.int IntKind.i64 (IE.var 1), SV.bool (BE.var 2), SV.int IntKind.i64 (IE.var 3), SV.bool (BE.var 4)]] [Base.int IntKind.i64]
            (SV.int IntKind.i64 (IE.var 8)) [] true [] [] [6]
            [(6, [SV.int IntKind.i64 (IE.var 0), SV.int IntKind.i64 (IE.var 1), SV.bool (BE.var 2), SV.int IntKind.i64 (IE.var 3), SV.bool (BE.var 4)])]
            (VC.ob (BE.not (BE.eq (IE.var 8) (IE.lit 0)))
              (VC.ob (BE.le (IE.lit (-9223372036854775808)) (IE.quo (IE.var 5) (IE.var 8)))
                (VC.ob (BE.le (IE.quo (IE.var 5) (IE.var 8)) (IE.lit 9223372036854775807))
                  (VC.call 17 [SV.agg [SV.int IntKind.i64 (IE.var 0), SV.int IntKind.i64 (IE.var 1), SV.bool (BE.var 2), SV.int IntKind.i64 (IE.var 3), SV.bool (BE.var 4)]] [Base.int IntKind.i64]
                    (SV.int IntKind.i64 (IE.var 9)) [] true [] [] [6]
                    [(6, [SV.int IntKind.i64 (IE.var 0), SV.int IntKind.i64 (IE.var 1), SV.bool (BE.var 2), SV.int IntKind.i64 (IE.var 3), SV.bool (BE.var 4)])]
                    (VC.ob (BE.not (BE.eq (IE.var 9) (IE.lit 0)))
                      (VC.leaf 0 [SV.tuple [SV.int IntKind.i64 (IE.quo (IE.var 5) (IE.var 8)), SV.int IntKind.i64 (IE.rem (IE.var 5) (IE.var 9)), SV.int IntKind.i64 (IE.lit 0)]] []
                        [(6, [SV.int IntKind.i64 (IE.var 0), SV.int IntKind.i64 (IE.var 1), SV.bool (BE.var 2), SV.int IntKind.i64 (IE.var 3), SV.bool (BE.var 4)])]))))))))))) := by kernel_rfl

theorem t12 : exFn { P := Try.prog } 12 [.agg [.int .i64 (.var 0), .int .i64 (.var 1), .bool (.var 2), .int .i64 (.var 3), .bool (.var 4)], .int .i64 (.var 5)] [.int .i64, .int .i64, .bool, .int .i64, .bool, .int .i64] [] =
  VC.blk
  (VC.call 10 [SV.agg [SV.int IntKind.i64 (IE.var 0), SV.int IntKind.i64 (IE.var 1), SV.bool (BE.var 2), SV.int IntKind.i64 (IE.var 3), SV.bool (BE.var 4)], SV.int IntKind.i64 (IE.var 5)]
    [Base.int IntKind.i64, Base.int IntKind.i64, Base.int IntKind.i64] (SV.tuple [SV.int IntKind.i64 (IE.var 7), SV.int IntKind.i64 (IE.var 8), SV.int IntKind.i64 (IE.var 9)]) [] false [] [] [6]
    [(6, [SV.int IntKind.i64 (IE.var 0), SV.int IntKind.i64 (IE.var 1), SV.bool (BE.var 2), SV.int IntKind.i64 (IE.var 3), SV.bool (BE.var 4)])]
    (VC.split (BE.eq (IE.var 9) (IE.lit 0))
      (VC.split (BE.lt (IE.lit 0) (IE.var 8))
        (VC.ob (BE.le (IE.lit (-9223372036854775808)) (IE.add (IE.var 7) (IE.lit 1)))
          (VC.ob (BE.le (IE.add (IE.var 7) (IE.lit 1)) (IE.lit 9223372036854775807))
            (VC.leaf 0 [SV.tuple [SV.int IntKind.i64 (IE.add (IE.var 7) (IE.lit 1)), SV.int IntKind.i64 (IE.var 9)]] []
              [(6, [SV.int IntKind.i64 (IE.var 0), SV.int IntKind.i64 (IE.var 1), SV.bool (BE.var 2), SV.int IntKind.i64 (IE.var 3), SV.bool (BE.var 4)])])))
        (VC.leaf 0 [SV.tuple [SV.int IntKind.i64 (IE.var 7), SV.int IntKind.i64 (IE.var 9)]] []
          [(6, [SV.int IntKind.i64 (IE.var 0), SV.int IntKind.i64 (IE.var 1), SV.bool (BE.var 2), SV.int IntKind.i64 (IE.var 3), SV.bool (BE.var 4)])]))
      (VC.leaf 0 [SV.tuple [SV.int IntKind.i64 (IE.var 7), SV.int IntKind.i64 (IE.var 9)]] []
        [(6, [SV.int IntKind.i64 (IE.var 0), SV.int IntKind.i64 (IE.var 1), SV.bool (BE.var 2), SV.int IntKind.i64 (IE.var 3), SV.bool (BE.var 4)])]))) := by kernel_rfl

theorem t13 : exFn { P := Try.prog } 13 [.agg [.int .i64 (.var 0), .int .i64 (.var 1), .bool (.var 2), .int .i64 (.var 3), .bool (.var 4)], .int .i64 (.var 5)] [.int .i64, .int .i64, .bool, .int .i64, .bool, .int .i64] [] =
  VC.blk
  (VC.call 15 [SV.agg [SV.int IntKind.i64 (IE.var 0), SV.int IntKind.i64 (IE.var 1), SV.bool (BE.var 2), SV.int IntKind.i64 (IE.var 3), SV.bool (BE.var 4)]] [Base.bool] (SV.bool (BE.var 7)) [] false
    [] [] [6] [(6, [SV.int IntKind.i64 (IE.var 0), SV.int IntKind.i64 (IE.var 1), SV.bool (BE.var 2), SV.int IntKind.i64 (IE.var 3), SV.bool (BE.var 4)])]
    (VC.split (BE.not (BE.var 7))
      (VC.leaf 0 [SV.tuple [SV.int IntKind.i64 (IE.lit 0), SV.int IntKind.i64 (IE.lit 2)]] []
        [(6, [SV.int IntKind.i64 (IE.var 0), SV.int IntKind.i64 (IE.var 1), SV.bool (BE.var 2), SV.int IntKind.i64 (IE.var 3), SV.bool (BE.var 4)])])
      (VC.split (BE.lt (IE.var 5) (IE.lit 0))
        (VC.leaf 0 [SV.tuple [SV.int IntKind.i64 (IE.lit 0), SV.int IntKind.i64 (IE.lit 2)]] []
          [(6, [SV.int IntKind.i64 (IE.var 0), SV.int IntKind.i64 (IE.var 1), SV.bool (BE.var 2), SV.int IntKind.i64 (IE.var 3), SV.bool (BE.var 4)])])
        (VC.call 17 [SV.agg [SV.int IntKind.i64 (IE.var 0), SV.int IntKind.i64 (IE.var 1), SV.bool (BE.var 2), SV.int IntKind.i64 (IE.var 3), SV.bool (BE.var 4)]] [Base.int IntKind.i64]
          (SV.int IntKind.i64 (IE.var 8)) [] false [] [] [6]
          [(6, [SV.int IntKind.i64 (IE.var 0), SV.int IntKind.i64 (IE.var 1), SV.bool (BE.var 2), SV.int IntKind.i64 (IE.var 3), SV.bool (BE.var 4)])]
          (VC.ob (BE.not (BE.eq (IE.var 8) (IE.lit 0)))
            (VC.ob (BE.le (IE.lit (-9223372036854775808)) (IE.quo (IE.var 5) (IE.var 8)))
              (VC.ob (BE.le (IE.quo (IE.var 5) (IE.var 8)) (IE.lit 9223372036854775807))
                (VC.call 17 [SV.agg [SV.int IntKind.i64 (IE.var 0), SV.int IntKind.i64 (IE.var 1), SV.bool (BE.var 2), SV.int IntKind.i64 (IE.var 3), SV.bool (BE.var 4)]] [Base.int IntKind.i64]
                  (SV.int IntKind.i64 (IE.var 9)) [] false [] [] [6]
                  [(6, [SV.int IntKind.i64 (IE.var 0), SV.int IntKind.i64 (IE.var 1), SV.bool (BE.var 2), SV.int IntKind.i64 (IE.var 3), SV.bool (BE.var 4)])]
                  (VC.ob (BE.not (BE.eq (IE.var 9) (IE.lit 0)))
                    (VC.split (BE.lt (IE.lit 0) (IE.rem (IE.var 5) (IE.var 9)))
                      (VC.ob (BE.le (IE.lit (-9223372036854775808)) (IE.add (IE.quo (IE.var 5) (IE.var 8)) (IE.lit 1)))
                        (VC.ob (BE.le (IE.add (IE.quo (IE.var 5) (IE.var 8)) (IE.lit 1)) (IE.lit 9223372036854775807))
                          (VC.leaf 0 [SV.tuple [SV.int IntKind.i64 (IE.add (IE.quo (IE.var 5) (IE.var 8)) (IE.lit 1)), SV.int IntKind.i64 (IE.lit 0)]] []
                            [(6, [SV.int IntKind.i64 (IE.var 0), SV.int IntKind.i64 (IE.var 1), SV.bool (BE.var 2), SV.int IntKind.i64 (IE.var 3), SV.bool (BE.var 4)])])))
                      (VC.leaf 0 [SV.tuple [SV.int IntKind.i64 (IE.quo (IE.var 5) (IE.var 8)), SV.int IntKind.i64 (IE.lit 0)]] []
                        [(6, [SV.int IntKind.i64 (IE.var 0), SV.int IntKind.i64 (IE.var 1), SV.bool (BE.var 2), SV.int IntKind.i64 (IE.var 3), SV.bool (BE.var 4)])]))))))))))) := by kernel_rfl

theorem t18 : exFn { P := Try.prog } 18 [.int .i64 (.var 0)] [.int .i64] [] =
  VC.leaf 0 [SV.int IntKind.i64 (IE.var 0)] [] [] := by kernel_rfl

theorem t38 : exFn { P := Try.prog } 38 [] [] [] =
  VC.blk
  (VC.leaf 0 [SV.agg [SV.int IntKind.i64 (IE.lit 512), SV.int IntKind.i64 (IE.lit 8), SV.bool (BE.lit false), SV.int IntKind.i64 (IE.lit 1), SV.bool (BE.lit false)]] [0]
    [(0, [SV.int IntKind.i64 (IE.lit 512), SV.int IntKind.i64 (IE.lit 8), SV.bool (BE.lit false), SV.int IntKind.i64 (IE.lit 1), SV.bool (BE.lit false)])]) := by kernel_rfl

theorem t39 : exFn { P := Try.prog } 39 [.agg [.int .i64 (.var 0), .int .i64 (.var 1), .bool (.var 2), .int .i64 (.var 3), .bool (.var 4)], .int .i64 (.var 5), .bool (.var 6)] [.int .i64, .int .i64, .bool, .int .i64, .bool, .int .i64, .bool] [] =
  VC.blk
  (VC.blk
    (VC.blk
      (VC.call 14 [SV.agg [SV.int IntKind.i64 (IE.var 0), SV.int IntKind.i64 (IE.var 1), SV.bool (BE.var 2), SV.int IntKind.i64 (IE.var 3), SV.bool (BE.var 4)]] [Base.bool] (SV.bool (BE.var 10)) []
        false [9] [] [9, 8, 7]
        [(9, [SV.int IntKind.i64 (IE.var 0), SV.int IntKind.i64 (IE.var 1), SV.bool (BE.var 2), SV.int IntKind.i64 (IE.var 3), SV.bool (BE.var 4), SV.int IntKind.i64 (IE.var 1)]),
          (8, [SV.int IntKind.i64 (IE.lit 0), SV.int IntKind.i64 (IE.lit 0), SV.bool (BE.lit false), SV.int IntKind.i64 (IE.lit 0), SV.bool (BE.lit false), SV.int IntKind.i64 (IE.lit 0)]),
          (7, [SV.int IntKind.i64 (IE.var 0), SV.int IntKind.i64 (IE.var 1), SV.bool (BE.var 2), SV.int IntKind.i64 (IE.var 3), SV.bool (BE.var 4)])]
        (VC.split (BE.not (BE.var 6))
          (VC.blk
            (VC.call 34 [SV.slc 11 0 4 4] [Base.bool] (SV.bool (BE.var 12)) [] false [] [] [11, 9, 8, 7]
              [(11, [SV.bool (BE.var 10), SV.bool (BE.le (IE.lit 0) (IE.var 5)), SV.bool (BE.le (IE.var 5) (IE.lit 65536)), SV.bool (BE.lit true)]),
                (9, [SV.int IntKind.i64 (IE.var 0), SV.int IntKind.i64 (IE.var 1), SV.bool (BE.var 2), SV.int IntKind.i64 (IE.var 3), SV.bool (BE.var 4), SV.int IntKind.i64 (IE.var 1)]),
                (8, [SV.int IntKind.i64 (IE.lit 0), SV.int IntKind.i64 (IE.lit 0), SV.bool (BE.lit false), SV.int IntKind.i64 (IE.lit 0), SV.bool (BE.lit false), SV.int IntKind.i64 (IE.lit 0)]),
                (7, [SV.int IntKind.i64 (IE.var 0), SV.int IntKind.i64 (IE.var 1), SV.bool (BE.var 2), SV.int IntKind.i64 (IE.var 3), SV.bool (BE.var 4)])]
              (VC.split (BE.not (BE.var 12))
                (VC.leaf 0
                  [SV.tuple
                      [SV.agg
                          [SV.int IntKind.i64 (IE.lit 0), SV.int IntKind.i64 (IE.lit 0), SV.bool (BE.lit false), SV.int IntKind.i64 (IE.lit 0), SV.bool (BE.lit false), SV.int IntKind.i64 (IE.lit 0)],
                        SV.int IntKind.i64 (IE.lit 2)]]
                  [8]
                  [(11, [SV.bool (BE.var 10), SV.bool (BE.le (IE.lit 0) (IE.var 5)), SV.bool (BE.le (IE.var 5) (IE.lit 65536)), SV.bool (BE.lit true)]),
                    (9, [SV.int IntKind.i64 (IE.var 0), SV.int IntKind.i64 (IE.var 1), SV.bool (BE.var 2), SV.int IntKind.i64 (IE.var 3), SV.bool (BE.var 4), SV.int IntKind.i64 (IE.var 1)]),
                    (8, [SV.int IntKind.i64 (IE.lit 0), SV.int IntKind.i64 (IE.lit 0), SV.bool (BE.lit false), SV.int IntKind.i64 (IE.lit 0), SV.bool (BE.lit false), SV.int IntKind.i64 (IE.lit 0)]),
                    (7, [SV.int IntKind.i64 (IE.var 0), SV.int IntKind.i64 (IE.var 1), SV.bool (BE.var 2), SV.int IntKind.i64 (IE.var 3), SV.bool (BE.var 4)])])
                (VC.split (BE.var 6)
                  (VC.split (BE.eq (IE.var 1) (IE.lit 8))
                    (VC.leaf 0
                      [SV.tuple
                          [SV.agg [SV.int IntKind.i64 (IE.var 0), SV.int IntKind.i64 (IE.var 1), SV.bool (BE.var 2), SV.int IntKind.i64 (IE.var 3), SV.bool (BE.var 4), SV.int IntKind.i64 (IE.lit 0)],
                            SV.int IntKind.i64 (IE.lit 0)]]
                      [8, 9]
                      [(11, [SV.bool (BE.var 10), SV.bool (BE.le (IE.lit 0) (IE.var 5)), SV.bool (BE.le (IE.var 5) (IE.lit 65536)), SV.bool (BE.lit true)]),
                        (9, [SV.int IntKind.i64 (IE.var 0), SV.int IntKind.i64 (IE.var 1), SV.bool (BE.var 2), SV.int IntKind.i64 (IE.var 3), SV.bool (BE.var 4), SV.int IntKind.i64 (IE.lit 0)]),
                        (8, [SV.int IntKind.i64 (IE.var 0), SV.int IntKind.i64 (IE.var 1), SV.bool (BE.var 2), SV.int IntKind.i64 (IE.var 3), SV.bool (BE.var 4), SV.int IntKind.i64 (IE.lit 0)]),
                        (7, [SV.int IntKind.i64 (IE.var 0), SV.int IntKind.i64 (IE.var 1), SV.bool (BE.var 2), SV.int IntKind.i64 (IE.var 3), SV.bool (BE.var 4)])])
                    (VC.leaf 0
                      [SV.tuple
                          [SV.agg [SV.int IntKind.i64 (IE.var 0), SV.int IntKind.i64 (IE.var 1), SV.bool (BE.var 2), SV.int IntKind.i64 (IE.var 3), SV.bool (BE.var 4), SV.int IntKind.i64 (IE.var 1)],
                            SV.int IntKind.i64 (IE.lit 0)]]
                      [8]
                      [(11, [SV.bool (BE.var 10), SV.bool (BE.le (IE.lit 0) (IE.var 5)), SV.bool (BE.le (IE.var 5) (IE.lit 65536)), SV.bool (BE.lit true)]),
                        (9, [SV.int IntKind.i64 (IE.var 0), SV.int IntKind.i64 (IE.var 1), SV.bool (BE.var 2), SV.int IntKind.i64 (IE.var 3), SV.bool (BE.var 4), SV.int IntKind.i64 (IE.var 1)]),
                        (8, [SV.int IntKind.i64 (IE.var 0), SV.int IntKind.i64 (IE.var 1), SV.bool (BE.var 2), SV.int IntKind.i64 (IE.var 3), SV.bool (BE.var 4), SV.int IntKind.i64 (IE.var 1)]),
                        (7, [SV.int IntKind.i64 (IE.var 0), SV.int IntKind.i64 (IE.var 1), SV.bool (BE.var 2), SV.int IntKind.i64 (IE.var 3), SV.bool (BE.var 4)])]))
                  (VC.leaf 0
                    [SV.tuple
                        [SV.agg [SV.int IntKind.i64 (IE.var 0), SV.int IntKind.i64 (IE.var 1), SV.bool (BE.var 2), SV.int IntKind.i64 (IE.var 3), SV.bool (BE.var 4), SV.int IntKind.i64 (IE.var 1)],
                          SV.int IntKind.i64 (IE.lit 0)]]
                    [8]
                    [(11, [SV.bool (BE.var 10), SV.bool (BE.le (IE.lit 0) (IE.var 5)), SV.bool (BE.le (IE.var 5) (IE.lit 65536)), SV.bool (BE.lit true)]),
                      (9, [SV.int IntKind.i64 (IE.var 0), SV.int IntKind.i64 (IE.var 1), SV.bool (BE.var 2), SV.int IntKind.i64 (IE.var 3), SV.bool (BE.var 4), SV.int IntKind.i64 (IE.var 1)]),
                      (8, [SV.int IntKind.i64 (IE.var 0), SV.int IntKind.i64 (IE.var 1), SV.bool (BE.var 2), SV.int IntKind.i64 (IE.var 3), SV.bool (BE.var 4), SV.int IntKind.i64 (IE.var 1)]),
                      (7, [SV.int IntKind.i64 (IE.var 0), SV.int IntKind.i64 (IE.var 1), SV.bool (BE.var 2), SV.int IntKind.i64 (IE.var 3), SV.bool (BE.var 4)])])))))
          (VC.blk
            (VC.call 34 [SV.slc 11 0 4 4] [Base.bool] (SV.bool (BE.var 12)) [] false [] [] [11, 9, 8, 7]
              [(11, [SV.bool (BE.var 10), SV.bool (BE.le (IE.lit 0) (IE.var 5)), SV.bool (BE.le (IE.var 5) (IE.lit 65536)), SV.bool (BE.lt (IE.lit 0) (IE.var 3))]),
                (9, [SV.int IntKind.i64 (IE.var 0), SV.int IntKind.i64 (IE.var 1), SV.bool (BE.var 2), SV.int IntKind.i64 (IE.var 3), SV.bool (BE.var 4), SV.int IntKind.i64 (IE.var 1)]),
                (8, [SV.int IntKind.i64 (IE.lit 0), SV.int IntKind.i64 (IE.lit 0), SV.bool (BE.lit false), SV.int IntKind.i64 (IE.lit 0), SV.bool (BE.lit false), SV.int IntKind.i64 (IE.lit 0)]),
                (7, [SV.int IntKind.i64 (IE.var 0), SV.int IntKind.i64 (IE.var 1), SV.bool (BE.var 2), SV.int IntKind.i64 (IE.var 3), SV.bool (BE.var 4)])]
              (VC.split (BE.not (BE.var 12))
                (VC.leaf 0
                  [SV.tuple
                      [SV.agg
                          [SV.int IntKind.i64 (IE.lit 0), SV.int IntKind.i64 (IE.lit 0), SV.bool (BE.lit false), SV.int IntKind.i64 (IE.lit 0), SV.bool (BE.lit false), SV.int IntKind.i64 (IE.lit 0)],
                        SV.int IntKind.i64 (IE.lit 2)]]
                  [8]
                  [(11, [SV.bool (BE.var 10), SV.bool (BE.le (IE.lit 0) (IE.var 5)), SV.bool (BE.le (IE.var 5) (IE.lit 65536)), SV.bool (BE.lt (IE.lit 0) (IE.var 3))]),
                    (9, [SV.int IntKind.i64 (IE.var 0), SV.int IntKind.i64 (IE.var 1), SV.bool (BE.var 2), SV.int IntKind.i64 (IE.var 3), SV.bool (BE.var 4), SV.int IntKind.i64 (IE.var 1)]),
                    (8, [SV.int IntKind.i64 (IE.lit 0), SV.int IntKind.i64 (IE.lit 0), SV.bool (BE.lit false), SV.int IntKind.i64 (IE.lit 0), SV.bool (BE.lit false), SV.int IntKind.i64 (IE.lit 0)]),
                    (7, [SV.int IntKind.i64 (IE.var 0), SV.int IntKind.i64 (IE.var 1), SV.bool (BE.var 2), SV.int IntKind.i64 (IE.var 3), SV.bool (BE.var 4)])])
                (VC.split (BE.var 6)
                  (VC.split (BE.eq (IE.var 1) (IE.lit 8))
                    (VC.leaf 0
                      [SV.tuple
                          [SV.agg [SV.int IntKind.i64 (IE.var 0), SV.int IntKind.i64 (IE.var 1), SV.bool (BE.var 2), SV.int IntKind.i64 (IE.var 3), SV.bool (BE.var 4), SV.int IntKind.i64 (IE.lit 0)],
                            SV.int IntKind.i64 (IE.lit 0)]]
                      [8, 9]
                      [(11, [SV.bool (BE.var 10), SV.bool (BE.le (IE.lit 0) (IE.var 5)), SV.bool (BE.le (IE.var 5) (IE.lit 65536)), SV.bool (BE.lt (IE.lit 0) (IE.var 3))]),
                        (9, [SV.int IntKind.i64 (IE.var 0), SV.int IntKind.i64 (IE.var 1), SV.bool (BE.var 2), SV.int IntKind.i64 (IE.var 3), SV.bool (BE.var 4), SV.int IntKind.i64 (IE.lit 0)]),
                        (8, [SV.int IntKind.i64 (IE.var 0), SV.int IntKind.i64 (IE.var 1), SV.bool (BE.var 2), SV.int IntKind.i64 (IE.var 3), SV.bool (BE.var 4), SV.int IntKind.i64 (IE.lit 0)]),
                        (7, [SV.int IntKind.i64 (IE.var 0), SV.int IntKind.i64 (IE.var 1), SV.bool (BE.var 2), SV.int IntKind.i64 (IE.var 3), SV.bool (BE.var 4)])])
                    (VC.leaf 0
                      [SV.tuple
                          [SV.agg [SV.int IntKind.i64 (IE.var 0), SV.int IntKind.i64 (IE.var 1), SV.bool (BE.var 2), SV.int IntKind.i64 (IE.var 3), SV.bool (BE.var 4), SV.int IntKind.i64 (IE.var 1)],
                            SV.int IntKind.i64 (IE.lit 0)]]
                      [8]
                      [(11, [SV.bool (BE.var 10), SV.bool (BE.le (IE.lit 0) (IE.var 5)), SV.bool (BE.le (IE.var 5) (IE.lit 65536)), SV.bool (BE.lt (IE.lit 0) (IE.var 3))]),
                        (9, [SV.int IntKind.i64 (IE.var 0), SV.int IntKind.i64 (IE.var 1), SV.bool (BE.var 2), SV.int IntKind.i64 (IE.var 3), SV.bool (BE.var 4), SV.int IntKind.i64 (IE.var 1)]),
                        (8, [SV.int IntKind.i64 (IE.var 0), SV.int IntKind.i64 (IE.var 1), SV.bool (BE.var 2), SV.int IntKind.i64 (IE.var 3), SV.bool (BE.var 4), SV.int IntKind.i64 (IE.var 1)]),
                        (7, [SV.int IntKind.i64 (IE.var 0), SV.int IntKind.i64 (IE.var 1), SV.bool (BE.var 2), SV.int IntKind.i64 (IE.var 3), SV.bool (BE.var 4)])]))
                  (VC.leaf 0
                    [SV.tuple
                        [SV.agg [SV.int IntKind.i64 (IE.var 0), SV.int IntKind.i64 (IE.var 1), SV.bool (BE.var 2), SV.int IntKind.i64 (IE.var 3), SV.bool (BE.var 4), SV.int IntKind.i64 (IE.var 1)],
                          SV.int IntKind.i64 (IE.lit 0)]]
                    [8]
                    [(11, [SV.bool (BE.var 10), SV.bool (BE.le (IE.lit 0) (IE.var 5)), SV.bool (BE.le (IE.var 5) (IE.lit 65536)), SV.bool (BE.lt (IE.lit 0) (IE.var 3))]),
                      (9, [SV.int IntKind.i64 (IE.var 0), SV.int IntKind.i64 (IE.var 1), SV.bool (BE.var 2), SV.int IntKind.i64 (IE.var 3), SV.bool (BE.var 4), SV.int IntKind.i64 (IE.var 1)]),
                      (8, [SV.int IntKind.i64 (IE.var 0), SV.int IntKind.i64 (IE.var 1), SV.bool (BE.var 2), SV.int IntKind.i64 (IE.var 3), SV.bool (BE.var 4), SV.int IntKind.i64 (IE.var 1)]),
                      (7, [SV.int IntKind.i64 (IE.var 0), SV.int IntKind.i64 (IE.var 1), SV.bool (BE.var 2), SV.int IntKind.i64 (IE.var 3), SV.bool (BE.var 4)])]))))))))) := by kernel_rfl

theorem t40 : exFn { P := Try.prog } 40 [.agg [.int .i64 (.var 0), .int .i64 (.var 1), .bool (.var 2), .int .i64 (.var 3), .bool (.var 4), .int .i64 (.var 5)], .int .i64 (.var 6)] [.int .i64, .int .i64, .bool, .int .i64, .bool, .int .i64, .int .i64] [] =
  VC.blk
  (VC.split (BE.var 2)
    (VC.ob (BE.le (IE.lit (-9223372036854775808)) (IE.add (IE.var 0) (IE.var 5)))
      (VC.ob (BE.le (IE.add (IE.var 0) (IE.var 5)) (IE.lit 9223372036854775807))
        (VC.ob (BE.le (IE.lit (-9223372036854775808)) (IE.mul (IE.var 6) (IE.add (IE.var 0) (IE.var 5))))
          (VC.ob (BE.le (IE.mul (IE.var 6) (IE.add (IE.var 0) (IE.var 5))) (IE.lit 9223372036854775807))
            (VC.leaf 0 [SV.tuple [SV.int IntKind.i64 (IE.mul (IE.var 6) (IE.add (IE.var 0) (IE.var 5))), SV.int IntKind.i64 (IE.lit 0)]] []
              [(7, [SV.int IntKind.i64 (IE.var 0), SV.int IntKind.i64 (IE.var 1), SV.bool (BE.var 2), SV.int IntKind.i64 (IE.var 3), SV.bool (BE.var 4), SV.int IntKind.i64 (IE.var 5)])])))))
    (VC.start true [] [7] [(7, [SV.int IntKind.i64 (IE.var 0), SV.int IntKind.i64 (IE.var 1), SV.bool (BE.var 2), SV.int IntKind.i64 (IE.var 3), SV.bool (BE.var 4), SV.int IntKind.i64 (IE.var 5)])]
      (VC.ob (BE.le (IE.lit (-9223372036854775808)) (IE.mul (IE.var 6) (IE.var 0)))
        (VC.ob (BE.le (IE.mul (IE.var 6) (IE.var 0)) (IE.lit 9223372036854775807))
          (VC.ob (BE.le (IE.lit (-9223372036854775808)) (IE.mul (IE.var 6) (IE.var 5)))
            (VC.ob (BE.le (IE.mul (IE.var 6) (IE.var 5)) (IE.lit 9223372036854775807))
              (VC.leaf 0 [SV.tuple [SV.int IntKind.i64 (IE.mul (IE.var 6) (IE.var 0)), SV.int IntKind.i64 (IE.mul (IE.var 6) (IE.var 5))]] []
                [(7, [SV.int IntKind.i64 (IE.var 0), SV.int IntKind.i64 (IE.var 1), SV.bool (BE.var 2), SV.int IntKind.i64 (IE.var 3), SV.bool (BE.var 4), SV.int IntKind.i64 (IE.var 5)])]))))))) := by kernel_rfl

theorem t46 : exFn { P := Try.prog } 46 [.agg [.int .i64 (.var 0), .int .i64 (.var 1), .bool (.var 2), .int .i64 (.var 3), .bool (.var 4)], .int .i64 (.var 5), .bool (.var 6)] [.int .i64, .int .i64, .bool, .int .i64, .bool, .int .i64, .bool] [] =
  VC.blk
  (VC.call 39
    [SV.agg [SV.int IntKind.i64 (IE.var 0), SV.int IntKind.i64 (IE.var 1), SV.bool (BE.var 2), SV.int IntKind.i64 (IE.var 3), SV.bool (BE.var 4)], SV.int IntKind.i64 (IE.var 5), SV.bool (BE.var 6)]
    [Base.int IntKind.i64, Base.int IntKind.i64, Base.bool, Base.int IntKind.i64, Base.bool, Base.int IntKind.i64, Base.int IntKind.i64]
    (SV.tuple
      [SV.agg [SV.int IntKind.i64 (IE.var 8), SV.int IntKind.i64 (IE.var 9), SV.bool (BE.var 10), SV.int IntKind.i64 (IE.var 11), SV.bool (BE.var 12), SV.int IntKind.i64 (IE.var 13)],
        SV.int IntKind.i64 (IE.var 14)])
    [] false [] [] [7] [(7, [SV.int IntKind.i64 (IE.var 0), SV.int IntKind.i64 (IE.var 1), SV.bool (BE.var 2), SV.int IntKind.i64 (IE.var 3), SV.bool (BE.var 4)])]
    (VC.blk
      (VC.split (BE.not (BE.eq (IE.var 14) (IE.lit 0)))
        (VC.leaf 0 [SV.tuple [SV.int IntKind.i64 (IE.lit 0), SV.int IntKind.i64 (IE.lit 0), SV.int IntKind.i64 (IE.var 14)]] [15]
          [(15, [SV.int IntKind.i64 (IE.var 8), SV.int IntKind.i64 (IE.var 9), SV.bool (BE.var 10), SV.int IntKind.i64 (IE.var 11), SV.bool (BE.var 12), SV.int IntKind.i64 (IE.var 13)]),
            (7, [SV.int IntKind.i64 (IE.var 0), SV.int IntKind.i64 (IE.var 1), SV.bool (BE.var 2), SV.int IntKind.i64 (IE.var 3), SV.bool (BE.var 4)])])
        (VC.call 40
          [SV.agg [SV.int IntKind.i64 (IE.var 8), SV.int IntKind.i64 (IE.var 9), SV.bool (BE.var 10), SV.int IntKind.i64 (IE.var 11), SV.bool (BE.var 12), SV.int IntKind.i64 (IE.var 13)],
            SV.int IntKind.i64 (IE.var 5)]
          [Base.int IntKind.i64, Base.int IntKind.i64] (SV.tuple [SV.int IntKind.i64 (IE.var 16), SV.int IntKind.i64 (IE.var 17)]) [] false [15] [] [15, 7]
          [(15, [SV.int IntKind.i64 (IE.var 8), SV.int IntKind.i64 (IE.var 9), SV.bool (BE.var 10), SV.int IntKind.i64 (IE.var 11), SV.bool (BE.var 12), SV.int IntKind.i64 (IE.var 13)]),
            (7, [SV.int IntKind.i64 (IE.var 0), SV.int IntKind.i64 (IE.var 1), SV.bool (BE.var 2), SV.int IntKind.i64 (IE.var 3), SV.bool (BE.var 4)])]
          (VC.leaf 0 [SV.tuple [SV.int IntKind.i64 (IE.var 16), SV.int IntKind.i64 (IE.var 17), SV.int IntKind.i64 (IE.lit 0)]] []
            [(15, [SV.int IntKind.i64 (IE.var 8), SV.int IntKind.i64 (IE.var 9), SV.bool (BE.var 10), SV.int IntKind.i64 (IE.var 11), SV.bool (BE.var 12), SV.int IntKind.i64 (IE.var 13)]),
              (7, [SV.int IntKind.i64 (IE.var 0), SV.int IntKind.i64 (IE.var 1), SV.bool (BE.var 2), SV.int IntKind.i64 (IE.var 3), SV.bool (BE.var 4)])]))))) := by kernel_rfl

theorem t41 : exFn { P := Try.prog } 41 [.var 0, .int .i64 (.var 1)] [.slice, .int .i64] [] =
  VC.split (BE.lt (IE.len 0) (IE.var 1)) (VC.leaf 0 [SV.int IntKind.i64 (IE.lit 4)] [] [])
  (VC.split (BE.lt (IE.var 1) (IE.len 0)) (VC.leaf 0 [SV.int IntKind.i64 (IE.lit 5)] [] []) (VC.leaf 0 [SV.int IntKind.i64 (IE.lit 0)] [] [])) := by kernel_rfl

theorem t23 : exFn { P := Try.prog } 23 [.agg [.int .i64 (.var 0), .int .i64 (.var 1), .bool (.var 2), .int .i64 (.var 3), .bool (.var 4)], .int .i64 (.var 5), .bool (.var 6), .int .i64 (.var 7), .int .i64 (.var 8), .int .i64 (.var 9)] [.int .i64, .int .i64, .bool, .int .i64, .bool, .int .i64, .bool, .int .i64, .int .i64, .int .i64] [] =
  VC.blk
  (VC.call 46
    [SV.agg [SV.int IntKind.i64 (IE.var 0), SV.int IntKind.i64 (IE.var 1), SV.bool (BE.var 2), SV.int IntKind.i64 (IE.var 3), SV.bool (BE.var 4)], SV.int IntKind.i64 (IE.var 5), SV.bool (BE.var 6)]
    [Base.int IntKind.i64, Base.int IntKind.i64, Base.int IntKind.i64] (SV.tuple [SV.int IntKind.i64 (IE.var 11), SV.int IntKind.i64 (IE.var 12), SV.int IntKind.i64 (IE.var 13)]) [] false [] [] [10]
    [(10, [SV.int IntKind.i64 (IE.var 0), SV.int IntKind.i64 (IE.var 1), SV.bool (BE.var 2), SV.int IntKind.i64 (IE.var 3), SV.bool (BE.var 4)])]
    (VC.split (BE.eq (IE.var 11) (IE.var 7))
      (VC.split (BE.eq (IE.var 12) (IE.var 8))
        (VC.call 18 [SV.int IntKind.i64 (IE.var 13)] [Base.int IntKind.i64] (SV.int IntKind.i64 (IE.var 14)) [] false [] [] [10]
          [(10, [SV.int IntKind.i64 (IE.var 0), SV.int IntKind.i64 (IE.var 1), SV.bool (BE.var 2), SV.int IntKind.i64 (IE.var 3), SV.bool (BE.var 4)])]
          (VC.leaf 0 [SV.bool (BE.eq (IE.var 14) (IE.var 9))] []
            [(10, [SV.int IntKind.i64 (IE.var 0), SV.int IntKind.i64 (IE.var 1), SV.bool (BE.var 2), SV.int IntKind.i64 (IE.var 3), SV.bool (BE.var 4)])]))
        (VC.leaf 0 [SV.bool (BE.lit false)] [] [(10, [SV.int IntKind.i64 (IE.var 0), SV.int IntKind.i64 (IE.var 1), SV.bool (BE.var 2), SV.int IntKind.i64 (IE.var 3), SV.bool (BE.var 4)])]))
      (VC.leaf 0 [SV.bool (BE.lit false)] [] [(10, [SV.int IntKind.i64 (IE.var 0), SV.int IntKind.i64 (IE.var 1), SV.bool (BE.var 2), SV.int IntKind.i64 (IE.var 3), SV.bool (BE.var 4)])]))) := by kernel_rfl

theorem t52 : exFn { P := Try.prog, loops := fun r => if Nat.beq r 2 then some ⟨1, [(8, .int .i64)], []⟩ else none } 52 [.var 0, .int .i64 (.var 1)] [.slice, .int .i64] [] =
  VC.loop 1 [SV.int IntKind.i64 (IE.lit 0)] [Base.int IntKind.i64] [] [] [] []
  (VC.split (BE.lt (IE.var 2) (IE.len 0))
    (VC.ob (BE.le (IE.lit 0) (IE.var 2))
      (VC.ob (BE.lt (IE.var 2) (IE.len 0))
        (VC.ob (BE.not (BE.nil 0))
          (VC.start false [] [] []
            (VC.load (SV.elt 0 0 (IE.var 2) 1 0) [Base.int IntKind.i64]
              (VC.split (BE.eq (IE.var 1) (IE.var 3)) (VC.leaf 0 [SV.int IntKind.i64 (IE.var 2)] [] [])
                (VC.ob (BE.le (IE.lit (-9223372036854775808)) (IE.add (IE.var 2) (IE.lit 1)))
                  (VC.ob (BE.le (IE.add (IE.var 2) (IE.lit 1)) (IE.lit 9223372036854775807)) (VC.leaf 1 [SV.int IntKind.i64 (IE.add (IE.var 2) (IE.lit 1))] [] [])))))))))
    (VC.leaf 0 [SV.int IntKind.i64 (IE.lit (-1))] [] [])) := by kernel_rfl

theorem t56 : exFn { P := Try.prog, loops := fun r => if Nat.beq r 2 then some ⟨1, [(8, .int .i64)], []⟩ else none } 56 [.var 0, .bool (.var 1)] [.slice, .bool] [] =
  VC.loop 1 [SV.int IntKind.i64 (IE.lit 0)] [Base.int IntKind.i64] [] [] [] []
  (VC.split (BE.lt (IE.var 2) (IE.len 0))
    (VC.ob (BE.le (IE.lit 0) (IE.var 2))
      (VC.ob (BE.lt (IE.var 2) (IE.len 0))
        (VC.ob (BE.not (BE.nil 0))
          (VC.start false [] [] []
            (VC.load (SV.elt 0 0 (IE.var 2) 1 0) [Base.bool]
              (VC.split (BE.beq (BE.var 1) (BE.var 3)) (VC.leaf 0 [SV.int IntKind.i64 (IE.var 2)] [] [])
                (VC.ob (BE.le (IE.lit (-9223372036854775808)) (IE.add (IE.var 2) (IE.lit 1)))
                  (VC.ob (BE.le (IE.add (IE.var 2) (IE.lit 1)) (IE.lit 9223372036854775807)) (VC.leaf 1 [SV.int IntKind.i64 (IE.add (IE.var 2) (IE.lit 1))] [] [])))))))))
    (VC.leaf 0 [SV.int IntKind.i64 (IE.lit (-1))] [] [])) := by kernel_rfl

theorem t19 : exFn { P := Try.prog } 19 [] [] [] =
  VC.call 38 [] [Base.int IntKind.i64, Base.int IntKind.i64, Base.bool, Base.int IntKind.i64, Base.bool]
  (SV.agg [SV.int IntKind.i64 (IE.var 0), SV.int IntKind.i64 (IE.var 1), SV.bool (BE.var 2), SV.int IntKind.i64 (IE.var 3), SV.bool (BE.var 4)]) [] false [] [] [] []
  (VC.call 38 [] [Base.int IntKind.i64, Base.int IntKind.i64, Base.bool, Base.int IntKind.i64, Base.bool]
    (SV.agg [SV.int IntKind.i64 (IE.var 5), SV.int IntKind.i64 (IE.var 6), SV.bool (BE.var 7), SV.int IntKind.i64 (IE.var 8), SV.bool (BE.var 9)]) [] false [] [] [] []
    (VC.call 38 [] [Base.int IntKind.i64, Base.int IntKind.i64, Base.bool, Base.int IntKind.i64, Base.bool]
      (SV.agg [SV.int IntKind.i64 (IE.var 10), SV.int IntKind.i64 (IE.var 11), SV.bool (BE.var 12), SV.int IntKind.i64 (IE.var 13), SV.bool (BE.var 14)]) [] false [] [] [] []
      (VC.blk
        (VC.blk
          (VC.blk
            (VC.blk
              (VC.call 10 [SV.agg [SV.int IntKind.i64 (IE.var 0), SV.int IntKind.i64 (IE.var 1), SV.bool (BE.var 2), SV.int IntKind.i64 (IE.var 3), SV.bool (BE.var 4)], SV.int IntKind.i64 (IE.lit 17)]
                [Base.int IntKind.i64, Base.int IntKind.i64, Base.int IntKind.i64] (SV.tuple [SV.int IntKind.i64 (IE.var 19), SV.int IntKind.i64 (IE.var 20), SV.int IntKind.i64 (IE.var 21)]) [] false
                [18, 17, 16, 15] [] [18, 17, 16, 15]
                [(18, [SV.int IntKind.i64 (IE.var 10), SV.int IntKind.i64 (IE.lit 64), SV.bool (BE.var 12), SV.int IntKind.i64 (IE.var 13), SV.bool (BE.var 14)]),
                  (17, [SV.int IntKind.i64 (IE.lit 4096), SV.int IntKind.i64 (IE.lit 0), SV.bool (BE.lit false), SV.int IntKind.i64 (IE.lit 0), SV.bool (BE.lit false)]),
                  (16, [SV.int IntKind.i64 (IE.var 5), SV.int IntKind.i64 (IE.var 6), SV.bool (BE.lit true), SV.int IntKind.i64 (IE.var 8), SV.bool (BE.var 9)]),
                  (15, [SV.int IntKind.i64 (IE.var 0), SV.int IntKind.i64 (IE.var 1), SV.bool (BE.var 2), SV.int IntKind.i64 (IE.var 3), SV.bool (BE.var 4)])]
                (VC.call 12
                  [SV.agg [SV.int IntKind.i64 (IE.var 0), SV.int IntKind.i64 (IE.var 1), SV.bool (BE.var 2), SV.int IntKind.i64 (IE.var 3), SV.bool (BE.var 4)], SV.int IntKind.i64 (IE.lit 17)]
                  [Base.int IntKind.i64, Base.int IntKind.i64] (SV.tuple [SV.int IntKind.i64 (IE.var 22), SV.int IntKind.i64 (IE.var 23)]) [] false [] [] [18, 17, 16, 15]
                  [(18, [SV.int IntKind.i64 (IE.var 10), SV.int IntKind.i64 (IE.lit 64), SV.bool (BE.var 12), SV.int IntKind.i64 (IE.var 13), SV.bool (BE.var 14)]),
                    (17, [SV.int IntKind.i64 (IE.lit 4096), SV.int IntKind.i64 (IE.lit 0), SV.bool (BE.lit false), SV.int IntKind.i64 (IE.lit 0), SV.bool (BE.lit false)]),
                    (16, [SV.int IntKind.i64 (IE.var 5), SV.int IntKind.i64 (IE.var 6), SV.bool (BE.lit true), SV.int IntKind.i64 (IE.var 8), SV.bool (BE.var 9)]),
                    (15, [SV.int IntKind.i64 (IE.var 0), SV.int IntKind.i64 (IE.var 1), SV.bool (BE.var 2), SV.int IntKind.i64 (IE.var 3), SV.bool (BE.var 4)])]
                  (VC.call 16 [SV.agg [SV.int IntKind.i64 (IE.var 0), SV.int IntKind.i64 (IE.var 1), SV.bool (BE.var 2), SV.int IntKind.i64 (IE.var 3), SV.bool (BE.var 4)]] [Base.int IntKind.i64]
                    (SV.int IntKind.i64 (IE.var 24)) [] false [] [] [18, 17, 16, 15]
                    [(18, [SV.int IntKind.i64 (IE.var 10), SV.int IntKind.i64 (IE.lit 64), SV.bool (BE.var 12), SV.int IntKind.i64 (IE.var 13), SV.bool (BE.var 14)]),
                      (17, [SV.int IntKind.i64 (IE.lit 4096), SV.int IntKind.i64 (IE.lit 0), SV.bool (BE.lit false), SV.int IntKind.i64 (IE.lit 0), SV.bool (BE.lit false)]),
                      (16, [SV.int IntKind.i64 (IE.var 5), SV.int IntKind.i64 (IE.var 6), SV.bool (BE.lit true), SV.int IntKind.i64 (IE.var 8), SV.bool (BE.var 9)]),
                      (15, [SV.int IntKind.i64 (IE.var 0), SV.int IntKind.i64 (IE.var 1), SV.bool (BE.var 2), SV.int IntKind.i64 (IE.var 3), SV.bool (BE.var 4)])]
                    (VC.split (BE.not (BE.eq (IE.var 24) (IE.lit 8)))
                      (VC.leaf 0 [SV.bool (BE.lit false)] []
                        [(18, [SV.int IntKind.i64 (IE.var 10), SV.int IntKind.i64 (IE.lit 64), SV.bool (BE.var 12), SV.int IntKind.i64 (IE.var 13), SV.bool (BE.var 14)]),
                          (17, [SV.int IntKind.i64 (IE.lit 4096), SV.int IntKind.i64 (IE.lit 0), SV.bool (BE.lit false), SV.int IntKind.i64 (IE.lit 0), SV.bool (BE.lit false)]),
                          (16, [SV.int IntKind.i64 (IE.var 5), SV.int IntKind.i64 (IE.var 6), SV.bool (BE.lit true), SV.int IntKind.i64 (IE.var 8), SV.bool (BE.var 9)]),
                          (15, [SV.int IntKind.i64 (IE.var 0), SV.int IntKind.i64 (IE.var 1), SV.bool (BE.var 2), SV.int IntKind.i64 (IE.var 3), SV.bool (BE.var 4)])])
                      (VC.call 16 [SV.agg [SV.int IntKind.i64 (IE.lit 4096), SV.int IntKind.i64 (IE.lit 0), SV.bool (BE.lit false), SV.int IntKind.i64 (IE.lit 0), SV.bool (BE.lit false)]]
                        [Base.int IntKind.i64] (SV.int IntKind.i64 (IE.var 25)) [] false [] [] [18, 17, 16, 15]
                        [(18, [SV.int IntKind.i64 (IE.var 10), SV.int IntKind.i64 (IE.lit 64), SV.bool (BE.var 12), SV.int IntKind.i64 (IE.var 13), SV.bool (BE.var 14)]),
                          (17, [SV.int IntKind.i64 (IE.lit 4096), SV.int IntKind.i64 (IE.lit 0), SV.bool (BE.lit false), SV.int IntKind.i64 (IE.lit 0), SV.bool (BE.lit false)]),
                          (16, [SV.int IntKind.i64 (IE.var 5), SV.int IntKind.i64 (IE.var 6), SV.bool (BE.lit true), SV.int IntKind.i64 (IE.var 8), SV.bool (BE.var 9)]),
                          (15, [SV.int IntKind.i64 (IE.var 0), SV.int IntKind.i64 (IE.var 1), SV.bool (BE.var 2), SV.int IntKind.i64 (IE.var 3), SV.bool (BE.var 4)])]
                        (VC.split (BE.not (BE.eq (IE.var 25) (IE.lit 1)))
                          (VC.leaf 0 [SV.bool (BE.lit false)] []
                            [(18, [SV.int IntKind.i64 (IE.var 10), SV.int IntKind.i64 (IE.lit 64), SV.bool (BE.var 12), SV.int IntKind.i64 (IE.var 13), SV.bool (BE.var 14)]),
                              (17, [SV.int IntKind.i64 (IE.lit 4096), SV.int IntKind.i64 (IE.lit 0), SV.bool (BE.lit false), SV.int IntKind.i64 (IE.lit 0), SV.bool (BE.lit false)]),
                              (16, [SV.int IntKind.i64 (IE.var 5), SV.int IntKind.i64 (IE.var 6), SV.bool (BE.lit true), SV.int IntKind.i64 (IE.var 8), SV.bool (BE.var 9)]),
                              (15, [SV.int IntKind.i64 (IE.var 0), SV.int IntKind.i64 (IE.var 1), SV.bool (BE.var 2), SV.int IntKind.i64 (IE.var 3), SV.bool (BE.var 4)])])
                          (VC.call 16 [SV.agg [SV.int IntKind.i64 (IE.var 10), SV.int IntKind.i64 (IE.lit 64), SV.bool (BE.var 12), SV.int IntKind.i64 (IE.var 13), SV.bool (BE.var 14)]]
                            [Base.int IntKind.i64] (SV.int IntKind.i64 (IE.var 26)) [] false [] [] [18, 17, 16, 15]
                            [(18, [SV.int IntKind.i64 (IE.var 10), SV.int IntKind.i64 (IE.lit 64), SV.bool (BE.var 12), SV.int IntKind.i64 (IE.var 13), SV.bool (BE.var 14)]),
                              (17, [SV.int IntKind.i64 (IE.lit 4096), SV.int IntKind.i64 (IE.lit 0), SV.bool (BE.lit false), SV.int IntKind.i64 (IE.lit 0), SV.bool (BE.lit false)]),
                              (16, [SV.int IntKind.i64 (IE.var 5), SV.int IntKind.i64 (IE.var 6), SV.bool (BE.lit true), SV.int IntKind.i64 (IE.var 8), SV.bool (BE.var 9)]),
                              (15, [SV.int IntKind.i64 (IE.var 0), SV.int IntKind.i64 (IE.var 1), SV.bool (BE.var 2), SV.int IntKind.i64 (IE.var 3), SV.bool (BE.var 4)])]
                            (VC.split (BE.not (BE.eq (IE.var 26) (IE.lit 7)))
                              (VC.leaf 0 [SV.bool (BE.lit false)] []
                                [(18, [SV.int IntKind.i64 (IE.var 10), SV.int IntKind.i64 (IE.lit 64), SV.bool (BE.var 12), SV.int IntKind.i64 (IE.var 13), SV.bool (BE.var 14)]),
                                  (17, [SV.int IntKind.i64 (IE.lit 4096), SV.int IntKind.i64 (IE.lit 0), SV.bool (BE.lit false), SV.int IntKind.i64 (IE.lit 0), SV.bool (BE.lit false)]),
                                  (16, [SV.int IntKind.i64 (IE.var 5), SV.int IntKind.i64 (IE.var 6), SV.bool (BE.lit true), SV.int IntKind.i64 (IE.var 8), SV.bool (BE.var 9)]),
                                  (15, [SV.int IntKind.i64 (IE.var 0), SV.int IntKind.i64 (IE.var 1), SV.bool (BE.var 2), SV.int IntKind.i64 (IE.var 3), SV.bool (BE.var 4)])])
                              (VC.split (BE.not (BE.eq (IE.var 19) (IE.lit 2)))
                                (VC.leaf 0 [SV.bool (BE.lit false)] []
                                  [(18, [SV.int IntKind.i64 (IE.var 10), SV.int IntKind.i64 (IE.lit 64), SV.bool (BE.var 12), SV.int IntKind.i64 (IE.var 13), SV.bool (BE.var 14)]),
                                    (17, [SV.int IntKind.i64 (IE.lit 4096), SV.int IntKind.i64 (IE.lit 0), SV.bool (BE.lit false), SV.int IntKind.i64 (IE.lit 0), SV.bool (BE.lit false)]),
                                    (16, [SV.int IntKind.i64 (IE.var 5), SV.int IntKind.i64 (IE.var 6), SV.bool (BE.lit true), SV.int IntKind.i64 (IE.var 8), SV.bool (BE.var 9)]),
                                    (15, [SV.int IntKind.i64 (IE.var 0), SV.int IntKind.i64 (IE.var 1), SV.bool (BE.var 2), SV.int IntKind.i64 (IE.var 3), SV.bool (BE.var 4)])])
                                (VC.split (BE.not (BE.eq (IE.var 20) (IE.lit 1)))
                                  (VC.leaf 0 [SV.bool (BE.lit false)] []
                                    [(18, [SV.int IntKind.i64 (IE.var 10), SV.int IntKind.i64 (IE.lit 64), SV.bool (BE.var 12), SV.int IntKind.i64 (IE.var 13), SV.bool (BE.var 14)]),
                                      (17, [SV.int IntKind.i64 (IE.lit 4096), SV.int IntKind.i64 (IE.lit 0), SV.bool (BE.lit false), SV.int IntKind.i64 (IE.lit 0), SV.bool (BE.lit false)]),
                                      (16, [SV.int IntKind.i64 (IE.var 5), SV.int IntKind.i64 (IE.var 6), SV.bool (BE.lit true), SV.int IntKind.i64 (IE.var 8), SV.bool (BE.var 9)]),
                                      (15, [SV.int IntKind.i64 (IE.var 0), SV.int IntKind.i64 (IE.var 1), SV.bool (BE.var 2), SV.int IntKind.i64 (IE.var 3), SV.bool (BE.var 4)])])
                                  (VC.split (BE.not (BE.eq (IE.var 22) (IE.lit 3)))
                                    (VC.leaf 0 [SV.bool (BE.lit false)] []
                                      [(18, [SV.int IntKind.i64 (IE.var 10), SV.int IntKind.i64 (IE.lit 64), SV.bool (BE.var 12), SV.int IntKind.i64 (IE.var 13), SV.bool (BE.var 14)]),
                                        (17, [SV.int IntKind.i64 (IE.lit 4096), SV.int IntKind.i64 (IE.lit 0), SV.bool (BE.lit false), SV.int IntKind.i64 (IE.lit 0), SV.bool (BE.lit false)]),
                                        (16, [SV.int IntKind.i64 (IE.var 5), SV.int IntKind.i64 (IE.var 6), SV.bool (BE.lit true), SV.int IntKind.i64 (IE.var 8), SV.bool (BE.var 9)]),
                                        (15, [SV.int IntKind.i64 (IE.var 0), SV.int IntKind.i64 (IE.var 1), SV.bool (BE.var 2), SV.int IntKind.i64 (IE.var 3), SV.bool (BE.var 4)])])
                                    (VC.call 18 [SV.int IntKind.i64 (IE.var 21)] [Base.int IntKind.i64] (SV.int IntKind.i64 (IE.var 27)) [] false [] [] [18, 17, 16, 15]
                                      [(18, [SV.int IntKind.i64 (IE.var 10), SV.int IntKind.i64 (IE.lit 64), SV.bool (BE.var 12), SV.int IntKind.i64 (IE.var 13), SV.bool (BE.var 14)]),
                                        (17, [SV.int IntKind.i64 (IE.lit 4096), SV.int IntKind.i64 (IE.lit 0), SV.bool (BE.lit false), SV.int IntKind.i64 (IE.lit 0), SV.bool (BE.lit false)]),
                                        (16, [SV.int IntKind.i64 (IE.var 5), SV.int IntKind.i64 (IE.var 6), SV.bool (BE.lit true), SV.int IntKind.i64 (IE.var 8), SV.bool (BE.var 9)]),
                                        (15, [SV.int IntKind.i64 (IE.var 0), SV.int IntKind.i64 (IE.var 1), SV.bool (BE.var 2), SV.int IntKind.i64 (IE.var 3), SV.bool (BE.var 4)])]
                                      (VC.call 18 [SV.int IntKind.i64 (IE.var 23)] [Base.int IntKind.i64] (SV.int IntKind.i64 (IE.var 28)) [] false [] [] [18, 17, 16, 15]
                                        [(18, [SV.int IntKind.i64 (IE.var 10), SV.int IntKind.i64 (IE.lit 64), SV.bool (BE.var 12), SV.int IntKind.i64 (IE.var 13), SV.bool (BE.var 14)]),
                                          (17, [SV.int IntKind.i64 (IE.lit 4096), SV.int IntKind.i64 (IE.lit 0), SV.bool (BE.lit false), SV.int IntKind.i64 (IE.lit 0), SV.bool (BE.lit false)]),
                                          (16, [SV.int IntKind.i64 (IE.var 5), SV.int IntKind.i64 (IE.var 6), SV.bool (BE.lit true), SV.int IntKind.i64 (IE.var 8), SV.bool (BE.var 9)]),
                                          (15, [SV.int IntKind.i64 (IE.var 0), SV.int IntKind.i64 (IE.var 1), SV.bool (BE.var 2), SV.int IntKind.i64 (IE.var 3), SV.bool (BE.var 4)])]
                                        (VC.ob (BE.le (IE.lit (-9223372036854775808)) (IE.add (IE.var 27) (IE.var 28)))
                                          (VC.ob (BE.le (IE.add (IE.var 27) (IE.var 28)) (IE.lit 9223372036854775807))
                                            (VC.split (BE.not (BE.eq (IE.add (IE.var 27) (IE.var 28)) (IE.lit 0)))
                                              (VC.leaf 0 [SV.bool (BE.lit false)] []
                                                [(18, [SV.int IntKind.i64 (IE.var 10), SV.int IntKind.i64 (IE.lit 64), SV.bool (BE.var 12), SV.int IntKind.i64 (IE.var 13), SV.bool (BE.var 14)]),
                                                  (17,
                                                    [SV.int IntKind.i64 (IE.lit 4096), SV.int IntKind.i64 (IE.lit 0), SV.bool (BE.lit false), SV.int IntKind.i64 (IE.lit 0), SV.bool (BE.lit false)]),
                                                  (16, [SV.int IntKind.i64 (IE.var 5), SV.int IntKind.i64 (IE.var 6), SV.bool (BE.lit true), SV.int IntKind.i64 (IE.var 8), SV.bool (BE.var 9)]),
                                                  (15, [SV.int IntKind.i64 (IE.var 0), SV.int IntKind.i64 (IE.var 1), SV.bool (BE.var 2), SV.int IntKind.i64 (IE.var 3), SV.bool (BE.var 4)])])
                                              (VC.start true [] [18, 17, 16, 15]
                                                [(18, [SV.int IntKind.i64 (IE.var 10), SV.int IntKind.i64 (IE.lit 64), SV.bool (BE.var 12), SV.int IntKind.i64 (IE.var 13), SV.bool (BE.var 14)]),
                                                  (17,
                                                    [SV.int IntKind.i64 (IE.lit 4096), SV.int IntKind.i64 (IE.lit 0), SV.bool (BE.lit false), SV.int IntKind.i64 (IE.lit 0), SV.bool (BE.lit false)]),
                                                  (16, [SV.int IntKind.i64 (IE.var 5), SV.int IntKind.i64 (IE.var 6), SV.bool (BE.lit true), SV.int IntKind.i64 (IE.var 8), SV.bool (BE.var 9)]),
                                                  (15, [SV.int IntKind.i64 (IE.var 0), SV.int IntKind.i64 (IE.var 1), SV.bool (BE.var 2), SV.int IntKind.i64 (IE.var 3), SV.bool (BE.var 4)])]
                                                (VC.both
                                                  (VC.gen (Op.makeSlice 40 (Operand.const (Value.int IntKind.i64 512)) (Operand.const (Value.int IntKind.i64 512))) 40
                                                    [(Operand.const (Value.int IntKind.i64 512), SV.int IntKind.i64 (IE.lit 512)),
                                                      (Operand.const (Value.int IntKind.i64 512), SV.int IntKind.i64 (IE.lit 512))]
                                                    [Base.slice] (SV.var 29) [] true [] [] [18, 17, 16, 15]
                                                    [(18, [SV.int IntKind.i64 (IE.var 10), SV.int IntKind.i64 (IE.lit 64), SV.bool (BE.var 12), SV.int IntKind.i64 (IE.var 13), SV.bool (BE.var 14)]),
                                                      (17,
                                                        [SV.int IntKind.i64 (IE.lit 4096), SV.int IntKind.i64 (IE.lit 0), SV.bool (BE.lit false), SV.int IntKind.i64 (IE.lit 0),
                                                          SV.bool (BE.lit false)]),
                                                      (16, [SV.int IntKind.i64 (IE.var 5), SV.int IntKind.i64 (IE.var 6), SV.bool (BE.lit true), SV.int IntKind.i64 (IE.var 8), SV.bool (BE.var 9)]),
                                                      (15, [SV.int IntKind.i64 (IE.var 0), SV.int IntKind.i64 (IE.var 1), SV.bool (BE.var 2), SV.int IntKind.i64 (IE.var 3), SV.bool (BE.var 4)])]
                                                    (VC.gen (Op.makeSlice 40 (Operand.const (Value.int IntKind.i64 7)) (Operand.const (Value.int IntKind.i64 7))) 40
                                                      [(Operand.const (Value.int IntKind.i64 7), SV.int IntKind.i64 (IE.lit 7)),
                                                        (Operand.const (Value.int IntKind.i64 7), SV.int IntKind.i64 (IE.lit 7))]
                                                      [Base.slice] (SV.var 30) [] true [] [] [18, 17, 16, 15]
                                                      [(18, [SV.int IntKind.i64 (IE.var 10), SV.int IntKind.i64 (IE.lit 64), SV.bool (BE.var 12), SV.int IntKind.i64 (IE.var 13), SV.bool (BE.var 14)]),
                                                        (17,
                                                          [SV.int IntKind.i64 (IE.lit 4096), SV.int IntKind.i64 (IE.lit 0), SV.bool (BE.lit false), SV.int IntKind.i64 (IE.lit 0),
                                                            SV.bool (BE.lit false)]),
                                                        (16, [SV.int IntKind.i64 (IE.var 5), SV.int IntKind.i64 (IE.var 6), SV.bool (BE.lit true), SV.int IntKind.i64 (IE.var 8), SV.bool (BE.var 9)]),
                                                        (15, [SV.int IntKind.i64 (IE.var 0), SV.int IntKind.i64 (IE.var 1), SV.bool (BE.var 2), SV.int IntKind.i64 (IE.var 3), SV.bool (BE.var 4)])]
                                                      (VC.call 21
                                                        [SV.agg [SV.int IntKind.i64 (IE.var 0), SV.int IntKind.i64 (IE.var 1), SV.bool (BE.var 2), SV.int IntKind.i64 (IE.var 3), SV.bool (BE.var 4)],
                                                          SV.int IntKind.i64 (IE.lit 1), SV.bool (BE.lit false), SV.var 29, SV.var 30]
                                                        [Base.slice, Base.int IntKind.i64] (SV.tuple [SV.var 31, SV.int IntKind.i64 (IE.var 32)]) [] true [] [] [18, 17, 16, 15]
                                                        [(18,
                                                            [SV.int IntKind.i64 (IE.var 10), SV.int IntKind.i64 (IE.lit 64), SV.bool (BE.var 12), SV.int IntKind.i64 (IE.var 13), SV.bool (BE.var 14)]),
                                                          (17,
                                                            [SV.int IntKind.i64 (IE.lit 4096), SV.int IntKind.i64 (IE.lit 0), SV.bool (BE.lit false), SV.int IntKind.i64 (IE.lit 0),
                                                              SV.bool (BE.lit false)]),
                                                          (16,
                                                            [SV.int IntKind.i64 (IE.var 5), SV.int IntKind.i64 (IE.var 6), SV.bool (BE.lit true), SV.int IntKind.i64 (IE.var 8), SV.bool (BE.var 9)]),
                                                          (15, [SV.int IntKind.i64 (IE.var 0), SV.int IntKind.i64 (IE.var 1), SV.bool (BE.var 2), SV.int IntKind.i64 (IE.var 3), SV.bool (BE.var 4)])]
                                                        (VC.call 21
                                                          [SV.agg [SV.int IntKind.i64 (IE.var 0), SV.int IntKind.i64 (IE.var 1), SV.bool (BE.var 2), SV.int IntKind.i64 (IE.var 3), SV.bool (BE.var 4)],
                                                            SV.int IntKind.i64 (IE.lit 0), SV.bool (BE.lit false), SV.cst (Value.slice none 0 0), SV.cst (Value.slice none 0 0)]
                                                          [Base.slice, Base.int IntKind.i64] (SV.tuple [SV.var 33, SV.int IntKind.i64 (IE.var 34)]) [] false [] [] [18, 17, 16, 15]
                                                          [(18,
                                                              [SV.int IntKind.i64 (IE.var 10), SV.int IntKind.i64 (IE.lit 64), SV.bool (BE.var 12), SV.int IntKind.i64 (IE.var 13),
                                                                SV.bool (BE.var 14)]),
                                                            (17,
                                                              [SV.int IntKind.i64 (IE.lit 4096), SV.int IntKind.i64 (IE.lit 0), SV.bool (BE.lit false), SV.int IntKind.i64 (IE.lit 0),
                                                                SV.bool (BE.lit false)]),
                                                            (16,
                                                              [SV.int IntKind.i64 (IE.var 5), SV.int IntKind.i64 (IE.var 6), SV.bool (BE.lit true), SV.int IntKind.i64 (IE.var 8), SV.bool (BE.var 9)]),
                                                            (15, [SV.int IntKind.i64 (IE.var 0), SV.int IntKind.i64 (IE.var 1), SV.bool (BE.var 2), SV.int IntKind.i64 (IE.var 3), SV.bool (BE.var 4)])]
                                                          (VC.call 23
                                                            [SV.agg
                                                                [SV.int IntKind.i64 (IE.var 0), SV.int IntKind.i64 (IE.var 1), SV.bool (BE.var 2), SV.int IntKind.i64 (IE.var 3), SV.bool (BE.var 4)],
                                                              SV.int IntKind.i64 (IE.lit 2), SV.bool (BE.lit false), SV.int IntKind.i64 (IE.lit 1024), SV.int IntKind.i64 (IE.lit 16),
                                                              SV.int IntKind.i64 (IE.lit 0)]
                                                            [Base.bool] (SV.bool (BE.var 35)) [] false [] [] [18, 17, 16, 15]
                                                            [(18,
                                                                [SV.int IntKind.i64 (IE.var 10), SV.int IntKind.i64 (IE.lit 64), SV.bool (BE.var 12), SV.int IntKind.i64 (IE.var 13),
                                                                  SV.bool (BE.var 14)]),
                                                              (17,
                                                                [SV.int IntKind.i64 (IE.lit 4096), SV.int IntKind.i64 (IE.lit 0), SV.bool (BE.lit false), SV.int IntKind.i64 (IE.lit 0),
                                                                  SV.bool (BE.lit false)]),
                                                              (16,
                                                                [SV.int IntKind.i64 (IE.var 5), SV.int IntKind.i64 (IE.var 6), SV.bool (BE.lit true), SV.int IntKind.i64 (IE.var 8),
                                                                  SV.bool (BE.var 9)]),
                                                              (15,
                                                                [SV.int IntKind.i64 (IE.var 0), SV.int IntKind.i64 (IE.var 1), SV.bool (BE.var 2), SV.int IntKind.i64 (IE.var 3), SV.bool (BE.var 4)])]
                                                            (VC.split (BE.var 35)
                                                              (VC.call 23
                                                                [SV.agg
                                                                    [SV.int IntKind.i64 (IE.var 0), SV.int IntKind.i64 (IE.var 1), SV.bool (BE.var 2), SV.int IntKind.i64 (IE.var 3),
                                                                      SV.bool (BE.var 4)],
                                                                  SV.int IntKind.i64 (IE.lit 2), SV.bool (BE.lit true), SV.int IntKind.i64 (IE.lit 1024), SV.int IntKind.i64 (IE.lit 0),
                                                                  SV.int IntKind.i64 (IE.lit 0)]
                                                                [Base.bool] (SV.bool (BE.var 36)) [] false [] [] [18, 17, 16, 15]
                                                                [(18,
                                                                    [SV.int IntKind.i64 (IE.var 10), SV.int IntKind.i64 (IE.lit 64), SV.bool (BE.var 12), SV.int IntKind.i64 (IE.var 13),
                                                                      SV.bool (BE.var 14)]),
                                                                  (17,
                                                                    [SV.int IntKind.i64 (IE.lit 4096), SV.int IntKind.i64 (IE.lit 0), SV.bool (BE.lit false), SV.int IntKind.i64 (IE.lit 0),
                                                                      SV.bool (BE.lit false)]),
                                                                  (16,
                                                                    [SV.int IntKind.i64 (IE.var 5), SV.int IntKind.i64 (IE.var 6), SV.bool (BE.lit true), SV.int IntKind.i64 (IE.var 8),
                                                                      SV.bool (BE.var 9)]),
                                                                  (15,
                                                                    [SV.int IntKind.i64 (IE.var 0), SV.int IntKind.i64 (IE.var 1), SV.bool (BE.var 2), SV.int IntKind.i64 (IE.var 3),
                                                                      SV.bool (BE.var 4)])]
                                                                (VC.split (BE.var 36)
                                                                  (VC.call 23
                                                                    [SV.agg
                                                                        [SV.int IntKind.i64 (IE.var 5), SV.int IntKind.i64 (IE.var 6), SV.bool (BE.lit true), SV.int IntKind.i64 (IE.var 8),
                                                                          SV.bool (BE.var 9)],
                                                                      SV.int IntKind.i64 (IE.lit 2), SV.bool (BE.lit false), SV.int IntKind.i64 (IE.lit 1040), SV.int IntKind.i64 (IE.lit 0),
                                                                      SV.int IntKind.i64 (IE.lit 0)]
                                                                    [Base.bool] (SV.bool (BE.var 37)) [] false [] [] [18, 17, 16, 15]
                                                                    [(18,
                                                                        [SV.int IntKind.i64 (IE.var 10), SV.int IntKind.i64 (IE.lit 64), SV.bool (BE.var 12), SV.int IntKind.i64 (IE.var 13),
                                                                          SV.bool (BE.var 14)]),
                                                                      (17,
                                                                        [SV.int IntKind.i64 (IE.lit 4096), SV.int IntKind.i64 (IE.lit 0), SV.bool (BE.lit false), SV.int IntKind.i64 (IE.lit 0),
                                                                          SV.bool (BE.lit false)]),
                                                                      (16,
                                                                        [SV.int IntKind.i64 (IE.var 5), SV.int IntKind.i64 (IE.var 6), SV.bool (BE.lit true), SV.int IntKind.i64 (IE.var 8),
                                                                          SV.bool (BE.var 9)]),
                                                                      (15,
                                                                        [SV.int IntKind.i64 (IE.var 0), SV.int IntKind.i64 (IE.var 1), SV.bool (BE.var 2), SV.int IntKind.i64 (IE.var 3),
                                                                          SV.bool (BE.var 4)])]
                                                                    (VC.split (BE.var 37)
                                                                      (VC.call 23
                                                                        [SV.agg
                                                                            [SV.int IntKind.i64 (IE.lit 4096), SV.int IntKind.i64 (IE.lit 0), SV.bool (BE.lit false), SV.int IntKind.i64 (IE.lit 0),
                                                                              SV.bool (BE.lit false)],
                                                                          SV.int IntKind.i64 (IE.lit 2), SV.bool (BE.lit true), SV.int IntKind.i64 (IE.lit 0), SV.int IntKind.i64 (IE.lit 0),
                                                                          SV.int IntKind.i64 (IE.lit 2)]
                                                                        [Base.bool] (SV.bool (BE.var 38)) [] false [] [] [18, 17, 16, 15]
                                                                        [(18,
                                                                            [SV.int IntKind.i64 (IE.var 10), SV.int IntKind.i64 (IE.lit 64), SV.bool (BE.var 12), SV.int IntKind.i64 (IE.var 13),
                                                                              SV.bool (BE.var 14)]),
                                                                          (17,
                                                                            [SV.int IntKind.i64 (IE.lit 4096), SV.int IntKind.i64 (IE.lit 0), SV.bool (BE.lit false), SV.int IntKind.i64 (IE.lit 0),
                                                                              SV.bool (BE.lit false)]),
                                                                          (16,
                                                                            [SV.int IntKind.i64 (IE.var 5), SV.int IntKind.i64 (IE.var 6), SV.bool (BE.lit true), SV.int IntKind.i64 (IE.var 8),
                                                                              SV.bool (BE.var 9)]),
                                                                          (15,
                                                                            [SV.int IntKind.i64 (IE.var 0), SV.int IntKind.i64 (IE.var 1), SV.bool (BE.var 2), SV.int IntKind.i64 (IE.var 3),
                                                                              SV.bool (BE.var 4)])]
                                                                        (VC.split (BE.var 38)
                                                                          (VC.call 18 [SV.int IntKind.i64 (IE.var 32)] [Base.int IntKind.i64] (SV.int IntKind.i64 (IE.var 39)) [] false [] []
                                                                            [18, 17, 16, 15]
                                                                            [(18,
                                                                                [SV.int IntKind.i64 (IE.var 10), SV.int IntKind.i64 (IE.lit 64), SV.bool (BE.var 12), SV.int IntKind.i64 (IE.var 13),
                                                                                  SV.bool (BE.var 14)]),
                                                                              (17,
                                                                                [SV.int IntKind.i64 (IE.lit 4096), SV.int IntKind.i64 (IE.lit 0), SV.bool (BE.lit false), SV.int IntKind.i64 (IE.lit 0),
                                                                                  SV.bool (BE.lit false)]),
                                                                              (16,
                                                                                [SV.int IntKind.i64 (IE.var 5), SV.int IntKind.i64 (IE.var 6), SV.bool (BE.lit true), SV.int IntKind.i64 (IE.var 8),
                                                                                  SV.bool (BE.var 9)]),
                                                                              (15,
                                                                                [SV.int IntKind.i64 (IE.var 0), SV.int IntKind.i64 (IE.var 1), SV.bool (BE.var 2), SV.int IntKind.i64 (IE.var 3),
                                                                                  SV.bool (BE.var 4)])]
                                                                            (VC.split (BE.eq (IE.var 39) (IE.lit 4))
                                                                              (VC.split (BE.eq (IE.len 33) (IE.lit 0))
                                                                                (VC.call 18 [SV.int IntKind.i64 (IE.var 34)] [Base.int IntKind.i64] (SV.int IntKind.i64 (IE.var 40)) [] false [] []
                                                                                  [18, 17, 16, 15]
                                                                                  [(18,
                                                                                      [SV.int IntKind.i64 (IE.var 10), SV.int IntKind.i64 (IE.lit 64), SV.bool (BE.var 12),
                                                                                        SV.int IntKind.i64 (IE.var 13), SV.bool (BE.var 14)]),
                                                                                    (17,
                                                                                      [SV.int IntKind.i64 (IE.lit 4096), SV.int IntKind.i64 (IE.lit 0), SV.bool (BE.lit false),
                                                                                        SV.int IntKind.i64 (IE.lit 0), SV.bool (BE.lit false)]),
                                                                                    (16,
                                                                                      [SV.int IntKind.i64 (IE.var 5), SV.int IntKind.i64 (IE.var 6), SV.bool (BE.lit true),
                                                                                        SV.int IntKind.i64 (IE.var 8), SV.bool (BE.var 9)]),
                                                                                    (15,
                                                                                      [SV.int IntKind.i64 (IE.var 0), SV.int IntKind.i64 (IE.var 1), SV.bool (BE.var 2), SV.int IntKind.i64 (IE.var 3),
                                                                                        SV.bool (BE.var 4)])]
                                                                                  (VC.leaf 0 [SV.bool (BE.eq (IE.var 40) (IE.lit 0))] []
                                                                                    [(18,
                                                                                        [SV.int IntKind.i64 (IE.var 10), SV.int IntKind.i64 (IE.lit 64), SV.bool (BE.var 12),
                                                                                          SV.int IntKind.i64 (IE.var 13), SV.bool (BE.var 14)]),
                                                                                      (17,
                                                                                        [SV.int IntKind.i64 (IE.lit 4096), SV.int IntKind.i64 (IE.lit 0), SV.bool (BE.lit false),
                                                                                          SV.int IntKind.i64 (IE.lit 0), SV.bool (BE.lit false)]),
                                                                                      (16,
                                                                                        [SV.int IntKind.i64 (IE.var 5), SV.int IntKind.i64 (IE.var 6), SV.bool (BE.lit true),
                                                                                          SV.int IntKind.i64 (IE.var 8), SV.bool (BE.var 9)]),
                                                                                      (15,
                                                                                        [SV.int IntKind.i64 (IE.var 0), SV.int IntKind.i64 (IE.var 1), SV.bool (BE.var 2),
                                                                                          SV.int IntKind.i64 (IE.var 3), SV.bool (BE.var 4)])]))
                                                                                (VC.leaf 0 [SV.bool (BE.lit false)] []
                                                                                  [(18,
                                                                                      [SV.int IntKind.i64 (IE.var 10), SV.int IntKind.i64 (IE.lit 64), SV.bool (BE.var 12),
                                                                                        SV.int IntKind.i64 (IE.var 13), SV.bool (BE.var 14)]),
                                                                                    (17,
                                                                                      [SV.int IntKind.i64 (IE.lit 4096), SV.int IntKind.i64 (IE.lit 0), SV.bool (BE.lit false),
                                                                                        SV.int IntKind.i64 (IE.lit 0), SV.bool (BE.lit false)]),
                                                                                    (16,
                                                                                      [SV.int IntKind.i64 (IE.var 5), SV.int IntKind.i64 (IE.var 6), SV.bool (BE.lit true),
                                                                                        SV.int IntKind.i64 (IE.var 8), SV.bool (BE.var 9)]),
                                                                                    (15,
                                                                                      [SV.int IntKind.i64 (IE.var 0), SV.int IntKind.i64 (IE.var 1), SV.bool (BE.var 2), SV.int IntKind.i64 (IE.var 3),
                                                                                        SV.bool (BE.var 4)])]))
                                                                              (VC.leaf 0 [SV.bool (BE.lit false)] []
                                                                                [(18,
                                                                                    [SV.int IntKind.i64 (IE.var 10), SV.int IntKind.i64 (IE.lit 64), SV.bool (BE.var 12),
                                                                                      SV.int IntKind.i64 (IE.var 13), SV.bool (BE.var 14)]),
                                                                                  (17,
                                                                                    [SV.int IntKind.i64 (IE.lit 4096), SV.int IntKind.i64 (IE.lit 0), SV.bool (BE.lit false),
                                                                                      SV.int IntKind.i64 (IE.lit 0), SV.bool (BE.lit false)]),
                                                                                  (16,
                                                                                    [SV.int IntKind.i64 (IE.var 5), SV.int IntKind.i64 (IE.var 6), SV.bool (BE.lit true), SV.int IntKind.i64 (IE.var 8),
                                                                                      SV.bool (BE.var 9)]),
                                                                                  (15,
                                                                                    [SV.int IntKind.i64 (IE.var 0), SV.int IntKind.i64 (IE.var 1), SV.bool (BE.var 2), SV.int IntKind.i64 (IE.var 3),
                                                                                      SV.bool (BE.var 4)])])))
                                                                          (VC.leaf 0 [SV.bool (BE.lit false)] []
                                                                            [(18,
                                                                                [SV.int IntKind.i64 (IE.var 10), SV.int IntKind.i64 (IE.lit 64), SV.bool (BE.var 12), SV.int IntKind.i64 (IE.var 13),
                                                                                  SV.bool (BE.var 14)]),
                                                                              (17,
                                                                                [SV.int IntKind.i64 (IE.lit 4096), SV.int IntKind.i64 (IE.lit 0), SV.bool (BE.lit false), SV.int IntKind.i64 (IE.lit 0),
                                                                                  SV.bool (BE.lit false)]),
                                                                              (16,
                                                                                [SV.int IntKind.i64 (IE.var 5), SV.int IntKind.i64 (IE.var 6), SV.bool (BE.lit true), SV.int IntKind.i64 (IE.var 8),
                                                                                  SV.bool (BE.var 9)]),
                                                                              (15,
                                                                                [SV.int IntKind.i64 (IE.var 0), SV.int IntKind.i64 (IE.var 1), SV.bool (BE.var 2), SV.int IntKind.i64 (IE.var 3),
                                                                                  SV.bool (BE.var 4)])])))
                                                                      (VC.leaf 0 [SV.bool (BE.lit false)] []
                                                                        [(18,
                                                                            [SV.int IntKind.i64 (IE.var 10), SV.int IntKind.i64 (IE.lit 64), SV.bool (BE.var 12), SV.int IntKind.i64 (IE.var 13),
                                                                              SV.bool (BE.var 14)]),
                                                                          (17,
                                                                            [SV.int IntKind.i64 (IE.lit 4096), SV.int IntKind.i64 (IE.lit 0), SV.bool (BE.lit false), SV.int IntKind.i64 (IE.lit 0),
                                                                              SV.bool (BE.lit false)]),
                                                                          (16,
                                                                            [SV.int IntKind.i64 (IE.var 5), SV.int IntKind.i64 (IE.var 6), SV.bool (BE.lit true), SV.int IntKind.i64 (IE.var 8),
                                                                              SV.bool (BE.var 9)]),
                                                                          (15,
                                                                            [SV.int IntKind.i64 (IE.var 0), SV.int IntKind.i64 (IE.var 1), SV.bool (BE.var 2), SV.int IntKind.i64 (IE.var 3),
                                                                              SV.bool (BE.var 4)])])))
                                                                  (VC.leaf 0 [SV.bool (BE.lit false)] []
                                                                    [(18,
                                                                        [SV.int IntKind.i64 (IE.var 10), SV.int IntKind.i64 (IE.lit 64), SV.bool (BE.var 12), SV.int IntKind.i64 (IE.var 13),
                                                                          SV.bool (BE.var 14)]),
                                                                      (17,
                                                                        [SV.int IntKind.i64 (IE.lit 4096), SV.int IntKind.i64 (IE.lit 0), SV.bool (BE.lit false), SV.int IntKind.i64 (IE.lit 0),
                                                                          SV.bool (BE.lit false)]),
                                                                      (16,
                                                                        [SV.int IntKind.i64 (IE.var 5), SV.int IntKind.i64 (IE.var 6), SV.bool (BE.lit true), SV.int IntKind.i64 (IE.var 8),
                                                                          SV.bool (BE.var 9)]),
                                                                      (15,
                                                                        [SV.int IntKind.i64 (IE.var 0), SV.int IntKind.i64 (IE.var 1), SV.bool (BE.var 2), SV.int IntKind.i64 (IE.var 3),
                                                                          SV.bool (BE.var 4)])])))
                                                              (VC.leaf 0 [SV.bool (BE.lit false)] []
                                                                [(18,
                                                                    [SV.int IntKind.i64 (IE.var 10), SV.int IntKind.i64 (IE.lit 64), SV.bool (BE.var 12), SV.int IntKind.i64 (IE.var 13),
                                                                      SV.bool (BE.var 14)]),
                                                                  (17,
                                                                    [SV.int IntKind.i64 (IE.lit 4096), SV.int IntKind.i64 (IE.lit 0), SV.bool (BE.lit false), SV.int IntKind.i64 (IE.lit 0),
                                                                      SV.bool (BE.lit false)]),
                                                                  (16,
                                                                    [SV.int IntKind.i64 (IE.var 5), SV.int IntKind.i64 (IE.var 6), SV.bool (BE.lit true), SV.int IntKind.i64 (IE.var 8),
                                                                      SV.bool (BE.var 9)]),
                                                                  (15,
                                                                    [SV.int IntKind.i64 (IE.var 0), SV.int IntKind.i64 (IE.var 1), SV.bool (BE.var 2), SV.int IntKind.i64 (IE.var 3),
                                                                      SV.bool (BE.var 4)])])))))))
                                                  (VC.gen (Op.makeSlice 40 (Operand.const (Value.int IntKind.i64 7)) (Operand.const (Value.int IntKind.i64 7))) 40
                                                    [(Operand.const (Value.int IntKind.i64 7), SV.int IntKind.i64 (IE.lit 7)), (Operand.const (Value.int IntKind.i64 7), SV.int IntKind.i64 (IE.lit 7))]
                                                    [Base.slice] (SV.var 29) [] true [] [] [18, 17, 16, 15]
                                                    [(18, [SV.int IntKind.i64 (IE.var 10), SV.int IntKind.i64 (IE.lit 64), SV.bool (BE.var 12), SV.int IntKind.i64 (IE.var 13), SV.bool (BE.var 14)]),
                                                      (17,
                                                        [SV.int IntKind.i64 (IE.lit 4096), SV.int IntKind.i64 (IE.lit 0), SV.bool (BE.lit false), SV.int IntKind.i64 (IE.lit 0),
                                                          SV.bool (BE.lit false)]),
                                                      (16, [SV.int IntKind.i64 (IE.var 5), SV.int IntKind.i64 (IE.var 6), SV.bool (BE.lit true), SV.int IntKind.i64 (IE.var 8), SV.bool (BE.var 9)]),
                                                      (15, [SV.int IntKind.i64 (IE.var 0), SV.int IntKind.i64 (IE.var 1), SV.bool (BE.var 2), SV.int IntKind.i64 (IE.var 3), SV.bool (BE.var 4)])]
                                                    (VC.gen (Op.makeSlice 40 (Operand.const (Value.int IntKind.i64 512)) (Operand.const (Value.int IntKind.i64 512))) 40
                                                      [(Operand.const (Value.int IntKind.i64 512), SV.int IntKind.i64 (IE.lit 512)),
                                                        (Operand.const (Value.int IntKind.i64 512), SV.int IntKind.i64 (IE.lit 512))]
                                                      [Base.slice] (SV.var 30) [] true [] [] [18, 17, 16, 15]
                                                      [(18, [SV.int IntKind.i64 (IE.var 10), SV.int IntKind.i64 (IE.lit 64), SV.bool (BE.var 12), SV.int IntKind.i64 (IE.var 13), SV.bool (BE.var 14)]),
                                                        (17,
                                                          [SV.int IntKind.i64 (IE.lit 4096), SV.int IntKind.i64 (IE.lit 0), SV.bool (BE.lit false), SV.int IntKind.i64 (IE.lit 0),
                                                            SV.bool (BE.lit false)]),
                                                        (16, [SV.int IntKind.i64 (IE.var 5), SV.int IntKind.i64 (IE.var 6), SV.bool (BE.lit true), SV.int IntKind.i64 (IE.var 8), SV.bool (BE.var 9)]),
                                                        (15, [SV.int IntKind.i64 (IE.var 0), SV.int IntKind.i64 (IE.var 1), SV.bool (BE.var 2), SV.int IntKind.i64 (IE.var 3), SV.bool (BE.var 4)])]
                                                      (VC.call 21
                                                        [SV.agg [SV.int IntKind.i64 (IE.var 0), SV.int IntKind.i64 (IE.var 1), SV.bool (BE.var 2), SV.int IntKind.i64 (IE.var 3), SV.bool (BE.var 4)],
                                                          SV.int IntKind.i64 (IE.lit 1), SV.bool (BE.lit false), SV.var 30, SV.var 29]
                                                        [Base.slice, Base.int IntKind.i64] (SV.tuple [SV.var 31, SV.int IntKind.i64 (IE.var 32)]) [] true [] [] [18, 17, 16, 15]
                                                        [(18,
                                                            [SV.int IntKind.i64 (IE.var 10), SV.int IntKind.i64 (IE.lit 64), SV.bool (BE.var 12), SV.int IntKind.i64 (IE.var 13), SV.bool (BE.var 14)]),
                                                          (17,
                                                            [SV.int IntKind.i64 (IE.lit 4096), SV.int IntKind.i64 (IE.lit 0), SV.bool (BE.lit false), SV.int IntKind.i64 (IE.lit 0),
                                                              SV.bool (BE.lit false)]),
                                                          (16,
                                                            [SV.int IntKind.i64 (IE.var 5), SV.int IntKind.i64 (IE.var 6), SV.bool (BE.lit true), SV.int IntKind.i64 (IE.var 8), SV.bool (BE.var 9)]),
                                                          (15, [SV.int IntKind.i64 (IE.var 0), SV.int IntKind.i64 (IE.var 1), SV.bool (BE.var 2), SV.int IntKind.i64 (IE.var 3), SV.bool (BE.var 4)])]
                                                        (VC.call 21
                                                          [SV.agg [SV.int IntKind.i64 (IE.var 0), SV.int IntKind.i64 (IE.var 1), SV.bool (BE.var 2), SV.int IntKind.i64 (IE.var 3), SV.bool (BE.var 4)],
                                                            SV.int IntKind.i64 (IE.lit 0), SV.bool (BE.lit false), SV.cst (Value.slice none 0 0), SV.cst (Value.slice none 0 0)]
                                                          [Base.slice, Base.int IntKind.i64] (SV.tuple [SV.var 33, SV.int IntKind.i64 (IE.var 34)]) [] false [] [] [18, 17, 16, 15]
                                                          [(18,
                                                              [SV.int IntKind.i64 (IE.var 10), SV.int IntKind.i64 (IE.lit 64), SV.bool (BE.var 12), SV.int IntKind.i64 (IE.var 13),
                                                                SV.bool (BE.var 14)]),
                                                            (17,
                                                              [SV.int IntKind.i64 (IE.lit 4096), SV.int IntKind.i64 (IE.lit 0), SV.bool (BE.lit false), SV.int IntKind.i64 (IE.lit 0),
                                                                SV.bool (BE.lit false)]),
                                                            (16,
                                                              [SV.int IntKind.i64 (IE.var 5), SV.int IntKind.i64 (IE.var 6), SV.bool (BE.lit true), SV.int IntKind.i64 (IE.var 8), SV.bool (BE.var 9)]),
                                                            (15, [SV.int IntKind.i64 (IE.var 0), SV.int IntKind.i64 (IE.var 1), SV.bool (BE.var 2), SV.int IntKind.i64 (IE.var 3), SV.bool (BE.var 4)])]
                                                          (VC.call 23
                                                            [SV.agg
                                                                [SV.int IntKind.i64 (IE.var 0), SV.int IntKind.i64 (IE.var 1), SV.bool (BE.var 2), SV.int IntKind.i64 (IE.var 3), SV.bool (BE.var 4)],
                                                              SV.int IntKind.i64 (IE.lit 2), SV.bool (BE.lit false), SV.int IntKind.i64 (IE.lit 1024), SV.int IntKind.i64 (IE.lit 16),
                                                              SV.int IntKind.i64 (IE.lit 0)]
                                                            [Base.bool] (SV.bool (BE.var 35)) [] false [] [] [18, 17, 16, 15]
                                                            [(18,
                                                                [SV.int IntKind.i64 (IE.var 10), SV.int IntKind.i64 (IE.lit 64), SV.bool (BE.var 12), SV.int IntKind.i64 (IE.var 13),
                                                                  SV.bool (BE.var 14)]),
                                                              (17,
                                                                [SV.int IntKind.i64 (IE.lit 4096), SV.int IntKind.i64 (IE.lit 0), SV.bool (BE.lit false), SV.int IntKind.i64 (IE.lit 0),
                                                                  SV.bool (BE.lit false)]),
                                                              (16,
                                                                [SV.int IntKind.i64 (IE.var 5), SV.int IntKind.i64 (IE.var 6), SV.bool (BE.lit true), SV.int IntKind.i64 (IE.var 8),
                                                                  SV.bool (BE.var 9)]),
                                                              (15,
                                                                [SV.int IntKind.i64 (IE.var 0), SV.int IntKind.i64 (IE.var 1), SV.bool (BE.var 2), SV.int IntKind.i64 (IE.var 3), SV.bool (BE.var 4)])]
                                                            (VC.split (BE.var 35)
                                                              (VC.call 23
                                                                [SV.agg
                                                                    [SV.int IntKind.i64 (IE.var 0), SV.int IntKind.i64 (IE.var 1), SV.bool (BE.var 2), SV.int IntKind.i64 (IE.var 3),
                                                                      SV.bool (BE.var 4)],
                                                                  SV.int IntKind.i64 (IE.lit 2), SV.bool (BE.lit true), SV.int IntKind.i64 (IE.lit 1024), SV.int IntKind.i64 (IE.lit 0),
                                                                  SV.int IntKind.i64 (IE.lit 0)]
                                                                [Base.bool] (SV.bool (BE.var 36)) [] false [] [] [18, 17, 16, 15]
                                                                [(18,
                                                                    [SV.int IntKind.i64 (IE.var 10), SV.int IntKind.i64 (IE.lit 64), SV.bool (BE.var 12), SV.int IntKind.i64 (IE.var 13),
                                                                      SV.bool (BE.var 14)]),
                                                                  (17,
                                                                    [SV.int IntKind.i64 (IE.lit 4096), SV.int IntKind.i64 (IE.lit 0), SV.bool (BE.lit false), SV.int IntKind.i64 (IE.lit 0),
                                                                      SV.bool (BE.lit false)]),
                                                                  (16,
                                                                    [SV.int IntKind.i64 (IE.var 5), SV.int IntKind.i64 (IE.var 6), SV.bool (BE.lit true), SV.int IntKind.i64 (IE.var 8),
                                                                      SV.bool (BE.var 9)]),
                                                                  (15,
                                                                    [SV.int IntKind.i64 (IE.var 0), SV.int IntKind.i64 (IE.var 1), SV.bool (BE.var 2), SV.int IntKind.i64 (IE.var 3),
                                                                      SV.bool (BE.var 4)])]
                                                                (VC.split (BE.var 36)
                                                                  (VC.call 23
                                                                    [SV.agg
                                                                        [SV.int IntKind.i64 (IE.var 5), SV.int IntKind.i64 (IE.var 6), SV.bool (BE.lit true), SV.int IntKind.i64 (IE.var 8),
                                                                          SV.bool (BE.var 9)],
                                                                      SV.int IntKind.i64 (IE.lit 2), SV.bool (BE.lit false), SV.int IntKind.i64 (IE.lit 1040), SV.int IntKind.i64 (IE.lit 0),
                                                                      SV.int IntKind.i64 (IE.lit 0)]
                                                                    [Base.bool] (SV.bool (BE.var 37)) [] false [] [] [18, 17, 16, 15]
                                                                    [(18,
                                                                        [SV.int IntKind.i64 (IE.var 10), SV.int IntKind.i64 (IE.lit 64), SV.bool (BE.var 12), SV.int IntKind.i64 (IE.var 13),
                                                                          SV.bool (BE.var 14)]),
                                                                      (17,
                                                                        [SV.int IntKind.i64 (IE.lit 4096), SV.int IntKind.i64 (IE.lit 0), SV.bool (BE.lit false), SV.int IntKind.i64 (IE.lit 0),
                                                                          SV.bool (BE.lit false)]),
                                                                      (16,
                                                                        [SV.int IntKind.i64 (IE.var 5), SV.int IntKind.i64 (IE.var 6), SV.bool (BE.lit true), SV.int IntKind.i64 (IE.var 8),
                                                                          SV.bool (BE.var 9)]),
                                                                      (15,
                                                                        [SV.int IntKind.i64 (IE.var 0), SV.int IntKind.i64 (IE.var 1), SV.bool (BE.var 2), SV.int IntKind.i64 (IE.var 3),
                                                                          SV.bool (BE.var 4)])]
                                                                    (VC.split (BE.var 37)
                                                                      (VC.call 23
                                                                        [SV.agg
                                                                            [SV.int IntKind.i64 (IE.lit 4096), SV.int IntKind.i64 (IE.lit 0), SV.bool (BE.lit false), SV.int IntKind.i64 (IE.lit 0),
                                                                              SV.bool (BE.lit false)],
                                                                          SV.int IntKind.i64 (IE.lit 2), SV.bool (BE.lit true), SV.int IntKind.i64 (IE.lit 0), SV.int IntKind.i64 (IE.lit 0),
                                                                          SV.int IntKind.i64 (IE.lit 2)]
                                                                        [Base.bool] (SV.bool (BE.var 38)) [] false [] [] [18, 17, 16, 15]
                                                                        [(18,
                                                                            [SV.int IntKind.i64 (IE.var 10), SV.int IntKind.i64 (IE.lit 64), SV.bool (BE.var 12), SV.int IntKind.i64 (IE.var 13),
                                                                              SV.bool (BE.var 14)]),
                                                                          (17,
                                                                            [SV.int IntKind.i64 (IE.lit 4096), SV.int IntKind.i64 (IE.lit 0), SV.bool (BE.lit false), SV.int IntKind.i64 (IE.lit 0),
                                                                              SV.bool (BE.lit false)]),
                                                                          (16,
                                                                            [SV.int IntKind.i64 (IE.var 5), SV.int IntKind.i64 (IE.var 6), SV.bool (BE.lit true), SV.int IntKind.i64 (IE.var 8),
                                                                              SV.bool (BE.var 9)]),
                                                                          (15,
                                                                            [SV.int IntKind.i64 (IE.var 0), SV.int IntKind.i64 (IE.var 1), SV.bool (BE.var 2), SV.int IntKind.i64 (IE.var 3),
                                                                              SV.bool (BE.var 4)])]
                                                                        (VC.split (BE.var 38)
                                                                          (VC.call 18 [SV.int IntKind.i64 (IE.var 32)] [Base.int IntKind.i64] (SV.int IntKind.i64 (IE.var 39)) [] false [] []
                                                                            [18, 17, 16, 15]
                                                                            [(18,
                                                                                [SV.int IntKind.i64 (IE.var 10), SV.int IntKind.i64 (IE.lit 64), SV.bool (BE.var 12), SV.int IntKind.i64 (IE.var 13),
                                                                                  SV.bool (BE.var 14)]),
                                                                              (17,
                                                                                [SV.int IntKind.i64 (IE.lit 4096), SV.int IntKind.i64 (IE.lit 0), SV.bool (BE.lit false), SV.int IntKind.i64 (IE.lit 0),
                                                                                  SV.bool (BE.lit false)]),
                                                                              (16,
                                                                                [SV.int IntKind.i64 (IE.var 5), SV.int IntKind.i64 (IE.var 6), SV.bool (BE.lit true), SV.int IntKind.i64 (IE.var 8),
                                                                                  SV.bool (BE.var 9)]),
                                                                              (15,
                                                                                [SV.int IntKind.i64 (IE.var 0), SV.int IntKind.i64 (IE.var 1), SV.bool (BE.var 2), SV.int IntKind.i64 (IE.var 3),
                                                                                  SV.bool (BE.var 4)])]
                                                                            (VC.split (BE.eq (IE.var 39) (IE.lit 4))
                                                                              (VC.split (BE.eq (IE.len 33) (IE.lit 0))
                                                                                (VC.call 18 [SV.int IntKind.i64 (IE.var 34)] [Base.int IntKind.i64] (SV.int IntKind.i64 (IE.var 40)) [] false [] []
                                                                                  [18, 17, 16, 15]
                                                                                  [(18,
                                                                                      [SV.int IntKind.i64 (IE.var 10), SV.int IntKind.i64 (IE.lit 64), SV.bool (BE.var 12),
                                                                                        SV.int IntKind.i64 (IE.var 13), SV.bool (BE.var 14)]),
                                                                                    (17,
                                                                                      [SV.int IntKind.i64 (IE.lit 4096), SV.int IntKind.i64 (IE.lit 0), SV.bool (BE.lit false),
                                                                                        SV.int IntKind.i64 (IE.lit 0), SV.bool (BE.lit false)]),
                                                                                    (16,
                                                                                      [SV.int IntKind.i64 (IE.var 5), SV.int IntKind.i64 (IE.var 6), SV.bool (BE.lit true),
                                                                                        SV.int IntKind.i64 (IE.var 8), SV.bool (BE.var 9)]),
                                                                                    (15,
                                                                                      [SV.int IntKind.i64 (IE.var 0), SV.int IntKind.i64 (IE.var 1), SV.bool (BE.var 2), SV.int IntKind.i64 (IE.var 3),
                                                                                        SV.bool (BE.var 4)])]
                                                                                  (VC.leaf 0 [SV.bool (BE.eq (IE.var 40) (IE.lit 0))] []
                                                                                    [(18,
                                                                                        [SV.int IntKind.i64 (IE.var 10), SV.int IntKind.i64 (IE.lit 64), SV.bool (BE.var 12),
                                                                                          SV.int IntKind.i64 (IE.var 13), SV.bool (BE.var 14)]),
                                                                                      (17,
                                                                                        [SV.int IntKind.i64 (IE.lit 4096), SV.int IntKind.i64 (IE.lit 0), SV.bool (BE.lit false),
                                                                                          SV.int IntKind.i64 (IE.lit 0), SV.bool (BE.lit false)]),
                                                                                      (16,
                                                                                        [SV.int IntKind.i64 (IE.var 5), SV.int IntKind.i64 (IE.var 6), SV.bool (BE.lit true),
                                                                                          SV.int IntKind.i64 (IE.var 8), SV.bool (BE.var 9)]),
                                                                                      (15,
                                                                                        [SV.int IntKind.i64 (IE.var 0), SV.int IntKind.i64 (IE.var 1), SV.bool (BE.var 2),
                                                                                          SV.int IntKind.i64 (IE.var 3), SV.bool (BE.var 4)])]))
                                                                                (VC.leaf 0 [SV.bool (BE.lit false)] []
                                                                                  [(18,
                                                                                      [SV.int IntKind.i64 (IE.var 10), SV.int IntKind.i64 (IE.lit 64), SV.bool (BE.var 12),
                                                                                        SV.int IntKind.i64 (IE.var 13), SV.bool (BE.var 14)]),
                                                                                    (17,
                                                                                      [SV.int IntKind.i64 (IE.lit 4096), SV.int IntKind.i64 (IE.lit 0), SV.bool (BE.lit false),
                                                                                        SV.int IntKind.i64 (IE.lit 0), SV.bool (BE.lit false)]),
                                                                                    (16,
                                                                                      [SV.int IntKind.i64 (IE.var 5), SV.int IntKind.i64 (IE.var 6), SV.bool (BE.lit true),
                                                                                        SV.int IntKind.i64 (IE.var 8), SV.bool (BE.var 9)]),
                                                                                    (15,
                                                                                      [SV.int IntKind.i64 (IE.var 0), SV.int IntKind.i64 (IE.var 1), SV.bool (BE.var 2), SV.int IntKind.i64 (IE.var 3),
                                                                                        SV.bool (BE.var 4)])]))
                                                                              (VC.leaf 0 [SV.bool (BE.lit false)] []
                                                                                [(18,
                                                                                    [SV.int IntKind.i64 (IE.var 10), SV.int IntKind.i64 (IE.lit 64), SV.bool (BE.var 12),
                                                                                      SV.int IntKind.i64 (IE.var 13), SV.bool (BE.var 14)]),
                                                                                  (17,
                                                                                    [SV.int IntKind.i64 (IE.lit 4096), SV.int IntKind.i64 (IE.lit 0), SV.bool (BE.lit false),
                                                                                      SV.int IntKind.i64 (IE.lit 0), SV.bool (BE.lit false)]),
                                                                                  (16,
                                                                                    [SV.int IntKind.i64 (IE.var 5), SV.int IntKind.i64 (IE.var 6), SV.bool (BE.lit true), SV.int IntKind.i64 (IE.var 8),
                                                                                      SV.bool (BE.var 9)]),
                                                                                  (15,
                                                                                    [SV.int IntKind.i64 (IE.var 0), SV.int IntKind.i64 (IE.var 1), SV.bool (BE.var 2), SV.int IntKind.i64 (IE.var 3),
                                                                                      SV.bool (BE.var 4)])])))
                                                                          (VC.leaf 0 [SV.bool (BE.lit false)] []
                                                                            [(18,
                                                                                [SV.int IntKind.i64 (IE.var 10), SV.int IntKind.i64 (IE.lit 64), SV.bool (BE.var 12), SV.int IntKind.i64 (IE.var 13),
                                                                                  SV.bool (BE.var 14)]),
                                                                              (17,
                                                                                [SV.int IntKind.i64 (IE.lit 4096), SV.int IntKind.i64 (IE.lit 0), SV.bool (BE.lit false), SV.int IntKind.i64 (IE.lit 0),
                                                                                  SV.bool (BE.lit false)]),
                                                                              (16,
                                                                                [SV.int IntKind.i64 (IE.var 5), SV.int IntKind.i64 (IE.var 6), SV.bool (BE.lit true), SV.int IntKind.i64 (IE.var 8),
                                                                                  SV.bool (BE.var 9)]),
                                                                              (15,
                                                                                [SV.int IntKind.i64 (IE.var 0), SV.int IntKind.i64 (IE.var 1), SV.bool (BE.var 2), SV.int IntKind.i64 (IE.var 3),
                                                                                  SV.bool (BE.var 4)])])))
                                                                      (VC.leaf 0 [SV.bool (BE.lit false)] []
                                                                        [(18,
                                                                            [SV.int IntKind.i64 (IE.var 10), SV.int IntKind.i64 (IE.lit 64), SV.bool (BE.var 12), SV.int IntKind.i64 (IE.var 13),
                                                                              SV.bool (BE.var 14)]),
                                                                          (17,
                                                                            [SV.int IntKind.i64 (IE.lit 4096), SV.int IntKind.i64 (IE.lit 0), SV.bool (BE.lit false), SV.int IntKind.i64 (IE.lit 0),
                                                                              SV.bool (BE.lit false)]),
                                                                          (16,
                                                                            [SV.int IntKind.i64 (IE.var 5), SV.int IntKind.i64 (IE.var 6), SV.bool (BE.lit true), SV.int IntKind.i64 (IE.var 8),
                                                                              SV.bool (BE.var 9)]),
                                                                          (15,
                                                                            [SV.int IntKind.i64 (IE.var 0), SV.int IntKind.i64 (IE.var 1), SV.bool (BE.var 2), SV.int IntKind.i64 (IE.var 3),
                                                                              SV.bool (BE.var 4)])])))
                                                                  (VC.leaf 0 [SV.bool (BE.lit false)] []
                                                                    [(18,
                                                                        [SV.int IntKind.i64 (IE.var 10), SV.int IntKind.i64 (IE.lit 64), SV.bool (BE.var 12), SV.int IntKind.i64 (IE.var 13),
                                                                          SV.bool (BE.var 14)]),
                                                                      (17,
                                                                        [SV.int IntKind.i64 (IE.lit 4096), SV.int IntKind.i64 (IE.lit 0), SV.bool (BE.lit false), SV.int IntKind.i64 (IE.lit 0),
                                                                          SV.bool (BE.lit false)]),
                                                                      (16,
                                                                        [SV.int IntKind.i64 (IE.var 5), SV.int IntKind.i64 (IE.var 6), SV.bool (BE.lit true), SV.int IntKind.i64 (IE.var 8),
                                                                          SV.bool (BE.var 9)]),
                                                                      (15,
                                                                        [SV.int IntKind.i64 (IE.var 0), SV.int IntKind.i64 (IE.var 1), SV.bool (BE.var 2), SV.int IntKind.i64 (IE.var 3),
                                                                          SV.bool (BE.var 4)])])))
                                                              (VC.leaf 0 [SV.bool (BE.lit false)] []
                                                                [(18,
                                                                    [SV.int IntKind.i64 (IE.var 10), SV.int IntKind.i64 (IE.lit 64), SV.bool (BE.var 12), SV.int IntKind.i64 (IE.var 13),
                                                                      SV.bool (BE.var 14)]),
                                                                  (17,
                                                                    [SV.int IntKind.i64 (IE.lit 4096), SV.int IntKind.i64 (IE.lit 0), SV.bool (BE.lit false), SV.int IntKind.i64 (IE.lit 0),
                                                                      SV.bool (BE.lit false)]),
                                                                  (16,
                                                                    [SV.int IntKind.i64 (IE.var 5), SV.int IntKind.i64 (IE.var 6), SV.bool (BE.lit true), SV.int IntKind.i64 (IE.var 8),
                                                                      SV.bool (BE.var 9)]),
                                                                  (15,
                                                                    [SV.int IntKind.i64 (IE.var 0), SV.int IntKind.i64 (IE.var 1), SV.bool (BE.var 2), SV.int IntKind.i64 (IE.var 3),
                                                                      SV.bool (BE.var 4)])]))))))))))))))))))))))))))))))) := by kernel_rfl

theorem t20 : exFn { P := Try.prog } 20 [.agg [.int .i64 (.var 0), .int .i64 (.var 1), .bool (.var 2), .int .i64 (.var 3), .bool (.var 4)], .int .i64 (.var 5), .bool (.var 6)] [.int .i64, .int .i64, .bool, .int .i64, .bool, .int .i64, .bool] [] =
  VC.blk
  (VC.call 15 [SV.agg [SV.int IntKind.i64 (IE.var 0), SV.int IntKind.i64 (IE.var 1), SV.bool (BE.var 2), SV.int IntKind.i64 (IE.var 3), SV.bool (BE.var 4)]] [Base.bool] (SV.bool (BE.var 8)) [] false
    [] [] [7] [(7, [SV.int IntKind.i64 (IE.var 0), SV.int IntKind.i64 (IE.var 1), SV.bool (BE.var 2), SV.int IntKind.i64 (IE.var 3), SV.bool (BE.var 4)])]
    (VC.split (BE.not (BE.var 8))
      (VC.leaf 0 [SV.tuple [SV.int IntKind.i64 (IE.lit 0), SV.int IntKind.i64 (IE.lit 0), SV.int IntKind.i64 (IE.lit 2)]] []
        [(7, [SV.int IntKind.i64 (IE.var 0), SV.int IntKind.i64 (IE.var 1), SV.bool (BE.var 2), SV.int IntKind.i64 (IE.var 3), SV.bool (BE.var 4)])])
      (VC.split (BE.lt (IE.var 5) (IE.lit 0))
        (VC.leaf 0 [SV.tuple [SV.int IntKind.i64 (IE.lit 0), SV.int IntKind.i64 (IE.lit 0), SV.int IntKind.i64 (IE.lit 2)]] []
          [(7, [SV.int IntKind.i64 (IE.var 0), SV.int IntKind.i64 (IE.var 1), SV.bool (BE.var 2), SV.int IntKind.i64 (IE.var 3), SV.bool (BE.var 4)])])
        (VC.split (BE.lt (IE.lit 65536) (IE.var 5))
          (VC.leaf 0 [SV.tuple [SV.int IntKind.i64 (IE.lit 0), SV.int IntKind.i64 (IE.lit 0), SV.int IntKind.i64 (IE.lit 2)]] []
            [(7, [SV.int IntKind.i64 (IE.var 0), SV.int IntKind.i64 (IE.var 1), SV.bool (BE.var 2), SV.int IntKind.i64 (IE.var 3), SV.bool (BE.var 4)])])
          (VC.split (BE.var 6)
            (VC.split (BE.eq (IE.var 3) (IE.lit 0))
              (VC.leaf 0 [SV.tuple [SV.int IntKind.i64 (IE.lit 0), SV.int IntKind.i64 (IE.lit 0), SV.int IntKind.i64 (IE.lit 2)]] []
                [(7, [SV.int IntKind.i64 (IE.var 0), SV.int IntKind.i64 (IE.var 1), SV.bool (BE.var 2), SV.int IntKind.i64 (IE.var 3), SV.bool (BE.var 4)])])
              (VC.split (BE.var 2)
                (VC.start true [] [7] [(7, [SV.int IntKind.i64 (IE.var 0), SV.int IntKind.i64 (IE.var 1), SV.bool (BE.var 2), SV.int IntKind.i64 (IE.var 3), SV.bool (BE.var 4)])]
                  (VC.call 25 [SV.agg [SV.int IntKind.i64 (IE.var 0), SV.int IntKind.i64 (IE.var 1), SV.bool (BE.var 2), SV.int IntKind.i64 (IE.var 3), SV.bool (BE.var 4)], SV.bool (BE.var 6)]
                    [Base.int IntKind.i64] (SV.int IntKind.i64 (IE.var 9)) [] true [] [] [7]
                    [(7, [SV.int IntKind.i64 (IE.var 0), SV.int IntKind.i64 (IE.var 1), SV.bool (BE.var 2), SV.int IntKind.i64 (IE.var 3), SV.bool (BE.var 4)])]
                    (VC.ob (BE.le (IE.lit (-9223372036854775808)) (IE.add (IE.var 0) (IE.var 9)))
                      (VC.ob (BE.le (IE.add (IE.var 0) (IE.var 9)) (IE.lit 9223372036854775807))
                        (VC.ob (BE.le (IE.lit (-9223372036854775808)) (IE.mul (IE.var 5) (IE.add (IE.var 0) (IE.var 9))))
                          (VC.ob (BE.le (IE.mul (IE.var 5) (IE.add (IE.var 0) (IE.var 9))) (IE.lit 9223372036854775807))
                            (VC.leaf 0 [SV.tuple [SV.int IntKind.i64 (IE.mul (IE.var 5) (IE.add (IE.var 0) (IE.var 9))), SV.int IntKind.i64 (IE.lit 0), SV.int IntKind.i64 (IE.lit 0)]] []
                              [(7, [SV.int IntKind.i64 (IE.var 0), SV.int IntKind.i64 (IE.var 1), SV.bool (BE.var 2), SV.int IntKind.i64 (IE.var 3), SV.bool (BE.var 4)])])))))))
                (VC.start true [] [7] [(7, [SV.int IntKind.i64 (IE.var 0), SV.int IntKind.i64 (IE.var 1), SV.bool (BE.var 2), SV.int IntKind.i64 (IE.var 3), SV.bool (BE.var 4)])]
                  (VC.ob (BE.le (IE.lit (-9223372036854775808)) (IE.mul (IE.var 5) (IE.var 0)))
                    (VC.ob (BE.le (IE.mul (IE.var 5) (IE.var 0)) (IE.lit 9223372036854775807))
                      (VC.call 25 [SV.agg [SV.int IntKind.i64 (IE.var 0), SV.int IntKind.i64 (IE.var 1), SV.bool (BE.var 2), SV.int IntKind.i64 (IE.var 3), SV.bool (BE.var 4)], SV.bool (BE.var 6)]
                        [Base.int IntKind.i64] (SV.int IntKind.i64 (IE.var 9)) [] true [] [] [7]
                        [(7, [SV.int IntKind.i64 (IE.var 0), SV.int IntKind.i64 (IE.var 1), SV.bool (BE.var 2), SV.int IntKind.i64 (IE.var 3), SV.bool (BE.var 4)])]
                        (VC.ob (BE.le (IE.lit (-9223372036854775808)) (IE.mul (IE.var 5) (IE.var 9)))
                          (VC.ob (BE.le (IE.mul (IE.var 5) (IE.var 9)) (IE.lit 9223372036854775807))
                            (VC.leaf 0 [SV.tuple [SV.int IntKind.i64 (IE.mul (IE.var 5) (IE.var 0)), SV.int IntKind.i64 (IE.mul (IE.var 5) (IE.var 9)), SV.int IntKind.i64 (IE.lit 0)]] []
                              [(7, [SV.int IntKind.i64 (IE.var 0), SV.int IntKind.i64 (IE.var 1), SV.bool (BE.var 2), SV.int IntKind.i64 (IE.var 3), SV.bool (BE.var 4)])])))))))))
            (VC.split (BE.var 2)
              (VC.start true [] [7] [(7, [SV.int IntKind.i64 (IE.var 0), SV.int IntKind.i64 (IE.var 1), SV.bool (BE.var 2), SV.int IntKind.i64 (IE.var 3), SV.bool (BE.var 4)])]
                (VC.call 25 [SV.agg [SV.int IntKind.i64 (IE.var 0), SV.int IntKind.i64 (IE.var 1), SV.bool (BE.var 2), SV.int IntKind.i64 (IE.var 3), SV.bool (BE.var 4)], SV.bool (BE.var 6)]
                  [Base.int IntKind.i64] (SV.int IntKind.i64 (IE.var 9)) [] true [] [] [7]
                  [(7, [SV.int IntKind.i64 (IE.var 0), SV.int IntKind.i64 (IE.var 1), SV.bool (BE.var 2), SV.int IntKind.i64 (IE.var 3), SV.bool (BE.var 4)])]
                  (VC.ob (BE.le (IE.lit (-9223372036854775808)) (IE.add (IE.var 0) (IE.var 9)))
                    (VC.ob (BE.le (IE.add (IE.var 0) (IE.var 9)) (IE.lit 9223372036854775807))
                      (VC.ob (BE.le (IE.lit (-9223372036854775808)) (IE.mul (IE.var 5) (IE.add (IE.var 0) (IE.var 9))))
                        (VC.ob (BE.le (IE.mul (IE.var 5) (IE.add (IE.var 0) (IE.var 9))) (IE.lit 9223372036854775807))
                          (VC.leaf 0 [SV.tuple [SV.int IntKind.i64 (IE.mul (IE.var 5) (IE.add (IE.var 0) (IE.var 9))), SV.int IntKind.i64 (IE.lit 0), SV.int IntKind.i64 (IE.lit 0)]] []
                            [(7, [SV.int IntKind.i64 (IE.var 0), SV.int IntKind.i64 (IE.var 1), SV.bool (BE.var 2), SV.int IntKind.i64 (IE.var 3), SV.bool (BE.var 4)])])))))))
              (VC.start true [] [7] [(7, [SV.int IntKind.i64 (IE.var 0), SV.int IntKind.i64 (IE.var 1), SV.bool (BE.var 2), SV.int IntKind.i64 (IE.var 3), SV.bool (BE.var 4)])]
                (VC.ob (BE.le (IE.lit (-9223372036854775808)) (IE.mul (IE.var 5) (IE.var 0)))
                  (VC.ob (BE.le (IE.mul (IE.var 5) (IE.var 0)) (IE.lit 9223372036854775807))
                    (VC.call 25 [SV.agg [SV.int IntKind.i64 (IE.var 0), SV.int IntKind.i64 (IE.var 1), SV.bool (BE.var 2), SV.int IntKind.i64 (IE.var 3), SV.bool (BE.var 4)], SV.bool (BE.var 6)]
                      [Base.int IntKind.i64] (SV.int IntKind.i64 (IE.var 9)) [] true [] [] [7]
                      [(7, [SV.int IntKind.i64 (IE.var 0), SV.int IntKind.i64 (IE.var 1), SV.bool (BE.var 2), SV.int IntKind.i64 (IE.var 3), SV.bool (BE.var 4)])]
                      (VC.ob (BE.le (IE.lit (-9223372036854775808)) (IE.mul (IE.var 5) (IE.var 9)))
                        (VC.ob (BE.le (IE.mul (IE.var 5) (IE.var 9)) (IE.lit 9223372036854775807))
                          (VC.leaf 0 [SV.tuple [SV.int IntKind.i64 (IE.mul (IE.var 5) (IE.var 0)), SV.int IntKind.i64 (IE.mul (IE.var 5) (IE.var 9)), SV.int IntKind.i64 (IE.lit 0)]] []
                            [(7, [SV.int IntKind.i64 (IE.var 0), SV.int IntKind.i64 (IE.var 1), SV.bool (BE.var 2), SV.int IntKind.i64 (IE.var 3), SV.bool (BE.var 4)])]))))))))))))) := by kernel_rfl

theorem t25 : exFn { P := Try.prog } 25 [.agg [.int .i64 (.var 0), .int .i64 (.var 1), .bool (.var 2), .int .i64 (.var 3), .bool (.var 4)], .bool (.var 5)] [.int .i64, .int .i64, .bool, .int .i64, .bool, .bool] [] =
  VC.blk
  (VC.split (BE.var 5)
    (VC.split (BE.eq (IE.var 1) (IE.lit 8))
      (VC.leaf 0 [SV.int IntKind.i64 (IE.lit 0)] [] [(6, [SV.int IntKind.i64 (IE.var 0), SV.int IntKind.i64 (IE.var 1), SV.bool (BE.var 2), SV.int IntKind.i64 (IE.var 3), SV.bool (BE.var 4)])])
      (VC.leaf 0 [SV.int IntKind.i64 (IE.var 1)] [] [(6, [SV.int IntKind.i64 (IE.var 0), SV.int IntKind.i64 (IE.var 1), SV.bool (BE.var 2), SV.int IntKind.i64 (IE.var 3), SV.bool (BE.var 4)])]))
    (VC.leaf 0 [SV.int IntKind.i64 (IE.var 1)] [] [(6, [SV.int IntKind.i64 (IE.var 0), SV.int IntKind.i64 (IE.var 1), SV.bool (BE.var 2), SV.int IntKind.i64 (IE.var 3), SV.bool (BE.var 4)])])) := by kernel_rfl

theorem t21 : exFn { P := Try.prog, joins := fun r => if Nat.beq r 14 then some ⟨1, [], [17]⟩ else none } 21 [.agg [.int .i64 (.var 0), .int .i64 (.var 1), .bool (.var 2), .int .i64 (.var 3), .bool (.var 4)], .int .i64 (.var 5), .bool (.var 6), .var 7, .var 8] [.int .i64, .int .i64, .bool, .int .i64, .bool, .int .i64, .bool, .slice, .slice] [] =
  VC.blk
  (VC.call 39
    [SV.agg [SV.int IntKind.i64 (IE.var 0), SV.int IntKind.i64 (IE.var 1), SV.bool (BE.var 2), SV.int IntKind.i64 (IE.var 3), SV.bool (BE.var 4)], SV.int IntKind.i64 (IE.var 5), SV.bool (BE.var 6)]
    [Base.int IntKind.i64, Base.int IntKind.i64, Base.bool, Base.int IntKind.i64, Base.bool, Base.int IntKind.i64, Base.int IntKind.i64]
    (SV.tuple
      [SV.agg [SV.int IntKind.i64 (IE.var 10), SV.int IntKind.i64 (IE.var 11), SV.bool (BE.var 12), SV.int IntKind.i64 (IE.var 13), SV.bool (BE.var 14), SV.int IntKind.i64 (IE.var 15)],
        SV.int IntKind.i64 (IE.var 16)])
    [] false [] [] [9] [(9, [SV.int IntKind.i64 (IE.var 0), SV.int IntKind.i64 (IE.var 1), SV.bool (BE.var 2), SV.int IntKind.i64 (IE.var 3), SV.bool (BE.var 4)])]
    (VC.blk
      (VC.split (BE.not (BE.eq (IE.var 16) (IE.lit 0)))
        (VC.leaf 0 [SV.tuple [SV.cst (Value.slice none 0 0), SV.int IntKind.i64 (IE.var 16)]] [17]
          [(17, [SV.int IntKind.i64 (IE.var 10), SV.int IntKind.i64 (IE.var 11), SV.bool (BE.var 12), SV.int IntKind.i64 (IE.var 13), SV.bool (BE.var 14), SV.int IntKind.i64 (IE.var 15)]),
            (9, [SV.int IntKind.i64 (IE.var 0), SV.int IntKind.i64 (IE.var 1), SV.bool (BE.var 2), SV.int IntKind.i64 (IE.var 3), SV.bool (BE.var 4)])])
        (VC.call 40
          [SV.agg [SV.int IntKind.i64 (IE.var 10), SV.int IntKind.i64 (IE.var 11), SV.bool (BE.var 12), SV.int IntKind.i64 (IE.var 13), SV.bool (BE.var 14), SV.int IntKind.i64 (IE.var 15)],
            SV.int IntKind.i64 (IE.var 5)]
          [Base.int IntKind.i64, Base.int IntKind.i64] (SV.tuple [SV.int IntKind.i64 (IE.var 18), SV.int IntKind.i64 (IE.var 19)]) [] false [17] [] [17, 9]
          [(17, [SV.int IntKind.i64 (IE.var 10), SV.int IntKind.i64 (IE.var 11), SV.bool (BE.var 12), SV.int IntKind.i64 (IE.var 13), SV.bool (BE.var 14), SV.int IntKind.i64 (IE.var 15)]),
            (9, [SV.int IntKind.i64 (IE.var 0), SV.int IntKind.i64 (IE.var 1), SV.bool (BE.var 2), SV.int IntKind.i64 (IE.var 3), SV.bool (BE.var 4)])]
          (VC.call 41 [SV.var 7, SV.int IntKind.i64 (IE.var 18)] [Base.int IntKind.i64] (SV.int IntKind.i64 (IE.var 20)) [] false [] [] [17, 9]
            [(17, [SV.int IntKind.i64 (IE.var 10), SV.int IntKind.i64 (IE.var 11), SV.bool (BE.var 12), SV.int IntKind.i64 (IE.var 13), SV.bool (BE.var 14), SV.int IntKind.i64 (IE.var 15)]),
              (9, [SV.int IntKind.i64 (IE.var 0), SV.int IntKind.i64 (IE.var 1), SV.bool (BE.var 2), SV.int IntKind.i64 (IE.var 3), SV.bool (BE.var 4)])]
            (VC.split (BE.not (BE.eq (IE.var 20) (IE.lit 0)))
              (VC.leaf 0 [SV.tuple [SV.cst (Value.slice none 0 0), SV.int IntKind.i64 (IE.var 20)]] []
                [(17, [SV.int IntKind.i64 (IE.var 10), SV.int IntKind.i64 (IE.var 11), SV.bool (BE.var 12), SV.int IntKind.i64 (IE.var 13), SV.bool (BE.var 14), SV.int IntKind.i64 (IE.var 15)]),
                  (9, [SV.int IntKind.i64 (IE.var 0), SV.int IntKind.i64 (IE.var 1), SV.bool (BE.var 2), SV.int IntKind.i64 (IE.var 3), SV.bool (BE.var 4)])])
              (VC.call 41 [SV.var 8, SV.int IntKind.i64 (IE.var 19)] [Base.int IntKind.i64] (SV.int IntKind.i64 (IE.var 21)) [] false [] [] [17, 9]
                [(17, [SV.int IntKind.i64 (IE.var 10), SV.int IntKind.i64 (IE.var 11), SV.bool (BE.var 12), SV.int IntKind.i64 (IE.var 13), SV.bool (BE.var 14), SV.int IntKind.i64 (IE.var 15)]),
                  (9, [SV.int IntKind.i64 (IE.var 0), SV.int IntKind.i64 (IE.var 1), SV.bool (BE.var 2), SV.int IntKind.i64 (IE.var 3), SV.bool (BE.var 4)])]
                (VC.split (BE.not (BE.eq (IE.var 21) (IE.lit 0)))
                  (VC.leaf 0 [SV.tuple [SV.cst (Value.slice none 0 0), SV.int IntKind.i64 (IE.var 21)]] []
                    [(17, [SV.int IntKind.i64 (IE.var 10), SV.int IntKind.i64 (IE.var 11), SV.bool (BE.var 12), SV.int IntKind.i64 (IE.var 13), SV.bool (BE.var 14), SV.int IntKind.i64 (IE.var 15)]),
                      (9, [SV.int IntKind.i64 (IE.var 0), SV.int IntKind.i64 (IE.var 1), SV.bool (BE.var 2), SV.int IntKind.i64 (IE.var 3), SV.bool (BE.var 4)])])
                  (VC.call 42 [SV.var 7] [Base.func] (SV.var 22) [] false [] [] [17, 9]
                    [(17, [SV.int IntKind.i64 (IE.var 10), SV.int IntKind.i64 (IE.var 11), SV.bool (BE.var 12), SV.int IntKind.i64 (IE.var 13), SV.bool (BE.var 14), SV.int IntKind.i64 (IE.var 15)]),
                      (9, [SV.int IntKind.i64 (IE.var 0), SV.int IntKind.i64 (IE.var 1), SV.bool (BE.var 2), SV.int IntKind.i64 (IE.var 3), SV.bool (BE.var 4)])]
                    (VC.call 42 [SV.var 8] [Base.func] (SV.var 23) [] false [] [] [17, 9]
                      [(17, [SV.int IntKind.i64 (IE.var 10), SV.int IntKind.i64 (IE.var 11), SV.bool (BE.var 12), SV.int IntKind.i64 (IE.var 13), SV.bool (BE.var 14), SV.int IntKind.i64 (IE.var 15)]),
                        (9, [SV.int IntKind.i64 (IE.var 0), SV.int IntKind.i64 (IE.var 1), SV.bool (BE.var 2), SV.int IntKind.i64 (IE.var 3), SV.bool (BE.var 4)])]
                      (VC.blk
                        (VC.blk
                          (VC.cut 1 [Base.func] [25, 24, 17, 9]
                            [(25, [SV.var 26]), (24, [SV.var 22]),
                              (17,
                                [SV.int IntKind.i64 (IE.var 10), SV.int IntKind.i64 (IE.var 11), SV.bool (BE.var 12), SV.int IntKind.i64 (IE.var 13), SV.bool (BE.var 14),
                                  SV.int IntKind.i64 (IE.var 15)]),
                              (9, [SV.int IntKind.i64 (IE.var 0), SV.int IntKind.i64 (IE.var 1), SV.bool (BE.var 2), SV.int IntKind.i64 (IE.var 3), SV.bool (BE.var 4)])]
                            (VC.split (BE.var 12)
                              (VC.leaf 1 [SV.var 22] [25, 24]
                                [(25, [SV.var 22]), (24, [SV.var 22]),
                                  (17,
                                    [SV.int IntKind.i64 (IE.var 10), SV.int IntKind.i64 (IE.var 11), SV.bool (BE.var 12), SV.int IntKind.i64 (IE.var 13), SV.bool (BE.var 14),
                                      SV.int IntKind.i64 (IE.var 15)]),
                                  (9, [SV.int IntKind.i64 (IE.var 0), SV.int IntKind.i64 (IE.var 1), SV.bool (BE.var 2), SV.int IntKind.i64 (IE.var 3), SV.bool (BE.var 4)])])
                              (VC.leaf 1 [SV.var 23] [25, 24]
                                [(25, [SV.var 23]), (24, [SV.var 22]),
                                  (17,
                                    [SV.int IntKind.i64 (IE.var 10), SV.int IntKind.i64 (IE.var 11), SV.bool (BE.var 12), SV.int IntKind.i64 (IE.var 13), SV.bool (BE.var 14),
                                      SV.int IntKind.i64 (IE.var 15)]),
                                  (9, [SV.int IntKind.i64 (IE.var 0), SV.int IntKind.i64 (IE.var 1), SV.bool (BE.var 2), SV.int IntKind.i64 (IE.var 3), SV.bool (BE.var 4)])]))
                            (VC.call 43 [SV.int IntKind.i64 (IE.var 5), SV.fn 44 [SV.ptr 24 0, SV.ptr 17 0, SV.ptr 25 0]] [Base.slice] (SV.var 27) [] false [] [] [25, 24, 17, 9]
                              [(25, [SV.var 26]), (24, [SV.var 22]),
                                (17,
                                  [SV.int IntKind.i64 (IE.var 10), SV.int IntKind.i64 (IE.var 11), SV.bool (BE.var 12), SV.int IntKind.i64 (IE.var 13), SV.bool (BE.var 14),
                                    SV.int IntKind.i64 (IE.var 15)]),
                                (9, [SV.int IntKind.i64 (IE.var 0), SV.int IntKind.i64 (IE.var 1), SV.bool (BE.var 2), SV.int IntKind.i64 (IE.var 3), SV.bool (BE.var 4)])]
                              (VC.leaf 0 [SV.tuple [SV.var 27, SV.int IntKind.i64 (IE.lit 0)]] []
                                [(25, [SV.var 26]), (24, [SV.var 22]),
                                  (17,
                                    [SV.int IntKind.i64 (IE.var 10), SV.int IntKind.i64 (IE.var 11), SV.bool (BE.var 12), SV.int IntKind.i64 (IE.var 13), SV.bool (BE.var 14),
                                      SV.int IntKind.i64 (IE.var 15)]),
                                  (9, [SV.int IntKind.i64 (IE.var 0), SV.int IntKind.i64 (IE.var 1), SV.bool (BE.var 2), SV.int IntKind.i64 (IE.var 3), SV.bool (BE.var 4)])]))))))))))))))) := by kernel_rfl

theorem t22 : exFn { P := Try.prog, loops := fun r => if Nat.beq r 15 then some ⟨1, [(17, .int .i64), (16, .slice)], []⟩ else none, joins := fun r => if Nat.beq r 24 then some ⟨2, [], [18]⟩ else none } 22 [.agg [.int .i64 (.var 0), .int .i64 (.var 1), .bool (.var 2), .int .i64 (.var 3), .bool (.var 4)], .int .i64 (.var 5), .bool (.var 6), .var 7, .var 8] [.int .i64, .int .i64, .bool, .int .i64, .bool, .int .i64, .bool, .slice, .slice] [] =
  VC.blk
  (VC.call 20
    [SV.agg [SV.int IntKind.i64 (IE.var 0), SV.int IntKind.i64 (IE.var 1), SV.bool (BE.var 2), SV.int IntKind.i64 (IE.var 3), SV.bool (BE.var 4)], SV.int IntKind.i64 (IE.var 5), SV.bool (BE.var 6)]
    [Base.int IntKind.i64, Base.int IntKind.i64, Base.int IntKind.i64] (SV.tuple [SV.int IntKind.i64 (IE.var 10), SV.int IntKind.i64 (IE.var 11), SV.int IntKind.i64 (IE.var 12)]) [] false [] [] [9]
    [(9, [SV.int IntKind.i64 (IE.var 0), SV.int IntKind.i64 (IE.var 1), SV.bool (BE.var 2), SV.int IntKind.i64 (IE.var 3), SV.bool (BE.var 4)])]
    (VC.split (BE.not (BE.eq (IE.var 12) (IE.lit 0)))
      (VC.leaf 0 [SV.tuple [SV.cst (Value.slice none 0 0), SV.int IntKind.i64 (IE.var 12)]] []
        [(9, [SV.int IntKind.i64 (IE.var 0), SV.int IntKind.i64 (IE.var 1), SV.bool (BE.var 2), SV.int IntKind.i64 (IE.var 3), SV.bool (BE.var 4)])])
      (VC.split (BE.lt (IE.len 7) (IE.var 10))
        (VC.leaf 0 [SV.tuple [SV.cst (Value.slice none 0 0), SV.int IntKind.i64 (IE.lit 4)]] []
          [(9, [SV.int IntKind.i64 (IE.var 0), SV.int IntKind.i64 (IE.var 1), SV.bool (BE.var 2), SV.int IntKind.i64 (IE.var 3), SV.bool (BE.var 4)])])
        (VC.split (BE.lt (IE.var 10) (IE.len 7))
          (VC.leaf 0 [SV.tuple [SV.cst (Value.slice none 0 0), SV.int IntKind.i64 (IE.lit 5)]] []
            [(9, [SV.int IntKind.i64 (IE.var 0), SV.int IntKind.i64 (IE.var 1), SV.bool (BE.var 2), SV.int IntKind.i64 (IE.var 3), SV.bool (BE.var 4)])])
          (VC.split (BE.lt (IE.len 8) (IE.var 11))
            (VC.leaf 0 [SV.tuple [SV.cst (Value.slice none 0 0), SV.int IntKind.i64 (IE.lit 4)]] []
              [(9, [SV.int IntKind.i64 (IE.var 0), SV.int IntKind.i64 (IE.var 1), SV.bool (BE.var 2), SV.int IntKind.i64 (IE.var 3), SV.bool (BE.var 4)])])
            (VC.split (BE.lt (IE.var 11) (IE.len 8))
              (VC.leaf 0 [SV.tuple [SV.cst (Value.slice none 0 0), SV.int IntKind.i64 (IE.lit 5)]] []
                [(9, [SV.int IntKind.i64 (IE.var 0), SV.int IntKind.i64 (IE.var 1), SV.bool (BE.var 2), SV.int IntKind.i64 (IE.var 3), SV.bool (BE.var 4)])])
              (VC.call 25 [SV.agg [SV.int IntKind.i64 (IE.var 0), SV.int IntKind.i64 (IE.var 1), SV.bool (BE.var 2), SV.int IntKind.i64 (IE.var 3), SV.bool (BE.var 4)], SV.bool (BE.var 6)]
                [Base.int IntKind.i64] (SV.int IntKind.i64 (IE.var 13)) [] false [] [] [9]
                [(9, [SV.int IntKind.i64 (IE.var 0), SV.int IntKind.i64 (IE.var 1), SV.bool (BE.var 2), SV.int IntKind.i64 (IE.var 3), SV.bool (BE.var 4)])]
                (VC.loop 1 [SV.int IntKind.i64 (IE.lit 0), SV.cst (Value.slice none 0 0)] [Base.int IntKind.i64, Base.slice] [] [9]
                  [(9, [SV.int IntKind.i64 (IE.var 0), SV.int IntKind.i64 (IE.var 1), SV.bool (BE.var 2), SV.int IntKind.i64 (IE.var 3), SV.bool (BE.var 4)])]
                  [(9, [SV.int IntKind.i64 (IE.var 0), SV.int IntKind.i64 (IE.var 1), SV.bool (BE.var 2), SV.int IntKind.i64 (IE.var 3), SV.bool (BE.var 4)])]
                  (VC.split (BE.lt (IE.var 14) (IE.var 5))
                    (VC.gen (Op.makeSlice 40 (Operand.tmp 61) (Operand.tmp 61)) 40 [(Operand.tmp 61, SV.int IntKind.i64 (IE.var 1)), (Operand.tmp 61, SV.int IntKind.i64 (IE.var 1))] [Base.slice]
                      (SV.var 16) [] false [] [] [9] [(9, [SV.int IntKind.i64 (IE.var 0), SV.int IntKind.i64 (IE.var 1), SV.bool (BE.var 2), SV.int IntKind.i64 (IE.var 3), SV.bool (BE.var 4)])]
                      (VC.blk
                        (VC.cut 2 [Base.slice, Base.slice] [17, 9]
                          [(17, [SV.var 18, SV.var 19]), (9, [SV.int IntKind.i64 (IE.var 0), SV.int IntKind.i64 (IE.var 1), SV.bool (BE.var 2), SV.int IntKind.i64 (IE.var 3), SV.bool (BE.var 4)])]
                          (VC.split (BE.var 2)
                            (VC.ob (BE.le (IE.lit (-9223372036854775808)) (IE.add (IE.var 0) (IE.var 13)))
                              (VC.ob (BE.le (IE.add (IE.var 0) (IE.var 13)) (IE.lit 9223372036854775807))
                                (VC.ob (BE.le (IE.lit (-9223372036854775808)) (IE.mul (IE.var 14) (IE.add (IE.var 0) (IE.var 13))))
                                  (VC.ob (BE.le (IE.mul (IE.var 14) (IE.add (IE.var 0) (IE.var 13))) (IE.lit 9223372036854775807))
                                    (VC.start true [17] [17, 9]
                                      [(17, [SV.cst (Value.slice none 0 0), SV.var 16]),
                                        (9, [SV.int IntKind.i64 (IE.var 0), SV.int IntKind.i64 (IE.var 1), SV.bool (BE.var 2), SV.int IntKind.i64 (IE.var 3), SV.bool (BE.var 4)])]
                                      (VC.ob (BE.le (IE.lit (-9223372036854775808)) (IE.add (IE.mul (IE.var 14) (IE.add (IE.var 0) (IE.var 13))) (IE.var 0)))
                                        (VC.ob (BE.le (IE.add (IE.mul (IE.var 14) (IE.add (IE.var 0) (IE.var 13))) (IE.var 0)) (IE.lit 9223372036854775807))
                                          (VC.pur (Op.slice 40 (Operand.tmp 74) (some (Operand.tmp 75)) (some (Operand.tmp 79)) none) 40
                                            [(Operand.tmp 74, SV.var 7), (Operand.tmp 75, SV.int IntKind.i64 (IE.mul (IE.var 14) (IE.add (IE.var 0) (IE.var 13)))),
                                              (Operand.tmp 79, SV.int IntKind.i64 (IE.add (IE.mul (IE.var 14) (IE.add (IE.var 0) (IE.var 13))) (IE.var 0)))]
                                            [Base.slice] (SV.var 18)
                                            (VC.gen (Op.call { callee := Callee.builtin Builtin.append, args := #[Operand.tmp 73, Operand.tmp 80], argTypes := #[40, 40] }) 40
                                              [(Operand.tmp 73, SV.cst (Value.slice none 0 0)), (Operand.tmp 80, SV.var 18)] [Base.slice] (SV.var 19) [] true [] [] [17, 9]
                                              [(17, [SV.cst (Value.slice none 0 0), SV.var 16]),
                                                (9, [SV.int IntKind.i64 (IE.var 0), SV.int IntKind.i64 (IE.var 1), SV.bool (BE.var 2), SV.int IntKind.i64 (IE.var 3), SV.bool (BE.var 4)])]
                                              (VC.start true [17] [17, 9]
                                                [(17, [SV.var 19, SV.var 16]),
                                                  (9, [SV.int IntKind.i64 (IE.var 0), SV.int IntKind.i64 (IE.var 1), SV.bool (BE.var 2), SV.int IntKind.i64 (IE.var 3), SV.bool (BE.var 4)])]
                                                (VC.ob (BE.le (IE.lit (-9223372036854775808)) (IE.add (IE.mul (IE.var 14) (IE.add (IE.var 0) (IE.var 13))) (IE.var 0)))
                                                  (VC.ob (BE.le (IE.add (IE.mul (IE.var 14) (IE.add (IE.var 0) (IE.var 13))) (IE.var 0)) (IE.lit 9223372036854775807))
                                                    (VC.ob (BE.le (IE.lit (-9223372036854775808)) (IE.add (IE.mul (IE.var 14) (IE.add (IE.var 0) (IE.var 13))) (IE.var 0)))
                                                      (VC.ob (BE.le (IE.add (IE.mul (IE.var 14) (IE.add (IE.var 0) (IE.var 13))) (IE.var 0)) (IE.lit 9223372036854775807))
                                                        (VC.ob (BE.le (IE.lit (-9223372036854775808)) (IE.add (IE.add (IE.mul (IE.var 14) (IE.add (IE.var 0) (IE.var 13))) (IE.var 0)) (IE.var 13)))
                                                          (VC.ob (BE.le (IE.add (IE.add (IE.mul (IE.var 14) (IE.add (IE.var 0) (IE.var 13))) (IE.var 0)) (IE.var 13)) (IE.lit 9223372036854775807))
                                                            (VC.pur (Op.slice 40 (Operand.tmp 85) (some (Operand.tmp 89)) (some (Operand.tmp 95)) none) 40
                                                              [(Operand.tmp 85, SV.var 7),
                                                                (Operand.tmp 89, SV.int IntKind.i64 (IE.add (IE.mul (IE.var 14) (IE.add (IE.var 0) (IE.var 13))) (IE.var 0))),
                                                                (Operand.tmp 95, SV.int IntKind.i64 (IE.add (IE.add (IE.mul (IE.var 14) (IE.add (IE.var 0) (IE.var 13))) (IE.var 0)) (IE.var 13)))]
                                                              [Base.slice] (SV.var 20)
                                                              (VC.gen (Op.call { callee := Callee.builtin Builtin.copy, args := #[Operand.tmp 84, Operand.tmp 96], argTypes := #[40, 40] }) 3
                                                                [(Operand.tmp 84, SV.var 16), (Operand.tmp 96, SV.var 20)] [Base.int IntKind.i64] (SV.int IntKind.i64 (IE.var 21)) [] true [] [] [17, 9]
                                                                [(17, [SV.var 19, SV.var 16]),
                                                                  (9,
                                                                    [SV.int IntKind.i64 (IE.var 0), SV.int IntKind.i64 (IE.var 1), SV.bool (BE.var 2), SV.int IntKind.i64 (IE.var 3),
                                                                      SV.bool (BE.var 4)])]
                                                                (VC.leaf 2 [SV.var 19, SV.var 16] []
                                                                  [(17, [SV.var 19, SV.var 16]),
                                                                    (9,
                                                                      [SV.int IntKind.i64 (IE.var 0), SV.int IntKind.i64 (IE.var 1), SV.bool (BE.var 2), SV.int IntKind.i64 (IE.var 3),
                                                                        SV.bool (BE.var 4)])])))))))))))))))))))
                            (VC.start true [17] [17, 9]
                              [(17, [SV.cst (Value.slice none 0 0), SV.var 16]),
                                (9, [SV.int IntKind.i64 (IE.var 0), SV.int IntKind.i64 (IE.var 1), SV.bool (BE.var 2), SV.int IntKind.i64 (IE.var 3), SV.bool (BE.var 4)])]
                              (VC.ob (BE.le (IE.lit (-9223372036854775808)) (IE.mul (IE.var 14) (IE.var 0)))
                                (VC.ob (BE.le (IE.mul (IE.var 14) (IE.var 0)) (IE.lit 9223372036854775807))
                                  (VC.ob (BE.le (IE.lit (-9223372036854775808)) (IE.add (IE.var 14) (IE.lit 1)))
                                    (VC.ob (BE.le (IE.add (IE.var 14) (IE.lit 1)) (IE.lit 9223372036854775807))
                                      (VC.ob (BE.le (IE.lit (-9223372036854775808)) (IE.mul (IE.add (IE.var 14) (IE.lit 1)) (IE.var 0)))
                                        (VC.ob (BE.le (IE.mul (IE.add (IE.var 14) (IE.lit 1)) (IE.var 0)) (IE.lit 9223372036854775807))
                                          (VC.pur (Op.slice 40 (Operand.tmp 100) (some (Operand.tmp 104)) (some (Operand.tmp 109)) none) 40
                                            [(Operand.tmp 100, SV.var 7), (Operand.tmp 104, SV.int IntKind.i64 (IE.mul (IE.var 14) (IE.var 0))),
                                              (Operand.tmp 109, SV.int IntKind.i64 (IE.mul (IE.add (IE.var 14) (IE.lit 1)) (IE.var 0)))]
                                            [Base.slice] (SV.var 18)
                                            (VC.gen (Op.call { callee := Callee.builtin Builtin.append, args := #[Operand.tmp 99, Operand.tmp 110], argTypes := #[40, 40] }) 40
                                              [(Operand.tmp 99, SV.cst (Value.slice none 0 0)), (Operand.tmp 110, SV.var 18)] [Base.slice] (SV.var 19) [] true [] [] [17, 9]
                                              [(17, [SV.cst (Value.slice none 0 0), SV.var 16]),
                                                (9, [SV.int IntKind.i64 (IE.var 0), SV.int IntKind.i64 (IE.var 1), SV.bool (BE.var 2), SV.int IntKind.i64 (IE.var 3), SV.bool (BE.var 4)])]
                                              (VC.start true [17] [17, 9]
                                                [(17, [SV.var 19, SV.var 16]),
                                                  (9, [SV.int IntKind.i64 (IE.var 0), SV.int IntKind.i64 (IE.var 1), SV.bool (BE.var 2), SV.int IntKind.i64 (IE.var 3), SV.bool (BE.var 4)])]
                                                (VC.ob (BE.le (IE.lit (-9223372036854775808)) (IE.mul (IE.var 14) (IE.var 13)))
                                                  (VC.ob (BE.le (IE.mul (IE.var 14) (IE.var 13)) (IE.lit 9223372036854775807))
                                                    (VC.ob (BE.le (IE.lit (-9223372036854775808)) (IE.add (IE.var 14) (IE.lit 1)))
                                                      (VC.ob (BE.le (IE.add (IE.var 14) (IE.lit 1)) (IE.lit 9223372036854775807))
                                                        (VC.ob (BE.le (IE.lit (-9223372036854775808)) (IE.mul (IE.add (IE.var 14) (IE.lit 1)) (IE.var 13)))
                                                          (VC.ob (BE.le (IE.mul (IE.add (IE.var 14) (IE.lit 1)) (IE.var 13)) (IE.lit 9223372036854775807))
                                                            (VC.pur (Op.slice 40 (Operand.tmp 115) (some (Operand.tmp 118)) (some (Operand.tmp 122)) none) 40
                                                              [(Operand.tmp 115, SV.var 8), (Operand.tmp 118, SV.int IntKind.i64 (IE.mul (IE.var 14) (IE.var 13))),
                                                                (Operand.tmp 122, SV.int IntKind.i64 (IE.mul (IE.add (IE.var 14) (IE.lit 1)) (IE.var 13)))]
                                                              [Base.slice] (SV.var 20)
                                                              (VC.gen (Op.call { callee := Callee.builtin Builtin.copy, args := #[Operand.tmp 114, Operand.tmp 123], argTypes := #[40, 40] }) 3
                                                                [(Operand.tmp 114, SV.var 16), (Operand.tmp 123, SV.var 20)] [Base.int IntKind.i64] (SV.int IntKind.i64 (IE.var 21)) [] true [] []
                                                                [17, 9]
                                                                [(17, [SV.var 19, SV.var 16]),
                                                                  (9,
                                                                    [SV.int IntKind.i64 (IE.var 0), SV.int IntKind.i64 (IE.var 1), SV.bool (BE.var 2), SV.int IntKind.i64 (IE.var 3),
                                                                      SV.bool (BE.var 4)])]
                                                                (VC.leaf 2 [SV.var 19, SV.var 16] []
                                                                  [(17, [SV.var 19, SV.var 16]),
                                                                    (9,
                                                                      [SV.int IntKind.i64 (IE.var 0), SV.int IntKind.i64 (IE.var 1), SV.bool (BE.var 2), SV.int IntKind.i64 (IE.var 3),
                                                                        SV.bool (BE.var 4)])]))))))))))))))))))))
                          (VC.blk
                            (VC.gen (Op.call { callee := Callee.builtin Builtin.append, args := #[Operand.tmp 125, Operand.tmp 127], argTypes := #[42, 42] }) 42
                              [(Operand.tmp 125, SV.var 15), (Operand.tmp 127, SV.slc 20 0 1 1)] [Base.slice] (SV.var 21) [] false [] [] [20, 17, 9]
                              [(20, [SV.var 18, SV.var 19]), (17, [SV.var 18, SV.var 19]),
                                (9, [SV.int IntKind.i64 (IE.var 0), SV.int IntKind.i64 (IE.var 1), SV.bool (BE.var 2), SV.int IntKind.i64 (IE.var 3), SV.bool (BE.var 4)])]
                              (VC.ob (BE.le (IE.lit (-9223372036854775808)) (IE.add (IE.var 14) (IE.lit 1)))
                                (VC.ob (BE.le (IE.add (IE.var 14) (IE.lit 1)) (IE.lit 9223372036854775807))
                                  (VC.leaf 1 [SV.int IntKind.i64 (IE.add (IE.var 14) (IE.lit 1)), SV.var 21] []
                                    [(20, [SV.var 18, SV.var 19]), (17, [SV.var 18, SV.var 19]),
                                      (9, [SV.int IntKind.i64 (IE.var 0), SV.int IntKind.i64 (IE.var 1), SV.bool (BE.var 2), SV.int IntKind.i64 (IE.var 3), SV.bool (BE.var 4)])]))))))))
                    (VC.leaf 0 [SV.tuple [SV.var 15, SV.int IntKind.i64 (IE.lit 0)]] []
                      [(9, [SV.int IntKind.i64 (IE.var 0), SV.int IntKind.i64 (IE.var 1), SV.bool (BE.var 2), SV.int IntKind.i64 (IE.var 3), SV.bool (BE.var 4)])])))))))))) := by kernel_rfl

theorem t24 : exFn { P := Try.prog, loops := fun r => if Nat.beq r 4 then some ⟨1, [(5, .int .i64)], []⟩ else none } 24 [.var 0, .var 1] [.slice, .slice] [] =
  VC.split (BE.not (BE.eq (IE.len 0) (IE.len 1))) (VC.leaf 0 [SV.bool (BE.lit false)] [] [])
  (VC.loop 1 [SV.int IntKind.i64 (IE.lit 0)] [Base.int IntKind.i64] [] [] [] []
    (VC.split (BE.lt (IE.var 2) (IE.len 0))
      (VC.start true [] [] []
        (VC.ob (BE.le (IE.lit 0) (IE.var 2))
          (VC.ob (BE.lt (IE.var 2) (IE.len 0))
            (VC.ob (BE.not (BE.nil 0))
              (VC.load (SV.elt 0 0 (IE.var 2) 2 0) [Base.slice]
                (VC.pur (Op.convert 40 9 (Operand.tmp 21)) 9 [(Operand.tmp 21, SV.var 3)] [Base.any] (SV.var 4)
                  (VC.ob (BE.le (IE.lit 0) (IE.var 2))
                    (VC.ob (BE.lt (IE.var 2) (IE.len 1))
                      (VC.ob (BE.not (BE.nil 1))
                        (VC.load (SV.elt 1 0 (IE.var 2) 2 0) [Base.slice]
                          (VC.pur (Op.convert 40 9 (Operand.tmp 27)) 9 [(Operand.tmp 27, SV.var 5)] [Base.any] (SV.var 6)
                            (VC.pur (Op.binOp BinOp.neq 9 (Operand.tmp 22) (Operand.tmp 28) 9) 4 [(Operand.tmp 22, SV.var 4), (Operand.tmp 28, SV.var 6)] [Base.bool] (SV.bool (BE.var 7))
                              (VC.split (BE.var 7) (VC.leaf 0 [SV.bool (BE.lit false)] [] [])
                                (VC.ob (BE.le (IE.lit 0) (IE.var 2))
                                  (VC.ob (BE.lt (IE.var 2) (IE.len 0))
                                    (VC.load (SV.elt 0 0 (IE.var 2) 2 1) [Base.slice]
                                      (VC.pur (Op.convert 40 9 (Operand.tmp 35)) 9 [(Operand.tmp 35, SV.var 8)] [Base.any] (SV.var 9)
                                        (VC.ob (BE.le (IE.lit 0) (IE.var 2))
                                          (VC.ob (BE.lt (IE.var 2) (IE.len 1))
                                            (VC.load (SV.elt 1 0 (IE.var 2) 2 1) [Base.slice]
                                              (VC.pur (Op.convert 40 9 (Operand.tmp 41)) 9 [(Operand.tmp 41, SV.var 10)] [Base.any] (SV.var 11)
                                                (VC.pur (Op.binOp BinOp.neq 9 (Operand.tmp 36) (Operand.tmp 42) 9) 4 [(Operand.tmp 36, SV.var 9), (Operand.tmp 42, SV.var 11)] [Base.bool]
                                                  (SV.bool (BE.var 12))
                                                  (VC.split (BE.var 12) (VC.leaf 0 [SV.bool (BE.lit false)] [] [])
                                                    (VC.ob (BE.le (IE.lit (-9223372036854775808)) (IE.add (IE.var 2) (IE.lit 1)))
                                                      (VC.ob (BE.le (IE.add (IE.var 2) (IE.lit 1)) (IE.lit 9223372036854775807))
                                                        (VC.leaf 1 [SV.int IntKind.i64 (IE.add (IE.var 2) (IE.lit 1))] [] []))))))))))))))))))))))))))
      (VC.leaf 0 [SV.bool (BE.lit true)] [] []))) := by kernel_rfl

theorem t26 : exFn { P := Try.prog } 26 [.agg [.int .i64 (.var 0), .int .i64 (.var 1), .bool (.var 2), .int .i64 (.var 3), .bool (.var 4)], .int .i64 (.var 5), .int .i64 (.var 6)] [.int .i64, .int .i64, .bool, .int .i64, .bool, .int .i64, .int .i64] [] =
  VC.blk
  (VC.blk
    (VC.blk
      (VC.leaf 0 [SV.fn 47 [SV.ptr 7 0, SV.ptr 8 0, SV.ptr 9 0]] []
        [(9, [SV.int IntKind.i64 (IE.var 6)]), (8, [SV.int IntKind.i64 (IE.var 5)]),
          (7, [SV.int IntKind.i64 (IE.var 0), SV.int IntKind.i64 (IE.var 1), SV.bool (BE.var 2), SV.int IntKind.i64 (IE.var 3), SV.bool (BE.var 4)])]))) := by kernel_rfl

theorem t27 : exFn { P := Try.prog, loops := fun r => if Nat.beq r 2 then some ⟨1, [(3, .int .i64)], []⟩ else none } 27 [.var 0] [.slice] [] =
  VC.loop 1 [SV.int IntKind.i64 (IE.lit 0)] [Base.int IntKind.i64] [] [] [] []
  (VC.split (BE.lt (IE.var 1) (IE.len 0))
    (VC.ob (BE.le (IE.lit 0) (IE.var 1))
      (VC.ob (BE.lt (IE.var 1) (IE.len 0))
        (VC.ob (BE.not (BE.nil 0))
          (VC.start false [] [] []
            (VC.load (SV.elt 0 0 (IE.var 1) 2 0) [Base.slice]
              (VC.split (BE.lt (IE.lit 5000) (IE.len 2)) (VC.leaf 0 [SV.bool (BE.lit false)] [] [])
                (VC.ob (BE.le (IE.lit 0) (IE.var 1))
                  (VC.ob (BE.lt (IE.var 1) (IE.len 0))
                    (VC.start false [] [] []
                      (VC.load (SV.elt 0 0 (IE.var 1) 2 1) [Base.slice]
                        (VC.split (BE.lt (IE.lit 100) (IE.len 3)) (VC.leaf 0 [SV.bool (BE.lit false)] [] [])
                          (VC.ob (BE.le (IE.lit (-9223372036854775808)) (IE.add (IE.var 1) (IE.lit 1)))
                            (VC.ob (BE.le (IE.add (IE.var 1) (IE.lit 1)) (IE.lit 9223372036854775807)) (VC.leaf 1 [SV.int IntKind.i64 (IE.add (IE.var 1) (IE.lit 1))] [] []))))))))))))))
    (VC.leaf 0 [SV.bool (BE.le (IE.len 0) (IE.lit 20))] [] [])) := by kernel_rfl

theorem t28 : exFn { P := Try.prog, loops := fun r => if Nat.beq r 8 then some ⟨1, [(34, .int .i64)], [6, 7]⟩ else none } 28 [.agg [.int .i64 (.var 0), .int .i64 (.var 1), .bool (.var 2), .int .i64 (.var 3), .bool (.var 4)], .bool (.var 5), .var 6] [.int .i64, .int .i64, .bool, .int .i64, .bool, .bool, .slice] [] =
  VC.blk
  (VC.blk
    (VC.blk
      (VC.call 39
        [SV.agg [SV.int IntKind.i64 (IE.var 0), SV.int IntKind.i64 (IE.var 1), SV.bool (BE.var 2), SV.int IntKind.i64 (IE.var 3), SV.bool (BE.var 4)], SV.int IntKind.i64 (IE.len 6),
          SV.bool (BE.var 5)]
        [Base.int IntKind.i64, Base.int IntKind.i64, Base.bool, Base.int IntKind.i64, Base.bool, Base.int IntKind.i64, Base.int IntKind.i64]
        (SV.tuple
          [SV.agg [SV.int IntKind.i64 (IE.var 10), SV.int IntKind.i64 (IE.var 11), SV.bool (BE.var 12), SV.int IntKind.i64 (IE.var 13), SV.bool (BE.var 14), SV.int IntKind.i64 (IE.var 15)],
            SV.int IntKind.i64 (IE.var 16)])
        [] false [] [] [9, 8, 7]
        [(9, [SV.cst (Value.slice none 0 0)]), (8, [SV.cst (Value.slice none 0 0)]),
          (7, [SV.int IntKind.i64 (IE.var 0), SV.int IntKind.i64 (IE.var 1), SV.bool (BE.var 2), SV.int IntKind.i64 (IE.var 3), SV.bool (BE.var 4)])]
        (VC.blk
          (VC.split (BE.not (BE.eq (IE.var 16) (IE.lit 0)))
            (VC.leaf 0 [SV.tuple [SV.cst (Value.slice none 0 0), SV.cst (Value.slice none 0 0), SV.int IntKind.i64 (IE.lit 2)]] [9, 8, 17]
              [(17, [SV.int IntKind.i64 (IE.var 10), SV.int IntKind.i64 (IE.var 11), SV.bool (BE.var 12), SV.int IntKind.i64 (IE.var 13), SV.bool (BE.var 14), SV.int IntKind.i64 (IE.var 15)]),
                (9, [SV.cst (Value.slice none 0 0)]), (8, [SV.cst (Value.slice none 0 0)]),
                (7, [SV.int IntKind.i64 (IE.var 0), SV.int IntKind.i64 (IE.var 1), SV.bool (BE.var 2), SV.int IntKind.i64 (IE.var 3), SV.bool (BE.var 4)])])
            (VC.call 48 [SV.agg [SV.int IntKind.i64 (IE.var 0), SV.int IntKind.i64 (IE.var 1), SV.bool (BE.var 2), SV.int IntKind.i64 (IE.var 3), SV.bool (BE.var 4)], SV.var 6] [Base.bool]
              (SV.bool (BE.var 18)) [] false [17] [] [17, 9, 8, 7]
              [(17, [SV.int IntKind.i64 (IE.var 10), SV.int IntKind.i64 (IE.var 11), SV.bool (BE.var 12), SV.int IntKind.i64 (IE.var 13), SV.bool (BE.var 14), SV.int IntKind.i64 (IE.var 15)]),
                (9, [SV.cst (Value.slice none 0 0)]), (8, [SV.cst (Value.slice none 0 0)]),
                (7, [SV.int IntKind.i64 (IE.var 0), SV.int IntKind.i64 (IE.var 1), SV.bool (BE.var 2), SV.int IntKind.i64 (IE.var 3), SV.bool (BE.var 4)])]
              (VC.split (BE.not (BE.var 18))
                (VC.leaf 0 [SV.tuple [SV.cst (Value.slice none 0 0), SV.cst (Value.slice none 0 0), SV.int IntKind.i64 (IE.lit 2)]] [9, 8]
                  [(17, [SV.int IntKind.i64 (IE.var 10), SV.int IntKind.i64 (IE.var 11), SV.bool (BE.var 12), SV.int IntKind.i64 (IE.var 13), SV.bool (BE.var 14), SV.int IntKind.i64 (IE.var 15)]),
                    (9, [SV.cst (Value.slice none 0 0)]), (8, [SV.cst (Value.slice none 0 0)]),
                    (7, [SV.int IntKind.i64 (IE.var 0), SV.int IntKind.i64 (IE.var 1), SV.bool (BE.var 2), SV.int IntKind.i64 (IE.var 3), SV.bool (BE.var 4)])])
                (VC.split (BE.var 12)
                  (VC.loop 1 [SV.int IntKind.i64 (IE.lit 0), SV.cst (Value.slice none 0 0), SV.cst (Value.slice none 0 0)] [Base.int IntKind.i64, Base.slice, Base.slice] [] [17, 9, 8, 7]
                    [(17, [SV.int IntKind.i64 (IE.var 10), SV.int IntKind.i64 (IE.var 11), SV.bool (BE.var 12), SV.int IntKind.i64 (IE.var 13), SV.bool (BE.var 14), SV.int IntKind.i64 (IE.var 15)]),
                      (9, [SV.cst (Value.slice none 0 0)]), (8, [SV.cst (Value.slice none 0 0)]),
                      (7, [SV.int IntKind.i64 (IE.var 0), SV.int IntKind.i64 (IE.var 1), SV.bool (BE.var 2), SV.int IntKind.i64 (IE.var 3), SV.bool (BE.var 4)])]
                    [(17, [SV.int IntKind.i64 (IE.var 10), SV.int IntKind.i64 (IE.var 11), SV.bool (BE.var 12), SV.int IntKind.i64 (IE.var 13), SV.bool (BE.var 14), SV.int IntKind.i64 (IE.var 15)]),
                      (9, [SV.var 21]), (8, [SV.var 20]), (7, [SV.int IntKind.i64 (IE.var 0), SV.int IntKind.i64 (IE.var 1), SV.bool (BE.var 2), SV.int IntKind.i64 (IE.var 3), SV.bool (BE.var 4)])]
                    (VC.split (BE.lt (IE.var 19) (IE.len 6))
                      (VC.ob (BE.le (IE.lit 0) (IE.var 19))
                        (VC.ob (BE.lt (IE.var 19) (IE.len 6))
                          (VC.ob (BE.not (BE.nil 6))
                            (VC.start false [] []
                              [(17,
                                  [SV.int IntKind.i64 (IE.var 10), SV.int IntKind.i64 (IE.var 11), SV.bool (BE.var 12), SV.int IntKind.i64 (IE.var 13), SV.bool (BE.var 14),
                                    SV.int IntKind.i64 (IE.var 15)]),
                                (9, [SV.var 21]), (8, [SV.var 20]),
                                (7, [SV.int IntKind.i64 (IE.var 0), SV.int IntKind.i64 (IE.var 1), SV.bool (BE.var 2), SV.int IntKind.i64 (IE.var 3), SV.bool (BE.var 4)])]
                              (VC.load (SV.elt 6 0 (IE.var 19) 2 0) [Base.slice, Base.slice]
                                (VC.blk
                                  (VC.gen (Op.call { callee := Callee.builtin Builtin.append, args := #[Operand.tmp 38, Operand.tmp 40], argTypes := #[40, 40] }) 40
                                    [(Operand.tmp 38, SV.var 20), (Operand.tmp 40, SV.var 22)] [Base.slice] (SV.var 25) [] false [24] [] [24, 17, 9, 8, 7]
                                    [(24, [SV.var 22, SV.var 23]),
                                      (17,
                                        [SV.int IntKind.i64 (IE.var 10), SV.int IntKind.i64 (IE.var 11), SV.bool (BE.var 12), SV.int IntKind.i64 (IE.var 13), SV.bool (BE.var 14),
                                          SV.int IntKind.i64 (IE.var 15)]),
                                      (9, [SV.var 21]), (8, [SV.var 20]),
                                      (7, [SV.int IntKind.i64 (IE.var 0), SV.int IntKind.i64 (IE.var 1), SV.bool (BE.var 2), SV.int IntKind.i64 (IE.var 3), SV.bool (BE.var 4)])]
                                    (VC.start true [8] [24, 17, 9, 8, 7]
                                      [(24, [SV.var 22, SV.var 23]),
                                        (17,
                                          [SV.int IntKind.i64 (IE.var 10), SV.int IntKind.i64 (IE.var 11), SV.bool (BE.var 12), SV.int IntKind.i64 (IE.var 13), SV.bool (BE.var 14),
                                            SV.int IntKind.i64 (IE.var 15)]),
                                        (9, [SV.var 21]), (8, [SV.var 25]),
                                        (7, [SV.int IntKind.i64 (IE.var 0), SV.int IntKind.i64 (IE.var 1), SV.bool (BE.var 2), SV.int IntKind.i64 (IE.var 3), SV.bool (BE.var 4)])]
                                      (VC.pur (Op.slice 40 (Operand.tmp 47) none (some (Operand.tmp 49)) none) 40 [(Operand.tmp 47, SV.var 23), (Operand.tmp 49, SV.int IntKind.i64 (IE.var 15))]
                                        [Base.slice] (SV.var 26)
                                        (VC.gen (Op.call { callee := Callee.builtin Builtin.append, args := #[Operand.tmp 45, Operand.tmp 50], argTypes := #[40, 40] }) 40
                                          [(Operand.tmp 45, SV.var 25), (Operand.tmp 50, SV.var 26)] [Base.slice] (SV.var 27) [] true [] [] [24, 17, 9, 8, 7]
                                          [(24, [SV.var 22, SV.var 23]),
                                            (17,
                                              [SV.int IntKind.i64 (IE.var 10), SV.int IntKind.i64 (IE.var 11), SV.bool (BE.var 12), SV.int IntKind.i64 (IE.var 13), SV.bool (BE.var 14),
                                                SV.int IntKind.i64 (IE.var 15)]),
                                            (9, [SV.var 21]), (8, [SV.var 25]),
                                            (7, [SV.int IntKind.i64 (IE.var 0), SV.int IntKind.i64 (IE.var 1), SV.bool (BE.var 2), SV.int IntKind.i64 (IE.var 3), SV.bool (BE.var 4)])]
                                          (VC.ob (BE.le (IE.lit (-9223372036854775808)) (IE.add (IE.var 19) (IE.lit 1)))
                                            (VC.ob (BE.le (IE.add (IE.var 19) (IE.lit 1)) (IE.lit 9223372036854775807))
                                              (VC.leaf 1 [SV.int IntKind.i64 (IE.add (IE.var 19) (IE.lit 1)), SV.var 27, SV.var 21] [8]
                                                [(24, [SV.var 22, SV.var 23]),
                                                  (17,
                                                    [SV.int IntKind.i64 (IE.var 10), SV.int IntKind.i64 (IE.var 11), SV.bool (BE.var 12), SV.int IntKind.i64 (IE.var 13), SV.bool (BE.var 14),
                                                      SV.int IntKind.i64 (IE.var 15)]),
                                                  (9, [SV.var 21]), (8, [SV.var 27]),
                                                  (7,
                                                    [SV.int IntKind.i64 (IE.var 0), SV.int IntKind.i64 (IE.var 1), SV.bool (BE.var 2), SV.int IntKind.i64 (IE.var 3), SV.bool (BE.var 4)])])))))))))))))
                      (VC.leaf 0 [SV.tuple [SV.var 20, SV.var 21, SV.int IntKind.i64 (IE.lit 0)]] [9, 8]
                        [(17,
                            [SV.int IntKind.i64 (IE.var 10), SV.int IntKind.i64 (IE.var 11), SV.bool (BE.var 12), SV.int IntKind.i64 (IE.var 13), SV.bool (BE.var 14), SV.int IntKind.i64 (IE.var 15)]),
                          (9, [SV.var 21]), (8, [SV.var 20]),
                          (7, [SV.int IntKind.i64 (IE.var 0), SV.int IntKind.i64 (IE.var 1), SV.bool (BE.var 2), SV.int IntKind.i64 (IE.var 3), SV.bool (BE.var 4)])])))
                  (VC.loop 1 [SV.int IntKind.i64 (IE.lit 0), SV.cst (Value.slice none 0 0), SV.cst (Value.slice none 0 0)] [Base.int IntKind.i64, Base.slice, Base.slice] [] [17, 9, 8, 7]
                    [(17, [SV.int IntKind.i64 (IE.var 10), SV.int IntKind.i64 (IE.var 11), SV.bool (BE.var 12), SV.int IntKind.i64 (IE.var 13), SV.bool (BE.var 14), SV.int IntKind.i64 (IE.var 15)]),
                      (9, [SV.cst (Value.slice none 0 0)]), (8, [SV.cst (Value.slice none 0 0)]),
                      (7, [SV.int IntKind.i64 (IE.var 0), SV.int IntKind.i64 (IE.var 1), SV.bool (BE.var 2), SV.int IntKind.i64 (IE.var 3), SV.bool (BE.var 4)])]
                    [(17, [SV.int IntKind.i64 (IE.var 10), SV.int IntKind.i64 (IE.var 11), SV.bool (BE.var 12), SV.int IntKind.i64 (IE.var 13), SV.bool (BE.var 14), SV.int IntKind.i64 (IE.var 15)]),
                      (9, [SV.var 21]), (8, [SV.var 20]), (7, [SV.int IntKind.i64 (IE.var 0), SV.int IntKind.i64 (IE.var 1), SV.bool (BE.var 2), SV.int IntKind.i64 (IE.var 3), SV.bool (BE.var 4)])]
                    (VC.split (BE.lt (IE.var 19) (IE.len 6))
                      (VC.ob (BE.le (IE.lit 0) (IE.var 19))
                        (VC.ob (BE.lt (IE.var 19) (IE.len 6))
                          (VC.ob (BE.not (BE.nil 6))
                            (VC.start false [] []
                              [(17,
                                  [SV.int IntKind.i64 (IE.var 10), SV.int IntKind.i64 (IE.var 11), SV.bool (BE.var 12), SV.int IntKind.i64 (IE.var 13), SV.bool (BE.var 14),
                                    SV.int IntKind.i64 (IE.var 15)]),
                                (9, [SV.var 21]), (8, [SV.var 20]),
                                (7, [SV.int IntKind.i64 (IE.var 0), SV.int IntKind.i64 (IE.var 1), SV.bool (BE.var 2), SV.int IntKind.i64 (IE.var 3), SV.bool (BE.var 4)])]
                              (VC.load (SV.elt 6 0 (IE.var 19) 2 0) [Base.slice, Base.slice]
                                (VC.blk
                                  (VC.gen (Op.call { callee := Callee.builtin Builtin.append, args := #[Operand.tmp 38, Operand.tmp 40], argTypes := #[40, 40] }) 40
                                    [(Operand.tmp 38, SV.var 20), (Operand.tmp 40, SV.var 22)] [Base.slice] (SV.var 25) [] false [24] [] [24, 17, 9, 8, 7]
                                    [(24, [SV.var 22, SV.var 23]),
                                      (17,
                                        [SV.int IntKind.i64 (IE.var 10), SV.int IntKind.i64 (IE.var 11), SV.bool (BE.var 12), SV.int IntKind.i64 (IE.var 13), SV.bool (BE.var 14),
                                          SV.int IntKind.i64 (IE.var 15)]),
                                      (9, [SV.var 21]), (8, [SV.var 20]),
                                      (7, [SV.int IntKind.i64 (IE.var 0), SV.int IntKind.i64 (IE.var 1), SV.bool (BE.var 2), SV.int IntKind.i64 (IE.var 3), SV.bool (BE.var 4)])]
                                    (VC.start true [8] [24, 17, 9, 8, 7]
                                      [(24, [SV.var 22, SV.var 23]),
                                        (17,
                                          [SV.int IntKind.i64 (IE.var 10), SV.int IntKind.i64 (IE.var 11), SV.bool (BE.var 12), SV.int IntKind.i64 (IE.var 13), SV.bool (BE.var 14),
                                            SV.int IntKind.i64 (IE.var 15)]),
                                        (9, [SV.var 21]), (8, [SV.var 25]),
                                        (7, [SV.int IntKind.i64 (IE.var 0), SV.int IntKind.i64 (IE.var 1), SV.bool (BE.var 2), SV.int IntKind.i64 (IE.var 3), SV.bool (BE.var 4)])]
                                      (VC.pur (Op.slice 40 (Operand.tmp 47) none (some (Operand.tmp 49)) none) 40 [(Operand.tmp 47, SV.var 23), (Operand.tmp 49, SV.int IntKind.i64 (IE.var 15))]
                                        [Base.slice] (SV.var 26)
                                        (VC.gen (Op.call { callee := Callee.builtin Builtin.append, args := #[Operand.tmp 45, Operand.tmp 50], argTypes := #[40, 40] }) 40
                                          [(Operand.tmp 45, SV.var 21), (Operand.tmp 50, SV.var 26)] [Base.slice] (SV.var 27) [] true [] [] [24, 17, 9, 8, 7]
                                          [(24, [SV.var 22, SV.var 23]),
                                            (17,
                                              [SV.int IntKind.i64 (IE.var 10), SV.int IntKind.i64 (IE.var 11), SV.bool (BE.var 12), SV.int IntKind.i64 (IE.var 13), SV.bool (BE.var 14),
                                                SV.int IntKind.i64 (IE.var 15)]),
                                            (9, [SV.var 21]), (8, [SV.var 25]),
                                            (7, [SV.int IntKind.i64 (IE.var 0), SV.int IntKind.i64 (IE.var 1), SV.bool (BE.var 2), SV.int IntKind.i64 (IE.var 3), SV.bool (BE.var 4)])]
                                          (VC.ob (BE.le (IE.lit (-9223372036854775808)) (IE.add (IE.var 19) (IE.lit 1)))
                                            (VC.ob (BE.le (IE.add (IE.var 19) (IE.lit 1)) (IE.lit 9223372036854775807))
                                              (VC.leaf 1 [SV.int IntKind.i64 (IE.add (IE.var 19) (IE.lit 1)), SV.var 25, SV.var 27] [9]
                                                [(24, [SV.var 22, SV.var 23]),
                                                  (17,
                                                    [SV.int IntKind.i64 (IE.var 10), SV.int IntKind.i64 (IE.var 11), SV.bool (BE.var 12), SV.int IntKind.i64 (IE.var 13), SV.bool (BE.var 14),
                                                      SV.int IntKind.i64 (IE.var 15)]),
                                                  (9, [SV.var 27]), (8, [SV.var 25]),
                                                  (7,
                                                    [SV.int IntKind.i64 (IE.var 0), SV.int IntKind.i64 (IE.var 1), SV.bool (BE.var 2), SV.int IntKind.i64 (IE.var 3), SV.bool (BE.var 4)])])))))))))))))
                      (VC.leaf 0 [SV.tuple [SV.var 20, SV.var 21, SV.int IntKind.i64 (IE.lit 0)]] [9, 8]
                        [(17,
                            [SV.int IntKind.i64 (IE.var 10), SV.int IntKind.i64 (IE.var 11), SV.bool (BE.var 12), SV.int IntKind.i64 (IE.var 13), SV.bool (BE.var 14), SV.int IntKind.i64 (IE.var 15)]),
                          (9, [SV.var 21]), (8, [SV.var 20]),
                          (7, [SV.int IntKind.i64 (IE.var 0), SV.int IntKind.i64 (IE.var 1), SV.bool (BE.var 2), SV.int IntKind.i64 (IE.var 3), SV.bool (BE.var 4)])]))))))))))) := by kernel_rfl

theorem t29 : exFn { P := Try.prog, loops := fun r => if Nat.beq r 6 then some ⟨1, [(14, .int .i64), (12, .slice), (13, .slice)], []⟩ else none } 29 [.agg [.int .i64 (.var 0), .int .i64 (.var 1), .bool (.var 2), .int .i64 (.var 3), .bool (.var 4)], .bool (.var 5), .var 6] [.int .i64, .int .i64, .bool, .int .i64, .bool, .bool, .slice] [] =
  VC.blk
  (VC.call 20
    [SV.agg [SV.int IntKind.i64 (IE.var 0), SV.int IntKind.i64 (IE.var 1), SV.bool (BE.var 2), SV.int IntKind.i64 (IE.var 3), SV.bool (BE.var 4)], SV.int IntKind.i64 (IE.len 6), SV.bool (BE.var 5)]
    [Base.int IntKind.i64, Base.int IntKind.i64, Base.int IntKind.i64] (SV.tuple [SV.int IntKind.i64 (IE.var 8), SV.int IntKind.i64 (IE.var 9), SV.int IntKind.i64 (IE.var 10)]) [] false [] [] [7]
    [(7, [SV.int IntKind.i64 (IE.var 0), SV.int IntKind.i64 (IE.var 1), SV.bool (BE.var 2), SV.int IntKind.i64 (IE.var 3), SV.bool (BE.var 4)])]
    (VC.split (BE.not (BE.eq (IE.var 10) (IE.lit 0)))
      (VC.leaf 0 [SV.tuple [SV.cst (Value.slice none 0 0), SV.cst (Value.slice none 0 0), SV.int IntKind.i64 (IE.lit 2)]] []
        [(7, [SV.int IntKind.i64 (IE.var 0), SV.int IntKind.i64 (IE.var 1), SV.bool (BE.var 2), SV.int IntKind.i64 (IE.var 3), SV.bool (BE.var 4)])])
      (VC.call 49 [SV.agg [SV.int IntKind.i64 (IE.var 0), SV.int IntKind.i64 (IE.var 1), SV.bool (BE.var 2), SV.int IntKind.i64 (IE.var 3), SV.bool (BE.var 4)], SV.var 6] [Base.bool]
        (SV.bool (BE.var 11)) [] false [] [] [7] [(7, [SV.int IntKind.i64 (IE.var 0), SV.int IntKind.i64 (IE.var 1), SV.bool (BE.var 2), SV.int IntKind.i64 (IE.var 3), SV.bool (BE.var 4)])]
        (VC.split (BE.not (BE.var 11))
          (VC.leaf 0 [SV.tuple [SV.cst (Value.slice none 0 0), SV.cst (Value.slice none 0 0), SV.int IntKind.i64 (IE.lit 2)]] []
            [(7, [SV.int IntKind.i64 (IE.var 0), SV.int IntKind.i64 (IE.var 1), SV.bool (BE.var 2), SV.int IntKind.i64 (IE.var 3), SV.bool (BE.var 4)])])
          (VC.loop 1 [SV.int IntKind.i64 (IE.lit 0), SV.cst (Value.slice none 0 0), SV.cst (Value.slice none 0 0)] [Base.int IntKind.i64, Base.slice, Base.slice] [] [7]
            [(7, [SV.int IntKind.i64 (IE.var 0), SV.int IntKind.i64 (IE.var 1), SV.bool (BE.var 2), SV.int IntKind.i64 (IE.var 3), SV.bool (BE.var 4)])]
            [(7, [SV.int IntKind.i64 (IE.var 0), SV.int IntKind.i64 (IE.var 1), SV.bool (BE.var 2), SV.int IntKind.i64 (IE.var 3), SV.bool (BE.var 4)])]
            (VC.split (BE.lt (IE.var 12) (IE.len 6))
              (VC.ob (BE.le (IE.lit 0) (IE.var 12))
                (VC.ob (BE.lt (IE.var 12) (IE.len 6))
                  (VC.ob (BE.not (BE.nil 6))
                    (VC.start false [] [] [(7, [SV.int IntKind.i64 (IE.var 0), SV.int IntKind.i64 (IE.var 1), SV.bool (BE.var 2), SV.int IntKind.i64 (IE.var 3), SV.bool (BE.var 4)])]
                      (VC.load (SV.elt 6 0 (IE.var 12) 2 0) [Base.slice]
                        (VC.gen (Op.call { callee := Callee.builtin Builtin.append, args := #[Operand.tmp 39, Operand.tmp 44], argTypes := #[40, 40] }) 40
                          [(Operand.tmp 39, SV.var 13), (Operand.tmp 44, SV.var 15)] [Base.slice] (SV.var 16) [] false [] [] [7]
                          [(7, [SV.int IntKind.i64 (IE.var 0), SV.int IntKind.i64 (IE.var 1), SV.bool (BE.var 2), SV.int IntKind.i64 (IE.var 3), SV.bool (BE.var 4)])]
                          (VC.start true [] [7] [(7, [SV.int IntKind.i64 (IE.var 0), SV.int IntKind.i64 (IE.var 1), SV.bool (BE.var 2), SV.int IntKind.i64 (IE.var 3), SV.bool (BE.var 4)])]
                            (VC.ob (BE.le (IE.lit 0) (IE.var 12))
                              (VC.ob (BE.lt (IE.var 12) (IE.len 6))
                                (VC.load (SV.elt 6 0 (IE.var 12) 2 1) [Base.slice]
                                  (VC.call 25
                                    [SV.agg [SV.int IntKind.i64 (IE.var 0), SV.int IntKind.i64 (IE.var 1), SV.bool (BE.var 2), SV.int IntKind.i64 (IE.var 3), SV.bool (BE.var 4)], SV.bool (BE.var 5)]
                                    [Base.int IntKind.i64] (SV.int IntKind.i64 (IE.var 18)) [] true [] [] [7]
                                    [(7, [SV.int IntKind.i64 (IE.var 0), SV.int IntKind.i64 (IE.var 1), SV.bool (BE.var 2), SV.int IntKind.i64 (IE.var 3), SV.bool (BE.var 4)])]
                                    (VC.pur (Op.slice 40 (Operand.tmp 50) none (some (Operand.tmp 53)) none) 40 [(Operand.tmp 50, SV.var 17), (Operand.tmp 53, SV.int IntKind.i64 (IE.var 18))]
                                      [Base.slice] (SV.var 19)
                                      (VC.split (BE.var 2)
                                        (VC.gen (Op.call { callee := Callee.builtin Builtin.append, args := #[Operand.tmp 57, Operand.tmp 58], argTypes := #[40, 40] }) 40
                                          [(Operand.tmp 57, SV.var 16), (Operand.tmp 58, SV.var 19)] [Base.slice] (SV.var 20) [] false [] [] [7]
                                          [(7, [SV.int IntKind.i64 (IE.var 0), SV.int IntKind.i64 (IE.var 1), SV.bool (BE.var 2), SV.int IntKind.i64 (IE.var 3), SV.bool (BE.var 4)])]
                                          (VC.ob (BE.le (IE.lit (-9223372036854775808)) (IE.add (IE.var 12) (IE.lit 1)))
                                            (VC.ob (BE.le (IE.add (IE.var 12) (IE.lit 1)) (IE.lit 9223372036854775807))
                                              (VC.leaf 1 [SV.int IntKind.i64 (IE.add (IE.var 12) (IE.lit 1)), SV.var 20, SV.var 14] []
                                                [(7, [SV.int IntKind.i64 (IE.var 0), SV.int IntKind.i64 (IE.var 1), SV.bool (BE.var 2), SV.int IntKind.i64 (IE.var 3), SV.bool (BE.var 4)])]))))
                                        (VC.gen (Op.call { callee := Callee.builtin Builtin.append, args := #[Operand.tmp 60, Operand.tmp 61], argTypes := #[40, 40] }) 40
                                          [(Operand.tmp 60, SV.var 14), (Operand.tmp 61, SV.var 19)] [Base.slice] (SV.var 20) [] false [] [] [7]
                                          [(7, [SV.int IntKind.i64 (IE.var 0), SV.int IntKind.i64 (IE.var 1), SV.bool (BE.var 2), SV.int IntKind.i64 (IE.var 3), SV.bool (BE.var 4)])]
                                          (VC.ob (BE.le (IE.lit (-9223372036854775808)) (IE.add (IE.var 12) (IE.lit 1)))
                                            (VC.ob (BE.le (IE.add (IE.var 12) (IE.lit 1)) (IE.lit 9223372036854775807))
                                              (VC.leaf 1 [SV.int IntKind.i64 (IE.add (IE.var 12) (IE.lit 1)), SV.var 16, SV.var 20] []
                                                [(7,
                                                    [SV.int IntKind.i64 (IE.var 0), SV.int IntKind.i64 (IE.var 1), SV.bool (BE.var 2), SV.int IntKind.i64 (IE.var 3),
                                                      SV.bool (BE.var 4)])])))))))))))))))))
              (VC.leaf 0 [SV.tuple [SV.var 13, SV.var 14, SV.int IntKind.i64 (IE.lit 0)]] []
                [(7, [SV.int IntKind.i64 (IE.var 0), SV.int IntKind.i64 (IE.var 1), SV.bool (BE.var 2), SV.int IntKind.i64 (IE.var 3), SV.bool (BE.var 4)])]))))))) := by kernel_rfl

theorem t30 : exFn { P := Try.prog, loops := fun r => if Nat.beq r 5 then some ⟨1, [(25, .int .i64), (6, .slice)], []⟩ else none } 30 [.agg [.int .i64 (.var 0), .int .i64 (.var 1), .bool (.var 2), .int .i64 (.var 3), .bool (.var 4)], .var 5] [.int .i64, .int .i64, .bool, .int .i64, .bool, .slice] [] =
  VC.blk
  (VC.start true [] [6] [(6, [SV.int IntKind.i64 (IE.var 0), SV.int IntKind.i64 (IE.var 1), SV.bool (BE.var 2), SV.int IntKind.i64 (IE.var 3), SV.bool (BE.var 4)])]
    (VC.call 14 [SV.agg [SV.int IntKind.i64 (IE.var 0), SV.int IntKind.i64 (IE.var 1), SV.bool (BE.var 2), SV.int IntKind.i64 (IE.var 3), SV.bool (BE.var 4)]] [Base.bool] (SV.bool (BE.var 7)) [] true
      [] [] [6] [(6, [SV.int IntKind.i64 (IE.var 0), SV.int IntKind.i64 (IE.var 1), SV.bool (BE.var 2), SV.int IntKind.i64 (IE.var 3), SV.bool (BE.var 4)])]
      (VC.call 16 [SV.agg [SV.int IntKind.i64 (IE.var 0), SV.int IntKind.i64 (IE.var 1), SV.bool (BE.var 2), SV.int IntKind.i64 (IE.var 3), SV.bool (BE.var 4)]] [Base.int IntKind.i64]
        (SV.int IntKind.i64 (IE.var 8)) [] true [] [] [6] [(6, [SV.int IntKind.i64 (IE.var 0), SV.int IntKind.i64 (IE.var 1), SV.bool (BE.var 2), SV.int IntKind.i64 (IE.var 3), SV.bool (BE.var 4)])]
        (VC.call 48 [SV.agg [SV.int IntKind.i64 (IE.var 0), SV.int IntKind.i64 (IE.var 1), SV.bool (BE.var 2), SV.int IntKind.i64 (IE.var 3), SV.bool (BE.var 4)], SV.var 5] [Base.bool]
          (SV.bool (BE.var 9)) [] true [] [] [6] [(6, [SV.int IntKind.i64 (IE.var 0), SV.int IntKind.i64 (IE.var 1), SV.bool (BE.var 2), SV.int IntKind.i64 (IE.var 3), SV.bool (BE.var 4)])]
          (VC.blk
            (VC.call 34 [SV.slc 10 0 3 3] [Base.bool] (SV.bool (BE.var 11)) [] true [] [] [10, 6]
              [(10, [SV.bool (BE.var 7), SV.bool (BE.le (IE.len 5) (IE.var 8)), SV.bool (BE.var 9)]),
                (6, [SV.int IntKind.i64 (IE.var 0), SV.int IntKind.i64 (IE.var 1), SV.bool (BE.var 2), SV.int IntKind.i64 (IE.var 3), SV.bool (BE.var 4)])]
              (VC.split (BE.not (BE.var 11))
                (VC.leaf 0 [SV.tuple [SV.cst (Value.slice none 0 0), SV.int IntKind.i64 (IE.lit 2)]] []
                  [(10, [SV.bool (BE.var 7), SV.bool (BE.le (IE.len 5) (IE.var 8)), SV.bool (BE.var 9)]),
                    (6, [SV.int IntKind.i64 (IE.var 0), SV.int IntKind.i64 (IE.var 1), SV.bool (BE.var 2), SV.int IntKind.i64 (IE.var 3), SV.bool (BE.var 4)])])
                (VC.gen (Op.makeSlice 40 (Operand.const (Value.int IntKind.i64 0)) (Operand.const (Value.int IntKind.i64 4160))) 40
                  [(Operand.const (Value.int IntKind.i64 0), SV.int IntKind.i64 (IE.lit 0)), (Operand.const (Value.int IntKind.i64 4160), SV.int IntKind.i64 (IE.lit 4160))] [Base.slice] (SV.var 12) []
                  false [] [] [10, 6]
                  [(10, [SV.bool (BE.var 7), SV.bool (BE.le (IE.len 5) (IE.var 8)), SV.bool (BE.var 9)]),
                    (6, [SV.int IntKind.i64 (IE.var 0), SV.int IntKind.i64 (IE.var 1), SV.bool (BE.var 2), SV.int IntKind.i64 (IE.var 3), SV.bool (BE.var 4)])]
                  (VC.loop 1 [SV.int IntKind.i64 (IE.lit 0), SV.var 12] [Base.int IntKind.i64, Base.slice] [] [10, 6]
                    [(10, [SV.bool (BE.var 7), SV.bool (BE.le (IE.len 5) (IE.var 8)), SV.bool (BE.var 9)]),
                      (6, [SV.int IntKind.i64 (IE.var 0), SV.int IntKind.i64 (IE.var 1), SV.bool (BE.var 2), SV.int IntKind.i64 (IE.var 3), SV.bool (BE.var 4)])]
                    [(10, [SV.bool (BE.var 7), SV.bool (BE.le (IE.len 5) (IE.var 8)), SV.bool (BE.var 9)]),
                      (6, [SV.int IntKind.i64 (IE.var 0), SV.int IntKind.i64 (IE.var 1), SV.bool (BE.var 2), SV.int IntKind.i64 (IE.var 3), SV.bool (BE.var 4)])]
                    (VC.split (BE.lt (IE.var 13) (IE.len 5))
                      (VC.ob (BE.le (IE.lit 0) (IE.var 13))
                        (VC.ob (BE.lt (IE.var 13) (IE.len 5))
                          (VC.ob (BE.not (BE.nil 5))
                            (VC.start false [] []
                              [(10, [SV.bool (BE.var 7), SV.bool (BE.le (IE.len 5) (IE.var 8)), SV.bool (BE.var 9)]),
                                (6, [SV.int IntKind.i64 (IE.var 0), SV.int IntKind.i64 (IE.var 1), SV.bool (BE.var 2), SV.int IntKind.i64 (IE.var 3), SV.bool (BE.var 4)])]
                              (VC.load (SV.elt 5 0 (IE.var 13) 2 0) [Base.slice, Base.slice]
                                (VC.blk
                                  (VC.start true [17] [17, 10, 6]
                                    [(17, [SV.var 15, SV.var 16]), (10, [SV.bool (BE.var 7), SV.bool (BE.le (IE.len 5) (IE.var 8)), SV.bool (BE.var 9)]),
                                      (6, [SV.int IntKind.i64 (IE.var 0), SV.int IntKind.i64 (IE.var 1), SV.bool (BE.var 2), SV.int IntKind.i64 (IE.var 3), SV.bool (BE.var 4)])]
                                    (VC.gen (Op.call { callee := Callee.builtin Builtin.append, args := #[Operand.tmp 29, Operand.tmp 31], argTypes := #[40, 40] }) 40
                                      [(Operand.tmp 29, SV.var 14), (Operand.tmp 31, SV.var 15)] [Base.slice] (SV.var 18) [] true [] [] [17, 10, 6]
                                      [(17, [SV.var 15, SV.var 16]), (10, [SV.bool (BE.var 7), SV.bool (BE.le (IE.len 5) (IE.var 8)), SV.bool (BE.var 9)]),
                                        (6, [SV.int IntKind.i64 (IE.var 0), SV.int IntKind.i64 (IE.var 1), SV.bool (BE.var 2), SV.int IntKind.i64 (IE.var 3), SV.bool (BE.var 4)])]
                                      (VC.gen (Op.call { callee := Callee.builtin Builtin.append, args := #[Operand.tmp 32, Operand.tmp 34], argTypes := #[40, 40] }) 40
                                        [(Operand.tmp 32, SV.var 18), (Operand.tmp 34, SV.var 16)] [Base.slice] (SV.var 19) [] true [] [] [17, 10, 6]
                                        [(17, [SV.var 15, SV.var 16]), (10, [SV.bool (BE.var 7), SV.bool (BE.le (IE.len 5) (IE.var 8)), SV.bool (BE.var 9)]),
                                          (6, [SV.int IntKind.i64 (IE.var 0), SV.int IntKind.i64 (IE.var 1), SV.bool (BE.var 2), SV.int IntKind.i64 (IE.var 3), SV.bool (BE.var 4)])]
                                        (VC.ob (BE.le (IE.lit (-9223372036854775808)) (IE.add (IE.var 13) (IE.lit 1)))
                                          (VC.ob (BE.le (IE.add (IE.var 13) (IE.lit 1)) (IE.lit 9223372036854775807))
                                            (VC.leaf 1 [SV.int IntKind.i64 (IE.add (IE.var 13) (IE.lit 1)), SV.var 19] []
                                              [(17, [SV.var 15, SV.var 16]), (10, [SV.bool (BE.var 7), SV.bool (BE.le (IE.len 5) (IE.var 8)), SV.bool (BE.var 9)]),
                                                (6, [SV.int IntKind.i64 (IE.var 0), SV.int IntKind.i64 (IE.var 1), SV.bool (BE.var 2), SV.int IntKind.i64 (IE.var 3), SV.bool (BE.var 4)])]))))))))))))
                      (VC.start false [] []
                        [(10, [SV.bool (BE.var 7), SV.bool (BE.le (IE.len 5) (IE.var 8)), SV.bool (BE.var 9)]),
                          (6, [SV.int IntKind.i64 (IE.var 0), SV.int IntKind.i64 (IE.var 1), SV.bool (BE.var 2), SV.int IntKind.i64 (IE.var 3), SV.bool (BE.var 4)])]
                        (VC.pur (Op.slice 40 (Operand.tmp 37) none (some (Operand.const (Value.int IntKind.i64 4160))) none) 40
                          [(Operand.tmp 37, SV.var 14), (Operand.const (Value.int IntKind.i64 4160), SV.int IntKind.i64 (IE.lit 4160))] [Base.slice] (SV.var 15)
                          (VC.leaf 0 [SV.tuple [SV.var 15, SV.int IntKind.i64 (IE.lit 0)]] []
                            [(10, [SV.bool (BE.var 7), SV.bool (BE.le (IE.len 5) (IE.var 8)), SV.bool (BE.var 9)]),
                              (6, [SV.int IntKind.i64 (IE.var 0), SV.int IntKind.i64 (IE.var 1), SV.bool (BE.var 2), SV.int IntKind.i64 (IE.var 3), SV.bool (BE.var 4)])]))))))))))))) := by kernel_rfl

theorem t31 : exFn { P := Try.prog, loops := fun r => if Nat.beq r 5 then some ⟨1, [(7, .int .i64)], []⟩ else none } 31 [.agg [.int .i64 (.var 0), .int .i64 (.var 1), .bool (.var 2), .int .i64 (.var 3), .bool (.var 4)], .var 5] [.int .i64, .int .i64, .bool, .int .i64, .bool, .slice] [] =
  VC.blk
  (VC.call 15 [SV.agg [SV.int IntKind.i64 (IE.var 0), SV.int IntKind.i64 (IE.var 1), SV.bool (BE.var 2), SV.int IntKind.i64 (IE.var 3), SV.bool (BE.var 4)]] [Base.bool] (SV.bool (BE.var 7)) [] false
    [] [] [6] [(6, [SV.int IntKind.i64 (IE.var 0), SV.int IntKind.i64 (IE.var 1), SV.bool (BE.var 2), SV.int IntKind.i64 (IE.var 3), SV.bool (BE.var 4)])]
    (VC.split (BE.not (BE.var 7))
      (VC.leaf 0 [SV.tuple [SV.cst (Value.slice none 0 0), SV.int IntKind.i64 (IE.lit 2)]] []
        [(6, [SV.int IntKind.i64 (IE.var 0), SV.int IntKind.i64 (IE.var 1), SV.bool (BE.var 2), SV.int IntKind.i64 (IE.var 3), SV.bool (BE.var 4)])])
      (VC.call 17 [SV.agg [SV.int IntKind.i64 (IE.var 0), SV.int IntKind.i64 (IE.var 1), SV.bool (BE.var 2), SV.int IntKind.i64 (IE.var 3), SV.bool (BE.var 4)]] [Base.int IntKind.i64]
        (SV.int IntKind.i64 (IE.var 8)) [] false [] [] [6] [(6, [SV.int IntKind.i64 (IE.var 0), SV.int IntKind.i64 (IE.var 1), SV.bool (BE.var 2), SV.int IntKind.i64 (IE.var 3), SV.bool (BE.var 4)])]
        (VC.split (BE.lt (IE.var 8) (IE.len 5))
          (VC.leaf 0 [SV.tuple [SV.cst (Value.slice none 0 0), SV.int IntKind.i64 (IE.lit 2)]] []
            [(6, [SV.int IntKind.i64 (IE.var 0), SV.int IntKind.i64 (IE.var 1), SV.bool (BE.var 2), SV.int IntKind.i64 (IE.var 3), SV.bool (BE.var 4)])])
          (VC.call 49 [SV.agg [SV.int IntKind.i64 (IE.var 0), SV.int IntKind.i64 (IE.var 1), SV.bool (BE.var 2), SV.int IntKind.i64 (IE.var 3), SV.bool (BE.var 4)], SV.var 5] [Base.bool]
            (SV.bool (BE.var 9)) [] false [] [] [6] [(6, [SV.int IntKind.i64 (IE.var 0), SV.int IntKind.i64 (IE.var 1), SV.bool (BE.var 2), SV.int IntKind.i64 (IE.var 3), SV.bool (BE.var 4)])]
            (VC.split (BE.not (BE.var 9))
              (VC.leaf 0 [SV.tuple [SV.cst (Value.slice none 0 0), SV.int IntKind.i64 (IE.lit 2)]] []
                [(6, [SV.int IntKind.i64 (IE.var 0), SV.int IntKind.i64 (IE.var 1), SV.bool (BE.var 2), SV.int IntKind.i64 (IE.var 3), SV.bool (BE.var 4)])])
              (VC.gen (Op.makeSlice 40 (Operand.const (Value.int IntKind.i64 4160)) (Operand.const (Value.int IntKind.i64 4160))) 40
                [(Operand.const (Value.int IntKind.i64 4160), SV.int IntKind.i64 (IE.lit 4160)), (Operand.const (Value.int IntKind.i64 4160), SV.int IntKind.i64 (IE.lit 4160))] [Base.slice]
                (SV.var 10) [] false [] [] [6] [(6, [SV.int IntKind.i64 (IE.var 0), SV.int IntKind.i64 (IE.var 1), SV.bool (BE.var 2), SV.int IntKind.i64 (IE.var 3), SV.bool (BE.var 4)])]
                (VC.loop 1 [SV.int IntKind.i64 (IE.lit 0)] [Base.int IntKind.i64] [] [6]
                  [(6, [SV.int IntKind.i64 (IE.var 0), SV.int IntKind.i64 (IE.var 1), SV.bool (BE.var 2), SV.int IntKind.i64 (IE.var 3), SV.bool (BE.var 4)])]
                  [(6, [SV.int IntKind.i64 (IE.var 0), SV.int IntKind.i64 (IE.var 1), SV.bool (BE.var 2), SV.int IntKind.i64 (IE.var 3), SV.bool (BE.var 4)])]
                  (VC.split (BE.lt (IE.var 11) (IE.len 5))
                    (VC.ob (BE.le (IE.lit (-9223372036854775808)) (IE.add (IE.var 0) (IE.var 1)))
                      (VC.ob (BE.le (IE.add (IE.var 0) (IE.var 1)) (IE.lit 9223372036854775807))
                        (VC.ob (BE.le (IE.lit (-9223372036854775808)) (IE.mul (IE.var 11) (IE.add (IE.var 0) (IE.var 1))))
                          (VC.ob (BE.le (IE.mul (IE.var 11) (IE.add (IE.var 0) (IE.var 1))) (IE.lit 9223372036854775807))
                            (VC.start true [] [6] [(6, [SV.int IntKind.i64 (IE.var 0), SV.int IntKind.i64 (IE.var 1), SV.bool (BE.var 2), SV.int IntKind.i64 (IE.var 3), SV.bool (BE.var 4)])]
                              (VC.pur (Op.slice 40 (Operand.tmp 39) (some (Operand.tmp 40)) none none) 40
                                [(Operand.tmp 39, SV.var 10), (Operand.tmp 40, SV.int IntKind.i64 (IE.mul (IE.var 11) (IE.add (IE.var 0) (IE.var 1))))] [Base.slice] (SV.var 12)
                                (VC.ob (BE.le (IE.lit 0) (IE.var 11))
                                  (VC.ob (BE.lt (IE.var 11) (IE.len 5))
                                    (VC.ob (BE.not (BE.nil 5))
                                      (VC.load (SV.elt 5 0 (IE.var 11) 2 0) [Base.slice]
                                        (VC.gen (Op.call { callee := Callee.builtin Builtin.copy, args := #[Operand.tmp 41, Operand.tmp 46], argTypes := #[40, 40] }) 3
                                          [(Operand.tmp 41, SV.var 12), (Operand.tmp 46, SV.var 13)] [Base.int IntKind.i64] (SV.int IntKind.i64 (IE.var 14)) [] true [] [] [6]
                                          [(6, [SV.int IntKind.i64 (IE.var 0), SV.int IntKind.i64 (IE.var 1), SV.bool (BE.var 2), SV.int IntKind.i64 (IE.var 3), SV.bool (BE.var 4)])]
                                          (VC.start true [] [6]
                                            [(6, [SV.int IntKind.i64 (IE.var 0), SV.int IntKind.i64 (IE.var 1), SV.bool (BE.var 2), SV.int IntKind.i64 (IE.var 3), SV.bool (BE.var 4)])]
                                            (VC.ob (BE.le (IE.lit (-9223372036854775808)) (IE.add (IE.mul (IE.var 11) (IE.add (IE.var 0) (IE.var 1))) (IE.var 0)))
                                              (VC.ob (BE.le (IE.add (IE.mul (IE.var 11) (IE.add (IE.var 0) (IE.var 1))) (IE.var 0)) (IE.lit 9223372036854775807))
                                                (VC.pur (Op.slice 40 (Operand.tmp 48) (some (Operand.tmp 52)) none none) 40
                                                  [(Operand.tmp 48, SV.var 10), (Operand.tmp 52, SV.int IntKind.i64 (IE.add (IE.mul (IE.var 11) (IE.add (IE.var 0) (IE.var 1))) (IE.var 0)))]
                                                  [Base.slice] (SV.var 15)
                                                  (VC.ob (BE.le (IE.lit 0) (IE.var 11))
                                                    (VC.ob (BE.lt (IE.var 11) (IE.len 5))
                                                      (VC.load (SV.elt 5 0 (IE.var 11) 2 1) [Base.slice]
                                                        (VC.gen (Op.call { callee := Callee.builtin Builtin.copy, args := #[Operand.tmp 53, Operand.tmp 58], argTypes := #[40, 40] }) 3
                                                          [(Operand.tmp 53, SV.var 15), (Operand.tmp 58, SV.var 16)] [Base.int IntKind.i64] (SV.int IntKind.i64 (IE.var 17)) [] true [] [] [6]
                                                          [(6, [SV.int IntKind.i64 (IE.var 0), SV.int IntKind.i64 (IE.var 1), SV.bool (BE.var 2), SV.int IntKind.i64 (IE.var 3), SV.bool (BE.var 4)])]
                                                          (VC.ob (BE.le (IE.lit (-9223372036854775808)) (IE.add (IE.var 11) (IE.lit 1)))
                                                            (VC.ob (BE.le (IE.add (IE.var 11) (IE.lit 1)) (IE.lit 9223372036854775807))
                                                              (VC.leaf 1 [SV.int IntKind.i64 (IE.add (IE.var 11) (IE.lit 1))] []
                                                                [(6,
                                                                    [SV.int IntKind.i64 (IE.var 0), SV.int IntKind.i64 (IE.var 1), SV.bool (BE.var 2), SV.int IntKind.i64 (IE.var 3),
                                                                      SV.bool (BE.var 4)])]))))))))))))))))))))))
                    (VC.leaf 0 [SV.tuple [SV.var 10, SV.int IntKind.i64 (IE.lit 0)]] []
                      [(6, [SV.int IntKind.i64 (IE.var 0), SV.int IntKind.i64 (IE.var 1), SV.bool (BE.var 2), SV.int IntKind.i64 (IE.var 3), SV.bool (BE.var 4)])])))))))))) := by kernel_rfl

theorem t32 : exFn { P := Try.prog } 32 [.agg [.int .i64 (.var 0), .int .i64 (.var 1), .bool (.var 2), .int .i64 (.var 3), .bool (.var 4)], .var 5] [.int .i64, .int .i64, .bool, .int .i64, .bool, .slice] [] =
  VC.blk
  (VC.call 14 [SV.agg [SV.int IntKind.i64 (IE.var 0), SV.int IntKind.i64 (IE.var 1), SV.bool (BE.var 2), SV.int IntKind.i64 (IE.var 3), SV.bool (BE.var 4)]] [Base.bool] (SV.bool (BE.var 7)) [] false
    [] [] [6] [(6, [SV.int IntKind.i64 (IE.var 0), SV.int IntKind.i64 (IE.var 1), SV.bool (BE.var 2), SV.int IntKind.i64 (IE.var 3), SV.bool (BE.var 4)])]
    (VC.split (BE.not (BE.var 7))
      (VC.leaf 0 [SV.tuple [SV.cst (Value.slice none 0 0), SV.int IntKind.i64 (IE.lit 2)]] []
        [(6, [SV.int IntKind.i64 (IE.var 0), SV.int IntKind.i64 (IE.var 1), SV.bool (BE.var 2), SV.int IntKind.i64 (IE.var 3), SV.bool (BE.var 4)])])
      (VC.call 41 [SV.var 5, SV.int IntKind.i64 (IE.lit 4160)] [Base.int IntKind.i64] (SV.int IntKind.i64 (IE.var 8)) [] false [] [] [6]
        [(6, [SV.int IntKind.i64 (IE.var 0), SV.int IntKind.i64 (IE.var 1), SV.bool (BE.var 2), SV.int IntKind.i64 (IE.var 3), SV.bool (BE.var 4)])]
        (VC.split (BE.not (BE.eq (IE.var 8) (IE.lit 0)))
          (VC.leaf 0 [SV.tuple [SV.cst (Value.slice none 0 0), SV.int IntKind.i64 (IE.var 8)]] []
            [(6, [SV.int IntKind.i64 (IE.var 0), SV.int IntKind.i64 (IE.var 1), SV.bool (BE.var 2), SV.int IntKind.i64 (IE.var 3), SV.bool (BE.var 4)])])
          (VC.call 42 [SV.var 5] [Base.func] (SV.var 9) [] false [] [] [6]
            [(6, [SV.int IntKind.i64 (IE.var 0), SV.int IntKind.i64 (IE.var 1), SV.bool (BE.var 2), SV.int IntKind.i64 (IE.var 3), SV.bool (BE.var 4)])]
            (VC.blk
              (VC.call 16 [SV.agg [SV.int IntKind.i64 (IE.var 0), SV.int IntKind.i64 (IE.var 1), SV.bool (BE.var 2), SV.int IntKind.i64 (IE.var 3), SV.bool (BE.var 4)]] [Base.int IntKind.i64]
                (SV.int IntKind.i64 (IE.var 11)) [] false [10] [] [10, 6]
                [(10, [SV.var 9]), (6, [SV.int IntKind.i64 (IE.var 0), SV.int IntKind.i64 (IE.var 1), SV.bool (BE.var 2), SV.int IntKind.i64 (IE.var 3), SV.bool (BE.var 4)])]
                (VC.call 43 [SV.int IntKind.i64 (IE.var 11), SV.fn 50 [SV.ptr 10 0, SV.ptr 6 0]] [Base.slice] (SV.var 12) [] false [] [] [10, 6]
                  [(10, [SV.var 9]), (6, [SV.int IntKind.i64 (IE.var 0), SV.int IntKind.i64 (IE.var 1), SV.bool (BE.var 2), SV.int IntKind.i64 (IE.var 3), SV.bool (BE.var 4)])]
                  (VC.leaf 0 [SV.tuple [SV.var 12, SV.int IntKind.i64 (IE.lit 0)]] []
                    [(10, [SV.var 9]), (6, [SV.int IntKind.i64 (IE.var 0), SV.int IntKind.i64 (IE.var 1), SV.bool (BE.var 2), SV.int IntKind.i64 (IE.var 3), SV.bool (BE.var 4)])]))))))))) := by kernel_rfl

theorem t33 : exFn { P := Try.prog, loops := fun r => if Nat.beq r 9 then some ⟨1, [(7, .int .i64), (6, .slice)], []⟩ else none } 33 [.agg [.int .i64 (.var 0), .int .i64 (.var 1), .bool (.var 2), .int .i64 (.var 3), .bool (.var 4)], .var 5] [.int .i64, .int .i64, .bool, .int .i64, .bool, .slice] [] =
  VC.blk
  (VC.call 15 [SV.agg [SV.int IntKind.i64 (IE.var 0), SV.int IntKind.i64 (IE.var 1), SV.bool (BE.var 2), SV.int IntKind.i64 (IE.var 3), SV.bool (BE.var 4)]] [Base.bool] (SV.bool (BE.var 7)) [] false
    [] [] [6] [(6, [SV.int IntKind.i64 (IE.var 0), SV.int IntKind.i64 (IE.var 1), SV.bool (BE.var 2), SV.int IntKind.i64 (IE.var 3), SV.bool (BE.var 4)])]
    (VC.split (BE.not (BE.var 7))
      (VC.leaf 0 [SV.tuple [SV.cst (Value.slice none 0 0), SV.int IntKind.i64 (IE.lit 2)]] []
        [(6, [SV.int IntKind.i64 (IE.var 0), SV.int IntKind.i64 (IE.var 1), SV.bool (BE.var 2), SV.int IntKind.i64 (IE.var 3), SV.bool (BE.var 4)])])
      (VC.split (BE.lt (IE.len 5) (IE.lit 4160))
        (VC.leaf 0 [SV.tuple [SV.cst (Value.slice none 0 0), SV.int IntKind.i64 (IE.lit 4)]] []
          [(6, [SV.int IntKind.i64 (IE.var 0), SV.int IntKind.i64 (IE.var 1), SV.bool (BE.var 2), SV.int IntKind.i64 (IE.var 3), SV.bool (BE.var 4)])])
        (VC.split (BE.lt (IE.lit 4160) (IE.len 5))
          (VC.leaf 0 [SV.tuple [SV.cst (Value.slice none 0 0), SV.int IntKind.i64 (IE.lit 5)]] []
            [(6, [SV.int IntKind.i64 (IE.var 0), SV.int IntKind.i64 (IE.var 1), SV.bool (BE.var 2), SV.int IntKind.i64 (IE.var 3), SV.bool (BE.var 4)])])
          (VC.loop 1 [SV.int IntKind.i64 (IE.lit 0), SV.cst (Value.slice none 0 0)] [Base.int IntKind.i64, Base.slice] [] [6]
            [(6, [SV.int IntKind.i64 (IE.var 0), SV.int IntKind.i64 (IE.var 1), SV.bool (BE.var 2), SV.int IntKind.i64 (IE.var 3), SV.bool (BE.var 4)])]
            [(6, [SV.int IntKind.i64 (IE.var 0), SV.int IntKind.i64 (IE.var 1), SV.bool (BE.var 2), SV.int IntKind.i64 (IE.var 3), SV.bool (BE.var 4)])]
            (VC.call 17 [SV.agg [SV.int IntKind.i64 (IE.var 0), SV.int IntKind.i64 (IE.var 1), SV.bool (BE.var 2), SV.int IntKind.i64 (IE.var 3), SV.bool (BE.var 4)]] [Base.int IntKind.i64]
              (SV.int IntKind.i64 (IE.var 10)) [] false [] [] [6]
              [(6, [SV.int IntKind.i64 (IE.var 0), SV.int IntKind.i64 (IE.var 1), SV.bool (BE.var 2), SV.int IntKind.i64 (IE.var 3), SV.bool (BE.var 4)])]
              (VC.split (BE.lt (IE.var 8) (IE.var 10))
                (VC.ob (BE.le (IE.lit (-9223372036854775808)) (IE.add (IE.var 0) (IE.var 1)))
                  (VC.ob (BE.le (IE.add (IE.var 0) (IE.var 1)) (IE.lit 9223372036854775807))
                    (VC.ob (BE.le (IE.lit (-9223372036854775808)) (IE.mul (IE.var 8) (IE.add (IE.var 0) (IE.var 1))))
                      (VC.ob (BE.le (IE.mul (IE.var 8) (IE.add (IE.var 0) (IE.var 1))) (IE.lit 9223372036854775807))
                        (VC.start true [] [6] [(6, [SV.int IntKind.i64 (IE.var 0), SV.int IntKind.i64 (IE.var 1), SV.bool (BE.var 2), SV.int IntKind.i64 (IE.var 3), SV.bool (BE.var 4)])]
                          (VC.ob (BE.le (IE.lit (-9223372036854775808)) (IE.add (IE.mul (IE.var 8) (IE.add (IE.var 0) (IE.var 1))) (IE.var 0)))
                            (VC.ob (BE.le (IE.add (IE.mul (IE.var 8) (IE.add (IE.var 0) (IE.var 1))) (IE.var 0)) (IE.lit 9223372036854775807))
                              (VC.pur (Op.slice 40 (Operand.tmp 36) (some (Operand.tmp 37)) (some (Operand.tmp 41)) none) 40
                                [(Operand.tmp 36, SV.var 5), (Operand.tmp 37, SV.int IntKind.i64 (IE.mul (IE.var 8) (IE.add (IE.var 0) (IE.var 1)))),
                                  (Operand.tmp 41, SV.int IntKind.i64 (IE.add (IE.mul (IE.var 8) (IE.add (IE.var 0) (IE.var 1))) (IE.var 0)))]
                                [Base.slice] (SV.var 11)
                                (VC.ob (BE.le (IE.lit (-9223372036854775808)) (IE.add (IE.mul (IE.var 8) (IE.add (IE.var 0) (IE.var 1))) (IE.var 0)))
                                  (VC.ob (BE.le (IE.add (IE.mul (IE.var 8) (IE.add (IE.var 0) (IE.var 1))) (IE.var 0)) (IE.lit 9223372036854775807))
                                    (VC.ob (BE.le (IE.lit (-9223372036854775808)) (IE.add (IE.mul (IE.var 8) (IE.add (IE.var 0) (IE.var 1))) (IE.var 0)))
                                      (VC.ob (BE.le (IE.add (IE.mul (IE.var 8) (IE.add (IE.var 0) (IE.var 1))) (IE.var 0)) (IE.lit 9223372036854775807))
                                        (VC.ob (BE.le (IE.lit (-9223372036854775808)) (IE.add (IE.add (IE.mul (IE.var 8) (IE.add (IE.var 0) (IE.var 1))) (IE.var 0)) (IE.var 1)))
                                          (VC.ob (BE.le (IE.add (IE.add (IE.mul (IE.var 8) (IE.add (IE.var 0) (IE.var 1))) (IE.var 0)) (IE.var 1)) (IE.lit 9223372036854775807))
                                            (VC.pur (Op.slice 40 (Operand.tmp 45) (some (Operand.tmp 49)) (some (Operand.tmp 56)) none) 40
                                              [(Operand.tmp 45, SV.var 5), (Operand.tmp 49, SV.int IntKind.i64 (IE.add (IE.mul (IE.var 8) (IE.add (IE.var 0) (IE.var 1))) (IE.var 0))),
                                                (Operand.tmp 56, SV.int IntKind.i64 (IE.add (IE.add (IE.mul (IE.var 8) (IE.add (IE.var 0) (IE.var 1))) (IE.var 0)) (IE.var 1)))]
                                              [Base.slice] (SV.var 12)
                                              (VC.both
                                                (VC.blk
                                                  (VC.both
                                                    (VC.gen (Op.call { callee := Callee.builtin Builtin.append, args := #[Operand.tmp 35, Operand.tmp 42], argTypes := #[40, 40] }) 40
                                                      [(Operand.tmp 35, SV.slc 13 0 0 0), (Operand.tmp 42, SV.var 11)] [Base.slice] (SV.var 14) [] true [] [] [13, 6]
                                                      [(13, []),
                                                        (6, [SV.int IntKind.i64 (IE.var 0), SV.int IntKind.i64 (IE.var 1), SV.bool (BE.var 2), SV.int IntKind.i64 (IE.var 3), SV.bool (BE.var 4)])]
                                                      (VC.blk
                                                        (VC.gen (Op.call { callee := Callee.builtin Builtin.append, args := #[Operand.tmp 44, Operand.tmp 57], argTypes := #[40, 40] }) 40
                                                          [(Operand.tmp 44, SV.slc 15 0 0 0), (Operand.tmp 57, SV.var 12)] [Base.slice] (SV.var 16) [] true [] [] [15, 13, 6]
                                                          [(15, []), (13, []),
                                                            (6, [SV.int IntKind.i64 (IE.var 0), SV.int IntKind.i64 (IE.var 1), SV.bool (BE.var 2), SV.int IntKind.i64 (IE.var 3), SV.bool (BE.var 4)])]
                                                          (VC.blk
                                                            (VC.gen (Op.call { callee := Callee.builtin Builtin.append, args := #[Operand.tmp 34, Operand.tmp 60], argTypes := #[42, 42] }) 42
                                                              [(Operand.tmp 34, SV.var 9), (Operand.tmp 60, SV.slc 17 0 1 1)] [Base.slice] (SV.var 18) [] true [] [] [17, 15, 13, 6]
                                                              [(17, [SV.var 14, SV.var 16]), (15, []), (13, []),
                                                                (6,
                                                                  [SV.int IntKind.i64 (IE.var 0), SV.int IntKind.i64 (IE.var 1), SV.bool (BE.var 2), SV.int IntKind.i64 (IE.var 3),
                                                                    SV.bool (BE.var 4)])]
                                                              (VC.ob (BE.le (IE.lit (-9223372036854775808)) (IE.add (IE.var 8) (IE.lit 1)))
                                                                (VC.ob (BE.le (IE.add (IE.var 8) (IE.lit 1)) (IE.lit 9223372036854775807))
                                                                  (VC.leaf 1 [SV.int IntKind.i64 (IE.add (IE.var 8) (IE.lit 1)), SV.var 18] []
                                                                    [(17, [SV.var 14, SV.var 16]), (15, []), (13, []),
                                                                      (6,
                                                                        [SV.int IntKind.i64 (IE.var 0), SV.int IntKind.i64 (IE.var 1), SV.bool (BE.var 2), SV.int IntKind.i64 (IE.var 3),
                                                                          SV.bool (BE.var 4)])]))))))))
                                                    (VC.blk
                                                      (VC.gen (Op.call { callee := Callee.builtin Builtin.append, args := #[Operand.tmp 35, Operand.tmp 42], argTypes := #[40, 40] }) 40
                                                        [(Operand.tmp 35, SV.slc 13 0 0 0), (Operand.tmp 42, SV.var 11)] [Base.slice] (SV.var 15) [] true [] [] [14, 13, 6]
                                                        [(14, []), (13, []),
                                                          (6, [SV.int IntKind.i64 (IE.var 0), SV.int IntKind.i64 (IE.var 1), SV.bool (BE.var 2), SV.int IntKind.i64 (IE.var 3), SV.bool (BE.var 4)])]
                                                        (VC.gen (Op.call { callee := Callee.builtin Builtin.append, args := #[Operand.tmp 44, Operand.tmp 57], argTypes := #[40, 40] }) 40
                                                          [(Operand.tmp 44, SV.slc 14 0 0 0), (Operand.tmp 57, SV.var 12)] [Base.slice] (SV.var 16) [] true [] [] [14, 13, 6]
                                                          [(14, []), (13, []),
                                                            (6, [SV.int IntKind.i64 (IE.var 0), SV.int IntKind.i64 (IE.var 1), SV.bool (BE.var 2), SV.int IntKind.i64 (IE.var 3), SV.bool (BE.var 4)])]
                                                          (VC.blk
                                                            (VC.gen (Op.call { callee := Callee.builtin Builtin.append, args := #[Operand.tmp 34, Operand.tmp 60], argTypes := #[42, 42] }) 42
                                                              [(Operand.tmp 34, SV.var 9), (Operand.tmp 60, SV.slc 17 0 1 1)] [Base.slice] (SV.var 18) [] true [] [] [17, 14, 13, 6]
                                                              [(17, [SV.var 15, SV.var 16]), (14, []), (13, []),
                                                                (6,
                                                                  [SV.int IntKind.i64 (IE.var 0), SV.int IntKind.i64 (IE.var 1), SV.bool (BE.var 2), SV.int IntKind.i64 (IE.var 3),
                                                                    SV.bool (BE.var 4)])]
                                                              (VC.ob (BE.le (IE.lit (-9223372036854775808)) (IE.add (IE.var 8) (IE.lit 1)))
                                                                (VC.ob (BE.le (IE.add (IE.var 8) (IE.lit 1)) (IE.lit 9223372036854775807))
                                                                  (VC.leaf 1 [SV.int IntKind.i64 (IE.add (IE.var 8) (IE.lit 1)), SV.var 18] []
                                                                    [(17, [SV.var 15, SV.var 16]), (14, []), (13, []),
                                                                      (6,
                                                                        [SV.int IntKind.i64 (IE.var 0), SV.int IntKind.i64 (IE.var 1), SV.bool (BE.var 2), SV.int IntKind.i64 (IE.var 3),
                                                                          SV.bool (BE.var 4)])]))))))))))
                                                (VC.blk
                                                  (VC.blk
                                                    (VC.gen (Op.call { callee := Callee.builtin Builtin.append, args := #[Operand.tmp 35, Operand.tmp 42], argTypes := #[40, 40] }) 40
                                                      [(Operand.tmp 35, SV.slc 14 0 0 0), (Operand.tmp 42, SV.var 11)] [Base.slice] (SV.var 15) [] true [] [] [14, 13, 6]
                                                      [(14, []), (13, []),
                                                        (6, [SV.int IntKind.i64 (IE.var 0), SV.int IntKind.i64 (IE.var 1), SV.bool (BE.var 2), SV.int IntKind.i64 (IE.var 3), SV.bool (BE.var 4)])]
                                                      (VC.gen (Op.call { callee := Callee.builtin Builtin.append, args := #[Operand.tmp 44, Operand.tmp 57], argTypes := #[40, 40] }) 40
                                                        [(Operand.tmp 44, SV.slc 13 0 0 0), (Operand.tmp 57, SV.var 12)] [Base.slice] (SV.var 16) [] true [] [] [14, 13, 6]
                                                        [(14, []), (13, []),
                                                          (6, [SV.int IntKind.i64 (IE.var 0), SV.int IntKind.i64 (IE.var 1), SV.bool (BE.var 2), SV.int IntKind.i64 (IE.var 3), SV.bool (BE.var 4)])]
                                                        (VC.blk
                                                          (VC.gen (Op.call { callee := Callee.builtin Builtin.append, args := #[Operand.tmp 34, Operand.tmp 60], argTypes := #[42, 42] }) 42
                                                            [(Operand.tmp 34, SV.var 9), (Operand.tmp 60, SV.slc 17 0 1 1)] [Base.slice] (SV.var 18) [] true [] [] [17, 14, 13, 6]
                                                            [(17, [SV.var 15, SV.var 16]), (14, []), (13, []),
                                                              (6,
                                                                [SV.int IntKind.i64 (IE.var 0), SV.int IntKind.i64 (IE.var 1), SV.bool (BE.var 2), SV.int IntKind.i64 (IE.var 3), SV.bool (BE.var 4)])]
                                                            (VC.ob (BE.le (IE.lit (-9223372036854775808)) (IE.add (IE.var 8) (IE.lit 1)))
                                                              (VC.ob (BE.le (IE.add (IE.var 8) (IE.lit 1)) (IE.lit 9223372036854775807))
                                                                (VC.leaf 1 [SV.int IntKind.i64 (IE.add (IE.var 8) (IE.lit 1)), SV.var 18] []
                                                                  [(17, [SV.var 15, SV.var 16]), (14, []), (13, []),
                                                                    (6,
                                                                      [SV.int IntKind.i64 (IE.var 0), SV.int IntKind.i64 (IE.var 1), SV.bool (BE.var 2), SV.int IntKind.i64 (IE.var 3),
                                                                        SV.bool (BE.var 4)])])))))))))))))))))))))))))
                (VC.leaf 0 [SV.tuple [SV.var 9, SV.int IntKind.i64 (IE.lit 0)]] []
                  [(6, [SV.int IntKind.i64 (IE.var 0), SV.int IntKind.i64 (IE.var 1), SV.bool (BE.var 2), SV.int IntKind.i64 (IE.var 3), SV.bool (BE.var 4)])])))))))) := by kernel_rfl

theorem t42 : exFn { P := Try.prog } 42 [.var 0] [.slice] [] =
  VC.blk (VC.leaf 0 [SV.fn 53 [SV.ptr 1 0]] [] [(1, [SV.var 0])]) := by kernel_rfl

theorem t43 : exFn { P := Try.prog, loops := fun r => if Nat.beq r 3 then some ⟨1, [(11, .int .i64)], []⟩ else none } 43 [.int .i64 (.var 0), .var 1] [.int .i64, .func] [] =
  VC.gen (Op.makeSlice 42 (Operand.tmp 7) (Operand.tmp 7)) 42 [(Operand.tmp 7, SV.int IntKind.i64 (IE.var 0)), (Operand.tmp 7, SV.int IntKind.i64 (IE.var 0))] [Base.slice] (SV.var 2) [] false [] [] []
  []
  (VC.loop 1 [SV.int IntKind.i64 (IE.lit 0)] [Base.int IntKind.i64] [] [] [] []
    (VC.split (BE.lt (IE.var 3) (IE.len 2))
      (VC.gen (Op.call { callee := Callee.value (Operand.tmp 16), args := #[Operand.tmp 17], argTypes := #[3] }) 70 [(Operand.tmp 16, SV.var 1), (Operand.tmp 17, SV.int IntKind.i64 (IE.var 3))]
        [Base.slice, Base.slice] (SV.agg [SV.var 4, SV.var 5]) [] false [] [] [] []
        (VC.ob (BE.le (IE.lit 0) (IE.var 3))
          (VC.ob (BE.lt (IE.var 3) (IE.len 2))
            (VC.ob (BE.not (BE.nil 2))
              (VC.gen (Op.store 70 (Operand.tmp 19) (Operand.tmp 18)) 0 [(Operand.tmp 19, SV.elt 2 0 (IE.var 3) 2 0), (Operand.tmp 18, SV.agg [SV.var 4, SV.var 5])] [] (SV.cst (Value.tuple #[])) []
                false [] [] [] []
                (VC.ob (BE.le (IE.lit (-9223372036854775808)) (IE.add (IE.var 3) (IE.lit 1)))
                  (VC.ob (BE.le (IE.add (IE.var 3) (IE.lit 1)) (IE.lit 9223372036854775807)) (VC.leaf 1 [SV.int IntKind.i64 (IE.add (IE.var 3) (IE.lit 1))] [] []))))))))
      (VC.leaf 0 [SV.var 2] [] []))) := by kernel_rfl

theorem t44 : exFn { P := Try.prog } 44 [.int .i64 (.var 0), .ptr 1 0, .ptr 2 0, .ptr 3 0] [.int .i64, .ptr, .ptr, .ptr] [] =
  VC.blk
  (VC.start true [] [4] [(4, [SV.cst (Value.slice none 0 0), SV.cst (Value.slice none 0 0)])]
    (VC.load (SV.ptr 1 0) [Base.func]
      (VC.ob (BE.not (BE.nil 2))
        (VC.load (SV.ptr 2 0) [Base.int IntKind.i64]
          (VC.load (SV.ptr 2 1) [Base.int IntKind.i64]
            (VC.both
              (VC.gen (Op.call { callee := Callee.value (Operand.tmp 7), args := #[Operand.tmp 10], argTypes := #[3] }) 40 [(Operand.tmp 7, SV.var 5), (Operand.tmp 10, SV.int IntKind.i64 (IE.var 6))]
                [Base.slice] (SV.var 8) [] true [] [] [4] [(4, [SV.cst (Value.slice none 0 0), SV.cst (Value.slice none 0 0)])]
                (VC.both
                  (VC.call 45 [SV.var 8] [Base.slice] (SV.var 9) [] true [] [] [4] [(4, [SV.cst (Value.slice none 0 0), SV.cst (Value.slice none 0 0)])]
                    (VC.both
                      (VC.gen (Op.makeSlice 40 (Operand.tmp 15) (Operand.tmp 15)) 40 [(Operand.tmp 15, SV.int IntKind.i64 (IE.var 7)), (Operand.tmp 15, SV.int IntKind.i64 (IE.var 7))] [Base.slice]
                        (SV.var 10) [] true [] [] [4] [(4, [SV.cst (Value.slice none 0 0), SV.cst (Value.slice none 0 0)])]
                        (VC.blk
                          (VC.start true [11] [11, 4] [(11, [SV.var 9, SV.var 10]), (4, [SV.cst (Value.slice none 0 0), SV.cst (Value.slice none 0 0)])]
                            (VC.load (SV.ptr 3 0) [Base.func]
                              (VC.load (SV.ptr 2 5) [Base.int IntKind.i64]
                                (VC.gen (Op.call { callee := Callee.value (Operand.tmp 20), args := #[Operand.tmp 22], argTypes := #[3] }) 40
                                  [(Operand.tmp 20, SV.var 12), (Operand.tmp 22, SV.int IntKind.i64 (IE.var 13))] [Base.slice] (SV.var 14) [] true [] [] [11, 4]
                                  [(11, [SV.var 9, SV.var 10]), (4, [SV.cst (Value.slice none 0 0), SV.cst (Value.slice none 0 0)])]
                                  (VC.gen (Op.call { callee := Callee.builtin Builtin.copy, args := #[Operand.tmp 19, Operand.tmp 23], argTypes := #[40, 40] }) 3
                                    [(Operand.tmp 19, SV.var 10), (Operand.tmp 23, SV.var 14)] [Base.int IntKind.i64] (SV.int IntKind.i64 (IE.var 15)) [] true [] [] [11, 4]
                                    [(11, [SV.var 9, SV.var 10]), (4, [SV.cst (Value.slice none 0 0), SV.cst (Value.slice none 0 0)])]
                                    (VC.leaf 0 [SV.agg [SV.var 9, SV.var 10]] [4] [(11, [SV.var 9, SV.var 10]), (4, [SV.var 9, SV.var 10])]))))))))
                      (VC.blk
                        (VC.gen (Op.makeSlice 40 (Operand.tmp 15) (Operand.tmp 15)) 40 [(Operand.tmp 15, SV.int IntKind.i64 (IE.var 7)), (Operand.tmp 15, SV.int IntKind.i64 (IE.var 7))] [Base.slice]
                          (SV.var 11) [] true [] [] [10, 4] [(10, [SV.cst (Value.slice none 0 0), SV.cst (Value.slice none 0 0)]), (4, [SV.cst (Value.slice none 0 0), SV.cst (Value.slice none 0 0)])]
                          (VC.start true [10] [10, 4] [(10, [SV.var 9, SV.var 11]), (4, [SV.cst (Value.slice none 0 0), SV.cst (Value.slice none 0 0)])]
                            (VC.load (SV.ptr 3 0) [Base.func]
                              (VC.load (SV.ptr 2 5) [Base.int IntKind.i64]
                                (VC.gen (Op.call { callee := Callee.value (Operand.tmp 20), args := #[Operand.tmp 22], argTypes := #[3] }) 40
                                  [(Operand.tmp 20, SV.var 12), (Operand.tmp 22, SV.int IntKind.i64 (IE.var 13))] [Base.slice] (SV.var 14) [] true [] [] [10, 4]
                                  [(10, [SV.var 9, SV.var 11]), (4, [SV.cst (Value.slice none 0 0), SV.cst (Value.slice none 0 0)])]
                                  (VC.gen (Op.call { callee := Callee.builtin Builtin.copy, args := #[Operand.tmp 19, Operand.tmp 23], argTypes := #[40, 40] }) 3
                                    [(Operand.tmp 19, SV.var 11), (Operand.tmp 23, SV.var 14)] [Base.int IntKind.i64] (SV.int IntKind.i64 (IE.var 15)) [] true [] [] [10, 4]
                                    [(10, [SV.var 9, SV.var 11]), (4, [SV.cst (Value.slice none 0 0), SV.cst (Value.slice none 0 0)])]
                                    (VC.leaf 0 [SV.agg [SV.var 9, SV.var 11]] [4] [(10, [SV.var 9, SV.var 11]), (4, [SV.var 9, SV.var 11])]))))))))))
                  (VC.both
                    (VC.gen (Op.makeSlice 40 (Operand.tmp 15) (Operand.tmp 15)) 40 [(Operand.tmp 15, SV.int IntKind.i64 (IE.var 7)), (Operand.tmp 15, SV.int IntKind.i64 (IE.var 7))] [Base.slice]
                      (SV.var 9) [] true [] [] [4] [(4, [SV.cst (Value.slice none 0 0), SV.cst (Value.slice none 0 0)])]
                      (VC.both
                        (VC.call 45 [SV.var 8] [Base.slice] (SV.var 10) [] true [] [] [4] [(4, [SV.cst (Value.slice none 0 0), SV.cst (Value.slice none 0 0)])]
                          (VC.blk
                            (VC.start true [11] [11, 4] [(11, [SV.var 10, SV.var 9]), (4, [SV.cst (Value.slice none 0 0), SV.cst (Value.slice none 0 0)])]
                              (VC.load (SV.ptr 3 0) [Base.func]
                                (VC.load (SV.ptr 2 5) [Base.int IntKind.i64]
                                  (VC.gen (Op.call { callee := Callee.value (Operand.tmp 20), args := #[Operand.tmp 22], argTypes := #[3] }) 40
                                    [(Operand.tmp 20, SV.var 12), (Operand.tmp 22, SV.int IntKind.i64 (IE.var 13))] [Base.slice] (SV.var 14) [] true [] [] [11, 4]
                                    [(11, [SV.var 10, SV.var 9]), (4, [SV.cst (Value.slice none 0 0), SV.cst (Value.slice none 0 0)])]
                                    (VC.gen (Op.call { callee := Callee.builtin Builtin.copy, args := #[Operand.tmp 19, Operand.tmp 23], argTypes := #[40, 40] }) 3
                                      [(Operand.tmp 19, SV.var 9), (Operand.tmp 23, SV.var 14)] [Base.int IntKind.i64] (SV.int IntKind.i64 (IE.var 15)) [] true [] [] [11, 4]
                                      [(11, [SV.var 10, SV.var 9]), (4, [SV.cst (Value.slice none 0 0), SV.cst (Value.slice none 0 0)])]
                                      (VC.leaf 0 [SV.agg [SV.var 10, SV.var 9]] [4] [(11, [SV.var 10, SV.var 9]), (4, [SV.var 10, SV.var 9])]))))))))
                        (VC.blk
                          (VC.call 45 [SV.var 8] [Base.slice] (SV.var 11) [] true [] [] [10, 4]
                            [(10, [SV.cst (Value.slice none 0 0), SV.cst (Value.slice none 0 0)]), (4, [SV.cst (Value.slice none 0 0), SV.cst (Value.slice none 0 0)])]
                            (VC.start true [10] [10, 4] [(10, [SV.var 11, SV.var 9]), (4, [SV.cst (Value.slice none 0 0), SV.cst (Value.slice none 0 0)])]
                              (VC.load (SV.ptr 3 0) [Base.func]
                                (VC.load (SV.ptr 2 5) [Base.int IntKind.i64]
                                  (VC.gen (Op.call { callee := Callee.value (Operand.tmp 20), args := #[Operand.tmp 22], argTypes := #[3] }) 40
                                    [(Operand.tmp 20, SV.var 12), (Operand.tmp 22, SV.int IntKind.i64 (IE.var 13))] [Base.slice] (SV.var 14) [] true [] [] [10, 4]
                                    [(10, [SV.var 11, SV.var 9]), (4, [SV.cst (Value.slice none 0 0), SV.cst (Value.slice none 0 0)])]
                                    (VC.gen (Op.call { callee := Callee.builtin Builtin.copy, args := #[Operand.tmp 19, Operand.tmp 23], argTypes := #[40, 40] }) 3
                                      [(Operand.tmp 19, SV.var 9), (Operand.tmp 23, SV.var 14)] [Base.int IntKind.i64] (SV.int IntKind.i64 (IE.var 15)) [] true [] [] [10, 4]
                                      [(10, [SV.var 11, SV.var 9]), (4, [SV.cst (Value.slice none 0 0), SV.cst (Value.slice none 0 0)])]
                                      (VC.leaf 0 [SV.agg [SV.var 11, SV.var 9]] [4] [(10, [SV.var 11, SV.var 9]), (4, [SV.var 11, SV.var 9])]))))))))))
                    (VC.blk
                      (VC.both
                        (VC.call 45 [SV.var 8] [Base.slice] (SV.var 10) [] true [] [] [9, 4]
                          [(9, [SV.cst (Value.slice none 0 0), SV.cst (Value.slice none 0 0)]), (4, [SV.cst (Value.slice none 0 0), SV.cst (Value.slice none 0 0)])]
                          (VC.gen (Op.makeSlice 40 (Operand.tmp 15) (Operand.tmp 15)) 40 [(Operand.tmp 15, SV.int IntKind.i64 (IE.var 7)), (Operand.tmp 15, SV.int IntKind.i64 (IE.var 7))] [Base.slice]
                            (SV.var 11) [] true [] [] [9, 4] [(9, [SV.cst (Value.slice none 0 0), SV.cst (Value.slice none 0 0)]), (4, [SV.cst (Value.slice none 0 0), SV.cst (Value.slice none 0 0)])]
                            (VC.start true [9] [9, 4] [(9, [SV.var 10, SV.var 11]), (4, [SV.cst (Value.slice none 0 0), SV.cst (Value.slice none 0 0)])]
                              (VC.load (SV.ptr 3 0) [Base.func]
                                (VC.load (SV.ptr 2 5) [Base.int IntKind.i64]
                                  (VC.gen (Op.call { callee := Callee.value (Operand.tmp 20), args := #[Operand.tmp 22], argTypes := #[3] }) 40
                                    [(Operand.tmp 20, SV.var 12), (Operand.tmp 22, SV.int IntKind.i64 (IE.var 13))] [Base.slice] (SV.var 14) [] true [] [] [9, 4]
                                    [(9, [SV.var 10, SV.var 11]), (4, [SV.cst (Value.slice none 0 0), SV.cst (Value.slice none 0 0)])]
                                    (VC.gen (Op.call { callee := Callee.builtin Builtin.copy, args := #[Operand.tmp 19, Operand.tmp 23], argTypes := #[40, 40] }) 3
                                      [(Operand.tmp 19, SV.var 11), (Operand.tmp 23, SV.var 14)] [Base.int IntKind.i64] (SV.int IntKind.i64 (IE.var 15)) [] true [] [] [9, 4]
                                      [(9, [SV.var 10, SV.var 11]), (4, [SV.cst (Value.slice none 0 0), SV.cst (Value.slice none 0 0)])]
                                      (VC.leaf 0 [SV.agg [SV.var 10, SV.var 11]] [4] [(9, [SV.var 10, SV.var 11]), (4, [SV.var 10, SV.var 11])]))))))))
                        (VC.gen (Op.makeSlice 40 (Operand.tmp 15) (Operand.tmp 15)) 40 [(Operand.tmp 15, SV.int IntKind.i64 (IE.var 7)), (Operand.tmp 15, SV.int IntKind.i64 (IE.var 7))] [Base.slice]
                          (SV.var 10) [] true [] [] [9, 4] [(9, [SV.cst (Value.slice none 0 0), SV.cst (Value.slice none 0 0)]), (4, [SV.cst (Value.slice none 0 0), SV.cst (Value.slice none 0 0)])]
                          (VC.call 45 [SV.var 8] [Base.slice] (SV.var 11) [] true [] [] [9, 4]
                            [(9, [SV.cst (Value.slice none 0 0), SV.cst (Value.slice none 0 0)]), (4, [SV.cst (Value.slice none 0 0), SV.cst (Value.slice none 0 0)])]
                            (VC.start true [9] [9, 4] [(9, [SV.var 11, SV.var 10]), (4, [SV.cst (Value.slice none 0 0), SV.cst (Value.slice none 0 0)])]
                              (VC.load (SV.ptr 3 0) [Base.func]
                                (VC.load (SV.ptr 2 5) [Base.int IntKind.i64]
                                  (VC.gen (Op.call { callee := Callee.value (Operand.tmp 20), args := #[Operand.tmp 22], argTypes := #[3] }) 40
                                    [(Operand.tmp 20, SV.var 12), (Operand.tmp 22, SV.int IntKind.i64 (IE.var 13))] [Base.slice] (SV.var 14) [] true [] [] [9, 4]
                                    [(9, [SV.var 11, SV.var 10]), (4, [SV.cst (Value.slice none 0 0), SV.cst (Value.slice none 0 0)])]
                                    (VC.gen (Op.call { callee := Callee.builtin Builtin.copy, args := #[Operand.tmp 19, Operand.tmp 23], argTypes := #[40, 40] }) 3
                                      [(Operand.tmp 19, SV.var 10), (Operand.tmp 23, SV.var 14)] [Base.int IntKind.i64] (SV.int IntKind.i64 (IE.var 15)) [] true [] [] [9, 4]
                                      [(9, [SV.var 11, SV.var 10]), (4, [SV.cst (Value.slice none 0 0), SV.cst (Value.slice none 0 0)])]
                                      (VC.leaf 0 [SV.agg [SV.var 11, SV.var 10]] [4] [(9, [SV.var 11, SV.var 10]), (4, [SV.var 11, SV.var 10])])))))))))))))
              (VC.both
                (VC.gen (Op.makeSlice 40 (Operand.tmp 15) (Operand.tmp 15)) 40 [(Operand.tmp 15, SV.int IntKind.i64 (IE.var 7)), (Operand.tmp 15, SV.int IntKind.i64 (IE.var 7))] [Base.slice]
                  (SV.var 8) [] true [] [] [4] [(4, [SV.cst (Value.slice none 0 0), SV.cst (Value.slice none 0 0)])]
                  (VC.both
                    (VC.gen (Op.call { callee := Callee.value (Operand.tmp 7), args := #[Operand.tmp 10], argTypes := #[3] }) 40
                      [(Operand.tmp 7, SV.var 5), (Operand.tmp 10, SV.int IntKind.i64 (IE.var 6))] [Base.slice] (SV.var 9) [] true [] [] [4]
                      [(4, [SV.cst (Value.slice none 0 0), SV.cst (Value.slice none 0 0)])]
                      (VC.both
                        (VC.call 45 [SV.var 9] [Base.slice] (SV.var 10) [] true [] [] [4] [(4, [SV.cst (Value.slice none 0 0), SV.cst (Value.slice none 0 0)])]
                          (VC.blk
                            (VC.start true [11] [11, 4] [(11, [SV.var 10, SV.var 8]), (4, [SV.cst (Value.slice none 0 0), SV.cst (Value.slice none 0 0)])]
                              (VC.load (SV.ptr 3 0) [Base.func]
                                (VC.load (SV.ptr 2 5) [Base.int IntKind.i64]
                                  (VC.gen (Op.call { callee := Callee.value (Operand.tmp 20), args := #[Operand.tmp 22], argTypes := #[3] }) 40
                                    [(Operand.tmp 20, SV.var 12), (Operand.tmp 22, SV.int IntKind.i64 (IE.var 13))] [Base.slice] (SV.var 14) [] true [] [] [11, 4]
                                    [(11, [SV.var 10, SV.var 8]), (4, [SV.cst (Value.slice none 0 0), SV.cst (Value.slice none 0 0)])]
                                    (VC.gen (Op.call { callee := Callee.builtin Builtin.copy, args := #[Operand.tmp 19, Operand.tmp 23], argTypes := #[40, 40] }) 3
                                      [(Operand.tmp 19, SV.var 8), (Operand.tmp 23, SV.var 14)] [Base.int IntKind.i64] (SV.int IntKind.i64 (IE.var 15)) [] true [] [] [11, 4]
                                      [(11, [SV.var 10, SV.var 8]), (4, [SV.cst (Value.slice none 0 0), SV.cst (Value.slice none 0 0)])]
                                      (VC.leaf 0 [SV.agg [SV.var 10, SV.var 8]] [4] [(11, [SV.var 10, SV.var 8]), (4, [SV.var 10, SV.var 8])]))))))))
                        (VC.blk
                          (VC.call 45 [SV.var 9] [Base.slice] (SV.var 11) [] true [] [] [10, 4]
                            [(10, [SV.cst (Value.slice none 0 0), SV.cst (Value.slice none 0 0)]), (4, [SV.cst (Value.slice none 0 0), SV.cst (Value.slice none 0 0)])]
                            (VC.start true [10] [10, 4] [(10, [SV.var 11, SV.var 8]), (4, [SV.cst (Value.slice none 0 0), SV.cst (Value.slice none 0 0)])]
                              (VC.load (SV.ptr 3 0) [Base.func]
                                (VC.load (SV.ptr 2 5) [Base.int IntKind.i64]
                                  (VC.gen (Op.call { callee := Callee.value (Operand.tmp 20), args := #[Operand.tmp 22], argTypes := #[3] }) 40
                                    [(Operand.tmp 20, SV.var 12), (Operand.tmp 22, SV.int IntKind.i64 (IE.var 13))] [Base.slice] (SV.var 14) [] true [] [] [10, 4]
                                    [(10, [SV.var 11, SV.var 8]), (4, [SV.cst (Value.slice none 0 0), SV.cst (Value.slice none 0 0)])]
                                    (VC.gen (Op.call { callee := Callee.builtin Builtin.copy, args := #[Operand.tmp 19, Operand.tmp 23], argTypes := #[40, 40] }) 3
                                      [(Operand.tmp 19, SV.var 8), (Operand.tmp 23, SV.var 14)] [Base.int IntKind.i64] (SV.int IntKind.i64 (IE.var 15)) [] true [] [] [10, 4]
                                      [(10, [SV.var 11, SV.var 8]), (4, [SV.cst (Value.slice none 0 0), SV.cst (Value.slice none 0 0)])]
                                      (VC.leaf 0 [SV.agg [SV.var 11, SV.var 8]] [4] [(10, [SV.var 11, SV.var 8]), (4, [SV.var 11, SV.var 8])]))))))))))
                    (VC.blk
                      (VC.gen (Op.call { callee := Callee.value (Operand.tmp 7), args := #[Operand.tmp 10], argTypes := #[3] }) 40
                        [(Operand.tmp 7, SV.var 5), (Operand.tmp 10, SV.int IntKind.i64 (IE.var 6))] [Base.slice] (SV.var 10) [] true [] [] [9, 4]
                        [(9, [SV.cst (Value.slice none 0 0), SV.cst (Value.slice none 0 0)]), (4, [SV.cst (Value.slice none 0 0), SV.cst (Value.slice none 0 0)])]
                        (VC.call 45 [SV.var 10] [Base.slice] (SV.var 11) [] true [] [] [9, 4]
                          [(9, [SV.cst (Value.slice none 0 0), SV.cst (Value.slice none 0 0)]), (4, [SV.cst (Value.slice none 0 0), SV.cst (Value.slice none 0 0)])]
                          (VC.start true [9] [9, 4] [(9, [SV.var 11, SV.var 8]), (4, [SV.cst (Value.slice none 0 0), SV.cst (Value.slice none 0 0)])]
                            (VC.load (SV.ptr 3 0) [Base.func]
                              (VC.load (SV.ptr 2 5) [Base.int IntKind.i64]
                                (VC.gen (Op.call { callee := Callee.value (Operand.tmp 20), args := #[Operand.tmp 22], argTypes := #[3] }) 40
                                  [(Operand.tmp 20, SV.var 12), (Operand.tmp 22, SV.int IntKind.i64 (IE.var 13))] [Base.slice] (SV.var 14) [] true [] [] [9, 4]
                                  [(9, [SV.var 11, SV.var 8]), (4, [SV.cst (Value.slice none 0 0), SV.cst (Value.slice none 0 0)])]
                                  (VC.gen (Op.call { callee := Callee.builtin Builtin.copy, args := #[Operand.tmp 19, Operand.tmp 23], argTypes := #[40, 40] }) 3
                                    [(Operand.tmp 19, SV.var 8), (Operand.tmp 23, SV.var 14)] [Base.int IntKind.i64] (SV.int IntKind.i64 (IE.var 15)) [] true [] [] [9, 4]
                                    [(9, [SV.var 11, SV.var 8]), (4, [SV.cst (Value.slice none 0 0), SV.cst (Value.slice none 0 0)])]
                                    (VC.leaf 0 [SV.agg [SV.var 11, SV.var 8]] [4] [(9, [SV.var 11, SV.var 8]), (4, [SV.var 11, SV.var 8])])))))))))))
                (VC.blk
                  (VC.both
                    (VC.gen (Op.call { callee := Callee.value (Operand.tmp 7), args := #[Operand.tmp 10], argTypes := #[3] }) 40
                      [(Operand.tmp 7, SV.var 5), (Operand.tmp 10, SV.int IntKind.i64 (IE.var 6))] [Base.slice] (SV.var 9) [] true [] [] [8, 4]
                      [(8, [SV.cst (Value.slice none 0 0), SV.cst (Value.slice none 0 0)]), (4, [SV.cst (Value.slice none 0 0), SV.cst (Value.slice none 0 0)])]
                      (VC.both
                        (VC.call 45 [SV.var 9] [Base.slice] (SV.var 10) [] true [] [] [8, 4]
                          [(8, [SV.cst (Value.slice none 0 0), SV.cst (Value.slice none 0 0)]), (4, [SV.cst (Value.slice none 0 0), SV.cst (Value.slice none 0 0)])]
                          (VC.gen (Op.makeSlice 40 (Operand.tmp 15) (Operand.tmp 15)) 40 [(Operand.tmp 15, SV.int IntKind.i64 (IE.var 7)), (Operand.tmp 15, SV.int IntKind.i64 (IE.var 7))] [Base.slice]
                            (SV.var 11) [] true [] [] [8, 4] [(8, [SV.cst (Value.slice none 0 0), SV.cst (Value.slice none 0 0)]), (4, [SV.cst (Value.slice none 0 0), SV.cst (Value.slice none 0 0)])]
                            (VC.start true [8] [8, 4] [(8, [SV.var 10, SV.var 11]), (4, [SV.cst (Value.slice none 0 0), SV.cst (Value.slice none 0 0)])]
                              (VC.load (SV.ptr 3 0) [Base.func]
                                (VC.load (SV.ptr 2 5) [Base.int IntKind.i64]
                                  (VC.gen (Op.call { callee := Callee.value (Operand.tmp 20), args := #[Operand.tmp 22], argTypes := #[3] }) 40
                                    [(Operand.tmp 20, SV.var 12), (Operand.tmp 22, SV.int IntKind.i64 (IE.var 13))] [Base.slice] (SV.var 14) [] true [] [] [8, 4]
                                    [(8, [SV.var 10, SV.var 11]), (4, [SV.cst (Value.slice none 0 0), SV.cst (Value.slice none 0 0)])]
                                    (VC.gen (Op.call { callee := Callee.builtin Builtin.copy, args := #[Operand.tmp 19, Operand.tmp 23], argTypes := #[40, 40] }) 3
                                      [(Operand.tmp 19, SV.var 11), (Operand.tmp 23, SV.var 14)] [Base.int IntKind.i64] (SV.int IntKind.i64 (IE.var 15)) [] true [] [] [8, 4]
                                      [(8, [SV.var 10, SV.var 11]), (4, [SV.cst (Value.slice none 0 0), SV.cst (Value.slice none 0 0)])]
                                      (VC.leaf 0 [SV.agg [SV.var 10, SV.var 11]] [4] [(8, [SV.var 10, SV.var 11]), (4, [SV.var 10, SV.var 11])]))))))))
                        (VC.gen (Op.makeSlice 40 (Operand.tmp 15) (Operand.tmp 15)) 40 [(Operand.tmp 15, SV.int IntKind.i64 (IE.var 7)), (Operand.tmp 15, SV.int IntKind.i64 (IE.var 7))] [Base.slice]
                          (SV.var 10) [] true [] [] [8, 4] [(8, [SV.cst (Value.slice none 0 0), SV.cst (Value.slice none 0 0)]), (4, [SV.cst (Value.slice none 0 0), SV.cst (Value.slice none 0 0)])]
                          (VC.call 45 [SV.var 9] [Base.slice] (SV.var 11) [] true [] [] [8, 4]
                            [(8, [SV.cst (Value.slice none 0 0), SV.cst (Value.slice none 0 0)]), (4, [SV.cst (Value.slice none 0 0), SV.cst (Value.slice none 0 0)])]
                            (VC.start true [8] [8, 4] [(8, [SV.var 11, SV.var 10]), (4, [SV.cst (Value.slice none 0 0), SV.cst (Value.slice none 0 0)])]
                              (VC.load (SV.ptr 3 0) [Base.func]
                                (VC.load (SV.ptr 2 5) [Base.int IntKind.i64]
                                  (VC.gen (Op.call { callee := Callee.value (Operand.tmp 20), args := #[Operand.tmp 22], argTypes := #[3] }) 40
                                    [(Operand.tmp 20, SV.var 12), (Operand.tmp 22, SV.int IntKind.i64 (IE.var 13))] [Base.slice] (SV.var 14) [] true [] [] [8, 4]
                                    [(8, [SV.var 11, SV.var 10]), (4, [SV.cst (Value.slice none 0 0), SV.cst (Value.slice none 0 0)])]
                                    (VC.gen (Op.call { callee := Callee.builtin Builtin.copy, args := #[Operand.tmp 19, Operand.tmp 23], argTypes := #[40, 40] }) 3
                                      [(Operand.tmp 19, SV.var 10), (Operand.tmp 23, SV.var 14)] [Base.int IntKind.i64] (SV.int IntKind.i64 (IE.var 15)) [] true [] [] [8, 4]
                                      [(8, [SV.var 11, SV.var 10]), (4, [SV.cst (Value.slice none 0 0), SV.cst (Value.slice none 0 0)])]
                                      (VC.leaf 0 [SV.agg [SV.var 11, SV.var 10]] [4] [(8, [SV.var 11, SV.var 10]), (4, [SV.var 11, SV.var 10])]))))))))))
                    (VC.gen (Op.makeSlice 40 (Operand.tmp 15) (Operand.tmp 15)) 40 [(Operand.tmp 15, SV.int IntKind.i64 (IE.var 7)), (Operand.tmp 15, SV.int IntKind.i64 (IE.var 7))] [Base.slice]
                      (SV.var 9) [] true [] [] [8, 4] [(8, [SV.cst (Value.slice none 0 0), SV.cst (Value.slice none 0 0)]), (4, [SV.cst (Value.slice none 0 0), SV.cst (Value.slice none 0 0)])]
                      (VC.gen (Op.call { callee := Callee.value (Operand.tmp 7), args := #[Operand.tmp 10], argTypes := #[3] }) 40
                        [(Operand.tmp 7, SV.var 5), (Operand.tmp 10, SV.int IntKind.i64 (IE.var 6))] [Base.slice] (SV.var 10) [] true [] [] [8, 4]
                        [(8, [SV.cst (Value.slice none 0 0), SV.cst (Value.slice none 0 0)]), (4, [SV.cst (Value.slice none 0 0), SV.cst (Value.slice none 0 0)])]
                        (VC.call 45 [SV.var 10] [Base.slice] (SV.var 11) [] true [] [] [8, 4]
                          [(8, [SV.cst (Value.slice none 0 0), SV.cst (Value.slice none 0 0)]), (4, [SV.cst (Value.slice none 0 0), SV.cst (Value.slice none 0 0)])]
                          (VC.start true [8] [8, 4] [(8, [SV.var 11, SV.var 9]), (4, [SV.cst (Value.slice none 0 0), SV.cst (Value.slice none 0 0)])]
                            (VC.load (SV.ptr 3 0) [Base.func]
                              (VC.load (SV.ptr 2 5) [Base.int IntKind.i64]
                                (VC.gen (Op.call { callee := Callee.value (Operand.tmp 20), args := #[Operand.tmp 22], argTypes := #[3] }) 40
                                  [(Operand.tmp 20, SV.var 12), (Operand.tmp 22, SV.int IntKind.i64 (IE.var 13))] [Base.slice] (SV.var 14) [] true [] [] [8, 4]
                                  [(8, [SV.var 11, SV.var 9]), (4, [SV.cst (Value.slice none 0 0), SV.cst (Value.slice none 0 0)])]
                                  (VC.gen (Op.call { callee := Callee.builtin Builtin.copy, args := #[Operand.tmp 19, Operand.tmp 23], argTypes := #[40, 40] }) 3
                                    [(Operand.tmp 19, SV.var 9), (Operand.tmp 23, SV.var 14)] [Base.int IntKind.i64] (SV.int IntKind.i64 (IE.var 15)) [] true [] [] [8, 4]
                                    [(8, [SV.var 11, SV.var 9]), (4, [SV.cst (Value.slice none 0 0), SV.cst (Value.slice none 0 0)])]
                                    (VC.leaf 0 [SV.agg [SV.var 11, SV.var 9]] [4] [(8, [SV.var 11, SV.var 9]), (4, [SV.var 11, SV.var 9])])))))))))))))))))) := by kernel_rfl

theorem t45 : exFn { P := Try.prog } 45 [.var 0] [.slice] [] =
  VC.split (BE.nil 0) (VC.leaf 0 [SV.cst (Value.slice none 0 0)] [] [])
  (VC.blk
    (VC.gen (Op.call { callee := Callee.builtin Builtin.append, args := #[Operand.tmp 5, Operand.tmp 6], argTypes := #[40, 40] }) 40 [(Operand.tmp 5, SV.slc 1 0 0 0), (Operand.tmp 6, SV.var 0)]
      [Base.slice] (SV.var 2) [] false [] [] [1] [(1, [])] (VC.leaf 0 [SV.var 2] [] [(1, [])]))) := by kernel_rfl

theorem t48 : exFn { P := Try.prog } 48 [.agg [.int .i64 (.var 0), .int .i64 (.var 1), .bool (.var 2), .int .i64 (.var 3), .bool (.var 4)], .var 5] [.int .i64, .int .i64, .bool, .int .i64, .bool, .slice] [] =
  VC.blk
  (VC.call 54 [SV.var 5, SV.fn 55 [SV.ptr 6 0]] [Base.bool] (SV.bool (BE.var 7)) [] false [] [] [6]
    [(6, [SV.int IntKind.i64 (IE.var 0), SV.int IntKind.i64 (IE.var 1), SV.bool (BE.var 2), SV.int IntKind.i64 (IE.var 3), SV.bool (BE.var 4)])]
    (VC.leaf 0 [SV.bool (BE.not (BE.var 7))] [] [(6, [SV.int IntKind.i64 (IE.var 0), SV.int IntKind.i64 (IE.var 1), SV.bool (BE.var 2), SV.int IntKind.i64 (IE.var 3), SV.bool (BE.var 4)])])) := by kernel_rfl

theorem t49 : exFn { P := Try.prog, loops := fun r => if Nat.beq r 2 then some ⟨1, [(5, .int .i64)], []⟩ else none } 49 [.agg [.int .i64 (.var 0), .int .i64 (.var 1), .bool (.var 2), .int .i64 (.var 3), .bool (.var 4)], .var 5] [.int .i64, .int .i64, .bool, .int .i64, .bool, .slice] [] =
  VC.blk
  (VC.loop 1 [SV.int IntKind.i64 (IE.lit 0)] [Base.int IntKind.i64] [] [6]
    [(6, [SV.int IntKind.i64 (IE.var 0), SV.int IntKind.i64 (IE.var 1), SV.bool (BE.var 2), SV.int IntKind.i64 (IE.var 3), SV.bool (BE.var 4)])]
    [(6, [SV.int IntKind.i64 (IE.var 0), SV.int IntKind.i64 (IE.var 1), SV.bool (BE.var 2), SV.int IntKind.i64 (IE.var 3), SV.bool (BE.var 4)])]
    (VC.split (BE.lt (IE.var 7) (IE.len 5))
      (VC.start true [] [6] [(6, [SV.int IntKind.i64 (IE.var 0), SV.int IntKind.i64 (IE.var 1), SV.bool (BE.var 2), SV.int IntKind.i64 (IE.var 3), SV.bool (BE.var 4)])]
        (VC.ob (BE.le (IE.lit 0) (IE.var 7))
          (VC.ob (BE.lt (IE.var 7) (IE.len 5))
            (VC.ob (BE.not (BE.nil 5))
              (VC.load (SV.elt 5 0 (IE.var 7) 2 0) [Base.slice]
                (VC.split (BE.not (BE.eq (IE.len 8) (IE.var 0)))
                  (VC.leaf 0 [SV.bool (BE.lit false)] [] [(6, [SV.int IntKind.i64 (IE.var 0), SV.int IntKind.i64 (IE.var 1), SV.bool (BE.var 2), SV.int IntKind.i64 (IE.var 3), SV.bool (BE.var 4)])])
                  (VC.ob (BE.le (IE.lit 0) (IE.var 7))
                    (VC.ob (BE.lt (IE.var 7) (IE.len 5))
                      (VC.load (SV.elt 5 0 (IE.var 7) 2 1) [Base.slice]
                        (VC.split (BE.not (BE.eq (IE.len 9) (IE.var 1)))
                          (VC.leaf 0 [SV.bool (BE.lit false)] []
                            [(6, [SV.int IntKind.i64 (IE.var 0), SV.int IntKind.i64 (IE.var 1), SV.bool (BE.var 2), SV.int IntKind.i64 (IE.var 3), SV.bool (BE.var 4)])])
                          (VC.ob (BE.le (IE.lit (-9223372036854775808)) (IE.add (IE.var 7) (IE.lit 1)))
                            (VC.ob (BE.le (IE.add (IE.var 7) (IE.lit 1)) (IE.lit 9223372036854775807))
                              (VC.leaf 1 [SV.int IntKind.i64 (IE.add (IE.var 7) (IE.lit 1))] []
                                [(6, [SV.int IntKind.i64 (IE.var 0), SV.int IntKind.i64 (IE.var 1), SV.bool (BE.var 2), SV.int IntKind.i64 (IE.var 3), SV.bool (BE.var 4)])])))))))))))))
      (VC.leaf 0 [SV.bool (BE.lit true)] [] [(6, [SV.int IntKind.i64 (IE.var 0), SV.int IntKind.i64 (IE.var 1), SV.bool (BE.var 2), SV.int IntKind.i64 (IE.var 3), SV.bool (BE.var 4)])]))) := by kernel_rfl

theorem t50 : exFn { P := Try.prog } 50 [.int .i64 (.var 0), .ptr 1 0, .ptr 2 0] [.int .i64, .ptr, .ptr] [] =
  VC.blk
  (VC.start true [] [3] [(3, [SV.cst (Value.slice none 0 0), SV.cst (Value.slice none 0 0)])]
    (VC.load (SV.ptr 1 0) [Base.func]
      (VC.ob (BE.not (BE.nil 2))
        (VC.load (SV.ptr 2 0) [Base.int IntKind.i64]
          (VC.load (SV.ptr 1 0) [Base.func]
            (VC.load (SV.ptr 2 1) [Base.int IntKind.i64]
              (VC.gen (Op.call { callee := Callee.value (Operand.tmp 5), args := #[Operand.tmp 7], argTypes := #[3] }) 40 [(Operand.tmp 5, SV.var 4), (Operand.tmp 7, SV.int IntKind.i64 (IE.var 5))]
                [Base.slice] (SV.var 8) [] true [] [] [3] [(3, [SV.cst (Value.slice none 0 0), SV.cst (Value.slice none 0 0)])]
                (VC.call 45 [SV.var 8] [Base.slice] (SV.var 9) [] true [] [] [3] [(3, [SV.cst (Value.slice none 0 0), SV.cst (Value.slice none 0 0)])]
                  (VC.gen (Op.call { callee := Callee.value (Operand.tmp 10), args := #[Operand.tmp 12], argTypes := #[3] }) 40
                    [(Operand.tmp 10, SV.var 6), (Operand.tmp 12, SV.int IntKind.i64 (IE.var 7))] [Base.slice] (SV.var 10) [] true [] [] [3]
                    [(3, [SV.cst (Value.slice none 0 0), SV.cst (Value.slice none 0 0)])]
                    (VC.call 45 [SV.var 10] [Base.slice] (SV.var 11) [] true [] [] [3] [(3, [SV.cst (Value.slice none 0 0), SV.cst (Value.slice none 0 0)])]
                      (VC.leaf 0 [SV.agg [SV.var 9, SV.var 11]] [3] [(3, [SV.var 9, SV.var 11])]))))))))))) := by kernel_rfl

theorem t53 : exFn { P := Try.prog } 53 [.int .i64 (.var 0), .ptr 1 0] [.int .i64, .ptr, .slice] [(1, [.var 2])] =
  VC.start false [] [] [(1, [SV.var 2])]
  (VC.pur (Op.slice 40 (Operand.tmp 5) none (some (Operand.tmp 6)) (some (Operand.tmp 7))) 40
    [(Operand.tmp 5, SV.var 2), (Operand.tmp 6, SV.int IntKind.i64 (IE.var 0)), (Operand.tmp 7, SV.int IntKind.i64 (IE.var 0))] [Base.slice] (SV.var 3)
    (VC.start false [] [] [(1, [SV.var 2])]
      (VC.pur (Op.slice 40 (Operand.tmp 9) (some (Operand.tmp 10)) none none) 40 [(Operand.tmp 9, SV.var 2), (Operand.tmp 10, SV.int IntKind.i64 (IE.var 0))] [Base.slice] (SV.var 4)
        (VC.leaf 0 [SV.var 3] [1] [(1, [SV.var 4])])))) := by kernel_rfl

theorem t54 : exFn { P := Try.prog } 54 [.var 0, .var 1] [.slice, .func] [] =
  VC.call 57 [SV.var 0, SV.var 1] [Base.int IntKind.i64] (SV.int IntKind.i64 (IE.var 2)) [] false [] [] [] [] (VC.leaf 0 [SV.bool (BE.le (IE.lit 0) (IE.var 2))] [] []) := by kernel_rfl

theorem t55 : exFn { P := Try.prog } 55 [.agg [.var 0, .var 1], .ptr 2 0] [.slice, .slice, .ptr] [] =
  VC.blk
  (VC.ob (BE.not (BE.nil 2))
    (VC.start false [] [] [(3, [SV.var 0, SV.var 1])]
      (VC.load (SV.ptr 2 0) [Base.int IntKind.i64]
        (VC.split (BE.not (BE.eq (IE.len 0) (IE.var 4))) (VC.leaf 0 [SV.bool (BE.lit true)] [] [(3, [SV.var 0, SV.var 1])])
          (VC.start false [] [] [(3, [SV.var 0, SV.var 1])]
            (VC.load (SV.ptr 2 1) [Base.int IntKind.i64] (VC.leaf 0 [SV.bool (BE.not (BE.eq (IE.len 1) (IE.var 5)))] [] [(3, [SV.var 0, SV.var 1])]))))))) := by kernel_rfl

theorem t57 : exFn { P := Try.prog, loops := fun r => if Nat.beq r 2 then some ⟨1, [(8, .int .i64)], []⟩ else none } 57 [.var 0, .var 1] [.slice, .func] [] =
  VC.loop 1 [SV.int IntKind.i64 (IE.lit 0)] [Base.int IntKind.i64] [] [] [] []
  (VC.split (BE.lt (IE.var 2) (IE.len 0))
    (VC.ob (BE.le (IE.lit 0) (IE.var 2))
      (VC.ob (BE.lt (IE.var 2) (IE.len 0))
        (VC.ob (BE.not (BE.nil 0))
          (VC.start false [] [] []
            (VC.load (SV.elt 0 0 (IE.var 2) 2 0) [Base.slice, Base.slice]
              (VC.gen (Op.call { callee := Callee.value (Operand.tmp 11), args := #[Operand.tmp 15], argTypes := #[70] }) 4 [(Operand.tmp 11, SV.var 1), (Operand.tmp 15, SV.agg [SV.var 3, SV.var 4])]
                [Base.bool] (SV.bool (BE.var 5)) [] false [] [] [] []
                (VC.split (BE.var 5) (VC.leaf 0 [SV.int IntKind.i64 (IE.var 2)] [] [])
                  (VC.ob (BE.le (IE.lit (-9223372036854775808)) (IE.add (IE.var 2) (IE.lit 1)))
                    (VC.ob (BE.le (IE.add (IE.var 2) (IE.lit 1)) (IE.lit 9223372036854775807)) (VC.leaf 1 [SV.int IntKind.i64 (IE.add (IE.var 2) (IE.lit 1))] [] []))))))))))
    (VC.leaf 0 [SV.int IntKind.i64 (IE.lit (-1))] [] [])) := by kernel_rfl

end Go.Proofs.Ytngemhmjpphpaaa
