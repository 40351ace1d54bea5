/- What the functions of the law FormatPlaces return, each for every argument that its theorem names. No conditions beyond those. -/
import Derived.Test.YtngemhmjpphpaaaB
import Derived.Test.YtngemhmjpphpaaaProg
import Derived.KernelRfl
set_option maxRecDepth 100000
set_option linter.unusedVariables false
set_option linter.unusedSimpArgs false
namespace Go.Proofs.Ytngemhmjpphpaaa
open Go.Sx

theorem t42 : exFn { P := Try.prog } 42 [.var 0] [.slice] [] =
  VC.blk (VC.leaf 0 [SV.fn 53 [SV.ptr 1 0]] [] [(1, [SV.var 0])]) := by kernel_rfl

theorem t21 : exFn { P := Try.prog } 21 [.agg [.int .i64 (.var 0), .int .i64 (.var 1), .bool (.var 2), .int .i64 (.var 3), .bool (.var 4)], .int .i64 (.var 5), .bool (.var 6), .var 7, .var 8] [.int .i64, .int .i64, .bool, .int .i64, .bool, .int .i64, .bool, .slice, .slice] [] =
  VC.blk
  (VC.call 39
    [SV.agg [SV.int IntKind.i64 (IE.var 0), SV.int IntKind.i64 (IE.var 1), SV.bool (BE.var 2), SV.int IntKind.i64 (IE.var 3), SV.bool (BE.var 4)], SV.int IntKind.i64 (IE.var 5), SV.bool (BE.var 6)]
    [Base.int IntKind.i64, Base.int IntKind.i64, Base.bool, Base.int IntKind.i64, Base.bool, Base.int IntKind.i64, Base.int IntKind.i64]
    (SV.tuple
      [SV.agg [SV.int IntKind.i64 (IE.var 10), SV.int IntKind.i64 (IE.var 11), SV.bool (BE.var 12), SV.int IntKind.i64 (IE.var 13), SV.bool (BE.var 14), SV.int IntKind.i64 (IE.var 15)],
        SV.int IntKind.i64 (IE.var 16)])
    [] false [] [9] [9] [(9, [SV.int IntKind.i64 (IE.var 0), SV.int IntKind.i64 (IE.var 1), SV.bool (BE.var 2), SV.int IntKind.i64 (IE.var 3), SV.bool (BE.var 4)])]
    (VC.blk
      (VC.split (BE.not (BE.eq (IE.var 16) (IE.lit 0)))
        (VC.leaf 0 [SV.tuple [SV.cst (Value.slice none 0 0), SV.int IntKind.i64 (IE.var 16)]] [9]
          [(17, [SV.int IntKind.i64 (IE.var 10), SV.int IntKind.i64 (IE.var 11), SV.bool (BE.var 12), SV.int IntKind.i64 (IE.var 13), SV.bool (BE.var 14), SV.int IntKind.i64 (IE.var 15)]),
            (9, [SV.int IntKind.i64 (IE.var 0), SV.int IntKind.i64 (IE.var 1), SV.bool (BE.var 2), SV.int IntKind.i64 (IE.var 3), SV.bool (BE.var 4)])])
        (VC.call 40
          [SV.agg [SV.int IntKind.i64 (IE.var 10), SV.int IntKind.i64 (IE.var 11), SV.bool (BE.var 12), SV.int IntKind.i64 (IE.var 13), SV.bool (BE.var 14), SV.int IntKind.i64 (IE.var 15)],
            SV.int IntKind.i64 (IE.var 5)]
          [Base.int IntKind.i64, Base.int IntKind.i64] (SV.tuple [SV.int IntKind.i64 (IE.var 18), SV.int IntKind.i64 (IE.var 19)]) [] false [9] [17, 9] [17, 9]
          [(17, [SV.int IntKind.i64 (IE.var 10), SV.int IntKind.i64 (IE.var 11), SV.bool (BE.var 12), SV.int IntKind.i64 (IE.var 13), SV.bool (BE.var 14), SV.int IntKind.i64 (IE.var 15)]),
            (9, [SV.int IntKind.i64 (IE.var 0), SV.int IntKind.i64 (IE.var 1), SV.bool (BE.var 2), SV.int IntKind.i64 (IE.var 3), SV.bool (BE.var 4)])]
          (VC.call 41 [SV.var 7, SV.int IntKind.i64 (IE.var 18)] [Base.int IntKind.i64] (SV.int IntKind.i64 (IE.var 20)) [] false [17, 9] [17, 9] [17, 9]
            [(17, [SV.int IntKind.i64 (IE.var 10), SV.int IntKind.i64 (IE.var 11), SV.bool (BE.var 12), SV.int IntKind.i64 (IE.var 13), SV.bool (BE.var 14), SV.int IntKind.i64 (IE.var 15)]),
              (9, [SV.int IntKind.i64 (IE.var 0), SV.int IntKind.i64 (IE.var 1), SV.bool (BE.var 2), SV.int IntKind.i64 (IE.var 3), SV.bool (BE.var 4)])]
            (VC.split (BE.not (BE.eq (IE.var 20) (IE.lit 0)))
              (VC.leaf 0 [SV.tuple [SV.cst (Value.slice none 0 0), SV.int IntKind.i64 (IE.var 20)]] [17, 9]
                [(17, [SV.int IntKind.i64 (IE.var 10), SV.int IntKind.i64 (IE.var 11), SV.bool (BE.var 12), SV.int IntKind.i64 (IE.var 13), SV.bool (BE.var 14), SV.int IntKind.i64 (IE.var 15)]),
                  (9, [SV.int IntKind.i64 (IE.var 0), SV.int IntKind.i64 (IE.var 1), SV.bool (BE.var 2), SV.int IntKind.i64 (IE.var 3), SV.bool (BE.var 4)])])
              (VC.call 41 [SV.var 8, SV.int IntKind.i64 (IE.var 19)] [Base.int IntKind.i64] (SV.int IntKind.i64 (IE.var 21)) [] false [17, 9] [17, 9] [17, 9]
                [(17, [SV.int IntKind.i64 (IE.var 10), SV.int IntKind.i64 (IE.var 11), SV.bool (BE.var 12), SV.int IntKind.i64 (IE.var 13), SV.bool (BE.var 14), SV.int IntKind.i64 (IE.var 15)]),
                  (9, [SV.int IntKind.i64 (IE.var 0), SV.int IntKind.i64 (IE.var 1), SV.bool (BE.var 2), SV.int IntKind.i64 (IE.var 3), SV.bool (BE.var 4)])]
                (VC.split (BE.not (BE.eq (IE.var 21) (IE.lit 0)))
                  (VC.leaf 0 [SV.tuple [SV.cst (Value.slice none 0 0), SV.int IntKind.i64 (IE.var 21)]] [17, 9]
                    [(17, [SV.int IntKind.i64 (IE.var 10), SV.int IntKind.i64 (IE.var 11), SV.bool (BE.var 12), SV.int IntKind.i64 (IE.var 13), SV.bool (BE.var 14), SV.int IntKind.i64 (IE.var 15)]),
                      (9, [SV.int IntKind.i64 (IE.var 0), SV.int IntKind.i64 (IE.var 1), SV.bool (BE.var 2), SV.int IntKind.i64 (IE.var 3), SV.bool (BE.var 4)])])
                  (VC.call 42 [SV.var 7] [Base.func] (SV.var 22) [] false [17, 9] [17, 9] [17, 9]
                    [(17, [SV.int IntKind.i64 (IE.var 10), SV.int IntKind.i64 (IE.var 11), SV.bool (BE.var 12), SV.int IntKind.i64 (IE.var 13), SV.bool (BE.var 14), SV.int IntKind.i64 (IE.var 15)]),
                      (9, [SV.int IntKind.i64 (IE.var 0), SV.int IntKind.i64 (IE.var 1), SV.bool (BE.var 2), SV.int IntKind.i64 (IE.var 3), SV.bool (BE.var 4)])]
                    (VC.call 42 [SV.var 8] [Base.func] (SV.var 23) [] false [17, 9] [17, 9] [17, 9]
                      [(17, [SV.int IntKind.i64 (IE.var 10), SV.int IntKind.i64 (IE.var 11), SV.bool (BE.var 12), SV.int IntKind.i64 (IE.var 13), SV.bool (BE.var 14), SV.int IntKind.i64 (IE.var 15)]),
                        (9, [SV.int IntKind.i64 (IE.var 0), SV.int IntKind.i64 (IE.var 1), SV.bool (BE.var 2), SV.int IntKind.i64 (IE.var 3), SV.bool (BE.var 4)])]
                      (VC.blk
                        (VC.blk
                          (VC.split (BE.var 12)
                            (VC.call 43 [SV.int IntKind.i64 (IE.var 5), SV.fn 44 [SV.ptr 24 0, SV.ptr 17 0, SV.ptr 25 0]] [Base.slice] (SV.var 26) [] false [17, 9] [25, 24, 17, 9] [25, 24, 17, 9]
                              [(25, [SV.var 22]), (24, [SV.var 22]),
                                (17,
                                  [SV.int IntKind.i64 (IE.var 10), SV.int IntKind.i64 (IE.var 11), SV.bool (BE.var 12), SV.int IntKind.i64 (IE.var 13), SV.bool (BE.var 14),
                                    SV.int IntKind.i64 (IE.var 15)]),
                                (9, [SV.int IntKind.i64 (IE.var 0), SV.int IntKind.i64 (IE.var 1), SV.bool (BE.var 2), SV.int IntKind.i64 (IE.var 3), SV.bool (BE.var 4)])]
                              (VC.leaf 0 [SV.tuple [SV.var 26, SV.int IntKind.i64 (IE.lit 0)]] [25, 24, 17, 9]
                                [(25, [SV.var 22]), (24, [SV.var 22]),
                                  (17,
                                    [SV.int IntKind.i64 (IE.var 10), SV.int IntKind.i64 (IE.var 11), SV.bool (BE.var 12), SV.int IntKind.i64 (IE.var 13), SV.bool (BE.var 14),
                                      SV.int IntKind.i64 (IE.var 15)]),
                                  (9, [SV.int IntKind.i64 (IE.var 0), SV.int IntKind.i64 (IE.var 1), SV.bool (BE.var 2), SV.int IntKind.i64 (IE.var 3), SV.bool (BE.var 4)])]))
                            (VC.call 43 [SV.int IntKind.i64 (IE.var 5), SV.fn 44 [SV.ptr 24 0, SV.ptr 17 0, SV.ptr 25 0]] [Base.slice] (SV.var 26) [] false [17, 9] [25, 24, 17, 9] [25, 24, 17, 9]
                              [(25, [SV.var 23]), (24, [SV.var 22]),
                                (17,
                                  [SV.int IntKind.i64 (IE.var 10), SV.int IntKind.i64 (IE.var 11), SV.bool (BE.var 12), SV.int IntKind.i64 (IE.var 13), SV.bool (BE.var 14),
                                    SV.int IntKind.i64 (IE.var 15)]),
                                (9, [SV.int IntKind.i64 (IE.var 0), SV.int IntKind.i64 (IE.var 1), SV.bool (BE.var 2), SV.int IntKind.i64 (IE.var 3), SV.bool (BE.var 4)])]
                              (VC.leaf 0 [SV.tuple [SV.var 26, SV.int IntKind.i64 (IE.lit 0)]] [25, 24, 17, 9]
                                [(25, [SV.var 23]), (24, [SV.var 22]),
                                  (17,
                                    [SV.int IntKind.i64 (IE.var 10), SV.int IntKind.i64 (IE.var 11), SV.bool (BE.var 12), SV.int IntKind.i64 (IE.var 13), SV.bool (BE.var 14),
                                      SV.int IntKind.i64 (IE.var 15)]),
                                  (9, [SV.int IntKind.i64 (IE.var 0), SV.int IntKind.i64 (IE.var 1), SV.bool (BE.var 2), SV.int IntKind.i64 (IE.var 3), SV.bool (BE.var 4)])]))))))))))))))) := by kernel_rfl

theorem t19 : exFn { P := Try.prog } 19 [] [] [] =
  VC.call 38 [] [Base.int IntKind.i64, Base.int IntKind.i64, Base.bool, Base.int IntKind.i64, Base.bool]
  (SV.agg [SV.int IntKind.i64 (IE.var 0), SV.int IntKind.i64 (IE.var 1), SV.bool (BE.var 2), SV.int IntKind.i64 (IE.var 3), SV.bool (BE.var 4)]) [] false [] [] [] []
  (VC.call 38 [] [Base.int IntKind.i64, Base.int IntKind.i64, Base.bool, Base.int IntKind.i64, Base.bool]
    (SV.agg [SV.int IntKind.i64 (IE.var 5), SV.int IntKind.i64 (IE.var 6), SV.bool (BE.var 7), SV.int IntKind.i64 (IE.var 8), SV.bool (BE.var 9)]) [] false [] [] [] []
    (VC.call 38 [] [Base.int IntKind.i64, Base.int IntKind.i64, Base.bool, Base.int IntKind.i64, Base.bool]
      (SV.agg [SV.int IntKind.i64 (IE.var 10), SV.int IntKind.i64 (IE.var 11), SV.bool (BE.var 12), SV.int IntKind.i64 (IE.var 13), SV.bool (BE.var 14)]) [] false [] [] [] []
      (VC.blk
        (VC.blk
          (VC.blk
            (VC.blk
              (VC.call 10 [SV.agg [SV.int IntKind.i64 (IE.var 0), SV.int IntKind.i64 (IE.var 1), SV.bool (BE.var 2), SV.int IntKind.i64 (IE.var 3), SV.bool (BE.var 4)], SV.int IntKind.i64 (IE.lit 17)]
                [Base.int IntKind.i64, Base.int IntKind.i64, Base.int IntKind.i64] (SV.tuple [SV.int IntKind.i64 (IE.var 19), SV.int IntKind.i64 (IE.var 20), SV.int IntKind.i64 (IE.var 21)]) [] false
                [] [18, 17, 16, 15] [18, 17, 16, 15]
                [(18, [SV.int IntKind.i64 (IE.var 10), SV.int IntKind.i64 (IE.lit 64), SV.bool (BE.var 12), SV.int IntKind.i64 (IE.var 13), SV.bool (BE.var 14)]),
                  (17, [SV.int IntKind.i64 (IE.lit 4096), SV.int IntKind.i64 (IE.lit 0), SV.bool (BE.lit false), SV.int IntKind.i64 (IE.lit 0), SV.bool (BE.lit false)]),
                  (16, [SV.int IntKind.i64 (IE.var 5), SV.int IntKind.i64 (IE.var 6), SV.bool (BE.lit true), SV.int IntKind.i64 (IE.var 8), SV.bool (BE.var 9)]),
                  (15, [SV.int IntKind.i64 (IE.var 0), SV.int IntKind.i64 (IE.var 1), SV.bool (BE.var 2), SV.int IntKind.i64 (IE.var 3), SV.bool (BE.var 4)])]
                (VC.call 12
                  [SV.agg [SV.int IntKind.i64 (IE.var 0), SV.int IntKind.i64 (IE.var 1), SV.bool (BE.var 2), SV.int IntKind.i64 (IE.var 3), SV.bool (BE.var 4)], SV.int IntKind.i64 (IE.lit 17)]
                  [Base.int IntKind.i64, Base.int IntKind.i64] (SV.tuple [SV.int IntKind.i64 (IE.var 22), SV.int IntKind.i64 (IE.var 23)]) [] false [18, 17, 16, 15] [18, 17, 16, 15] [18, 17, 16, 15]
                  [(18, [SV.int IntKind.i64 (IE.var 10), SV.int IntKind.i64 (IE.lit 64), SV.bool (BE.var 12), SV.int IntKind.i64 (IE.var 13), SV.bool (BE.var 14)]),
                    (17, [SV.int IntKind.i64 (IE.lit 4096), SV.int IntKind.i64 (IE.lit 0), SV.bool (BE.lit false), SV.int IntKind.i64 (IE.lit 0), SV.bool (BE.lit false)]),
                    (16, [SV.int IntKind.i64 (IE.var 5), SV.int IntKind.i64 (IE.var 6), SV.bool (BE.lit true), SV.int IntKind.i64 (IE.var 8), SV.bool (BE.var 9)]),
                    (15, [SV.int IntKind.i64 (IE.var 0), SV.int IntKind.i64 (IE.var 1), SV.bool (BE.var 2), SV.int IntKind.i64 (IE.var 3), SV.bool (BE.var 4)])]
                  (VC.call 16 [SV.agg [SV.int IntKind.i64 (IE.var 0), SV.int IntKind.i64 (IE.var 1), SV.bool (BE.var 2), SV.int IntKind.i64 (IE.var 3), SV.bool (BE.var 4)]] [Base.int IntKind.i64]
                    (SV.int IntKind.i64 (IE.var 24)) [] false [18, 17, 16, 15] [18, 17, 16, 15] [18, 17, 16, 15]
                    [(18, [SV.int IntKind.i64 (IE.var 10), SV.int IntKind.i64 (IE.lit 64), SV.bool (BE.var 12), SV.int IntKind.i64 (IE.var 13), SV.bool (BE.var 14)]),
                      (17, [SV.int IntKind.i64 (IE.lit 4096), SV.int IntKind.i64 (IE.lit 0), SV.bool (BE.lit false), SV.int IntKind.i64 (IE.lit 0), SV.bool (BE.lit false)]),
                      (16, [SV.int IntKind.i64 (IE.var 5), SV.int IntKind.i64 (IE.var 6), SV.bool (BE.lit true), SV.int IntKind.i64 (IE.var 8), SV.bool (BE.var 9)]),
                      (15, [SV.int IntKind.i64 (IE.var 0), SV.int IntKind.i64 (IE.var 1), SV.bool (BE.var 2), SV.int IntKind.i64 (IE.var 3), SV.bool (BE.var 4)])]
                    (VC.split (BE.not (BE.eq (IE.var 24) (IE.lit 8)))
                      (VC.leaf 0 [SV.bool (BE.lit false)] [18, 17, 16, 15]
                        [(18, [SV.int IntKind.i64 (IE.var 10), SV.int IntKind.i64 (IE.lit 64), SV.bool (BE.var 12), SV.int IntKind.i64 (IE.var 13), SV.bool (BE.var 14)]),
                          (17, [SV.int IntKind.i64 (IE.lit 4096), SV.int IntKind.i64 (IE.lit 0), SV.bool (BE.lit false), SV.int IntKind.i64 (IE.lit 0), SV.bool (BE.lit false)]),
                          (16, [SV.int IntKind.i64 (IE.var 5), SV.int IntKind.i64 (IE.var 6), SV.bool (BE.lit true), SV.int IntKind.i64 (IE.var 8), SV.bool (BE.var 9)]),
                          (15, [SV.int IntKind.i64 (IE.var 0), SV.int IntKind.i64 (IE.var 1), SV.bool (BE.var 2), SV.int IntKind.i64 (IE.var 3), SV.bool (BE.var 4)])])
                      (VC.call 16 [SV.agg [SV.int IntKind.i64 (IE.lit 4096), SV.int IntKind.i64 (IE.lit 0), SV.bool (BE.lit false), SV.int IntKind.i64 (IE.lit 0), SV.bool (BE.lit false)]]
                        [Base.int IntKind.i64] (SV.int IntKind.i64 (IE.var 25)) [] false [18, 17, 16, 15] [18, 17, 16, 15] [18, 17, 16, 15]
                        [(18, [SV.int IntKind.i64 (IE.var 10), SV.int IntKind.i64 (IE.lit 64), SV.bool (BE.var 12), SV.int IntKind.i64 (IE.var 13), SV.bool (BE.var 14)]),
                          (17, [SV.int IntKind.i64 (IE.lit 4096), SV.int IntKind.i64 (IE.lit 0), SV.bool (BE.lit false), SV.int IntKind.i64 (IE.lit 0), SV.bool (BE.lit false)]),
                          (16, [SV.int IntKind.i64 (IE.var 5), SV.int IntKind.i64 (IE.var 6), SV.bool (BE.lit true), SV.int IntKind.i64 (IE.var 8), SV.bool (BE.var 9)]),
                          (15, [SV.int IntKind.i64 (IE.var 0), SV.int IntKind.i64 (IE.var 1), SV.bool (BE.var 2), SV.int IntKind.i64 (IE.var 3), SV.bool (BE.var 4)])]
                        (VC.split (BE.not (BE.eq (IE.var 25) (IE.lit 1)))
                          (VC.leaf 0 [SV.bool (BE.lit false)] [18, 17, 16, 15]
                            [(18, [SV.int IntKind.i64 (IE.var 10), SV.int IntKind.i64 (IE.lit 64), SV.bool (BE.var 12), SV.int IntKind.i64 (IE.var 13), SV.bool (BE.var 14)]),
                              (17, [SV.int IntKind.i64 (IE.lit 4096), SV.int IntKind.i64 (IE.lit 0), SV.bool (BE.lit false), SV.int IntKind.i64 (IE.lit 0), SV.bool (BE.lit false)]),
                              (16, [SV.int IntKind.i64 (IE.var 5), SV.int IntKind.i64 (IE.var 6), SV.bool (BE.lit true), SV.int IntKind.i64 (IE.var 8), SV.bool (BE.var 9)]),
                              (15, [SV.int IntKind.i64 (IE.var 0), SV.int IntKind.i64 (IE.var 1), SV.bool (BE.var 2), SV.int IntKind.i64 (IE.var 3), SV.bool (BE.var 4)])])
                          (VC.call 16 [SV.agg [SV.int IntKind.i64 (IE.var 10), SV.int IntKind.i64 (IE.lit 64), SV.bool (BE.var 12), SV.int IntKind.i64 (IE.var 13), SV.bool (BE.var 14)]]
                            [Base.int IntKind.i64] (SV.int IntKind.i64 (IE.var 26)) [] false [18, 17, 16, 15] [18, 17, 16, 15] [18, 17, 16, 15]
                            [(18, [SV.int IntKind.i64 (IE.var 10), SV.int IntKind.i64 (IE.lit 64), SV.bool (BE.var 12), SV.int IntKind.i64 (IE.var 13), SV.bool (BE.var 14)]),
                              (17, [SV.int IntKind.i64 (IE.lit 4096), SV.int IntKind.i64 (IE.lit 0), SV.bool (BE.lit false), SV.int IntKind.i64 (IE.lit 0), SV.bool (BE.lit false)]),
                              (16, [SV.int IntKind.i64 (IE.var 5), SV.int IntKind.i64 (IE.var 6), SV.bool (BE.lit true), SV.int IntKind.i64 (IE.var 8), SV.bool (BE.var 9)]),
                              (15, [SV.int IntKind.i64 (IE.var 0), SV.int IntKind.i64 (IE.var 1), SV.bool (BE.var 2), SV.int IntKind.i64 (IE.var 3), SV.bool (BE.var 4)])]
                            (VC.split (BE.not (BE.eq (IE.var 26) (IE.lit 7)))
                              (VC.leaf 0 [SV.bool (BE.lit false)] [18, 17, 16, 15]
                                [(18, [SV.int IntKind.i64 (IE.var 10), SV.int IntKind.i64 (IE.lit 64), SV.bool (BE.var 12), SV.int IntKind.i64 (IE.var 13), SV.bool (BE.var 14)]),
                                  (17, [SV.int IntKind.i64 (IE.lit 4096), SV.int IntKind.i64 (IE.lit 0), SV.bool (BE.lit false), SV.int IntKind.i64 (IE.lit 0), SV.bool (BE.lit false)]),
                                  (16, [SV.int IntKind.i64 (IE.var 5), SV.int IntKind.i64 (IE.var 6), SV.bool (BE.lit true), SV.int IntKind.i64 (IE.var 8), SV.bool (BE.var 9)]),
                                  (15, [SV.int IntKind.i64 (IE.var 0), SV.int IntKind.i64 (IE.var 1), SV.bool (BE.var 2), SV.int IntKind.i64 (IE.var 3), SV.bool (BE.var 4)])])
                              (VC.split (BE.not (BE.eq (IE.var 19) (IE.lit 2)))
                                (VC.leaf 0 [SV.bool (BE.lit false)] [18, 17, 16, 15]
                                  [(18, [SV.int IntKind.i64 (IE.var 10), SV.int IntKind.i64 (IE.lit 64), SV.bool (BE.var 12), SV.int IntKind.i64 (IE.var 13), SV.bool (BE.var 14)]),
                                    (17, [SV.int IntKind.i64 (IE.lit 4096), SV.int IntKind.i64 (IE.lit 0), SV.bool (BE.lit false), SV.int IntKind.i64 (IE.lit 0), SV.bool (BE.lit false)]),
                                    (16, [SV.int IntKind.i64 (IE.var 5), SV.int IntKind.i64 (IE.var 6), SV.bool (BE.lit true), SV.int IntKind.i64 (IE.var 8), SV.bool (BE.var 9)]),
                                    (15, [SV.int IntKind.i64 (IE.var 0), SV.int IntKind.i64 (IE.var 1), SV.bool (BE.var 2), SV.int IntKind.i64 (IE.var 3), SV.bool (BE.var 4)])])
                                (VC.split (BE.not (BE.eq (IE.var 20) (IE.lit 1)))
                                  (VC.leaf 0 [SV.bool (BE.lit false)] [18, 17, 16, 15]
                                    [(18, [SV.int IntKind.i64 (IE.var 10), SV.int IntKind.i64 (IE.lit 64), SV.bool (BE.var 12), SV.int IntKind.i64 (IE.var 13), SV.bool (BE.var 14)]),
                                      (17, [SV.int IntKind.i64 (IE.lit 4096), SV.int IntKind.i64 (IE.lit 0), SV.bool (BE.lit false), SV.int IntKind.i64 (IE.lit 0), SV.bool (BE.lit false)]),
                                      (16, [SV.int IntKind.i64 (IE.var 5), SV.int IntKind.i64 (IE.var 6), SV.bool (BE.lit true), SV.int IntKind.i64 (IE.var 8), SV.bool (BE.var 9)]),
                                      (15, [SV.int IntKind.i64 (IE.var 0), SV.int IntKind.i64 (IE.var 1), SV.bool (BE.var 2), SV.int IntKind.i64 (IE.var 3), SV.bool (BE.var 4)])])
                                  (VC.split (BE.not (BE.eq (IE.var 22) (IE.lit 3)))
                                    (VC.leaf 0 [SV.bool (BE.lit false)] [18, 17, 16, 15]
                                      [(18, [SV.int IntKind.i64 (IE.var 10), SV.int IntKind.i64 (IE.lit 64), SV.bool (BE.var 12), SV.int IntKind.i64 (IE.var 13), SV.bool (BE.var 14)]),
                                        (17, [SV.int IntKind.i64 (IE.lit 4096), SV.int IntKind.i64 (IE.lit 0), SV.bool (BE.lit false), SV.int IntKind.i64 (IE.lit 0), SV.bool (BE.lit false)]),
                                        (16, [SV.int IntKind.i64 (IE.var 5), SV.int IntKind.i64 (IE.var 6), SV.bool (BE.lit true), SV.int IntKind.i64 (IE.var 8), SV.bool (BE.var 9)]),
                                        (15, [SV.int IntKind.i64 (IE.var 0), SV.int IntKind.i64 (IE.var 1), SV.bool (BE.var 2), SV.int IntKind.i64 (IE.var 3), SV.bool (BE.var 4)])])
                                    (VC.call 18 [SV.int IntKind.i64 (IE.var 21)] [Base.int IntKind.i64] (SV.int IntKind.i64 (IE.var 27)) [] false [18, 17, 16, 15] [18, 17, 16, 15] [18, 17, 16, 15]
                                      [(18, [SV.int IntKind.i64 (IE.var 10), SV.int IntKind.i64 (IE.lit 64), SV.bool (BE.var 12), SV.int IntKind.i64 (IE.var 13), SV.bool (BE.var 14)]),
                                        (17, [SV.int IntKind.i64 (IE.lit 4096), SV.int IntKind.i64 (IE.lit 0), SV.bool (BE.lit false), SV.int IntKind.i64 (IE.lit 0), SV.bool (BE.lit false)]),
                                        (16, [SV.int IntKind.i64 (IE.var 5), SV.int IntKind.i64 (IE.var 6), SV.bool (BE.lit true), SV.int IntKind.i64 (IE.var 8), SV.bool (BE.var 9)]),
                                        (15, [SV.int IntKind.i64 (IE.var 0), SV.int IntKind.i64 (IE.var 1), SV.bool (BE.var 2), SV.int IntKind.i64 (IE.var 3), SV.bool (BE.var 4)])]
                                      (VC.call 18 [SV.int IntKind.i64 (IE.var 23)] [Base.int IntKind.i64] (SV.int IntKind.i64 (IE.var 28)) [] false [18, 17, 16, 15] [18, 17, 16, 15] [18, 17, 16, 15]
                                        [(18, [SV.int IntKind.i64 (IE.var 10), SV.int IntKind.i64 (IE.lit 64), SV.bool (BE.var 12), SV.int IntKind.i64 (IE.var 13), SV.bool (BE.var 14)]),
                                          (17, [SV.int IntKind.i64 (IE.lit 4096), SV.int IntKind.i64 (IE.lit 0), SV.bool (BE.lit false), SV.int IntKind.i64 (IE.lit 0), SV.bool (BE.lit false)]),
                                          (16, [SV.int IntKind.i64 (IE.var 5), SV.int IntKind.i64 (IE.var 6), SV.bool (BE.lit true), SV.int IntKind.i64 (IE.var 8), SV.bool (BE.var 9)]),
                                          (15, [SV.int IntKind.i64 (IE.var 0), SV.int IntKind.i64 (IE.var 1), SV.bool (BE.var 2), SV.int IntKind.i64 (IE.var 3), SV.bool (BE.var 4)])]
                                        (VC.ob (BE.le (IE.lit (-9223372036854775808)) (IE.add (IE.var 27) (IE.var 28)))
                                          (VC.ob (BE.le (IE.add (IE.var 27) (IE.var 28)) (IE.lit 9223372036854775807))
                                            (VC.split (BE.not (BE.eq (IE.add (IE.var 27) (IE.var 28)) (IE.lit 0)))
                                              (VC.leaf 0 [SV.bool (BE.lit false)] [18, 17, 16, 15]
                                                [(18, [SV.int IntKind.i64 (IE.var 10), SV.int IntKind.i64 (IE.lit 64), SV.bool (BE.var 12), SV.int IntKind.i64 (IE.var 13), SV.bool (BE.var 14)]),
                                                  (17,
                                                    [SV.int IntKind.i64 (IE.lit 4096), SV.int IntKind.i64 (IE.lit 0), SV.bool (BE.lit false), SV.int IntKind.i64 (IE.lit 0), SV.bool (BE.lit false)]),
                                                  (16, [SV.int IntKind.i64 (IE.var 5), SV.int IntKind.i64 (IE.var 6), SV.bool (BE.lit true), SV.int IntKind.i64 (IE.var 8), SV.bool (BE.var 9)]),
                                                  (15, [SV.int IntKind.i64 (IE.var 0), SV.int IntKind.i64 (IE.var 1), SV.bool (BE.var 2), SV.int IntKind.i64 (IE.var 3), SV.bool (BE.var 4)])])
                                              (VC.start true [18, 17, 16, 15] [18, 17, 16, 15]
                                                [(18, [SV.int IntKind.i64 (IE.var 10), SV.int IntKind.i64 (IE.lit 64), SV.bool (BE.var 12), SV.int IntKind.i64 (IE.var 13), SV.bool (BE.var 14)]),
                                                  (17,
                                                    [SV.int IntKind.i64 (IE.lit 4096), SV.int IntKind.i64 (IE.lit 0), SV.bool (BE.lit false), SV.int IntKind.i64 (IE.lit 0), SV.bool (BE.lit false)]),
                                                  (16, [SV.int IntKind.i64 (IE.var 5), SV.int IntKind.i64 (IE.var 6), SV.bool (BE.lit true), SV.int IntKind.i64 (IE.var 8), SV.bool (BE.var 9)]),
                                                  (15, [SV.int IntKind.i64 (IE.var 0), SV.int IntKind.i64 (IE.var 1), SV.bool (BE.var 2), SV.int IntKind.i64 (IE.var 3), SV.bool (BE.var 4)])]
                                                (VC.both
                                                  (VC.gen (Op.makeSlice 40 (Operand.const (Value.int IntKind.i64 512)) (Operand.const (Value.int IntKind.i64 512))) 40
                                                    [(Operand.const (Value.int IntKind.i64 512), SV.int IntKind.i64 (IE.lit 512)),
                                                      (Operand.const (Value.int IntKind.i64 512), SV.int IntKind.i64 (IE.lit 512))]
                                                    [Base.slice] (SV.var 29) [] true [18, 17, 16, 15] [18, 17, 16, 15] [18, 17, 16, 15]
                                                    [(18, [SV.int IntKind.i64 (IE.var 10), SV.int IntKind.i64 (IE.lit 64), SV.bool (BE.var 12), SV.int IntKind.i64 (IE.var 13), SV.bool (BE.var 14)]),
                                                      (17,
                                                        [SV.int IntKind.i64 (IE.lit 4096), SV.int IntKind.i64 (IE.lit 0), SV.bool (BE.lit false), SV.int IntKind.i64 (IE.lit 0),
                                                          SV.bool (BE.lit false)]),
                                                      (16, [SV.int IntKind.i64 (IE.var 5), SV.int IntKind.i64 (IE.var 6), SV.bool (BE.lit true), SV.int IntKind.i64 (IE.var 8), SV.bool (BE.var 9)]),
                                                      (15, [SV.int IntKind.i64 (IE.var 0), SV.int IntKind.i64 (IE.var 1), SV.bool (BE.var 2), SV.int IntKind.i64 (IE.var 3), SV.bool (BE.var 4)])]
                                                    (VC.gen (Op.makeSlice 40 (Operand.const (Value.int IntKind.i64 7)) (Operand.const (Value.int IntKind.i64 7))) 40
                                                      [(Operand.const (Value.int IntKind.i64 7), SV.int IntKind.i64 (IE.lit 7)),
                                                        (Operand.const (Value.int IntKind.i64 7), SV.int IntKind.i64 (IE.lit 7))]
                                                      [Base.slice] (SV.var 30) [] true [18, 17, 16, 15] [18, 17, 16, 15] [18, 17, 16, 15]
                                                      [(18, [SV.int IntKind.i64 (IE.var 10), SV.int IntKind.i64 (IE.lit 64), SV.bool (BE.var 12), SV.int IntKind.i64 (IE.var 13), SV.bool (BE.var 14)]),
                                                        (17,
                                                          [SV.int IntKind.i64 (IE.lit 4096), SV.int IntKind.i64 (IE.lit 0), SV.bool (BE.lit false), SV.int IntKind.i64 (IE.lit 0),
                                                            SV.bool (BE.lit false)]),
                                                        (16, [SV.int IntKind.i64 (IE.var 5), SV.int IntKind.i64 (IE.var 6), SV.bool (BE.lit true), SV.int IntKind.i64 (IE.var 8), SV.bool (BE.var 9)]),
                                                        (15, [SV.int IntKind.i64 (IE.var 0), SV.int IntKind.i64 (IE.var 1), SV.bool (BE.var 2), SV.int IntKind.i64 (IE.var 3), SV.bool (BE.var 4)])]
                                                      (VC.call 21
                                                        [SV.agg [SV.int IntKind.i64 (IE.var 0), SV.int IntKind.i64 (IE.var 1), SV.bool (BE.var 2), SV.int IntKind.i64 (IE.var 3), SV.bool (BE.var 4)],
                                                          SV.int IntKind.i64 (IE.lit 1), SV.bool (BE.lit false), SV.var 29, SV.var 30]
                                                        [Base.slice, Base.int IntKind.i64] (SV.tuple [SV.var 31, SV.int IntKind.i64 (IE.var 32)]) [] true [18, 17, 16, 15] [18, 17, 16, 15]
                                                        [18, 17, 16, 15]
                                                        [(18,
                                                            [SV.int IntKind.i64 (IE.var 10), SV.int IntKind.i64 (IE.lit 64), SV.bool (BE.var 12), SV.int IntKind.i64 (IE.var 13), SV.bool (BE.var 14)]),
                                                          (17,
                                                            [SV.int IntKind.i64 (IE.lit 4096), SV.int IntKind.i64 (IE.lit 0), SV.bool (BE.lit false), SV.int IntKind.i64 (IE.lit 0),
                                                              SV.bool (BE.lit false)]),
                                                          (16,
                                                            [SV.int IntKind.i64 (IE.var 5), SV.int IntKind.i64 (IE.var 6), SV.bool (BE.lit true), SV.int IntKind.i64 (IE.var 8), SV.bool (BE.var 9)]),
                                                          (15, [SV.int IntKind.i64 (IE.var 0), SV.int IntKind.i64 (IE.var 1), SV.bool (BE.var 2), SV.int IntKind.i64 (IE.var 3), SV.bool (BE.var 4)])]
                                                        (VC.call 21
                                                          [SV.agg [SV.int IntKind.i64 (IE.var 0), SV.int IntKind.i64 (IE.var 1), SV.bool (BE.var 2), SV.int IntKind.i64 (IE.var 3), SV.bool (BE.var 4)],
                                                            SV.int IntKind.i64 (IE.lit 0), SV.bool (BE.lit false), SV.cst (Value.slice none 0 0), SV.cst (Value.slice none 0 0)]
                                                          [Base.slice, Base.int IntKind.i64] (SV.tuple [SV.var 33, SV.int IntKind.i64 (IE.var 34)]) [] false [18, 17, 16, 15] [18, 17, 16, 15]
                                                          [18, 17, 16, 15]
                                                          [(18,
                                                              [SV.int IntKind.i64 (IE.var 10), SV.int IntKind.i64 (IE.lit 64), SV.bool (BE.var 12), SV.int IntKind.i64 (IE.var 13),
                                                                SV.bool (BE.var 14)]),
                                                            (17,
                                                              [SV.int IntKind.i64 (IE.lit 4096), SV.int IntKind.i64 (IE.lit 0), SV.bool (BE.lit false), SV.int IntKind.i64 (IE.lit 0),
                                                                SV.bool (BE.lit false)]),
                                                            (16,
                                                              [SV.int IntKind.i64 (IE.var 5), SV.int IntKind.i64 (IE.var 6), SV.bool (BE.lit true), SV.int IntKind.i64 (IE.var 8), SV.bool (BE.var 9)]),
                                                            (15, [SV.int IntKind.i64 (IE.var 0), SV.int IntKind.i64 (IE.var 1), SV.bool (BE.var 2), SV.int IntKind.i64 (IE.var 3), SV.bool (BE.var 4)])]
                                                          (VC.call 23
                                                            [SV.agg
                                                                [SV.int IntKind.i64 (IE.var 0), SV.int IntKind.i64 (IE.var 1), SV.bool (BE.var 2), SV.int IntKind.i64 (IE.var 3), SV.bool (BE.var 4)],
                                                              SV.int IntKind.i64 (IE.lit 2), SV.bool (BE.lit false), SV.int IntKind.i64 (IE.lit 1024), SV.int IntKind.i64 (IE.lit 16),
                                                              SV.int IntKind.i64 (IE.lit 0)]
                                                            [Base.bool] (SV.bool (BE.var 35)) [] false [18, 17, 16, 15] [18, 17, 16, 15] [18, 17, 16, 15]
                                                            [(18,
                                                                [SV.int IntKind.i64 (IE.var 10), SV.int IntKind.i64 (IE.lit 64), SV.bool (BE.var 12), SV.int IntKind.i64 (IE.var 13),
                                                                  SV.bool (BE.var 14)]),
                                                              (17,
                                                                [SV.int IntKind.i64 (IE.lit 4096), SV.int IntKind.i64 (IE.lit 0), SV.bool (BE.lit false), SV.int IntKind.i64 (IE.lit 0),
                                                                  SV.bool (BE.lit false)]),
                                                              (16,
                                                                [SV.int IntKind.i64 (IE.var 5), SV.int IntKind.i64 (IE.var 6), SV.bool (BE.lit true), SV.int IntKind.i64 (IE.var 8),
                                                                  SV.bool (BE.var 9)]),
                                                              (15,
                                                                [SV.int IntKind.i64 (IE.var 0), SV.int IntKind.i64 (IE.var 1), SV.bool (BE.var 2), SV.int IntKind.i64 (IE.var 3), SV.bool (BE.var 4)])]
                                                            (VC.split (BE.var 35)
                                                              (VC.call 23
                                                                [SV.agg
                                                                    [SV.int IntKind.i64 (IE.var 0), SV.int IntKind.i64 (IE.var 1), SV.bool (BE.var 2), SV.int IntKind.i64 (IE.var 3),
                                                                      SV.bool (BE.var 4)],
                                                                  SV.int IntKind.i64 (IE.lit 2), SV.bool (BE.lit true), SV.int IntKind.i64 (IE.lit 1024), SV.int IntKind.i64 (IE.lit 0),
                                                                  SV.int IntKind.i64 (IE.lit 0)]
                                                                [Base.bool] (SV.bool (BE.var 36)) [] false [18, 17, 16, 15] [18, 17, 16, 15] [18, 17, 16, 15]
                                                                [(18,
                                                                    [SV.int IntKind.i64 (IE.var 10), SV.int IntKind.i64 (IE.lit 64), SV.bool (BE.var 12), SV.int IntKind.i64 (IE.var 13),
                                                                      SV.bool (BE.var 14)]),
                                                                  (17,
                                                                    [SV.int IntKind.i64 (IE.lit 4096), SV.int IntKind.i64 (IE.lit 0), SV.bool (BE.lit false), SV.int IntKind.i64 (IE.lit 0),
                                                                      SV.bool (BE.lit false)]),
                                                                  (16,
                                                                    [SV.int IntKind.i64 (IE.var 5), SV.int IntKind.i64 (IE.var 6), SV.bool (BE.lit true), SV.int IntKind.i64 (IE.var 8),
                                                                      SV.bool (BE.var 9)]),
                                                                  (15,
                                                                    [SV.int IntKind.i64 (IE.var 0), SV.int IntKind.i64 (IE.var 1), SV.bool (BE.var 2), SV.int IntKind.i64 (IE.var 3),
                                                                      SV.bool (BE.var 4)])]
                                                                (VC.split (BE.var 36)
                                                                  (VC.call 23
                                                                    [SV.agg
                                                                        [SV.int IntKind.i64 (IE.var 5), SV.int IntKind.i64 (IE.var 6), SV.bool (BE.lit true), SV.int IntKind.i64 (IE.var 8),
                                                                          SV.bool (BE.var 9)],
                                                                      SV.int IntKind.i64 (IE.lit 2), SV.bool (BE.lit false), SV.int IntKind.i64 (IE.lit 1040), SV.int IntKind.i64 (IE.lit 0),
                                                                      SV.int IntKind.i64 (IE.lit 0)]
                                                                    [Base.bool] (SV.bool (BE.var 37)) [] false [18, 17, 16, 15] [18, 17, 16, 15] [18, 17, 16, 15]
                                                                    [(18,
                                                                        [SV.int IntKind.i64 (IE.var 10), SV.int IntKind.i64 (IE.lit 64), SV.bool (BE.var 12), SV.int IntKind.i64 (IE.var 13),
                                                                          SV.bool (BE.var 14)]),
                                                                      (17,
                                                                        [SV.int IntKind.i64 (IE.lit 4096), SV.int IntKind.i64 (IE.lit 0), SV.bool (BE.lit false), SV.int IntKind.i64 (IE.lit 0),
                                                                          SV.bool (BE.lit false)]),
                                                                      (16,
                                                                        [SV.int IntKind.i64 (IE.var 5), SV.int IntKind.i64 (IE.var 6), SV.bool (BE.lit true), SV.int IntKind.i64 (IE.var 8),
                                                                          SV.bool (BE.var 9)]),
                                                                      (15,
                                                                        [SV.int IntKind.i64 (IE.var 0), SV.int IntKind.i64 (IE.var 1), SV.bool (BE.var 2), SV.int IntKind.i64 (IE.var 3),
                                                                          SV.bool (BE.var 4)])]
                                                                    (VC.split (BE.var 37)
                                                                      (VC.call 23
                                                                        [SV.agg
                                                                            [SV.int IntKind.i64 (IE.lit 4096), SV.int IntKind.i64 (IE.lit 0), SV.bool (BE.lit false), SV.int IntKind.i64 (IE.lit 0),
                                                                              SV.bool (BE.lit false)],
                                                                          SV.int IntKind.i64 (IE.lit 2), SV.bool (BE.lit true), SV.int IntKind.i64 (IE.lit 0), SV.int IntKind.i64 (IE.lit 0),
                                                                          SV.int IntKind.i64 (IE.lit 2)]
                                                                        [Base.bool] (SV.bool (BE.var 38)) [] false [18, 17, 16, 15] [18, 17, 16, 15] [18, 17, 16, 15]
                                                                        [(18,
                                                                            [SV.int IntKind.i64 (IE.var 10), SV.int IntKind.i64 (IE.lit 64), SV.bool (BE.var 12), SV.int IntKind.i64 (IE.var 13),
                                                                              SV.bool (BE.var 14)]),
                                                                          (17,
                                                                            [SV.int IntKind.i64 (IE.lit 4096), SV.int IntKind.i64 (IE.lit 0), SV.bool (BE.lit false), SV.int IntKind.i64 (IE.lit 0),
                                                                              SV.bool (BE.lit false)]),
                                                                          (16,
                                                                            [SV.int IntKind.i64 (IE.var 5), SV.int IntKind.i64 (IE.var 6), SV.bool (BE.lit true), SV.int IntKind.i64 (IE.var 8),
                                                                              SV.bool (BE.var 9)]),
                                                                          (15,
                                                                            [SV.int IntKind.i64 (IE.var 0), SV.int IntKind.i64 (IE.var 1), SV.bool (BE.var 2), SV.int IntKind.i64 (IE.var 3),
                                                                              SV.bool (BE.var 4)])]
                                                                        (VC.split (BE.var 38)
                                                                          (VC.call 18 [SV.int IntKind.i64 (IE.var 32)] [Base.int IntKind.i64] (SV.int IntKind.i64 (IE.var 39)) [] false [18, 17, 16, 15]
                                                                            [18, 17, 16, 15] [18, 17, 16, 15]
                                                                            [(18,
                                                                                [SV.int IntKind.i64 (IE.var 10), SV.int IntKind.i64 (IE.lit 64), SV.bool (BE.var 12), SV.int IntKind.i64 (IE.var 13),
                                                                                  SV.bool (BE.var 14)]),
                                                                              (17,
                                                                                [SV.int IntKind.i64 (IE.lit 4096), SV.int IntKind.i64 (IE.lit 0), SV.bool (BE.lit false), SV.int IntKind.i64 (IE.lit 0),
                                                                                  SV.bool (BE.lit false)]),
                                                                              (16,
                                                                                [SV.int IntKind.i64 (IE.var 5), SV.int IntKind.i64 (IE.var 6), SV.bool (BE.lit true), SV.int IntKind.i64 (IE.var 8),
                                                                                  SV.bool (BE.var 9)]),
                                                                              (15,
                                                                                [SV.int IntKind.i64 (IE.var 0), SV.int IntKind.i64 (IE.var 1), SV.bool (BE.var 2), SV.int IntKind.i64 (IE.var 3),
                                                                                  SV.bool (BE.var 4)])]
                                                                            (VC.split (BE.eq (IE.var 39) (IE.lit 4))
                                                                              (VC.split (BE.eq (IE.len 33) (IE.lit 0))
                                                                                (VC.call 18 [SV.int IntKind.i64 (IE.var 34)] [Base.int IntKind.i64] (SV.int IntKind.i64 (IE.var 40)) [] false
                                                                                  [18, 17, 16, 15] [18, 17, 16, 15] [18, 17, 16, 15]
                                                                                  [(18,
                                                                                      [SV.int IntKind.i64 (IE.var 10), SV.int IntKind.i64 (IE.lit 64), SV.bool (BE.var 12),
                                                                                        SV.int IntKind.i64 (IE.var 13), SV.bool (BE.var 14)]),
                                                                                    (17,
                                                                                      [SV.int IntKind.i64 (IE.lit 4096), SV.int IntKind.i64 (IE.lit 0), SV.bool (BE.lit false),
                                                                                        SV.int IntKind.i64 (IE.lit 0), SV.bool (BE.lit false)]),
                                                                                    (16,
                                                                                      [SV.int IntKind.i64 (IE.var 5), SV.int IntKind.i64 (IE.var 6), SV.bool (BE.lit true),
                                                                                        SV.int IntKind.i64 (IE.var 8), SV.bool (BE.var 9)]),
                                                                                    (15,
                                                                                      [SV.int IntKind.i64 (IE.var 0), SV.int IntKind.i64 (IE.var 1), SV.bool (BE.var 2), SV.int IntKind.i64 (IE.var 3),
                                                                                        SV.bool (BE.var 4)])]
                                                                                  (VC.leaf 0 [SV.bool (BE.eq (IE.var 40) (IE.lit 0))] [18, 17, 16, 15]
                                                                                    [(18,
                                                                                        [SV.int IntKind.i64 (IE.var 10), SV.int IntKind.i64 (IE.lit 64), SV.bool (BE.var 12),
                                                                                          SV.int IntKind.i64 (IE.var 13), SV.bool (BE.var 14)]),
                                                                                      (17,
                                                                                        [SV.int IntKind.i64 (IE.lit 4096), SV.int IntKind.i64 (IE.lit 0), SV.bool (BE.lit false),
                                                                                          SV.int IntKind.i64 (IE.lit 0), SV.bool (BE.lit false)]),
                                                                                      (16,
                                                                                        [SV.int IntKind.i64 (IE.var 5), SV.int IntKind.i64 (IE.var 6), SV.bool (BE.lit true),
                                                                                          SV.int IntKind.i64 (IE.var 8), SV.bool (BE.var 9)]),
                                                                                      (15,
                                                                                        [SV.int IntKind.i64 (IE.var 0), SV.int IntKind.i64 (IE.var 1), SV.bool (BE.var 2),
                                                                                          SV.int IntKind.i64 (IE.var 3), SV.bool (BE.var 4)])]))
                                                                                (VC.leaf 0 [SV.bool (BE.lit false)] [18, 17, 16, 15]
                                                                                  [(18,
                                                                                      [SV.int IntKind.i64 (IE.var 10), SV.int IntKind.i64 (IE.lit 64), SV.bool (BE.var 12),
                                                                                        SV.int IntKind.i64 (IE.var 13), SV.bool (BE.var 14)]),
                                                                                    (17,
                                                                                      [SV.int IntKind.i64 (IE.lit 4096), SV.int IntKind.i64 (IE.lit 0), SV.bool (BE.lit false),
                                                                                        SV.int IntKind.i64 (IE.lit 0), SV.bool (BE.lit false)]),
                                                                                    (16,
                                                                                      [SV.int IntKind.i64 (IE.var 5), SV.int IntKind.i64 (IE.var 6), SV.bool (BE.lit true),
                                                                                        SV.int IntKind.i64 (IE.var 8), SV.bool (BE.var 9)]),
                                                                                    (15,
                                                                                      [SV.int IntKind.i64 (IE.var 0), SV.int IntKind.i64 (IE.var 1), SV.bool (BE.var 2), SV.int IntKind.i64 (IE.var 3),
                                                                                        SV.bool (BE.var 4)])]))
                                                                              (VC.leaf 0 [SV.bool (BE.lit false)] [18, 17, 16, 15]
                                                                                [(18,
                                                                                    [SV.int IntKind.i64 (IE.var 10), SV.int IntKind.i64 (IE.lit 64), SV.bool (BE.var 12),
                                                                                      SV.int IntKind.i64 (IE.var 13), SV.bool (BE.var 14)]),
                                                                                  (17,
                                                                                    [SV.int IntKind.i64 (IE.lit 4096), SV.int IntKind.i64 (IE.lit 0), SV.bool (BE.lit false),
                                                                                      SV.int IntKind.i64 (IE.lit 0), SV.bool (BE.lit false)]),
                                                                                  (16,
                                                                                    [SV.int IntKind.i64 (IE.var 5), SV.int IntKind.i64 (IE.var 6), SV.bool (BE.lit true), SV.int IntKind.i64 (IE.var 8),
                                                                                      SV.bool (BE.var 9)]),
                                                                                  (15,
                                                                                    [SV.int IntKind.i64 (IE.var 0), SV.int IntKind.i64 (IE.var 1), SV.bool (BE.var 2), SV.int IntKind.i64 (IE.var 3),
                                                                                      SV.bool (BE.var 4)])])))
                                                                          (VC.leaf 0 [SV.bool (BE.lit false)] [18, 17, 16, 15]
                                                                            [(18,
                                                                                [SV.int IntKind.i64 (IE.var 10), SV.int IntKind.i64 (IE.lit 64), SV.bool (BE.var 12), SV.int IntKind.i64 (IE.var 13),
                                                                                  SV.bool (BE.var 14)]),
                                                                              (17,
                                                                                [SV.int IntKind.i64 (IE.lit 4096), SV.int IntKind.i64 (IE.lit 0), SV.bool (BE.lit false), SV.int IntKind.i64 (IE.lit 0),
                                                                                  SV.bool (BE.lit false)]),
                                                                              (16,
                                                                                [SV.int IntKind.i64 (IE.var 5), SV.int IntKind.i64 (IE.var 6), SV.bool (BE.lit true), SV.int IntKind.i64 (IE.var 8),
                                                                                  SV.bool (BE.var 9)]),
                                                                              (15,
                                                                                [SV.int IntKind.i64 (IE.var 0), SV.int IntKind.i64 (IE.var 1), SV.bool (BE.var 2), SV.int IntKind.i64 (IE.var 3),
                                                                                  SV.bool (BE.var 4)])])))
                                                                      (VC.leaf 0 [SV.bool (BE.lit false)] [18, 17, 16, 15]
                                                                        [(18,
                                                                            [SV.int IntKind.i64 (IE.var 10), SV.int IntKind.i64 (IE.lit 64), SV.bool (BE.var 12), SV.int IntKind.i64 (IE.var 13),
                                                                              SV.bool (BE.var 14)]),
                                                                          (17,
                                                                            [SV.int IntKind.i64 (IE.lit 4096), SV.int IntKind.i64 (IE.lit 0), SV.bool (BE.lit false), SV.int IntKind.i64 (IE.lit 0),
                                                                              SV.bool (BE.lit false)]),
                                                                          (16,
                                                                            [SV.int IntKind.i64 (IE.var 5), SV.int IntKind.i64 (IE.var 6), SV.bool (BE.lit true), SV.int IntKind.i64 (IE.var 8),
                                                                              SV.bool (BE.var 9)]),
                                                                          (15,
                                                                            [SV.int IntKind.i64 (IE.var 0), SV.int IntKind.i64 (IE.var 1), SV.bool (BE.var 2), SV.int IntKind.i64 (IE.var 3),
                                                                              SV.bool (BE.var 4)])])))
                                                                  (VC.leaf 0 [SV.bool (BE.lit false)] [18, 17, 16, 15]
                                                                    [(18,
                                                                        [SV.int IntKind.i64 (IE.var 10), SV.int IntKind.i64 (IE.lit 64), SV.bool (BE.var 12), SV.int IntKind.i64 (IE.var 13),
                                                                          SV.bool (BE.var 14)]),
                                                                      (17,
                                                                        [SV.int IntKind.i64 (IE.lit 4096), SV.int IntKind.i64 (IE.lit 0), SV.bool (BE.lit false), SV.int IntKind.i64 (IE.lit 0),
                                                                          SV.bool (BE.lit false)]),
                                                                      (16,
                                                                        [SV.int IntKind.i64 (IE.var 5), SV.int IntKind.i64 (IE.var 6), SV.bool (BE.lit true), SV.int IntKind.i64 (IE.var 8),
                                                                          SV.bool (BE.var 9)]),
                                                                      (15,
                                                                        [SV.int IntKind.i64 (IE.var 0), SV.int IntKind.i64 (IE.var 1), SV.bool (BE.var 2), SV.int IntKind.i64 (IE.var 3),
                                                                          SV.bool (BE.var 4)])])))
                                                              (VC.leaf 0 [SV.bool (BE.lit false)] [18, 17, 16, 15]
                                                                [(18,
                                                                    [SV.int IntKind.i64 (IE.var 10), SV.int IntKind.i64 (IE.lit 64), SV.bool (BE.var 12), SV.int IntKind.i64 (IE.var 13),
                                                                      SV.bool (BE.var 14)]),
                                                                  (17,
                                                                    [SV.int IntKind.i64 (IE.lit 4096), SV.int IntKind.i64 (IE.lit 0), SV.bool (BE.lit false), SV.int IntKind.i64 (IE.lit 0),
                                                                      SV.bool (BE.lit false)]),
                                                                  (16,
                                                                    [SV.int IntKind.i64 (IE.var 5), SV.int IntKind.i64 (IE.var 6), SV.bool (BE.lit true), SV.int IntKind.i64 (IE.var 8),
                                                                      SV.bool (BE.var 9)]),
                                                                  (15,
                                                                    [SV.int IntKind.i64 (IE.var 0), SV.int IntKind.i64 (IE.var 1), SV.bool (BE.var 2), SV.int IntKind.i64 (IE.var 3),
                                                                      SV.bool (BE.var 4)])])))))))
                                                  (VC.gen (Op.makeSlice 40 (Operand.const (Value.int IntKind.i64 7)) (Operand.const (Value.int IntKind.i64 7))) 40
                                                    [(Operand.const (Value.int IntKind.i64 7), SV.int IntKind.i64 (IE.lit 7)), (Operand.const (Value.int IntKind.i64 7), SV.int IntKind.i64 (IE.lit 7))]
                                                    [Base.slice] (SV.var 29) [] true [18, 17, 16, 15] [18, 17, 16, 15] [18, 17, 16, 15]
                                                    [(18, [SV.int IntKind.i64 (IE.var 10), SV.int IntKind.i64 (IE.lit 64), SV.bool (BE.var 12), SV.int IntKind.i64 (IE.var 13), SV.bool (BE.var 14)]),
                                                      (17,
                                                        [SV.int IntKind.i64 (IE.lit 4096), SV.int IntKind.i64 (IE.lit 0), SV.bool (BE.lit false), SV.int IntKind.i64 (IE.lit 0),
                                                          SV.bool (BE.lit false)]),
                                                      (16, [SV.int IntKind.i64 (IE.var 5), SV.int IntKind.i64 (IE.var 6), SV.bool (BE.lit true), SV.int IntKind.i64 (IE.var 8), SV.bool (BE.var 9)]),
                                                      (15, [SV.int IntKind.i64 (IE.var 0), SV.int IntKind.i64 (IE.var 1), SV.bool (BE.var 2), SV.int IntKind.i64 (IE.var 3), SV.bool (BE.var 4)])]
                                                    (VC.gen (Op.makeSlice 40 (Operand.const (Value.int IntKind.i64 512)) (Operand.const (Value.int IntKind.i64 512))) 40
                                                      [(Operand.const (Value.int IntKind.i64 512), SV.int IntKind.i64 (IE.lit 512)),
                                                        (Operand.const (Value.int IntKind.i64 512), SV.int IntKind.i64 (IE.lit 512))]
                                                      [Base.slice] (SV.var 30) [] true [18, 17, 16, 15] [18, 17, 16, 15] [18, 17, 16, 15]
                                                      [(18, [SV.int IntKind.i64 (IE.var 10), SV.int IntKind.i64 (IE.lit 64), SV.bool (BE.var 12), SV.int IntKind.i64 (IE.var 13), SV.bool (BE.var 14)]),
                                                        (17,
                                                          [SV.int IntKind.i64 (IE.lit 4096), SV.int IntKind.i64 (IE.lit 0), SV.bool (BE.lit false), SV.int IntKind.i64 (IE.lit 0),
                                                            SV.bool (BE.lit false)]),
                                                        (16, [SV.int IntKind.i64 (IE.var 5), SV.int IntKind.i64 (IE.var 6), SV.bool (BE.lit true), SV.int IntKind.i64 (IE.var 8), SV.bool (BE.var 9)]),
                                                        (15, [SV.int IntKind.i64 (IE.var 0), SV.int IntKind.i64 (IE.var 1), SV.bool (BE.var 2), SV.int IntKind.i64 (IE.var 3), SV.bool (BE.var 4)])]
                                                      (VC.call 21
                                                        [SV.agg [SV.int IntKind.i64 (IE.var 0), SV.int IntKind.i64 (IE.var 1), SV.bool (BE.var 2), SV.int IntKind.i64 (IE.var 3), SV.bool (BE.var 4)],
                                                          SV.int IntKind.i64 (IE.lit 1), SV.bool (BE.lit false), SV.var 30, SV.var 29]
                                                        [Base.slice, Base.int IntKind.i64] (SV.tuple [SV.var 31, SV.int IntKind.i64 (IE.var 32)]) [] true [18, 17, 16, 15] [18, 17, 16, 15]
                                                        [18, 17, 16, 15]
                                                        [(18,
                                                            [SV.int IntKind.i64 (IE.var 10), SV.int IntKind.i64 (IE.lit 64), SV.bool (BE.var 12), SV.int IntKind.i64 (IE.var 13), SV.bool (BE.var 14)]),
                                                          (17,
                                                            [SV.int IntKind.i64 (IE.lit 4096), SV.int IntKind.i64 (IE.lit 0), SV.bool (BE.lit false), SV.int IntKind.i64 (IE.lit 0),
                                                              SV.bool (BE.lit false)]),
                                                          (16,
                                                            [SV.int IntKind.i64 (IE.var 5), SV.int IntKind.i64 (IE.var 6), SV.bool (BE.lit true), SV.int IntKind.i64 (IE.var 8), SV.bool (BE.var 9)]),
                                                          (15, [SV.int IntKind.i64 (IE.var 0), SV.int IntKind.i64 (IE.var 1), SV.bool (BE.var 2), SV.int IntKind.i64 (IE.var 3), SV.bool (BE.var 4)])]
                                                        (VC.call 21
                                                          [SV.agg [SV.int IntKind.i64 (IE.var 0), SV.int IntKind.i64 (IE.var 1), SV.bool (BE.var 2), SV.int IntKind.i64 (IE.var 3), SV.bool (BE.var 4)],
                                                            SV.int IntKind.i64 (IE.lit 0), SV.bool (BE.lit false), SV.cst (Value.slice none 0 0), SV.cst (Value.slice none 0 0)]
                                                          [Base.slice, Base.int IntKind.i64] (SV.tuple [SV.var 33, SV.int IntKind.i64 (IE.var 34)]) [] false [18, 17, 16, 15] [18, 17, 16, 15]
                                                          [18, 17, 16, 15]
                                                          [(18,
                                                              [SV.int IntKind.i64 (IE.var 10), SV.int IntKind.i64 (IE.lit 64), SV.bool (BE.var 12), SV.int IntKind.i64 (IE.var 13),
                                                                SV.bool (BE.var 14)]),
                                                            (17,
                                                              [SV.int IntKind.i64 (IE.lit 4096), SV.int IntKind.i64 (IE.lit 0), SV.bool (BE.lit false), SV.int IntKind.i64 (IE.lit 0),
                                                                SV.bool (BE.lit false)]),
                                                            (16,
                                                              [SV.int IntKind.i64 (IE.var 5), SV.int IntKind.i64 (IE.var 6), SV.bool (BE.lit true), SV.int IntKind.i64 (IE.var 8), SV.bool (BE.var 9)]),
                                                            (15, [SV.int IntKind.i64 (IE.var 0), SV.int IntKind.i64 (IE.var 1), SV.bool (BE.var 2), SV.int IntKind.i64 (IE.var 3), SV.bool (BE.var 4)])]
                                                          (VC.call 23
                                                            [SV.agg
                                                                [SV.int IntKind.i64 (IE.var 0), SV.int IntKind.i64 (IE.var 1), SV.bool (BE.var 2), SV.int IntKind.i64 (IE.var 3), SV.bool (BE.var 4)],
                                                              SV.int IntKind.i64 (IE.lit 2), SV.bool (BE.lit false), SV.int IntKind.i64 (IE.lit 1024), SV.int IntKind.i64 (IE.lit 16),
                                                              SV.int IntKind.i64 (IE.lit 0)]
                                                            [Base.bool] (SV.bool (BE.var 35)) [] false [18, 17, 16, 15] [18, 17, 16, 15] [18, 17, 16, 15]
                                                            [(18,
                                                                [SV.int IntKind.i64 (IE.var 10), SV.int IntKind.i64 (IE.lit 64), SV.bool (BE.var 12), SV.int IntKind.i64 (IE.var 13),
                                                                  SV.bool (BE.var 14)]),
                                                              (17,
                                                                [SV.int IntKind.i64 (IE.lit 4096), SV.int IntKind.i64 (IE.lit 0), SV.bool (BE.lit false), SV.int IntKind.i64 (IE.lit 0),
                                                                  SV.bool (BE.lit false)]),
                                                              (16,
                                                                [SV.int IntKind.i64 (IE.var 5), SV.int IntKind.i64 (IE.var 6), SV.bool (BE.lit true), SV.int IntKind.i64 (IE.var 8),
                                                                  SV.bool (BE.var 9)]),
                                                              (15,
                                                                [SV.int IntKind.i64 (IE.var 0), SV.int IntKind.i64 (IE.var 1), SV.bool (BE.var 2), SV.int IntKind.i64 (IE.var 3), SV.bool (BE.var 4)])]
                                                            (VC.split (BE.var 35)
                                                              (VC.call 23
                                                                [SV.agg
                                                                    [SV.int IntKind.i64 (IE.var 0), SV.int IntKind.i64 (IE.var 1), SV.bool (BE.var 2), SV.int IntKind.i64 (IE.var 3),
                                                                      SV.bool (BE.var 4)],
                                                                  SV.int IntKind.i64 (IE.lit 2), SV.bool (BE.lit true), SV.int IntKind.i64 (IE.lit 1024), SV.int IntKind.i64 (IE.lit 0),
                                                                  SV.int IntKind.i64 (IE.lit 0)]
                                                                [Base.bool] (SV.bool (BE.var 36)) [] false [18, 17, 16, 15] [18, 17, 16, 15] [18, 17, 16, 15]
                                                                [(18,
                                                                    [SV.int IntKind.i64 (IE.var 10), SV.int IntKind.i64 (IE.lit 64), SV.bool (BE.var 12), SV.int IntKind.i64 (IE.var 13),
                                                                      SV.bool (BE.var 14)]),
                                                                  (17,
                                                                    [SV.int IntKind.i64 (IE.lit 4096), SV.int IntKind.i64 (IE.lit 0), SV.bool (BE.lit false), SV.int IntKind.i64 (IE.lit 0),
                                                                      SV.bool (BE.lit false)]),
                                                                  (16,
                                                                    [SV.int IntKind.i64 (IE.var 5), SV.int IntKind.i64 (IE.var 6), SV.bool (BE.lit true), SV.int IntKind.i64 (IE.var 8),
                                                                      SV.bool (BE.var 9)]),
                                                                  (15,
                                                                    [SV.int IntKind.i64 (IE.var 0), SV.int IntKind.i64 (IE.var 1), SV.bool (BE.var 2), SV.int IntKind.i64 (IE.var 3),
                                                                      SV.bool (BE.var 4)])]
                                                                (VC.split (BE.var 36)
                                                                  (VC.call 23
                                                                    [SV.agg
                                                                        [SV.int IntKind.i64 (IE.var 5), SV.int IntKind.i64 (IE.var 6), SV.bool (BE.lit true), SV.int IntKind.i64 (IE.var 8),
                                                                          SV.bool (BE.var 9)],
                                                                      SV.int IntKind.i64 (IE.lit 2), SV.bool (BE.lit false), SV.int IntKind.i64 (IE.lit 1040), SV.int IntKind.i64 (IE.lit 0),
                                                                      SV.int IntKind.i64 (IE.lit 0)]
                                                                    [Base.bool] (SV.bool (BE.var 37)) [] false [18, 17, 16, 15] [18, 17, 16, 15] [18, 17, 16, 15]
                                                                    [(18,
                                                                        [SV.int IntKind.i64 (IE.var 10), SV.int IntKind.i64 (IE.lit 64), SV.bool (BE.var 12), SV.int IntKind.i64 (IE.var 13),
                                                                          SV.bool (BE.var 14)]),
                                                                      (17,
                                                                        [SV.int IntKind.i64 (IE.lit 4096), SV.int IntKind.i64 (IE.lit 0), SV.bool (BE.lit false), SV.int IntKind.i64 (IE.lit 0),
                                                                          SV.bool (BE.lit false)]),
                                                                      (16,
                                                                        [SV.int IntKind.i64 (IE.var 5), SV.int IntKind.i64 (IE.var 6), SV.bool (BE.lit true), SV.int IntKind.i64 (IE.var 8),
                                                                          SV.bool (BE.var 9)]),
                                                                      (15,
                                                                        [SV.int IntKind.i64 (IE.var 0), SV.int IntKind.i64 (IE.var 1), SV.bool (BE.var 2), SV.int IntKind.i64 (IE.var 3),
                                                                          SV.bool (BE.var 4)])]
                                                                    (VC.split (BE.var 37)
                                                                      (VC.call 23
                                                                        [SV.agg
                                                                            [SV.int IntKind.i64 (IE.lit 4096), SV.int IntKind.i64 (IE.lit 0), SV.bool (BE.lit false), SV.int IntKind.i64 (IE.lit 0),
                                                                              SV.bool (BE.lit false)],
                                                                          SV.int IntKind.i64 (IE.lit 2), SV.bool (BE.lit true), SV.int IntKind.i64 (IE.lit 0), SV.int IntKind.i64 (IE.lit 0),
                                                                          SV.int IntKind.i64 (IE.lit 2)]
                                                                        [Base.bool] (SV.bool (BE.var 38)) [] false [18, 17, 16, 15] [18, 17, 16, 15] [18, 17, 16, 15]
                                                                        [(18,
                                                                            [SV.int IntKind.i64 (IE.var 10), SV.int IntKind.i64 (IE.lit 64), SV.bool (BE.var 12), SV.int IntKind.i64 (IE.var 13),
                                                                              SV.bool (BE.var 14)]),
                                                                          (17,
                                                                            [SV.int IntKind.i64 (IE.lit 4096), SV.int IntKind.i64 (IE.lit 0), SV.bool (BE.lit false), SV.int IntKind.i64 (IE.lit 0),
                                                                              SV.bool (BE.lit false)]),
                                                                          (16,
                                                                            [SV.int IntKind.i64 (IE.var 5), SV.int IntKind.i64 (IE.var 6), SV.bool (BE.lit true), SV.int IntKind.i64 (IE.var 8),
                                                                              SV.bool (BE.var 9)]),
                                                                          (15,
                                                                            [SV.int IntKind.i64 (IE.var 0), SV.int IntKind.i64 (IE.var 1), SV.bool (BE.var 2), SV.int IntKind.i64 (IE.var 3),
                                                                              SV.bool (BE.var 4)])]
                                                                        (VC.split (BE.var 38)
                                                                          (VC.call 18 [SV.int IntKind.i64 (IE.var 32)] [Base.int IntKind.i64] (SV.int IntKind.i64 (IE.var 39)) [] false [18, 17, 16, 15]
                                                                            [18, 17, 16, 15] [18, 17, 16, 15]
                                                                            [(18,
                                                                                [SV.int IntKind.i64 (IE.var 10), SV.int IntKind.i64 (IE.lit 64), SV.bool (BE.var 12), SV.int IntKind.i64 (IE.var 13),
                                                                                  SV.bool (BE.var 14)]),
                                                                              (17,
                                                                                [SV.int IntKind.i64 (IE.lit 4096), SV.int IntKind.i64 (IE.lit 0), SV.bool (BE.lit false), SV.int IntKind.i64 (IE.lit 0),
                                                                                  SV.bool (BE.lit false)]),
                                                                              (16,
                                                                                [SV.int IntKind.i64 (IE.var 5), SV.int IntKind.i64 (IE.var 6), SV.bool (BE.lit true), SV.int IntKind.i64 (IE.var 8),
                                                                                  SV.bool (BE.var 9)]),
                                                                              (15,
                                                                                [SV.int IntKind.i64 (IE.var 0), SV.int IntKind.i64 (IE.var 1), SV.bool (BE.var 2), SV.int IntKind.i64 (IE.var 3),
                                                                                  SV.bool (BE.var 4)])]
                                                                            (VC.split (BE.eq (IE.var 39) (IE.lit 4))
                                                                              (VC.split (BE.eq (IE.len 33) (IE.lit 0))
                                                                                (VC.call 18 [SV.int IntKind.i64 (IE.var 34)] [Base.int IntKind.i64] (SV.int IntKind.i64 (IE.var 40)) [] false
                                                                                  [18, 17, 16, 15] [18, 17, 16, 15] [18, 17, 16, 15]
                                                                                  [(18,
                                                                                      [SV.int IntKind.i64 (IE.var 10), SV.int IntKind.i64 (IE.lit 64), SV.bool (BE.var 12),
                                                                                        SV.int IntKind.i64 (IE.var 13), SV.bool (BE.var 14)]),
                                                                                    (17,
                                                                                      [SV.int IntKind.i64 (IE.lit 4096), SV.int IntKind.i64 (IE.lit 0), SV.bool (BE.lit false),
                                                                                        SV.int IntKind.i64 (IE.lit 0), SV.bool (BE.lit false)]),
                                                                                    (16,
                                                                                      [SV.int IntKind.i64 (IE.var 5), SV.int IntKind.i64 (IE.var 6), SV.bool (BE.lit true),
                                                                                        SV.int IntKind.i64 (IE.var 8), SV.bool (BE.var 9)]),
                                                                                    (15,
                                                                                      [SV.int IntKind.i64 (IE.var 0), SV.int IntKind.i64 (IE.var 1), SV.bool (BE.var 2), SV.int IntKind.i64 (IE.var 3),
                                                                                        SV.bool (BE.var 4)])]
                                                                                  (VC.leaf 0 [SV.bool (BE.eq (IE.var 40) (IE.lit 0))] [18, 17, 16, 15]
                                                                                    [(18,
                                                                                        [SV.int IntKind.i64 (IE.var 10), SV.int IntKind.i64 (IE.lit 64), SV.bool (BE.var 12),
                                                                                          SV.int IntKind.i64 (IE.var 13), SV.bool (BE.var 14)]),
                                                                                      (17,
                                                                                        [SV.int IntKind.i64 (IE.lit 4096), SV.int IntKind.i64 (IE.lit 0), SV.bool (BE.lit false),
                                                                                          SV.int IntKind.i64 (IE.lit 0), SV.bool (BE.lit false)]),
                                                                                      (16,
                                                                                        [SV.int IntKind.i64 (IE.var 5), SV.int IntKind.i64 (IE.var 6), SV.bool (BE.lit true),
                                                                                          SV.int IntKind.i64 (IE.var 8), SV.bool (BE.var 9)]),
                                                                                      (15,
                                                                                        [SV.int IntKind.i64 (IE.var 0), SV.int IntKind.i64 (IE.var 1), SV.bool (BE.var 2),
                                                                                          SV.int IntKind.i64 (IE.var 3), SV.bool (BE.var 4)])]))
                                                                                (VC.leaf 0 [SV.bool (BE.lit false)] [18, 17, 16, 15]
                                                                                  [(18,
                                                                                      [SV.int IntKind.i64 (IE.var 10), SV.int IntKind.i64 (IE.lit 64), SV.bool (BE.var 12),
                                                                                        SV.int IntKind.i64 (IE.var 13), SV.bool (BE.var 14)]),
                                                                                    (17,
                                                                                      [SV.int IntKind.i64 (IE.lit 4096), SV.int IntKind.i64 (IE.lit 0), SV.bool (BE.lit false),
                                                                                        SV.int IntKind.i64 (IE.lit 0), SV.bool (BE.lit false)]),
                                                                                    (16,
                                                                                      [SV.int IntKind.i64 (IE.var 5), SV.int IntKind.i64 (IE.var 6), SV.bool (BE.lit true),
                                                                                        SV.int IntKind.i64 (IE.var 8), SV.bool (BE.var 9)]),
                                                                                    (15,
                                                                                      [SV.int IntKind.i64 (IE.var 0), SV.int IntKind.i64 (IE.var 1), SV.bool (BE.var 2), SV.int IntKind.i64 (IE.var 3),
                                                                                        SV.bool (BE.var 4)])]))
                                                                              (VC.leaf 0 [SV.bool (BE.lit false)] [18, 17, 16, 15]
                                                                                [(18,
                                                                                    [SV.int IntKind.i64 (IE.var 10), SV.int IntKind.i64 (IE.lit 64), SV.bool (BE.var 12),
                                                                                      SV.int IntKind.i64 (IE.var 13), SV.bool (BE.var 14)]),
                                                                                  (17,
                                                                                    [SV.int IntKind.i64 (IE.lit 4096), SV.int IntKind.i64 (IE.lit 0), SV.bool (BE.lit false),
                                                                                      SV.int IntKind.i64 (IE.lit 0), SV.bool (BE.lit false)]),
                                                                                  (16,
                                                                                    [SV.int IntKind.i64 (IE.var 5), SV.int IntKind.i64 (IE.var 6), SV.bool (BE.lit true), SV.int IntKind.i64 (IE.var 8),
                                                                                      SV.bool (BE.var 9)]),
                                                                                  (15,
                                                                                    [SV.int IntKind.i64 (IE.var 0), SV.int IntKind.i64 (IE.var 1), SV.bool (BE.var 2), SV.int IntKind.i64 (IE.var 3),
                                                                                      SV.bool (BE.var 4)])])))
                                                                          (VC.leaf 0 [SV.bool (BE.lit false)] [18, 17, 16, 15]
                                                                            [(18,
                                                                                [SV.int IntKind.i64 (IE.var 10), SV.int IntKind.i64 (IE.lit 64), SV.bool (BE.var 12), SV.int IntKind.i64 (IE.var 13),
                                                                                  SV.bool (BE.var 14)]),
                                                                              (17,
                                                                                [SV.int IntKind.i64 (IE.lit 4096), SV.int IntKind.i64 (IE.lit 0), SV.bool (BE.lit false), SV.int IntKind.i64 (IE.lit 0),
                                                                                  SV.bool (BE.lit false)]),
                                                                              (16,
                                                                                [SV.int IntKind.i64 (IE.var 5), SV.int IntKind.i64 (IE.var 6), SV.bool (BE.lit true), SV.int IntKind.i64 (IE.var 8),
                                                                                  SV.bool (BE.var 9)]),
                                                                              (15,
                                                                                [SV.int IntKind.i64 (IE.var 0), SV.int IntKind.i64 (IE.var 1), SV.bool (BE.var 2), SV.int IntKind.i64 (IE.var 3),
                                                                                  SV.bool (BE.var 4)])])))
                                                                      (VC.leaf 0 [SV.bool (BE.lit false)] [18, 17, 16, 15]
                                                                        [(18,
                                                                            [SV.int IntKind.i64 (IE.var 10), SV.int IntKind.i64 (IE.lit 64), SV.bool (BE.var 12), SV.int IntKind.i64 (IE.var 13),
                                                                              SV.bool (BE.var 14)]),
                                                                          (17,
                                                                            [SV.int IntKind.i64 (IE.lit 4096), SV.int IntKind.i64 (IE.lit 0), SV.bool (BE.lit false), SV.int IntKind.i64 (IE.lit 0),
                                                                              SV.bool (BE.lit false)]),
                                                                          (16,
                                                                            [SV.int IntKind.i64 (IE.var 5), SV.int IntKind.i64 (IE.var 6), SV.bool (BE.lit true), SV.int IntKind.i64 (IE.var 8),
                                                                              SV.bool (BE.var 9)]),
                                                                          (15,
                                                                            [SV.int IntKind.i64 (IE.var 0), SV.int IntKind.i64 (IE.var 1), SV.bool (BE.var 2), SV.int IntKind.i64 (IE.var 3),
                                                                              SV.bool (BE.var 4)])])))
                                                                  (VC.leaf 0 [SV.bool (BE.lit false)] [18, 17, 16, 15]
                                                                    [(18,
                                                                        [SV.int IntKind.i64 (IE.var 10), SV.int IntKind.i64 (IE.lit 64), SV.bool (BE.var 12), SV.int IntKind.i64 (IE.var 13),
                                                                          SV.bool (BE.var 14)]),
                                                                      (17,
                                                                        [SV.int IntKind.i64 (IE.lit 4096), SV.int IntKind.i64 (IE.lit 0), SV.bool (BE.lit false), SV.int IntKind.i64 (IE.lit 0),
                                                                          SV.bool (BE.lit false)]),
                                                                      (16,
                                                                        [SV.int IntKind.i64 (IE.var 5), SV.int IntKind.i64 (IE.var 6), SV.bool (BE.lit true), SV.int IntKind.i64 (IE.var 8),
                                                                          SV.bool (BE.var 9)]),
                                                                      (15,
                                                                        [SV.int IntKind.i64 (IE.var 0), SV.int IntKind.i64 (IE.var 1), SV.bool (BE.var 2), SV.int IntKind.i64 (IE.var 3),
                                                                          SV.bool (BE.var 4)])])))
                                                              (VC.leaf 0 [SV.bool (BE.lit false)] [18, 17, 16, 15]
                                                                [(18,
                                                                    [SV.int IntKind.i64 (IE.var 10), SV.int IntKind.i64 (IE.lit 64), SV.bool (BE.var 12), SV.int IntKind.i64 (IE.var 13),
                                                                      SV.bool (BE.var 14)]),
                                                                  (17,
                                                                    [SV.int IntKind.i64 (IE.lit 4096), SV.int IntKind.i64 (IE.lit 0), SV.bool (BE.lit false), SV.int IntKind.i64 (IE.lit 0),
                                                                      SV.bool (BE.lit false)]),
                                                                  (16,
                                                                    [SV.int IntKind.i64 (IE.var 5), SV.int IntKind.i64 (IE.var 6), SV.bool (BE.lit true), SV.int IntKind.i64 (IE.var 8),
                                                                      SV.bool (BE.var 9)]),
                                                                  (15,
                                                                    [SV.int IntKind.i64 (IE.var 0), SV.int IntKind.i64 (IE.var 1), SV.bool (BE.var 2), SV.int IntKind.i64 (IE.var 3),
                                                                      SV.bool (BE.var 4)])]))))))))))))))))))))))))))))))) := by kernel_rfl

theorem t43 : exFn { P := Try.prog, loops := fun r => if Nat.beq r 3 then some ⟨1, [(11, .int .i64)], []⟩ else none } 43 [.int .i64 (.var 0), .fn 44 [.ptr 1 0, .ptr 2 0, .ptr 3 0]] [.int .i64, .ptr, .ptr, .ptr] [] =
  VC.gen (Op.makeSlice 42 (Operand.tmp 7) (Operand.tmp 7)) 42 [(Operand.tmp 7, SV.int IntKind.i64 (IE.var 0)), (Operand.tmp 7, SV.int IntKind.i64 (IE.var 0))] [Base.slice] (SV.var 4) [] false [] [] []
  []
  (VC.loop 1 [SV.int IntKind.i64 (IE.lit 0)] [Base.int IntKind.i64] [] [] [] []
    (VC.split (BE.lt (IE.var 5) (IE.len 4))
      (VC.call 44 [SV.int IntKind.i64 (IE.var 5), SV.ptr 1 0, SV.ptr 2 0, SV.ptr 3 0] [Base.slice, Base.slice] (SV.agg [SV.var 6, SV.var 7]) [] false [] [] [] []
        (VC.ob (BE.le (IE.lit 0) (IE.var 5))
          (VC.ob (BE.lt (IE.var 5) (IE.len 4))
            (VC.ob (BE.not (BE.nil 4))
              (VC.gen (Op.store 70 (Operand.tmp 19) (Operand.tmp 18)) 0 [(Operand.tmp 19, SV.elt 4 0 (IE.var 5) 2 0), (Operand.tmp 18, SV.agg [SV.var 6, SV.var 7])] []
                (SV.cst (Value.tuple { toList := [] })) [] false [] [] [] []
                (VC.ob (BE.le (IE.lit (-9223372036854775808)) (IE.add (IE.var 5) (IE.lit 1)))
                  (VC.ob (BE.le (IE.add (IE.var 5) (IE.lit 1)) (IE.lit 9223372036854775807)) (VC.leaf 1 [SV.int IntKind.i64 (IE.add (IE.var 5) (IE.lit 1))] [] []))))))))
      (VC.leaf 0 [SV.var 4] [] []))) := by kernel_rfl
theorem c42R (s : Value) (w : World) (hs : ∃ a n c, s = .slice a n c) : GivesR Try.prog 42 [s] w (fun v w' => ∃ b, w.heap.size ≤ b ∧ v = .func (.func 53) #[] #[.pointer (some ⟨b, 0, none⟩)] ∧ HasBlk w' (.pointer (some ⟨b, 0, none⟩)) [s]) := by
  obtain ⟨a, n, c, rfl⟩ := hs
  refine givesR mix t42 rfl rfl (ε := [.slice a n c]) ⟨⟨_, _, _, rfl⟩, trivial⟩ (den_blk fun b hb _ _ => den_leafR _ rfl fun w' hw => ⟨b, hb, ?_, hw.facts.1⟩)
  rfl
theorem c43zero (p q r : Option Addr) (w : World) : GivesR Try.prog 43 [.int .i64 0, .func (.func 44) #[] #[.pointer p, .pointer q, .pointer r]] w (fun v _ => ∃ a c, v = .slice a 0 c) := by
  have h := givesR mix t43 rfl rfl (w := w) (R := fun v _ => ∃ a c, v = .slice a 0 c) (ε := [.int .i64 0, .pointer p, .pointer q, .pointer r]) ⟨⟨_, rfl⟩, ⟨_, rfl⟩, ⟨_, rfl⟩, ⟨_, rfl⟩, trivial⟩ ?_
  · have e : denL [.int .i64 0, .pointer p, .pointer q, .pointer r] [.int .i64 (.var 0), .fn 44 [.ptr 1 0, .ptr 2 0, .ptr 3 0]] = [.int .i64 0, .func (.func 44) #[] #[.pointer p, .pointer q, .pointer r]] := by
      simp [denL, SV.den, IE.den, nth, vint, vaddr, addO_zero]
    rw [e] at h
    exact h
  · refine den_make (n := 0) (e := 70) (i := Try.t70) (z := .agg #[.slice none 0 0, .slice none 0 0]) Try.underlying42 (by kernel_rfl) (by kernel_rfl) rfl rfl (by simp) (by decide) (fun _ => rfl) (fun w1 b w1' _ _ _ _ => ?_)
    refine den_loop (fun ls _ => ls = [.int .i64 0]) (fun _ _ => 0) (fun _ _ => rfl) ?_
    rintro w2 l w3 _ _ rfl _ _
    refine den_split_false rfl (den_leaf' fun w4 h4 => (if_neg (by decide)).mpr ⟨_, rfl, ⟨_, _, rfl⟩, h4.base⟩)
def spE (z m : Int) (x : Bool) (t : Int) (fi : Bool) (n : Int) (act : Bool) (A B : Int) : Int :=
  if lOk z m x t fi n act then (if exE A (lenA z x (mvd m act) n) = 0 then exE B (lenB x (mvd m act) n) else exE A (lenA z x (mvd m act) n)) else 2
theorem c21err (z m : Int) (x : Bool) (t : Int) (fi : Bool) (n : Int) (act : Bool) (a a' : Option Addr) (A c A' c' : Nat) (e : Int) (he : spE z m x t fi n act A A' = e) (hne : e ≠ 0) (w : World) :
    Gives Try.prog 21 [fmtV z m x t fi, .int .i64 n, .bool act, .slice a A c, .slice a' A' c'] w (.tuple #[.slice none 0 0, .int .i64 e]) := by
  refine gives mix t21 rfl rfl (ε := [.int .i64 z, .int .i64 m, .bool x, .int .i64 t, .bool fi, .int .i64 n, .bool act, .slice a A c, .slice a' A' c']) (fitsF _ _ _ _ _ ⟨⟨_, rfl⟩, ⟨_, rfl⟩, ⟨_, _, _, rfl⟩, ⟨_, _, _, rfl⟩, trivial⟩) (den_blk fun b _ _ _ => ?_)
  cases h : lOk z m x t fi n act with
  | false =>
    have he : e = 2 := by rw [← he]; simp [spE, h]
    subst he
    exact den_call [.int .i64 0, .int .i64 0, .bool false, .int .i64 0, .bool false, .int .i64 0, .int .i64 2] (fitsF _ _ _ _ _ ⟨⟨_, rfl⟩, ⟨_, rfl⟩, trivial⟩) rfl (fun w _ => c39no z m x t fi n act h w) (fun w1 w1' _ _ => den_blk fun b2 _ _ _ => den_split_true rfl (den_leaf rfl))
  | true =>
    have hp := lOk_parts h
    have hf := fOk_parts hp.1
    have he : (if exE A (lenA z x (mvd m act) n) = 0 then exE A' (lenB x (mvd m act) n) else exE A (lenA z x (mvd m act) n)) = e := by rw [← he]; simp [spE, h]
    refine den_call [.int .i64 z, .int .i64 m, .bool x, .int .i64 t, .bool fi, .int .i64 (mvd m act), .int .i64 0] (fitsF _ _ _ _ _ ⟨⟨_, rfl⟩, ⟨_, rfl⟩, trivial⟩) rfl (fun w _ => c39ok z m x t fi n act h w) (fun w1 w1' _ _ => den_blk fun b2 _ _ _ => den_split_false rfl ?_)
    refine den_call [.int .i64 (lenA z x (mvd m act) n), .int .i64 (lenB x (mvd m act) n)] ⟨⟨_, rfl⟩, ⟨_, rfl⟩, trivial⟩ rfl (fun w _ => c40 z m x t fi (mvd m act) n (by omega) (mvd_range hf.2) ⟨hp.2.1, hp.2.2.1⟩ w) (fun w1 w1' _ _ => ?_)
    refine den_call_int (x := exE A (lenA z x (mvd m act) n)) (fun w _ => c41 _ _ _ _ w) rfl (fun w1 w1' _ _ => ?_)
    by_cases h1 : exE A (lenA z x (mvd m act) n) = 0
    · rw [if_pos h1] at he
      rw [h1]
      refine den_split_false rfl (den_call_int (x := exE A' (lenB x (mvd m act) n)) (fun w _ => c41 _ _ _ _ w) rfl (fun w1 w1' _ _ => ?_))
      rw [he]
      exact den_split_true (by simp [BE.den, IE.den, nth, vint, hne]) (den_leaf rfl)
    · rw [if_neg h1] at he
      rw [he]
      exact den_split_true (by simp [BE.den, IE.den, nth, vint, hne]) (den_leaf rfl)
theorem c21zero (z m : Int) (x : Bool) (t : Int) (fi : Bool) (act : Bool) (a a' : Option Addr) (c c' : Nat) (h : lOk z m x t fi 0 act = true) (w : World) :
    GivesR Try.prog 21 [fmtV z m x t fi, .int .i64 0, .bool act, .slice a 0 c, .slice a' 0 c'] w (fun v _ => ∃ a c, v = .tuple #[.slice a 0 c, .int .i64 0]) := by
  refine givesR mix t21 rfl rfl (ε := [.int .i64 z, .int .i64 m, .bool x, .int .i64 t, .bool fi, .int .i64 0, .bool act, .slice a 0 c, .slice a' 0 c']) (fitsF _ _ _ _ _ ⟨⟨_, rfl⟩, ⟨_, rfl⟩, ⟨_, _, _, rfl⟩, ⟨_, _, _, rfl⟩, trivial⟩) (den_blk fun b _ _ _ => ?_)
  have hp := lOk_parts h
  have hf := fOk_parts hp.1
  have h1 : lenA z x (mvd m act) 0 = 0 := by simp [lenA]
  have h2 : lenB x (mvd m act) 0 = 0 := by simp [lenB]
  refine den_call [.int .i64 z, .int .i64 m, .bool x, .int .i64 t, .bool fi, .int .i64 (mvd m act), .int .i64 0] (fitsF _ _ _ _ _ ⟨⟨_, rfl⟩, ⟨_, rfl⟩, trivial⟩) rfl (fun w _ => c39ok z m x t fi 0 act h w) (fun w1 w1' _ _ => den_blk fun b2 _ _ _ => den_split_false rfl ?_)
  refine den_call [.int .i64 0, .int .i64 0] ⟨⟨_, rfl⟩, ⟨_, rfl⟩, trivial⟩ rfl (fun w _ => (c40 z m x t fi (mvd m act) 0 (by omega) (mvd_range hf.2) ⟨by decide, by decide⟩ w).to (by rw [h1, h2]; rfl)) (fun w1 w1' _ _ => ?_)
  refine den_call_int (x := 0) (fun w _ => c41 _ _ _ _ w) rfl (fun w1 w1' _ _ => den_split_false rfl ?_)
  refine den_call_int (x := 0) (fun w _ => c41 _ _ _ _ w) rfl (fun w1 w1' _ _ => den_split_false rfl ?_)
  refine den_callR (fun _ l _ => ∃ v, l = [v]) (fun w _ => (c42R _ w ⟨_, _, _, rfl⟩).mono ?_) ?_
  · rintro v w' ⟨b, _, rfl, _⟩; exact ⟨[.func (.func 53) #[] #[.pointer (some ⟨b, 0, none⟩)]], ⟨(rfl : isFn (.func (.func 53) #[] #[.pointer (some ⟨b, 0, none⟩)]) = true), trivial⟩, rfl, _, rfl⟩
  rintro w1 _ w2 _ _ ⟨v1, rfl⟩ _
  refine den_callR (fun _ l _ => ∃ v, l = [v]) (fun w _ => (c42R _ w ⟨_, _, _, rfl⟩).mono ?_) ?_
  · rintro v w' ⟨b, _, rfl, _⟩; exact ⟨[.func (.func 53) #[] #[.pointer (some ⟨b, 0, none⟩)]], ⟨(rfl : isFn (.func (.func 53) #[] #[.pointer (some ⟨b, 0, none⟩)]) = true), trivial⟩, rfl, _, rfl⟩
  rintro w1 _ w2 _ _ ⟨v2, rfl⟩ _
  refine den_blk fun b3 _ _ _ => den_blk fun b4 _ _ _ => den_split (fun _ => ?_) (fun _ => ?_)
  all_goals
    refine den_callR (fun _ l _ => ∃ a c, l = [.slice a 0 c]) (fun w _ => (c43zero _ _ _ w).mono ?_) ?_
    · rintro v w' ⟨a, c, rfl⟩; exact ⟨[_], ⟨⟨_, _, _, rfl⟩, trivial⟩, rfl, _, _, rfl⟩
    rintro w1 _ w2 _ _ ⟨a3, c3, rfl⟩ _
    exact den_leafR _ rfl (fun _ _ => ⟨a3, c3, rfl⟩)
end Go.Proofs.Ytngemhmjpphpaaa
