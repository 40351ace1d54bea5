/- What the functions of the chapter come to, printed by a program of the prover's and checked by the kernel. No conditions. -/
import Derived.Test.YtfjimghpjopgoaaSxX
import Derived.Test.YtfjimghpjopgoaaProg
import Derived.KernelRfl
set_option maxRecDepth 100000
set_option linter.unusedVariables false
namespace Go.Proofs.Ytfjimghpjopgoaa
open Go.Sx

theorem t6 : exFn { P := Try.prog, loops := (fun r => if Nat.beq r 5 then some ⟨1, [(7, .int .i64), (5, .ptr)], [6]⟩ else none), drops := (fun r => if Nat.beq r 5 then [5] else []), ranged := true, ranges := fun t => if Nat.beq t 87 then some ⟨2, [3, 4], [15]⟩ else none } 6 [.var 0, .agg [.int .i64 (.var 1), .int .i64 (.var 2), .int .i64 (.var 3), .int .i64 (.var 4), .bool (.var 5), .int .i64 (.var 6), .int .i64 (.var 7), .int .i64 (.var 8), .int .i64 (.var 9), .bool (.var 10)]] [.slice, .int .i64, .int .i64, .int .i64, .int .i64, .bool, .int .i64, .int .i64, .int .i64, .int .i64, .bool] [] =
  VC.blk
  (VC.blk
    (VC.split (BE.lt (IE.lit 30) (IE.len 0))
      (VC.call 9 [] [Base.bool] (SV.bool (BE.var 13)) [] false [] [] [12, 11]
        [(12, [SV.bool (BE.lit false)]),
          (11,
            [SV.int IntKind.i64 (IE.var 1), SV.int IntKind.i64 (IE.var 2), SV.int IntKind.i64 (IE.var 3), SV.int IntKind.i64 (IE.var 4), SV.bool (BE.var 5), SV.int IntKind.i64 (IE.var 6),
              SV.int IntKind.i64 (IE.var 7), SV.int IntKind.i64 (IE.var 8), SV.int IntKind.i64 (IE.var 9), SV.bool (BE.var 10)])]
        (VC.leafM 0 [SV.bool (BE.var 13)] [12]
          [(12, [SV.bool (BE.var 13)]),
            (11,
              [SV.int IntKind.i64 (IE.var 1), SV.int IntKind.i64 (IE.var 2), SV.int IntKind.i64 (IE.var 3), SV.int IntKind.i64 (IE.var 4), SV.bool (BE.var 5), SV.int IntKind.i64 (IE.var 6),
                SV.int IntKind.i64 (IE.var 7), SV.int IntKind.i64 (IE.var 8), SV.int IntKind.i64 (IE.var 9), SV.bool (BE.var 10)])]))
      (VC.blk
        (VC.blk
          (VC.loop 1 [SV.int IntKind.i64 (IE.lit 0), SV.ptr 13 0, SV.cst (Value.slice none 0 0)] [Base.int IntKind.i64, Base.ptr, Base.slice] [14] [14, 12, 11]
            [(14, [SV.cst (Value.slice none 0 0)]), (13, [SV.cst (Value.slice none 0 0)]), (12, [SV.bool (BE.lit false)]),
              (11,
                [SV.int IntKind.i64 (IE.var 1), SV.int IntKind.i64 (IE.var 2), SV.int IntKind.i64 (IE.var 3), SV.int IntKind.i64 (IE.var 4), SV.bool (BE.var 5), SV.int IntKind.i64 (IE.var 6),
                  SV.int IntKind.i64 (IE.var 7), SV.int IntKind.i64 (IE.var 8), SV.int IntKind.i64 (IE.var 9), SV.bool (BE.var 10)])]
            [(14, [SV.var 17]), (12, [SV.bool (BE.lit false)]),
              (11,
                [SV.int IntKind.i64 (IE.var 1), SV.int IntKind.i64 (IE.var 2), SV.int IntKind.i64 (IE.var 3), SV.int IntKind.i64 (IE.var 4), SV.bool (BE.var 5), SV.int IntKind.i64 (IE.var 6),
                  SV.int IntKind.i64 (IE.var 7), SV.int IntKind.i64 (IE.var 8), SV.int IntKind.i64 (IE.var 9), SV.bool (BE.var 10)])]
            (VC.split (BE.lt (IE.var 15) (IE.len 0))
              (VC.start true [] [14, 12, 11]
                [(14, [SV.var 17]), (12, [SV.bool (BE.lit false)]),
                  (11,
                    [SV.int IntKind.i64 (IE.var 1), SV.int IntKind.i64 (IE.var 2), SV.int IntKind.i64 (IE.var 3), SV.int IntKind.i64 (IE.var 4), SV.bool (BE.var 5), SV.int IntKind.i64 (IE.var 6),
                      SV.int IntKind.i64 (IE.var 7), SV.int IntKind.i64 (IE.var 8), SV.int IntKind.i64 (IE.var 9), SV.bool (BE.var 10)])]
                (VC.ob (BE.le (IE.lit 0) (IE.var 15))
                  (VC.ob (BE.lt (IE.var 15) (IE.len 0))
                    (VC.ob (BE.not (BE.nil 0))
                      (VC.load (SV.elt 0 0 (IE.var 15) 5 0) [Base.int IntKind.i64, Base.int IntKind.i64, Base.int IntKind.i64, Base.int IntKind.i64, Base.bool]
                        (VC.call 23
                          [SV.var 16, SV.agg [SV.var 17],
                            SV.agg [SV.int IntKind.i64 (IE.var 18), SV.int IntKind.i64 (IE.var 19), SV.int IntKind.i64 (IE.var 20), SV.int IntKind.i64 (IE.var 21), SV.bool (BE.var 22)]]
                          [Base.ptr, Base.slice, Base.bool] (SV.tuple [SV.var 23, SV.agg [SV.var 24], SV.bool (BE.var 25)]) [] true [] [] [14, 12, 11]
                          [(14, [SV.var 17]), (12, [SV.bool (BE.lit false)]),
                            (11,
                              [SV.int IntKind.i64 (IE.var 1), SV.int IntKind.i64 (IE.var 2), SV.int IntKind.i64 (IE.var 3), SV.int IntKind.i64 (IE.var 4), SV.bool (BE.var 5),
                                SV.int IntKind.i64 (IE.var 6), SV.int IntKind.i64 (IE.var 7), SV.int IntKind.i64 (IE.var 8), SV.int IntKind.i64 (IE.var 9), SV.bool (BE.var 10)])]
                          (VC.ob (BE.le (IE.lit (-9223372036854775808)) (IE.add (IE.var 15) (IE.lit 1)))
                            (VC.ob (BE.le (IE.add (IE.var 15) (IE.lit 1)) (IE.lit 9223372036854775807))
                              (VC.leaf 1 [SV.int IntKind.i64 (IE.add (IE.var 15) (IE.lit 1)), SV.var 23, SV.var 24] [14]
                                [(14, [SV.var 24]), (12, [SV.bool (BE.lit false)]),
                                  (11,
                                    [SV.int IntKind.i64 (IE.var 1), SV.int IntKind.i64 (IE.var 2), SV.int IntKind.i64 (IE.var 3), SV.int IntKind.i64 (IE.var 4), SV.bool (BE.var 5),
                                      SV.int IntKind.i64 (IE.var 6), SV.int IntKind.i64 (IE.var 7), SV.int IntKind.i64 (IE.var 8), SV.int IntKind.i64 (IE.var 9), SV.bool (BE.var 10)])])))))))))
              (VC.start true [] [14, 12, 11]
                [(14, [SV.var 17]), (12, [SV.bool (BE.lit false)]),
                  (11,
                    [SV.int IntKind.i64 (IE.var 1), SV.int IntKind.i64 (IE.var 2), SV.int IntKind.i64 (IE.var 3), SV.int IntKind.i64 (IE.var 4), SV.bool (BE.var 5), SV.int IntKind.i64 (IE.var 6),
                      SV.int IntKind.i64 (IE.var 7), SV.int IntKind.i64 (IE.var 8), SV.int IntKind.i64 (IE.var 9), SV.bool (BE.var 10)])]
                (VC.both
                  (VC.call 24 [SV.var 16] [Base.ptr] (SV.var 18) [] true [] [] [14, 12, 11]
                    [(14, [SV.var 17]), (12, [SV.bool (BE.lit false)]),
                      (11,
                        [SV.int IntKind.i64 (IE.var 1), SV.int IntKind.i64 (IE.var 2), SV.int IntKind.i64 (IE.var 3), SV.int IntKind.i64 (IE.var 4), SV.bool (BE.var 5), SV.int IntKind.i64 (IE.var 6),
                          SV.int IntKind.i64 (IE.var 7), SV.int IntKind.i64 (IE.var 8), SV.int IntKind.i64 (IE.var 9), SV.bool (BE.var 10)])]
                    (VC.both
                      (VC.call 25 [SV.var 16] [Base.func] (SV.var 19) [] true [] [] [14, 12, 11]
                        [(14, [SV.var 17]), (12, [SV.bool (BE.lit false)]),
                          (11,
                            [SV.int IntKind.i64 (IE.var 1), SV.int IntKind.i64 (IE.var 2), SV.int IntKind.i64 (IE.var 3), SV.int IntKind.i64 (IE.var 4), SV.bool (BE.var 5),
                              SV.int IntKind.i64 (IE.var 6), SV.int IntKind.i64 (IE.var 7), SV.int IntKind.i64 (IE.var 8), SV.int IntKind.i64 (IE.var 9), SV.bool (BE.var 10)])]
                        (VC.blk
                          (VC.call 23
                            [SV.var 16, SV.agg [SV.var 17],
                              SV.agg [SV.int IntKind.i64 (IE.var 1), SV.int IntKind.i64 (IE.var 2), SV.int IntKind.i64 (IE.var 3), SV.int IntKind.i64 (IE.var 4), SV.bool (BE.var 5)]]
                            [Base.ptr, Base.slice, Base.bool] (SV.tuple [SV.var 21, SV.agg [SV.var 22], SV.bool (BE.var 23)]) [] false [20] [] [20, 14, 12, 11]
                            [(20, [SV.var 17]), (14, [SV.var 17]), (12, [SV.bool (BE.lit false)]),
                              (11,
                                [SV.int IntKind.i64 (IE.var 1), SV.int IntKind.i64 (IE.var 2), SV.int IntKind.i64 (IE.var 3), SV.int IntKind.i64 (IE.var 4), SV.bool (BE.var 5),
                                  SV.int IntKind.i64 (IE.var 6), SV.int IntKind.i64 (IE.var 7), SV.int IntKind.i64 (IE.var 8), SV.int IntKind.i64 (IE.var 9), SV.bool (BE.var 10)])]
                            (VC.blk
                              (VC.call 23
                                [SV.var 18, SV.agg [SV.var 17],
                                  SV.agg [SV.int IntKind.i64 (IE.var 6), SV.int IntKind.i64 (IE.var 7), SV.int IntKind.i64 (IE.var 8), SV.int IntKind.i64 (IE.var 9), SV.bool (BE.var 10)]]
                                [Base.ptr, Base.slice, Base.bool] (SV.tuple [SV.var 25, SV.agg [SV.var 26], SV.bool (BE.var 27)]) [] false [24] [] [24, 20, 14, 12, 11]
                                [(24, [SV.var 22]), (20, [SV.var 17]), (14, [SV.var 17]), (12, [SV.bool (BE.lit false)]),
                                  (11,
                                    [SV.int IntKind.i64 (IE.var 1), SV.int IntKind.i64 (IE.var 2), SV.int IntKind.i64 (IE.var 3), SV.int IntKind.i64 (IE.var 4), SV.bool (BE.var 5),
                                      SV.int IntKind.i64 (IE.var 6), SV.int IntKind.i64 (IE.var 7), SV.int IntKind.i64 (IE.var 8), SV.int IntKind.i64 (IE.var 9), SV.bool (BE.var 10)])]
                                (VC.blk
                                  (VC.split (BE.nil 19)
                                    (VC.leafM 0 [SV.bool (BE.lit false)] [12, 28]
                                      [(28, [SV.var 26]), (24, [SV.var 22]), (20, [SV.var 17]), (14, [SV.var 17]), (12, [SV.bool (BE.lit false)]),
                                        (11,
                                          [SV.int IntKind.i64 (IE.var 1), SV.int IntKind.i64 (IE.var 2), SV.int IntKind.i64 (IE.var 3), SV.int IntKind.i64 (IE.var 4), SV.bool (BE.var 5),
                                            SV.int IntKind.i64 (IE.var 6), SV.int IntKind.i64 (IE.var 7), SV.int IntKind.i64 (IE.var 8), SV.int IntKind.i64 (IE.var 9), SV.bool (BE.var 10)])])
                                    (VC.split (BE.not (BE.var 23))
                                      (VC.leafM 0 [SV.bool (BE.lit false)] [12, 28]
                                        [(28, [SV.var 26]), (24, [SV.var 22]), (20, [SV.var 17]), (14, [SV.var 17]), (12, [SV.bool (BE.lit false)]),
                                          (11,
                                            [SV.int IntKind.i64 (IE.var 1), SV.int IntKind.i64 (IE.var 2), SV.int IntKind.i64 (IE.var 3), SV.int IntKind.i64 (IE.var 4), SV.bool (BE.var 5),
                                              SV.int IntKind.i64 (IE.var 6), SV.int IntKind.i64 (IE.var 7), SV.int IntKind.i64 (IE.var 8), SV.int IntKind.i64 (IE.var 9), SV.bool (BE.var 10)])])
                                      (VC.split (BE.not (BE.var 27))
                                        (VC.leafM 0 [SV.bool (BE.lit false)] [12, 28]
                                          [(28, [SV.var 26]), (24, [SV.var 22]), (20, [SV.var 17]), (14, [SV.var 17]), (12, [SV.bool (BE.lit false)]),
                                            (11,
                                              [SV.int IntKind.i64 (IE.var 1), SV.int IntKind.i64 (IE.var 2), SV.int IntKind.i64 (IE.var 3), SV.int IntKind.i64 (IE.var 4), SV.bool (BE.var 5),
                                                SV.int IntKind.i64 (IE.var 6), SV.int IntKind.i64 (IE.var 7), SV.int IntKind.i64 (IE.var 8), SV.int IntKind.i64 (IE.var 9), SV.bool (BE.var 10)])])
                                        (VC.call 26 [SV.var 21, SV.agg [SV.var 22], SV.int IntKind.i64 (IE.lit 99)] [Base.bool] (SV.bool (BE.var 29)) [] false [28] [] [28, 24, 20, 14, 12, 11]
                                          [(28, [SV.var 26]), (24, [SV.var 22]), (20, [SV.var 17]), (14, [SV.var 17]), (12, [SV.bool (BE.lit false)]),
                                            (11,
                                              [SV.int IntKind.i64 (IE.var 1), SV.int IntKind.i64 (IE.var 2), SV.int IntKind.i64 (IE.var 3), SV.int IntKind.i64 (IE.var 4), SV.bool (BE.var 5),
                                                SV.int IntKind.i64 (IE.var 6), SV.int IntKind.i64 (IE.var 7), SV.int IntKind.i64 (IE.var 8), SV.int IntKind.i64 (IE.var 9), SV.bool (BE.var 10)])]
                                          (VC.split (BE.not (BE.var 29))
                                            (VC.leafM 0 [SV.bool (BE.lit false)] [12]
                                              [(28, [SV.var 26]), (24, [SV.var 22]), (20, [SV.var 17]), (14, [SV.var 17]), (12, [SV.bool (BE.lit false)]),
                                                (11,
                                                  [SV.int IntKind.i64 (IE.var 1), SV.int IntKind.i64 (IE.var 2), SV.int IntKind.i64 (IE.var 3), SV.int IntKind.i64 (IE.var 4), SV.bool (BE.var 5),
                                                    SV.int IntKind.i64 (IE.var 6), SV.int IntKind.i64 (IE.var 7), SV.int IntKind.i64 (IE.var 8), SV.int IntKind.i64 (IE.var 9), SV.bool (BE.var 10)])])
                                            (VC.call 26 [SV.var 25, SV.agg [SV.var 26], SV.int IntKind.i64 (IE.lit 99)] [Base.bool] (SV.bool (BE.var 30)) [] false [] [] [28, 24, 20, 14, 12, 11]
                                              [(28, [SV.var 26]), (24, [SV.var 22]), (20, [SV.var 17]), (14, [SV.var 17]), (12, [SV.bool (BE.lit false)]),
                                                (11,
                                                  [SV.int IntKind.i64 (IE.var 1), SV.int IntKind.i64 (IE.var 2), SV.int IntKind.i64 (IE.var 3), SV.int IntKind.i64 (IE.var 4), SV.bool (BE.var 5),
                                                    SV.int IntKind.i64 (IE.var 6), SV.int IntKind.i64 (IE.var 7), SV.int IntKind.i64 (IE.var 8), SV.int IntKind.i64 (IE.var 9), SV.bool (BE.var 10)])]
                                              (VC.split (BE.not (BE.var 30))
                                                (VC.leafM 0 [SV.bool (BE.lit false)] [12]
                                                  [(28, [SV.var 26]), (24, [SV.var 22]), (20, [SV.var 17]), (14, [SV.var 17]), (12, [SV.bool (BE.lit false)]),
                                                    (11,
                                                      [SV.int IntKind.i64 (IE.var 1), SV.int IntKind.i64 (IE.var 2), SV.int IntKind.i64 (IE.var 3), SV.int IntKind.i64 (IE.var 4), SV.bool (BE.var 5),
                                                        SV.int IntKind.i64 (IE.var 6), SV.int IntKind.i64 (IE.var 7), SV.int IntKind.i64 (IE.var 8), SV.int IntKind.i64 (IE.var 9),
                                                        SV.bool (BE.var 10)])])
                                                (VC.blk
                                                  (VC.range 2 (SV.var 19) [Base.int IntKind.i64, Base.bool] [3, 4] [SV.int IntKind.i64 (IE.lit 0)] [Base.int IntKind.i64] [31]
                                                    [31, 28, 24, 20, 14, 12, 11]
                                                    [(31, [SV.int IntKind.i64 (IE.lit 0)]), (28, [SV.var 26]), (24, [SV.var 22]), (20, [SV.var 17]), (14, [SV.var 17]), (12, [SV.bool (BE.lit false)]),
                                                      (11,
                                                        [SV.int IntKind.i64 (IE.var 1), SV.int IntKind.i64 (IE.var 2), SV.int IntKind.i64 (IE.var 3), SV.int IntKind.i64 (IE.var 4), SV.bool (BE.var 5),
                                                          SV.int IntKind.i64 (IE.var 6), SV.int IntKind.i64 (IE.var 7), SV.int IntKind.i64 (IE.var 8), SV.int IntKind.i64 (IE.var 9),
                                                          SV.bool (BE.var 10)])]
                                                    [(31, [SV.int IntKind.i64 (IE.var 32)]), (28, [SV.var 26]), (24, [SV.var 22]), (20, [SV.var 17]), (14, [SV.var 17]), (12, [SV.bool (BE.lit false)]),
                                                      (11,
                                                        [SV.int IntKind.i64 (IE.var 1), SV.int IntKind.i64 (IE.var 2), SV.int IntKind.i64 (IE.var 3), SV.int IntKind.i64 (IE.var 4), SV.bool (BE.var 5),
                                                          SV.int IntKind.i64 (IE.var 6), SV.int IntKind.i64 (IE.var 7), SV.int IntKind.i64 (IE.var 8), SV.int IntKind.i64 (IE.var 9),
                                                          SV.bool (BE.var 10)])]
                                                    (VC.split (BE.le (IE.len 17) (IE.var 32))
                                                      (VC.resume [12] [31, 28, 24, 20, 14, 12, 11]
                                                        [(31, [SV.int IntKind.i64 (IE.var 32)]), (28, [SV.var 26]), (24, [SV.var 22]), (20, [SV.var 17]), (14, [SV.var 17]),
                                                          (12, [SV.bool (BE.lit false)]),
                                                          (11,
                                                            [SV.int IntKind.i64 (IE.var 1), SV.int IntKind.i64 (IE.var 2), SV.int IntKind.i64 (IE.var 3), SV.int IntKind.i64 (IE.var 4),
                                                              SV.bool (BE.var 5), SV.int IntKind.i64 (IE.var 6), SV.int IntKind.i64 (IE.var 7), SV.int IntKind.i64 (IE.var 8),
                                                              SV.int IntKind.i64 (IE.var 9), SV.bool (BE.var 10)])]
                                                        (VC.leafM 0 [SV.bool (BE.lit false)] []
                                                          [(31, [SV.int IntKind.i64 (IE.var 32)]), (28, [SV.var 26]), (24, [SV.var 22]), (20, [SV.var 17]), (14, [SV.var 17]),
                                                            (12, [SV.bool (BE.lit false)]),
                                                            (11,
                                                              [SV.int IntKind.i64 (IE.var 1), SV.int IntKind.i64 (IE.var 2), SV.int IntKind.i64 (IE.var 3), SV.int IntKind.i64 (IE.var 4),
                                                                SV.bool (BE.var 5), SV.int IntKind.i64 (IE.var 6), SV.int IntKind.i64 (IE.var 7), SV.int IntKind.i64 (IE.var 8),
                                                                SV.int IntKind.i64 (IE.var 9), SV.bool (BE.var 10)])]))
                                                      (VC.ob (BE.le (IE.lit 0) (IE.var 32))
                                                        (VC.ob (BE.lt (IE.var 32) (IE.len 17))
                                                          (VC.ob (BE.not (BE.nil 17))
                                                            (VC.start false [] []
                                                              [(31, [SV.int IntKind.i64 (IE.var 32)]), (28, [SV.var 26]), (24, [SV.var 22]), (20, [SV.var 17]), (14, [SV.var 17]),
                                                                (12, [SV.bool (BE.lit false)]),
                                                                (11,
                                                                  [SV.int IntKind.i64 (IE.var 1), SV.int IntKind.i64 (IE.var 2), SV.int IntKind.i64 (IE.var 3), SV.int IntKind.i64 (IE.var 4),
                                                                    SV.bool (BE.var 5), SV.int IntKind.i64 (IE.var 6), SV.int IntKind.i64 (IE.var 7), SV.int IntKind.i64 (IE.var 8),
                                                                    SV.int IntKind.i64 (IE.var 9), SV.bool (BE.var 10)])]
                                                              (VC.load (SV.elt 17 0 (IE.var 32) 4 0) [Base.int IntKind.i64]
                                                                (VC.split (BE.not (BE.eq (IE.var 33) (IE.var 35)))
                                                                  (VC.resume [12] [31, 28, 24, 20, 14, 12, 11]
                                                                    [(31, [SV.int IntKind.i64 (IE.var 32)]), (28, [SV.var 26]), (24, [SV.var 22]), (20, [SV.var 17]), (14, [SV.var 17]),
                                                                      (12, [SV.bool (BE.lit false)]),
                                                                      (11,
                                                                        [SV.int IntKind.i64 (IE.var 1), SV.int IntKind.i64 (IE.var 2), SV.int IntKind.i64 (IE.var 3), SV.int IntKind.i64 (IE.var 4),
                                                                          SV.bool (BE.var 5), SV.int IntKind.i64 (IE.var 6), SV.int IntKind.i64 (IE.var 7), SV.int IntKind.i64 (IE.var 8),
                                                                          SV.int IntKind.i64 (IE.var 9), SV.bool (BE.var 10)])]
                                                                    (VC.leafM 0 [SV.bool (BE.lit false)] []
                                                                      [(31, [SV.int IntKind.i64 (IE.var 32)]), (28, [SV.var 26]), (24, [SV.var 22]), (20, [SV.var 17]), (14, [SV.var 17]),
                                                                        (12, [SV.bool (BE.lit false)]),
                                                                        (11,
                                                                          [SV.int IntKind.i64 (IE.var 1), SV.int IntKind.i64 (IE.var 2), SV.int IntKind.i64 (IE.var 3), SV.int IntKind.i64 (IE.var 4),
                                                                            SV.bool (BE.var 5), SV.int IntKind.i64 (IE.var 6), SV.int IntKind.i64 (IE.var 7), SV.int IntKind.i64 (IE.var 8),
                                                                            SV.int IntKind.i64 (IE.var 9), SV.bool (BE.var 10)])]))
                                                                  (VC.call 27 [SV.agg [SV.var 17], SV.int IntKind.i64 (IE.var 32)] [Base.bool] (SV.bool (BE.var 36)) [] false [] []
                                                                    [31, 28, 24, 20, 14, 12, 11]
                                                                    [(31, [SV.int IntKind.i64 (IE.var 32)]), (28, [SV.var 26]), (24, [SV.var 22]), (20, [SV.var 17]), (14, [SV.var 17]),
                                                                      (12, [SV.bool (BE.lit false)]),
                                                                      (11,
                                                                        [SV.int IntKind.i64 (IE.var 1), SV.int IntKind.i64 (IE.var 2), SV.int IntKind.i64 (IE.var 3), SV.int IntKind.i64 (IE.var 4),
                                                                          SV.bool (BE.var 5), SV.int IntKind.i64 (IE.var 6), SV.int IntKind.i64 (IE.var 7), SV.int IntKind.i64 (IE.var 8),
                                                                          SV.int IntKind.i64 (IE.var 9), SV.bool (BE.var 10)])]
                                                                    (VC.split (BE.not (BE.beq (BE.var 34) (BE.var 36)))
                                                                      (VC.resume [12] [31, 28, 24, 20, 14, 12, 11]
                                                                        [(31, [SV.int IntKind.i64 (IE.var 32)]), (28, [SV.var 26]), (24, [SV.var 22]), (20, [SV.var 17]), (14, [SV.var 17]),
                                                                          (12, [SV.bool (BE.lit false)]),
                                                                          (11,
                                                                            [SV.int IntKind.i64 (IE.var 1), SV.int IntKind.i64 (IE.var 2), SV.int IntKind.i64 (IE.var 3), SV.int IntKind.i64 (IE.var 4),
                                                                              SV.bool (BE.var 5), SV.int IntKind.i64 (IE.var 6), SV.int IntKind.i64 (IE.var 7), SV.int IntKind.i64 (IE.var 8),
                                                                              SV.int IntKind.i64 (IE.var 9), SV.bool (BE.var 10)])]
                                                                        (VC.leafM 0 [SV.bool (BE.lit false)] []
                                                                          [(31, [SV.int IntKind.i64 (IE.var 32)]), (28, [SV.var 26]), (24, [SV.var 22]), (20, [SV.var 17]), (14, [SV.var 17]),
                                                                            (12, [SV.bool (BE.lit false)]),
                                                                            (11,
                                                                              [SV.int IntKind.i64 (IE.var 1), SV.int IntKind.i64 (IE.var 2), SV.int IntKind.i64 (IE.var 3),
                                                                                SV.int IntKind.i64 (IE.var 4), SV.bool (BE.var 5), SV.int IntKind.i64 (IE.var 6), SV.int IntKind.i64 (IE.var 7),
                                                                                SV.int IntKind.i64 (IE.var 8), SV.int IntKind.i64 (IE.var 9), SV.bool (BE.var 10)])]))
                                                                      (VC.ob (BE.le (IE.lit (-9223372036854775808)) (IE.add (IE.var 32) (IE.lit 1)))
                                                                        (VC.ob (BE.le (IE.add (IE.var 32) (IE.lit 1)) (IE.lit 9223372036854775807))
                                                                          (VC.leaf 2 [SV.int IntKind.i64 (IE.add (IE.var 32) (IE.lit 1))] [31]
                                                                            [(31, [SV.int IntKind.i64 (IE.add (IE.var 32) (IE.lit 1))]), (28, [SV.var 26]), (24, [SV.var 22]), (20, [SV.var 17]),
                                                                              (14, [SV.var 17]), (12, [SV.bool (BE.lit false)]),
                                                                              (11,
                                                                                [SV.int IntKind.i64 (IE.var 1), SV.int IntKind.i64 (IE.var 2), SV.int IntKind.i64 (IE.var 3),
                                                                                  SV.int IntKind.i64 (IE.var 4), SV.bool (BE.var 5), SV.int IntKind.i64 (IE.var 6), SV.int IntKind.i64 (IE.var 7),
                                                                                  SV.int IntKind.i64 (IE.var 8), SV.int IntKind.i64 (IE.var 9), SV.bool (BE.var 10)])]))))))))))))
                                                    (VC.split (BE.eq (IE.var 32) (IE.len 17))
                                                      (VC.call 9 [] [Base.bool] (SV.bool (BE.var 33)) [] false [] [] [31, 28, 24, 20, 14, 12, 11]
                                                        [(31, [SV.int IntKind.i64 (IE.var 32)]), (28, [SV.var 26]), (24, [SV.var 22]), (20, [SV.var 17]), (14, [SV.var 17]),
                                                          (12, [SV.bool (BE.lit false)]),
                                                          (11,
                                                            [SV.int IntKind.i64 (IE.var 1), SV.int IntKind.i64 (IE.var 2), SV.int IntKind.i64 (IE.var 3), SV.int IntKind.i64 (IE.var 4),
                                                              SV.bool (BE.var 5), SV.int IntKind.i64 (IE.var 6), SV.int IntKind.i64 (IE.var 7), SV.int IntKind.i64 (IE.var 8),
                                                              SV.int IntKind.i64 (IE.var 9), SV.bool (BE.var 10)])]
                                                        (VC.leafM 0 [SV.bool (BE.var 33)] [12]
                                                          [(31, [SV.int IntKind.i64 (IE.var 32)]), (28, [SV.var 26]), (24, [SV.var 22]), (20, [SV.var 17]), (14, [SV.var 17]),
                                                            (12, [SV.bool (BE.var 33)]),
                                                            (11,
                                                              [SV.int IntKind.i64 (IE.var 1), SV.int IntKind.i64 (IE.var 2), SV.int IntKind.i64 (IE.var 3), SV.int IntKind.i64 (IE.var 4),
                                                                SV.bool (BE.var 5), SV.int IntKind.i64 (IE.var 6), SV.int IntKind.i64 (IE.var 7), SV.int IntKind.i64 (IE.var 8),
                                                                SV.int IntKind.i64 (IE.var 9), SV.bool (BE.var 10)])]))
                                                      (VC.leafM 0 [SV.bool (BE.lit false)] [12]
                                                        [(31, [SV.int IntKind.i64 (IE.var 32)]), (28, [SV.var 26]), (24, [SV.var 22]), (20, [SV.var 17]), (14, [SV.var 17]),
                                                          (12, [SV.bool (BE.lit false)]),
                                                          (11,
                                                            [SV.int IntKind.i64 (IE.var 1), SV.int IntKind.i64 (IE.var 2), SV.int IntKind.i64 (IE.var 3), SV.int IntKind.i64 (IE.var 4),
                                                              SV.bool (BE.var 5), SV.int IntKind.i64 (IE.var 6), SV.int IntKind.i64 (IE.var 7), SV.int IntKind.i64 (IE.var 8),
                                                              SV.int IntKind.i64 (IE.var 9), SV.bool (BE.var 10)])])))))))))))))))))
                      (VC.blk
                        (VC.call 25 [SV.var 16] [Base.func] (SV.var 20) [] true [] [] [19, 14, 12, 11]
                          [(19, [SV.cst (Value.slice none 0 0)]), (14, [SV.var 17]), (12, [SV.bool (BE.lit false)]),
                            (11,
                              [SV.int IntKind.i64 (IE.var 1), SV.int IntKind.i64 (IE.var 2), SV.int IntKind.i64 (IE.var 3), SV.int IntKind.i64 (IE.var 4), SV.bool (BE.var 5),
                                SV.int IntKind.i64 (IE.var 6), SV.int IntKind.i64 (IE.var 7), SV.int IntKind.i64 (IE.var 8), SV.int IntKind.i64 (IE.var 9), SV.bool (BE.var 10)])]
                          (VC.call 23
                            [SV.var 16, SV.agg [SV.var 17],
                              SV.agg [SV.int IntKind.i64 (IE.var 1), SV.int IntKind.i64 (IE.var 2), SV.int IntKind.i64 (IE.var 3), SV.int IntKind.i64 (IE.var 4), SV.bool (BE.var 5)]]
                            [Base.ptr, Base.slice, Base.bool] (SV.tuple [SV.var 21, SV.agg [SV.var 22], SV.bool (BE.var 23)]) [] false [19] [] [19, 14, 12, 11]
                            [(19, [SV.var 17]), (14, [SV.var 17]), (12, [SV.bool (BE.lit false)]),
                              (11,
                                [SV.int IntKind.i64 (IE.var 1), SV.int IntKind.i64 (IE.var 2), SV.int IntKind.i64 (IE.var 3), SV.int IntKind.i64 (IE.var 4), SV.bool (BE.var 5),
                                  SV.int IntKind.i64 (IE.var 6), SV.int IntKind.i64 (IE.var 7), SV.int IntKind.i64 (IE.var 8), SV.int IntKind.i64 (IE.var 9), SV.bool (BE.var 10)])]
                            (VC.blk
                              (VC.call 23
                                [SV.var 18, SV.agg [SV.var 17],
                                  SV.agg [SV.int IntKind.i64 (IE.var 6), SV.int IntKind.i64 (IE.var 7), SV.int IntKind.i64 (IE.var 8), SV.int IntKind.i64 (IE.var 9), SV.bool (BE.var 10)]]
                                [Base.ptr, Base.slice, Base.bool] (SV.tuple [SV.var 25, SV.agg [SV.var 26], SV.bool (BE.var 27)]) [] false [24] [] [24, 19, 14, 12, 11]
                                [(24, [SV.var 22]), (19, [SV.var 17]), (14, [SV.var 17]), (12, [SV.bool (BE.lit false)]),
                                  (11,
                                    [SV.int IntKind.i64 (IE.var 1), SV.int IntKind.i64 (IE.var 2), SV.int IntKind.i64 (IE.var 3), SV.int IntKind.i64 (IE.var 4), SV.bool (BE.var 5),
                                      SV.int IntKind.i64 (IE.var 6), SV.int IntKind.i64 (IE.var 7), SV.int IntKind.i64 (IE.var 8), SV.int IntKind.i64 (IE.var 9), SV.bool (BE.var 10)])]
                                (VC.blk
                                  (VC.split (BE.nil 20)
                                    (VC.leafM 0 [SV.bool (BE.lit false)] [12, 28]
                                      [(28, [SV.var 26]), (24, [SV.var 22]), (19, [SV.var 17]), (14, [SV.var 17]), (12, [SV.bool (BE.lit false)]),
                                        (11,
                                          [SV.int IntKind.i64 (IE.var 1), SV.int IntKind.i64 (IE.var 2), SV.int IntKind.i64 (IE.var 3), SV.int IntKind.i64 (IE.var 4), SV.bool (BE.var 5),
                                            SV.int IntKind.i64 (IE.var 6), SV.int IntKind.i64 (IE.var 7), SV.int IntKind.i64 (IE.var 8), SV.int IntKind.i64 (IE.var 9), SV.bool (BE.var 10)])])
                                    (VC.split (BE.not (BE.var 23))
                                      (VC.leafM 0 [SV.bool (BE.lit false)] [12, 28]
                                        [(28, [SV.var 26]), (24, [SV.var 22]), (19, [SV.var 17]), (14, [SV.var 17]), (12, [SV.bool (BE.lit false)]),
                                          (11,
                                            [SV.int IntKind.i64 (IE.var 1), SV.int IntKind.i64 (IE.var 2), SV.int IntKind.i64 (IE.var 3), SV.int IntKind.i64 (IE.var 4), SV.bool (BE.var 5),
                                              SV.int IntKind.i64 (IE.var 6), SV.int IntKind.i64 (IE.var 7), SV.int IntKind.i64 (IE.var 8), SV.int IntKind.i64 (IE.var 9), SV.bool (BE.var 10)])])
                                      (VC.split (BE.not (BE.var 27))
                                        (VC.leafM 0 [SV.bool (BE.lit false)] [12, 28]
                                          [(28, [SV.var 26]), (24, [SV.var 22]), (19, [SV.var 17]), (14, [SV.var 17]), (12, [SV.bool (BE.lit false)]),
                                            (11,
                                              [SV.int IntKind.i64 (IE.var 1), SV.int IntKind.i64 (IE.var 2), SV.int IntKind.i64 (IE.var 3), SV.int IntKind.i64 (IE.var 4), SV.bool (BE.var 5),
                                                SV.int IntKind.i64 (IE.var 6), SV.int IntKind.i64 (IE.var 7), SV.int IntKind.i64 (IE.var 8), SV.int IntKind.i64 (IE.var 9), SV.bool (BE.var 10)])])
                                        (VC.call 26 [SV.var 21, SV.agg [SV.var 22], SV.int IntKind.i64 (IE.lit 99)] [Base.bool] (SV.bool (BE.var 29)) [] false [28] [] [28, 24, 19, 14, 12, 11]
                                          [(28, [SV.var 26]), (24, [SV.var 22]), (19, [SV.var 17]), (14, [SV.var 17]), (12, [SV.bool (BE.lit false)]),
                                            (11,
                                              [SV.int IntKind.i64 (IE.var 1), SV.int IntKind.i64 (IE.var 2), SV.int IntKind.i64 (IE.var 3), SV.int IntKind.i64 (IE.var 4), SV.bool (BE.var 5),
                                                SV.int IntKind.i64 (IE.var 6), SV.int IntKind.i64 (IE.var 7), SV.int IntKind.i64 (IE.var 8), SV.int IntKind.i64 (IE.var 9), SV.bool (BE.var 10)])]
                                          (VC.split (BE.not (BE.var 29))
                                            (VC.leafM 0 [SV.bool (BE.lit false)] [12]
                                              [(28, [SV.var 26]), (24, [SV.var 22]), (19, [SV.var 17]), (14, [SV.var 17]), (12, [SV.bool (BE.lit false)]),
                                                (11,
                                                  [SV.int IntKind.i64 (IE.var 1), SV.int IntKind.i64 (IE.var 2), SV.int IntKind.i64 (IE.var 3), SV.int IntKind.i64 (IE.var 4), SV.bool (BE.var 5),
                                                    SV.int IntKind.i64 (IE.var 6), SV.int IntKind.i64 (IE.var 7), SV.int IntKind.i64 (IE.var 8), SV.int IntKind.i64 (IE.var 9), SV.bool (BE.var 10)])])
                                            (VC.call 26 [SV.var 25, SV.agg [SV.var 26], SV.int IntKind.i64 (IE.lit 99)] [Base.bool] (SV.bool (BE.var 30)) [] false [] [] [28, 24, 19, 14, 12, 11]
                                              [(28, [SV.var 26]), (24, [SV.var 22]), (19, [SV.var 17]), (14, [SV.var 17]), (12, [SV.bool (BE.lit false)]),
                                                (11,
                                                  [SV.int IntKind.i64 (IE.var 1), SV.int IntKind.i64 (IE.var 2), SV.int IntKind.i64 (IE.var 3), SV.int IntKind.i64 (IE.var 4), SV.bool (BE.var 5),
                                                    SV.int IntKind.i64 (IE.var 6), SV.int IntKind.i64 (IE.var 7), SV.int IntKind.i64 (IE.var 8), SV.int IntKind.i64 (IE.var 9), SV.bool (BE.var 10)])]
                                              (VC.split (BE.not (BE.var 30))
                                                (VC.leafM 0 [SV.bool (BE.lit false)] [12]
                                                  [(28, [SV.var 26]), (24, [SV.var 22]), (19, [SV.var 17]), (14, [SV.var 17]), (12, [SV.bool (BE.lit false)]),
                                                    (11,
                                                      [SV.int IntKind.i64 (IE.var 1), SV.int IntKind.i64 (IE.var 2), SV.int IntKind.i64 (IE.var 3), SV.int IntKind.i64 (IE.var 4), SV.bool (BE.var 5),
                                                        SV.int IntKind.i64 (IE.var 6), SV.int IntKind.i64 (IE.var 7), SV.int IntKind.i64 (IE.var 8), SV.int IntKind.i64 (IE.var 9),
                                                        SV.bool (BE.var 10)])])
                                                (VC.blk
                                                  (VC.range 2 (SV.var 20) [Base.int IntKind.i64, Base.bool] [3, 4] [SV.int IntKind.i64 (IE.lit 0)] [Base.int IntKind.i64] [31]
                                                    [31, 28, 24, 19, 14, 12, 11]
                                                    [(31, [SV.int IntKind.i64 (IE.lit 0)]), (28, [SV.var 26]), (24, [SV.var 22]), (19, [SV.var 17]), (14, [SV.var 17]), (12, [SV.bool (BE.lit false)]),
                                                      (11,
                                                        [SV.int IntKind.i64 (IE.var 1), SV.int IntKind.i64 (IE.var 2), SV.int IntKind.i64 (IE.var 3), SV.int IntKind.i64 (IE.var 4), SV.bool (BE.var 5),
                                                          SV.int IntKind.i64 (IE.var 6), SV.int IntKind.i64 (IE.var 7), SV.int IntKind.i64 (IE.var 8), SV.int IntKind.i64 (IE.var 9),
                                                          SV.bool (BE.var 10)])]
                                                    [(31, [SV.int IntKind.i64 (IE.var 32)]), (28, [SV.var 26]), (24, [SV.var 22]), (19, [SV.var 17]), (14, [SV.var 17]), (12, [SV.bool (BE.lit false)]),
                                                      (11,
                                                        [SV.int IntKind.i64 (IE.var 1), SV.int IntKind.i64 (IE.var 2), SV.int IntKind.i64 (IE.var 3), SV.int IntKind.i64 (IE.var 4), SV.bool (BE.var 5),
                                                          SV.int IntKind.i64 (IE.var 6), SV.int IntKind.i64 (IE.var 7), SV.int IntKind.i64 (IE.var 8), SV.int IntKind.i64 (IE.var 9),
                                                          SV.bool (BE.var 10)])]
                                                    (VC.split (BE.le (IE.len 17) (IE.var 32))
                                                      (VC.resume [12] [31, 28, 24, 19, 14, 12, 11]
                                                        [(31, [SV.int IntKind.i64 (IE.var 32)]), (28, [SV.var 26]), (24, [SV.var 22]), (19, [SV.var 17]), (14, [SV.var 17]),
                                                          (12, [SV.bool (BE.lit false)]),
                                                          (11,
                                                            [SV.int IntKind.i64 (IE.var 1), SV.int IntKind.i64 (IE.var 2), SV.int IntKind.i64 (IE.var 3), SV.int IntKind.i64 (IE.var 4),
                                                              SV.bool (BE.var 5), SV.int IntKind.i64 (IE.var 6), SV.int IntKind.i64 (IE.var 7), SV.int IntKind.i64 (IE.var 8),
                                                              SV.int IntKind.i64 (IE.var 9), SV.bool (BE.var 10)])]
                                                        (VC.leafM 0 [SV.bool (BE.lit false)] []
                                                          [(31, [SV.int IntKind.i64 (IE.var 32)]), (28, [SV.var 26]), (24, [SV.var 22]), (19, [SV.var 17]), (14, [SV.var 17]),
                                                            (12, [SV.bool (BE.lit false)]),
                                                            (11,
                                                              [SV.int IntKind.i64 (IE.var 1), SV.int IntKind.i64 (IE.var 2), SV.int IntKind.i64 (IE.var 3), SV.int IntKind.i64 (IE.var 4),
                                                                SV.bool (BE.var 5), SV.int IntKind.i64 (IE.var 6), SV.int IntKind.i64 (IE.var 7), SV.int IntKind.i64 (IE.var 8),
                                                                SV.int IntKind.i64 (IE.var 9), SV.bool (BE.var 10)])]))
                                                      (VC.ob (BE.le (IE.lit 0) (IE.var 32))
                                                        (VC.ob (BE.lt (IE.var 32) (IE.len 17))
                                                          (VC.ob (BE.not (BE.nil 17))
                                                            (VC.start false [] []
                                                              [(31, [SV.int IntKind.i64 (IE.var 32)]), (28, [SV.var 26]), (24, [SV.var 22]), (19, [SV.var 17]), (14, [SV.var 17]),
                                                                (12, [SV.bool (BE.lit false)]),
                                                                (11,
                                                                  [SV.int IntKind.i64 (IE.var 1), SV.int IntKind.i64 (IE.var 2), SV.int IntKind.i64 (IE.var 3), SV.int IntKind.i64 (IE.var 4),
                                                                    SV.bool (BE.var 5), SV.int IntKind.i64 (IE.var 6), SV.int IntKind.i64 (IE.var 7), SV.int IntKind.i64 (IE.var 8),
                                                                    SV.int IntKind.i64 (IE.var 9), SV.bool (BE.var 10)])]
                                                              (VC.load (SV.elt 17 0 (IE.var 32) 4 0) [Base.int IntKind.i64]
                                                                (VC.split (BE.not (BE.eq (IE.var 33) (IE.var 35)))
                                                                  (VC.resume [12] [31, 28, 24, 19, 14, 12, 11]
                                                                    [(31, [SV.int IntKind.i64 (IE.var 32)]), (28, [SV.var 26]), (24, [SV.var 22]), (19, [SV.var 17]), (14, [SV.var 17]),
                                                                      (12, [SV.bool (BE.lit false)]),
                                                                      (11,
                                                                        [SV.int IntKind.i64 (IE.var 1), SV.int IntKind.i64 (IE.var 2), SV.int IntKind.i64 (IE.var 3), SV.int IntKind.i64 (IE.var 4),
                                                                          SV.bool (BE.var 5), SV.int IntKind.i64 (IE.var 6), SV.int IntKind.i64 (IE.var 7), SV.int IntKind.i64 (IE.var 8),
                                                                          SV.int IntKind.i64 (IE.var 9), SV.bool (BE.var 10)])]
                                                                    (VC.leafM 0 [SV.bool (BE.lit false)] []
                                                                      [(31, [SV.int IntKind.i64 (IE.var 32)]), (28, [SV.var 26]), (24, [SV.var 22]), (19, [SV.var 17]), (14, [SV.var 17]),
                                                                        (12, [SV.bool (BE.lit false)]),
                                                                        (11,
                                                                          [SV.int IntKind.i64 (IE.var 1), SV.int IntKind.i64 (IE.var 2), SV.int IntKind.i64 (IE.var 3), SV.int IntKind.i64 (IE.var 4),
                                                                            SV.bool (BE.var 5), SV.int IntKind.i64 (IE.var 6), SV.int IntKind.i64 (IE.var 7), SV.int IntKind.i64 (IE.var 8),
                                                                            SV.int IntKind.i64 (IE.var 9), SV.bool (BE.var 10)])]))
                                                                  (VC.call 27 [SV.agg [SV.var 17], SV.int IntKind.i64 (IE.var 32)] [Base.bool] (SV.bool (BE.var 36)) [] false [] []
                                                                    [31, 28, 24, 19, 14, 12, 11]
                                                                    [(31, [SV.int IntKind.i64 (IE.var 32)]), (28, [SV.var 26]), (24, [SV.var 22]), (19, [SV.var 17]), (14, [SV.var 17]),
                                                                      (12, [SV.bool (BE.lit false)]),
                                                                      (11,
                                                                        [SV.int IntKind.i64 (IE.var 1), SV.int IntKind.i64 (IE.var 2), SV.int IntKind.i64 (IE.var 3), SV.int IntKind.i64 (IE.var 4),
                                                                          SV.bool (BE.var 5), SV.int IntKind.i64 (IE.var 6), SV.int IntKind.i64 (IE.var 7), SV.int IntKind.i64 (IE.var 8),
                                                                          SV.int IntKind.i64 (IE.var 9), SV.bool (BE.var 10)])]
                                                                    (VC.split (BE.not (BE.beq (BE.var 34) (BE.var 36)))
                                                                      (VC.resume [12] [31, 28, 24, 19, 14, 12, 11]
                                                                        [(31, [SV.int IntKind.i64 (IE.var 32)]), (28, [SV.var 26]), (24, [SV.var 22]), (19, [SV.var 17]), (14, [SV.var 17]),
                                                                          (12, [SV.bool (BE.lit false)]),
                                                                          (11,
                                                                            [SV.int IntKind.i64 (IE.var 1), SV.int IntKind.i64 (IE.var 2), SV.int IntKind.i64 (IE.var 3), SV.int IntKind.i64 (IE.var 4),
                                                                              SV.bool (BE.var 5), SV.int IntKind.i64 (IE.var 6), SV.int IntKind.i64 (IE.var 7), SV.int IntKind.i64 (IE.var 8),
                                                                              SV.int IntKind.i64 (IE.var 9), SV.bool (BE.var 10)])]
                                                                        (VC.leafM 0 [SV.bool (BE.lit false)] []
                                                                          [(31, [SV.int IntKind.i64 (IE.var 32)]), (28, [SV.var 26]), (24, [SV.var 22]), (19, [SV.var 17]), (14, [SV.var 17]),
                                                                            (12, [SV.bool (BE.lit false)]),
                                                                            (11,
                                                                              [SV.int IntKind.i64 (IE.var 1), SV.int IntKind.i64 (IE.var 2), SV.int IntKind.i64 (IE.var 3),
                                                                                SV.int IntKind.i64 (IE.var 4), SV.bool (BE.var 5), SV.int IntKind.i64 (IE.var 6), SV.int IntKind.i64 (IE.var 7),
                                                                                SV.int IntKind.i64 (IE.var 8), SV.int IntKind.i64 (IE.var 9), SV.bool (BE.var 10)])]))
                                                                      (VC.ob (BE.le (IE.lit (-9223372036854775808)) (IE.add (IE.var 32) (IE.lit 1)))
                                                                        (VC.ob (BE.le (IE.add (IE.var 32) (IE.lit 1)) (IE.lit 9223372036854775807))
                                                                          (VC.leaf 2 [SV.int IntKind.i64 (IE.add (IE.var 32) (IE.lit 1))] [31]
                                                                            [(31, [SV.int IntKind.i64 (IE.add (IE.var 32) (IE.lit 1))]), (28, [SV.var 26]), (24, [SV.var 22]), (19, [SV.var 17]),
                                                                              (14, [SV.var 17]), (12, [SV.bool (BE.lit false)]),
                                                                              (11,
                                                                                [SV.int IntKind.i64 (IE.var 1), SV.int IntKind.i64 (IE.var 2), SV.int IntKind.i64 (IE.var 3),
                                                                                  SV.int IntKind.i64 (IE.var 4), SV.bool (BE.var 5), SV.int IntKind.i64 (IE.var 6), SV.int IntKind.i64 (IE.var 7),
                                                                                  SV.int IntKind.i64 (IE.var 8), SV.int IntKind.i64 (IE.var 9), SV.bool (BE.var 10)])]))))))))))))
                                                    (VC.split (BE.eq (IE.var 32) (IE.len 17))
                                                      (VC.call 9 [] [Base.bool] (SV.bool (BE.var 33)) [] false [] [] [31, 28, 24, 19, 14, 12, 11]
                                                        [(31, [SV.int IntKind.i64 (IE.var 32)]), (28, [SV.var 26]), (24, [SV.var 22]), (19, [SV.var 17]), (14, [SV.var 17]),
                                                          (12, [SV.bool (BE.lit false)]),
                                                          (11,
                                                            [SV.int IntKind.i64 (IE.var 1), SV.int IntKind.i64 (IE.var 2), SV.int IntKind.i64 (IE.var 3), SV.int IntKind.i64 (IE.var 4),
                                                              SV.bool (BE.var 5), SV.int IntKind.i64 (IE.var 6), SV.int IntKind.i64 (IE.var 7), SV.int IntKind.i64 (IE.var 8),
                                                              SV.int IntKind.i64 (IE.var 9), SV.bool (BE.var 10)])]
                                                        (VC.leafM 0 [SV.bool (BE.var 33)] [12]
                                                          [(31, [SV.int IntKind.i64 (IE.var 32)]), (28, [SV.var 26]), (24, [SV.var 22]), (19, [SV.var 17]), (14, [SV.var 17]),
                                                            (12, [SV.bool (BE.var 33)]),
                                                            (11,
                                                              [SV.int IntKind.i64 (IE.var 1), SV.int IntKind.i64 (IE.var 2), SV.int IntKind.i64 (IE.var 3), SV.int IntKind.i64 (IE.var 4),
                                                                SV.bool (BE.var 5), SV.int IntKind.i64 (IE.var 6), SV.int IntKind.i64 (IE.var 7), SV.int IntKind.i64 (IE.var 8),
                                                                SV.int IntKind.i64 (IE.var 9), SV.bool (BE.var 10)])]))
                                                      (VC.leafM 0 [SV.bool (BE.lit false)] [12]
                                                        [(31, [SV.int IntKind.i64 (IE.var 32)]), (28, [SV.var 26]), (24, [SV.var 22]), (19, [SV.var 17]), (14, [SV.var 17]),
                                                          (12, [SV.bool (BE.lit false)]),
                                                          (11,
                                                            [SV.int IntKind.i64 (IE.var 1), SV.int IntKind.i64 (IE.var 2), SV.int IntKind.i64 (IE.var 3), SV.int IntKind.i64 (IE.var 4),
                                                              SV.bool (BE.var 5), SV.int IntKind.i64 (IE.var 6), SV.int IntKind.i64 (IE.var 7), SV.int IntKind.i64 (IE.var 8),
                                                              SV.int IntKind.i64 (IE.var 9), SV.bool (BE.var 10)])])))))))))))))))))))
                  (VC.blk
                    (VC.call 24 [SV.var 16] [Base.ptr] (SV.var 19) [] true [] [] [18, 14, 12, 11]
                      [(18, [SV.cst (Value.slice none 0 0)]), (14, [SV.var 17]), (12, [SV.bool (BE.lit false)]),
                        (11,
                          [SV.int IntKind.i64 (IE.var 1), SV.int IntKind.i64 (IE.var 2), SV.int IntKind.i64 (IE.var 3), SV.int IntKind.i64 (IE.var 4), SV.bool (BE.var 5),
                            SV.int IntKind.i64 (IE.var 6), SV.int IntKind.i64 (IE.var 7), SV.int IntKind.i64 (IE.var 8), SV.int IntKind.i64 (IE.var 9), SV.bool (BE.var 10)])]
                      (VC.call 25 [SV.var 16] [Base.func] (SV.var 20) [] true [] [] [18, 14, 12, 11]
                        [(18, [SV.cst (Value.slice none 0 0)]), (14, [SV.var 17]), (12, [SV.bool (BE.lit false)]),
                          (11,
                            [SV.int IntKind.i64 (IE.var 1), SV.int IntKind.i64 (IE.var 2), SV.int IntKind.i64 (IE.var 3), SV.int IntKind.i64 (IE.var 4), SV.bool (BE.var 5),
                              SV.int IntKind.i64 (IE.var 6), SV.int IntKind.i64 (IE.var 7), SV.int IntKind.i64 (IE.var 8), SV.int IntKind.i64 (IE.var 9), SV.bool (BE.var 10)])]
                        (VC.call 23
                          [SV.var 16, SV.agg [SV.var 17],
                            SV.agg [SV.int IntKind.i64 (IE.var 1), SV.int IntKind.i64 (IE.var 2), SV.int IntKind.i64 (IE.var 3), SV.int IntKind.i64 (IE.var 4), SV.bool (BE.var 5)]]
                          [Base.ptr, Base.slice, Base.bool] (SV.tuple [SV.var 21, SV.agg [SV.var 22], SV.bool (BE.var 23)]) [] false [18] [] [18, 14, 12, 11]
                          [(18, [SV.var 17]), (14, [SV.var 17]), (12, [SV.bool (BE.lit false)]),
                            (11,
                              [SV.int IntKind.i64 (IE.var 1), SV.int IntKind.i64 (IE.var 2), SV.int IntKind.i64 (IE.var 3), SV.int IntKind.i64 (IE.var 4), SV.bool (BE.var 5),
                                SV.int IntKind.i64 (IE.var 6), SV.int IntKind.i64 (IE.var 7), SV.int IntKind.i64 (IE.var 8), SV.int IntKind.i64 (IE.var 9), SV.bool (BE.var 10)])]
                          (VC.blk
                            (VC.call 23
                              [SV.var 19, SV.agg [SV.var 17],
                                SV.agg [SV.int IntKind.i64 (IE.var 6), SV.int IntKind.i64 (IE.var 7), SV.int IntKind.i64 (IE.var 8), SV.int IntKind.i64 (IE.var 9), SV.bool (BE.var 10)]]
                              [Base.ptr, Base.slice, Base.bool] (SV.tuple [SV.var 25, SV.agg [SV.var 26], SV.bool (BE.var 27)]) [] false [24] [] [24, 18, 14, 12, 11]
                              [(24, [SV.var 22]), (18, [SV.var 17]), (14, [SV.var 17]), (12, [SV.bool (BE.lit false)]),
                                (11,
                                  [SV.int IntKind.i64 (IE.var 1), SV.int IntKind.i64 (IE.var 2), SV.int IntKind.i64 (IE.var 3), SV.int IntKind.i64 (IE.var 4), SV.bool (BE.var 5),
                                    SV.int IntKind.i64 (IE.var 6), SV.int IntKind.i64 (IE.var 7), SV.int IntKind.i64 (IE.var 8), SV.int IntKind.i64 (IE.var 9), SV.bool (BE.var 10)])]
                              (VC.blk
                                (VC.split (BE.nil 20)
                                  (VC.leafM 0 [SV.bool (BE.lit false)] [12, 28]
                                    [(28, [SV.var 26]), (24, [SV.var 22]), (18, [SV.var 17]), (14, [SV.var 17]), (12, [SV.bool (BE.lit false)]),
                                      (11,
                                        [SV.int IntKind.i64 (IE.var 1), SV.int IntKind.i64 (IE.var 2), SV.int IntKind.i64 (IE.var 3), SV.int IntKind.i64 (IE.var 4), SV.bool (BE.var 5),
                                          SV.int IntKind.i64 (IE.var 6), SV.int IntKind.i64 (IE.var 7), SV.int IntKind.i64 (IE.var 8), SV.int IntKind.i64 (IE.var 9), SV.bool (BE.var 10)])])
                                  (VC.split (BE.not (BE.var 23))
                                    (VC.leafM 0 [SV.bool (BE.lit false)] [12, 28]
                                      [(28, [SV.var 26]), (24, [SV.var 22]), (18, [SV.var 17]), (14, [SV.var 17]), (12, [SV.bool (BE.lit false)]),
                                        (11,
                                          [SV.int IntKind.i64 (IE.var 1), SV.int IntKind.i64 (IE.var 2), SV.int IntKind.i64 (IE.var 3), SV.int IntKind.i64 (IE.var 4), SV.bool (BE.var 5),
                                            SV.int IntKind.i64 (IE.var 6), SV.int IntKind.i64 (IE.var 7), SV.int IntKind.i64 (IE.var 8), SV.int IntKind.i64 (IE.var 9), SV.bool (BE.var 10)])])
                                    (VC.split (BE.not (BE.var 27))
                                      (VC.leafM 0 [SV.bool (BE.lit false)] [12, 28]
                                        [(28, [SV.var 26]), (24, [SV.var 22]), (18, [SV.var 17]), (14, [SV.var 17]), (12, [SV.bool (BE.lit false)]),
                                          (11,
                                            [SV.int IntKind.i64 (IE.var 1), SV.int IntKind.i64 (IE.var 2), SV.int IntKind.i64 (IE.var 3), SV.int IntKind.i64 (IE.var 4), SV.bool (BE.var 5),
                                              SV.int IntKind.i64 (IE.var 6), SV.int IntKind.i64 (IE.var 7), SV.int IntKind.i64 (IE.var 8), SV.int IntKind.i64 (IE.var 9), SV.bool (BE.var 10)])])
                                      (VC.call 26 [SV.var 21, SV.agg [SV.var 22], SV.int IntKind.i64 (IE.lit 99)] [Base.bool] (SV.bool (BE.var 29)) [] false [28] [] [28, 24, 18, 14, 12, 11]
                                        [(28, [SV.var 26]), (24, [SV.var 22]), (18, [SV.var 17]), (14, [SV.var 17]), (12, [SV.bool (BE.lit false)]),
                                          (11,
                                            [SV.int IntKind.i64 (IE.var 1), SV.int IntKind.i64 (IE.var 2), SV.int IntKind.i64 (IE.var 3), SV.int IntKind.i64 (IE.var 4), SV.bool (BE.var 5),
                                              SV.int IntKind.i64 (IE.var 6), SV.int IntKind.i64 (IE.var 7), SV.int IntKind.i64 (IE.var 8), SV.int IntKind.i64 (IE.var 9), SV.bool (BE.var 10)])]
                                        (VC.split (BE.not (BE.var 29))
                                          (VC.leafM 0 [SV.bool (BE.lit false)] [12]
                                            [(28, [SV.var 26]), (24, [SV.var 22]), (18, [SV.var 17]), (14, [SV.var 17]), (12, [SV.bool (BE.lit false)]),
                                              (11,
                                                [SV.int IntKind.i64 (IE.var 1), SV.int IntKind.i64 (IE.var 2), SV.int IntKind.i64 (IE.var 3), SV.int IntKind.i64 (IE.var 4), SV.bool (BE.var 5),
                                                  SV.int IntKind.i64 (IE.var 6), SV.int IntKind.i64 (IE.var 7), SV.int IntKind.i64 (IE.var 8), SV.int IntKind.i64 (IE.var 9), SV.bool (BE.var 10)])])
                                          (VC.call 26 [SV.var 25, SV.agg [SV.var 26], SV.int IntKind.i64 (IE.lit 99)] [Base.bool] (SV.bool (BE.var 30)) [] false [] [] [28, 24, 18, 14, 12, 11]
                                            [(28, [SV.var 26]), (24, [SV.var 22]), (18, [SV.var 17]), (14, [SV.var 17]), (12, [SV.bool (BE.lit false)]),
                                              (11,
                                                [SV.int IntKind.i64 (IE.var 1), SV.int IntKind.i64 (IE.var 2), SV.int IntKind.i64 (IE.var 3), SV.int IntKind.i64 (IE.var 4), SV.bool (BE.var 5),
                                                  SV.int IntKind.i64 (IE.var 6), SV.int IntKind.i64 (IE.var 7), SV.int IntKind.i64 (IE.var 8), SV.int IntKind.i64 (IE.var 9), SV.bool (BE.var 10)])]
                                            (VC.split (BE.not (BE.var 30))
                                              (VC.leafM 0 [SV.bool (BE.lit false)] [12]
                                                [(28, [SV.var 26]), (24, [SV.var 22]), (18, [SV.var 17]), (14, [SV.var 17]), (12, [SV.bool (BE.lit false)]),
                                                  (11,
                                                    [SV.int IntKind.i64 (IE.var 1), SV.int IntKind.i64 (IE.var 2), SV.int IntKind.i64 (IE.var 3), SV.int IntKind.i64 (IE.var 4), SV.bool (BE.var 5),
                                                      SV.int IntKind.i64 (IE.var 6), SV.int IntKind.i64 (IE.var 7), SV.int IntKind.i64 (IE.var 8), SV.int IntKind.i64 (IE.var 9),
                                                      SV.bool (BE.var 10)])])
                                              (VC.blk
                                                (VC.range 2 (SV.var 20) [Base.int IntKind.i64, Base.bool] [3, 4] [SV.int IntKind.i64 (IE.lit 0)] [Base.int IntKind.i64] [31]
                                                  [31, 28, 24, 18, 14, 12, 11]
                                                  [(31, [SV.int IntKind.i64 (IE.lit 0)]), (28, [SV.var 26]), (24, [SV.var 22]), (18, [SV.var 17]), (14, [SV.var 17]), (12, [SV.bool (BE.lit false)]),
                                                    (11,
                                                      [SV.int IntKind.i64 (IE.var 1), SV.int IntKind.i64 (IE.var 2), SV.int IntKind.i64 (IE.var 3), SV.int IntKind.i64 (IE.var 4), SV.bool (BE.var 5),
                                                        SV.int IntKind.i64 (IE.var 6), SV.int IntKind.i64 (IE.var 7), SV.int IntKind.i64 (IE.var 8), SV.int IntKind.i64 (IE.var 9),
                                                        SV.bool (BE.var 10)])]
                                                  [(31, [SV.int IntKind.i64 (IE.var 32)]), (28, [SV.var 26]), (24, [SV.var 22]), (18, [SV.var 17]), (14, [SV.var 17]), (12, [SV.bool (BE.lit false)]),
                                                    (11,
                                                      [SV.int IntKind.i64 (IE.var 1), SV.int IntKind.i64 (IE.var 2), SV.int IntKind.i64 (IE.var 3), SV.int IntKind.i64 (IE.var 4), SV.bool (BE.var 5),
                                                        SV.int IntKind.i64 (IE.var 6), SV.int IntKind.i64 (IE.var 7), SV.int IntKind.i64 (IE.var 8), SV.int IntKind.i64 (IE.var 9),
                                                        SV.bool (BE.var 10)])]
                                                  (VC.split (BE.le (IE.len 17) (IE.var 32))
                                                    (VC.resume [12] [31, 28, 24, 18, 14, 12, 11]
                                                      [(31, [SV.int IntKind.i64 (IE.var 32)]), (28, [SV.var 26]), (24, [SV.var 22]), (18, [SV.var 17]), (14, [SV.var 17]),
                                                        (12, [SV.bool (BE.lit false)]),
                                                        (11,
                                                          [SV.int IntKind.i64 (IE.var 1), SV.int IntKind.i64 (IE.var 2), SV.int IntKind.i64 (IE.var 3), SV.int IntKind.i64 (IE.var 4),
                                                            SV.bool (BE.var 5), SV.int IntKind.i64 (IE.var 6), SV.int IntKind.i64 (IE.var 7), SV.int IntKind.i64 (IE.var 8),
                                                            SV.int IntKind.i64 (IE.var 9), SV.bool (BE.var 10)])]
                                                      (VC.leafM 0 [SV.bool (BE.lit false)] []
                                                        [(31, [SV.int IntKind.i64 (IE.var 32)]), (28, [SV.var 26]), (24, [SV.var 22]), (18, [SV.var 17]), (14, [SV.var 17]),
                                                          (12, [SV.bool (BE.lit false)]),
                                                          (11,
                                                            [SV.int IntKind.i64 (IE.var 1), SV.int IntKind.i64 (IE.var 2), SV.int IntKind.i64 (IE.var 3), SV.int IntKind.i64 (IE.var 4),
                                                              SV.bool (BE.var 5), SV.int IntKind.i64 (IE.var 6), SV.int IntKind.i64 (IE.var 7), SV.int IntKind.i64 (IE.var 8),
                                                              SV.int IntKind.i64 (IE.var 9), SV.bool (BE.var 10)])]))
                                                    (VC.ob (BE.le (IE.lit 0) (IE.var 32))
                                                      (VC.ob (BE.lt (IE.var 32) (IE.len 17))
                                                        (VC.ob (BE.not (BE.nil 17))
                                                          (VC.start false [] []
                                                            [(31, [SV.int IntKind.i64 (IE.var 32)]), (28, [SV.var 26]), (24, [SV.var 22]), (18, [SV.var 17]), (14, [SV.var 17]),
                                                              (12, [SV.bool (BE.lit false)]),
                                                              (11,
                                                                [SV.int IntKind.i64 (IE.var 1), SV.int IntKind.i64 (IE.var 2), SV.int IntKind.i64 (IE.var 3), SV.int IntKind.i64 (IE.var 4),
                                                                  SV.bool (BE.var 5), SV.int IntKind.i64 (IE.var 6), SV.int IntKind.i64 (IE.var 7), SV.int IntKind.i64 (IE.var 8),
                                                                  SV.int IntKind.i64 (IE.var 9), SV.bool (BE.var 10)])]
                                                            (VC.load (SV.elt 17 0 (IE.var 32) 4 0) [Base.int IntKind.i64]
                                                              (VC.split (BE.not (BE.eq (IE.var 33) (IE.var 35)))
                                                                (VC.resume [12] [31, 28, 24, 18, 14, 12, 11]
                                                                  [(31, [SV.int IntKind.i64 (IE.var 32)]), (28, [SV.var 26]), (24, [SV.var 22]), (18, [SV.var 17]), (14, [SV.var 17]),
                                                                    (12, [SV.bool (BE.lit false)]),
                                                                    (11,
                                                                      [SV.int IntKind.i64 (IE.var 1), SV.int IntKind.i64 (IE.var 2), SV.int IntKind.i64 (IE.var 3), SV.int IntKind.i64 (IE.var 4),
                                                                        SV.bool (BE.var 5), SV.int IntKind.i64 (IE.var 6), SV.int IntKind.i64 (IE.var 7), SV.int IntKind.i64 (IE.var 8),
                                                                        SV.int IntKind.i64 (IE.var 9), SV.bool (BE.var 10)])]
                                                                  (VC.leafM 0 [SV.bool (BE.lit false)] []
                                                                    [(31, [SV.int IntKind.i64 (IE.var 32)]), (28, [SV.var 26]), (24, [SV.var 22]), (18, [SV.var 17]), (14, [SV.var 17]),
                                                                      (12, [SV.bool (BE.lit false)]),
                                                                      (11,
                                                                        [SV.int IntKind.i64 (IE.var 1), SV.int IntKind.i64 (IE.var 2), SV.int IntKind.i64 (IE.var 3), SV.int IntKind.i64 (IE.var 4),
                                                                          SV.bool (BE.var 5), SV.int IntKind.i64 (IE.var 6), SV.int IntKind.i64 (IE.var 7), SV.int IntKind.i64 (IE.var 8),
                                                                          SV.int IntKind.i64 (IE.var 9), SV.bool (BE.var 10)])]))
                                                                (VC.call 27 [SV.agg [SV.var 17], SV.int IntKind.i64 (IE.var 32)] [Base.bool] (SV.bool (BE.var 36)) [] false [] []
                                                                  [31, 28, 24, 18, 14, 12, 11]
                                                                  [(31, [SV.int IntKind.i64 (IE.var 32)]), (28, [SV.var 26]), (24, [SV.var 22]), (18, [SV.var 17]), (14, [SV.var 17]),
                                                                    (12, [SV.bool (BE.lit false)]),
                                                                    (11,
                                                                      [SV.int IntKind.i64 (IE.var 1), SV.int IntKind.i64 (IE.var 2), SV.int IntKind.i64 (IE.var 3), SV.int IntKind.i64 (IE.var 4),
                                                                        SV.bool (BE.var 5), SV.int IntKind.i64 (IE.var 6), SV.int IntKind.i64 (IE.var 7), SV.int IntKind.i64 (IE.var 8),
                                                                        SV.int IntKind.i64 (IE.var 9), SV.bool (BE.var 10)])]
                                                                  (VC.split (BE.not (BE.beq (BE.var 34) (BE.var 36)))
                                                                    (VC.resume [12] [31, 28, 24, 18, 14, 12, 11]
                                                                      [(31, [SV.int IntKind.i64 (IE.var 32)]), (28, [SV.var 26]), (24, [SV.var 22]), (18, [SV.var 17]), (14, [SV.var 17]),
                                                                        (12, [SV.bool (BE.lit false)]),
                                                                        (11,
                                                                          [SV.int IntKind.i64 (IE.var 1), SV.int IntKind.i64 (IE.var 2), SV.int IntKind.i64 (IE.var 3), SV.int IntKind.i64 (IE.var 4),
                                                                            SV.bool (BE.var 5), SV.int IntKind.i64 (IE.var 6), SV.int IntKind.i64 (IE.var 7), SV.int IntKind.i64 (IE.var 8),
                                                                            SV.int IntKind.i64 (IE.var 9), SV.bool (BE.var 10)])]
                                                                      (VC.leafM 0 [SV.bool (BE.lit false)] []
                                                                        [(31, [SV.int IntKind.i64 (IE.var 32)]), (28, [SV.var 26]), (24, [SV.var 22]), (18, [SV.var 17]), (14, [SV.var 17]),
                                                                          (12, [SV.bool (BE.lit false)]),
                                                                          (11,
                                                                            [SV.int IntKind.i64 (IE.var 1), SV.int IntKind.i64 (IE.var 2), SV.int IntKind.i64 (IE.var 3), SV.int IntKind.i64 (IE.var 4),
                                                                              SV.bool (BE.var 5), SV.int IntKind.i64 (IE.var 6), SV.int IntKind.i64 (IE.var 7), SV.int IntKind.i64 (IE.var 8),
                                                                              SV.int IntKind.i64 (IE.var 9), SV.bool (BE.var 10)])]))
                                                                    (VC.ob (BE.le (IE.lit (-9223372036854775808)) (IE.add (IE.var 32) (IE.lit 1)))
                                                                      (VC.ob (BE.le (IE.add (IE.var 32) (IE.lit 1)) (IE.lit 9223372036854775807))
                                                                        (VC.leaf 2 [SV.int IntKind.i64 (IE.add (IE.var 32) (IE.lit 1))] [31]
                                                                          [(31, [SV.int IntKind.i64 (IE.add (IE.var 32) (IE.lit 1))]), (28, [SV.var 26]), (24, [SV.var 22]), (18, [SV.var 17]),
                                                                            (14, [SV.var 17]), (12, [SV.bool (BE.lit false)]),
                                                                            (11,
                                                                              [SV.int IntKind.i64 (IE.var 1), SV.int IntKind.i64 (IE.var 2), SV.int IntKind.i64 (IE.var 3),
                                                                                SV.int IntKind.i64 (IE.var 4), SV.bool (BE.var 5), SV.int IntKind.i64 (IE.var 6), SV.int IntKind.i64 (IE.var 7),
                                                                                SV.int IntKind.i64 (IE.var 8), SV.int IntKind.i64 (IE.var 9), SV.bool (BE.var 10)])]))))))))))))
                                                  (VC.split (BE.eq (IE.var 32) (IE.len 17))
                                                    (VC.call 9 [] [Base.bool] (SV.bool (BE.var 33)) [] false [] [] [31, 28, 24, 18, 14, 12, 11]
                                                      [(31, [SV.int IntKind.i64 (IE.var 32)]), (28, [SV.var 26]), (24, [SV.var 22]), (18, [SV.var 17]), (14, [SV.var 17]),
                                                        (12, [SV.bool (BE.lit false)]),
                                                        (11,
                                                          [SV.int IntKind.i64 (IE.var 1), SV.int IntKind.i64 (IE.var 2), SV.int IntKind.i64 (IE.var 3), SV.int IntKind.i64 (IE.var 4),
                                                            SV.bool (BE.var 5), SV.int IntKind.i64 (IE.var 6), SV.int IntKind.i64 (IE.var 7), SV.int IntKind.i64 (IE.var 8),
                                                            SV.int IntKind.i64 (IE.var 9), SV.bool (BE.var 10)])]
                                                      (VC.leafM 0 [SV.bool (BE.var 33)] [12]
                                                        [(31, [SV.int IntKind.i64 (IE.var 32)]), (28, [SV.var 26]), (24, [SV.var 22]), (18, [SV.var 17]), (14, [SV.var 17]),
                                                          (12, [SV.bool (BE.var 33)]),
                                                          (11,
                                                            [SV.int IntKind.i64 (IE.var 1), SV.int IntKind.i64 (IE.var 2), SV.int IntKind.i64 (IE.var 3), SV.int IntKind.i64 (IE.var 4),
                                                              SV.bool (BE.var 5), SV.int IntKind.i64 (IE.var 6), SV.int IntKind.i64 (IE.var 7), SV.int IntKind.i64 (IE.var 8),
                                                              SV.int IntKind.i64 (IE.var 9), SV.bool (BE.var 10)])]))
                                                    (VC.leafM 0 [SV.bool (BE.lit false)] [12]
                                                      [(31, [SV.int IntKind.i64 (IE.var 32)]), (28, [SV.var 26]), (24, [SV.var 22]), (18, [SV.var 17]), (14, [SV.var 17]),
                                                        (12, [SV.bool (BE.lit false)]),
                                                        (11,
                                                          [SV.int IntKind.i64 (IE.var 1), SV.int IntKind.i64 (IE.var 2), SV.int IntKind.i64 (IE.var 3), SV.int IntKind.i64 (IE.var 4),
                                                            SV.bool (BE.var 5), SV.int IntKind.i64 (IE.var 6), SV.int IntKind.i64 (IE.var 7), SV.int IntKind.i64 (IE.var 8),
                                                            SV.int IntKind.i64 (IE.var 9), SV.bool (BE.var 10)])])))))))))))))))))))))))))) := by kernel_rfl

end Go.Proofs.Ytfjimghpjopgoaa
