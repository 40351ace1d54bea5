/- The law AtomicBounds returns true for every address, and changes no argument. No conditions. -/
import Derived.Test.YtfjimghpjopgoaaJ
set_option maxRecDepth 100000
set_option maxHeartbeats 1000000
set_option linter.unusedVariables false
set_option linter.unusedSimpArgs false
namespace Go.Proofs.Ytfjimghpjopgoaa
open Go.Sx Go.ChangeShapes Go.WideShapes Go.ChangeAt Go.RowKit

theorem t4 : exFn { P := Try.prog, muts := (fun f => if (Bool.or (Nat.beq f 16) (Bool.or (Nat.beq f 19) (Nat.beq f 29))) = true then [0] else []), loops := fun r => if Nat.beq r 8 then some ⟨1, [(5, .int .i64)], [4]⟩ else none } 4 [.int .i64 (.var 0)] [.int .i64] [] =
  VC.split (BE.lt (IE.var 0) (IE.lit 0)) (VC.call 9 [] [Base.bool] (SV.bool (BE.var 1)) [] false [] [] [] [] (VC.leaf 0 [SV.bool (BE.var 1)] [] []))
  (VC.split (BE.lt (IE.lit 1099511562240) (IE.var 0)) (VC.call 9 [] [Base.bool] (SV.bool (BE.var 1)) [] false [] [] [] [] (VC.leaf 0 [SV.bool (BE.var 1)] [] []))
    (VC.blk
      (VC.blk
        (VC.call 14
          [SV.agg [SV.int IntKind.i64 (IE.lit 65536), SV.int IntKind.i64 (IE.lit 65536), SV.int IntKind.i64 (IE.lit 0), SV.int IntKind.i64 (IE.lit 0)], SV.int IntKind.i64 (IE.var 0),
            SV.int IntKind.i64 (IE.lit 65536), SV.bool (BE.lit true), SV.int IntKind.i64 (IE.lit 0), SV.slc 2 0 1 1]
          [Base.bool] (SV.bool (BE.var 3)) [] false [] [2, 1] [2, 1]
          [(2, [SV.int IntKind.i64 (IE.var 0), SV.int IntKind.i64 (IE.lit 65536)]),
            (1, [SV.int IntKind.i64 (IE.lit 65536), SV.int IntKind.i64 (IE.lit 65536), SV.int IntKind.i64 (IE.lit 0), SV.int IntKind.i64 (IE.lit 0)])]
          (VC.split (BE.not (BE.var 3))
            (VC.leaf 0 [SV.bool (BE.lit false)] [2, 1]
              [(2, [SV.int IntKind.i64 (IE.var 0), SV.int IntKind.i64 (IE.lit 65536)]),
                (1, [SV.int IntKind.i64 (IE.lit 65536), SV.int IntKind.i64 (IE.lit 65536), SV.int IntKind.i64 (IE.lit 0), SV.int IntKind.i64 (IE.lit 0)])])
            (VC.call 14
              [SV.agg [SV.int IntKind.i64 (IE.lit 65536), SV.int IntKind.i64 (IE.lit 65536), SV.int IntKind.i64 (IE.lit 0), SV.int IntKind.i64 (IE.lit 0)], SV.int IntKind.i64 (IE.var 0),
                SV.int IntKind.i64 (IE.lit 65537), SV.bool (BE.lit true), SV.int IntKind.i64 (IE.lit 2), SV.cst (Value.slice none 0 0)]
              [Base.bool] (SV.bool (BE.var 4)) [] false [2, 1] [2, 1] [2, 1]
              [(2, [SV.int IntKind.i64 (IE.var 0), SV.int IntKind.i64 (IE.lit 65536)]),
                (1, [SV.int IntKind.i64 (IE.lit 65536), SV.int IntKind.i64 (IE.lit 65536), SV.int IntKind.i64 (IE.lit 0), SV.int IntKind.i64 (IE.lit 0)])]
              (VC.split (BE.not (BE.var 4))
                (VC.leaf 0 [SV.bool (BE.lit false)] [2, 1]
                  [(2, [SV.int IntKind.i64 (IE.var 0), SV.int IntKind.i64 (IE.lit 65536)]),
                    (1, [SV.int IntKind.i64 (IE.lit 65536), SV.int IntKind.i64 (IE.lit 65536), SV.int IntKind.i64 (IE.lit 0), SV.int IntKind.i64 (IE.lit 0)])])
                (VC.call 14
                  [SV.agg [SV.int IntKind.i64 (IE.lit 65536), SV.int IntKind.i64 (IE.lit 65536), SV.int IntKind.i64 (IE.lit 0), SV.int IntKind.i64 (IE.lit 0)],
                    SV.int IntKind.i64 (IE.lit 1099511627776), SV.int IntKind.i64 (IE.lit 1), SV.bool (BE.lit true), SV.int IntKind.i64 (IE.lit 2), SV.cst (Value.slice none 0 0)]
                  [Base.bool] (SV.bool (BE.var 5)) [] false [2, 1] [2, 1] [2, 1]
                  [(2, [SV.int IntKind.i64 (IE.var 0), SV.int IntKind.i64 (IE.lit 65536)]),
                    (1, [SV.int IntKind.i64 (IE.lit 65536), SV.int IntKind.i64 (IE.lit 65536), SV.int IntKind.i64 (IE.lit 0), SV.int IntKind.i64 (IE.lit 0)])]
                  (VC.split (BE.not (BE.var 5))
                    (VC.leaf 0 [SV.bool (BE.lit false)] [2, 1]
                      [(2, [SV.int IntKind.i64 (IE.var 0), SV.int IntKind.i64 (IE.lit 65536)]),
                        (1, [SV.int IntKind.i64 (IE.lit 65536), SV.int IntKind.i64 (IE.lit 65536), SV.int IntKind.i64 (IE.lit 0), SV.int IntKind.i64 (IE.lit 0)])])
                    (VC.blk
                      (VC.call 14
                        [SV.agg [SV.int IntKind.i64 (IE.lit 65536), SV.int IntKind.i64 (IE.lit 65536), SV.int IntKind.i64 (IE.lit 0), SV.int IntKind.i64 (IE.lit 0)],
                          SV.int IntKind.i64 (IE.lit 1099511627775), SV.int IntKind.i64 (IE.lit 1), SV.bool (BE.lit true), SV.int IntKind.i64 (IE.lit 0), SV.slc 6 0 1 1]
                        [Base.bool] (SV.bool (BE.var 7)) [] false [2, 1] [6, 2, 1] [6, 2, 1]
                        [(6, [SV.int IntKind.i64 (IE.lit 1099511627775), SV.int IntKind.i64 (IE.lit 1)]), (2, [SV.int IntKind.i64 (IE.var 0), SV.int IntKind.i64 (IE.lit 65536)]),
                          (1, [SV.int IntKind.i64 (IE.lit 65536), SV.int IntKind.i64 (IE.lit 65536), SV.int IntKind.i64 (IE.lit 0), SV.int IntKind.i64 (IE.lit 0)])]
                        (VC.split (BE.not (BE.var 7))
                          (VC.leaf 0 [SV.bool (BE.lit false)] [6, 2, 1]
                            [(6, [SV.int IntKind.i64 (IE.lit 1099511627775), SV.int IntKind.i64 (IE.lit 1)]), (2, [SV.int IntKind.i64 (IE.var 0), SV.int IntKind.i64 (IE.lit 65536)]),
                              (1, [SV.int IntKind.i64 (IE.lit 65536), SV.int IntKind.i64 (IE.lit 65536), SV.int IntKind.i64 (IE.lit 0), SV.int IntKind.i64 (IE.lit 0)])])
                          (VC.blk
                            (VC.loop 1 [SV.int IntKind.i64 (IE.lit 0), SV.cst (Value.slice none 0 0)] [Base.int IntKind.i64, Base.slice] [6, 2, 1] [8, 6, 2, 1]
                              [(8, [SV.cst (Value.slice none 0 0)]), (6, [SV.int IntKind.i64 (IE.lit 1099511627775), SV.int IntKind.i64 (IE.lit 1)]),
                                (2, [SV.int IntKind.i64 (IE.var 0), SV.int IntKind.i64 (IE.lit 65536)]),
                                (1, [SV.int IntKind.i64 (IE.lit 65536), SV.int IntKind.i64 (IE.lit 65536), SV.int IntKind.i64 (IE.lit 0), SV.int IntKind.i64 (IE.lit 0)])]
                              [(8, [SV.var 10]), (6, [SV.int IntKind.i64 (IE.lit 1099511627775), SV.int IntKind.i64 (IE.lit 1)]),
                                (2, [SV.int IntKind.i64 (IE.var 0), SV.int IntKind.i64 (IE.lit 65536)]),
                                (1, [SV.int IntKind.i64 (IE.lit 65536), SV.int IntKind.i64 (IE.lit 65536), SV.int IntKind.i64 (IE.lit 0), SV.int IntKind.i64 (IE.lit 0)])]
                              (VC.split (BE.lt (IE.var 9) (IE.lit 1024))
                                (VC.call 16 [SV.ptr 8 0, SV.int IntKind.i64 (IE.var 9), SV.int IntKind.i64 (IE.var 0), SV.int IntKind.i64 (IE.lit 1), SV.bool (BE.lit false)]
                                  [Base.int IntKind.i64, Base.slice] (SV.int IntKind.i64 (IE.var 11)) [(8, [SV.var 12])] false [8, 6, 2, 1] [8, 6, 2, 1] [6, 2, 1]
                                  [(8, [SV.var 10]), (6, [SV.int IntKind.i64 (IE.lit 1099511627775), SV.int IntKind.i64 (IE.lit 1)]),
                                    (2, [SV.int IntKind.i64 (IE.var 0), SV.int IntKind.i64 (IE.lit 65536)]),
                                    (1, [SV.int IntKind.i64 (IE.lit 65536), SV.int IntKind.i64 (IE.lit 65536), SV.int IntKind.i64 (IE.lit 0), SV.int IntKind.i64 (IE.lit 0)])]
                                  (VC.call 15 [SV.int IntKind.i64 (IE.var 11)] [Base.int IntKind.i64] (SV.int IntKind.i64 (IE.var 13)) [] false [8, 6, 2, 1] [8, 6, 2, 1] [8, 6, 2, 1]
                                    [(8, [SV.var 12]), (6, [SV.int IntKind.i64 (IE.lit 1099511627775), SV.int IntKind.i64 (IE.lit 1)]),
                                      (2, [SV.int IntKind.i64 (IE.var 0), SV.int IntKind.i64 (IE.lit 65536)]),
                                      (1, [SV.int IntKind.i64 (IE.lit 65536), SV.int IntKind.i64 (IE.lit 65536), SV.int IntKind.i64 (IE.lit 0), SV.int IntKind.i64 (IE.lit 0)])]
                                    (VC.split (BE.not (BE.eq (IE.var 13) (IE.lit 0)))
                                      (VC.leaf 0 [SV.bool (BE.lit false)] [8, 6, 2, 1]
                                        [(8, [SV.var 12]), (6, [SV.int IntKind.i64 (IE.lit 1099511627775), SV.int IntKind.i64 (IE.lit 1)]),
                                          (2, [SV.int IntKind.i64 (IE.var 0), SV.int IntKind.i64 (IE.lit 65536)]),
                                          (1, [SV.int IntKind.i64 (IE.lit 65536), SV.int IntKind.i64 (IE.lit 65536), SV.int IntKind.i64 (IE.lit 0), SV.int IntKind.i64 (IE.lit 0)])])
                                      (VC.ob (BE.le (IE.lit (-9223372036854775808)) (IE.add (IE.var 9) (IE.lit 1)))
                                        (VC.ob (BE.le (IE.add (IE.var 9) (IE.lit 1)) (IE.lit 9223372036854775807))
                                          (VC.leaf 1 [SV.int IntKind.i64 (IE.add (IE.var 9) (IE.lit 1)), SV.var 12] [8, 6, 2, 1]
                                            [(8, [SV.var 12]), (6, [SV.int IntKind.i64 (IE.lit 1099511627775), SV.int IntKind.i64 (IE.lit 1)]),
                                              (2, [SV.int IntKind.i64 (IE.var 0), SV.int IntKind.i64 (IE.lit 65536)]),
                                              (1, [SV.int IntKind.i64 (IE.lit 65536), SV.int IntKind.i64 (IE.lit 65536), SV.int IntKind.i64 (IE.lit 0), SV.int IntKind.i64 (IE.lit 0)])]))))))
                                (VC.call 16 [SV.ptr 8 0, SV.int IntKind.i64 (IE.lit 1024), SV.int IntKind.i64 (IE.var 0), SV.int IntKind.i64 (IE.lit 1), SV.bool (BE.lit false)]
                                  [Base.int IntKind.i64, Base.slice] (SV.int IntKind.i64 (IE.var 11)) [(8, [SV.var 12])] false [8, 6, 2, 1] [8, 6, 2, 1] [6, 2, 1]
                                  [(8, [SV.var 10]), (6, [SV.int IntKind.i64 (IE.lit 1099511627775), SV.int IntKind.i64 (IE.lit 1)]),
                                    (2, [SV.int IntKind.i64 (IE.var 0), SV.int IntKind.i64 (IE.lit 65536)]),
                                    (1, [SV.int IntKind.i64 (IE.lit 65536), SV.int IntKind.i64 (IE.lit 65536), SV.int IntKind.i64 (IE.lit 0), SV.int IntKind.i64 (IE.lit 0)])]
                                  (VC.call 15 [SV.int IntKind.i64 (IE.var 11)] [Base.int IntKind.i64] (SV.int IntKind.i64 (IE.var 13)) [] false [8, 6, 2, 1] [8, 6, 2, 1] [8, 6, 2, 1]
                                    [(8, [SV.var 12]), (6, [SV.int IntKind.i64 (IE.lit 1099511627775), SV.int IntKind.i64 (IE.lit 1)]),
                                      (2, [SV.int IntKind.i64 (IE.var 0), SV.int IntKind.i64 (IE.lit 65536)]),
                                      (1, [SV.int IntKind.i64 (IE.lit 65536), SV.int IntKind.i64 (IE.lit 65536), SV.int IntKind.i64 (IE.lit 0), SV.int IntKind.i64 (IE.lit 0)])]
                                    (VC.split (BE.eq (IE.var 13) (IE.lit 7))
                                      (VC.call 16 [SV.ptr 8 0, SV.int IntKind.i64 (IE.lit 1023), SV.int IntKind.i64 (IE.var 0), SV.int IntKind.i64 (IE.lit 1), SV.bool (BE.lit false)]
                                        [Base.int IntKind.i64, Base.slice] (SV.int IntKind.i64 (IE.var 14)) [(8, [SV.var 15])] false [8, 6, 2, 1] [8, 6, 2, 1] [6, 2, 1]
                                        [(8, [SV.var 12]), (6, [SV.int IntKind.i64 (IE.lit 1099511627775), SV.int IntKind.i64 (IE.lit 1)]),
                                          (2, [SV.int IntKind.i64 (IE.var 0), SV.int IntKind.i64 (IE.lit 65536)]),
                                          (1, [SV.int IntKind.i64 (IE.lit 65536), SV.int IntKind.i64 (IE.lit 65536), SV.int IntKind.i64 (IE.lit 0), SV.int IntKind.i64 (IE.lit 0)])]
                                        (VC.call 15 [SV.int IntKind.i64 (IE.var 14)] [Base.int IntKind.i64] (SV.int IntKind.i64 (IE.var 16)) [] false [8, 6, 2, 1] [8, 6, 2, 1] [8, 6, 2, 1]
                                          [(8, [SV.var 15]), (6, [SV.int IntKind.i64 (IE.lit 1099511627775), SV.int IntKind.i64 (IE.lit 1)]),
                                            (2, [SV.int IntKind.i64 (IE.var 0), SV.int IntKind.i64 (IE.lit 65536)]),
                                            (1, [SV.int IntKind.i64 (IE.lit 65536), SV.int IntKind.i64 (IE.lit 65536), SV.int IntKind.i64 (IE.lit 0), SV.int IntKind.i64 (IE.lit 0)])]
                                          (VC.split (BE.eq (IE.var 16) (IE.lit 11))
                                            (VC.call 17 [SV.ptr 8 0] [Base.int IntKind.i64] (SV.int IntKind.i64 (IE.var 17)) [] false [8, 6, 2, 1] [8, 6, 2, 1] [8, 6, 2, 1]
                                              [(8, [SV.var 15]), (6, [SV.int IntKind.i64 (IE.lit 1099511627775), SV.int IntKind.i64 (IE.lit 1)]),
                                                (2, [SV.int IntKind.i64 (IE.var 0), SV.int IntKind.i64 (IE.lit 65536)]),
                                                (1, [SV.int IntKind.i64 (IE.lit 65536), SV.int IntKind.i64 (IE.lit 65536), SV.int IntKind.i64 (IE.lit 0), SV.int IntKind.i64 (IE.lit 0)])]
                                              (VC.split (BE.eq (IE.var 17) (IE.lit 1024))
                                                (VC.call 18 [SV.ptr 8 0, SV.int IntKind.i64 (IE.lit 1023), SV.bool (BE.lit true), SV.int IntKind.i64 (IE.lit 0)] [Base.bool] (SV.bool (BE.var 18)) []
                                                  false [8, 6, 2, 1] [8, 6, 2, 1] [8, 6, 2, 1]
                                                  [(8, [SV.var 15]), (6, [SV.int IntKind.i64 (IE.lit 1099511627775), SV.int IntKind.i64 (IE.lit 1)]),
                                                    (2, [SV.int IntKind.i64 (IE.var 0), SV.int IntKind.i64 (IE.lit 65536)]),
                                                    (1, [SV.int IntKind.i64 (IE.lit 65536), SV.int IntKind.i64 (IE.lit 65536), SV.int IntKind.i64 (IE.lit 0), SV.int IntKind.i64 (IE.lit 0)])]
                                                  (VC.split (BE.var 18)
                                                    (VC.call 19 [SV.ptr 8 0, SV.int IntKind.i64 (IE.lit 5)] [Base.int IntKind.i64, Base.slice] (SV.int IntKind.i64 (IE.var 19)) [(8, [SV.var 20])] false
                                                      [8, 6, 2, 1] [8, 6, 2, 1] [6, 2, 1]
                                                      [(8, [SV.var 15]), (6, [SV.int IntKind.i64 (IE.lit 1099511627775), SV.int IntKind.i64 (IE.lit 1)]),
                                                        (2, [SV.int IntKind.i64 (IE.var 0), SV.int IntKind.i64 (IE.lit 65536)]),
                                                        (1, [SV.int IntKind.i64 (IE.lit 65536), SV.int IntKind.i64 (IE.lit 65536), SV.int IntKind.i64 (IE.lit 0), SV.int IntKind.i64 (IE.lit 0)])]
                                                      (VC.call 15 [SV.int IntKind.i64 (IE.var 19)] [Base.int IntKind.i64] (SV.int IntKind.i64 (IE.var 21)) [] false [8, 6, 2, 1] [8, 6, 2, 1]
                                                        [8, 6, 2, 1]
                                                        [(8, [SV.var 20]), (6, [SV.int IntKind.i64 (IE.lit 1099511627775), SV.int IntKind.i64 (IE.lit 1)]),
                                                          (2, [SV.int IntKind.i64 (IE.var 0), SV.int IntKind.i64 (IE.lit 65536)]),
                                                          (1, [SV.int IntKind.i64 (IE.lit 65536), SV.int IntKind.i64 (IE.lit 65536), SV.int IntKind.i64 (IE.lit 0), SV.int IntKind.i64 (IE.lit 0)])]
                                                        (VC.split (BE.eq (IE.var 21) (IE.lit 0))
                                                          (VC.call 16 [SV.ptr 8 0, SV.int IntKind.i64 (IE.lit 5), SV.int IntKind.i64 (IE.var 0), SV.int IntKind.i64 (IE.lit 1), SV.bool (BE.lit true)]
                                                            [Base.int IntKind.i64, Base.slice] (SV.int IntKind.i64 (IE.var 22)) [(8, [SV.var 23])] false [8, 6, 2, 1] [8, 6, 2, 1] [6, 2, 1]
                                                            [(8, [SV.var 20]), (6, [SV.int IntKind.i64 (IE.lit 1099511627775), SV.int IntKind.i64 (IE.lit 1)]),
                                                              (2, [SV.int IntKind.i64 (IE.var 0), SV.int IntKind.i64 (IE.lit 65536)]),
                                                              (1, [SV.int IntKind.i64 (IE.lit 65536), SV.int IntKind.i64 (IE.lit 65536), SV.int IntKind.i64 (IE.lit 0), SV.int IntKind.i64 (IE.lit 0)])]
                                                            (VC.call 15 [SV.int IntKind.i64 (IE.var 22)] [Base.int IntKind.i64] (SV.int IntKind.i64 (IE.var 24)) [] false [8, 6, 2, 1] [8, 6, 2, 1]
                                                              [8, 6, 2, 1]
                                                              [(8, [SV.var 23]), (6, [SV.int IntKind.i64 (IE.lit 1099511627775), SV.int IntKind.i64 (IE.lit 1)]),
                                                                (2, [SV.int IntKind.i64 (IE.var 0), SV.int IntKind.i64 (IE.lit 65536)]),
                                                                (1,
                                                                  [SV.int IntKind.i64 (IE.lit 65536), SV.int IntKind.i64 (IE.lit 65536), SV.int IntKind.i64 (IE.lit 0), SV.int IntKind.i64 (IE.lit 0)])]
                                                              (VC.split (BE.eq (IE.var 24) (IE.lit 0))
                                                                (VC.call 18 [SV.ptr 8 0, SV.int IntKind.i64 (IE.lit 5), SV.bool (BE.lit false), SV.int IntKind.i64 (IE.lit 0)] [Base.bool]
                                                                  (SV.bool (BE.var 25)) [] false [8, 6, 2, 1] [8, 6, 2, 1] [8, 6, 2, 1]
                                                                  [(8, [SV.var 23]), (6, [SV.int IntKind.i64 (IE.lit 1099511627775), SV.int IntKind.i64 (IE.lit 1)]),
                                                                    (2, [SV.int IntKind.i64 (IE.var 0), SV.int IntKind.i64 (IE.lit 65536)]),
                                                                    (1,
                                                                      [SV.int IntKind.i64 (IE.lit 65536), SV.int IntKind.i64 (IE.lit 65536), SV.int IntKind.i64 (IE.lit 0),
                                                                        SV.int IntKind.i64 (IE.lit 0)])]
                                                                  (VC.split (BE.var 25)
                                                                    (VC.call 9 [] [Base.bool] (SV.bool (BE.var 26)) [] false [8, 6, 2, 1] [8, 6, 2, 1] [8, 6, 2, 1]
                                                                      [(8, [SV.var 23]), (6, [SV.int IntKind.i64 (IE.lit 1099511627775), SV.int IntKind.i64 (IE.lit 1)]),
                                                                        (2, [SV.int IntKind.i64 (IE.var 0), SV.int IntKind.i64 (IE.lit 65536)]),
                                                                        (1,
                                                                          [SV.int IntKind.i64 (IE.lit 65536), SV.int IntKind.i64 (IE.lit 65536), SV.int IntKind.i64 (IE.lit 0),
                                                                            SV.int IntKind.i64 (IE.lit 0)])]
                                                                      (VC.leaf 0 [SV.bool (BE.var 26)] [8, 6, 2, 1]
                                                                        [(8, [SV.var 23]), (6, [SV.int IntKind.i64 (IE.lit 1099511627775), SV.int IntKind.i64 (IE.lit 1)]),
                                                                          (2, [SV.int IntKind.i64 (IE.var 0), SV.int IntKind.i64 (IE.lit 65536)]),
                                                                          (1,
                                                                            [SV.int IntKind.i64 (IE.lit 65536), SV.int IntKind.i64 (IE.lit 65536), SV.int IntKind.i64 (IE.lit 0),
                                                                              SV.int IntKind.i64 (IE.lit 0)])]))
                                                                    (VC.leaf 0 [SV.bool (BE.lit false)] [8, 6, 2, 1]
                                                                      [(8, [SV.var 23]), (6, [SV.int IntKind.i64 (IE.lit 1099511627775), SV.int IntKind.i64 (IE.lit 1)]),
                                                                        (2, [SV.int IntKind.i64 (IE.var 0), SV.int IntKind.i64 (IE.lit 65536)]),
                                                                        (1,
                                                                          [SV.int IntKind.i64 (IE.lit 65536), SV.int IntKind.i64 (IE.lit 65536), SV.int IntKind.i64 (IE.lit 0),
                                                                            SV.int IntKind.i64 (IE.lit 0)])])))
                                                                (VC.leaf 0 [SV.bool (BE.lit false)] [8, 6, 2, 1]
                                                                  [(8, [SV.var 23]), (6, [SV.int IntKind.i64 (IE.lit 1099511627775), SV.int IntKind.i64 (IE.lit 1)]),
                                                                    (2, [SV.int IntKind.i64 (IE.var 0), SV.int IntKind.i64 (IE.lit 65536)]),
                                                                    (1,
                                                                      [SV.int IntKind.i64 (IE.lit 65536), SV.int IntKind.i64 (IE.lit 65536), SV.int IntKind.i64 (IE.lit 0),
                                                                        SV.int IntKind.i64 (IE.lit 0)])]))))
                                                          (VC.leaf 0 [SV.bool (BE.lit false)] [8, 6, 2, 1]
                                                            [(8, [SV.var 20]), (6, [SV.int IntKind.i64 (IE.lit 1099511627775), SV.int IntKind.i64 (IE.lit 1)]),
                                                              (2, [SV.int IntKind.i64 (IE.var 0), SV.int IntKind.i64 (IE.lit 65536)]),
                                                              (1,
                                                                [SV.int IntKind.i64 (IE.lit 65536), SV.int IntKind.i64 (IE.lit 65536), SV.int IntKind.i64 (IE.lit 0),
                                                                  SV.int IntKind.i64 (IE.lit 0)])]))))
                                                    (VC.leaf 0 [SV.bool (BE.lit false)] [8, 6, 2, 1]
                                                      [(8, [SV.var 15]), (6, [SV.int IntKind.i64 (IE.lit 1099511627775), SV.int IntKind.i64 (IE.lit 1)]),
                                                        (2, [SV.int IntKind.i64 (IE.var 0), SV.int IntKind.i64 (IE.lit 65536)]),
                                                        (1, [SV.int IntKind.i64 (IE.lit 65536), SV.int IntKind.i64 (IE.lit 65536), SV.int IntKind.i64 (IE.lit 0), SV.int IntKind.i64 (IE.lit 0)])])))
                                                (VC.leaf 0 [SV.bool (BE.lit false)] [8, 6, 2, 1]
                                                  [(8, [SV.var 15]), (6, [SV.int IntKind.i64 (IE.lit 1099511627775), SV.int IntKind.i64 (IE.lit 1)]),
                                                    (2, [SV.int IntKind.i64 (IE.var 0), SV.int IntKind.i64 (IE.lit 65536)]),
                                                    (1, [SV.int IntKind.i64 (IE.lit 65536), SV.int IntKind.i64 (IE.lit 65536), SV.int IntKind.i64 (IE.lit 0), SV.int IntKind.i64 (IE.lit 0)])])))
                                            (VC.leaf 0 [SV.bool (BE.lit false)] [8, 6, 2, 1]
                                              [(8, [SV.var 15]), (6, [SV.int IntKind.i64 (IE.lit 1099511627775), SV.int IntKind.i64 (IE.lit 1)]),
                                                (2, [SV.int IntKind.i64 (IE.var 0), SV.int IntKind.i64 (IE.lit 65536)]),
                                                (1, [SV.int IntKind.i64 (IE.lit 65536), SV.int IntKind.i64 (IE.lit 65536), SV.int IntKind.i64 (IE.lit 0), SV.int IntKind.i64 (IE.lit 0)])]))))
                                      (VC.leaf 0 [SV.bool (BE.lit false)] [8, 6, 2, 1]
                                        [(8, [SV.var 12]), (6, [SV.int IntKind.i64 (IE.lit 1099511627775), SV.int IntKind.i64 (IE.lit 1)]),
                                          (2, [SV.int IntKind.i64 (IE.var 0), SV.int IntKind.i64 (IE.lit 65536)]),
                                          (1, [SV.int IntKind.i64 (IE.lit 65536), SV.int IntKind.i64 (IE.lit 65536), SV.int IntKind.i64 (IE.lit 0), SV.int IntKind.i64 (IE.lit 0)])]))))))))))))))))))) := by kernel_rfl


theorem fnd_none {L : List Cmd} {id : Int} (h : ∀ c ∈ L, c.id ≠ id) : fnd L id = -1 :=
  idxFrom_none _ L 0 fun j y hy => decide_eq_false (h y (List.mem_of_getElem? hy))
theorem fnd_some {L : List Cmd} {c : Cmd} (h : c ∈ L) : 0 ≤ fnd L c.id := by
  rcases fnd_or L c.id with e | ⟨i, x, e, _⟩
  · exfalso
    have hn : fnd L c.id < 0 := by omega
    obtain ⟨j, hj⟩ := List.getElem?_of_mem h
    have := (idxFrom_neg (fun _ (x : Cmd) => decide (x.id = c.id)) L 0).1 hn j c hj
    simp at this
  · omega
theorem atE_some {L : List Cmd} {c : Cmd} (h : c ∈ L) (h0 : 0 ≤ c.id) : atE L c.id = 0 := by
  unfold atE
  rw [if_neg (by omega), if_pos (fnd_some h)]
theorem rdy_reads {L : List Cmd} (h : ∀ c ∈ L, c.wr = false) (i : Nat) : rdy L i = true := by
  unfold rdy
  split
  · rename_i c hc
    rw [List.all_eq_true]
    intro x hx
    have h1 := h x (List.mem_of_mem_take hx)
    have h2 := h c (List.mem_of_getElem? hc)
    simp [conf, h1, h2]
  · rfl
/-- the first i commands that read -/
def LL (lba : Int) (i : Nat) : List Cmd := (List.range i).map fun j : Nat => ⟨(j : Int), lba, 1, false⟩
theorem LL_length (lba : Int) (i : Nat) : (LL lba i).length = i := by simp [LL]
theorem LL_succ (lba : Int) (i : Nat) : LL lba (i + 1) = LL lba i ++ [⟨(i : Int), lba, 1, false⟩] := by simp [LL, List.range_succ]
theorem LL_mem {lba : Int} {i : Nat} {c : Cmd} (h : c ∈ LL lba i) : ∃ j : Nat, j < i ∧ c = ⟨(j : Int), lba, 1, false⟩ := by
  simp only [LL, List.mem_map, List.mem_range] at h
  obtain ⟨j, hj, rfl⟩ := h
  exact ⟨j, hj, rfl⟩
theorem LL_get {lba : Int} {i j : Nat} (h : j < i) : (LL lba i)[j]? = some ⟨(j : Int), lba, 1, false⟩ := by simp [LL, h]
theorem okBlk1 {lba : Int} (h1 : 0 ≤ lba) (h2 : lba ≤ 1099511562240) : okBlk lba 1 = true := by
  unfold okBlk
  simp only [Bool.and_eq_true, decide_eq_true_eq]
  omega
theorem begE_LL {lba : Int} (h1 : 0 ≤ lba) (h2 : lba ≤ 1099511562240) (i : Nat) (hi : i < 1024) : begE (LL lba i) ⟨(i : Int), lba, 1, false⟩ = 0 := by
  unfold begE
  rw [if_neg (by simp [okBlk1 h1 h2]), if_neg, if_neg (by rw [LL_length]; omega)]
  rw [fnd_none fun c hc e => by obtain ⟨j, hj, rfl⟩ := LL_mem hc; simp at e; omega]
  omega
theorem begE_full {lba : Int} (h1 : 0 ≤ lba) (h2 : lba ≤ 1099511562240) : begE (LL lba 1024) ⟨1024, lba, 1, false⟩ = 7 := by
  unfold begE
  rw [if_neg (by simp [okBlk1 h1 h2]), if_neg, if_pos (by rw [LL_length]; omega)]
  rw [fnd_none fun c hc e => by obtain ⟨j, hj, rfl⟩ := LL_mem hc; simp at e; omega]
  omega
theorem mem1023 (lba : Int) : (⟨1023, lba, 1, false⟩ : Cmd) ∈ LL lba 1024 := List.mem_of_getElem? (LL_get (i := 1024) (j := 1023) (by omega))
theorem mem5 (lba : Int) : (⟨5, lba, 1, false⟩ : Cmd) ∈ LL lba 1024 := List.mem_of_getElem? (LL_get (i := 1024) (j := 5) (by omega))
theorem begE_busy {lba : Int} (h1 : 0 ≤ lba) (h2 : lba ≤ 1099511562240) : begE (LL lba 1024) ⟨1023, lba, 1, false⟩ = 11 := by
  unfold begE
  rw [if_neg (by simp [okBlk1 h1 h2]), if_pos (fnd_some (mem1023 lba))]
theorem reads_LL (lba : Int) (i : Nat) : ∀ c ∈ LL lba i, c.wr = false := fun c hc => by obtain ⟨j, _, rfl⟩ := LL_mem hc; rfl
theorem rdB_1023 (lba : Int) : rdB (LL lba 1024) 1023 = true := by
  unfold rdB
  rw [atE_some (mem1023 lba) (by decide : (0 : Int) ≤ 1023), rdy_reads (reads_LL lba 1024)]
  rfl
theorem endE_5 (lba : Int) : endE (LL lba 1024) 5 = 0 := by
  unfold endE
  have h := atE_some (mem5 lba) (by decide : (0 : Int) ≤ 5)
  simp only at h
  rw [if_pos h, rdy_reads (reads_LL lba 1024)]
  rfl
theorem atI_5 (lba : Int) : (atI (LL lba 1024) 5).toNat = 5 := by
  have h := atE_some (mem5 lba) (by decide : (0 : Int) ≤ 5)
  simp only at h
  unfold atI
  rw [if_pos h]
  have := fnd_some (mem5 lba)
  simp only at this
  rcases fnd_or (LL lba 1024) 5 with e | ⟨i, c, e, hc, hid⟩
  · omega
  · have hi : i < 1024 := by have := (List.getElem?_eq_some_iff.1 hc).1; rwa [LL_length] at this
    rw [LL_get hi] at hc
    cases hc
    simp at hid
    rw [e]
    omega
theorem endL_5 (lba : Int) : endL (LL lba 1024) 5 = (LL lba 1024).eraseIdx 5 := by
  unfold endL
  rw [if_pos (endE_5 lba), atI_5]
theorem erase_mem {lba : Int} {c : Cmd} (h : c ∈ (LL lba 1024).eraseIdx 5) : ∃ j : Nat, j < 1024 ∧ j ≠ 5 ∧ c = ⟨(j : Int), lba, 1, false⟩ := by
  obtain ⟨i, hi, hc⟩ := List.mem_eraseIdx_iff_getElem?.1 h
  have hlt : i < 1024 := by have := (List.getElem?_eq_some_iff.1 hc).1; rwa [LL_length] at this
  rw [LL_get hlt] at hc
  cases hc
  exact ⟨i, hlt, hi, rfl⟩
theorem erase_len (lba : Int) : ((LL lba 1024).eraseIdx 5).length = 1023 := by rw [List.length_eraseIdx, LL_length]; rfl
theorem begE_5 {lba : Int} (h1 : 0 ≤ lba) (h2 : lba ≤ 1099511562240) : begE ((LL lba 1024).eraseIdx 5) ⟨5, lba, 1, true⟩ = 0 := by
  unfold begE
  rw [if_neg (by simp [okBlk1 h1 h2]), if_neg, if_neg (by rw [erase_len]; omega)]
  rw [fnd_none fun c hc e => by obtain ⟨j, hj, hn, rfl⟩ := erase_mem hc; simp at e; omega]
  omega
theorem rdB_5 {lba : Int} (h1 : 0 ≤ lba) (h2 : lba ≤ 1099511562240) : rdB ((LL lba 1024).eraseIdx 5 ++ [⟨5, lba, 1, true⟩]) 5 = false ∧ atE ((LL lba 1024).eraseIdx 5 ++ [⟨5, lba, 1, true⟩]) 5 = 0 := by
  have hm : (⟨5, lba, 1, true⟩ : Cmd) ∈ (LL lba 1024).eraseIdx 5 ++ [⟨5, lba, 1, true⟩] := by simp
  have h := atE_some hm (by decide : (0 : Int) ≤ 5)
  simp only at h
  refine ⟨?_, h⟩
  have hI : atI ((LL lba 1024).eraseIdx 5 ++ [⟨5, lba, 1, true⟩]) 5 = 1023 := by
    unfold atI
    rw [if_pos h]
    rcases fnd_or ((LL lba 1024).eraseIdx 5 ++ [⟨5, lba, 1, true⟩]) 5 with e | ⟨i, c, e, hc, hid⟩
    · have := fnd_some hm
      simp only at this
      omega
    · rw [List.getElem?_append] at hc
      split at hc
      · obtain ⟨j, _, hn, rfl⟩ := erase_mem (List.mem_of_getElem? hc)
        simp at hid
        omega
      · rename_i hge
        have hlt := (List.getElem?_eq_some_iff.1 hc).1
        rw [erase_len] at hge hlt
        simp at hlt
        rw [e]
        omega
  unfold rdB
  rw [h, hI]
  have hget : ((LL lba 1024).eraseIdx 5 ++ [⟨5, lba, 1, true⟩])[(1023 : Int).toNat]? = some ⟨5, lba, 1, true⟩ := by
    rw [List.getElem?_append_right (by rw [erase_len]; decide), erase_len]
    rfl
  unfold rdy
  rw [hget]
  have h0 : (⟨0, lba, 1, false⟩ : Cmd) ∈ (LL lba 1024).eraseIdx 5 := List.mem_eraseIdx_iff_getElem?.2 ⟨0, by decide, LL_get (i := 1024) (j := 0) (by omega)⟩
  have htake : ((LL lba 1024).eraseIdx 5 ++ [(⟨5, lba, 1, true⟩ : Cmd)]).take (1023 : Int).toNat = (LL lba 1024).eraseIdx 5 := by
    rw [List.take_append_of_le_length (by rw [erase_len]; decide), List.take_of_length_le (by rw [erase_len]; decide)]
  rw [htake]
  have hc : conf ⟨0, lba, 1, false⟩ ⟨5, lba, 1, true⟩ = true := by
    have hw := wrap_id (n := lba + 1) (by omega) (by omega)
    simp only [conf, hw]
    simp
    omega
  have hall : ((LL lba 1024).eraseIdx 5).all (fun x : Cmd => !conf x ⟨5, lba, 1, true⟩) = false := by
    exact List.all_eq_false.2 ⟨(⟨0, lba, 1, false⟩ : Cmd), h0, by simp [hc]⟩
  simp only [hall, Bool.and_false]
theorem piecesNo (u p b o lba n : Int) (power : Bool) (w : World) (hok : (cfgOk u p b o && okBlk lba n) = false) :
    Gives Try.prog 14 [.agg #[.int .i64 u, .int .i64 p, .int .i64 b, .int .i64 o], .int .i64 lba, .int .i64 n, .bool power, .int .i64 2, .slice none 0 0] w (.bool true) := by
  refine ((c14 u p b o lba n power 2 (.slice none 0 0) [] w (Mine.nil (T := 36)).arr).mono (R' := fun v _ => v = .bool true) fun v w' ⟨L, e, _, hr, hv⟩ => ?_).runs.gives
  rcases hr with ⟨_, rfl, rfl⟩ | ⟨h, _⟩
  · rw [hv]; rfl
  · rw [hok] at h; cases h
theorem cutB (lba n : Int) (h : 1 ≤ n) (h2 : n ≤ 65536) : Cut 65536 0 0 lba n [(lba, n)] := by
  have hp : partA 0 0 lba n = n := by unfold partA; rw [if_pos rfl]
  have h := Cut.cons (lim := 65536) (b := 0) (o := 0) (lba := lba) (n := n) (L := []) (by omega) (.nil (by rw [hp]; omega))
  rw [hp, show chunk 65536 lba n = [(lba, n)] from by unfold chunk; rw [if_pos h2]] at h
  exact h
theorem cfgB : cfgOk 65536 65536 0 0 = true := by decide +kernel
theorem c4 (lba : Int) (w : World) : Gives Try.prog 4 [.int .i64 lba] w (.bool true) := by
  refine gives mix t4 rfl rfl (ε := [.int .i64 lba]) ⟨⟨_, rfl⟩, trivial⟩ ?_
  refine den_splitLt (fun _ => den_call_bool (b := true) (fun w _ => c9 w) rfl (fun _ _ _ _ => den_leaf rfl)) (fun hl1 => den_splitLt (fun _ => den_call_bool (b := true) (fun w _ => c9 w) rfl (fun _ _ _ _ => den_leaf rfl)) (fun hl2 => ?_))
  have hl1' : 0 ≤ lba := hl1
  have hl2' : lba ≤ 1099511562240 := hl2
  refine den_blk fun b1 hb1 _ _ => den_blk fun b2 hb2 _ _ => ?_
  refine den_norm (by simp only [List.cons_append, List.nil_append]; rfl) ?_
  refine den_call_bool (b := true) (fun w1 h1 => ?_) rfl (fun w1 w2 h1 h2 => ?_)
  · exact piecesYes 65536 65536 0 0 lba 65536 true _ [(lba, 65536)] w1 (arr_lit (L := [(lba, 65536)]) h1.facts.1 rfl) (by rw [cfgB]; unfold okBlk; simp only [Bool.true_and, Bool.and_eq_true, decide_eq_true_eq]; omega) (cutB lba 65536 (by decide) (by decide))
  refine den_norm (by simp only [List.cons_append, List.nil_append]; rfl) (den_split_false (by simp [BE.den, nth, vbool]) ?_)
  refine den_call_bool (b := true) (fun w3 h3 => ?_) rfl (fun w3 w4 h3 h4 => ?_)
  · exact piecesNo 65536 65536 0 0 lba 65537 true w3 (by unfold okBlk; simp)
  refine den_norm (by simp only [List.cons_append, List.nil_append]; rfl) (den_split_false (by simp [BE.den, nth, vbool]) ?_)
  refine den_call_bool (b := true) (fun w5 h5 => ?_) rfl (fun w5 w6 h5 h6 => ?_)
  · exact piecesNo 65536 65536 0 0 1099511627776 1 true w5 (by decide +kernel)
  refine den_norm (by simp only [List.cons_append, List.nil_append]; rfl) (den_split_false (by simp [BE.den, nth, vbool]) (den_blk fun b6 hb6 _ _ => ?_))
  refine den_norm (by simp only [List.cons_append, List.nil_append]; rfl) ?_
  refine den_call_bool (b := true) (fun w7 h7 => ?_) rfl (fun w7 w8 h7 h8 => ?_)
  · exact piecesYes 65536 65536 0 0 1099511627775 1 true _ [(1099511627775, 1)] w7 (arr_lit (L := [(1099511627775, 1)]) h7.facts.1 rfl) (by decide +kernel) (cutB 1099511627775 1 (by decide) (by decide))
  refine den_norm (by simp only [List.cons_append, List.nil_append]; rfl) (den_split_false (by simp [BE.den, nth, vbool]) (den_blk fun b8 hb8 _ _ => ?_))
  refine den_norm (by simp only [List.cons_append, List.nil_append]; rfl) ?_
  have d8 : b1 < b8 ∧ b2 < b8 ∧ b6 < b8 := by
    have e1 := h7.lt (i := 1) (b := b1) (by simp [keys]) rfl
    have e2 := h7.lt (i := 2) (b := b2) (by simp [keys]) rfl
    have e6 := h7.lt (i := 6) (b := b6) (by simp [keys]) rfl
    have e8 := h8.size
    exact ⟨by omega, by omega, by omega⟩
  refine den_loop (fun ls w' => ∃ (i : Nat) (s : Value), ls = [.int .i64 i, s] ∧ i ≤ 1024 ∧ Mine cmdE 82 w' s (LL lba i) ∧ (∀ g, s.ownBlock = some g → b1 ≠ g ∧ b2 ≠ g ∧ b6 ≠ g ∧ b8 ≠ g ∧ w.heap.size ≤ g) ∧ b1 < w'.heap.size ∧ b2 < w'.heap.size ∧ b6 < w'.heap.size ∧ b8 < w'.heap.size ∧ w.heap.size ≤ b8) (fun ls _ => 1024 - (vint (nth ls 0)).toNat) (fun w9 h9 => ⟨0, _, rfl, by omega, Mine.nil, (fun g hg => by cases hg), h9.lt (i := 1) (by simp [keys]) rfl, h9.lt (i := 2) (by simp [keys]) rfl, h9.lt (i := 6) (by simp [keys]) rfl, h9.lt (i := 8) (by simp [keys]) rfl, ?_⟩) ?_
  · have e1 : w.heap.size ≤ w7.heap.size := h7.base.size
    have e2 := h8.size
    omega
  rintro w9 l w10 h9 hf9 ⟨i, s0, rfl, hi, hm, n0, l1, l2, l6, l8, z8⟩ hk9 hfa9
  have O10 : OrdAt w10 b8 s0 (LL lba i) := ⟨hfa9.1, hm, fun e => (n0 b8 e).2.2.2.1 rfl⟩
  refine den_norm (by simp only [List.cons_append, List.nil_append]; rfl) (den_splitLt (fun hlt => ?_) (fun hge => ?_))
  · have hlt' : i < 1024 := by have h : (i : Int) < 1024 := hlt; omega
    refine den_meth (b := b8) (s := s0) (L := LL lba i) (L' := LL lba (i + 1)) (e := 0) rfl rfl rfl O10 ⟨fun hx => absurd (show b8 < w.heap.size from hx) (by omega), fun g hg hx => absurd (show g < w.heap.size from hx) (by have := n0 g hg; omega)⟩ (fun g hg hin => by have := n0 g hg; simp [BlkIn, nth, blkOf, vaddr] at hin; omega) ⟨fun hin => by simp [BlkIn, nth, blkOf, vaddr] at hin; omega, fun g hg hin => by have := n0 g hg; simp [BlkIn, nth, blkOf, vaddr] at hin; omega⟩ (fun hd => by cases hd) (fun w hO => ?_) (fun v => ⟨rfl, rfl, rfl⟩) (fun w11 s1 w12 h11 kk11 O12 fr => ?_)
    · have h := c16 b8 _ (LL lba i) ⟨(i : Int), lba, 1, false⟩ w hO (by rw [LL_length]; omega)
      rw [begE_LL hl1' hl2' i hlt', show begL (LL lba i) ⟨(i : Int), lba, 1, false⟩ = LL lba (i + 1) from by unfold begL; rw [if_pos (begE_LL hl1' hl2' i hlt'), LL_succ]] at h
      exact h
    have z11 := h11.kept.size
    have y12 := kk11.size
    have n1 : ∀ g, s1.ownBlock = some g → b1 ≠ g ∧ b2 ≠ g ∧ b6 ≠ g ∧ b8 ≠ g ∧ w.heap.size ≤ g := fun g hg => by
      rcases fr g hg with h | h
      · exact n0 g h
      · exact ⟨by omega, by omega, by omega, by omega, by have : w.heap.size ≤ w11.heap.size := h11.base.size; omega⟩
    refine den_norm (by simp only [List.cons_append, List.nil_append]; rfl) ?_
    refine den_call_int (x := 0) (fun w h => ?_) rfl (fun w13 w14 h13 h14 => ?_)
    · exact c15 (0) w
    have O14 := (O12.shown (kb := 8) h13 rfl rfl rfl fun g hg hin => by have := n1 g hg; simp [BlkIn, nth, blkOf, vaddr] at hin; omega).same h14
    have z14 := Nat.le_trans h13.kept.size h14.size
    refine den_norm (by simp only [List.cons_append, List.nil_append]; rfl) (den_split_false (by simp [BE.den, IE.den, nth, vint]) ?_)
    refine den_ob64 (by simp only [IE.den, nth, vint]; omega) (den_leaf' fun w15 h15 => (if_pos rfl).mpr ⟨⟨i + 1, s1, rfl, by omega, ?_, n1, ?_, ?_, ?_, ?_, z8⟩, ?_⟩)
    · exact (O14.shown (kb := 8) h15 rfl rfl rfl fun g hg hin => by have := n1 g hg; simp [BlkIn, nth, blkOf, vaddr] at hin; omega).mine
    · have := h15.kept.size; omega
    · have := h15.kept.size; omega
    · have := h15.kept.size; omega
    · have := h15.kept.size; omega
    · show 1024 - ((i : Int) + 1).toNat < 1024 - ((i : Int)).toNat
      omega
  · obtain rfl : i = 1024 := by have h : (1024 : Int) ≤ i := hge; omega
    refine den_meth (b := b8) (s := s0) (L := LL lba 1024) (L' := LL lba 1024) (e := 7) rfl rfl rfl O10 ⟨fun hx => absurd (show b8 < w.heap.size from hx) (by omega), fun g hg hx => absurd (show g < w.heap.size from hx) (by have := n0 g hg; omega)⟩ (fun g hg hin => by have := n0 g hg; simp [BlkIn, nth, blkOf, vaddr] at hin; omega) ⟨fun hin => by simp [BlkIn, nth, blkOf, vaddr] at hin; omega, fun g hg hin => by have := n0 g hg; simp [BlkIn, nth, blkOf, vaddr] at hin; omega⟩ (fun hd => by cases hd) (fun w hO => ?_) (fun v => ⟨rfl, rfl, rfl⟩) (fun w11 s1 w12 h11 kk11 P12 fr => ?_)
    · have h := c16 b8 _ (LL lba 1024) ⟨1024, lba, 1, false⟩ w hO (by rw [LL_length]; omega)
      rw [begE_full hl1' hl2', show begL (LL lba 1024) ⟨1024, lba, 1, false⟩ = LL lba 1024 from by unfold begL; rw [if_neg (by rw [begE_full hl1' hl2']; decide)]] at h
      exact h
    have z11 := h11.kept.size
    have y12 := kk11.size
    have n1 : ∀ g, s1.ownBlock = some g → b1 ≠ g ∧ b2 ≠ g ∧ b6 ≠ g ∧ b8 ≠ g ∧ w.heap.size ≤ g := fun g hg => by
      rcases fr g hg with h | h
      · exact n0 g h
      · exact ⟨by omega, by omega, by omega, by omega, by have : w.heap.size ≤ w11.heap.size := h11.base.size; omega⟩
    refine den_norm (by simp only [List.cons_append, List.nil_append]; rfl) ?_
    refine den_call_int (x := 7) (fun w h => ?_) rfl (fun w13 w14 h13 h14 => ?_)
    · exact c15 (7) w
    have P14 := (P12.shown (kb := 8) h13 rfl rfl rfl fun g hg hin => by have := n1 g hg; simp [BlkIn, nth, blkOf, vaddr] at hin; omega).same h14
    have z14 := Nat.le_trans h13.kept.size h14.size
    refine den_norm (by simp only [List.cons_append, List.nil_append]; rfl) (den_split_true (by simp [BE.den, IE.den, nth, vint]) ?_)
    refine den_meth (b := b8) (s := s1) (L := LL lba 1024) (L' := LL lba 1024) (e := 11) rfl rfl rfl P14 ⟨fun hx => absurd (show b8 < w.heap.size from hx) (by omega), fun g hg hx => absurd (show g < w.heap.size from hx) (by have := n1 g hg; omega)⟩ (fun g hg hin => by have := n1 g hg; simp [BlkIn, nth, blkOf, vaddr] at hin; omega) ⟨fun hin => by simp [BlkIn, nth, blkOf, vaddr] at hin; omega, fun g hg hin => by have := n1 g hg; simp [BlkIn, nth, blkOf, vaddr] at hin; omega⟩ (fun hd => by cases hd) (fun w hO => ?_) (fun v => ⟨rfl, rfl, rfl⟩) (fun w15 s2 w16 h15 kk15 P16 fr => ?_)
    · have h := c16 b8 _ (LL lba 1024) ⟨1023, lba, 1, false⟩ w hO (by rw [LL_length]; omega)
      rw [begE_busy hl1' hl2', show begL (LL lba 1024) ⟨1023, lba, 1, false⟩ = LL lba 1024 from by unfold begL; rw [if_neg (by rw [begE_busy hl1' hl2']; decide)]] at h
      exact h
    have z15 := h15.kept.size
    have y16 := kk15.size
    have n2 : ∀ g, s2.ownBlock = some g → b1 ≠ g ∧ b2 ≠ g ∧ b6 ≠ g ∧ b8 ≠ g ∧ w.heap.size ≤ g := fun g hg => by
      rcases fr g hg with h | h
      · exact n1 g h
      · exact ⟨by omega, by omega, by omega, by omega, by have : w.heap.size ≤ w15.heap.size := h15.base.size; omega⟩
    refine den_norm (by simp only [List.cons_append, List.nil_append]; rfl) ?_
    refine den_call_int (x := 11) (fun w h => ?_) rfl (fun w17 w18 h17 h18 => ?_)
    · exact c15 (11) w
    have P18 := (P16.shown (kb := 8) h17 rfl rfl rfl fun g hg hin => by have := n2 g hg; simp [BlkIn, nth, blkOf, vaddr] at hin; omega).same h18
    have z18 := Nat.le_trans h17.kept.size h18.size
    refine den_norm (by simp only [List.cons_append, List.nil_append]; rfl) (den_split_true (by simp [BE.den, IE.den, nth, vint]) ?_)
    refine den_call_int (x := 1024) (fun w19 h19 => ?_) rfl (fun w19 w20 h19 h20 => ?_)
    · have h := c17 (.pointer (some ⟨b8, 0, none⟩)) (LL lba 1024) w19 (P18.shown (kb := 8) h19 rfl rfl rfl fun g hg hin => by have := n2 g hg; simp [BlkIn, nth, blkOf, vaddr] at hin; omega).r
      rw [LL_length] at h
      exact h
    have P20 := (P18.shown (kb := 8) h19 rfl rfl rfl fun g hg hin => by have := n2 g hg; simp [BlkIn, nth, blkOf, vaddr] at hin; omega).same h20
    have z20 := Nat.le_trans h19.kept.size h20.size
    refine den_norm (by simp only [List.cons_append, List.nil_append]; rfl) (den_split_true (by simp [BE.den, IE.den, nth, vint]) ?_)
    refine den_call_bool (b := true) (fun w21 h21 => ?_) rfl (fun w21 w22 h21 h22 => ?_)
    · have h := c18 (.pointer (some ⟨b8, 0, none⟩)) (LL lba 1024) 1023 0 true w21 (P20.shown (kb := 8) h21 rfl rfl rfl fun g hg hin => by have := n2 g hg; simp [BlkIn, nth, blkOf, vaddr] at hin; omega).r (by rw [LL_length]; decide)
      rw [show ((rdB (LL lba 1024) 1023 == true) && decide (atE (LL lba 1024) 1023 = 0)) = true from by rw [rdB_1023, atE_some (mem1023 lba) (by decide : (0 : Int) ≤ 1023)]; rfl] at h
      exact h
    have P22 := (P20.shown (kb := 8) h21 rfl rfl rfl fun g hg hin => by have := n2 g hg; simp [BlkIn, nth, blkOf, vaddr] at hin; omega).same h22
    have z22 := Nat.le_trans h21.kept.size h22.size
    refine den_norm (by simp only [List.cons_append, List.nil_append]; rfl) (den_split_true (by simp [BE.den, nth, vbool]) ?_)
    refine den_meth (b := b8) (s := s2) (L := LL lba 1024) (L' := (LL lba 1024).eraseIdx 5) (e := 0) rfl rfl rfl P22 ⟨fun hx => absurd (show b8 < w.heap.size from hx) (by omega), fun g hg hx => absurd (show g < w.heap.size from hx) (by have := n2 g hg; omega)⟩ (fun g hg hin => by have := n2 g hg; simp [BlkIn, nth, blkOf, vaddr] at hin; omega) ⟨fun hin => by simp [BlkIn, nth, blkOf, vaddr] at hin; omega, fun g hg hin => by have := n2 g hg; simp [BlkIn, nth, blkOf, vaddr] at hin; omega⟩ (fun hd => by cases hd) (fun w hO => ?_) (fun v => ⟨rfl, rfl, rfl⟩) (fun w23 s3 w24 h23 kk23 P24 fr => ?_)
    · have h := c19' b8 _ (LL lba 1024) 5 w hO (by rw [LL_length]; omega)
      rw [endE_5, endL_5] at h
      exact h
    have z23 := h23.kept.size
    have y24 := kk23.size
    have n3 : ∀ g, s3.ownBlock = some g → b1 ≠ g ∧ b2 ≠ g ∧ b6 ≠ g ∧ b8 ≠ g ∧ w.heap.size ≤ g := fun g hg => by
      rcases fr g hg with h | h
      · exact n2 g h
      · exact ⟨by omega, by omega, by omega, by omega, by have : w.heap.size ≤ w23.heap.size := h23.base.size; omega⟩
    refine den_norm (by simp only [List.cons_append, List.nil_append]; rfl) ?_
    refine den_call_int (x := 0) (fun w h => ?_) rfl (fun w25 w26 h25 h26 => ?_)
    · exact c15 (0) w
    have P26 := (P24.shown (kb := 8) h25 rfl rfl rfl fun g hg hin => by have := n3 g hg; simp [BlkIn, nth, blkOf, vaddr] at hin; omega).same h26
    have z26 := Nat.le_trans h25.kept.size h26.size
    refine den_norm (by simp only [List.cons_append, List.nil_append]; rfl) (den_split_true (by simp [BE.den, IE.den, nth, vint]) ?_)
    refine den_meth (b := b8) (s := s3) (L := (LL lba 1024).eraseIdx 5) (L' := (LL lba 1024).eraseIdx 5 ++ [⟨5, lba, 1, true⟩]) (e := 0) rfl rfl rfl P26 ⟨fun hx => absurd (show b8 < w.heap.size from hx) (by omega), fun g hg hx => absurd (show g < w.heap.size from hx) (by have := n3 g hg; omega)⟩ (fun g hg hin => by have := n3 g hg; simp [BlkIn, nth, blkOf, vaddr] at hin; omega) ⟨fun hin => by simp [BlkIn, nth, blkOf, vaddr] at hin; omega, fun g hg hin => by have := n3 g hg; simp [BlkIn, nth, blkOf, vaddr] at hin; omega⟩ (fun hd => by cases hd) (fun w hO => ?_) (fun v => ⟨rfl, rfl, rfl⟩) (fun w27 s4 w28 h27 kk27 P28 fr => ?_)
    · have h := c16 b8 _ ((LL lba 1024).eraseIdx 5) ⟨5, lba, 1, true⟩ w hO (by rw [erase_len]; omega)
      rw [begE_5 hl1' hl2', show begL ((LL lba 1024).eraseIdx 5) ⟨5, lba, 1, true⟩ = (LL lba 1024).eraseIdx 5 ++ [⟨5, lba, 1, true⟩] from by unfold begL; rw [if_pos (begE_5 hl1' hl2')]] at h
      exact h
    have z27 := h27.kept.size
    have y28 := kk27.size
    have n4 : ∀ g, s4.ownBlock = some g → b1 ≠ g ∧ b2 ≠ g ∧ b6 ≠ g ∧ b8 ≠ g ∧ w.heap.size ≤ g := fun g hg => by
      rcases fr g hg with h | h
      · exact n3 g h
      · exact ⟨by omega, by omega, by omega, by omega, by have : w.heap.size ≤ w27.heap.size := h27.base.size; omega⟩
    refine den_norm (by simp only [List.cons_append, List.nil_append]; rfl) ?_
    refine den_call_int (x := 0) (fun w h => ?_) rfl (fun w29 w30 h29 h30 => ?_)
    · exact c15 (0) w
    have P30 := (P28.shown (kb := 8) h29 rfl rfl rfl fun g hg hin => by have := n4 g hg; simp [BlkIn, nth, blkOf, vaddr] at hin; omega).same h30
    have z30 := Nat.le_trans h29.kept.size h30.size
    refine den_norm (by simp only [List.cons_append, List.nil_append]; rfl) (den_split_true (by simp [BE.den, IE.den, nth, vint]) ?_)
    refine den_call_bool (b := true) (fun w31 h31 => ?_) rfl (fun w31 w32 h31 h32 => ?_)
    · have h := c18 (.pointer (some ⟨b8, 0, none⟩)) ((LL lba 1024).eraseIdx 5 ++ [⟨5, lba, 1, true⟩]) 5 0 false w31 (P30.shown (kb := 8) h31 rfl rfl rfl fun g hg hin => by have := n4 g hg; simp [BlkIn, nth, blkOf, vaddr] at hin; omega).r (by rw [List.length_append, erase_len]; simp)
      rw [show ((rdB ((LL lba 1024).eraseIdx 5 ++ [⟨5, lba, 1, true⟩]) 5 == false) && decide (atE ((LL lba 1024).eraseIdx 5 ++ [⟨5, lba, 1, true⟩]) 5 = 0)) = true from by rw [(rdB_5 hl1' hl2').1, (rdB_5 hl1' hl2').2]; rfl] at h
      exact h
    have P32 := (P30.shown (kb := 8) h31 rfl rfl rfl fun g hg hin => by have := n4 g hg; simp [BlkIn, nth, blkOf, vaddr] at hin; omega).same h32
    have z32 := Nat.le_trans h31.kept.size h32.size
    refine den_norm (by simp only [List.cons_append, List.nil_append]; rfl) (den_split_true (by simp [BE.den, nth, vbool]) ?_)
    refine den_call_bool (b := true) (fun w33 h33 => ?_) rfl (fun w33 w34 h33 h34 => ?_)
    · exact c9 w33
    exact den_leaf' fun w35 h35 => (if_neg (by decide)).mpr ⟨rfl, h35.base⟩

theorem contract4 (H : Type) (enc : TypeId × Value → H) (W : World) (base : Nat) (args : Array Value) (ds gs : List (DataW H)) (before : List MemPlace)
    (hval : ∀ (j : Nat) t v, Try.f4.params[j]? = some t → args[j]? = some v → Value.okWide Try.prog W .any base t v)
    (hW : DataW.Whole enc Try.prog Try.f4.params.toList Rows.atomicBoundsSpec.vars false W args.toList ds gs before) :
    Calls Try.prog 4 args W fun e W' => ∃ v, e = .returned v ∧ Rows.atomicBoundsSpec.post enc Try.prog Try.f4 false true false false W args v W' := by
  have hW' := hW
  obtain ⟨p, q, hA0, hV, rfl, hfz, hnd⟩ := hW
  have hA : DataW.TrodAll enc Try.prog W 0 (fun _ => true) true Try.f4.params.toList args.toList ds p := hA0
  rw [Try.params4] at hA hval
  obtain ⟨v0, vs0, d0, ds0, p0, q0, hargs, rfl, rfl, h0, r0⟩ := trodAll_cons hA
  obtain ⟨rfl, rfl, rfl⟩ := trodAll_nil r0
  obtain rfl : args = #[v0] := by cases args; simp_all
  obtain ⟨rfl, rfl⟩ := trodVars_none hV
  obtain ⟨a1, rfl, rfl, rfl, w1⟩ := open_int Try.underlying3 (hval 0 3 v0 rfl rfl) h0
  refine (c4 a1 W).run.mono fun e W' ⟨he, hs⟩ => ?_
  subst he
  refine ⟨_, rfl, law_post (tb := 4) laidOut ?_ rfl hW' hs rfl (by kernel_rfl) Try.underlying4⟩
  rw [Try.params4]
  intro t ht
  simp only [List.mem_cons, List.not_mem_nil, or_false] at ht
  have r3 : Try.prog.readableRec 3 = true := by kernel_rfl
  have s25 : 25 < Try.prog.types.size := of_decide_eq_true (by kernel_rfl)
  subst ht
  exact ⟨r3, Nat.lt_trans (by decide) s25⟩

theorem lifted4 (os : Os) (started : os.Started) (H : Type) (enc : TypeId × Value → H) :
    ReturnsInHanded {} Try.checked os 4 .any (Rows.atomicBoundsSpec.pre6 enc Try.prog Try.f4 Rows.atomicBoundsRow.domain false) (Rows.atomicBoundsSpec.post enc Try.prog Try.f4 false true false false) := by
  refine returnsInHanded_of_change (C := Try.checked) own started (by kernel_rfl) Try.func4
    (ChangeSpec.witness6 (enc := enc) (C := Try.checked) false ⟨#[], #[.int .i64 0], []⟩ 8 (by kernel_rfl) (by kernel_rfl) (by kernel_rfl) (by kernel_rfl)) ?_
  intro W base args ds gs before hval hW _ _
  exact contract4 H enc W base args ds gs before hval hW

theorem over4 : Rows.atomicBoundsRow.holds Try.pinned (OpenSpec.ofChange Rows.atomicBoundsSpec) :=
  OpenClaim.holds_of_wide 4 Try.f4 rfl rfl rfl rfl rfl rfl rfl ⟨rfl, rfl, rfl, rfl, rfl⟩ rfl rfl rfl rfl rfl (by kernel_rfl) Try.func4 (by kernel_rfl)
    (of_decide_eq_true (by kernel_rfl)) (by unfold Func.isWrapper; first | (rw [if_pos (by decide +kernel)]; kernel_rfl) | (rw [if_neg (by decide +kernel)]; exact ⟨rfl, rfl⟩))
    (fun os started H enc _ => lifted4 os started H enc)

theorem atomicBoundsProved : Rows.AtomicBoundsSaid := over4
end Go.Proofs.Ytfjimghpjopgoaa
