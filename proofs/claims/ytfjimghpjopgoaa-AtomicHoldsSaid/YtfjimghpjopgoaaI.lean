/- The examples of the chapter work. No conditions. -/
import Derived.Test.YtfjimghpjopgoaaG
import Derived.KernelRfl
set_option maxRecDepth 100000
set_option maxHeartbeats 1000000
set_option linter.unusedVariables false
set_option linter.unusedSimpArgs false
namespace Go.Proofs.Ytfjimghpjopgoaa
open Go.Sx

theorem t9 : exFn { P := Try.prog, muts := fun f => if (Bool.or (Nat.beq f 16) (Bool.or (Nat.beq f 19) (Nat.beq f 29))) = true then [0] else [] } 9 [] [] [] =
  VC.blk
  (VC.call 20
    [SV.agg [SV.int IntKind.i64 (IE.lit 8), SV.int IntKind.i64 (IE.lit 4), SV.int IntKind.i64 (IE.lit 16), SV.int IntKind.i64 (IE.lit 2)], SV.int IntKind.i64 (IE.lit 2), SV.int IntKind.i64 (IE.lit 9),
      SV.bool (BE.lit true)]
    [Base.slice, Base.int IntKind.i64] (SV.tuple [SV.var 1, SV.int IntKind.i64 (IE.var 2)]) [] false [0] [] [0]
    [(0, [SV.int IntKind.i64 (IE.lit 8), SV.int IntKind.i64 (IE.lit 4), SV.int IntKind.i64 (IE.lit 16), SV.int IntKind.i64 (IE.lit 2)])]
    (VC.call 11
      [SV.agg [SV.int IntKind.i64 (IE.lit 8), SV.int IntKind.i64 (IE.lit 4), SV.int IntKind.i64 (IE.lit 16), SV.int IntKind.i64 (IE.lit 2)], SV.int IntKind.i64 (IE.lit 10),
        SV.int IntKind.i64 (IE.lit 4), SV.bool (BE.lit true)]
      [Base.bool, Base.int IntKind.i64] (SV.tuple [SV.bool (BE.var 3), SV.int IntKind.i64 (IE.var 4)]) [] false [] [] [0]
      [(0, [SV.int IntKind.i64 (IE.lit 8), SV.int IntKind.i64 (IE.lit 4), SV.int IntKind.i64 (IE.lit 16), SV.int IntKind.i64 (IE.lit 2)])]
      (VC.blk
        (VC.call 14
          [SV.agg [SV.int IntKind.i64 (IE.lit 8), SV.int IntKind.i64 (IE.lit 4), SV.int IntKind.i64 (IE.lit 16), SV.int IntKind.i64 (IE.lit 2)], SV.int IntKind.i64 (IE.lit 0),
            SV.int IntKind.i64 (IE.lit 6), SV.bool (BE.lit false), SV.int IntKind.i64 (IE.lit 0), SV.slc 5 0 2 2]
          [Base.bool] (SV.bool (BE.var 6)) [] false [] [] [5, 0]
          [(5, [SV.int IntKind.i64 (IE.lit 0), SV.int IntKind.i64 (IE.lit 2), SV.int IntKind.i64 (IE.lit 2), SV.int IntKind.i64 (IE.lit 4)]),
            (0, [SV.int IntKind.i64 (IE.lit 8), SV.int IntKind.i64 (IE.lit 4), SV.int IntKind.i64 (IE.lit 16), SV.int IntKind.i64 (IE.lit 2)])]
          (VC.split (BE.not (BE.var 6))
            (VC.leaf 0 [SV.bool (BE.lit false)] []
              [(5, [SV.int IntKind.i64 (IE.lit 0), SV.int IntKind.i64 (IE.lit 2), SV.int IntKind.i64 (IE.lit 2), SV.int IntKind.i64 (IE.lit 4)]),
                (0, [SV.int IntKind.i64 (IE.lit 8), SV.int IntKind.i64 (IE.lit 4), SV.int IntKind.i64 (IE.lit 16), SV.int IntKind.i64 (IE.lit 2)])])
            (VC.blk
              (VC.call 14
                [SV.agg [SV.int IntKind.i64 (IE.lit 8), SV.int IntKind.i64 (IE.lit 4), SV.int IntKind.i64 (IE.lit 16), SV.int IntKind.i64 (IE.lit 2)], SV.int IntKind.i64 (IE.lit 10),
                  SV.int IntKind.i64 (IE.lit 8), SV.bool (BE.lit false), SV.int IntKind.i64 (IE.lit 0), SV.slc 7 0 1 1]
                [Base.bool] (SV.bool (BE.var 8)) [] false [] [] [7, 5, 0]
                [(7, [SV.int IntKind.i64 (IE.lit 10), SV.int IntKind.i64 (IE.lit 8)]),
                  (5, [SV.int IntKind.i64 (IE.lit 0), SV.int IntKind.i64 (IE.lit 2), SV.int IntKind.i64 (IE.lit 2), SV.int IntKind.i64 (IE.lit 4)]),
                  (0, [SV.int IntKind.i64 (IE.lit 8), SV.int IntKind.i64 (IE.lit 4), SV.int IntKind.i64 (IE.lit 16), SV.int IntKind.i64 (IE.lit 2)])]
                (VC.split (BE.not (BE.var 8))
                  (VC.leaf 0 [SV.bool (BE.lit false)] []
                    [(7, [SV.int IntKind.i64 (IE.lit 10), SV.int IntKind.i64 (IE.lit 8)]),
                      (5, [SV.int IntKind.i64 (IE.lit 0), SV.int IntKind.i64 (IE.lit 2), SV.int IntKind.i64 (IE.lit 2), SV.int IntKind.i64 (IE.lit 4)]),
                      (0, [SV.int IntKind.i64 (IE.lit 8), SV.int IntKind.i64 (IE.lit 4), SV.int IntKind.i64 (IE.lit 16), SV.int IntKind.i64 (IE.lit 2)])])
                  (VC.call 15 [SV.int IntKind.i64 (IE.var 2)] [Base.int IntKind.i64] (SV.int IntKind.i64 (IE.var 9)) [] false [] [] [7, 5, 0]
                    [(7, [SV.int IntKind.i64 (IE.lit 10), SV.int IntKind.i64 (IE.lit 8)]),
                      (5, [SV.int IntKind.i64 (IE.lit 0), SV.int IntKind.i64 (IE.lit 2), SV.int IntKind.i64 (IE.lit 2), SV.int IntKind.i64 (IE.lit 4)]),
                      (0, [SV.int IntKind.i64 (IE.lit 8), SV.int IntKind.i64 (IE.lit 4), SV.int IntKind.i64 (IE.lit 16), SV.int IntKind.i64 (IE.lit 2)])]
                    (VC.split (BE.not (BE.eq (IE.var 9) (IE.lit 0)))
                      (VC.leaf 0 [SV.bool (BE.lit false)] []
                        [(7, [SV.int IntKind.i64 (IE.lit 10), SV.int IntKind.i64 (IE.lit 8)]),
                          (5, [SV.int IntKind.i64 (IE.lit 0), SV.int IntKind.i64 (IE.lit 2), SV.int IntKind.i64 (IE.lit 2), SV.int IntKind.i64 (IE.lit 4)]),
                          (0, [SV.int IntKind.i64 (IE.lit 8), SV.int IntKind.i64 (IE.lit 4), SV.int IntKind.i64 (IE.lit 16), SV.int IntKind.i64 (IE.lit 2)])])
                      (VC.split (BE.not (BE.eq (IE.len 1) (IE.lit 9)))
                        (VC.leaf 0 [SV.bool (BE.lit false)] []
                          [(7, [SV.int IntKind.i64 (IE.lit 10), SV.int IntKind.i64 (IE.lit 8)]),
                            (5, [SV.int IntKind.i64 (IE.lit 0), SV.int IntKind.i64 (IE.lit 2), SV.int IntKind.i64 (IE.lit 2), SV.int IntKind.i64 (IE.lit 4)]),
                            (0, [SV.int IntKind.i64 (IE.lit 8), SV.int IntKind.i64 (IE.lit 4), SV.int IntKind.i64 (IE.lit 16), SV.int IntKind.i64 (IE.lit 2)])])
                        (VC.ob (BE.lt (IE.lit 8) (IE.len 1))
                          (VC.ob (BE.not (BE.nil 1))
                            (VC.start false [] []
                              [(7, [SV.int IntKind.i64 (IE.lit 10), SV.int IntKind.i64 (IE.lit 8)]),
                                (5, [SV.int IntKind.i64 (IE.lit 0), SV.int IntKind.i64 (IE.lit 2), SV.int IntKind.i64 (IE.lit 2), SV.int IntKind.i64 (IE.lit 4)]),
                                (0, [SV.int IntKind.i64 (IE.lit 8), SV.int IntKind.i64 (IE.lit 4), SV.int IntKind.i64 (IE.lit 16), SV.int IntKind.i64 (IE.lit 2)])]
                              (VC.load (SV.elt 1 0 (IE.lit 8) 2 0) [Base.int IntKind.i64, Base.int IntKind.i64]
                                (VC.start false [] []
                                  [(7, [SV.int IntKind.i64 (IE.lit 10), SV.int IntKind.i64 (IE.lit 8)]),
                                    (5, [SV.int IntKind.i64 (IE.lit 0), SV.int IntKind.i64 (IE.lit 2), SV.int IntKind.i64 (IE.lit 2), SV.int IntKind.i64 (IE.lit 4)]),
                                    (0, [SV.int IntKind.i64 (IE.lit 8), SV.int IntKind.i64 (IE.lit 4), SV.int IntKind.i64 (IE.lit 16), SV.int IntKind.i64 (IE.lit 2)])]
                                  (VC.pur (Op.binOp BinOp.neq 36 (Operand.tmp 46) (Operand.tmp 47) 36) 4
                                    [(Operand.tmp 46, SV.agg [SV.int IntKind.i64 (IE.var 10), SV.int IntKind.i64 (IE.var 11)]),
                                      (Operand.tmp 47, SV.agg [SV.int IntKind.i64 (IE.lit 10), SV.int IntKind.i64 (IE.lit 1)])]
                                    [Base.bool] (SV.bool (BE.var 12))
                                    (VC.split (BE.var 12)
                                      (VC.leaf 0 [SV.bool (BE.lit false)] []
                                        [(7, [SV.int IntKind.i64 (IE.lit 10), SV.int IntKind.i64 (IE.lit 8)]),
                                          (5, [SV.int IntKind.i64 (IE.lit 0), SV.int IntKind.i64 (IE.lit 2), SV.int IntKind.i64 (IE.lit 2), SV.int IntKind.i64 (IE.lit 4)]),
                                          (0, [SV.int IntKind.i64 (IE.lit 8), SV.int IntKind.i64 (IE.lit 4), SV.int IntKind.i64 (IE.lit 16), SV.int IntKind.i64 (IE.lit 2)])])
                                      (VC.split (BE.not (BE.var 3))
                                        (VC.leaf 0 [SV.bool (BE.lit false)] []
                                          [(7, [SV.int IntKind.i64 (IE.lit 10), SV.int IntKind.i64 (IE.lit 8)]),
                                            (5, [SV.int IntKind.i64 (IE.lit 0), SV.int IntKind.i64 (IE.lit 2), SV.int IntKind.i64 (IE.lit 2), SV.int IntKind.i64 (IE.lit 4)]),
                                            (0, [SV.int IntKind.i64 (IE.lit 8), SV.int IntKind.i64 (IE.lit 4), SV.int IntKind.i64 (IE.lit 16), SV.int IntKind.i64 (IE.lit 2)])])
                                        (VC.call 15 [SV.int IntKind.i64 (IE.var 4)] [Base.int IntKind.i64] (SV.int IntKind.i64 (IE.var 13)) [] false [] [] [7, 5, 0]
                                          [(7, [SV.int IntKind.i64 (IE.lit 10), SV.int IntKind.i64 (IE.lit 8)]),
                                            (5, [SV.int IntKind.i64 (IE.lit 0), SV.int IntKind.i64 (IE.lit 2), SV.int IntKind.i64 (IE.lit 2), SV.int IntKind.i64 (IE.lit 4)]),
                                            (0, [SV.int IntKind.i64 (IE.lit 8), SV.int IntKind.i64 (IE.lit 4), SV.int IntKind.i64 (IE.lit 16), SV.int IntKind.i64 (IE.lit 2)])]
                                          (VC.split (BE.not (BE.eq (IE.var 13) (IE.lit 0)))
                                            (VC.leaf 0 [SV.bool (BE.lit false)] []
                                              [(7, [SV.int IntKind.i64 (IE.lit 10), SV.int IntKind.i64 (IE.lit 8)]),
                                                (5, [SV.int IntKind.i64 (IE.lit 0), SV.int IntKind.i64 (IE.lit 2), SV.int IntKind.i64 (IE.lit 2), SV.int IntKind.i64 (IE.lit 4)]),
                                                (0, [SV.int IntKind.i64 (IE.lit 8), SV.int IntKind.i64 (IE.lit 4), SV.int IntKind.i64 (IE.lit 16), SV.int IntKind.i64 (IE.lit 2)])])
                                            (VC.blk
                                              (VC.call 16 [SV.ptr 14 0, SV.int IntKind.i64 (IE.lit 1), SV.int IntKind.i64 (IE.lit 0), SV.int IntKind.i64 (IE.lit 4), SV.bool (BE.lit true)]
                                                [Base.int IntKind.i64, Base.slice] (SV.int IntKind.i64 (IE.var 15)) [(14, [SV.var 16])] false [] [] [7, 5, 0]
                                                [(14, [SV.cst (Value.slice none 0 0)]), (7, [SV.int IntKind.i64 (IE.lit 10), SV.int IntKind.i64 (IE.lit 8)]),
                                                  (5, [SV.int IntKind.i64 (IE.lit 0), SV.int IntKind.i64 (IE.lit 2), SV.int IntKind.i64 (IE.lit 2), SV.int IntKind.i64 (IE.lit 4)]),
                                                  (0, [SV.int IntKind.i64 (IE.lit 8), SV.int IntKind.i64 (IE.lit 4), SV.int IntKind.i64 (IE.lit 16), SV.int IntKind.i64 (IE.lit 2)])]
                                                (VC.call 15 [SV.int IntKind.i64 (IE.var 15)] [Base.int IntKind.i64] (SV.int IntKind.i64 (IE.var 17)) [] false [] [] [14, 7, 5, 0]
                                                  [(14, [SV.var 16]), (7, [SV.int IntKind.i64 (IE.lit 10), SV.int IntKind.i64 (IE.lit 8)]),
                                                    (5, [SV.int IntKind.i64 (IE.lit 0), SV.int IntKind.i64 (IE.lit 2), SV.int IntKind.i64 (IE.lit 2), SV.int IntKind.i64 (IE.lit 4)]),
                                                    (0, [SV.int IntKind.i64 (IE.lit 8), SV.int IntKind.i64 (IE.lit 4), SV.int IntKind.i64 (IE.lit 16), SV.int IntKind.i64 (IE.lit 2)])]
                                                  (VC.split (BE.not (BE.eq (IE.var 17) (IE.lit 0)))
                                                    (VC.leaf 0 [SV.bool (BE.lit false)] []
                                                      [(14, [SV.var 16]), (7, [SV.int IntKind.i64 (IE.lit 10), SV.int IntKind.i64 (IE.lit 8)]),
                                                        (5, [SV.int IntKind.i64 (IE.lit 0), SV.int IntKind.i64 (IE.lit 2), SV.int IntKind.i64 (IE.lit 2), SV.int IntKind.i64 (IE.lit 4)]),
                                                        (0, [SV.int IntKind.i64 (IE.lit 8), SV.int IntKind.i64 (IE.lit 4), SV.int IntKind.i64 (IE.lit 16), SV.int IntKind.i64 (IE.lit 2)])])
                                                    (VC.call 16 [SV.ptr 14 0, SV.int IntKind.i64 (IE.lit 2), SV.int IntKind.i64 (IE.lit 3), SV.int IntKind.i64 (IE.lit 4), SV.bool (BE.lit false)]
                                                      [Base.int IntKind.i64, Base.slice] (SV.int IntKind.i64 (IE.var 18)) [(14, [SV.var 19])] false [] [] [7, 5, 0]
                                                      [(14, [SV.var 16]), (7, [SV.int IntKind.i64 (IE.lit 10), SV.int IntKind.i64 (IE.lit 8)]),
                                                        (5, [SV.int IntKind.i64 (IE.lit 0), SV.int IntKind.i64 (IE.lit 2), SV.int IntKind.i64 (IE.lit 2), SV.int IntKind.i64 (IE.lit 4)]),
                                                        (0, [SV.int IntKind.i64 (IE.lit 8), SV.int IntKind.i64 (IE.lit 4), SV.int IntKind.i64 (IE.lit 16), SV.int IntKind.i64 (IE.lit 2)])]
                                                      (VC.call 15 [SV.int IntKind.i64 (IE.var 18)] [Base.int IntKind.i64] (SV.int IntKind.i64 (IE.var 20)) [] false [] [] [14, 7, 5, 0]
                                                        [(14, [SV.var 19]), (7, [SV.int IntKind.i64 (IE.lit 10), SV.int IntKind.i64 (IE.lit 8)]),
                                                          (5, [SV.int IntKind.i64 (IE.lit 0), SV.int IntKind.i64 (IE.lit 2), SV.int IntKind.i64 (IE.lit 2), SV.int IntKind.i64 (IE.lit 4)]),
                                                          (0, [SV.int IntKind.i64 (IE.lit 8), SV.int IntKind.i64 (IE.lit 4), SV.int IntKind.i64 (IE.lit 16), SV.int IntKind.i64 (IE.lit 2)])]
                                                        (VC.split (BE.not (BE.eq (IE.var 20) (IE.lit 0)))
                                                          (VC.leaf 0 [SV.bool (BE.lit false)] []
                                                            [(14, [SV.var 19]), (7, [SV.int IntKind.i64 (IE.lit 10), SV.int IntKind.i64 (IE.lit 8)]),
                                                              (5, [SV.int IntKind.i64 (IE.lit 0), SV.int IntKind.i64 (IE.lit 2), SV.int IntKind.i64 (IE.lit 2), SV.int IntKind.i64 (IE.lit 4)]),
                                                              (0, [SV.int IntKind.i64 (IE.lit 8), SV.int IntKind.i64 (IE.lit 4), SV.int IntKind.i64 (IE.lit 16), SV.int IntKind.i64 (IE.lit 2)])])
                                                          (VC.call 16 [SV.ptr 14 0, SV.int IntKind.i64 (IE.lit 3), SV.int IntKind.i64 (IE.lit 4), SV.int IntKind.i64 (IE.lit 4), SV.bool (BE.lit false)]
                                                            [Base.int IntKind.i64, Base.slice] (SV.int IntKind.i64 (IE.var 21)) [(14, [SV.var 22])] false [] [] [7, 5, 0]
                                                            [(14, [SV.var 19]), (7, [SV.int IntKind.i64 (IE.lit 10), SV.int IntKind.i64 (IE.lit 8)]),
                                                              (5, [SV.int IntKind.i64 (IE.lit 0), SV.int IntKind.i64 (IE.lit 2), SV.int IntKind.i64 (IE.lit 2), SV.int IntKind.i64 (IE.lit 4)]),
                                                              (0, [SV.int IntKind.i64 (IE.lit 8), SV.int IntKind.i64 (IE.lit 4), SV.int IntKind.i64 (IE.lit 16), SV.int IntKind.i64 (IE.lit 2)])]
                                                            (VC.call 15 [SV.int IntKind.i64 (IE.var 21)] [Base.int IntKind.i64] (SV.int IntKind.i64 (IE.var 23)) [] false [] [] [14, 7, 5, 0]
                                                              [(14, [SV.var 22]), (7, [SV.int IntKind.i64 (IE.lit 10), SV.int IntKind.i64 (IE.lit 8)]),
                                                                (5, [SV.int IntKind.i64 (IE.lit 0), SV.int IntKind.i64 (IE.lit 2), SV.int IntKind.i64 (IE.lit 2), SV.int IntKind.i64 (IE.lit 4)]),
                                                                (0, [SV.int IntKind.i64 (IE.lit 8), SV.int IntKind.i64 (IE.lit 4), SV.int IntKind.i64 (IE.lit 16), SV.int IntKind.i64 (IE.lit 2)])]
                                                              (VC.split (BE.not (BE.eq (IE.var 23) (IE.lit 0)))
                                                                (VC.leaf 0 [SV.bool (BE.lit false)] []
                                                                  [(14, [SV.var 22]), (7, [SV.int IntKind.i64 (IE.lit 10), SV.int IntKind.i64 (IE.lit 8)]),
                                                                    (5, [SV.int IntKind.i64 (IE.lit 0), SV.int IntKind.i64 (IE.lit 2), SV.int IntKind.i64 (IE.lit 2), SV.int IntKind.i64 (IE.lit 4)]),
                                                                    (0, [SV.int IntKind.i64 (IE.lit 8), SV.int IntKind.i64 (IE.lit 4), SV.int IntKind.i64 (IE.lit 16), SV.int IntKind.i64 (IE.lit 2)])])
                                                                (VC.call 16
                                                                  [SV.ptr 14 0, SV.int IntKind.i64 (IE.lit 1), SV.int IntKind.i64 (IE.lit 9), SV.int IntKind.i64 (IE.lit 1), SV.bool (BE.lit true)]
                                                                  [Base.int IntKind.i64, Base.slice] (SV.int IntKind.i64 (IE.var 24)) [(14, [SV.var 25])] false [] [] [7, 5, 0]
                                                                  [(14, [SV.var 22]), (7, [SV.int IntKind.i64 (IE.lit 10), SV.int IntKind.i64 (IE.lit 8)]),
                                                                    (5, [SV.int IntKind.i64 (IE.lit 0), SV.int IntKind.i64 (IE.lit 2), SV.int IntKind.i64 (IE.lit 2), SV.int IntKind.i64 (IE.lit 4)]),
                                                                    (0, [SV.int IntKind.i64 (IE.lit 8), SV.int IntKind.i64 (IE.lit 4), SV.int IntKind.i64 (IE.lit 16), SV.int IntKind.i64 (IE.lit 2)])]
                                                                  (VC.call 15 [SV.int IntKind.i64 (IE.var 24)] [Base.int IntKind.i64] (SV.int IntKind.i64 (IE.var 26)) [] false [] [] [14, 7, 5, 0]
                                                                    [(14, [SV.var 25]), (7, [SV.int IntKind.i64 (IE.lit 10), SV.int IntKind.i64 (IE.lit 8)]),
                                                                      (5, [SV.int IntKind.i64 (IE.lit 0), SV.int IntKind.i64 (IE.lit 2), SV.int IntKind.i64 (IE.lit 2), SV.int IntKind.i64 (IE.lit 4)]),
                                                                      (0,
                                                                        [SV.int IntKind.i64 (IE.lit 8), SV.int IntKind.i64 (IE.lit 4), SV.int IntKind.i64 (IE.lit 16), SV.int IntKind.i64 (IE.lit 2)])]
                                                                    (VC.split (BE.not (BE.eq (IE.var 26) (IE.lit 11)))
                                                                      (VC.leaf 0 [SV.bool (BE.lit false)] []
                                                                        [(14, [SV.var 25]), (7, [SV.int IntKind.i64 (IE.lit 10), SV.int IntKind.i64 (IE.lit 8)]),
                                                                          (5,
                                                                            [SV.int IntKind.i64 (IE.lit 0), SV.int IntKind.i64 (IE.lit 2), SV.int IntKind.i64 (IE.lit 2),
                                                                              SV.int IntKind.i64 (IE.lit 4)]),
                                                                          (0,
                                                                            [SV.int IntKind.i64 (IE.lit 8), SV.int IntKind.i64 (IE.lit 4), SV.int IntKind.i64 (IE.lit 16),
                                                                              SV.int IntKind.i64 (IE.lit 2)])])
                                                                      (VC.call 18 [SV.ptr 14 0, SV.int IntKind.i64 (IE.lit 2), SV.bool (BE.lit false), SV.int IntKind.i64 (IE.lit 0)] [Base.bool]
                                                                        (SV.bool (BE.var 27)) [] false [] [] [14, 7, 5, 0]
                                                                        [(14, [SV.var 25]), (7, [SV.int IntKind.i64 (IE.lit 10), SV.int IntKind.i64 (IE.lit 8)]),
                                                                          (5,
                                                                            [SV.int IntKind.i64 (IE.lit 0), SV.int IntKind.i64 (IE.lit 2), SV.int IntKind.i64 (IE.lit 2),
                                                                              SV.int IntKind.i64 (IE.lit 4)]),
                                                                          (0,
                                                                            [SV.int IntKind.i64 (IE.lit 8), SV.int IntKind.i64 (IE.lit 4), SV.int IntKind.i64 (IE.lit 16),
                                                                              SV.int IntKind.i64 (IE.lit 2)])]
                                                                        (VC.split (BE.not (BE.var 27))
                                                                          (VC.leaf 0 [SV.bool (BE.lit false)] []
                                                                            [(14, [SV.var 25]), (7, [SV.int IntKind.i64 (IE.lit 10), SV.int IntKind.i64 (IE.lit 8)]),
                                                                              (5,
                                                                                [SV.int IntKind.i64 (IE.lit 0), SV.int IntKind.i64 (IE.lit 2), SV.int IntKind.i64 (IE.lit 2),
                                                                                  SV.int IntKind.i64 (IE.lit 4)]),
                                                                              (0,
                                                                                [SV.int IntKind.i64 (IE.lit 8), SV.int IntKind.i64 (IE.lit 4), SV.int IntKind.i64 (IE.lit 16),
                                                                                  SV.int IntKind.i64 (IE.lit 2)])])
                                                                          (VC.call 18 [SV.ptr 14 0, SV.int IntKind.i64 (IE.lit 3), SV.bool (BE.lit true), SV.int IntKind.i64 (IE.lit 0)] [Base.bool]
                                                                            (SV.bool (BE.var 28)) [] false [] [] [14, 7, 5, 0]
                                                                            [(14, [SV.var 25]), (7, [SV.int IntKind.i64 (IE.lit 10), SV.int IntKind.i64 (IE.lit 8)]),
                                                                              (5,
                                                                                [SV.int IntKind.i64 (IE.lit 0), SV.int IntKind.i64 (IE.lit 2), SV.int IntKind.i64 (IE.lit 2),
                                                                                  SV.int IntKind.i64 (IE.lit 4)]),
                                                                              (0,
                                                                                [SV.int IntKind.i64 (IE.lit 8), SV.int IntKind.i64 (IE.lit 4), SV.int IntKind.i64 (IE.lit 16),
                                                                                  SV.int IntKind.i64 (IE.lit 2)])]
                                                                            (VC.split (BE.not (BE.var 28))
                                                                              (VC.leaf 0 [SV.bool (BE.lit false)] []
                                                                                [(14, [SV.var 25]), (7, [SV.int IntKind.i64 (IE.lit 10), SV.int IntKind.i64 (IE.lit 8)]),
                                                                                  (5,
                                                                                    [SV.int IntKind.i64 (IE.lit 0), SV.int IntKind.i64 (IE.lit 2), SV.int IntKind.i64 (IE.lit 2),
                                                                                      SV.int IntKind.i64 (IE.lit 4)]),
                                                                                  (0,
                                                                                    [SV.int IntKind.i64 (IE.lit 8), SV.int IntKind.i64 (IE.lit 4), SV.int IntKind.i64 (IE.lit 16),
                                                                                      SV.int IntKind.i64 (IE.lit 2)])])
                                                                              (VC.call 21 [SV.ptr 14 0] [Base.int IntKind.i64, Base.int IntKind.i64]
                                                                                (SV.tuple [SV.int IntKind.i64 (IE.var 29), SV.int IntKind.i64 (IE.var 30)]) [] false [] [] [14, 7, 5, 0]
                                                                                [(14, [SV.var 25]), (7, [SV.int IntKind.i64 (IE.lit 10), SV.int IntKind.i64 (IE.lit 8)]),
                                                                                  (5,
                                                                                    [SV.int IntKind.i64 (IE.lit 0), SV.int IntKind.i64 (IE.lit 2), SV.int IntKind.i64 (IE.lit 2),
                                                                                      SV.int IntKind.i64 (IE.lit 4)]),
                                                                                  (0,
                                                                                    [SV.int IntKind.i64 (IE.lit 8), SV.int IntKind.i64 (IE.lit 4), SV.int IntKind.i64 (IE.lit 16),
                                                                                      SV.int IntKind.i64 (IE.lit 2)])]
                                                                                (VC.split (BE.eq (IE.var 29) (IE.lit 1))
                                                                                  (VC.call 15 [SV.int IntKind.i64 (IE.var 30)] [Base.int IntKind.i64] (SV.int IntKind.i64 (IE.var 31)) [] false [] []
                                                                                    [14, 7, 5, 0]
                                                                                    [(14, [SV.var 25]), (7, [SV.int IntKind.i64 (IE.lit 10), SV.int IntKind.i64 (IE.lit 8)]),
                                                                                      (5,
                                                                                        [SV.int IntKind.i64 (IE.lit 0), SV.int IntKind.i64 (IE.lit 2), SV.int IntKind.i64 (IE.lit 2),
                                                                                          SV.int IntKind.i64 (IE.lit 4)]),
                                                                                      (0,
                                                                                        [SV.int IntKind.i64 (IE.lit 8), SV.int IntKind.i64 (IE.lit 4), SV.int IntKind.i64 (IE.lit 16),
                                                                                          SV.int IntKind.i64 (IE.lit 2)])]
                                                                                    (VC.split (BE.eq (IE.var 31) (IE.lit 0))
                                                                                      (VC.call 19 [SV.ptr 14 0, SV.int IntKind.i64 (IE.lit 2)] [Base.int IntKind.i64, Base.slice]
                                                                                        (SV.int IntKind.i64 (IE.var 32)) [(14, [SV.var 33])] false [] [] [7, 5, 0]
                                                                                        [(14, [SV.var 25]), (7, [SV.int IntKind.i64 (IE.lit 10), SV.int IntKind.i64 (IE.lit 8)]),
                                                                                          (5,
                                                                                            [SV.int IntKind.i64 (IE.lit 0), SV.int IntKind.i64 (IE.lit 2), SV.int IntKind.i64 (IE.lit 2),
                                                                                              SV.int IntKind.i64 (IE.lit 4)]),
                                                                                          (0,
                                                                                            [SV.int IntKind.i64 (IE.lit 8), SV.int IntKind.i64 (IE.lit 4), SV.int IntKind.i64 (IE.lit 16),
                                                                                              SV.int IntKind.i64 (IE.lit 2)])]
                                                                                        (VC.call 15 [SV.int IntKind.i64 (IE.var 32)] [Base.int IntKind.i64] (SV.int IntKind.i64 (IE.var 34)) [] false []
                                                                                          [] [14, 7, 5, 0]
                                                                                          [(14, [SV.var 33]), (7, [SV.int IntKind.i64 (IE.lit 10), SV.int IntKind.i64 (IE.lit 8)]),
                                                                                            (5,
                                                                                              [SV.int IntKind.i64 (IE.lit 0), SV.int IntKind.i64 (IE.lit 2), SV.int IntKind.i64 (IE.lit 2),
                                                                                                SV.int IntKind.i64 (IE.lit 4)]),
                                                                                            (0,
                                                                                              [SV.int IntKind.i64 (IE.lit 8), SV.int IntKind.i64 (IE.lit 4), SV.int IntKind.i64 (IE.lit 16),
                                                                                                SV.int IntKind.i64 (IE.lit 2)])]
                                                                                          (VC.split (BE.eq (IE.var 34) (IE.lit 8))
                                                                                            (VC.call 19 [SV.ptr 14 0, SV.int IntKind.i64 (IE.lit 1)] [Base.int IntKind.i64, Base.slice]
                                                                                              (SV.int IntKind.i64 (IE.var 35)) [(14, [SV.var 36])] false [] [] [7, 5, 0]
                                                                                              [(14, [SV.var 33]), (7, [SV.int IntKind.i64 (IE.lit 10), SV.int IntKind.i64 (IE.lit 8)]),
                                                                                                (5,
                                                                                                  [SV.int IntKind.i64 (IE.lit 0), SV.int IntKind.i64 (IE.lit 2), SV.int IntKind.i64 (IE.lit 2),
                                                                                                    SV.int IntKind.i64 (IE.lit 4)]),
                                                                                                (0,
                                                                                                  [SV.int IntKind.i64 (IE.lit 8), SV.int IntKind.i64 (IE.lit 4), SV.int IntKind.i64 (IE.lit 16),
                                                                                                    SV.int IntKind.i64 (IE.lit 2)])]
                                                                                              (VC.call 15 [SV.int IntKind.i64 (IE.var 35)] [Base.int IntKind.i64] (SV.int IntKind.i64 (IE.var 37)) []
                                                                                                false [] [] [14, 7, 5, 0]
                                                                                                [(14, [SV.var 36]), (7, [SV.int IntKind.i64 (IE.lit 10), SV.int IntKind.i64 (IE.lit 8)]),
                                                                                                  (5,
                                                                                                    [SV.int IntKind.i64 (IE.lit 0), SV.int IntKind.i64 (IE.lit 2), SV.int IntKind.i64 (IE.lit 2),
                                                                                                      SV.int IntKind.i64 (IE.lit 4)]),
                                                                                                  (0,
                                                                                                    [SV.int IntKind.i64 (IE.lit 8), SV.int IntKind.i64 (IE.lit 4), SV.int IntKind.i64 (IE.lit 16),
                                                                                                      SV.int IntKind.i64 (IE.lit 2)])]
                                                                                                (VC.split (BE.eq (IE.var 37) (IE.lit 0))
                                                                                                  (VC.call 18
                                                                                                    [SV.ptr 14 0, SV.int IntKind.i64 (IE.lit 2), SV.bool (BE.lit true), SV.int IntKind.i64 (IE.lit 0)]
                                                                                                    [Base.bool] (SV.bool (BE.var 38)) [] false [] [] [14, 7, 5, 0]
                                                                                                    [(14, [SV.var 36]), (7, [SV.int IntKind.i64 (IE.lit 10), SV.int IntKind.i64 (IE.lit 8)]),
                                                                                                      (5,
                                                                                                        [SV.int IntKind.i64 (IE.lit 0), SV.int IntKind.i64 (IE.lit 2), SV.int IntKind.i64 (IE.lit 2),
                                                                                                          SV.int IntKind.i64 (IE.lit 4)]),
                                                                                                      (0,
                                                                                                        [SV.int IntKind.i64 (IE.lit 8), SV.int IntKind.i64 (IE.lit 4), SV.int IntKind.i64 (IE.lit 16),
                                                                                                          SV.int IntKind.i64 (IE.lit 2)])]
                                                                                                    (VC.split (BE.var 38)
                                                                                                      (VC.call 29 [SV.ptr 14 0, SV.int IntKind.i64 (IE.lit 9)] [Base.int IntKind.i64, Base.slice]
                                                                                                        (SV.int IntKind.i64 (IE.var 39)) [(14, [SV.var 40])] false [] [] [7, 5, 0]
                                                                                                        [(14, [SV.var 36]), (7, [SV.int IntKind.i64 (IE.lit 10), SV.int IntKind.i64 (IE.lit 8)]),
                                                                                                          (5,
                                                                                                            [SV.int IntKind.i64 (IE.lit 0), SV.int IntKind.i64 (IE.lit 2),
                                                                                                              SV.int IntKind.i64 (IE.lit 2), SV.int IntKind.i64 (IE.lit 4)]),
                                                                                                          (0,
                                                                                                            [SV.int IntKind.i64 (IE.lit 8), SV.int IntKind.i64 (IE.lit 4),
                                                                                                              SV.int IntKind.i64 (IE.lit 16), SV.int IntKind.i64 (IE.lit 2)])]
                                                                                                        (VC.call 15 [SV.int IntKind.i64 (IE.var 39)] [Base.int IntKind.i64]
                                                                                                          (SV.int IntKind.i64 (IE.var 41)) [] false [] [] [14, 7, 5, 0]
                                                                                                          [(14, [SV.var 40]), (7, [SV.int IntKind.i64 (IE.lit 10), SV.int IntKind.i64 (IE.lit 8)]),
                                                                                                            (5,
                                                                                                              [SV.int IntKind.i64 (IE.lit 0), SV.int IntKind.i64 (IE.lit 2),
                                                                                                                SV.int IntKind.i64 (IE.lit 2), SV.int IntKind.i64 (IE.lit 4)]),
                                                                                                            (0,
                                                                                                              [SV.int IntKind.i64 (IE.lit 8), SV.int IntKind.i64 (IE.lit 4),
                                                                                                                SV.int IntKind.i64 (IE.lit 16), SV.int IntKind.i64 (IE.lit 2)])]
                                                                                                          (VC.leaf 0 [SV.bool (BE.eq (IE.var 41) (IE.lit 9))] []
                                                                                                            [(14, [SV.var 40]), (7, [SV.int IntKind.i64 (IE.lit 10), SV.int IntKind.i64 (IE.lit 8)]),
                                                                                                              (5,
                                                                                                                [SV.int IntKind.i64 (IE.lit 0), SV.int IntKind.i64 (IE.lit 2),
                                                                                                                  SV.int IntKind.i64 (IE.lit 2), SV.int IntKind.i64 (IE.lit 4)]),
                                                                                                              (0,
                                                                                                                [SV.int IntKind.i64 (IE.lit 8), SV.int IntKind.i64 (IE.lit 4),
                                                                                                                  SV.int IntKind.i64 (IE.lit 16), SV.int IntKind.i64 (IE.lit 2)])])))
                                                                                                      (VC.leaf 0 [SV.bool (BE.lit false)] []
                                                                                                        [(14, [SV.var 36]), (7, [SV.int IntKind.i64 (IE.lit 10), SV.int IntKind.i64 (IE.lit 8)]),
                                                                                                          (5,
                                                                                                            [SV.int IntKind.i64 (IE.lit 0), SV.int IntKind.i64 (IE.lit 2),
                                                                                                              SV.int IntKind.i64 (IE.lit 2), SV.int IntKind.i64 (IE.lit 4)]),
                                                                                                          (0,
                                                                                                            [SV.int IntKind.i64 (IE.lit 8), SV.int IntKind.i64 (IE.lit 4),
                                                                                                              SV.int IntKind.i64 (IE.lit 16), SV.int IntKind.i64 (IE.lit 2)])])))
                                                                                                  (VC.leaf 0 [SV.bool (BE.lit false)] []
                                                                                                    [(14, [SV.var 36]), (7, [SV.int IntKind.i64 (IE.lit 10), SV.int IntKind.i64 (IE.lit 8)]),
                                                                                                      (5,
                                                                                                        [SV.int IntKind.i64 (IE.lit 0), SV.int IntKind.i64 (IE.lit 2), SV.int IntKind.i64 (IE.lit 2),
                                                                                                          SV.int IntKind.i64 (IE.lit 4)]),
                                                                                                      (0,
                                                                                                        [SV.int IntKind.i64 (IE.lit 8), SV.int IntKind.i64 (IE.lit 4), SV.int IntKind.i64 (IE.lit 16),
                                                                                                          SV.int IntKind.i64 (IE.lit 2)])]))))
                                                                                            (VC.leaf 0 [SV.bool (BE.lit false)] []
                                                                                              [(14, [SV.var 33]), (7, [SV.int IntKind.i64 (IE.lit 10), SV.int IntKind.i64 (IE.lit 8)]),
                                                                                                (5,
                                                                                                  [SV.int IntKind.i64 (IE.lit 0), SV.int IntKind.i64 (IE.lit 2), SV.int IntKind.i64 (IE.lit 2),
                                                                                                    SV.int IntKind.i64 (IE.lit 4)]),
                                                                                                (0,
                                                                                                  [SV.int IntKind.i64 (IE.lit 8), SV.int IntKind.i64 (IE.lit 4), SV.int IntKind.i64 (IE.lit 16),
                                                                                                    SV.int IntKind.i64 (IE.lit 2)])]))))
                                                                                      (VC.leaf 0 [SV.bool (BE.lit false)] []
                                                                                        [(14, [SV.var 25]), (7, [SV.int IntKind.i64 (IE.lit 10), SV.int IntKind.i64 (IE.lit 8)]),
                                                                                          (5,
                                                                                            [SV.int IntKind.i64 (IE.lit 0), SV.int IntKind.i64 (IE.lit 2), SV.int IntKind.i64 (IE.lit 2),
                                                                                              SV.int IntKind.i64 (IE.lit 4)]),
                                                                                          (0,
                                                                                            [SV.int IntKind.i64 (IE.lit 8), SV.int IntKind.i64 (IE.lit 4), SV.int IntKind.i64 (IE.lit 16),
                                                                                              SV.int IntKind.i64 (IE.lit 2)])])))
                                                                                  (VC.leaf 0 [SV.bool (BE.lit false)] []
                                                                                    [(14, [SV.var 25]), (7, [SV.int IntKind.i64 (IE.lit 10), SV.int IntKind.i64 (IE.lit 8)]),
                                                                                      (5,
                                                                                        [SV.int IntKind.i64 (IE.lit 0), SV.int IntKind.i64 (IE.lit 2), SV.int IntKind.i64 (IE.lit 2),
                                                                                          SV.int IntKind.i64 (IE.lit 4)]),
                                                                                      (0,
                                                                                        [SV.int IntKind.i64 (IE.lit 8), SV.int IntKind.i64 (IE.lit 4), SV.int IntKind.i64 (IE.lit 16),
                                                                                          SV.int IntKind.i64 (IE.lit 2)])]))))))))))))))))))))))))))))))))))))))))) := by kernel_rfl

section
variable {G : Ctx} {Λ : Nat → List Value → World → Prop} {ε : List Value} {wx ws : World} {X : Nat → Prop} {k : VC}
theorem OrdAt.shown {b j kb : Nat} {s : Value} {L : List Cmd} {t : List Nat} {fs : Facts} {w : World} (hO : OrdAt wx b s L) (h : Shown G ε t fs wx w) (hf : findH fs kb = some [SV.var j]) (hkb : nth ε kb = .pointer (some ⟨b, 0, none⟩)) (hj : nth ε j = s) (ht : ∀ g, s.ownBlock = some g → ¬ BlkIn ε t g) : OrdAt w b s L := by
  have := findH_facts h.facts hf
  rw [hkb] at this
  simp only [denL, SV.den, hj] at this
  exact ⟨this, hO.mine.kept h.kept ht, hO.apart⟩
/-- a call of a method that changes the order -/
theorem den_meth {f n kb j b : Nat} {args : List SV} {s : Value} {L L' : List Cmd} {e : Int} {drawn : Bool} {t t' un : List Nat} {fs : Facts} (hf : findH fs kb = some [SV.var j]) (hkb : nth ε kb = .pointer (some ⟨b, 0, none⟩)) (hj : nth ε j = s)
    (hO : OrdAt wx b s L) (hW : (b < G.W0.heap.size → G.M b) ∧ ∀ g, s.ownBlock = some g → g < G.W0.heap.size → G.M g) (ht : ∀ g, s.ownBlock = some g → ¬ BlkIn ε t g) (hun : ¬ BlkIn ε un b ∧ ∀ g, s.ownBlock = some g → ¬ BlkIn ε un g) (hX : drawn = true → X b ∧ ∀ g, s.ownBlock = some g → X g)
    (hc : ∀ w, OrdAt w b s L → Runs G.P f (denL ε args) w (fun x => x = b ∨ s.ownBlock = some x) (fun v w' => v = .int .i64 e ∧ NewAt w w' b s L'))
    (hn : ∀ v, nth (ε ++ [.int .i64 e, v]) n = .int .i64 e ∧ nth (ε ++ [.int .i64 e, v]) (n + 1) = v ∧ nth (ε ++ [.int .i64 e, v]) kb = .pointer (some ⟨b, 0, none⟩))
    (hk : ∀ w s' w', Shown G ε t fs wx w → Kept (fun x => x = b ∨ s.ownBlock = some x) w w' → OrdAt w' b s' L' → (∀ g, s'.ownBlock = some g → s.ownBlock = some g ∨ w.heap.size ≤ g) →
      k.den G Λ (ε ++ [.int .i64 e, s']) w' (if drawn then ws else w') (if drawn then X else BlkIn ε t')) :
    (VC.call f args [Base.int IntKind.i64, Base.slice] (.int .i64 (.var n)) [(kb, [SV.var (n + 1)])] drawn t t' un fs k).den G Λ ε wx ws X := by
  refine den_callM (fun _ x => x = b ∨ s.ownBlock = some x) (fun w l w' => ∃ s', l = [.int .i64 e, s'] ∧ OrdAt w' b s' L' ∧ ∀ g, s'.ownBlock = some g → s.ownBlock = some g ∨ w.heap.size ≤ g) (fun w h x hx hlt => ?_) (fun w h => ?_) (fun w l w' h hl hR hk' => ?_)
  · have hOw := hO.shown h hf hkb hj ht
    rcases hx with rfl | hx
    · refine ⟨fun hd => (hX hd).1, hW.1, hun.1, fun _ => ?_⟩
      rintro ⟨o, ho, hi⟩
      obtain ⟨b', ty, hb', hh⟩ := hOw.blk
      cases hb'
      rw [hh] at ho
      cases ho
      cases hi
    · exact ⟨fun hd => (hX hd).2 x hx, hW.2 x hx, hun.2 x hx, fun _ => hOw.mine.notRec hx⟩
  · refine (hc w (hO.shown h hf hkb hj ht)).mono (fun v w' hv _ => ?_) (fun _ _ h => h)
    obtain ⟨rfl, s', hO', hfr⟩ := hv
    obtain ⟨a', c', hs'⟩ := hO'.mine.slice
    obtain ⟨n1, n2, n3⟩ := hn s'
    refine ⟨[.int .i64 e, s'], ⟨⟨_, rfl⟩, ⟨_, _, _, hs'⟩, trivial⟩, by simp only [SV.den, IE.den, n1, vint], ⟨s', rfl, hO', fun g hg => ?_⟩, ?_⟩
    · rcases hfr with hfr | hfr
      · exact .inl (by rw [← hfr]; exact hg)
      · exact .inr (hfr g hg)
    · refine ⟨?_, trivial⟩
      rw [n3]
      simp only [denL, SV.den, n2]
      exact hO'.blk
  · obtain ⟨s', rfl, hO', hfr⟩ := hR
    exact hk w s' w' h hk' hO' hfr
end
theorem c29' (b : Nat) (s : Value) (L : List Cmd) (id : Int) (w : World) (hO : OrdAt w b s L) (hm : L.length ≤ 60000000000) :
    Runs Try.prog 29 [.pointer (some ⟨b, 0, none⟩), .int .i64 id] w (fun x => x = b ∨ s.ownBlock = some x) (fun v w' => v = .int .i64 (atE L id) ∧ NewAt w w' b s (cancelL L id)) :=
  (c29 b s L id w hO hm).mono (fun _ _ h _ => h) (fun _ _ h => .inl h)
theorem c19' (b : Nat) (s : Value) (L : List Cmd) (id : Int) (w : World) (hO : OrdAt w b s L) (hm : L.length ≤ 60000000000) :
    Runs Try.prog 19 [.pointer (some ⟨b, 0, none⟩), .int .i64 id] w (fun x => x = b ∨ s.ownBlock = some x) (fun v w' => v = .int .i64 (endE L id) ∧ NewAt w w' b s (endL L id)) :=
  (c19 b s L id w hO hm).mono (fun _ _ h _ => h) (fun _ _ h => .inl h)

def k1 : Cmd := ⟨1, 0, 4, true⟩
def k2 : Cmd := ⟨2, 3, 4, false⟩
def k3 : Cmd := ⟨3, 4, 4, false⟩
def k4 : Cmd := ⟨1, 9, 1, true⟩
theorem cut1 : Cut 4 16 2 2 9 (singles 2 9) := by
  have h := Cut.cons (lim := 4) (b := 16) (o := 2) (lba := 2) (n := 9) (L := []) (by decide) (.nil (by decide))
  rw [show chunk 4 2 (partA 16 2 2 9) ++ [] = singles 2 9 from by decide +kernel] at h
  exact h
theorem cut2 : Cut 4 16 2 10 4 [(10, 4)] := Cut.cons (lim := 4) (b := 16) (o := 2) (lba := 10) (n := 4) (L := []) (by decide) (.nil (by decide))
theorem cut3 : Cut 8 16 2 0 6 [(0, 2), (2, 4)] := Cut.cons (lim := 8) (b := 16) (o := 2) (lba := 0) (n := 6) (L := [(2, 4)]) (by decide) (Cut.cons (lim := 8) (b := 16) (o := 2) (L := []) (by decide) (.nil (by decide)))
theorem cut4 : Cut 8 16 2 10 8 [(10, 8)] := Cut.cons (lim := 8) (b := 16) (o := 2) (lba := 10) (n := 8) (L := []) (by decide) (.nil (by decide))
theorem resOf {u p b o lba n : Int} {power : Bool} {L M : List (Int × Int)} {e : Int} (h : (cfgOk u p b o && okBlk lba n) = false ∧ L = [] ∧ e = 2 ∨ (cfgOk u p b o && okBlk lba n) = true ∧ e = 0 ∧ Cut (limOf u p power) b o lba n L) (hok : (cfgOk u p b o && okBlk lba n) = true) (hM : Cut (limOf u p power) b o lba n M) : L = M ∧ e = 0 := by
  rcases h with ⟨h1, _⟩ | ⟨_, h2, h3⟩
  · rw [hok] at h1; cases h1
  · exact ⟨h3.unique hM, h2⟩
theorem piecesYes (u p b o lba n : Int) (power : Bool) (t : Value) (M : List (Int × Int)) (w : World) (ht : Arr pcE w t M) (hok : (cfgOk u p b o && okBlk lba n) = true) (hM : Cut (limOf u p power) b o lba n M) :
    Gives Try.prog 14 [.agg #[.int .i64 u, .int .i64 p, .int .i64 b, .int .i64 o], .int .i64 lba, .int .i64 n, .bool power, .int .i64 0, t] w (.bool true) := by
  refine ((c14 u p b o lba n power 0 t M w ht).mono (R' := fun v _ => v = .bool true) fun v w' ⟨L, e, _, hr, hv⟩ => ?_).runs.gives
  obtain ⟨rfl, rfl⟩ := resOf hr hok hM
  rw [hv]; simp
theorem arr_lit {w : World} {p : Value} {cells : List Value} {L : List (Int × Int)} (h : HasBlk w p cells) (hc : cells = L.flatMap pcE.enc) : Arr pcE w (.slice (addO (vaddr p) 0) L.length L.length) L := by
  have := h.reads 0 L.length L.length 2 (by rw [hc, flatMap_length]; show 0 + L.length * 2 ≤ L.length * 2; omega)
  rw [List.drop_zero, hc, List.take_of_length_le (by rw [flatMap_length]; exact Nat.le_refl _)] at this
  exact this
theorem c9 (w : World) : Gives Try.prog 9 [] w (.bool true) := by
  refine gives mix t9 rfl rfl (ε := []) trivial (den_blk fun b0 hb0 _ _ => den_norm (by simp only [List.nil_append]; rfl) ?_)
  refine den_callR (fun w l w' => ∃ s, l = [s, .int .i64 0] ∧ Mine pcE 36 w' s (singles 2 9) ∧ ∀ g, s.ownBlock = some g → w.heap.size ≤ g) (fun w1 h1 => ?_) (fun w1 l w2 h1 hf hR hs12 => ?_)
  · refine (c20 8 4 16 2 2 9 true w1).mono fun v w' ⟨s, e, hv, hr⟩ => ?_
    obtain ⟨⟨L, hL, _, hc⟩, h3⟩ := pieceR (w0 := w1) hr
    obtain ⟨rfl, rfl⟩ := resOf hc (by decide +kernel) cut1
    obtain ⟨a, c, hs⟩ := hL.slice
    exact ⟨[s, .int .i64 0], ⟨⟨_, _, _, hs⟩, ⟨_, rfl⟩, trivial⟩, hv, s, rfl, hL, h3⟩
  obtain ⟨sp, rfl, hL, hfr⟩ := hR
  obtain ⟨spa, spc, hsp⟩ := hL.slice
  have hp0 : ∀ g, sp.ownBlock = some g → b0 ≠ g := fun g hg e => by have := hfr g hg; have := h1.lt (i := 0) (b := b0) (by simp [keys]) rfl; omega
  refine den_norm (by simp only [List.cons_append, List.nil_append]; rfl) (den_call [.bool true, .int .i64 0] ⟨⟨_, rfl⟩, ⟨_, rfl⟩, trivial⟩ rfl (fun w3 h3 => ?_) (fun w3 w4 h3 h4 => ?_))
  · refine ((c11 8 4 16 2 10 4 true w3).mono (R' := fun v _ => v = .tuple #[.bool true, .int .i64 0]) fun v w' ⟨L, e, _, hr, hv⟩ => ?_).runs.gives
    obtain ⟨rfl, rfl⟩ := resOf hr (by decide +kernel) cut2
    rw [hv]; rfl
  have m4 := (hL.kept h3.kept fun g hg hin => hp0 g hg (by simp [BlkIn, nth, blkOf, vaddr] at hin)).same h4
  refine den_norm (by simp only [List.cons_append, List.nil_append]; rfl) (den_blk fun b5 hb5 _ _ => ?_)
  refine den_norm (by simp only [List.cons_append, List.nil_append]; rfl) (den_call_bool (b := true) (fun w5 h5 => ?_) rfl (fun w5 w6 h5 h6 => ?_))
  · exact piecesYes 8 4 16 2 0 6 false _ [(0, 2), (2, 4)] w5 (arr_lit (L := [(0, 2), (2, 4)]) h5.facts.1 rfl) (by decide +kernel) cut3
  have m6 := (m4.kept h5.kept fun g hg hin => hp0 g hg (by simp [BlkIn, nth, blkOf, vaddr] at hin)).same h6
  have hp5 : ∀ g, sp.ownBlock = some g → b5 ≠ g := fun g hg e => by have := m4.lt hg; omega
  refine den_norm (by simp only [List.cons_append, List.nil_append]; rfl) (den_split_false (by simp [BE.den, nth, vbool]) (den_blk fun b7 hb7 _ _ => ?_))
  refine den_norm (by simp only [List.cons_append, List.nil_append]; rfl) (den_call_bool (b := true) (fun w7 h7 => ?_) rfl (fun w7 w8 h7 h8 => ?_))
  · exact piecesYes 8 4 16 2 10 8 false _ [(10, 8)] w7 (arr_lit (L := [(10, 8)]) h7.facts.1 rfl) (by decide +kernel) cut4
  have own3 : ∀ g, sp.ownBlock = some g → b0 ≠ g ∧ b5 ≠ g := fun g hg => ⟨hp0 g hg, hp5 g hg⟩
  have m8 := (m6.kept h7.kept fun g hg hin => by have := own3 g hg; simp [BlkIn, nth, blkOf, vaddr] at hin <;> omega).same h8
  have hp7 : ∀ g, sp.ownBlock = some g → b7 ≠ g := fun g hg e => by have := m6.lt hg; omega
  refine den_norm (by simp only [List.cons_append, List.nil_append]; rfl) (den_split_false (by simp [BE.den, nth, vbool]) ?_)
  refine den_call_int (x := 0) (fun w _ => c15 0 w) rfl (fun w9 w10 h9 h10 => ?_)
  have own4 : ∀ g, sp.ownBlock = some g → b0 ≠ g ∧ b5 ≠ g ∧ b7 ≠ g := fun g hg => ⟨hp0 g hg, hp5 g hg, hp7 g hg⟩
  have m10 := (m8.kept h9.kept fun g hg hin => by have := own4 g hg; simp [BlkIn, nth, blkOf, vaddr] at hin <;> omega).same h10
  subst hsp
  refine den_norm (by simp only [List.cons_append, List.nil_append]; rfl) (den_split_false (by simp [BE.den, IE.den, nth, vint]) (den_split_false (by simp [BE.den, IE.den, nth, vlen, singles]) (den_obLt (by simp [IE.den, nth, vlen, singles]) ?_)))
  obtain ⟨ad, had, hcell⟩ := m10.arr.elem (j := 8) (x := (10, 1)) (by decide +kernel) (by decide)
  simp only [vaddr] at had
  subst had
  refine den_ob (by simp [BE.den, nth, vnil]) (den_start0 fun w11 h11 => ?_)
  have m11 := m10.kept h11.kept fun g hg hin => by have := own4 g hg; simp [BlkIn, nth, blkOf, vaddr] at hin <;> omega
  obtain ⟨ad2, had2, hcell2⟩ := m11.arr.elem (j := 8) (x := (10, 1)) (by decide +kernel) (by decide)
  simp only [vaddr, Option.some.injEq] at had2
  subst had2
  refine den_load [.int .i64 10, .int .i64 1] (ad.add (8 * 2)) ⟨⟨_, rfl⟩, ⟨_, rfl⟩, trivial⟩ (by simp [SV.den, IE.den, nth, vaddr, addO, Addr.add]) (fun hin => ?_) (fun m v hv => hcell2 m v hv) ?_
  · have := own4 ad.block rfl
    rw [add_block] at hin
    simp [BlkIn, nth, blkOf, vaddr] at hin
    all_goals
      omega
  refine den_norm (by simp only [List.cons_append, List.nil_append]; rfl) (den_start0 fun w12 h12 => ?_)
  refine den_pur [.bool false] ⟨⟨_, rfl⟩, trivial⟩ (fun ρ hρ w' _ => ?_) ?_
  · have e1 := hρ _ (List.mem_cons_self ..)
    have e2 := hρ _ (List.mem_cons_of_mem _ (List.mem_cons_self ..))
    obtain ⟨q1, q2⟩ := flat36 10 1 10 1
    have := run_neqFlat underlying36 stood36 guard36 _ _ q1 ρ _ _ 36 4 e1 e2 w'
    rw [q2] at this
    exact this
  refine den_norm (by simp only [List.cons_append, List.nil_append]; rfl) (den_split_false (by simp [BE.den, nth, vbool]) (den_split_false (by simp [BE.den, nth, vbool]) ?_))
  refine den_call_int (x := 0) (fun w _ => c15 0 w) rfl (fun w13 w14 h13 h14 => ?_)
  refine den_norm (by simp only [List.cons_append, List.nil_append]; rfl) (den_split_false (by simp [BE.den, IE.den, nth, vint]) (den_blk fun b14 hb14 _ hW14 => ?_))
  refine den_norm (by simp only [List.cons_append, List.nil_append]; rfl) ?_
  have lt : ∀ i ∈ [b0, b5, b7], i < w14.heap.size := by
    intro i hi
    have e0 := h13.lt (i := 0) (b := b0) (by simp [keys]) rfl
    have e5 := h13.lt (i := 5) (b := b5) (by simp [keys]) rfl
    have e7 := h13.lt (i := 7) (b := b7) (by simp [keys]) rfl
    have := h14.size
    simp at hi
    rcases hi with rfl | rfl | rfl <;> omega
  simp only [List.mem_cons, List.not_mem_nil, or_false, forall_eq_or_imp, forall_eq] at lt
  refine den_callM (fun _ x => x = b14) (fun w l w' => ∃ s', l = [.int .i64 0, s'] ∧ OrdAt w' b14 s' [k1] ∧ ∀ g, s'.ownBlock = some g → w.heap.size ≤ g) (fun w h x hx _ => ?_) (fun w h => ?_) (fun w15 l w16 h15 hl hR hk15 => ?_)
  · subst hx
    exact ⟨fun hd => (by cases hd), fun hx => absurd hx (by omega), (by simp [BlkIn, nth, blkOf, vaddr] <;> omega), fun hx => (by cases hx)⟩
  · have hO : OrdAt w b14 (.slice none 0 0) [] := ⟨h.facts.1, Mine.nil, fun e => by cases e⟩
    refine (c16 b14 _ [] k1 w hO (by decide)).mono (fun v w' hv _ => ?_) (fun x _ hx => by rcases hx with hx | hx; exact hx; cases hx)
    obtain ⟨rfl, s', hO', hfr⟩ := hv
    have e1 : begE [] k1 = 0 := by decide +kernel
    have e2 : begL [] k1 = [k1] := by unfold begL; rw [if_pos e1]; rfl
    rw [e2] at hO'
    obtain ⟨a', c', hs'⟩ := hO'.mine.slice
    refine ⟨[.int .i64 0, s'], ⟨⟨_, rfl⟩, ⟨_, _, _, hs'⟩, trivial⟩, by rw [e1]; rfl, ⟨s', rfl, hO', fun g hg => ?_⟩, hO'.blk, trivial⟩
    rcases hfr with hfr | hfr
    · rw [hfr] at hg; cases hg
    · exact hfr g hg
  obtain ⟨s1, rfl, O16, fr1⟩ := hR
  have z15 : w14.heap.size ≤ w15.heap.size := h15.kept.size
  have y16 : w15.heap.size ≤ w16.heap.size := hk15.size
  have z14 : w.heap.size ≤ w15.heap.size := h15.base.size
  have l14 := h15.lt (i := 14) (b := b14) (by simp [keys]) rfl
  have n1 : ∀ g, s1.ownBlock = some g → b0 ≠ g ∧ b5 ≠ g ∧ b7 ≠ g ∧ b14 ≠ g ∧ w.heap.size ≤ g := fun g hg => by have := fr1 g hg; exact ⟨by omega, by omega, by omega, by omega, by omega⟩
  refine den_norm (by simp only [List.cons_append, List.nil_append]; rfl) ?_
  refine den_call_int (x := 0) (fun w h => ?_) rfl (fun w17 w18 h17 h18 => ?_)
  · exact c15 (0) w
  have O18 := (O16.shown (kb := 14) h17 rfl rfl rfl fun g hg hin => by have := n1 g hg; simp [BlkIn, nth, blkOf, vaddr] at hin <;> omega).same h18
  have z18 : w16.heap.size ≤ w18.heap.size := Nat.le_trans h17.kept.size h18.size
  refine den_norm (by simp only [List.cons_append, List.nil_append]; rfl) (den_split_false (by simp [BE.den, IE.den, nth, vint]) ?_)
  refine den_meth (b := b14) (s := s1) (L := [k1]) (L' := [k1, k2]) (e := 0) rfl rfl rfl O18 ⟨fun hx => absurd (show b14 < w.heap.size from hx) (by omega), fun g hg hx => absurd (show g < w.heap.size from hx) (by have := n1 g hg; omega)⟩ (fun g hg hin => by have := n1 g hg; simp [BlkIn, nth, blkOf, vaddr] at hin <;> omega) ⟨fun hin => by simp [BlkIn, nth, blkOf, vaddr] at hin <;> omega, fun g hg hin => by have := n1 g hg; simp [BlkIn, nth, blkOf, vaddr] at hin <;> omega⟩ (fun hd => by cases hd) (fun w hO => ?_) (fun v => ⟨rfl, rfl, rfl⟩) (fun w19 s2 w20 h19 kk19 O20 fr => ?_)
  · have h := c16 b14 _ [k1] k2 w hO (by decide)
    rw [show begE [k1] k2 = 0 from by decide +kernel, show begL [k1] k2 = [k1, k2] from by unfold begL; rw [if_pos (by decide +kernel : begE [k1] k2 = 0)]; rfl] at h
    exact h
  have z19 : w18.heap.size ≤ w19.heap.size := h19.kept.size
  have y20 : w19.heap.size ≤ w20.heap.size := kk19.size
  have n2 : ∀ g, s2.ownBlock = some g → b0 ≠ g ∧ b5 ≠ g ∧ b7 ≠ g ∧ b14 ≠ g ∧ w.heap.size ≤ g := fun g hg => by
    rcases fr g hg with h | h
    · exact n1 g h
    · exact ⟨by omega, by omega, by omega, by omega, by omega⟩
  refine den_norm (by simp only [List.cons_append, List.nil_append]; rfl) ?_
  refine den_call_int (x := 0) (fun w h => ?_) rfl (fun w21 w22 h21 h22 => ?_)
  · exact c15 (0) w
  have O22 := (O20.shown (kb := 14) h21 rfl rfl rfl fun g hg hin => by have := n2 g hg; simp [BlkIn, nth, blkOf, vaddr] at hin <;> omega).same h22
  have z22 : w20.heap.size ≤ w22.heap.size := Nat.le_trans h21.kept.size h22.size
  refine den_norm (by simp only [List.cons_append, List.nil_append]; rfl) (den_split_false (by simp [BE.den, IE.den, nth, vint]) ?_)
  refine den_meth (b := b14) (s := s2) (L := [k1, k2]) (L' := [k1, k2, k3]) (e := 0) rfl rfl rfl O22 ⟨fun hx => absurd (show b14 < w.heap.size from hx) (by omega), fun g hg hx => absurd (show g < w.heap.size from hx) (by have := n2 g hg; omega)⟩ (fun g hg hin => by have := n2 g hg; simp [BlkIn, nth, blkOf, vaddr] at hin <;> omega) ⟨fun hin => by simp [BlkIn, nth, blkOf, vaddr] at hin <;> omega, fun g hg hin => by have := n2 g hg; simp [BlkIn, nth, blkOf, vaddr] at hin <;> omega⟩ (fun hd => by cases hd) (fun w hO => ?_) (fun v => ⟨rfl, rfl, rfl⟩) (fun w23 s3 w24 h23 kk23 O24 fr => ?_)
  · have h := c16 b14 _ [k1, k2] k3 w hO (by decide)
    rw [show begE [k1, k2] k3 = 0 from by decide +kernel, show begL [k1, k2] k3 = [k1, k2, k3] from by unfold begL; rw [if_pos (by decide +kernel : begE [k1, k2] k3 = 0)]; rfl] at h
    exact h
  have z23 : w22.heap.size ≤ w23.heap.size := h23.kept.size
  have y24 : w23.heap.size ≤ w24.heap.size := kk23.size
  have n3 : ∀ g, s3.ownBlock = some g → b0 ≠ g ∧ b5 ≠ g ∧ b7 ≠ g ∧ b14 ≠ g ∧ w.heap.size ≤ g := fun g hg => by
    rcases fr g hg with h | h
    · exact n2 g h
    · exact ⟨by omega, by omega, by omega, by omega, by omega⟩
  refine den_norm (by simp only [List.cons_append, List.nil_append]; rfl) ?_
  refine den_call_int (x := 0) (fun w h => ?_) rfl (fun w25 w26 h25 h26 => ?_)
  · exact c15 (0) w
  have O26 := (O24.shown (kb := 14) h25 rfl rfl rfl fun g hg hin => by have := n3 g hg; simp [BlkIn, nth, blkOf, vaddr] at hin <;> omega).same h26
  have z26 : w24.heap.size ≤ w26.heap.size := Nat.le_trans h25.kept.size h26.size
  refine den_norm (by simp only [List.cons_append, List.nil_append]; rfl) (den_split_false (by simp [BE.den, IE.den, nth, vint]) ?_)
  refine den_meth (b := b14) (s := s3) (L := [k1, k2, k3]) (L' := [k1, k2, k3]) (e := 11) rfl rfl rfl O26 ⟨fun hx => absurd (show b14 < w.heap.size from hx) (by omega), fun g hg hx => absurd (show g < w.heap.size from hx) (by have := n3 g hg; omega)⟩ (fun g hg hin => by have := n3 g hg; simp [BlkIn, nth, blkOf, vaddr] at hin <;> omega) ⟨fun hin => by simp [BlkIn, nth, blkOf, vaddr] at hin <;> omega, fun g hg hin => by have := n3 g hg; simp [BlkIn, nth, blkOf, vaddr] at hin <;> omega⟩ (fun hd => by cases hd) (fun w hO => ?_) (fun v => ⟨rfl, rfl, rfl⟩) (fun w27 s4 w28 h27 kk27 O28 fr => ?_)
  · have h := c16 b14 _ [k1, k2, k3] k4 w hO (by decide)
    rw [show begE [k1, k2, k3] k4 = 11 from by decide +kernel, show begL [k1, k2, k3] k4 = [k1, k2, k3] from by unfold begL; rw [if_neg (by decide +kernel : ¬ begE [k1, k2, k3] k4 = 0)]] at h
    exact h
  have z27 : w26.heap.size ≤ w27.heap.size := h27.kept.size
  have y28 : w27.heap.size ≤ w28.heap.size := kk27.size
  have n4 : ∀ g, s4.ownBlock = some g → b0 ≠ g ∧ b5 ≠ g ∧ b7 ≠ g ∧ b14 ≠ g ∧ w.heap.size ≤ g := fun g hg => by
    rcases fr g hg with h | h
    · exact n3 g h
    · exact ⟨by omega, by omega, by omega, by omega, by omega⟩
  refine den_norm (by simp only [List.cons_append, List.nil_append]; rfl) ?_
  refine den_call_int (x := 11) (fun w h => ?_) rfl (fun w29 w30 h29 h30 => ?_)
  · exact c15 (11) w
  have O30 := (O28.shown (kb := 14) h29 rfl rfl rfl fun g hg hin => by have := n4 g hg; simp [BlkIn, nth, blkOf, vaddr] at hin <;> omega).same h30
  have z30 : w28.heap.size ≤ w30.heap.size := Nat.le_trans h29.kept.size h30.size
  refine den_norm (by simp only [List.cons_append, List.nil_append]; rfl) (den_split_false (by simp [BE.den, IE.den, nth, vint]) ?_)
  have e18a : ((rdB [k1, k2, k3] 2 == false) && decide (atE [k1, k2, k3] 2 = 0)) = true := by decide +kernel
  have e18b : ((rdB [k1, k2, k3] 3 == true) && decide (atE [k1, k2, k3] 3 = 0)) = true := by decide +kernel
  have e18c : ((rdB [k2, k3] 2 == true) && decide (atE [k2, k3] 2 = 0)) = true := by decide +kernel
  refine den_call_bool (b := true) (fun w31 h31 => ?_) rfl (fun w31 w32 h31 h32 => ?_)
  · have h := c18 (.pointer (some ⟨b14, 0, none⟩)) [k1, k2, k3] 2 0 false _ (O30.shown (kb := 14) h31 rfl rfl rfl fun g hg hin => by have := n4 g hg; simp [BlkIn, nth, blkOf, vaddr] at hin <;> omega).r (by decide)
    rw [e18a] at h; exact h
  have O32 := (O30.shown (kb := 14) h31 rfl rfl rfl fun g hg hin => by have := n4 g hg; simp [BlkIn, nth, blkOf, vaddr] at hin <;> omega).same h32
  have z32 : w30.heap.size ≤ w32.heap.size := Nat.le_trans h31.kept.size h32.size
  refine den_norm (by simp only [List.cons_append, List.nil_append]; rfl) (den_split_false (by simp [BE.den, nth, vbool]) ?_)
  refine den_call_bool (b := true) (fun w33 h33 => ?_) rfl (fun w33 w34 h33 h34 => ?_)
  · have h := c18 (.pointer (some ⟨b14, 0, none⟩)) [k1, k2, k3] 3 0 true _ (O32.shown (kb := 14) h33 rfl rfl rfl fun g hg hin => by have := n4 g hg; simp [BlkIn, nth, blkOf, vaddr] at hin <;> omega).r (by decide)
    rw [e18b] at h; exact h
  have O34 := (O32.shown (kb := 14) h33 rfl rfl rfl fun g hg hin => by have := n4 g hg; simp [BlkIn, nth, blkOf, vaddr] at hin <;> omega).same h34
  have z34 : w32.heap.size ≤ w34.heap.size := Nat.le_trans h33.kept.size h34.size
  refine den_norm (by simp only [List.cons_append, List.nil_append]; rfl) (den_split_false (by simp [BE.den, nth, vbool]) ?_)
  refine den_call [.int .i64 1, .int .i64 0] ⟨⟨_, rfl⟩, ⟨_, rfl⟩, trivial⟩ rfl (fun w35 h35 => ?_) (fun w35 w36 h35 h36 => ?_)
  · have h := c21 (.pointer (some ⟨b14, 0, none⟩)) [k1, k2, k3] _ (O34.shown (kb := 14) h35 rfl rfl rfl fun g hg hin => by have := n4 g hg; simp [BlkIn, nth, blkOf, vaddr] at hin <;> omega).r (by decide)
    rw [show nxI [k1, k2, k3] = 1 from by decide +kernel, show nxE [k1, k2, k3] = 0 from by decide +kernel] at h
    exact h
  have O36 := (O34.shown (kb := 14) h35 rfl rfl rfl fun g hg hin => by have := n4 g hg; simp [BlkIn, nth, blkOf, vaddr] at hin <;> omega).same h36
  have z36 : w34.heap.size ≤ w36.heap.size := Nat.le_trans h35.kept.size h36.size
  refine den_norm (by simp only [List.cons_append, List.nil_append]; rfl) (den_split_true (by simp [BE.den, IE.den, nth, vint]) ?_)
  refine den_call_int (x := 0) (fun w h => ?_) rfl (fun w37 w38 h37 h38 => ?_)
  · exact c15 (0) w
  have O38 := (O36.shown (kb := 14) h37 rfl rfl rfl fun g hg hin => by have := n4 g hg; simp [BlkIn, nth, blkOf, vaddr] at hin <;> omega).same h38
  have z38 : w36.heap.size ≤ w38.heap.size := Nat.le_trans h37.kept.size h38.size
  refine den_norm (by simp only [List.cons_append, List.nil_append]; rfl) (den_split_true (by simp [BE.den, IE.den, nth, vint]) ?_)
  refine den_meth (b := b14) (s := s4) (L := [k1, k2, k3]) (L' := [k1, k2, k3]) (e := 8) rfl rfl rfl O38 ⟨fun hx => absurd (show b14 < w.heap.size from hx) (by omega), fun g hg hx => absurd (show g < w.heap.size from hx) (by have := n4 g hg; omega)⟩ (fun g hg hin => by have := n4 g hg; simp [BlkIn, nth, blkOf, vaddr] at hin <;> omega) ⟨fun hin => by simp [BlkIn, nth, blkOf, vaddr] at hin <;> omega, fun g hg hin => by have := n4 g hg; simp [BlkIn, nth, blkOf, vaddr] at hin <;> omega⟩ (fun hd => by cases hd) (fun w hO => ?_) (fun v => ⟨rfl, rfl, rfl⟩) (fun w39 s5 w40 h39 kk39 O40 fr => ?_)
  · have h := c19' b14 _ [k1, k2, k3] 2 w hO (by decide)
    rw [show endE [k1, k2, k3] 2 = 8 from by decide +kernel, show endL [k1, k2, k3] 2 = [k1, k2, k3] from by unfold endL; rw [if_neg (by decide +kernel : ¬ endE [k1, k2, k3] 2 = 0)]] at h
    exact h
  have z39 : w38.heap.size ≤ w39.heap.size := h39.kept.size
  have y40 : w39.heap.size ≤ w40.heap.size := kk39.size
  have n5 : ∀ g, s5.ownBlock = some g → b0 ≠ g ∧ b5 ≠ g ∧ b7 ≠ g ∧ b14 ≠ g ∧ w.heap.size ≤ g := fun g hg => by
    rcases fr g hg with h | h
    · exact n4 g h
    · exact ⟨by omega, by omega, by omega, by omega, by omega⟩
  refine den_norm (by simp only [List.cons_append, List.nil_append]; rfl) ?_
  refine den_call_int (x := 8) (fun w h => ?_) rfl (fun w41 w42 h41 h42 => ?_)
  · exact c15 (8) w
  have O42 := (O40.shown (kb := 14) h41 rfl rfl rfl fun g hg hin => by have := n5 g hg; simp [BlkIn, nth, blkOf, vaddr] at hin <;> omega).same h42
  have z42 : w40.heap.size ≤ w42.heap.size := Nat.le_trans h41.kept.size h42.size
  refine den_norm (by simp only [List.cons_append, List.nil_append]; rfl) (den_split_true (by simp [BE.den, IE.den, nth, vint]) ?_)
  refine den_meth (b := b14) (s := s5) (L := [k1, k2, k3]) (L' := [k2, k3]) (e := 0) rfl rfl rfl O42 ⟨fun hx => absurd (show b14 < w.heap.size from hx) (by omega), fun g hg hx => absurd (show g < w.heap.size from hx) (by have := n5 g hg; omega)⟩ (fun g hg hin => by have := n5 g hg; simp [BlkIn, nth, blkOf, vaddr] at hin <;> omega) ⟨fun hin => by simp [BlkIn, nth, blkOf, vaddr] at hin <;> omega, fun g hg hin => by have := n5 g hg; simp [BlkIn, nth, blkOf, vaddr] at hin <;> omega⟩ (fun hd => by cases hd) (fun w hO => ?_) (fun v => ⟨rfl, rfl, rfl⟩) (fun w43 s6 w44 h43 kk43 O44 fr => ?_)
  · have h := c19' b14 _ [k1, k2, k3] 1 w hO (by decide)
    rw [show endE [k1, k2, k3] 1 = 0 from by decide +kernel, show endL [k1, k2, k3] 1 = [k2, k3] from by unfold endL; rw [if_pos (by decide +kernel : endE [k1, k2, k3] 1 = 0), show (atI [k1, k2, k3] 1).toNat = 0 from by decide +kernel]; rfl] at h
    exact h
  have z43 : w42.heap.size ≤ w43.heap.size := h43.kept.size
  have y44 : w43.heap.size ≤ w44.heap.size := kk43.size
  have n6 : ∀ g, s6.ownBlock = some g → b0 ≠ g ∧ b5 ≠ g ∧ b7 ≠ g ∧ b14 ≠ g ∧ w.heap.size ≤ g := fun g hg => by
    rcases fr g hg with h | h
    · exact n5 g h
    · exact ⟨by omega, by omega, by omega, by omega, by omega⟩
  refine den_norm (by simp only [List.cons_append, List.nil_append]; rfl) ?_
  refine den_call_int (x := 0) (fun w h => ?_) rfl (fun w45 w46 h45 h46 => ?_)
  · exact c15 (0) w
  have O46 := (O44.shown (kb := 14) h45 rfl rfl rfl fun g hg hin => by have := n6 g hg; simp [BlkIn, nth, blkOf, vaddr] at hin <;> omega).same h46
  have z46 : w44.heap.size ≤ w46.heap.size := Nat.le_trans h45.kept.size h46.size
  refine den_norm (by simp only [List.cons_append, List.nil_append]; rfl) (den_split_true (by simp [BE.den, IE.den, nth, vint]) ?_)
  refine den_call_bool (b := true) (fun w47 h47 => ?_) rfl (fun w47 w48 h47 h48 => ?_)
  · have h := c18 (.pointer (some ⟨b14, 0, none⟩)) [k2, k3] 2 0 true _ (O46.shown (kb := 14) h47 rfl rfl rfl fun g hg hin => by have := n6 g hg; simp [BlkIn, nth, blkOf, vaddr] at hin <;> omega).r (by decide)
    rw [e18c] at h; exact h
  have O48 := (O46.shown (kb := 14) h47 rfl rfl rfl fun g hg hin => by have := n6 g hg; simp [BlkIn, nth, blkOf, vaddr] at hin <;> omega).same h48
  have z48 : w46.heap.size ≤ w48.heap.size := Nat.le_trans h47.kept.size h48.size
  refine den_norm (by simp only [List.cons_append, List.nil_append]; rfl) (den_split_true (by simp [BE.den, nth, vbool]) ?_)
  refine den_meth (b := b14) (s := s6) (L := [k2, k3]) (L' := [k2, k3]) (e := 9) rfl rfl rfl O48 ⟨fun hx => absurd (show b14 < w.heap.size from hx) (by omega), fun g hg hx => absurd (show g < w.heap.size from hx) (by have := n6 g hg; omega)⟩ (fun g hg hin => by have := n6 g hg; simp [BlkIn, nth, blkOf, vaddr] at hin <;> omega) ⟨fun hin => by simp [BlkIn, nth, blkOf, vaddr] at hin <;> omega, fun g hg hin => by have := n6 g hg; simp [BlkIn, nth, blkOf, vaddr] at hin <;> omega⟩ (fun hd => by cases hd) (fun w hO => ?_) (fun v => ⟨rfl, rfl, rfl⟩) (fun w49 s7 w50 h49 kk49 O50 fr => ?_)
  · have h := c29' b14 _ [k2, k3] 9 w hO (by decide)
    rw [show atE [k2, k3] 9 = 9 from by decide +kernel, show cancelL [k2, k3] 9 = [k2, k3] from by unfold cancelL; rw [if_neg (by decide +kernel : ¬ atE [k2, k3] 9 = 0)]] at h
    exact h
  have z49 : w48.heap.size ≤ w49.heap.size := h49.kept.size
  have y50 : w49.heap.size ≤ w50.heap.size := kk49.size
  have n7 : ∀ g, s7.ownBlock = some g → b0 ≠ g ∧ b5 ≠ g ∧ b7 ≠ g ∧ b14 ≠ g ∧ w.heap.size ≤ g := fun g hg => by
    rcases fr g hg with h | h
    · exact n6 g h
    · exact ⟨by omega, by omega, by omega, by omega, by omega⟩
  refine den_norm (by simp only [List.cons_append, List.nil_append]; rfl) ?_
  refine den_call_int (x := 9) (fun w h => ?_) rfl (fun w98 w99 h98 h99 => ?_)
  · exact c15 9 w
  refine den_norm (by simp only [List.cons_append, List.nil_append]; rfl) (den_leaf ?_)
  rfl
end Go.Proofs.Ytfjimghpjopgoaa
