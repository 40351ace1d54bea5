/- What the functions of the chapter come to, printed by a program of the prover's and checked by the kernel. No conditions. -/
import Derived.Test.YtfjimghpjopgoaaSxX
import Derived.Test.YtfjimghpjopgoaaProg
import Derived.KernelRfl
set_option maxRecDepth 100000
set_option linter.unusedVariables false
namespace Go.Proofs.Ytfjimghpjopgoaa
open Go.Sx

theorem t23 : exFn { P := Try.prog, muts := (fun f => if (Bool.or (Nat.beq f 16) (Bool.or (Nat.beq f 19) (Nat.beq f 29))) = true then [0] else []) } 23 [.ptr 0 0, .agg [.var 2], .agg [.int .i64 (.var 3), .int .i64 (.var 4), .int .i64 (.var 5), .int .i64 (.var 6), .bool (.var 7)]] [.ptr, .slice, .slice, .int .i64, .int .i64, .int .i64, .int .i64, .bool] [(0, [.var 1])] =
  VC.blk
  (VC.blk
    (VC.blk
      (VC.split (BE.eq (IE.var 3) (IE.lit 0))
        (VC.call 41 [SV.agg [SV.var 2], SV.int IntKind.i64 (IE.var 4), SV.int IntKind.i64 (IE.var 5), SV.int IntKind.i64 (IE.var 6), SV.bool (BE.var 7)] [Base.slice, Base.int IntKind.i64]
          (SV.tuple [SV.agg [SV.var 11], SV.int IntKind.i64 (IE.var 12)]) [] false [] [] [10, 9, 8, 0]
          [(10, [SV.cst (Value.slice none 0 0)]), (9, [SV.int IntKind.i64 (IE.var 3), SV.int IntKind.i64 (IE.var 4), SV.int IntKind.i64 (IE.var 5), SV.int IntKind.i64 (IE.var 6), SV.bool (BE.var 7)]),
            (8, [SV.var 2]), (0, [SV.var 1])]
          (VC.blk
            (VC.start true [13] [13, 10, 9, 8, 0]
              [(13, [SV.var 11]), (10, [SV.cst (Value.slice none 0 0)]),
                (9, [SV.int IntKind.i64 (IE.var 3), SV.int IntKind.i64 (IE.var 4), SV.int IntKind.i64 (IE.var 5), SV.int IntKind.i64 (IE.var 6), SV.bool (BE.var 7)]), (8, [SV.var 2]), (0, [SV.var 1])]
              (VC.call 16 [SV.ptr 0 0, SV.int IntKind.i64 (IE.var 4), SV.int IntKind.i64 (IE.var 5), SV.int IntKind.i64 (IE.var 6), SV.bool (BE.var 7)] [Base.int IntKind.i64, Base.slice]
                (SV.int IntKind.i64 (IE.var 14)) [(0, [SV.var 15])] true [] [] [13, 10, 9, 8]
                [(13, [SV.var 11]), (10, [SV.cst (Value.slice none 0 0)]),
                  (9, [SV.int IntKind.i64 (IE.var 3), SV.int IntKind.i64 (IE.var 4), SV.int IntKind.i64 (IE.var 5), SV.int IntKind.i64 (IE.var 6), SV.bool (BE.var 7)]), (8, [SV.var 2]),
                  (0, [SV.var 1])]
                (VC.call 15 [SV.int IntKind.i64 (IE.var 14)] [Base.int IntKind.i64] (SV.int IntKind.i64 (IE.var 16)) [] true [] [] [13, 10, 9, 8, 0]
                  [(13, [SV.var 11]), (10, [SV.cst (Value.slice none 0 0)]),
                    (9, [SV.int IntKind.i64 (IE.var 3), SV.int IntKind.i64 (IE.var 4), SV.int IntKind.i64 (IE.var 5), SV.int IntKind.i64 (IE.var 6), SV.bool (BE.var 7)]), (8, [SV.var 2]),
                    (0, [SV.var 15])]
                  (VC.leaf 0 [SV.tuple [SV.ptr 0 0, SV.agg [SV.var 11], SV.bool (BE.eq (IE.var 16) (IE.var 12))]] [10]
                    [(13, [SV.var 11]), (10, [SV.var 11]),
                      (9, [SV.int IntKind.i64 (IE.var 3), SV.int IntKind.i64 (IE.var 4), SV.int IntKind.i64 (IE.var 5), SV.int IntKind.i64 (IE.var 6), SV.bool (BE.var 7)]), (8, [SV.var 2]),
                      (0, [SV.var 15])]))))))
        (VC.split (BE.eq (IE.var 3) (IE.lit 1))
          (VC.call 41 [SV.agg [SV.var 2], SV.int IntKind.i64 (IE.var 4), SV.int IntKind.i64 (IE.var 5), SV.int IntKind.i64 (IE.var 6), SV.bool (BE.var 7)] [Base.slice, Base.int IntKind.i64]
            (SV.tuple [SV.agg [SV.var 11], SV.int IntKind.i64 (IE.var 12)]) [] false [] [] [10, 9, 8, 0]
            [(10, [SV.cst (Value.slice none 0 0)]),
              (9, [SV.int IntKind.i64 (IE.var 3), SV.int IntKind.i64 (IE.var 4), SV.int IntKind.i64 (IE.var 5), SV.int IntKind.i64 (IE.var 6), SV.bool (BE.var 7)]), (8, [SV.var 2]), (0, [SV.var 1])]
            (VC.blk
              (VC.start true [13] [13, 10, 9, 8, 0]
                [(13, [SV.var 11]), (10, [SV.cst (Value.slice none 0 0)]),
                  (9, [SV.int IntKind.i64 (IE.var 3), SV.int IntKind.i64 (IE.var 4), SV.int IntKind.i64 (IE.var 5), SV.int IntKind.i64 (IE.var 6), SV.bool (BE.var 7)]), (8, [SV.var 2]),
                  (0, [SV.var 1])]
                (VC.call 16 [SV.ptr 0 0, SV.int IntKind.i64 (IE.var 4), SV.int IntKind.i64 (IE.var 5), SV.int IntKind.i64 (IE.var 6), SV.bool (BE.var 7)] [Base.int IntKind.i64, Base.slice]
                  (SV.int IntKind.i64 (IE.var 14)) [(0, [SV.var 15])] true [] [] [13, 10, 9, 8]
                  [(13, [SV.var 11]), (10, [SV.cst (Value.slice none 0 0)]),
                    (9, [SV.int IntKind.i64 (IE.var 3), SV.int IntKind.i64 (IE.var 4), SV.int IntKind.i64 (IE.var 5), SV.int IntKind.i64 (IE.var 6), SV.bool (BE.var 7)]), (8, [SV.var 2]),
                    (0, [SV.var 1])]
                  (VC.call 15 [SV.int IntKind.i64 (IE.var 14)] [Base.int IntKind.i64] (SV.int IntKind.i64 (IE.var 16)) [] true [] [] [13, 10, 9, 8, 0]
                    [(13, [SV.var 11]), (10, [SV.cst (Value.slice none 0 0)]),
                      (9, [SV.int IntKind.i64 (IE.var 3), SV.int IntKind.i64 (IE.var 4), SV.int IntKind.i64 (IE.var 5), SV.int IntKind.i64 (IE.var 6), SV.bool (BE.var 7)]), (8, [SV.var 2]),
                      (0, [SV.var 15])]
                    (VC.leaf 0 [SV.tuple [SV.ptr 0 0, SV.agg [SV.var 11], SV.bool (BE.eq (IE.var 16) (IE.var 12))]] [10]
                      [(13, [SV.var 11]), (10, [SV.var 11]),
                        (9, [SV.int IntKind.i64 (IE.var 3), SV.int IntKind.i64 (IE.var 4), SV.int IntKind.i64 (IE.var 5), SV.int IntKind.i64 (IE.var 6), SV.bool (BE.var 7)]), (8, [SV.var 2]),
                        (0, [SV.var 15])]))))))
          (VC.split (BE.eq (IE.var 3) (IE.lit 2))
            (VC.call 41 [SV.agg [SV.var 2], SV.int IntKind.i64 (IE.var 4), SV.int IntKind.i64 (IE.var 5), SV.int IntKind.i64 (IE.var 6), SV.bool (BE.var 7)] [Base.slice, Base.int IntKind.i64]
              (SV.tuple [SV.agg [SV.var 11], SV.int IntKind.i64 (IE.var 12)]) [] false [] [] [10, 9, 8, 0]
              [(10, [SV.cst (Value.slice none 0 0)]),
                (9, [SV.int IntKind.i64 (IE.var 3), SV.int IntKind.i64 (IE.var 4), SV.int IntKind.i64 (IE.var 5), SV.int IntKind.i64 (IE.var 6), SV.bool (BE.var 7)]), (8, [SV.var 2]), (0, [SV.var 1])]
              (VC.blk
                (VC.start true [13] [13, 10, 9, 8, 0]
                  [(13, [SV.var 11]), (10, [SV.cst (Value.slice none 0 0)]),
                    (9, [SV.int IntKind.i64 (IE.var 3), SV.int IntKind.i64 (IE.var 4), SV.int IntKind.i64 (IE.var 5), SV.int IntKind.i64 (IE.var 6), SV.bool (BE.var 7)]), (8, [SV.var 2]),
                    (0, [SV.var 1])]
                  (VC.call 16 [SV.ptr 0 0, SV.int IntKind.i64 (IE.var 4), SV.int IntKind.i64 (IE.var 5), SV.int IntKind.i64 (IE.var 6), SV.bool (BE.var 7)] [Base.int IntKind.i64, Base.slice]
                    (SV.int IntKind.i64 (IE.var 14)) [(0, [SV.var 15])] true [] [] [13, 10, 9, 8]
                    [(13, [SV.var 11]), (10, [SV.cst (Value.slice none 0 0)]),
                      (9, [SV.int IntKind.i64 (IE.var 3), SV.int IntKind.i64 (IE.var 4), SV.int IntKind.i64 (IE.var 5), SV.int IntKind.i64 (IE.var 6), SV.bool (BE.var 7)]), (8, [SV.var 2]),
                      (0, [SV.var 1])]
                    (VC.call 15 [SV.int IntKind.i64 (IE.var 14)] [Base.int IntKind.i64] (SV.int IntKind.i64 (IE.var 16)) [] true [] [] [13, 10, 9, 8, 0]
                      [(13, [SV.var 11]), (10, [SV.cst (Value.slice none 0 0)]),
                        (9, [SV.int IntKind.i64 (IE.var 3), SV.int IntKind.i64 (IE.var 4), SV.int IntKind.i64 (IE.var 5), SV.int IntKind.i64 (IE.var 6), SV.bool (BE.var 7)]), (8, [SV.var 2]),
                        (0, [SV.var 15])]
                      (VC.leaf 0 [SV.tuple [SV.ptr 0 0, SV.agg [SV.var 11], SV.bool (BE.eq (IE.var 16) (IE.var 12))]] [10]
                        [(13, [SV.var 11]), (10, [SV.var 11]),
                          (9, [SV.int IntKind.i64 (IE.var 3), SV.int IntKind.i64 (IE.var 4), SV.int IntKind.i64 (IE.var 5), SV.int IntKind.i64 (IE.var 6), SV.bool (BE.var 7)]), (8, [SV.var 2]),
                          (0, [SV.var 15])]))))))
            (VC.split (BE.eq (IE.var 3) (IE.lit 3))
              (VC.call 41 [SV.agg [SV.var 2], SV.int IntKind.i64 (IE.var 4), SV.int IntKind.i64 (IE.var 5), SV.int IntKind.i64 (IE.var 6), SV.bool (BE.var 7)] [Base.slice, Base.int IntKind.i64]
                (SV.tuple [SV.agg [SV.var 11], SV.int IntKind.i64 (IE.var 12)]) [] false [] [] [10, 9, 8, 0]
                [(10, [SV.cst (Value.slice none 0 0)]),
                  (9, [SV.int IntKind.i64 (IE.var 3), SV.int IntKind.i64 (IE.var 4), SV.int IntKind.i64 (IE.var 5), SV.int IntKind.i64 (IE.var 6), SV.bool (BE.var 7)]), (8, [SV.var 2]),
                  (0, [SV.var 1])]
                (VC.blk
                  (VC.start true [13] [13, 10, 9, 8, 0]
                    [(13, [SV.var 11]), (10, [SV.cst (Value.slice none 0 0)]),
                      (9, [SV.int IntKind.i64 (IE.var 3), SV.int IntKind.i64 (IE.var 4), SV.int IntKind.i64 (IE.var 5), SV.int IntKind.i64 (IE.var 6), SV.bool (BE.var 7)]), (8, [SV.var 2]),
                      (0, [SV.var 1])]
                    (VC.call 16 [SV.ptr 0 0, SV.int IntKind.i64 (IE.var 4), SV.int IntKind.i64 (IE.var 5), SV.int IntKind.i64 (IE.var 6), SV.bool (BE.var 7)] [Base.int IntKind.i64, Base.slice]
                      (SV.int IntKind.i64 (IE.var 14)) [(0, [SV.var 15])] true [] [] [13, 10, 9, 8]
                      [(13, [SV.var 11]), (10, [SV.cst (Value.slice none 0 0)]),
                        (9, [SV.int IntKind.i64 (IE.var 3), SV.int IntKind.i64 (IE.var 4), SV.int IntKind.i64 (IE.var 5), SV.int IntKind.i64 (IE.var 6), SV.bool (BE.var 7)]), (8, [SV.var 2]),
                        (0, [SV.var 1])]
                      (VC.call 15 [SV.int IntKind.i64 (IE.var 14)] [Base.int IntKind.i64] (SV.int IntKind.i64 (IE.var 16)) [] true [] [] [13, 10, 9, 8, 0]
                        [(13, [SV.var 11]), (10, [SV.cst (Value.slice none 0 0)]),
                          (9, [SV.int IntKind.i64 (IE.var 3), SV.int IntKind.i64 (IE.var 4), SV.int IntKind.i64 (IE.var 5), SV.int IntKind.i64 (IE.var 6), SV.bool (BE.var 7)]), (8, [SV.var 2]),
                          (0, [SV.var 15])]
                        (VC.leaf 0 [SV.tuple [SV.ptr 0 0, SV.agg [SV.var 11], SV.bool (BE.eq (IE.var 16) (IE.var 12))]] [10]
                          [(13, [SV.var 11]), (10, [SV.var 11]),
                            (9, [SV.int IntKind.i64 (IE.var 3), SV.int IntKind.i64 (IE.var 4), SV.int IntKind.i64 (IE.var 5), SV.int IntKind.i64 (IE.var 6), SV.bool (BE.var 7)]), (8, [SV.var 2]),
                            (0, [SV.var 15])]))))))
              (VC.split (BE.eq (IE.var 3) (IE.lit 4))
                (VC.call 42 [SV.agg [SV.var 2], SV.int IntKind.i64 (IE.var 4), SV.bool (BE.lit false)] [Base.slice, Base.int IntKind.i64]
                  (SV.tuple [SV.agg [SV.var 11], SV.int IntKind.i64 (IE.var 12)]) [] false [] [] [10, 9, 8, 0]
                  [(10, [SV.cst (Value.slice none 0 0)]),
                    (9, [SV.int IntKind.i64 (IE.var 3), SV.int IntKind.i64 (IE.var 4), SV.int IntKind.i64 (IE.var 5), SV.int IntKind.i64 (IE.var 6), SV.bool (BE.var 7)]), (8, [SV.var 2]),
                    (0, [SV.var 1])]
                  (VC.blk
                    (VC.start true [13] [13, 10, 9, 8, 0]
                      [(13, [SV.var 11]), (10, [SV.cst (Value.slice none 0 0)]),
                        (9, [SV.int IntKind.i64 (IE.var 3), SV.int IntKind.i64 (IE.var 4), SV.int IntKind.i64 (IE.var 5), SV.int IntKind.i64 (IE.var 6), SV.bool (BE.var 7)]), (8, [SV.var 2]),
                        (0, [SV.var 1])]
                      (VC.call 19 [SV.ptr 0 0, SV.int IntKind.i64 (IE.var 4)] [Base.int IntKind.i64, Base.slice] (SV.int IntKind.i64 (IE.var 14)) [(0, [SV.var 15])] true [] [] [13, 10, 9, 8]
                        [(13, [SV.var 11]), (10, [SV.cst (Value.slice none 0 0)]),
                          (9, [SV.int IntKind.i64 (IE.var 3), SV.int IntKind.i64 (IE.var 4), SV.int IntKind.i64 (IE.var 5), SV.int IntKind.i64 (IE.var 6), SV.bool (BE.var 7)]), (8, [SV.var 2]),
                          (0, [SV.var 1])]
                        (VC.call 15 [SV.int IntKind.i64 (IE.var 14)] [Base.int IntKind.i64] (SV.int IntKind.i64 (IE.var 16)) [] true [] [] [13, 10, 9, 8, 0]
                          [(13, [SV.var 11]), (10, [SV.cst (Value.slice none 0 0)]),
                            (9, [SV.int IntKind.i64 (IE.var 3), SV.int IntKind.i64 (IE.var 4), SV.int IntKind.i64 (IE.var 5), SV.int IntKind.i64 (IE.var 6), SV.bool (BE.var 7)]), (8, [SV.var 2]),
                            (0, [SV.var 15])]
                          (VC.leaf 0 [SV.tuple [SV.ptr 0 0, SV.agg [SV.var 11], SV.bool (BE.eq (IE.var 16) (IE.var 12))]] [10]
                            [(13, [SV.var 11]), (10, [SV.var 11]),
                              (9, [SV.int IntKind.i64 (IE.var 3), SV.int IntKind.i64 (IE.var 4), SV.int IntKind.i64 (IE.var 5), SV.int IntKind.i64 (IE.var 6), SV.bool (BE.var 7)]), (8, [SV.var 2]),
                              (0, [SV.var 15])]))))))
                (VC.split (BE.eq (IE.var 3) (IE.lit 5))
                  (VC.call 42 [SV.agg [SV.var 2], SV.int IntKind.i64 (IE.var 4), SV.bool (BE.lit false)] [Base.slice, Base.int IntKind.i64]
                    (SV.tuple [SV.agg [SV.var 11], SV.int IntKind.i64 (IE.var 12)]) [] false [] [] [10, 9, 8, 0]
                    [(10, [SV.cst (Value.slice none 0 0)]),
                      (9, [SV.int IntKind.i64 (IE.var 3), SV.int IntKind.i64 (IE.var 4), SV.int IntKind.i64 (IE.var 5), SV.int IntKind.i64 (IE.var 6), SV.bool (BE.var 7)]), (8, [SV.var 2]),
                      (0, [SV.var 1])]
                    (VC.blk
                      (VC.start true [13] [13, 10, 9, 8, 0]
                        [(13, [SV.var 11]), (10, [SV.cst (Value.slice none 0 0)]),
                          (9, [SV.int IntKind.i64 (IE.var 3), SV.int IntKind.i64 (IE.var 4), SV.int IntKind.i64 (IE.var 5), SV.int IntKind.i64 (IE.var 6), SV.bool (BE.var 7)]), (8, [SV.var 2]),
                          (0, [SV.var 1])]
                        (VC.call 19 [SV.ptr 0 0, SV.int IntKind.i64 (IE.var 4)] [Base.int IntKind.i64, Base.slice] (SV.int IntKind.i64 (IE.var 14)) [(0, [SV.var 15])] true [] [] [13, 10, 9, 8]
                          [(13, [SV.var 11]), (10, [SV.cst (Value.slice none 0 0)]),
                            (9, [SV.int IntKind.i64 (IE.var 3), SV.int IntKind.i64 (IE.var 4), SV.int IntKind.i64 (IE.var 5), SV.int IntKind.i64 (IE.var 6), SV.bool (BE.var 7)]), (8, [SV.var 2]),
                            (0, [SV.var 1])]
                          (VC.call 15 [SV.int IntKind.i64 (IE.var 14)] [Base.int IntKind.i64] (SV.int IntKind.i64 (IE.var 16)) [] true [] [] [13, 10, 9, 8, 0]
                            [(13, [SV.var 11]), (10, [SV.cst (Value.slice none 0 0)]),
                              (9, [SV.int IntKind.i64 (IE.var 3), SV.int IntKind.i64 (IE.var 4), SV.int IntKind.i64 (IE.var 5), SV.int IntKind.i64 (IE.var 6), SV.bool (BE.var 7)]), (8, [SV.var 2]),
                              (0, [SV.var 15])]
                            (VC.leaf 0 [SV.tuple [SV.ptr 0 0, SV.agg [SV.var 11], SV.bool (BE.eq (IE.var 16) (IE.var 12))]] [10]
                              [(13, [SV.var 11]), (10, [SV.var 11]),
                                (9, [SV.int IntKind.i64 (IE.var 3), SV.int IntKind.i64 (IE.var 4), SV.int IntKind.i64 (IE.var 5), SV.int IntKind.i64 (IE.var 6), SV.bool (BE.var 7)]), (8, [SV.var 2]),
                                (0, [SV.var 15])]))))))
                  (VC.split (BE.eq (IE.var 3) (IE.lit 6))
                    (VC.call 42 [SV.agg [SV.var 2], SV.int IntKind.i64 (IE.var 4), SV.bool (BE.lit true)] [Base.slice, Base.int IntKind.i64]
                      (SV.tuple [SV.agg [SV.var 11], SV.int IntKind.i64 (IE.var 12)]) [] false [] [] [10, 9, 8, 0]
                      [(10, [SV.cst (Value.slice none 0 0)]),
                        (9, [SV.int IntKind.i64 (IE.var 3), SV.int IntKind.i64 (IE.var 4), SV.int IntKind.i64 (IE.var 5), SV.int IntKind.i64 (IE.var 6), SV.bool (BE.var 7)]), (8, [SV.var 2]),
                        (0, [SV.var 1])]
                      (VC.blk
                        (VC.start true [13] [13, 10, 9, 8, 0]
                          [(13, [SV.var 11]), (10, [SV.cst (Value.slice none 0 0)]),
                            (9, [SV.int IntKind.i64 (IE.var 3), SV.int IntKind.i64 (IE.var 4), SV.int IntKind.i64 (IE.var 5), SV.int IntKind.i64 (IE.var 6), SV.bool (BE.var 7)]), (8, [SV.var 2]),
                            (0, [SV.var 1])]
                          (VC.call 29 [SV.ptr 0 0, SV.int IntKind.i64 (IE.var 4)] [Base.int IntKind.i64, Base.slice] (SV.int IntKind.i64 (IE.var 14)) [(0, [SV.var 15])] true [] [] [13, 10, 9, 8]
                            [(13, [SV.var 11]), (10, [SV.cst (Value.slice none 0 0)]),
                              (9, [SV.int IntKind.i64 (IE.var 3), SV.int IntKind.i64 (IE.var 4), SV.int IntKind.i64 (IE.var 5), SV.int IntKind.i64 (IE.var 6), SV.bool (BE.var 7)]), (8, [SV.var 2]),
                              (0, [SV.var 1])]
                            (VC.call 15 [SV.int IntKind.i64 (IE.var 14)] [Base.int IntKind.i64] (SV.int IntKind.i64 (IE.var 16)) [] true [] [] [13, 10, 9, 8, 0]
                              [(13, [SV.var 11]), (10, [SV.cst (Value.slice none 0 0)]),
                                (9, [SV.int IntKind.i64 (IE.var 3), SV.int IntKind.i64 (IE.var 4), SV.int IntKind.i64 (IE.var 5), SV.int IntKind.i64 (IE.var 6), SV.bool (BE.var 7)]), (8, [SV.var 2]),
                                (0, [SV.var 15])]
                              (VC.leaf 0 [SV.tuple [SV.ptr 0 0, SV.agg [SV.var 11], SV.bool (BE.eq (IE.var 16) (IE.var 12))]] [10]
                                [(13, [SV.var 11]), (10, [SV.var 11]),
                                  (9, [SV.int IntKind.i64 (IE.var 3), SV.int IntKind.i64 (IE.var 4), SV.int IntKind.i64 (IE.var 5), SV.int IntKind.i64 (IE.var 6), SV.bool (BE.var 7)]),
                                  (8, [SV.var 2]), (0, [SV.var 15])]))))))
                    (VC.split (BE.eq (IE.var 3) (IE.lit 7))
                      (VC.call 43 [SV.agg [SV.var 2]] [Base.int IntKind.i64, Base.int IntKind.i64] (SV.tuple [SV.int IntKind.i64 (IE.var 11), SV.int IntKind.i64 (IE.var 12)]) [] false [] []
                        [10, 9, 8, 0]
                        [(10, [SV.cst (Value.slice none 0 0)]),
                          (9, [SV.int IntKind.i64 (IE.var 3), SV.int IntKind.i64 (IE.var 4), SV.int IntKind.i64 (IE.var 5), SV.int IntKind.i64 (IE.var 6), SV.bool (BE.var 7)]), (8, [SV.var 2]),
                          (0, [SV.var 1])]
                        (VC.call 21 [SV.ptr 0 0] [Base.int IntKind.i64, Base.int IntKind.i64] (SV.tuple [SV.int IntKind.i64 (IE.var 13), SV.int IntKind.i64 (IE.var 14)]) [] false [] [] [10, 9, 8, 0]
                          [(10, [SV.cst (Value.slice none 0 0)]),
                            (9, [SV.int IntKind.i64 (IE.var 3), SV.int IntKind.i64 (IE.var 4), SV.int IntKind.i64 (IE.var 5), SV.int IntKind.i64 (IE.var 6), SV.bool (BE.var 7)]), (8, [SV.var 2]),
                            (0, [SV.var 1])]
                          (VC.start true [] [10, 9, 8, 0]
                            [(10, [SV.cst (Value.slice none 0 0)]),
                              (9, [SV.int IntKind.i64 (IE.var 3), SV.int IntKind.i64 (IE.var 4), SV.int IntKind.i64 (IE.var 5), SV.int IntKind.i64 (IE.var 6), SV.bool (BE.var 7)]), (8, [SV.var 2]),
                              (0, [SV.var 1])]
                            (VC.split (BE.eq (IE.var 13) (IE.var 11))
                              (VC.call 15 [SV.int IntKind.i64 (IE.var 14)] [Base.int IntKind.i64] (SV.int IntKind.i64 (IE.var 15)) [] true [] [] [10, 9, 8, 0]
                                [(10, [SV.cst (Value.slice none 0 0)]),
                                  (9, [SV.int IntKind.i64 (IE.var 3), SV.int IntKind.i64 (IE.var 4), SV.int IntKind.i64 (IE.var 5), SV.int IntKind.i64 (IE.var 6), SV.bool (BE.var 7)]),
                                  (8, [SV.var 2]), (0, [SV.var 1])]
                                (VC.leaf 0 [SV.tuple [SV.ptr 0 0, SV.agg [SV.var 2], SV.bool (BE.eq (IE.var 15) (IE.var 12))]] [10]
                                  [(10, [SV.var 2]),
                                    (9, [SV.int IntKind.i64 (IE.var 3), SV.int IntKind.i64 (IE.var 4), SV.int IntKind.i64 (IE.var 5), SV.int IntKind.i64 (IE.var 6), SV.bool (BE.var 7)]),
                                    (8, [SV.var 2]), (0, [SV.var 1])]))
                              (VC.leaf 0 [SV.tuple [SV.ptr 0 0, SV.agg [SV.var 2], SV.bool (BE.lit false)]] [10]
                                [(10, [SV.var 2]),
                                  (9, [SV.int IntKind.i64 (IE.var 3), SV.int IntKind.i64 (IE.var 4), SV.int IntKind.i64 (IE.var 5), SV.int IntKind.i64 (IE.var 6), SV.bool (BE.var 7)]),
                                  (8, [SV.var 2]), (0, [SV.var 1])])))))
                      (VC.start true [] [10, 9, 8, 0]
                        [(10, [SV.cst (Value.slice none 0 0)]),
                          (9, [SV.int IntKind.i64 (IE.var 3), SV.int IntKind.i64 (IE.var 4), SV.int IntKind.i64 (IE.var 5), SV.int IntKind.i64 (IE.var 6), SV.bool (BE.var 7)]), (8, [SV.var 2]),
                          (0, [SV.var 1])]
                        (VC.call 24 [SV.ptr 0 0] [Base.ptr] (SV.var 11) [] true [] [] [10, 9, 8, 0]
                          [(10, [SV.cst (Value.slice none 0 0)]),
                            (9, [SV.int IntKind.i64 (IE.var 3), SV.int IntKind.i64 (IE.var 4), SV.int IntKind.i64 (IE.var 5), SV.int IntKind.i64 (IE.var 6), SV.bool (BE.var 7)]), (8, [SV.var 2]),
                            (0, [SV.var 1])]
                          (VC.leaf 0 [SV.tuple [SV.var 11, SV.agg [SV.var 2], SV.bool (BE.lit true)]] [10]
                            [(10, [SV.var 2]), (9, [SV.int IntKind.i64 (IE.var 3), SV.int IntKind.i64 (IE.var 4), SV.int IntKind.i64 (IE.var 5), SV.int IntKind.i64 (IE.var 6), SV.bool (BE.var 7)]),
                              (8, [SV.var 2]), (0, [SV.var 1])]))))))))))))) := by kernel_rfl

theorem t25 : exFn { P := Try.prog } 25 [.var 0] [.ptr] [] =
  VC.call 24 [SV.var 0] [Base.ptr] (SV.var 1) [] false [] [] [] [] (VC.blk (VC.leaf 0 [SV.fn 45 [SV.ptr 2 0]] [2] [(2, [SV.var 1])])) := by kernel_rfl

theorem t7 : exFn { P := Try.prog, loops := fun r => if Nat.beq r 5 then some ⟨1, [(7, .int .i64), (5, .ptr)], [6]⟩ else none, drops := fun r => if Nat.beq r 5 then [5] else [] } 7 [.var 0, .int .i64 (.var 1)] [.slice, .int .i64] [] =
  VC.split (BE.lt (IE.lit 50) (IE.len 0)) (VC.call 9 [] [Base.bool] (SV.bool (BE.var 2)) [] false [] [] [] [] (VC.leaf 0 [SV.bool (BE.var 2)] [] []))
  (VC.blk
    (VC.blk
      (VC.loop 1 [SV.int IntKind.i64 (IE.lit 0), SV.ptr 2 0, SV.cst (Value.slice none 0 0)] [Base.int IntKind.i64, Base.ptr, Base.slice] [3] [3]
        [(3, [SV.cst (Value.slice none 0 0)]), (2, [SV.cst (Value.slice none 0 0)])] [(3, [SV.var 6])]
        (VC.split (BE.lt (IE.var 4) (IE.len 0))
          (VC.start true [] [3] [(3, [SV.var 6])]
            (VC.ob (BE.le (IE.lit 0) (IE.var 4))
              (VC.ob (BE.lt (IE.var 4) (IE.len 0))
                (VC.ob (BE.not (BE.nil 0))
                  (VC.load (SV.elt 0 0 (IE.var 4) 5 0) [Base.int IntKind.i64, Base.int IntKind.i64, Base.int IntKind.i64, Base.int IntKind.i64, Base.bool]
                    (VC.both
                      (VC.call 23
                        [SV.var 5, SV.agg [SV.var 6],
                          SV.agg [SV.int IntKind.i64 (IE.var 7), SV.int IntKind.i64 (IE.var 8), SV.int IntKind.i64 (IE.var 9), SV.int IntKind.i64 (IE.var 10), SV.bool (BE.var 11)]]
                        [Base.ptr, Base.slice, Base.bool] (SV.tuple [SV.var 12, SV.agg [SV.var 13], SV.bool (BE.var 14)]) [] true [] [] [3] [(3, [SV.var 6])]
                        (VC.blk
                          (VC.start true [15] [15, 3] [(15, [SV.var 13]), (3, [SV.var 6])]
                            (VC.start true [3] [15, 3] [(15, [SV.var 13]), (3, [SV.var 13])]
                              (VC.ob (BE.le (IE.lit 0) (IE.var 4))
                                (VC.ob (BE.lt (IE.var 4) (IE.len 0))
                                  (VC.load (SV.elt 0 0 (IE.var 4) 5 1) [Base.int IntKind.i64]
                                    (VC.call 28 [SV.agg [SV.var 13], SV.int IntKind.i64 (IE.var 16)] [Base.bool, Base.int IntKind.i64] (SV.tuple [SV.bool (BE.var 17), SV.int IntKind.i64 (IE.var 18)])
                                      [] true [] [] [15, 3] [(15, [SV.var 13]), (3, [SV.var 13])]
                                      (VC.start true [] [15, 3] [(15, [SV.var 13]), (3, [SV.var 13])]
                                        (VC.split (BE.not (BE.var 14)) (VC.leaf 0 [SV.bool (BE.lit false)] [] [(15, [SV.var 13]), (3, [SV.var 13])])
                                          (VC.ob (BE.le (IE.lit 0) (IE.var 4))
                                            (VC.ob (BE.lt (IE.var 4) (IE.len 0))
                                              (VC.load (SV.elt 0 0 (IE.var 4) 5 1) [Base.int IntKind.i64]
                                                (VC.call 18 [SV.var 12, SV.int IntKind.i64 (IE.var 19), SV.bool (BE.var 17), SV.int IntKind.i64 (IE.var 18)] [Base.bool] (SV.bool (BE.var 20)) [] true
                                                  [] [] [15, 3] [(15, [SV.var 13]), (3, [SV.var 13])]
                                                  (VC.split (BE.not (BE.var 20)) (VC.leaf 0 [SV.bool (BE.lit false)] [] [(15, [SV.var 13]), (3, [SV.var 13])])
                                                    (VC.call 17 [SV.var 12] [Base.int IntKind.i64] (SV.int IntKind.i64 (IE.var 21)) [] true [] [] [15, 3] [(15, [SV.var 13]), (3, [SV.var 13])]
                                                      (VC.split (BE.not (BE.eq (IE.var 21) (IE.len 13))) (VC.leaf 0 [SV.bool (BE.lit false)] [] [(15, [SV.var 13]), (3, [SV.var 13])])
                                                        (VC.call 26 [SV.var 12, SV.agg [SV.var 13], SV.int IntKind.i64 (IE.var 1)] [Base.bool] (SV.bool (BE.var 22)) [] true [] [] [15, 3]
                                                          [(15, [SV.var 13]), (3, [SV.var 13])]
                                                          (VC.split (BE.not (BE.var 22)) (VC.leaf 0 [SV.bool (BE.lit false)] [] [(15, [SV.var 13]), (3, [SV.var 13])])
                                                            (VC.ob (BE.le (IE.lit (-9223372036854775808)) (IE.add (IE.var 4) (IE.lit 1)))
                                                              (VC.ob (BE.le (IE.add (IE.var 4) (IE.lit 1)) (IE.lit 9223372036854775807))
                                                                (VC.leaf 1 [SV.int IntKind.i64 (IE.add (IE.var 4) (IE.lit 1)), SV.var 12, SV.var 13] []
                                                                  [(15, [SV.var 13]), (3, [SV.var 13])]))))))))))))))))))))))
                      (VC.blk
                        (VC.call 23
                          [SV.var 5, SV.agg [SV.var 6],
                            SV.agg [SV.int IntKind.i64 (IE.var 7), SV.int IntKind.i64 (IE.var 8), SV.int IntKind.i64 (IE.var 9), SV.int IntKind.i64 (IE.var 10), SV.bool (BE.var 11)]]
                          [Base.ptr, Base.slice, Base.bool] (SV.tuple [SV.var 13, SV.agg [SV.var 14], SV.bool (BE.var 15)]) [] true [] [] [12, 3]
                          [(12, [SV.cst (Value.slice none 0 0)]), (3, [SV.var 6])]
                          (VC.start true [12] [12, 3] [(12, [SV.var 14]), (3, [SV.var 6])]
                            (VC.start true [3] [12, 3] [(12, [SV.var 14]), (3, [SV.var 14])]
                              (VC.ob (BE.le (IE.lit 0) (IE.var 4))
                                (VC.ob (BE.lt (IE.var 4) (IE.len 0))
                                  (VC.load (SV.elt 0 0 (IE.var 4) 5 1) [Base.int IntKind.i64]
                                    (VC.call 28 [SV.agg [SV.var 14], SV.int IntKind.i64 (IE.var 16)] [Base.bool, Base.int IntKind.i64] (SV.tuple [SV.bool (BE.var 17), SV.int IntKind.i64 (IE.var 18)])
                                      [] true [] [] [12, 3] [(12, [SV.var 14]), (3, [SV.var 14])]
                                      (VC.start true [] [12, 3] [(12, [SV.var 14]), (3, [SV.var 14])]
                                        (VC.split (BE.not (BE.var 15)) (VC.leaf 0 [SV.bool (BE.lit false)] [] [(12, [SV.var 14]), (3, [SV.var 14])])
                                          (VC.ob (BE.le (IE.lit 0) (IE.var 4))
                                            (VC.ob (BE.lt (IE.var 4) (IE.len 0))
                                              (VC.load (SV.elt 0 0 (IE.var 4) 5 1) [Base.int IntKind.i64]
                                                (VC.call 18 [SV.var 13, SV.int IntKind.i64 (IE.var 19), SV.bool (BE.var 17), SV.int IntKind.i64 (IE.var 18)] [Base.bool] (SV.bool (BE.var 20)) [] true
                                                  [] [] [12, 3] [(12, [SV.var 14]), (3, [SV.var 14])]
                                                  (VC.split (BE.not (BE.var 20)) (VC.leaf 0 [SV.bool (BE.lit false)] [] [(12, [SV.var 14]), (3, [SV.var 14])])
                                                    (VC.call 17 [SV.var 13] [Base.int IntKind.i64] (SV.int IntKind.i64 (IE.var 21)) [] true [] [] [12, 3] [(12, [SV.var 14]), (3, [SV.var 14])]
                                                      (VC.split (BE.not (BE.eq (IE.var 21) (IE.len 14))) (VC.leaf 0 [SV.bool (BE.lit false)] [] [(12, [SV.var 14]), (3, [SV.var 14])])
                                                        (VC.call 26 [SV.var 13, SV.agg [SV.var 14], SV.int IntKind.i64 (IE.var 1)] [Base.bool] (SV.bool (BE.var 22)) [] true [] [] [12, 3]
                                                          [(12, [SV.var 14]), (3, [SV.var 14])]
                                                          (VC.split (BE.not (BE.var 22)) (VC.leaf 0 [SV.bool (BE.lit false)] [] [(12, [SV.var 14]), (3, [SV.var 14])])
                                                            (VC.ob (BE.le (IE.lit (-9223372036854775808)) (IE.add (IE.var 4) (IE.lit 1)))
                                                              (VC.ob (BE.le (IE.add (IE.var 4) (IE.lit 1)) (IE.lit 9223372036854775807))
                                                                (VC.leaf 1 [SV.int IntKind.i64 (IE.add (IE.var 4) (IE.lit 1)), SV.var 13, SV.var 14] []
                                                                  [(12, [SV.var 14]), (3, [SV.var 14])]))))))))))))))))))))))))))))
          (VC.call 9 [] [Base.bool] (SV.bool (BE.var 7)) [] false [] [] [3] [(3, [SV.var 6])] (VC.leaf 0 [SV.bool (BE.var 7)] [] [(3, [SV.var 6])])))))) := by kernel_rfl

end Go.Proofs.Ytfjimghpjopgoaa
