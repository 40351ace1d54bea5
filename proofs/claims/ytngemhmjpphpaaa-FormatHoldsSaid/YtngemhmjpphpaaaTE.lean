/- What the functions of the chapter come to, printed by a program of the prover's and checked by the kernel. No conditions. -/
import Derived.Test.YtngemhmjpphpaaaSxX
import Derived.Test.YtngemhmjpphpaaaProg
import Derived.KernelRfl
set_option maxRecDepth 100000
set_option linter.unusedVariables false
namespace Go.Proofs.Ytngemhmjpphpaaa
open Go.Sx

theorem t6 : exFn { P := Try.prog, loops := (fun r => if Nat.beq r 13 then some ⟨1, [(14, .ptr)], []⟩ else none), drops := (fun r => if Nat.beq r 13 then [14] else []), joins := (fun r => if Nat.beq r 3 then some ⟨4, [], []⟩ else if Nat.beq r 12 then some ⟨3, [], [10]⟩ else if Nat.beq r 24 then some ⟨5, [], [15]⟩ else if Nat.beq r 26 then some ⟨6, [], []⟩ else none), ranged := true, ranges := fun t => if Nat.beq t 63 then some ⟨2, [3, 3], [15]⟩ else none } 6 [.agg [.int .i64 (.var 0), .int .i64 (.var 1), .bool (.var 2), .int .i64 (.var 3), .bool (.var 4)], .int .i64 (.var 5), .int .i64 (.var 6), .int .i64 (.var 7)] [.int .i64, .int .i64, .bool, .int .i64, .bool, .int .i64, .int .i64, .int .i64] [] =
  VC.blk
  (VC.blk
    (VC.blk
      (VC.blk
        (VC.cut 4 [] [11, 10, 9, 8]
          [(11, [SV.bool (BE.lit false)]), (10, [SV.int IntKind.i64 (IE.var 7)]), (9, [SV.int IntKind.i64 (IE.var 5)]),
            (8, [SV.int IntKind.i64 (IE.var 0), SV.int IntKind.i64 (IE.var 1), SV.bool (BE.var 2), SV.int IntKind.i64 (IE.var 3), SV.bool (BE.var 4)])]
          (VC.split (BE.lt (IE.lit 300) (IE.var 6))
            (VC.split (BE.le (IE.var 6) (IE.lit 65536))
              (VC.call 19 [] [Base.bool] (SV.bool (BE.var 12)) [] false [] [] [11, 10, 9, 8]
                [(11, [SV.bool (BE.lit false)]), (10, [SV.int IntKind.i64 (IE.var 7)]), (9, [SV.int IntKind.i64 (IE.var 5)]),
                  (8, [SV.int IntKind.i64 (IE.var 0), SV.int IntKind.i64 (IE.var 1), SV.bool (BE.var 2), SV.int IntKind.i64 (IE.var 3), SV.bool (BE.var 4)])]
                (VC.leafM 0 [SV.bool (BE.var 12)] [11]
                  [(11, [SV.bool (BE.var 12)]), (10, [SV.int IntKind.i64 (IE.var 7)]), (9, [SV.int IntKind.i64 (IE.var 5)]),
                    (8, [SV.int IntKind.i64 (IE.var 0), SV.int IntKind.i64 (IE.var 1), SV.bool (BE.var 2), SV.int IntKind.i64 (IE.var 3), SV.bool (BE.var 4)])]))
              (VC.leaf 4 [] []
                [(11, [SV.bool (BE.lit false)]), (10, [SV.int IntKind.i64 (IE.var 7)]), (9, [SV.int IntKind.i64 (IE.var 5)]),
                  (8, [SV.int IntKind.i64 (IE.var 0), SV.int IntKind.i64 (IE.var 1), SV.bool (BE.var 2), SV.int IntKind.i64 (IE.var 3), SV.bool (BE.var 4)])]))
            (VC.leaf 4 [] []
              [(11, [SV.bool (BE.lit false)]), (10, [SV.int IntKind.i64 (IE.var 7)]), (9, [SV.int IntKind.i64 (IE.var 5)]),
                (8, [SV.int IntKind.i64 (IE.var 0), SV.int IntKind.i64 (IE.var 1), SV.bool (BE.var 2), SV.int IntKind.i64 (IE.var 3), SV.bool (BE.var 4)])]))
          (VC.call 26
            [SV.agg [SV.int IntKind.i64 (IE.var 0), SV.int IntKind.i64 (IE.var 1), SV.bool (BE.var 2), SV.int IntKind.i64 (IE.var 3), SV.bool (BE.var 4)], SV.int IntKind.i64 (IE.var 5),
              SV.int IntKind.i64 (IE.var 6)]
            [Base.func] (SV.var 12) [] false [] [] [11, 10, 9, 8]
            [(11, [SV.bool (BE.lit false)]), (10, [SV.int IntKind.i64 (IE.var 7)]), (9, [SV.int IntKind.i64 (IE.var 5)]),
              (8, [SV.int IntKind.i64 (IE.var 0), SV.int IntKind.i64 (IE.var 1), SV.bool (BE.var 2), SV.int IntKind.i64 (IE.var 3), SV.bool (BE.var 4)])]
            (VC.split (BE.nil 12)
              (VC.leafM 0 [SV.bool (BE.lit false)] [11]
                [(11, [SV.bool (BE.lit false)]), (10, [SV.int IntKind.i64 (IE.var 7)]), (9, [SV.int IntKind.i64 (IE.var 5)]),
                  (8, [SV.int IntKind.i64 (IE.var 0), SV.int IntKind.i64 (IE.var 1), SV.bool (BE.var 2), SV.int IntKind.i64 (IE.var 3), SV.bool (BE.var 4)])])
              (VC.blk
                (VC.cut 3 [Base.int IntKind.i64] [13, 11, 10, 9, 8]
                  [(13, [SV.int IntKind.i64 (IE.var 14)]), (11, [SV.bool (BE.lit false)]), (10, [SV.int IntKind.i64 (IE.var 7)]), (9, [SV.int IntKind.i64 (IE.var 5)]),
                    (8, [SV.int IntKind.i64 (IE.var 0), SV.int IntKind.i64 (IE.var 1), SV.bool (BE.var 2), SV.int IntKind.i64 (IE.var 3), SV.bool (BE.var 4)])]
                  (VC.call 11
                    [SV.agg [SV.int IntKind.i64 (IE.var 0), SV.int IntKind.i64 (IE.var 1), SV.bool (BE.var 2), SV.int IntKind.i64 (IE.var 3), SV.bool (BE.var 4)], SV.int IntKind.i64 (IE.var 5)]
                    [Base.int IntKind.i64, Base.int IntKind.i64, Base.int IntKind.i64] (SV.tuple [SV.int IntKind.i64 (IE.var 14), SV.int IntKind.i64 (IE.var 15), SV.int IntKind.i64 (IE.var 16)]) []
                    false [13] [] [13, 11, 10, 9, 8]
                    [(13, [SV.int IntKind.i64 (IE.var 6)]), (11, [SV.bool (BE.lit false)]), (10, [SV.int IntKind.i64 (IE.var 7)]), (9, [SV.int IntKind.i64 (IE.var 5)]),
                      (8, [SV.int IntKind.i64 (IE.var 0), SV.int IntKind.i64 (IE.var 1), SV.bool (BE.var 2), SV.int IntKind.i64 (IE.var 3), SV.bool (BE.var 4)])]
                    (VC.split (BE.not (BE.eq (IE.var 16) (IE.lit 0)))
                      (VC.split (BE.lt (IE.lit 1152921504606846976) (IE.var 5))
                        (VC.call 19 [] [Base.bool] (SV.bool (BE.var 17)) [] false [13] [] [13, 11, 10, 9, 8]
                          [(13, [SV.int IntKind.i64 (IE.lit 0)]), (11, [SV.bool (BE.lit false)]), (10, [SV.int IntKind.i64 (IE.var 7)]), (9, [SV.int IntKind.i64 (IE.var 5)]),
                            (8, [SV.int IntKind.i64 (IE.var 0), SV.int IntKind.i64 (IE.var 1), SV.bool (BE.var 2), SV.int IntKind.i64 (IE.var 3), SV.bool (BE.var 4)])]
                          (VC.leafM 0 [SV.bool (BE.var 17)] [11]
                            [(13, [SV.int IntKind.i64 (IE.lit 0)]), (11, [SV.bool (BE.var 17)]), (10, [SV.int IntKind.i64 (IE.var 7)]), (9, [SV.int IntKind.i64 (IE.var 5)]),
                              (8, [SV.int IntKind.i64 (IE.var 0), SV.int IntKind.i64 (IE.var 1), SV.bool (BE.var 2), SV.int IntKind.i64 (IE.var 3), SV.bool (BE.var 4)])]))
                        (VC.leaf 3 [SV.int IntKind.i64 (IE.lit 0)] [13]
                          [(13, [SV.int IntKind.i64 (IE.lit 0)]), (11, [SV.bool (BE.lit false)]), (10, [SV.int IntKind.i64 (IE.var 7)]), (9, [SV.int IntKind.i64 (IE.var 5)]),
                            (8, [SV.int IntKind.i64 (IE.var 0), SV.int IntKind.i64 (IE.var 1), SV.bool (BE.var 2), SV.int IntKind.i64 (IE.var 3), SV.bool (BE.var 4)])]))
                      (VC.split (BE.lt (IE.var 6) (IE.lit 1))
                        (VC.split (BE.lt (IE.lit 1152921504606846976) (IE.var 5))
                          (VC.call 19 [] [Base.bool] (SV.bool (BE.var 17)) [] false [13] [] [13, 11, 10, 9, 8]
                            [(13, [SV.int IntKind.i64 (IE.lit 0)]), (11, [SV.bool (BE.lit false)]), (10, [SV.int IntKind.i64 (IE.var 7)]), (9, [SV.int IntKind.i64 (IE.var 5)]),
                              (8, [SV.int IntKind.i64 (IE.var 0), SV.int IntKind.i64 (IE.var 1), SV.bool (BE.var 2), SV.int IntKind.i64 (IE.var 3), SV.bool (BE.var 4)])]
                            (VC.leafM 0 [SV.bool (BE.var 17)] [11]
                              [(13, [SV.int IntKind.i64 (IE.lit 0)]), (11, [SV.bool (BE.var 17)]), (10, [SV.int IntKind.i64 (IE.var 7)]), (9, [SV.int IntKind.i64 (IE.var 5)]),
                                (8, [SV.int IntKind.i64 (IE.var 0), SV.int IntKind.i64 (IE.var 1), SV.bool (BE.var 2), SV.int IntKind.i64 (IE.var 3), SV.bool (BE.var 4)])]))
                          (VC.leaf 3 [SV.int IntKind.i64 (IE.lit 0)] [13]
                            [(13, [SV.int IntKind.i64 (IE.lit 0)]), (11, [SV.bool (BE.lit false)]), (10, [SV.int IntKind.i64 (IE.var 7)]), (9, [SV.int IntKind.i64 (IE.var 5)]),
                              (8, [SV.int IntKind.i64 (IE.var 0), SV.int IntKind.i64 (IE.var 1), SV.bool (BE.var 2), SV.int IntKind.i64 (IE.var 3), SV.bool (BE.var 4)])]))
                        (VC.split (BE.lt (IE.lit 65536) (IE.var 6))
                          (VC.split (BE.lt (IE.lit 1152921504606846976) (IE.var 5))
                            (VC.call 19 [] [Base.bool] (SV.bool (BE.var 17)) [] false [13] [] [13, 11, 10, 9, 8]
                              [(13, [SV.int IntKind.i64 (IE.lit 0)]), (11, [SV.bool (BE.lit false)]), (10, [SV.int IntKind.i64 (IE.var 7)]), (9, [SV.int IntKind.i64 (IE.var 5)]),
                                (8, [SV.int IntKind.i64 (IE.var 0), SV.int IntKind.i64 (IE.var 1), SV.bool (BE.var 2), SV.int IntKind.i64 (IE.var 3), SV.bool (BE.var 4)])]
                              (VC.leafM 0 [SV.bool (BE.var 17)] [11]
                                [(13, [SV.int IntKind.i64 (IE.lit 0)]), (11, [SV.bool (BE.var 17)]), (10, [SV.int IntKind.i64 (IE.var 7)]), (9, [SV.int IntKind.i64 (IE.var 5)]),
                                  (8, [SV.int IntKind.i64 (IE.var 0), SV.int IntKind.i64 (IE.var 1), SV.bool (BE.var 2), SV.int IntKind.i64 (IE.var 3), SV.bool (BE.var 4)])]))
                            (VC.leaf 3 [SV.int IntKind.i64 (IE.lit 0)] [13]
                              [(13, [SV.int IntKind.i64 (IE.lit 0)]), (11, [SV.bool (BE.lit false)]), (10, [SV.int IntKind.i64 (IE.var 7)]), (9, [SV.int IntKind.i64 (IE.var 5)]),
                                (8, [SV.int IntKind.i64 (IE.var 0), SV.int IntKind.i64 (IE.var 1), SV.bool (BE.var 2), SV.int IntKind.i64 (IE.var 3), SV.bool (BE.var 4)])]))
                          (VC.split (BE.lt (IE.lit 1152921504606846976) (IE.var 5))
                            (VC.call 19 [] [Base.bool] (SV.bool (BE.var 17)) [] false [13] [] [13, 11, 10, 9, 8]
                              [(13, [SV.int IntKind.i64 (IE.lit 0)]), (11, [SV.bool (BE.lit false)]), (10, [SV.int IntKind.i64 (IE.var 7)]), (9, [SV.int IntKind.i64 (IE.var 5)]),
                                (8, [SV.int IntKind.i64 (IE.var 0), SV.int IntKind.i64 (IE.var 1), SV.bool (BE.var 2), SV.int IntKind.i64 (IE.var 3), SV.bool (BE.var 4)])]
                              (VC.leafM 0 [SV.bool (BE.var 17)] [11]
                                [(13, [SV.int IntKind.i64 (IE.lit 0)]), (11, [SV.bool (BE.var 17)]), (10, [SV.int IntKind.i64 (IE.var 7)]), (9, [SV.int IntKind.i64 (IE.var 5)]),
                                  (8, [SV.int IntKind.i64 (IE.var 0), SV.int IntKind.i64 (IE.var 1), SV.bool (BE.var 2), SV.int IntKind.i64 (IE.var 3), SV.bool (BE.var 4)])]))
                            (VC.leaf 3 [SV.int IntKind.i64 (IE.var 6)] []
                              [(13, [SV.int IntKind.i64 (IE.var 6)]), (11, [SV.bool (BE.lit false)]), (10, [SV.int IntKind.i64 (IE.var 7)]), (9, [SV.int IntKind.i64 (IE.var 5)]),
                                (8, [SV.int IntKind.i64 (IE.var 0), SV.int IntKind.i64 (IE.var 1), SV.bool (BE.var 2), SV.int IntKind.i64 (IE.var 3), SV.bool (BE.var 4)])]))))))
                  (VC.blk
                    (VC.loop 1 [SV.ptr 15 0] [Base.ptr] [15] [13, 11, 10, 9, 8]
                      [(15, [SV.int IntKind.i64 (IE.lit 0)]), (13, [SV.int IntKind.i64 (IE.var 14)]), (11, [SV.bool (BE.lit false)]), (10, [SV.int IntKind.i64 (IE.var 7)]),
                        (9, [SV.int IntKind.i64 (IE.var 5)]),
                        (8, [SV.int IntKind.i64 (IE.var 0), SV.int IntKind.i64 (IE.var 1), SV.bool (BE.var 2), SV.int IntKind.i64 (IE.var 3), SV.bool (BE.var 4)])]
                      [(13, [SV.int IntKind.i64 (IE.var 14)]), (11, [SV.bool (BE.lit false)]), (10, [SV.int IntKind.i64 (IE.var 7)]), (9, [SV.int IntKind.i64 (IE.var 5)]),
                        (8, [SV.int IntKind.i64 (IE.var 0), SV.int IntKind.i64 (IE.var 1), SV.bool (BE.var 2), SV.int IntKind.i64 (IE.var 3), SV.bool (BE.var 4)])]
                      (VC.start false [] []
                        [(13, [SV.int IntKind.i64 (IE.var 14)]), (11, [SV.bool (BE.lit false)]), (10, [SV.int IntKind.i64 (IE.var 7)]), (9, [SV.int IntKind.i64 (IE.var 5)]),
                          (8, [SV.int IntKind.i64 (IE.var 0), SV.int IntKind.i64 (IE.var 1), SV.bool (BE.var 2), SV.int IntKind.i64 (IE.var 3), SV.bool (BE.var 4)])]
                        (VC.load (SV.ptr 16 0) [Base.int IntKind.i64]
                          (VC.split (BE.lt (IE.var 17) (IE.lit 2))
                            (VC.cut 6 [] [13, 11, 10, 9, 8]
                              [(13, [SV.int IntKind.i64 (IE.var 14)]), (11, [SV.bool (BE.lit false)]), (10, [SV.int IntKind.i64 (IE.var 7)]), (9, [SV.int IntKind.i64 (IE.var 5)]),
                                (8, [SV.int IntKind.i64 (IE.var 0), SV.int IntKind.i64 (IE.var 1), SV.bool (BE.var 2), SV.int IntKind.i64 (IE.var 3), SV.bool (BE.var 4)])]
                              (VC.blk
                                (VC.cut 5 [Base.int IntKind.i64] [18, 13, 11, 10, 9, 8]
                                  [(18, [SV.int IntKind.i64 (IE.var 19)]), (13, [SV.int IntKind.i64 (IE.var 14)]), (11, [SV.bool (BE.lit false)]), (10, [SV.int IntKind.i64 (IE.var 7)]),
                                    (9, [SV.int IntKind.i64 (IE.var 5)]),
                                    (8, [SV.int IntKind.i64 (IE.var 0), SV.int IntKind.i64 (IE.var 1), SV.bool (BE.var 2), SV.int IntKind.i64 (IE.var 3), SV.bool (BE.var 4)])]
                                  (VC.range 2 (SV.var 12) [Base.int IntKind.i64, Base.int IntKind.i64] [3, 3] [SV.int IntKind.i64 (IE.lit 0)] [Base.int IntKind.i64] [18] [18, 13, 11, 10, 9, 8]
                                    [(18, [SV.int IntKind.i64 (IE.lit 0)]), (13, [SV.int IntKind.i64 (IE.var 14)]), (11, [SV.bool (BE.lit false)]), (10, [SV.int IntKind.i64 (IE.var 7)]),
                                      (9, [SV.int IntKind.i64 (IE.var 5)]),
                                      (8, [SV.int IntKind.i64 (IE.var 0), SV.int IntKind.i64 (IE.var 1), SV.bool (BE.var 2), SV.int IntKind.i64 (IE.var 3), SV.bool (BE.var 4)])]
                                    [(18, [SV.int IntKind.i64 (IE.var 19)]), (13, [SV.int IntKind.i64 (IE.var 14)]), (11, [SV.bool (BE.lit false)]), (10, [SV.int IntKind.i64 (IE.var 7)]),
                                      (9, [SV.int IntKind.i64 (IE.var 5)]),
                                      (8, [SV.int IntKind.i64 (IE.var 0), SV.int IntKind.i64 (IE.var 1), SV.bool (BE.var 2), SV.int IntKind.i64 (IE.var 3), SV.bool (BE.var 4)])]
                                    (VC.ob (BE.le (IE.lit (-9223372036854775808)) (IE.add (IE.var 5) (IE.var 19)))
                                      (VC.ob (BE.le (IE.add (IE.var 5) (IE.var 19)) (IE.lit 9223372036854775807))
                                        (VC.call 11
                                          [SV.agg [SV.int IntKind.i64 (IE.var 0), SV.int IntKind.i64 (IE.var 1), SV.bool (BE.var 2), SV.int IntKind.i64 (IE.var 3), SV.bool (BE.var 4)],
                                            SV.int IntKind.i64 (IE.add (IE.var 5) (IE.var 19))]
                                          [Base.int IntKind.i64, Base.int IntKind.i64, Base.int IntKind.i64]
                                          (SV.tuple [SV.int IntKind.i64 (IE.var 22), SV.int IntKind.i64 (IE.var 23), SV.int IntKind.i64 (IE.var 24)]) [] false [] [] [18, 13, 11, 10, 9, 8]
                                          [(18, [SV.int IntKind.i64 (IE.var 19)]), (13, [SV.int IntKind.i64 (IE.var 14)]), (11, [SV.bool (BE.lit false)]), (10, [SV.int IntKind.i64 (IE.var 7)]),
                                            (9, [SV.int IntKind.i64 (IE.var 5)]),
                                            (8, [SV.int IntKind.i64 (IE.var 0), SV.int IntKind.i64 (IE.var 1), SV.bool (BE.var 2), SV.int IntKind.i64 (IE.var 3), SV.bool (BE.var 4)])]
                                          (VC.split (BE.le (IE.var 14) (IE.var 19))
                                            (VC.resume [11] [18, 13, 11, 10, 9, 8]
                                              [(18, [SV.int IntKind.i64 (IE.var 19)]), (13, [SV.int IntKind.i64 (IE.var 14)]), (11, [SV.bool (BE.lit false)]), (10, [SV.int IntKind.i64 (IE.var 7)]),
                                                (9, [SV.int IntKind.i64 (IE.var 5)]),
                                                (8, [SV.int IntKind.i64 (IE.var 0), SV.int IntKind.i64 (IE.var 1), SV.bool (BE.var 2), SV.int IntKind.i64 (IE.var 3), SV.bool (BE.var 4)])]
                                              (VC.leafM 0 [SV.bool (BE.lit false)] []
                                                [(18, [SV.int IntKind.i64 (IE.var 19)]), (13, [SV.int IntKind.i64 (IE.var 14)]), (11, [SV.bool (BE.lit false)]), (10, [SV.int IntKind.i64 (IE.var 7)]),
                                                  (9, [SV.int IntKind.i64 (IE.var 5)]),
                                                  (8, [SV.int IntKind.i64 (IE.var 0), SV.int IntKind.i64 (IE.var 1), SV.bool (BE.var 2), SV.int IntKind.i64 (IE.var 3), SV.bool (BE.var 4)])]))
                                            (VC.split (BE.not (BE.eq (IE.var 20) (IE.var 22)))
                                              (VC.resume [11] [18, 13, 11, 10, 9, 8]
                                                [(18, [SV.int IntKind.i64 (IE.var 19)]), (13, [SV.int IntKind.i64 (IE.var 14)]), (11, [SV.bool (BE.lit false)]), (10, [SV.int IntKind.i64 (IE.var 7)]),
                                                  (9, [SV.int IntKind.i64 (IE.var 5)]),
                                                  (8, [SV.int IntKind.i64 (IE.var 0), SV.int IntKind.i64 (IE.var 1), SV.bool (BE.var 2), SV.int IntKind.i64 (IE.var 3), SV.bool (BE.var 4)])]
                                                (VC.leafM 0 [SV.bool (BE.lit false)] []
                                                  [(18, [SV.int IntKind.i64 (IE.var 19)]), (13, [SV.int IntKind.i64 (IE.var 14)]), (11, [SV.bool (BE.lit false)]),
                                                    (10, [SV.int IntKind.i64 (IE.var 7)]), (9, [SV.int IntKind.i64 (IE.var 5)]),
                                                    (8, [SV.int IntKind.i64 (IE.var 0), SV.int IntKind.i64 (IE.var 1), SV.bool (BE.var 2), SV.int IntKind.i64 (IE.var 3), SV.bool (BE.var 4)])]))
                                              (VC.split (BE.not (BE.eq (IE.var 21) (IE.var 23)))
                                                (VC.resume [11] [18, 13, 11, 10, 9, 8]
                                                  [(18, [SV.int IntKind.i64 (IE.var 19)]), (13, [SV.int IntKind.i64 (IE.var 14)]), (11, [SV.bool (BE.lit false)]),
                                                    (10, [SV.int IntKind.i64 (IE.var 7)]), (9, [SV.int IntKind.i64 (IE.var 5)]),
                                                    (8, [SV.int IntKind.i64 (IE.var 0), SV.int IntKind.i64 (IE.var 1), SV.bool (BE.var 2), SV.int IntKind.i64 (IE.var 3), SV.bool (BE.var 4)])]
                                                  (VC.leafM 0 [SV.bool (BE.lit false)] []
                                                    [(18, [SV.int IntKind.i64 (IE.var 19)]), (13, [SV.int IntKind.i64 (IE.var 14)]), (11, [SV.bool (BE.lit false)]),
                                                      (10, [SV.int IntKind.i64 (IE.var 7)]), (9, [SV.int IntKind.i64 (IE.var 5)]),
                                                      (8, [SV.int IntKind.i64 (IE.var 0), SV.int IntKind.i64 (IE.var 1), SV.bool (BE.var 2), SV.int IntKind.i64 (IE.var 3), SV.bool (BE.var 4)])]))
                                                (VC.ob (BE.le (IE.lit (-9223372036854775808)) (IE.add (IE.var 19) (IE.lit 1)))
                                                  (VC.ob (BE.le (IE.add (IE.var 19) (IE.lit 1)) (IE.lit 9223372036854775807))
                                                    (VC.start false [18] []
                                                      [(18, [SV.int IntKind.i64 (IE.add (IE.var 19) (IE.lit 1))]), (13, [SV.int IntKind.i64 (IE.var 14)]), (11, [SV.bool (BE.lit false)]),
                                                        (10, [SV.int IntKind.i64 (IE.var 7)]), (9, [SV.int IntKind.i64 (IE.var 5)]),
                                                        (8, [SV.int IntKind.i64 (IE.var 0), SV.int IntKind.i64 (IE.var 1), SV.bool (BE.var 2), SV.int IntKind.i64 (IE.var 3), SV.bool (BE.var 4)])]
                                                      (VC.load (SV.ptr 16 0) [Base.int IntKind.i64]
                                                        (VC.split (BE.eq (IE.var 25) (IE.lit 0))
                                                          (VC.split (BE.le (IE.var 7) (IE.add (IE.var 19) (IE.lit 1)))
                                                            (VC.resume [] [18, 13, 11, 10, 9, 8]
                                                              [(18, [SV.int IntKind.i64 (IE.add (IE.var 19) (IE.lit 1))]), (13, [SV.int IntKind.i64 (IE.var 14)]), (11, [SV.bool (BE.lit false)]),
                                                                (10, [SV.int IntKind.i64 (IE.var 7)]), (9, [SV.int IntKind.i64 (IE.var 5)]),
                                                                (8,
                                                                  [SV.int IntKind.i64 (IE.var 0), SV.int IntKind.i64 (IE.var 1), SV.bool (BE.var 2), SV.int IntKind.i64 (IE.var 3),
                                                                    SV.bool (BE.var 4)])]
                                                              (VC.leaf 5 [SV.int IntKind.i64 (IE.add (IE.var 19) (IE.lit 1))] []
                                                                [(18, [SV.int IntKind.i64 (IE.add (IE.var 19) (IE.lit 1))]), (13, [SV.int IntKind.i64 (IE.var 14)]), (11, [SV.bool (BE.lit false)]),
                                                                  (10, [SV.int IntKind.i64 (IE.var 7)]), (9, [SV.int IntKind.i64 (IE.var 5)]),
                                                                  (8,
                                                                    [SV.int IntKind.i64 (IE.var 0), SV.int IntKind.i64 (IE.var 1), SV.bool (BE.var 2), SV.int IntKind.i64 (IE.var 3),
                                                                      SV.bool (BE.var 4)])]))
                                                            (VC.leaf 2 [SV.int IntKind.i64 (IE.add (IE.var 19) (IE.lit 1))] []
                                                              [(18, [SV.int IntKind.i64 (IE.add (IE.var 19) (IE.lit 1))]), (13, [SV.int IntKind.i64 (IE.var 14)]), (11, [SV.bool (BE.lit false)]),
                                                                (10, [SV.int IntKind.i64 (IE.var 7)]), (9, [SV.int IntKind.i64 (IE.var 5)]),
                                                                (8,
                                                                  [SV.int IntKind.i64 (IE.var 0), SV.int IntKind.i64 (IE.var 1), SV.bool (BE.var 2), SV.int IntKind.i64 (IE.var 3),
                                                                    SV.bool (BE.var 4)])]))
                                                          (VC.leaf 2 [SV.int IntKind.i64 (IE.add (IE.var 19) (IE.lit 1))] []
                                                            [(18, [SV.int IntKind.i64 (IE.add (IE.var 19) (IE.lit 1))]), (13, [SV.int IntKind.i64 (IE.var 14)]), (11, [SV.bool (BE.lit false)]),
                                                              (10, [SV.int IntKind.i64 (IE.var 7)]), (9, [SV.int IntKind.i64 (IE.var 5)]),
                                                              (8,
                                                                [SV.int IntKind.i64 (IE.var 0), SV.int IntKind.i64 (IE.var 1), SV.bool (BE.var 2), SV.int IntKind.i64 (IE.var 3),
                                                                  SV.bool (BE.var 4)])]))))))))))))
                                    (VC.leaf 5 [SV.int IntKind.i64 (IE.var 19)] []
                                      [(18, [SV.int IntKind.i64 (IE.var 19)]), (13, [SV.int IntKind.i64 (IE.var 14)]), (11, [SV.bool (BE.lit false)]), (10, [SV.int IntKind.i64 (IE.var 7)]),
                                        (9, [SV.int IntKind.i64 (IE.var 5)]),
                                        (8, [SV.int IntKind.i64 (IE.var 0), SV.int IntKind.i64 (IE.var 1), SV.bool (BE.var 2), SV.int IntKind.i64 (IE.var 3), SV.bool (BE.var 4)])]))
                                  (VC.start false [] []
                                    [(18, [SV.int IntKind.i64 (IE.var 19)]), (13, [SV.int IntKind.i64 (IE.var 14)]), (11, [SV.bool (BE.lit false)]), (10, [SV.int IntKind.i64 (IE.var 7)]),
                                      (9, [SV.int IntKind.i64 (IE.var 5)]),
                                      (8, [SV.int IntKind.i64 (IE.var 0), SV.int IntKind.i64 (IE.var 1), SV.bool (BE.var 2), SV.int IntKind.i64 (IE.var 3), SV.bool (BE.var 4)])]
                                    (VC.load (SV.ptr 16 0) [Base.int IntKind.i64]
                                      (VC.split (BE.eq (IE.var 20) (IE.lit 0))
                                        (VC.split (BE.not (BE.eq (IE.var 19) (IE.min (IE.var 14) (IE.max (IE.lit 1) (IE.var 7)))))
                                          (VC.leafM 0 [SV.bool (BE.lit false)] [11]
                                            [(18, [SV.int IntKind.i64 (IE.var 19)]), (13, [SV.int IntKind.i64 (IE.var 14)]), (11, [SV.bool (BE.lit false)]), (10, [SV.int IntKind.i64 (IE.var 7)]),
                                              (9, [SV.int IntKind.i64 (IE.var 5)]),
                                              (8, [SV.int IntKind.i64 (IE.var 0), SV.int IntKind.i64 (IE.var 1), SV.bool (BE.var 2), SV.int IntKind.i64 (IE.var 3), SV.bool (BE.var 4)])])
                                          (VC.start false [] []
                                            [(18, [SV.int IntKind.i64 (IE.var 19)]), (13, [SV.int IntKind.i64 (IE.var 14)]), (11, [SV.bool (BE.lit false)]), (10, [SV.int IntKind.i64 (IE.var 7)]),
                                              (9, [SV.int IntKind.i64 (IE.var 5)]),
                                              (8, [SV.int IntKind.i64 (IE.var 0), SV.int IntKind.i64 (IE.var 1), SV.bool (BE.var 2), SV.int IntKind.i64 (IE.var 3), SV.bool (BE.var 4)])]
                                            (VC.load (SV.ptr 16 0) [Base.int IntKind.i64]
                                              (VC.split (BE.eq (IE.var 21) (IE.lit 1))
                                                (VC.split (BE.not (BE.eq (IE.var 19) (IE.var 14)))
                                                  (VC.leafM 0 [SV.bool (BE.lit false)] [11]
                                                    [(18, [SV.int IntKind.i64 (IE.var 19)]), (13, [SV.int IntKind.i64 (IE.var 14)]), (11, [SV.bool (BE.lit false)]),
                                                      (10, [SV.int IntKind.i64 (IE.var 7)]), (9, [SV.int IntKind.i64 (IE.var 5)]),
                                                      (8, [SV.int IntKind.i64 (IE.var 0), SV.int IntKind.i64 (IE.var 1), SV.bool (BE.var 2), SV.int IntKind.i64 (IE.var 3), SV.bool (BE.var 4)])])
                                                  (VC.leaf 6 [] []
                                                    [(18, [SV.int IntKind.i64 (IE.var 19)]), (13, [SV.int IntKind.i64 (IE.var 14)]), (11, [SV.bool (BE.lit false)]),
                                                      (10, [SV.int IntKind.i64 (IE.var 7)]), (9, [SV.int IntKind.i64 (IE.var 5)]),
                                                      (8, [SV.int IntKind.i64 (IE.var 0), SV.int IntKind.i64 (IE.var 1), SV.bool (BE.var 2), SV.int IntKind.i64 (IE.var 3), SV.bool (BE.var 4)])]))
                                                (VC.leaf 6 [] []
                                                  [(18, [SV.int IntKind.i64 (IE.var 19)]), (13, [SV.int IntKind.i64 (IE.var 14)]), (11, [SV.bool (BE.lit false)]),
                                                    (10, [SV.int IntKind.i64 (IE.var 7)]), (9, [SV.int IntKind.i64 (IE.var 5)]),
                                                    (8, [SV.int IntKind.i64 (IE.var 0), SV.int IntKind.i64 (IE.var 1), SV.bool (BE.var 2), SV.int IntKind.i64 (IE.var 3), SV.bool (BE.var 4)])])))))
                                        (VC.start false [] []
                                          [(18, [SV.int IntKind.i64 (IE.var 19)]), (13, [SV.int IntKind.i64 (IE.var 14)]), (11, [SV.bool (BE.lit false)]), (10, [SV.int IntKind.i64 (IE.var 7)]),
                                            (9, [SV.int IntKind.i64 (IE.var 5)]),
                                            (8, [SV.int IntKind.i64 (IE.var 0), SV.int IntKind.i64 (IE.var 1), SV.bool (BE.var 2), SV.int IntKind.i64 (IE.var 3), SV.bool (BE.var 4)])]
                                          (VC.load (SV.ptr 16 0) [Base.int IntKind.i64]
                                            (VC.split (BE.eq (IE.var 21) (IE.lit 1))
                                              (VC.split (BE.not (BE.eq (IE.var 19) (IE.var 14)))
                                                (VC.leafM 0 [SV.bool (BE.lit false)] [11]
                                                  [(18, [SV.int IntKind.i64 (IE.var 19)]), (13, [SV.int IntKind.i64 (IE.var 14)]), (11, [SV.bool (BE.lit false)]),
                                                    (10, [SV.int IntKind.i64 (IE.var 7)]), (9, [SV.int IntKind.i64 (IE.var 5)]),
                                                    (8, [SV.int IntKind.i64 (IE.var 0), SV.int IntKind.i64 (IE.var 1), SV.bool (BE.var 2), SV.int IntKind.i64 (IE.var 3), SV.bool (BE.var 4)])])
                                                (VC.leaf 6 [] []
                                                  [(18, [SV.int IntKind.i64 (IE.var 19)]), (13, [SV.int IntKind.i64 (IE.var 14)]), (11, [SV.bool (BE.lit false)]),
                                                    (10, [SV.int IntKind.i64 (IE.var 7)]), (9, [SV.int IntKind.i64 (IE.var 5)]),
                                                    (8, [SV.int IntKind.i64 (IE.var 0), SV.int IntKind.i64 (IE.var 1), SV.bool (BE.var 2), SV.int IntKind.i64 (IE.var 3), SV.bool (BE.var 4)])]))
                                              (VC.leaf 6 [] []
                                                [(18, [SV.int IntKind.i64 (IE.var 19)]), (13, [SV.int IntKind.i64 (IE.var 14)]), (11, [SV.bool (BE.lit false)]), (10, [SV.int IntKind.i64 (IE.var 7)]),
                                                  (9, [SV.int IntKind.i64 (IE.var 5)]),
                                                  (8, [SV.int IntKind.i64 (IE.var 0), SV.int IntKind.i64 (IE.var 1), SV.bool (BE.var 2), SV.int IntKind.i64 (IE.var 3), SV.bool (BE.var 4)])])))))))))
                              (VC.start false [] []
                                [(13, [SV.int IntKind.i64 (IE.var 14)]), (11, [SV.bool (BE.lit false)]), (10, [SV.int IntKind.i64 (IE.var 7)]), (9, [SV.int IntKind.i64 (IE.var 5)]),
                                  (8, [SV.int IntKind.i64 (IE.var 0), SV.int IntKind.i64 (IE.var 1), SV.bool (BE.var 2), SV.int IntKind.i64 (IE.var 3), SV.bool (BE.var 4)])]
                                (VC.load (SV.ptr 16 0) [Base.int IntKind.i64]
                                  (VC.blk
                                    (VC.ob (BE.le (IE.lit (-9223372036854775808)) (IE.add (IE.var 18) (IE.lit 1)))
                                      (VC.ob (BE.le (IE.add (IE.var 18) (IE.lit 1)) (IE.lit 9223372036854775807))
                                        (VC.leaf 1 [SV.ptr 19 0] [19]
                                          [(19, [SV.int IntKind.i64 (IE.add (IE.var 18) (IE.lit 1))]), (13, [SV.int IntKind.i64 (IE.var 14)]), (11, [SV.bool (BE.lit false)]),
                                            (10, [SV.int IntKind.i64 (IE.var 7)]), (9, [SV.int IntKind.i64 (IE.var 5)]),
                                            (8, [SV.int IntKind.i64 (IE.var 0), SV.int IntKind.i64 (IE.var 1), SV.bool (BE.var 2), SV.int IntKind.i64 (IE.var 3), SV.bool (BE.var 4)])])))))))
                            (VC.call 19 [] [Base.bool] (SV.bool (BE.var 18)) [] false [] [] [13, 11, 10, 9, 8]
                              [(13, [SV.int IntKind.i64 (IE.var 14)]), (11, [SV.bool (BE.lit false)]), (10, [SV.int IntKind.i64 (IE.var 7)]), (9, [SV.int IntKind.i64 (IE.var 5)]),
                                (8, [SV.int IntKind.i64 (IE.var 0), SV.int IntKind.i64 (IE.var 1), SV.bool (BE.var 2), SV.int IntKind.i64 (IE.var 3), SV.bool (BE.var 4)])]
                              (VC.leafM 0 [SV.bool (BE.var 18)] [11]
                                [(13, [SV.int IntKind.i64 (IE.var 14)]), (11, [SV.bool (BE.var 18)]), (10, [SV.int IntKind.i64 (IE.var 7)]), (9, [SV.int IntKind.i64 (IE.var 5)]),
                                  (8, [SV.int IntKind.i64 (IE.var 0), SV.int IntKind.i64 (IE.var 1), SV.bool (BE.var 2), SV.int IntKind.i64 (IE.var 3), SV.bool (BE.var 4)])]))))))))))))))) := by kernel_rfl

theorem t47 : exFn { P := Try.prog, loops := fun r => if Nat.beq r 3 then some ⟨1, [(22, .int .i64), (5, .int .i64), (6, .int .i64)], []⟩ else none } 47 [.var 0, .ptr 1 0, .ptr 2 0, .ptr 3 0] [.func, .ptr, .ptr, .ptr] [] =
  VC.start false [] [] []
  (VC.load (SV.ptr 1 0) [Base.int IntKind.i64, Base.int IntKind.i64, Base.bool, Base.int IntKind.i64, Base.bool]
    (VC.start false [] [] []
      (VC.load (SV.ptr 2 0) [Base.int IntKind.i64]
        (VC.call 10 [SV.agg [SV.int IntKind.i64 (IE.var 4), SV.int IntKind.i64 (IE.var 5), SV.bool (BE.var 6), SV.int IntKind.i64 (IE.var 7), SV.bool (BE.var 8)], SV.int IntKind.i64 (IE.var 9)]
          [Base.int IntKind.i64, Base.int IntKind.i64, Base.int IntKind.i64] (SV.tuple [SV.int IntKind.i64 (IE.var 10), SV.int IntKind.i64 (IE.var 11), SV.int IntKind.i64 (IE.var 12)]) [] false [] []
          [] []
          (VC.split (BE.not (BE.eq (IE.var 12) (IE.lit 0))) (VC.leaf 0 [SV.tuple []] [] [])
            (VC.start false [] [] []
              (VC.load (SV.ptr 3 0) [Base.int IntKind.i64]
                (VC.split (BE.lt (IE.lit 65536) (IE.var 13)) (VC.leaf 0 [SV.tuple []] [] [])
                  (VC.start false [] [] []
                    (VC.load (SV.ptr 3 0) [Base.int IntKind.i64]
                      (VC.loop 1 [SV.int IntKind.i64 (IE.lit 0), SV.int IntKind.i64 (IE.var 10), SV.int IntKind.i64 (IE.var 11)] [Base.int IntKind.i64, Base.int IntKind.i64, Base.int IntKind.i64] []
                        [] [] []
                        (VC.split (BE.lt (IE.var 15) (IE.var 14))
                          (VC.gen (Op.call { callee := Callee.value (Operand.tmp 24), args := #[Operand.tmp 25, Operand.tmp 26], argTypes := #[3, 3] }) 4
                            [(Operand.tmp 24, SV.var 0), (Operand.tmp 25, SV.int IntKind.i64 (IE.var 16)), (Operand.tmp 26, SV.int IntKind.i64 (IE.var 17))] [Base.bool] (SV.bool (BE.var 18)) [] false
                            [] [] [] []
                            (VC.split (BE.not (BE.var 18)) (VC.leaf 0 [SV.tuple []] [] [])
                              (VC.ob (BE.le (IE.lit (-9223372036854775808)) (IE.add (IE.var 17) (IE.lit 1)))
                                (VC.ob (BE.le (IE.add (IE.var 17) (IE.lit 1)) (IE.lit 9223372036854775807))
                                  (VC.start false [] [] []
                                    (VC.load (SV.ptr 1 0) [Base.int IntKind.i64, Base.int IntKind.i64, Base.bool, Base.int IntKind.i64, Base.bool]
                                      (VC.call 16 [SV.agg [SV.int IntKind.i64 (IE.var 19), SV.int IntKind.i64 (IE.var 20), SV.bool (BE.var 21), SV.int IntKind.i64 (IE.var 22), SV.bool (BE.var 23)]]
                                        [Base.int IntKind.i64] (SV.int IntKind.i64 (IE.var 24)) [] false [] [] [] []
                                        (VC.split (BE.eq (IE.add (IE.var 17) (IE.lit 1)) (IE.var 24))
                                          (VC.ob (BE.le (IE.lit (-9223372036854775808)) (IE.add (IE.var 16) (IE.lit 1)))
                                            (VC.ob (BE.le (IE.add (IE.var 16) (IE.lit 1)) (IE.lit 9223372036854775807))
                                              (VC.ob (BE.le (IE.lit (-9223372036854775808)) (IE.add (IE.var 15) (IE.lit 1)))
                                                (VC.ob (BE.le (IE.add (IE.var 15) (IE.lit 1)) (IE.lit 9223372036854775807))
                                                  (VC.leaf 1 [SV.int IntKind.i64 (IE.add (IE.var 15) (IE.lit 1)), SV.int IntKind.i64 (IE.add (IE.var 16) (IE.lit 1)), SV.int IntKind.i64 (IE.lit 0)] []
                                                    [])))))
                                          (VC.ob (BE.le (IE.lit (-9223372036854775808)) (IE.add (IE.var 15) (IE.lit 1)))
                                            (VC.ob (BE.le (IE.add (IE.var 15) (IE.lit 1)) (IE.lit 9223372036854775807))
                                              (VC.leaf 1 [SV.int IntKind.i64 (IE.add (IE.var 15) (IE.lit 1)), SV.int IntKind.i64 (IE.var 16), SV.int IntKind.i64 (IE.add (IE.var 17) (IE.lit 1))] []
                                                [])))))))))))
                          (VC.leaf 0 [SV.tuple []] [] []))))))))))))) := by kernel_rfl

theorem t9 : exFn { P := Try.prog, loops := fun r => if Nat.beq r 6 then some ⟨1, [(15, .int .i64), (13, .slice), (14, .int .i64)], []⟩ else if Nat.beq r 10 then some ⟨2, [(17, .int .i64), (14, .int .i64)], []⟩ else if Nat.beq r 15 then some ⟨3, [(18, .int .i64), (14, .int .i64)], []⟩ else if Nat.beq r 25 then some ⟨4, [(24, .int .i64)], []⟩ else none, joins := fun r => if Nat.beq r 3 then some ⟨5, [], []⟩ else if Nat.beq r 9 then some ⟨6, [(16, .ptr)], []⟩ else if Nat.beq r 30 then some ⟨7, [(25, .any)], []⟩ else none, dropJ := fun r => if Nat.beq r 9 then [16] else [] } 9 [.agg [.int .i64 (.var 0), .int .i64 (.var 1), .bool (.var 2), .int .i64 (.var 3), .bool (.var 4)], .bool (.var 5), .var 6, .int .i64 (.var 7), .int .i64 (.var 8), .int .i64 (.var 9)] [.int .i64, .int .i64, .bool, .int .i64, .bool, .bool, .slice, .int .i64, .int .i64, .int .i64] [] =
  VC.blk
  (VC.cut 5 [] [10] [(10, [SV.int IntKind.i64 (IE.var 0), SV.int IntKind.i64 (IE.var 1), SV.bool (BE.var 2), SV.int IntKind.i64 (IE.var 3), SV.bool (BE.var 4)])]
    (VC.call 15 [SV.agg [SV.int IntKind.i64 (IE.var 0), SV.int IntKind.i64 (IE.var 1), SV.bool (BE.var 2), SV.int IntKind.i64 (IE.var 3), SV.bool (BE.var 4)]] [Base.bool] (SV.bool (BE.var 11)) []
      false [] [] [10] [(10, [SV.int IntKind.i64 (IE.var 0), SV.int IntKind.i64 (IE.var 1), SV.bool (BE.var 2), SV.int IntKind.i64 (IE.var 3), SV.bool (BE.var 4)])]
      (VC.split (BE.not (BE.var 11))
        (VC.call 19 [] [Base.bool] (SV.bool (BE.var 12)) [] false [] [] [10]
          [(10, [SV.int IntKind.i64 (IE.var 0), SV.int IntKind.i64 (IE.var 1), SV.bool (BE.var 2), SV.int IntKind.i64 (IE.var 3), SV.bool (BE.var 4)])]
          (VC.leaf 0 [SV.bool (BE.var 12)] [] [(10, [SV.int IntKind.i64 (IE.var 0), SV.int IntKind.i64 (IE.var 1), SV.bool (BE.var 2), SV.int IntKind.i64 (IE.var 3), SV.bool (BE.var 4)])]))
        (VC.split (BE.var 5)
          (VC.split (BE.eq (IE.var 3) (IE.lit 0))
            (VC.call 19 [] [Base.bool] (SV.bool (BE.var 12)) [] false [] [] [10]
              [(10, [SV.int IntKind.i64 (IE.var 0), SV.int IntKind.i64 (IE.var 1), SV.bool (BE.var 2), SV.int IntKind.i64 (IE.var 3), SV.bool (BE.var 4)])]
              (VC.leaf 0 [SV.bool (BE.var 12)] [] [(10, [SV.int IntKind.i64 (IE.var 0), SV.int IntKind.i64 (IE.var 1), SV.bool (BE.var 2), SV.int IntKind.i64 (IE.var 3), SV.bool (BE.var 4)])]))
            (VC.split (BE.lt (IE.len 6) (IE.lit 1))
              (VC.call 19 [] [Base.bool] (SV.bool (BE.var 12)) [] false [] [] [10]
                [(10, [SV.int IntKind.i64 (IE.var 0), SV.int IntKind.i64 (IE.var 1), SV.bool (BE.var 2), SV.int IntKind.i64 (IE.var 3), SV.bool (BE.var 4)])]
                (VC.leaf 0 [SV.bool (BE.var 12)] [] [(10, [SV.int IntKind.i64 (IE.var 0), SV.int IntKind.i64 (IE.var 1), SV.bool (BE.var 2), SV.int IntKind.i64 (IE.var 3), SV.bool (BE.var 4)])]))
              (VC.split (BE.lt (IE.lit 500) (IE.len 6))
                (VC.call 19 [] [Base.bool] (SV.bool (BE.var 12)) [] false [] [] [10]
                  [(10, [SV.int IntKind.i64 (IE.var 0), SV.int IntKind.i64 (IE.var 1), SV.bool (BE.var 2), SV.int IntKind.i64 (IE.var 3), SV.bool (BE.var 4)])]
                  (VC.leaf 0 [SV.bool (BE.var 12)] [] [(10, [SV.int IntKind.i64 (IE.var 0), SV.int IntKind.i64 (IE.var 1), SV.bool (BE.var 2), SV.int IntKind.i64 (IE.var 3), SV.bool (BE.var 4)])]))
                (VC.split (BE.lt (IE.var 7) (IE.lit 0))
                  (VC.call 19 [] [Base.bool] (SV.bool (BE.var 12)) [] false [] [] [10]
                    [(10, [SV.int IntKind.i64 (IE.var 0), SV.int IntKind.i64 (IE.var 1), SV.bool (BE.var 2), SV.int IntKind.i64 (IE.var 3), SV.bool (BE.var 4)])]
                    (VC.leaf 0 [SV.bool (BE.var 12)] [] [(10, [SV.int IntKind.i64 (IE.var 0), SV.int IntKind.i64 (IE.var 1), SV.bool (BE.var 2), SV.int IntKind.i64 (IE.var 3), SV.bool (BE.var 4)])]))
                  (VC.split (BE.lt (IE.lit 20) (IE.var 7))
                    (VC.call 19 [] [Base.bool] (SV.bool (BE.var 12)) [] false [] [] [10]
                      [(10, [SV.int IntKind.i64 (IE.var 0), SV.int IntKind.i64 (IE.var 1), SV.bool (BE.var 2), SV.int IntKind.i64 (IE.var 3), SV.bool (BE.var 4)])]
                      (VC.leaf 0 [SV.bool (BE.var 12)] []
                        [(10, [SV.int IntKind.i64 (IE.var 0), SV.int IntKind.i64 (IE.var 1), SV.bool (BE.var 2), SV.int IntKind.i64 (IE.var 3), SV.bool (BE.var 4)])]))
                    (VC.split (BE.lt (IE.var 8) (IE.lit 0))
                      (VC.call 19 [] [Base.bool] (SV.bool (BE.var 12)) [] false [] [] [10]
                        [(10, [SV.int IntKind.i64 (IE.var 0), SV.int IntKind.i64 (IE.var 1), SV.bool (BE.var 2), SV.int IntKind.i64 (IE.var 3), SV.bool (BE.var 4)])]
                        (VC.leaf 0 [SV.bool (BE.var 12)] []
                          [(10, [SV.int IntKind.i64 (IE.var 0), SV.int IntKind.i64 (IE.var 1), SV.bool (BE.var 2), SV.int IntKind.i64 (IE.var 3), SV.bool (BE.var 4)])]))
                      (VC.split (BE.lt (IE.var 9) (IE.lit 0))
                        (VC.call 19 [] [Base.bool] (SV.bool (BE.var 12)) [] false [] [] [10]
                          [(10, [SV.int IntKind.i64 (IE.var 0), SV.int IntKind.i64 (IE.var 1), SV.bool (BE.var 2), SV.int IntKind.i64 (IE.var 3), SV.bool (BE.var 4)])]
                          (VC.leaf 0 [SV.bool (BE.var 12)] []
                            [(10, [SV.int IntKind.i64 (IE.var 0), SV.int IntKind.i64 (IE.var 1), SV.bool (BE.var 2), SV.int IntKind.i64 (IE.var 3), SV.bool (BE.var 4)])]))
                        (VC.leaf 5 [] [] [(10, [SV.int IntKind.i64 (IE.var 0), SV.int IntKind.i64 (IE.var 1), SV.bool (BE.var 2), SV.int IntKind.i64 (IE.var 3), SV.bool (BE.var 4)])]))))))))
          (VC.split (BE.lt (IE.len 6) (IE.lit 1))
            (VC.call 19 [] [Base.bool] (SV.bool (BE.var 12)) [] false [] [] [10]
              [(10, [SV.int IntKind.i64 (IE.var 0), SV.int IntKind.i64 (IE.var 1), SV.bool (BE.var 2), SV.int IntKind.i64 (IE.var 3), SV.bool (BE.var 4)])]
              (VC.leaf 0 [SV.bool (BE.var 12)] [] [(10, [SV.int IntKind.i64 (IE.var 0), SV.int IntKind.i64 (IE.var 1), SV.bool (BE.var 2), SV.int IntKind.i64 (IE.var 3), SV.bool (BE.var 4)])]))
            (VC.split (BE.lt (IE.lit 500) (IE.len 6))
              (VC.call 19 [] [Base.bool] (SV.bool (BE.var 12)) [] false [] [] [10]
                [(10, [SV.int IntKind.i64 (IE.var 0), SV.int IntKind.i64 (IE.var 1), SV.bool (BE.var 2), SV.int IntKind.i64 (IE.var 3), SV.bool (BE.var 4)])]
                (VC.leaf 0 [SV.bool (BE.var 12)] [] [(10, [SV.int IntKind.i64 (IE.var 0), SV.int IntKind.i64 (IE.var 1), SV.bool (BE.var 2), SV.int IntKind.i64 (IE.var 3), SV.bool (BE.var 4)])]))
              (VC.split (BE.lt (IE.var 7) (IE.lit 0))
                (VC.call 19 [] [Base.bool] (SV.bool (BE.var 12)) [] false [] [] [10]
                  [(10, [SV.int IntKind.i64 (IE.var 0), SV.int IntKind.i64 (IE.var 1), SV.bool (BE.var 2), SV.int IntKind.i64 (IE.var 3), SV.bool (BE.var 4)])]
                  (VC.leaf 0 [SV.bool (BE.var 12)] [] [(10, [SV.int IntKind.i64 (IE.var 0), SV.int IntKind.i64 (IE.var 1), SV.bool (BE.var 2), SV.int IntKind.i64 (IE.var 3), SV.bool (BE.var 4)])]))
                (VC.split (BE.lt (IE.lit 20) (IE.var 7))
                  (VC.call 19 [] [Base.bool] (SV.bool (BE.var 12)) [] false [] [] [10]
                    [(10, [SV.int IntKind.i64 (IE.var 0), SV.int IntKind.i64 (IE.var 1), SV.bool (BE.var 2), SV.int IntKind.i64 (IE.var 3), SV.bool (BE.var 4)])]
                    (VC.leaf 0 [SV.bool (BE.var 12)] [] [(10, [SV.int IntKind.i64 (IE.var 0), SV.int IntKind.i64 (IE.var 1), SV.bool (BE.var 2), SV.int IntKind.i64 (IE.var 3), SV.bool (BE.var 4)])]))
                  (VC.split (BE.lt (IE.var 8) (IE.lit 0))
                    (VC.call 19 [] [Base.bool] (SV.bool (BE.var 12)) [] false [] [] [10]
                      [(10, [SV.int IntKind.i64 (IE.var 0), SV.int IntKind.i64 (IE.var 1), SV.bool (BE.var 2), SV.int IntKind.i64 (IE.var 3), SV.bool (BE.var 4)])]
                      (VC.leaf 0 [SV.bool (BE.var 12)] []
                        [(10, [SV.int IntKind.i64 (IE.var 0), SV.int IntKind.i64 (IE.var 1), SV.bool (BE.var 2), SV.int IntKind.i64 (IE.var 3), SV.bool (BE.var 4)])]))
                    (VC.split (BE.lt (IE.var 9) (IE.lit 0))
                      (VC.call 19 [] [Base.bool] (SV.bool (BE.var 12)) [] false [] [] [10]
                        [(10, [SV.int IntKind.i64 (IE.var 0), SV.int IntKind.i64 (IE.var 1), SV.bool (BE.var 2), SV.int IntKind.i64 (IE.var 3), SV.bool (BE.var 4)])]
                        (VC.leaf 0 [SV.bool (BE.var 12)] []
                          [(10, [SV.int IntKind.i64 (IE.var 0), SV.int IntKind.i64 (IE.var 1), SV.bool (BE.var 2), SV.int IntKind.i64 (IE.var 3), SV.bool (BE.var 4)])]))
                      (VC.leaf 5 [] [] [(10, [SV.int IntKind.i64 (IE.var 0), SV.int IntKind.i64 (IE.var 1), SV.bool (BE.var 2), SV.int IntKind.i64 (IE.var 3), SV.bool (BE.var 4)])]))))))))))
    (VC.loop 1 [SV.int IntKind.i64 (IE.lit 0), SV.cst (Value.slice none 0 0), SV.int IntKind.i64 (IE.lit 0)] [Base.int IntKind.i64, Base.slice, Base.int IntKind.i64] [] [10]
      [(10, [SV.int IntKind.i64 (IE.var 0), SV.int IntKind.i64 (IE.var 1), SV.bool (BE.var 2), SV.int IntKind.i64 (IE.var 3), SV.bool (BE.var 4)])]
      [(10, [SV.int IntKind.i64 (IE.var 0), SV.int IntKind.i64 (IE.var 1), SV.bool (BE.var 2), SV.int IntKind.i64 (IE.var 3), SV.bool (BE.var 4)])]
      (VC.split (BE.lt (IE.var 11) (IE.var 7))
        (VC.cut 6 [Base.ptr] [10] [(10, [SV.int IntKind.i64 (IE.var 0), SV.int IntKind.i64 (IE.var 1), SV.bool (BE.var 2), SV.int IntKind.i64 (IE.var 3), SV.bool (BE.var 4)])]
          (VC.start true [] [10] [(10, [SV.int IntKind.i64 (IE.var 0), SV.int IntKind.i64 (IE.var 1), SV.bool (BE.var 2), SV.int IntKind.i64 (IE.var 3), SV.bool (BE.var 4)])]
            (VC.both
              (VC.gen (Op.makeSlice 40 (Operand.tmp 82) (Operand.tmp 82)) 40 [(Operand.tmp 82, SV.int IntKind.i64 (IE.var 0)), (Operand.tmp 82, SV.int IntKind.i64 (IE.var 0))] [Base.slice] (SV.var 14)
                [] true [] [] [10] [(10, [SV.int IntKind.i64 (IE.var 0), SV.int IntKind.i64 (IE.var 1), SV.bool (BE.var 2), SV.int IntKind.i64 (IE.var 3), SV.bool (BE.var 4)])]
                (VC.both
                  (VC.gen (Op.makeSlice 40 (Operand.tmp 85) (Operand.tmp 85)) 40 [(Operand.tmp 85, SV.int IntKind.i64 (IE.var 1)), (Operand.tmp 85, SV.int IntKind.i64 (IE.var 1))] [Base.slice]
                    (SV.var 15) [] true [] [] [10] [(10, [SV.int IntKind.i64 (IE.var 0), SV.int IntKind.i64 (IE.var 1), SV.bool (BE.var 2), SV.int IntKind.i64 (IE.var 3), SV.bool (BE.var 4)])]
                    (VC.blk
                      (VC.leaf 6 [SV.ptr 16 0] [16]
                        [(16, [SV.var 14, SV.var 15]), (10, [SV.int IntKind.i64 (IE.var 0), SV.int IntKind.i64 (IE.var 1), SV.bool (BE.var 2), SV.int IntKind.i64 (IE.var 3), SV.bool (BE.var 4)])])))
                  (VC.blk
                    (VC.gen (Op.makeSlice 40 (Operand.tmp 85) (Operand.tmp 85)) 40 [(Operand.tmp 85, SV.int IntKind.i64 (IE.var 1)), (Operand.tmp 85, SV.int IntKind.i64 (IE.var 1))] [Base.slice]
                      (SV.var 16) [] true [] [] [15, 10]
                      [(15, [SV.cst (Value.slice none 0 0), SV.cst (Value.slice none 0 0)]),
                        (10, [SV.int IntKind.i64 (IE.var 0), SV.int IntKind.i64 (IE.var 1), SV.bool (BE.var 2), SV.int IntKind.i64 (IE.var 3), SV.bool (BE.var 4)])]
                      (VC.leaf 6 [SV.ptr 15 0] [15]
                        [(15, [SV.var 14, SV.var 16]), (10, [SV.int IntKind.i64 (IE.var 0), SV.int IntKind.i64 (IE.var 1), SV.bool (BE.var 2), SV.int IntKind.i64 (IE.var 3), SV.bool (BE.var 4)])])))))
              (VC.both
                (VC.gen (Op.makeSlice 40 (Operand.tmp 85) (Operand.tmp 85)) 40 [(Operand.tmp 85, SV.int IntKind.i64 (IE.var 1)), (Operand.tmp 85, SV.int IntKind.i64 (IE.var 1))] [Base.slice]
                  (SV.var 14) [] true [] [] [10] [(10, [SV.int IntKind.i64 (IE.var 0), SV.int IntKind.i64 (IE.var 1), SV.bool (BE.var 2), SV.int IntKind.i64 (IE.var 3), SV.bool (BE.var 4)])]
                  (VC.both
                    (VC.gen (Op.makeSlice 40 (Operand.tmp 82) (Operand.tmp 82)) 40 [(Operand.tmp 82, SV.int IntKind.i64 (IE.var 0)), (Operand.tmp 82, SV.int IntKind.i64 (IE.var 0))] [Base.slice]
                      (SV.var 15) [] true [] [] [10] [(10, [SV.int IntKind.i64 (IE.var 0), SV.int IntKind.i64 (IE.var 1), SV.bool (BE.var 2), SV.int IntKind.i64 (IE.var 3), SV.bool (BE.var 4)])]
                      (VC.blk
                        (VC.leaf 6 [SV.ptr 16 0] [16]
                          [(16, [SV.var 15, SV.var 14]), (10, [SV.int IntKind.i64 (IE.var 0), SV.int IntKind.i64 (IE.var 1), SV.bool (BE.var 2), SV.int IntKind.i64 (IE.var 3), SV.bool (BE.var 4)])])))
                    (VC.blk
                      (VC.gen (Op.makeSlice 40 (Operand.tmp 82) (Operand.tmp 82)) 40 [(Operand.tmp 82, SV.int IntKind.i64 (IE.var 0)), (Operand.tmp 82, SV.int IntKind.i64 (IE.var 0))] [Base.slice]
                        (SV.var 16) [] true [] [] [15, 10]
                        [(15, [SV.cst (Value.slice none 0 0), SV.cst (Value.slice none 0 0)]),
                          (10, [SV.int IntKind.i64 (IE.var 0), SV.int IntKind.i64 (IE.var 1), SV.bool (BE.var 2), SV.int IntKind.i64 (IE.var 3), SV.bool (BE.var 4)])]
                        (VC.leaf 6 [SV.ptr 15 0] [15]
                          [(15, [SV.var 16, SV.var 14]),
                            (10, [SV.int IntKind.i64 (IE.var 0), SV.int IntKind.i64 (IE.var 1), SV.bool (BE.var 2), SV.int IntKind.i64 (IE.var 3), SV.bool (BE.var 4)])])))))
                (VC.blk
                  (VC.both
                    (VC.gen (Op.makeSlice 40 (Operand.tmp 82) (Operand.tmp 82)) 40 [(Operand.tmp 82, SV.int IntKind.i64 (IE.var 0)), (Operand.tmp 82, SV.int IntKind.i64 (IE.var 0))] [Base.slice]
                      (SV.var 15) [] true [] [] [14, 10]
                      [(14, [SV.cst (Value.slice none 0 0), SV.cst (Value.slice none 0 0)]),
                        (10, [SV.int IntKind.i64 (IE.var 0), SV.int IntKind.i64 (IE.var 1), SV.bool (BE.var 2), SV.int IntKind.i64 (IE.var 3), SV.bool (BE.var 4)])]
                      (VC.gen (Op.makeSlice 40 (Operand.tmp 85) (Operand.tmp 85)) 40 [(Operand.tmp 85, SV.int IntKind.i64 (IE.var 1)), (Operand.tmp 85, SV.int IntKind.i64 (IE.var 1))] [Base.slice]
                        (SV.var 16) [] true [] [] [14, 10]
                        [(14, [SV.cst (Value.slice none 0 0), SV.cst (Value.slice none 0 0)]),
                          (10, [SV.int IntKind.i64 (IE.var 0), SV.int IntKind.i64 (IE.var 1), SV.bool (BE.var 2), SV.int IntKind.i64 (IE.var 3), SV.bool (BE.var 4)])]
                        (VC.leaf 6 [SV.ptr 14 0] [14]
                          [(14, [SV.var 15, SV.var 16]), (10, [SV.int IntKind.i64 (IE.var 0), SV.int IntKind.i64 (IE.var 1), SV.bool (BE.var 2), SV.int IntKind.i64 (IE.var 3), SV.bool (BE.var 4)])])))
                    (VC.gen (Op.makeSlice 40 (Operand.tmp 85) (Operand.tmp 85)) 40 [(Operand.tmp 85, SV.int IntKind.i64 (IE.var 1)), (Operand.tmp 85, SV.int IntKind.i64 (IE.var 1))] [Base.slice]
                      (SV.var 15) [] true [] [] [14, 10]
                      [(14, [SV.cst (Value.slice none 0 0), SV.cst (Value.slice none 0 0)]),
                        (10, [SV.int IntKind.i64 (IE.var 0), SV.int IntKind.i64 (IE.var 1), SV.bool (BE.var 2), SV.int IntKind.i64 (IE.var 3), SV.bool (BE.var 4)])]
                      (VC.gen (Op.makeSlice 40 (Operand.tmp 82) (Operand.tmp 82)) 40 [(Operand.tmp 82, SV.int IntKind.i64 (IE.var 0)), (Operand.tmp 82, SV.int IntKind.i64 (IE.var 0))] [Base.slice]
                        (SV.var 16) [] true [] [] [14, 10]
                        [(14, [SV.cst (Value.slice none 0 0), SV.cst (Value.slice none 0 0)]),
                          (10, [SV.int IntKind.i64 (IE.var 0), SV.int IntKind.i64 (IE.var 1), SV.bool (BE.var 2), SV.int IntKind.i64 (IE.var 3), SV.bool (BE.var 4)])]
                        (VC.leaf 6 [SV.ptr 14 0] [14]
                          [(14, [SV.var 16, SV.var 15]),
                            (10, [SV.int IntKind.i64 (IE.var 0), SV.int IntKind.i64 (IE.var 1), SV.bool (BE.var 2), SV.int IntKind.i64 (IE.var 3), SV.bool (BE.var 4)])]))))))))
          (VC.loop 2 [SV.int IntKind.i64 (IE.lit 0), SV.int IntKind.i64 (IE.var 13)] [Base.int IntKind.i64, Base.int IntKind.i64] [] [10]
            [(10, [SV.int IntKind.i64 (IE.var 0), SV.int IntKind.i64 (IE.var 1), SV.bool (BE.var 2), SV.int IntKind.i64 (IE.var 3), SV.bool (BE.var 4)])]
            [(10, [SV.int IntKind.i64 (IE.var 0), SV.int IntKind.i64 (IE.var 1), SV.bool (BE.var 2), SV.int IntKind.i64 (IE.var 3), SV.bool (BE.var 4)])]
            (VC.split (BE.lt (IE.var 15) (IE.var 0))
              (VC.start true [] [10] [(10, [SV.int IntKind.i64 (IE.var 0), SV.int IntKind.i64 (IE.var 1), SV.bool (BE.var 2), SV.int IntKind.i64 (IE.var 3), SV.bool (BE.var 4)])]
                (VC.ob (BE.not (BE.nil 14))
                  (VC.load (SV.ptr 14 0) [Base.slice]
                    (VC.ob (BE.not (BE.eq (IE.len 6) (IE.lit 0)))
                      (VC.ob (BE.le (IE.lit 0) (IE.rem (IE.var 16) (IE.len 6)))
                        (VC.ob (BE.lt (IE.rem (IE.var 16) (IE.len 6)) (IE.len 6))
                          (VC.ob (BE.not (BE.nil 6))
                            (VC.load (SV.elt 6 0 (IE.rem (IE.var 16) (IE.len 6)) 1 0) [Base.int IntKind.u8]
                              (VC.ob (BE.le (IE.lit 0) (IE.var 15))
                                (VC.ob (BE.lt (IE.var 15) (IE.len 17))
                                  (VC.ob (BE.not (BE.nil 17))
                                    (VC.gen (Op.store 5 (Operand.tmp 104) (Operand.tmp 103)) 0 [(Operand.tmp 104, SV.elt 17 0 (IE.var 15) 1 0), (Operand.tmp 103, SV.int IntKind.u8 (IE.var 18))] []
                                      (SV.cst (Value.tuple #[])) [] true [] [] [10]
                                      [(10, [SV.int IntKind.i64 (IE.var 0), SV.int IntKind.i64 (IE.var 1), SV.bool (BE.var 2), SV.int IntKind.i64 (IE.var 3), SV.bool (BE.var 4)])]
                                      (VC.ob (BE.le (IE.lit (-9223372036854775808)) (IE.add (IE.var 16) (IE.lit 1)))
                                        (VC.ob (BE.le (IE.add (IE.var 16) (IE.lit 1)) (IE.lit 9223372036854775807))
                                          (VC.ob (BE.le (IE.lit (-9223372036854775808)) (IE.add (IE.var 15) (IE.lit 1)))
                                            (VC.ob (BE.le (IE.add (IE.var 15) (IE.lit 1)) (IE.lit 9223372036854775807))
                                              (VC.leaf 2 [SV.int IntKind.i64 (IE.add (IE.var 15) (IE.lit 1)), SV.int IntKind.i64 (IE.add (IE.var 16) (IE.lit 1))] []
                                                [(10,
                                                    [SV.int IntKind.i64 (IE.var 0), SV.int IntKind.i64 (IE.var 1), SV.bool (BE.var 2), SV.int IntKind.i64 (IE.var 3),
                                                      SV.bool (BE.var 4)])])))))))))))))))))
              (VC.loop 3 [SV.int IntKind.i64 (IE.lit 0), SV.int IntKind.i64 (IE.var 16)] [Base.int IntKind.i64, Base.int IntKind.i64] [] [10]
                [(10, [SV.int IntKind.i64 (IE.var 0), SV.int IntKind.i64 (IE.var 1), SV.bool (BE.var 2), SV.int IntKind.i64 (IE.var 3), SV.bool (BE.var 4)])]
                [(10, [SV.int IntKind.i64 (IE.var 0), SV.int IntKind.i64 (IE.var 1), SV.bool (BE.var 2), SV.int IntKind.i64 (IE.var 3), SV.bool (BE.var 4)])]
                (VC.split (BE.lt (IE.var 17) (IE.var 1))
                  (VC.start true [] [10] [(10, [SV.int IntKind.i64 (IE.var 0), SV.int IntKind.i64 (IE.var 1), SV.bool (BE.var 2), SV.int IntKind.i64 (IE.var 3), SV.bool (BE.var 4)])]
                    (VC.ob (BE.not (BE.nil 14))
                      (VC.load (SV.ptr 14 1) [Base.slice]
                        (VC.ob (BE.not (BE.eq (IE.len 6) (IE.lit 0)))
                          (VC.ob (BE.le (IE.lit 0) (IE.rem (IE.var 18) (IE.len 6)))
                            (VC.ob (BE.lt (IE.rem (IE.var 18) (IE.len 6)) (IE.len 6))
                              (VC.ob (BE.not (BE.nil 6))
                                (VC.load (SV.elt 6 0 (IE.rem (IE.var 18) (IE.len 6)) 1 0) [Base.int IntKind.u8]
                                  (VC.ob (BE.le (IE.lit 0) (IE.var 17))
                                    (VC.ob (BE.lt (IE.var 17) (IE.len 19))
                                      (VC.ob (BE.not (BE.nil 19))
                                        (VC.gen (Op.store 5 (Operand.tmp 123) (Operand.tmp 122)) 0 [(Operand.tmp 123, SV.elt 19 0 (IE.var 17) 1 0), (Operand.tmp 122, SV.int IntKind.u8 (IE.var 20))] []
                                          (SV.cst (Value.tuple #[])) [] true [] [] [10]
                                          [(10, [SV.int IntKind.i64 (IE.var 0), SV.int IntKind.i64 (IE.var 1), SV.bool (BE.var 2), SV.int IntKind.i64 (IE.var 3), SV.bool (BE.var 4)])]
                                          (VC.ob (BE.le (IE.lit (-9223372036854775808)) (IE.add (IE.var 18) (IE.lit 1)))
                                            (VC.ob (BE.le (IE.add (IE.var 18) (IE.lit 1)) (IE.lit 9223372036854775807))
                                              (VC.ob (BE.le (IE.lit (-9223372036854775808)) (IE.add (IE.var 17) (IE.lit 1)))
                                                (VC.ob (BE.le (IE.add (IE.var 17) (IE.lit 1)) (IE.lit 9223372036854775807))
                                                  (VC.leaf 3 [SV.int IntKind.i64 (IE.add (IE.var 17) (IE.lit 1)), SV.int IntKind.i64 (IE.add (IE.var 18) (IE.lit 1))] []
                                                    [(10,
                                                        [SV.int IntKind.i64 (IE.var 0), SV.int IntKind.i64 (IE.var 1), SV.bool (BE.var 2), SV.int IntKind.i64 (IE.var 3),
                                                          SV.bool (BE.var 4)])])))))))))))))))))
                  (VC.start false [] [] [(10, [SV.int IntKind.i64 (IE.var 0), SV.int IntKind.i64 (IE.var 1), SV.bool (BE.var 2), SV.int IntKind.i64 (IE.var 3), SV.bool (BE.var 4)])]
                    (VC.load (SV.ptr 14 0) [Base.slice, Base.slice]
                      (VC.blk
                        (VC.gen (Op.call { callee := Callee.builtin Builtin.append, args := #[Operand.tmp 126, Operand.tmp 128], argTypes := #[42, 42] }) 42
                          [(Operand.tmp 126, SV.var 12), (Operand.tmp 128, SV.slc 21 0 1 1)] [Base.slice] (SV.var 22) [] false [] [] [21, 10]
                          [(21, [SV.var 19, SV.var 20]), (10, [SV.int IntKind.i64 (IE.var 0), SV.int IntKind.i64 (IE.var 1), SV.bool (BE.var 2), SV.int IntKind.i64 (IE.var 3), SV.bool (BE.var 4)])]
                          (VC.ob (BE.le (IE.lit (-9223372036854775808)) (IE.add (IE.var 11) (IE.lit 1)))
                            (VC.ob (BE.le (IE.add (IE.var 11) (IE.lit 1)) (IE.lit 9223372036854775807))
                              (VC.leaf 1 [SV.int IntKind.i64 (IE.add (IE.var 11) (IE.lit 1)), SV.var 22, SV.int IntKind.i64 (IE.var 18)] []
                                [(21, [SV.var 19, SV.var 20]),
                                  (10, [SV.int IntKind.i64 (IE.var 0), SV.int IntKind.i64 (IE.var 1), SV.bool (BE.var 2), SV.int IntKind.i64 (IE.var 3), SV.bool (BE.var 4)])]))))))))))))
        (VC.call 28 [SV.agg [SV.int IntKind.i64 (IE.var 0), SV.int IntKind.i64 (IE.var 1), SV.bool (BE.var 2), SV.int IntKind.i64 (IE.var 3), SV.bool (BE.var 4)], SV.bool (BE.var 5), SV.var 12]
          [Base.slice, Base.slice, Base.int IntKind.i64] (SV.tuple [SV.var 14, SV.var 15, SV.int IntKind.i64 (IE.var 16)]) [] false [] [] [10]
          [(10, [SV.int IntKind.i64 (IE.var 0), SV.int IntKind.i64 (IE.var 1), SV.bool (BE.var 2), SV.int IntKind.i64 (IE.var 3), SV.bool (BE.var 4)])]
          (VC.call 21
            [SV.agg [SV.int IntKind.i64 (IE.var 0), SV.int IntKind.i64 (IE.var 1), SV.bool (BE.var 2), SV.int IntKind.i64 (IE.var 3), SV.bool (BE.var 4)], SV.int IntKind.i64 (IE.var 7),
              SV.bool (BE.var 5), SV.var 14, SV.var 15]
            [Base.slice, Base.int IntKind.i64] (SV.tuple [SV.var 17, SV.int IntKind.i64 (IE.var 18)]) [] false [] [] [10]
            [(10, [SV.int IntKind.i64 (IE.var 0), SV.int IntKind.i64 (IE.var 1), SV.bool (BE.var 2), SV.int IntKind.i64 (IE.var 3), SV.bool (BE.var 4)])]
            (VC.call 18 [SV.int IntKind.i64 (IE.var 16)] [Base.int IntKind.i64] (SV.int IntKind.i64 (IE.var 19)) [] false [] [] [10]
              [(10, [SV.int IntKind.i64 (IE.var 0), SV.int IntKind.i64 (IE.var 1), SV.bool (BE.var 2), SV.int IntKind.i64 (IE.var 3), SV.bool (BE.var 4)])]
              (VC.call 18 [SV.int IntKind.i64 (IE.var 18)] [Base.int IntKind.i64] (SV.int IntKind.i64 (IE.var 20)) [] false [] [] [10]
                [(10, [SV.int IntKind.i64 (IE.var 0), SV.int IntKind.i64 (IE.var 1), SV.bool (BE.var 2), SV.int IntKind.i64 (IE.var 3), SV.bool (BE.var 4)])]
                (VC.ob (BE.le (IE.lit (-9223372036854775808)) (IE.add (IE.var 19) (IE.var 20)))
                  (VC.ob (BE.le (IE.add (IE.var 19) (IE.var 20)) (IE.lit 9223372036854775807))
                    (VC.split (BE.not (BE.eq (IE.add (IE.var 19) (IE.var 20)) (IE.lit 0)))
                      (VC.leaf 0 [SV.bool (BE.lit false)] []
                        [(10, [SV.int IntKind.i64 (IE.var 0), SV.int IntKind.i64 (IE.var 1), SV.bool (BE.var 2), SV.int IntKind.i64 (IE.var 3), SV.bool (BE.var 4)])])
                      (VC.split (BE.not (BE.eq (IE.len 17) (IE.var 7)))
                        (VC.leaf 0 [SV.bool (BE.lit false)] []
                          [(10, [SV.int IntKind.i64 (IE.var 0), SV.int IntKind.i64 (IE.var 1), SV.bool (BE.var 2), SV.int IntKind.i64 (IE.var 3), SV.bool (BE.var 4)])])
                        (VC.loop 4 [SV.int IntKind.i64 (IE.lit 0)] [Base.int IntKind.i64] [] [10]
                          [(10, [SV.int IntKind.i64 (IE.var 0), SV.int IntKind.i64 (IE.var 1), SV.bool (BE.var 2), SV.int IntKind.i64 (IE.var 3), SV.bool (BE.var 4)])]
                          [(10, [SV.int IntKind.i64 (IE.var 0), SV.int IntKind.i64 (IE.var 1), SV.bool (BE.var 2), SV.int IntKind.i64 (IE.var 3), SV.bool (BE.var 4)])]
                          (VC.split (BE.lt (IE.var 21) (IE.var 7))
                            (VC.ob (BE.le (IE.lit 0) (IE.var 21))
                              (VC.ob (BE.lt (IE.var 21) (IE.len 12))
                                (VC.ob (BE.not (BE.nil 12))
                                  (VC.start false [] [] [(10, [SV.int IntKind.i64 (IE.var 0), SV.int IntKind.i64 (IE.var 1), SV.bool (BE.var 2), SV.int IntKind.i64 (IE.var 3), SV.bool (BE.var 4)])]
                                    (VC.load (SV.elt 12 0 (IE.var 21) 2 1) [Base.slice]
                                      (VC.start false [] []
                                        [(10, [SV.int IntKind.i64 (IE.var 0), SV.int IntKind.i64 (IE.var 1), SV.bool (BE.var 2), SV.int IntKind.i64 (IE.var 3), SV.bool (BE.var 4)])]
                                        (VC.pur (Op.convert 40 9 (Operand.tmp 168)) 9 [(Operand.tmp 168, SV.var 22)] [Base.any] (SV.var 23)
                                          (VC.cut 7 [Base.any] [10]
                                            [(10, [SV.int IntKind.i64 (IE.var 0), SV.int IntKind.i64 (IE.var 1), SV.bool (BE.var 2), SV.int IntKind.i64 (IE.var 3), SV.bool (BE.var 4)])]
                                            (VC.split (BE.var 5)
                                              (VC.split (BE.eq (IE.var 1) (IE.lit 8))
                                                (VC.leaf 7 [SV.cst (Value.string { data := #[0, 0, 0, 0, 0, 0, 0, 0] })] []
                                                  [(10, [SV.int IntKind.i64 (IE.var 0), SV.int IntKind.i64 (IE.var 1), SV.bool (BE.var 2), SV.int IntKind.i64 (IE.var 3), SV.bool (BE.var 4)])])
                                                (VC.leaf 7 [SV.var 23] []
                                                  [(10, [SV.int IntKind.i64 (IE.var 0), SV.int IntKind.i64 (IE.var 1), SV.bool (BE.var 2), SV.int IntKind.i64 (IE.var 3), SV.bool (BE.var 4)])]))
                                              (VC.leaf 7 [SV.var 23] []
                                                [(10, [SV.int IntKind.i64 (IE.var 0), SV.int IntKind.i64 (IE.var 1), SV.bool (BE.var 2), SV.int IntKind.i64 (IE.var 3), SV.bool (BE.var 4)])]))
                                            (VC.start true [] [10]
                                              [(10, [SV.int IntKind.i64 (IE.var 0), SV.int IntKind.i64 (IE.var 1), SV.bool (BE.var 2), SV.int IntKind.i64 (IE.var 3), SV.bool (BE.var 4)])]
                                              (VC.ob (BE.le (IE.lit 0) (IE.var 21))
                                                (VC.ob (BE.lt (IE.var 21) (IE.len 17))
                                                  (VC.ob (BE.not (BE.nil 17))
                                                    (VC.load (SV.elt 17 0 (IE.var 21) 2 0) [Base.slice]
                                                      (VC.pur (Op.convert 40 9 (Operand.tmp 180)) 9 [(Operand.tmp 180, SV.var 25)] [Base.any] (SV.var 26)
                                                        (VC.ob (BE.le (IE.lit 0) (IE.var 21))
                                                          (VC.ob (BE.lt (IE.var 21) (IE.len 12))
                                                            (VC.load (SV.elt 12 0 (IE.var 21) 2 0) [Base.slice]
                                                              (VC.pur (Op.convert 40 9 (Operand.tmp 186)) 9 [(Operand.tmp 186, SV.var 27)] [Base.any] (SV.var 28)
                                                                (VC.pur (Op.binOp BinOp.neq 9 (Operand.tmp 181) (Operand.tmp 187) 9) 4 [(Operand.tmp 181, SV.var 26), (Operand.tmp 187, SV.var 28)]
                                                                  [Base.bool] (SV.bool (BE.var 29))
                                                                  (VC.split (BE.var 29)
                                                                    (VC.leaf 0 [SV.bool (BE.lit false)] []
                                                                      [(10,
                                                                          [SV.int IntKind.i64 (IE.var 0), SV.int IntKind.i64 (IE.var 1), SV.bool (BE.var 2), SV.int IntKind.i64 (IE.var 3),
                                                                            SV.bool (BE.var 4)])])
                                                                    (VC.ob (BE.le (IE.lit 0) (IE.var 21))
                                                                      (VC.ob (BE.lt (IE.var 21) (IE.len 17))
                                                                        (VC.load (SV.elt 17 0 (IE.var 21) 2 1) [Base.slice]
                                                                          (VC.pur (Op.convert 40 9 (Operand.tmp 194)) 9 [(Operand.tmp 194, SV.var 30)] [Base.any] (SV.var 31)
                                                                            (VC.pur (Op.binOp BinOp.neq 9 (Operand.tmp 195) (Operand.tmp 196) 9) 4
                                                                              [(Operand.tmp 195, SV.var 31), (Operand.tmp 196, SV.var 24)] [Base.bool] (SV.bool (BE.var 32))
                                                                              (VC.split (BE.var 32)
                                                                                (VC.leaf 0 [SV.bool (BE.lit false)] []
                                                                                  [(10,
                                                                                      [SV.int IntKind.i64 (IE.var 0), SV.int IntKind.i64 (IE.var 1), SV.bool (BE.var 2), SV.int IntKind.i64 (IE.var 3),
                                                                                        SV.bool (BE.var 4)])])
                                                                                (VC.ob (BE.le (IE.lit (-9223372036854775808)) (IE.add (IE.var 21) (IE.lit 1)))
                                                                                  (VC.ob (BE.le (IE.add (IE.var 21) (IE.lit 1)) (IE.lit 9223372036854775807))
                                                                                    (VC.leaf 4 [SV.int IntKind.i64 (IE.add (IE.var 21) (IE.lit 1))] []
                                                                                      [(10,
                                                                                          [SV.int IntKind.i64 (IE.var 0), SV.int IntKind.i64 (IE.var 1), SV.bool (BE.var 2),
                                                                                            SV.int IntKind.i64 (IE.var 3), SV.bool (BE.var 4)])])))))))))))))))))))))))))))))
                            (VC.call 16 [SV.agg [SV.int IntKind.i64 (IE.var 0), SV.int IntKind.i64 (IE.var 1), SV.bool (BE.var 2), SV.int IntKind.i64 (IE.var 3), SV.bool (BE.var 4)]]
                              [Base.int IntKind.i64] (SV.int IntKind.i64 (IE.var 22)) [] false [] [] [10]
                              [(10, [SV.int IntKind.i64 (IE.var 0), SV.int IntKind.i64 (IE.var 1), SV.bool (BE.var 2), SV.int IntKind.i64 (IE.var 3), SV.bool (BE.var 4)])]
                              (VC.start true [] [10] [(10, [SV.int IntKind.i64 (IE.var 0), SV.int IntKind.i64 (IE.var 1), SV.bool (BE.var 2), SV.int IntKind.i64 (IE.var 3), SV.bool (BE.var 4)])]
                                (VC.pur (Op.slice 42 (Operand.tmp 205) none (some (Operand.tmp 206)) none) 42
                                  [(Operand.tmp 205, SV.var 12), (Operand.tmp 206, SV.int IntKind.i64 (IE.min (IE.var 7) (IE.var 22)))] [Base.slice] (SV.var 23)
                                  (VC.call 30 [SV.agg [SV.int IntKind.i64 (IE.var 0), SV.int IntKind.i64 (IE.var 1), SV.bool (BE.var 2), SV.int IntKind.i64 (IE.var 3), SV.bool (BE.var 4)], SV.var 23]
                                    [Base.slice, Base.int IntKind.i64] (SV.tuple [SV.var 24, SV.int IntKind.i64 (IE.var 25)]) [] true [] [] [10]
                                    [(10, [SV.int IntKind.i64 (IE.var 0), SV.int IntKind.i64 (IE.var 1), SV.bool (BE.var 2), SV.int IntKind.i64 (IE.var 3), SV.bool (BE.var 4)])]
                                    (VC.call 32
                                      [SV.agg [SV.int IntKind.i64 (IE.var 0), SV.int IntKind.i64 (IE.var 1), SV.bool (BE.var 2), SV.int IntKind.i64 (IE.var 3), SV.bool (BE.var 4)], SV.var 24]
                                      [Base.slice, Base.int IntKind.i64] (SV.tuple [SV.var 26, SV.int IntKind.i64 (IE.var 27)]) [] false [] [] [10]
                                      [(10, [SV.int IntKind.i64 (IE.var 0), SV.int IntKind.i64 (IE.var 1), SV.bool (BE.var 2), SV.int IntKind.i64 (IE.var 3), SV.bool (BE.var 4)])]
                                      (VC.start true [] [10]
                                        [(10, [SV.int IntKind.i64 (IE.var 0), SV.int IntKind.i64 (IE.var 1), SV.bool (BE.var 2), SV.int IntKind.i64 (IE.var 3), SV.bool (BE.var 4)])]
                                        (VC.call 18 [SV.int IntKind.i64 (IE.var 25)] [Base.int IntKind.i64] (SV.int IntKind.i64 (IE.var 28)) [] true [] [] [10]
                                          [(10, [SV.int IntKind.i64 (IE.var 0), SV.int IntKind.i64 (IE.var 1), SV.bool (BE.var 2), SV.int IntKind.i64 (IE.var 3), SV.bool (BE.var 4)])]
                                          (VC.call 18 [SV.int IntKind.i64 (IE.var 27)] [Base.int IntKind.i64] (SV.int IntKind.i64 (IE.var 29)) [] true [] [] [10]
                                            [(10, [SV.int IntKind.i64 (IE.var 0), SV.int IntKind.i64 (IE.var 1), SV.bool (BE.var 2), SV.int IntKind.i64 (IE.var 3), SV.bool (BE.var 4)])]
                                            (VC.ob (BE.le (IE.lit (-9223372036854775808)) (IE.add (IE.var 28) (IE.var 29)))
                                              (VC.ob (BE.le (IE.add (IE.var 28) (IE.var 29)) (IE.lit 9223372036854775807))
                                                (VC.split (BE.not (BE.eq (IE.add (IE.var 28) (IE.var 29)) (IE.lit 0)))
                                                  (VC.leaf 0 [SV.bool (BE.lit false)] []
                                                    [(10, [SV.int IntKind.i64 (IE.var 0), SV.int IntKind.i64 (IE.var 1), SV.bool (BE.var 2), SV.int IntKind.i64 (IE.var 3), SV.bool (BE.var 4)])])
                                                  (VC.call 16
                                                    [SV.agg [SV.int IntKind.i64 (IE.var 0), SV.int IntKind.i64 (IE.var 1), SV.bool (BE.var 2), SV.int IntKind.i64 (IE.var 3), SV.bool (BE.var 4)]]
                                                    [Base.int IntKind.i64] (SV.int IntKind.i64 (IE.var 30)) [] true [] [] [10]
                                                    [(10, [SV.int IntKind.i64 (IE.var 0), SV.int IntKind.i64 (IE.var 1), SV.bool (BE.var 2), SV.int IntKind.i64 (IE.var 3), SV.bool (BE.var 4)])]
                                                    (VC.split (BE.not (BE.eq (IE.len 26) (IE.var 30)))
                                                      (VC.leaf 0 [SV.bool (BE.lit false)] []
                                                        [(10, [SV.int IntKind.i64 (IE.var 0), SV.int IntKind.i64 (IE.var 1), SV.bool (BE.var 2), SV.int IntKind.i64 (IE.var 3), SV.bool (BE.var 4)])])
                                                      (VC.pur (Op.slice 42 (Operand.tmp 231) none (some (Operand.tmp 232)) none) 42
                                                        [(Operand.tmp 231, SV.var 26), (Operand.tmp 232, SV.int IntKind.i64 (IE.min (IE.var 7) (IE.var 22)))] [Base.slice] (SV.var 31)
                                                        (VC.pur (Op.slice 42 (Operand.tmp 234) none (some (Operand.tmp 235)) none) 42
                                                          [(Operand.tmp 234, SV.var 12), (Operand.tmp 235, SV.int IntKind.i64 (IE.min (IE.var 7) (IE.var 22)))] [Base.slice] (SV.var 32)
                                                          (VC.call 24 [SV.var 31, SV.var 32] [Base.bool] (SV.bool (BE.var 33)) [] true [] [] [10]
                                                            [(10,
                                                                [SV.int IntKind.i64 (IE.var 0), SV.int IntKind.i64 (IE.var 1), SV.bool (BE.var 2), SV.int IntKind.i64 (IE.var 3), SV.bool (BE.var 4)])]
                                                            (VC.split (BE.not (BE.var 33))
                                                              (VC.leaf 0 [SV.bool (BE.lit false)] []
                                                                [(10,
                                                                    [SV.int IntKind.i64 (IE.var 0), SV.int IntKind.i64 (IE.var 1), SV.bool (BE.var 2), SV.int IntKind.i64 (IE.var 3),
                                                                      SV.bool (BE.var 4)])])
                                                              (VC.call 10
                                                                [SV.agg
                                                                    [SV.int IntKind.i64 (IE.var 0), SV.int IntKind.i64 (IE.var 1), SV.bool (BE.var 2), SV.int IntKind.i64 (IE.var 3),
                                                                      SV.bool (BE.var 4)],
                                                                  SV.int IntKind.i64 (IE.var 8)]
                                                                [Base.int IntKind.i64, Base.int IntKind.i64, Base.int IntKind.i64]
                                                                (SV.tuple [SV.int IntKind.i64 (IE.var 34), SV.int IntKind.i64 (IE.var 35), SV.int IntKind.i64 (IE.var 36)]) [] false [] [] [10]
                                                                [(10,
                                                                    [SV.int IntKind.i64 (IE.var 0), SV.int IntKind.i64 (IE.var 1), SV.bool (BE.var 2), SV.int IntKind.i64 (IE.var 3),
                                                                      SV.bool (BE.var 4)])]
                                                                (VC.call 10
                                                                  [SV.agg
                                                                      [SV.int IntKind.i64 (IE.var 0), SV.int IntKind.i64 (IE.var 1), SV.bool (BE.var 2), SV.int IntKind.i64 (IE.var 3),
                                                                        SV.bool (BE.var 4)],
                                                                    SV.int IntKind.i64 (IE.var 9)]
                                                                  [Base.int IntKind.i64, Base.int IntKind.i64, Base.int IntKind.i64]
                                                                  (SV.tuple [SV.int IntKind.i64 (IE.var 37), SV.int IntKind.i64 (IE.var 38), SV.int IntKind.i64 (IE.var 39)]) [] false [] [] [10]
                                                                  [(10,
                                                                      [SV.int IntKind.i64 (IE.var 0), SV.int IntKind.i64 (IE.var 1), SV.bool (BE.var 2), SV.int IntKind.i64 (IE.var 3),
                                                                        SV.bool (BE.var 4)])]
                                                                  (VC.call 18 [SV.int IntKind.i64 (IE.var 36)] [Base.int IntKind.i64] (SV.int IntKind.i64 (IE.var 40)) [] false [] [] [10]
                                                                    [(10,
                                                                        [SV.int IntKind.i64 (IE.var 0), SV.int IntKind.i64 (IE.var 1), SV.bool (BE.var 2), SV.int IntKind.i64 (IE.var 3),
                                                                          SV.bool (BE.var 4)])]
                                                                    (VC.call 18 [SV.int IntKind.i64 (IE.var 39)] [Base.int IntKind.i64] (SV.int IntKind.i64 (IE.var 41)) [] false [] [] [10]
                                                                      [(10,
                                                                          [SV.int IntKind.i64 (IE.var 0), SV.int IntKind.i64 (IE.var 1), SV.bool (BE.var 2), SV.int IntKind.i64 (IE.var 3),
                                                                            SV.bool (BE.var 4)])]
                                                                      (VC.ob (BE.le (IE.lit (-9223372036854775808)) (IE.add (IE.var 40) (IE.var 41)))
                                                                        (VC.ob (BE.le (IE.add (IE.var 40) (IE.var 41)) (IE.lit 9223372036854775807))
                                                                          (VC.split (BE.eq (IE.add (IE.var 40) (IE.var 41)) (IE.lit 0))
                                                                            (VC.split (BE.eq (IE.var 34) (IE.var 37))
                                                                              (VC.split (BE.beq (BE.eq (IE.var 35) (IE.var 38)) (BE.eq (IE.var 8) (IE.var 9)))
                                                                                (VC.call 19 [] [Base.bool] (SV.bool (BE.var 42)) [] false [] [] [10]
                                                                                  [(10,
                                                                                      [SV.int IntKind.i64 (IE.var 0), SV.int IntKind.i64 (IE.var 1), SV.bool (BE.var 2), SV.int IntKind.i64 (IE.var 3),
                                                                                        SV.bool (BE.var 4)])]
                                                                                  (VC.leaf 0 [SV.bool (BE.var 42)] []
                                                                                    [(10,
                                                                                        [SV.int IntKind.i64 (IE.var 0), SV.int IntKind.i64 (IE.var 1), SV.bool (BE.var 2),
                                                                                          SV.int IntKind.i64 (IE.var 3), SV.bool (BE.var 4)])]))
                                                                                (VC.leaf 0 [SV.bool (BE.lit false)] []
                                                                                  [(10,
                                                                                      [SV.int IntKind.i64 (IE.var 0), SV.int IntKind.i64 (IE.var 1), SV.bool (BE.var 2), SV.int IntKind.i64 (IE.var 3),
                                                                                        SV.bool (BE.var 4)])]))
                                                                              (VC.split (BE.beq (BE.lit false) (BE.eq (IE.var 8) (IE.var 9)))
                                                                                (VC.call 19 [] [Base.bool] (SV.bool (BE.var 42)) [] false [] [] [10]
                                                                                  [(10,
                                                                                      [SV.int IntKind.i64 (IE.var 0), SV.int IntKind.i64 (IE.var 1), SV.bool (BE.var 2), SV.int IntKind.i64 (IE.var 3),
                                                                                        SV.bool (BE.var 4)])]
                                                                                  (VC.leaf 0 [SV.bool (BE.var 42)] []
                                                                                    [(10,
                                                                                        [SV.int IntKind.i64 (IE.var 0), SV.int IntKind.i64 (IE.var 1), SV.bool (BE.var 2),
                                                                                          SV.int IntKind.i64 (IE.var 3), SV.bool (BE.var 4)])]))
                                                                                (VC.leaf 0 [SV.bool (BE.lit false)] []
                                                                                  [(10,
                                                                                      [SV.int IntKind.i64 (IE.var 0), SV.int IntKind.i64 (IE.var 1), SV.bool (BE.var 2), SV.int IntKind.i64 (IE.var 3),
                                                                                        SV.bool (BE.var 4)])])))
                                                                            (VC.leaf 0 [SV.bool (BE.lit false)] []
                                                                              [(10,
                                                                                  [SV.int IntKind.i64 (IE.var 0), SV.int IntKind.i64 (IE.var 1), SV.bool (BE.var 2), SV.int IntKind.i64 (IE.var 3),
                                                                                    SV.bool (BE.var 4)])])))))))))))))))))))))))))))))))))))))) := by kernel_rfl

end Go.Proofs.Ytngemhmjpphpaaa
