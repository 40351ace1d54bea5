/- What the functions of the chapter come to, printed by a program of the prover's and checked by the kernel. No conditions. -/
import Derived.Test.YtdinjabnfjoojaaSxX
import Derived.Test.YtdinjabnfjoojaaProg
import Derived.KernelRfl
set_option maxRecDepth 100000
set_option linter.unusedVariables false
namespace Go.Proofs.Ytdinjabnfjoojaa
open Go.Sx

theorem t4 : exFn { P := Try.prog, loops := fun r => if Nat.beq r 8 then some ⟨1, [(9, .int .i64), (7, .slice)], []⟩ else none } 4 [.var 0, .var 1] [.slice, .slice] [] =
  VC.split (BE.lt (IE.lit 20) (IE.len 0)) (VC.call 8 [] [Base.bool] (SV.bool (BE.var 2)) [] false [] [] [] [] (VC.leaf 0 [SV.bool (BE.var 2)] [] []))
  (VC.split (BE.lt (IE.lit 50) (IE.len 1)) (VC.call 8 [] [Base.bool] (SV.bool (BE.var 2)) [] false [] [] [] [] (VC.leaf 0 [SV.bool (BE.var 2)] [] []))
    (VC.call 9 [SV.var 0] [Base.ptr, Base.int IntKind.i64] (SV.tuple [SV.var 2, SV.int IntKind.i64 (IE.var 3)]) [] false [] [] [] []
      (VC.call 14 [SV.var 0] [Base.slice, Base.int IntKind.i64] (SV.tuple [SV.var 4, SV.int IntKind.i64 (IE.var 5)]) [] false [] [] [] []
        (VC.call 10 [SV.int IntKind.i64 (IE.var 3)] [Base.int IntKind.i64] (SV.int IntKind.i64 (IE.var 6)) [] false [] [] [] []
          (VC.split (BE.not (BE.eq (IE.var 6) (IE.var 5))) (VC.leaf 0 [SV.bool (BE.lit false)] [] [])
            (VC.split (BE.not (BE.beq (BE.not (BE.nil 2)) (BE.eq (IE.var 5) (IE.lit 0)))) (VC.leaf 0 [SV.bool (BE.lit false)] [] [])
              (VC.loop 1 [SV.int IntKind.i64 (IE.lit 0), SV.var 4] [Base.int IntKind.i64, Base.slice] [] [] [] []
                (VC.split (BE.lt (IE.var 7) (IE.len 1))
                  (VC.split (BE.eq (IE.var 5) (IE.lit 0))
                    (VC.ob (BE.le (IE.lit 0) (IE.var 7))
                      (VC.ob (BE.lt (IE.var 7) (IE.len 1))
                        (VC.ob (BE.not (BE.nil 1))
                          (VC.start false [] [] []
                            (VC.load (SV.elt 1 0 (IE.var 7) 4 0) [Base.int IntKind.i64, Base.int IntKind.i64, Base.int IntKind.i64, Base.int IntKind.i64]
                              (VC.call 15 [SV.var 2, SV.var 8, SV.agg [SV.int IntKind.i64 (IE.var 9), SV.int IntKind.i64 (IE.var 10), SV.int IntKind.i64 (IE.var 11), SV.int IntKind.i64 (IE.var 12)]]
                                [Base.slice, Base.bool] (SV.tuple [SV.var 13, SV.bool (BE.var 14)]) [] false [] [] [] []
                                (VC.split (BE.not (BE.var 14)) (VC.leaf 0 [SV.bool (BE.lit false)] [] [])
                                  (VC.call 16 [SV.var 2, SV.var 13] [Base.bool] (SV.bool (BE.var 15)) [] false [] [] [] []
                                    (VC.split (BE.not (BE.var 15)) (VC.leaf 0 [SV.bool (BE.lit false)] [] [])
                                      (VC.ob (BE.le (IE.lit (-9223372036854775808)) (IE.add (IE.var 7) (IE.lit 1)))
                                        (VC.ob (BE.le (IE.add (IE.var 7) (IE.lit 1)) (IE.lit 9223372036854775807))
                                          (VC.leaf 1 [SV.int IntKind.i64 (IE.add (IE.var 7) (IE.lit 1)), SV.var 13] [] []))))))))))))
                    (VC.call 8 [] [Base.bool] (SV.bool (BE.var 9)) [] false [] [] [] [] (VC.leaf 0 [SV.bool (BE.var 9)] [] [])))
                  (VC.call 8 [] [Base.bool] (SV.bool (BE.var 9)) [] false [] [] [] [] (VC.leaf 0 [SV.bool (BE.var 9)] [] [])))))))))) := by kernel_rfl

theorem t7 : exFn { P := Try.prog, loops := (fun r => if Nat.beq r 7 then some ⟨1, [(7, .int .i64)], []⟩ else none), ranged := true, ranges := fun t => if Nat.beq t 115 then some ⟨2, [3, 3], []⟩ else none } 7 [.var 0, .var 1] [.slice, .slice] [] =
  VC.blk
  (VC.split (BE.lt (IE.lit 20) (IE.len 0))
    (VC.call 8 [] [Base.bool] (SV.bool (BE.var 3)) [] false [] [] [2] [(2, [SV.bool (BE.lit false)])] (VC.leafM 0 [SV.bool (BE.var 3)] [2] [(2, [SV.bool (BE.var 3)])]))
    (VC.split (BE.lt (IE.lit 50) (IE.len 1))
      (VC.call 8 [] [Base.bool] (SV.bool (BE.var 3)) [] false [] [] [2] [(2, [SV.bool (BE.lit false)])] (VC.leafM 0 [SV.bool (BE.var 3)] [2] [(2, [SV.bool (BE.var 3)])]))
      (VC.call 9 [SV.var 0] [Base.ptr, Base.int IntKind.i64] (SV.tuple [SV.var 3, SV.int IntKind.i64 (IE.var 4)]) [] false [] [] [2] [(2, [SV.bool (BE.lit false)])]
        (VC.call 10 [SV.int IntKind.i64 (IE.var 4)] [Base.int IntKind.i64] (SV.int IntKind.i64 (IE.var 5)) [] false [] [] [2] [(2, [SV.bool (BE.lit false)])]
          (VC.split (BE.not (BE.eq (IE.var 5) (IE.lit 0)))
            (VC.call 8 [] [Base.bool] (SV.bool (BE.var 6)) [] false [] [] [2] [(2, [SV.bool (BE.lit false)])] (VC.leafM 0 [SV.bool (BE.var 6)] [2] [(2, [SV.bool (BE.var 6)])]))
            (VC.loop 1 [SV.int IntKind.i64 (IE.lit 0)] [Base.int IntKind.i64] [] [2] [(2, [SV.bool (BE.lit false)])] [(2, [SV.bool (BE.lit false)])]
              (VC.split (BE.lt (IE.var 6) (IE.len 1))
                (VC.ob (BE.le (IE.lit 0) (IE.var 6))
                  (VC.ob (BE.lt (IE.var 6) (IE.len 1))
                    (VC.ob (BE.not (BE.nil 1))
                      (VC.start false [] [] [(2, [SV.bool (BE.lit false)])]
                        (VC.load (SV.elt 1 0 (IE.var 6) 4 0) [Base.int IntKind.i64, Base.int IntKind.i64, Base.int IntKind.i64, Base.int IntKind.i64]
                          (VC.blk
                            (VC.split (BE.not (BE.eq (IE.var 7) (IE.lit 0)))
                              (VC.split (BE.not (BE.eq (IE.var 7) (IE.lit 1)))
                                (VC.split (BE.lt (IE.var 7) (IE.lit 4))
                                  (VC.call 21 [SV.var 3, SV.int IntKind.i64 (IE.var 8)] [Base.int IntKind.i64] (SV.int IntKind.i64 (IE.var 12)) [] false [11] [] [11, 2]
                                    [(11, [SV.int IntKind.i64 (IE.var 7), SV.int IntKind.i64 (IE.var 8), SV.int IntKind.i64 (IE.var 9), SV.int IntKind.i64 (IE.var 10)]), (2, [SV.bool (BE.lit false)])]
                                    (VC.ob (BE.le (IE.lit (-9223372036854775808)) (IE.add (IE.var 6) (IE.lit 1)))
                                      (VC.ob (BE.le (IE.add (IE.var 6) (IE.lit 1)) (IE.lit 9223372036854775807))
                                        (VC.leaf 1 [SV.int IntKind.i64 (IE.add (IE.var 6) (IE.lit 1))] []
                                          [(11, [SV.int IntKind.i64 (IE.var 7), SV.int IntKind.i64 (IE.var 8), SV.int IntKind.i64 (IE.var 9), SV.int IntKind.i64 (IE.var 10)]),
                                            (2, [SV.bool (BE.lit false)])]))))
                                  (VC.split (BE.lt (IE.var 7) (IE.lit 6))
                                    (VC.call 12 [SV.var 3, SV.int IntKind.i64 (IE.var 8)] [Base.int IntKind.i64] (SV.int IntKind.i64 (IE.var 12)) [] false [11] [] [11, 2]
                                      [(11, [SV.int IntKind.i64 (IE.var 7), SV.int IntKind.i64 (IE.var 8), SV.int IntKind.i64 (IE.var 9), SV.int IntKind.i64 (IE.var 10)]),
                                        (2, [SV.bool (BE.lit false)])]
                                      (VC.ob (BE.le (IE.lit (-9223372036854775808)) (IE.add (IE.var 6) (IE.lit 1)))
                                        (VC.ob (BE.le (IE.add (IE.var 6) (IE.lit 1)) (IE.lit 9223372036854775807))
                                          (VC.leaf 1 [SV.int IntKind.i64 (IE.add (IE.var 6) (IE.lit 1))] []
                                            [(11, [SV.int IntKind.i64 (IE.var 7), SV.int IntKind.i64 (IE.var 8), SV.int IntKind.i64 (IE.var 9), SV.int IntKind.i64 (IE.var 10)]),
                                              (2, [SV.bool (BE.lit false)])]))))
                                    (VC.call 23 [SV.var 3, SV.int IntKind.i64 (IE.var 8), SV.int IntKind.i64 (IE.var 9), SV.int IntKind.i64 (IE.var 10)] [Base.int IntKind.i64]
                                      (SV.int IntKind.i64 (IE.var 12)) [] false [11] [] [11, 2]
                                      [(11, [SV.int IntKind.i64 (IE.var 7), SV.int IntKind.i64 (IE.var 8), SV.int IntKind.i64 (IE.var 9), SV.int IntKind.i64 (IE.var 10)]),
                                        (2, [SV.bool (BE.lit false)])]
                                      (VC.ob (BE.le (IE.lit (-9223372036854775808)) (IE.add (IE.var 6) (IE.lit 1)))
                                        (VC.ob (BE.le (IE.add (IE.var 6) (IE.lit 1)) (IE.lit 9223372036854775807))
                                          (VC.leaf 1 [SV.int IntKind.i64 (IE.add (IE.var 6) (IE.lit 1))] []
                                            [(11, [SV.int IntKind.i64 (IE.var 7), SV.int IntKind.i64 (IE.var 8), SV.int IntKind.i64 (IE.var 9), SV.int IntKind.i64 (IE.var 10)]),
                                              (2, [SV.bool (BE.lit false)])]))))))
                                (VC.call 19 [SV.var 3] [Base.ptr] (SV.var 12) [] false [11] [] [11, 2]
                                  [(11, [SV.int IntKind.i64 (IE.var 7), SV.int IntKind.i64 (IE.var 8), SV.int IntKind.i64 (IE.var 9), SV.int IntKind.i64 (IE.var 10)]), (2, [SV.bool (BE.lit false)])]
                                  (VC.blk
                                    (VC.call 26 [SV.var 12, SV.int IntKind.i64 (IE.lit 1)] [Base.int IntKind.i64] (SV.int IntKind.i64 (IE.var 14)) [] false [13] [] [13, 11, 2]
                                      [(13, [SV.var 12]), (11, [SV.int IntKind.i64 (IE.var 7), SV.int IntKind.i64 (IE.var 8), SV.int IntKind.i64 (IE.var 9), SV.int IntKind.i64 (IE.var 10)]),
                                        (2, [SV.bool (BE.lit false)])]
                                      (VC.call 11 [SV.var 3] [Base.int IntKind.i64, Base.int IntKind.i64] (SV.tuple [SV.int IntKind.i64 (IE.var 15), SV.int IntKind.i64 (IE.var 16)]) [] false [] []
                                        [13, 11, 2]
                                        [(13, [SV.var 12]), (11, [SV.int IntKind.i64 (IE.var 7), SV.int IntKind.i64 (IE.var 8), SV.int IntKind.i64 (IE.var 9), SV.int IntKind.i64 (IE.var 10)]),
                                          (2, [SV.bool (BE.lit false)])]
                                        (VC.blk
                                          (VC.split (BE.eq (IE.var 14) (IE.lit 0))
                                            (VC.split (BE.not (BE.eq (IE.var 16) (IE.lit 9)))
                                              (VC.leafM 0 [SV.bool (BE.lit false)] [2, 17]
                                                [(17, [SV.int IntKind.i64 (IE.var 15)]), (13, [SV.var 12]),
                                                  (11, [SV.int IntKind.i64 (IE.var 7), SV.int IntKind.i64 (IE.var 8), SV.int IntKind.i64 (IE.var 9), SV.int IntKind.i64 (IE.var 10)]),
                                                  (2, [SV.bool (BE.lit false)])])
                                              (VC.ob (BE.le (IE.lit (-9223372036854775808)) (IE.add (IE.var 6) (IE.lit 1)))
                                                (VC.ob (BE.le (IE.add (IE.var 6) (IE.lit 1)) (IE.lit 9223372036854775807))
                                                  (VC.leaf 1 [SV.int IntKind.i64 (IE.add (IE.var 6) (IE.lit 1))] [17]
                                                    [(17, [SV.int IntKind.i64 (IE.var 15)]), (13, [SV.var 12]),
                                                      (11, [SV.int IntKind.i64 (IE.var 7), SV.int IntKind.i64 (IE.var 8), SV.int IntKind.i64 (IE.var 9), SV.int IntKind.i64 (IE.var 10)]),
                                                      (2, [SV.bool (BE.lit false)])]))))
                                            (VC.call 10 [SV.int IntKind.i64 (IE.var 16)] [Base.int IntKind.i64] (SV.int IntKind.i64 (IE.var 18)) [] false [17] [] [17, 13, 11, 2]
                                              [(17, [SV.int IntKind.i64 (IE.var 15)]), (13, [SV.var 12]),
                                                (11, [SV.int IntKind.i64 (IE.var 7), SV.int IntKind.i64 (IE.var 8), SV.int IntKind.i64 (IE.var 9), SV.int IntKind.i64 (IE.var 10)]),
                                                (2, [SV.bool (BE.lit false)])]
                                              (VC.split (BE.not (BE.eq (IE.var 18) (IE.lit 0)))
                                                (VC.leafM 0 [SV.bool (BE.lit false)] [2]
                                                  [(17, [SV.int IntKind.i64 (IE.var 15)]), (13, [SV.var 12]),
                                                    (11, [SV.int IntKind.i64 (IE.var 7), SV.int IntKind.i64 (IE.var 8), SV.int IntKind.i64 (IE.var 9), SV.int IntKind.i64 (IE.var 10)]),
                                                    (2, [SV.bool (BE.lit false)])])
                                                (VC.call 24 [SV.var 12, SV.int IntKind.i64 (IE.var 15)] [Base.int IntKind.i64] (SV.int IntKind.i64 (IE.var 19)) [] false [] [] [17, 13, 11, 2]
                                                  [(17, [SV.int IntKind.i64 (IE.var 15)]), (13, [SV.var 12]),
                                                    (11, [SV.int IntKind.i64 (IE.var 7), SV.int IntKind.i64 (IE.var 8), SV.int IntKind.i64 (IE.var 9), SV.int IntKind.i64 (IE.var 10)]),
                                                    (2, [SV.bool (BE.lit false)])]
                                                  (VC.split (BE.not (BE.eq (IE.var 19) (IE.lit 1)))
                                                    (VC.leafM 0 [SV.bool (BE.lit false)] [2]
                                                      [(17, [SV.int IntKind.i64 (IE.var 15)]), (13, [SV.var 12]),
                                                        (11, [SV.int IntKind.i64 (IE.var 7), SV.int IntKind.i64 (IE.var 8), SV.int IntKind.i64 (IE.var 9), SV.int IntKind.i64 (IE.var 10)]),
                                                        (2, [SV.bool (BE.lit false)])])
                                                    (VC.call 24 [SV.var 3, SV.int IntKind.i64 (IE.var 15)] [Base.int IntKind.i64] (SV.int IntKind.i64 (IE.var 20)) [] false [] [] [17, 13, 11, 2]
                                                      [(17, [SV.int IntKind.i64 (IE.var 15)]), (13, [SV.var 12]),
                                                        (11, [SV.int IntKind.i64 (IE.var 7), SV.int IntKind.i64 (IE.var 8), SV.int IntKind.i64 (IE.var 9), SV.int IntKind.i64 (IE.var 10)]),
                                                        (2, [SV.bool (BE.lit false)])]
                                                      (VC.split (BE.not (BE.eq (IE.var 20) (IE.lit 2)))
                                                        (VC.leafM 0 [SV.bool (BE.lit false)] [2]
                                                          [(17, [SV.int IntKind.i64 (IE.var 15)]), (13, [SV.var 12]),
                                                            (11, [SV.int IntKind.i64 (IE.var 7), SV.int IntKind.i64 (IE.var 8), SV.int IntKind.i64 (IE.var 9), SV.int IntKind.i64 (IE.var 10)]),
                                                            (2, [SV.bool (BE.lit false)])])
                                                        (VC.call 26 [SV.var 3, SV.int IntKind.i64 (IE.lit 1)] [Base.int IntKind.i64] (SV.int IntKind.i64 (IE.var 21)) [] false [] [] [17, 13, 11, 2]
                                                          [(17, [SV.int IntKind.i64 (IE.var 15)]), (13, [SV.var 12]),
                                                            (11, [SV.int IntKind.i64 (IE.var 7), SV.int IntKind.i64 (IE.var 8), SV.int IntKind.i64 (IE.var 9), SV.int IntKind.i64 (IE.var 10)]),
                                                            (2, [SV.bool (BE.lit false)])]
                                                          (VC.ob (BE.le (IE.lit (-9223372036854775808)) (IE.sub (IE.var 14) (IE.lit 1)))
                                                            (VC.ob (BE.le (IE.sub (IE.var 14) (IE.lit 1)) (IE.lit 9223372036854775807))
                                                              (VC.split (BE.not (BE.eq (IE.var 21) (IE.sub (IE.var 14) (IE.lit 1))))
                                                                (VC.leafM 0 [SV.bool (BE.lit false)] [2]
                                                                  [(17, [SV.int IntKind.i64 (IE.var 15)]), (13, [SV.var 12]),
                                                                    (11, [SV.int IntKind.i64 (IE.var 7), SV.int IntKind.i64 (IE.var 8), SV.int IntKind.i64 (IE.var 9), SV.int IntKind.i64 (IE.var 10)]),
                                                                    (2, [SV.bool (BE.lit false)])])
                                                                (VC.call 17 [SV.var 12, SV.int IntKind.i64 (IE.lit 1)] [Base.func] (SV.var 22) [] false [] [] [17, 13, 11, 2]
                                                                  [(17, [SV.int IntKind.i64 (IE.var 15)]), (13, [SV.var 12]),
                                                                    (11, [SV.int IntKind.i64 (IE.var 7), SV.int IntKind.i64 (IE.var 8), SV.int IntKind.i64 (IE.var 9), SV.int IntKind.i64 (IE.var 10)]),
                                                                    (2, [SV.bool (BE.lit false)])]
                                                                  (VC.split (BE.nil 22)
                                                                    (VC.leafM 0 [SV.bool (BE.lit false)] [2]
                                                                      [(17, [SV.int IntKind.i64 (IE.var 15)]), (13, [SV.var 12]),
                                                                        (11,
                                                                          [SV.int IntKind.i64 (IE.var 7), SV.int IntKind.i64 (IE.var 8), SV.int IntKind.i64 (IE.var 9),
                                                                            SV.int IntKind.i64 (IE.var 10)]),
                                                                        (2, [SV.bool (BE.lit false)])])
                                                                    (VC.range 2 (SV.var 22) [Base.int IntKind.i64, Base.int IntKind.i64] [3, 3] [] [] [] [17, 13, 11, 2]
                                                                      [(17, [SV.int IntKind.i64 (IE.var 15)]), (13, [SV.var 12]),
                                                                        (11,
                                                                          [SV.int IntKind.i64 (IE.var 7), SV.int IntKind.i64 (IE.var 8), SV.int IntKind.i64 (IE.var 9),
                                                                            SV.int IntKind.i64 (IE.var 10)]),
                                                                        (2, [SV.bool (BE.lit false)])]
                                                                      [(17, [SV.int IntKind.i64 (IE.var 15)]), (13, [SV.var 12]),
                                                                        (11,
                                                                          [SV.int IntKind.i64 (IE.var 7), SV.int IntKind.i64 (IE.var 8), SV.int IntKind.i64 (IE.var 9),
                                                                            SV.int IntKind.i64 (IE.var 10)]),
                                                                        (2, [SV.bool (BE.lit false)])]
                                                                      (VC.call 25 [SV.var 12, SV.int IntKind.i64 (IE.var 15)] [Base.int IntKind.i64] (SV.int IntKind.i64 (IE.var 25)) [] false [] []
                                                                        [17, 13, 11, 2]
                                                                        [(17, [SV.int IntKind.i64 (IE.var 15)]), (13, [SV.var 12]),
                                                                          (11,
                                                                            [SV.int IntKind.i64 (IE.var 7), SV.int IntKind.i64 (IE.var 8), SV.int IntKind.i64 (IE.var 9),
                                                                              SV.int IntKind.i64 (IE.var 10)]),
                                                                          (2, [SV.bool (BE.lit false)])]
                                                                        (VC.split (BE.lt (IE.var 24) (IE.var 25))
                                                                          (VC.resume [2] [17, 13, 11, 2]
                                                                            [(17, [SV.int IntKind.i64 (IE.var 15)]), (13, [SV.var 12]),
                                                                              (11,
                                                                                [SV.int IntKind.i64 (IE.var 7), SV.int IntKind.i64 (IE.var 8), SV.int IntKind.i64 (IE.var 9),
                                                                                  SV.int IntKind.i64 (IE.var 10)]),
                                                                              (2, [SV.bool (BE.lit false)])]
                                                                            (VC.leafM 0 [SV.bool (BE.lit false)] []
                                                                              [(17, [SV.int IntKind.i64 (IE.var 15)]), (13, [SV.var 12]),
                                                                                (11,
                                                                                  [SV.int IntKind.i64 (IE.var 7), SV.int IntKind.i64 (IE.var 8), SV.int IntKind.i64 (IE.var 9),
                                                                                    SV.int IntKind.i64 (IE.var 10)]),
                                                                                (2, [SV.bool (BE.lit false)])]))
                                                                          (VC.call 25 [SV.var 12, SV.int IntKind.i64 (IE.var 15)] [Base.int IntKind.i64] (SV.int IntKind.i64 (IE.var 26)) [] false [] []
                                                                            [17, 13, 11, 2]
                                                                            [(17, [SV.int IntKind.i64 (IE.var 15)]), (13, [SV.var 12]),
                                                                              (11,
                                                                                [SV.int IntKind.i64 (IE.var 7), SV.int IntKind.i64 (IE.var 8), SV.int IntKind.i64 (IE.var 9),
                                                                                  SV.int IntKind.i64 (IE.var 10)]),
                                                                              (2, [SV.bool (BE.lit false)])]
                                                                            (VC.split (BE.eq (IE.var 24) (IE.var 26))
                                                                              (VC.split (BE.lt (IE.var 23) (IE.var 15))
                                                                                (VC.resume [2] [17, 13, 11, 2]
                                                                                  [(17, [SV.int IntKind.i64 (IE.var 15)]), (13, [SV.var 12]),
                                                                                    (11,
                                                                                      [SV.int IntKind.i64 (IE.var 7), SV.int IntKind.i64 (IE.var 8), SV.int IntKind.i64 (IE.var 9),
                                                                                        SV.int IntKind.i64 (IE.var 10)]),
                                                                                    (2, [SV.bool (BE.lit false)])]
                                                                                  (VC.leafM 0 [SV.bool (BE.lit false)] []
                                                                                    [(17, [SV.int IntKind.i64 (IE.var 15)]), (13, [SV.var 12]),
                                                                                      (11,
                                                                                        [SV.int IntKind.i64 (IE.var 7), SV.int IntKind.i64 (IE.var 8), SV.int IntKind.i64 (IE.var 9),
                                                                                          SV.int IntKind.i64 (IE.var 10)]),
                                                                                      (2, [SV.bool (BE.lit false)])]))
                                                                                (VC.leaf 2 [] []
                                                                                  [(17, [SV.int IntKind.i64 (IE.var 15)]), (13, [SV.var 12]),
                                                                                    (11,
                                                                                      [SV.int IntKind.i64 (IE.var 7), SV.int IntKind.i64 (IE.var 8), SV.int IntKind.i64 (IE.var 9),
                                                                                        SV.int IntKind.i64 (IE.var 10)]),
                                                                                    (2, [SV.bool (BE.lit false)])]))
                                                                              (VC.leaf 2 [] []
                                                                                [(17, [SV.int IntKind.i64 (IE.var 15)]), (13, [SV.var 12]),
                                                                                  (11,
                                                                                    [SV.int IntKind.i64 (IE.var 7), SV.int IntKind.i64 (IE.var 8), SV.int IntKind.i64 (IE.var 9),
                                                                                      SV.int IntKind.i64 (IE.var 10)]),
                                                                                  (2, [SV.bool (BE.lit false)])])))))
                                                                      (VC.ob (BE.le (IE.lit (-9223372036854775808)) (IE.add (IE.var 6) (IE.lit 1)))
                                                                        (VC.ob (BE.le (IE.add (IE.var 6) (IE.lit 1)) (IE.lit 9223372036854775807))
                                                                          (VC.leaf 1 [SV.int IntKind.i64 (IE.add (IE.var 6) (IE.lit 1))] []
                                                                            [(17, [SV.int IntKind.i64 (IE.var 15)]), (13, [SV.var 12]),
                                                                              (11,
                                                                                [SV.int IntKind.i64 (IE.var 7), SV.int IntKind.i64 (IE.var 8), SV.int IntKind.i64 (IE.var 9),
                                                                                  SV.int IntKind.i64 (IE.var 10)]),
                                                                              (2, [SV.bool (BE.lit false)])])))))))))))))))))))))))
                              (VC.call 19 [SV.var 3] [Base.ptr] (SV.var 12) [] false [11] [] [11, 2]
                                [(11, [SV.int IntKind.i64 (IE.var 7), SV.int IntKind.i64 (IE.var 8), SV.int IntKind.i64 (IE.var 9), SV.int IntKind.i64 (IE.var 10)]), (2, [SV.bool (BE.lit false)])]
                                (VC.blk
                                  (VC.call 26 [SV.var 12, SV.int IntKind.i64 (IE.lit 1)] [Base.int IntKind.i64] (SV.int IntKind.i64 (IE.var 14)) [] false [13] [] [13, 11, 2]
                                    [(13, [SV.var 12]), (11, [SV.int IntKind.i64 (IE.var 7), SV.int IntKind.i64 (IE.var 8), SV.int IntKind.i64 (IE.var 9), SV.int IntKind.i64 (IE.var 10)]),
                                      (2, [SV.bool (BE.lit false)])]
                                    (VC.call 11 [SV.var 3] [Base.int IntKind.i64, Base.int IntKind.i64] (SV.tuple [SV.int IntKind.i64 (IE.var 15), SV.int IntKind.i64 (IE.var 16)]) [] false [] []
                                      [13, 11, 2]
                                      [(13, [SV.var 12]), (11, [SV.int IntKind.i64 (IE.var 7), SV.int IntKind.i64 (IE.var 8), SV.int IntKind.i64 (IE.var 9), SV.int IntKind.i64 (IE.var 10)]),
                                        (2, [SV.bool (BE.lit false)])]
                                      (VC.blk
                                        (VC.split (BE.eq (IE.var 14) (IE.lit 0))
                                          (VC.split (BE.not (BE.eq (IE.var 16) (IE.lit 9)))
                                            (VC.leafM 0 [SV.bool (BE.lit false)] [2, 17]
                                              [(17, [SV.int IntKind.i64 (IE.var 15)]), (13, [SV.var 12]),
                                                (11, [SV.int IntKind.i64 (IE.var 7), SV.int IntKind.i64 (IE.var 8), SV.int IntKind.i64 (IE.var 9), SV.int IntKind.i64 (IE.var 10)]),
                                                (2, [SV.bool (BE.lit false)])])
                                            (VC.ob (BE.le (IE.lit (-9223372036854775808)) (IE.add (IE.var 6) (IE.lit 1)))
                                              (VC.ob (BE.le (IE.add (IE.var 6) (IE.lit 1)) (IE.lit 9223372036854775807))
                                                (VC.leaf 1 [SV.int IntKind.i64 (IE.add (IE.var 6) (IE.lit 1))] [17]
                                                  [(17, [SV.int IntKind.i64 (IE.var 15)]), (13, [SV.var 12]),
                                                    (11, [SV.int IntKind.i64 (IE.var 7), SV.int IntKind.i64 (IE.var 8), SV.int IntKind.i64 (IE.var 9), SV.int IntKind.i64 (IE.var 10)]),
                                                    (2, [SV.bool (BE.lit false)])]))))
                                          (VC.call 10 [SV.int IntKind.i64 (IE.var 16)] [Base.int IntKind.i64] (SV.int IntKind.i64 (IE.var 18)) [] false [17] [] [17, 13, 11, 2]
                                            [(17, [SV.int IntKind.i64 (IE.var 15)]), (13, [SV.var 12]),
                                              (11, [SV.int IntKind.i64 (IE.var 7), SV.int IntKind.i64 (IE.var 8), SV.int IntKind.i64 (IE.var 9), SV.int IntKind.i64 (IE.var 10)]),
                                              (2, [SV.bool (BE.lit false)])]
                                            (VC.split (BE.not (BE.eq (IE.var 18) (IE.lit 0)))
                                              (VC.leafM 0 [SV.bool (BE.lit false)] [2]
                                                [(17, [SV.int IntKind.i64 (IE.var 15)]), (13, [SV.var 12]),
                                                  (11, [SV.int IntKind.i64 (IE.var 7), SV.int IntKind.i64 (IE.var 8), SV.int IntKind.i64 (IE.var 9), SV.int IntKind.i64 (IE.var 10)]),
                                                  (2, [SV.bool (BE.lit false)])])
                                              (VC.call 24 [SV.var 12, SV.int IntKind.i64 (IE.var 15)] [Base.int IntKind.i64] (SV.int IntKind.i64 (IE.var 19)) [] false [] [] [17, 13, 11, 2]
                                                [(17, [SV.int IntKind.i64 (IE.var 15)]), (13, [SV.var 12]),
                                                  (11, [SV.int IntKind.i64 (IE.var 7), SV.int IntKind.i64 (IE.var 8), SV.int IntKind.i64 (IE.var 9), SV.int IntKind.i64 (IE.var 10)]),
                                                  (2, [SV.bool (BE.lit false)])]
                                                (VC.split (BE.not (BE.eq (IE.var 19) (IE.lit 1)))
                                                  (VC.leafM 0 [SV.bool (BE.lit false)] [2]
                                                    [(17, [SV.int IntKind.i64 (IE.var 15)]), (13, [SV.var 12]),
                                                      (11, [SV.int IntKind.i64 (IE.var 7), SV.int IntKind.i64 (IE.var 8), SV.int IntKind.i64 (IE.var 9), SV.int IntKind.i64 (IE.var 10)]),
                                                      (2, [SV.bool (BE.lit false)])])
                                                  (VC.call 24 [SV.var 3, SV.int IntKind.i64 (IE.var 15)] [Base.int IntKind.i64] (SV.int IntKind.i64 (IE.var 20)) [] false [] [] [17, 13, 11, 2]
                                                    [(17, [SV.int IntKind.i64 (IE.var 15)]), (13, [SV.var 12]),
                                                      (11, [SV.int IntKind.i64 (IE.var 7), SV.int IntKind.i64 (IE.var 8), SV.int IntKind.i64 (IE.var 9), SV.int IntKind.i64 (IE.var 10)]),
                                                      (2, [SV.bool (BE.lit false)])]
                                                    (VC.split (BE.not (BE.eq (IE.var 20) (IE.lit 2)))
                                                      (VC.leafM 0 [SV.bool (BE.lit false)] [2]
                                                        [(17, [SV.int IntKind.i64 (IE.var 15)]), (13, [SV.var 12]),
                                                          (11, [SV.int IntKind.i64 (IE.var 7), SV.int IntKind.i64 (IE.var 8), SV.int IntKind.i64 (IE.var 9), SV.int IntKind.i64 (IE.var 10)]),
                                                          (2, [SV.bool (BE.lit false)])])
                                                      (VC.call 26 [SV.var 3, SV.int IntKind.i64 (IE.lit 1)] [Base.int IntKind.i64] (SV.int IntKind.i64 (IE.var 21)) [] false [] [] [17, 13, 11, 2]
                                                        [(17, [SV.int IntKind.i64 (IE.var 15)]), (13, [SV.var 12]),
                                                          (11, [SV.int IntKind.i64 (IE.var 7), SV.int IntKind.i64 (IE.var 8), SV.int IntKind.i64 (IE.var 9), SV.int IntKind.i64 (IE.var 10)]),
                                                          (2, [SV.bool (BE.lit false)])]
                                                        (VC.ob (BE.le (IE.lit (-9223372036854775808)) (IE.sub (IE.var 14) (IE.lit 1)))
                                                          (VC.ob (BE.le (IE.sub (IE.var 14) (IE.lit 1)) (IE.lit 9223372036854775807))
                                                            (VC.split (BE.not (BE.eq (IE.var 21) (IE.sub (IE.var 14) (IE.lit 1))))
                                                              (VC.leafM 0 [SV.bool (BE.lit false)] [2]
                                                                [(17, [SV.int IntKind.i64 (IE.var 15)]), (13, [SV.var 12]),
                                                                  (11, [SV.int IntKind.i64 (IE.var 7), SV.int IntKind.i64 (IE.var 8), SV.int IntKind.i64 (IE.var 9), SV.int IntKind.i64 (IE.var 10)]),
                                                                  (2, [SV.bool (BE.lit false)])])
                                                              (VC.call 17 [SV.var 12, SV.int IntKind.i64 (IE.lit 1)] [Base.func] (SV.var 22) [] false [] [] [17, 13, 11, 2]
                                                                [(17, [SV.int IntKind.i64 (IE.var 15)]), (13, [SV.var 12]),
                                                                  (11, [SV.int IntKind.i64 (IE.var 7), SV.int IntKind.i64 (IE.var 8), SV.int IntKind.i64 (IE.var 9), SV.int IntKind.i64 (IE.var 10)]),
                                                                  (2, [SV.bool (BE.lit false)])]
                                                                (VC.split (BE.nil 22)
                                                                  (VC.leafM 0 [SV.bool (BE.lit false)] [2]
                                                                    [(17, [SV.int IntKind.i64 (IE.var 15)]), (13, [SV.var 12]),
                                                                      (11,
                                                                        [SV.int IntKind.i64 (IE.var 7), SV.int IntKind.i64 (IE.var 8), SV.int IntKind.i64 (IE.var 9), SV.int IntKind.i64 (IE.var 10)]),
                                                                      (2, [SV.bool (BE.lit false)])])
                                                                  (VC.range 2 (SV.var 22) [Base.int IntKind.i64, Base.int IntKind.i64] [3, 3] [] [] [] [17, 13, 11, 2]
                                                                    [(17, [SV.int IntKind.i64 (IE.var 15)]), (13, [SV.var 12]),
                                                                      (11,
                                                                        [SV.int IntKind.i64 (IE.var 7), SV.int IntKind.i64 (IE.var 8), SV.int IntKind.i64 (IE.var 9), SV.int IntKind.i64 (IE.var 10)]),
                                                                      (2, [SV.bool (BE.lit false)])]
                                                                    [(17, [SV.int IntKind.i64 (IE.var 15)]), (13, [SV.var 12]),
                                                                      (11,
                                                                        [SV.int IntKind.i64 (IE.var 7), SV.int IntKind.i64 (IE.var 8), SV.int IntKind.i64 (IE.var 9), SV.int IntKind.i64 (IE.var 10)]),
                                                                      (2, [SV.bool (BE.lit false)])]
                                                                    (VC.call 25 [SV.var 12, SV.int IntKind.i64 (IE.var 15)] [Base.int IntKind.i64] (SV.int IntKind.i64 (IE.var 25)) [] false [] []
                                                                      [17, 13, 11, 2]
                                                                      [(17, [SV.int IntKind.i64 (IE.var 15)]), (13, [SV.var 12]),
                                                                        (11,
                                                                          [SV.int IntKind.i64 (IE.var 7), SV.int IntKind.i64 (IE.var 8), SV.int IntKind.i64 (IE.var 9),
                                                                            SV.int IntKind.i64 (IE.var 10)]),
                                                                        (2, [SV.bool (BE.lit false)])]
                                                                      (VC.split (BE.lt (IE.var 24) (IE.var 25))
                                                                        (VC.resume [2] [17, 13, 11, 2]
                                                                          [(17, [SV.int IntKind.i64 (IE.var 15)]), (13, [SV.var 12]),
                                                                            (11,
                                                                              [SV.int IntKind.i64 (IE.var 7), SV.int IntKind.i64 (IE.var 8), SV.int IntKind.i64 (IE.var 9),
                                                                                SV.int IntKind.i64 (IE.var 10)]),
                                                                            (2, [SV.bool (BE.lit false)])]
                                                                          (VC.leafM 0 [SV.bool (BE.lit false)] []
                                                                            [(17, [SV.int IntKind.i64 (IE.var 15)]), (13, [SV.var 12]),
                                                                              (11,
                                                                                [SV.int IntKind.i64 (IE.var 7), SV.int IntKind.i64 (IE.var 8), SV.int IntKind.i64 (IE.var 9),
                                                                                  SV.int IntKind.i64 (IE.var 10)]),
                                                                              (2, [SV.bool (BE.lit false)])]))
                                                                        (VC.call 25 [SV.var 12, SV.int IntKind.i64 (IE.var 15)] [Base.int IntKind.i64] (SV.int IntKind.i64 (IE.var 26)) [] false [] []
                                                                          [17, 13, 11, 2]
                                                                          [(17, [SV.int IntKind.i64 (IE.var 15)]), (13, [SV.var 12]),
                                                                            (11,
                                                                              [SV.int IntKind.i64 (IE.var 7), SV.int IntKind.i64 (IE.var 8), SV.int IntKind.i64 (IE.var 9),
                                                                                SV.int IntKind.i64 (IE.var 10)]),
                                                                            (2, [SV.bool (BE.lit false)])]
                                                                          (VC.split (BE.eq (IE.var 24) (IE.var 26))
                                                                            (VC.split (BE.lt (IE.var 23) (IE.var 15))
                                                                              (VC.resume [2] [17, 13, 11, 2]
                                                                                [(17, [SV.int IntKind.i64 (IE.var 15)]), (13, [SV.var 12]),
                                                                                  (11,
                                                                                    [SV.int IntKind.i64 (IE.var 7), SV.int IntKind.i64 (IE.var 8), SV.int IntKind.i64 (IE.var 9),
                                                                                      SV.int IntKind.i64 (IE.var 10)]),
                                                                                  (2, [SV.bool (BE.lit false)])]
                                                                                (VC.leafM 0 [SV.bool (BE.lit false)] []
                                                                                  [(17, [SV.int IntKind.i64 (IE.var 15)]), (13, [SV.var 12]),
                                                                                    (11,
                                                                                      [SV.int IntKind.i64 (IE.var 7), SV.int IntKind.i64 (IE.var 8), SV.int IntKind.i64 (IE.var 9),
                                                                                        SV.int IntKind.i64 (IE.var 10)]),
                                                                                    (2, [SV.bool (BE.lit false)])]))
                                                                              (VC.leaf 2 [] []
                                                                                [(17, [SV.int IntKind.i64 (IE.var 15)]), (13, [SV.var 12]),
                                                                                  (11,
                                                                                    [SV.int IntKind.i64 (IE.var 7), SV.int IntKind.i64 (IE.var 8), SV.int IntKind.i64 (IE.var 9),
                                                                                      SV.int IntKind.i64 (IE.var 10)]),
                                                                                  (2, [SV.bool (BE.lit false)])]))
                                                                            (VC.leaf 2 [] []
                                                                              [(17, [SV.int IntKind.i64 (IE.var 15)]), (13, [SV.var 12]),
                                                                                (11,
                                                                                  [SV.int IntKind.i64 (IE.var 7), SV.int IntKind.i64 (IE.var 8), SV.int IntKind.i64 (IE.var 9),
                                                                                    SV.int IntKind.i64 (IE.var 10)]),
                                                                                (2, [SV.bool (BE.lit false)])])))))
                                                                    (VC.ob (BE.le (IE.lit (-9223372036854775808)) (IE.add (IE.var 6) (IE.lit 1)))
                                                                      (VC.ob (BE.le (IE.add (IE.var 6) (IE.lit 1)) (IE.lit 9223372036854775807))
                                                                        (VC.leaf 1 [SV.int IntKind.i64 (IE.add (IE.var 6) (IE.lit 1))] []
                                                                          [(17, [SV.int IntKind.i64 (IE.var 15)]), (13, [SV.var 12]),
                                                                            (11,
                                                                              [SV.int IntKind.i64 (IE.var 7), SV.int IntKind.i64 (IE.var 8), SV.int IntKind.i64 (IE.var 9),
                                                                                SV.int IntKind.i64 (IE.var 10)]),
                                                                            (2, [SV.bool (BE.lit false)])])))))))))))))))))))))))))))))
                (VC.call 8 [] [Base.bool] (SV.bool (BE.var 7)) [] false [] [] [2] [(2, [SV.bool (BE.lit false)])] (VC.leafM 0 [SV.bool (BE.var 7)] [2] [(2, [SV.bool (BE.var 7)])]))))))))) := by kernel_rfl

theorem t5 : exFn { P := Try.prog, loops := (fun r => if Nat.beq r 10 then some ⟨1, [(13, .int .i64), (11, .slice)], []⟩ else none), ranged := true, ranges := fun t => if Nat.beq t 99 then some ⟨2, [3, 3], [23]⟩ else none } 5 [.var 0, .var 1, .agg [.int .i64 (.var 2), .int .i64 (.var 3), .int .i64 (.var 4), .int .i64 (.var 5), .int .i64 (.var 6), .int .i64 (.var 7), .int .i64 (.var 8), .int .i64 (.var 9)], .int .i64 (.var 10)] [.slice, .slice, .int .i64, .int .i64, .int .i64, .int .i64, .int .i64, .int .i64, .int .i64, .int .i64, .int .i64] [] =
  VC.blk
  (VC.blk
    (VC.blk
      (VC.split (BE.lt (IE.lit 20) (IE.len 0))
        (VC.call 8 [] [Base.bool] (SV.bool (BE.var 14)) [] false [] [] [13, 12, 11]
          [(13, [SV.bool (BE.lit false)]), (12, [SV.int IntKind.i64 (IE.var 10)]),
            (11,
              [SV.int IntKind.i64 (IE.var 2), SV.int IntKind.i64 (IE.var 3), SV.int IntKind.i64 (IE.var 4), SV.int IntKind.i64 (IE.var 5), SV.int IntKind.i64 (IE.var 6), SV.int IntKind.i64 (IE.var 7),
                SV.int IntKind.i64 (IE.var 8), SV.int IntKind.i64 (IE.var 9)])]
          (VC.leafM 0 [SV.bool (BE.var 14)] [13]
            [(13, [SV.bool (BE.var 14)]), (12, [SV.int IntKind.i64 (IE.var 10)]),
              (11,
                [SV.int IntKind.i64 (IE.var 2), SV.int IntKind.i64 (IE.var 3), SV.int IntKind.i64 (IE.var 4), SV.int IntKind.i64 (IE.var 5), SV.int IntKind.i64 (IE.var 6),
                  SV.int IntKind.i64 (IE.var 7), SV.int IntKind.i64 (IE.var 8), SV.int IntKind.i64 (IE.var 9)])]))
        (VC.split (BE.lt (IE.lit 30) (IE.len 1))
          (VC.call 8 [] [Base.bool] (SV.bool (BE.var 14)) [] false [] [] [13, 12, 11]
            [(13, [SV.bool (BE.lit false)]), (12, [SV.int IntKind.i64 (IE.var 10)]),
              (11,
                [SV.int IntKind.i64 (IE.var 2), SV.int IntKind.i64 (IE.var 3), SV.int IntKind.i64 (IE.var 4), SV.int IntKind.i64 (IE.var 5), SV.int IntKind.i64 (IE.var 6),
                  SV.int IntKind.i64 (IE.var 7), SV.int IntKind.i64 (IE.var 8), SV.int IntKind.i64 (IE.var 9)])]
            (VC.leafM 0 [SV.bool (BE.var 14)] [13]
              [(13, [SV.bool (BE.var 14)]), (12, [SV.int IntKind.i64 (IE.var 10)]),
                (11,
                  [SV.int IntKind.i64 (IE.var 2), SV.int IntKind.i64 (IE.var 3), SV.int IntKind.i64 (IE.var 4), SV.int IntKind.i64 (IE.var 5), SV.int IntKind.i64 (IE.var 6),
                    SV.int IntKind.i64 (IE.var 7), SV.int IntKind.i64 (IE.var 8), SV.int IntKind.i64 (IE.var 9)])]))
          (VC.call 9 [SV.var 0] [Base.ptr, Base.int IntKind.i64] (SV.tuple [SV.var 14, SV.int IntKind.i64 (IE.var 15)]) [] false [] [] [13, 12, 11]
            [(13, [SV.bool (BE.lit false)]), (12, [SV.int IntKind.i64 (IE.var 10)]),
              (11,
                [SV.int IntKind.i64 (IE.var 2), SV.int IntKind.i64 (IE.var 3), SV.int IntKind.i64 (IE.var 4), SV.int IntKind.i64 (IE.var 5), SV.int IntKind.i64 (IE.var 6),
                  SV.int IntKind.i64 (IE.var 7), SV.int IntKind.i64 (IE.var 8), SV.int IntKind.i64 (IE.var 9)])]
            (VC.call 14 [SV.var 0] [Base.slice, Base.int IntKind.i64] (SV.tuple [SV.var 16, SV.int IntKind.i64 (IE.var 17)]) [] false [] [] [13, 12, 11]
              [(13, [SV.bool (BE.lit false)]), (12, [SV.int IntKind.i64 (IE.var 10)]),
                (11,
                  [SV.int IntKind.i64 (IE.var 2), SV.int IntKind.i64 (IE.var 3), SV.int IntKind.i64 (IE.var 4), SV.int IntKind.i64 (IE.var 5), SV.int IntKind.i64 (IE.var 6),
                    SV.int IntKind.i64 (IE.var 7), SV.int IntKind.i64 (IE.var 8), SV.int IntKind.i64 (IE.var 9)])]
              (VC.split (BE.not (BE.eq (IE.var 17) (IE.lit 0)))
                (VC.call 10 [SV.int IntKind.i64 (IE.var 15)] [Base.int IntKind.i64] (SV.int IntKind.i64 (IE.var 18)) [] false [] [] [13, 12, 11]
                  [(13, [SV.bool (BE.lit false)]), (12, [SV.int IntKind.i64 (IE.var 10)]),
                    (11,
                      [SV.int IntKind.i64 (IE.var 2), SV.int IntKind.i64 (IE.var 3), SV.int IntKind.i64 (IE.var 4), SV.int IntKind.i64 (IE.var 5), SV.int IntKind.i64 (IE.var 6),
                        SV.int IntKind.i64 (IE.var 7), SV.int IntKind.i64 (IE.var 8), SV.int IntKind.i64 (IE.var 9)])]
                  (VC.split (BE.eq (IE.var 18) (IE.var 17))
                    (VC.call 8 [] [Base.bool] (SV.bool (BE.var 19)) [] false [] [] [13, 12, 11]
                      [(13, [SV.bool (BE.lit false)]), (12, [SV.int IntKind.i64 (IE.var 10)]),
                        (11,
                          [SV.int IntKind.i64 (IE.var 2), SV.int IntKind.i64 (IE.var 3), SV.int IntKind.i64 (IE.var 4), SV.int IntKind.i64 (IE.var 5), SV.int IntKind.i64 (IE.var 6),
                            SV.int IntKind.i64 (IE.var 7), SV.int IntKind.i64 (IE.var 8), SV.int IntKind.i64 (IE.var 9)])]
                      (VC.leafM 0 [SV.bool (BE.var 19)] [13]
                        [(13, [SV.bool (BE.var 19)]), (12, [SV.int IntKind.i64 (IE.var 10)]),
                          (11,
                            [SV.int IntKind.i64 (IE.var 2), SV.int IntKind.i64 (IE.var 3), SV.int IntKind.i64 (IE.var 4), SV.int IntKind.i64 (IE.var 5), SV.int IntKind.i64 (IE.var 6),
                              SV.int IntKind.i64 (IE.var 7), SV.int IntKind.i64 (IE.var 8), SV.int IntKind.i64 (IE.var 9)])]))
                    (VC.leafM 0 [SV.bool (BE.lit false)] [13]
                      [(13, [SV.bool (BE.lit false)]), (12, [SV.int IntKind.i64 (IE.var 10)]),
                        (11,
                          [SV.int IntKind.i64 (IE.var 2), SV.int IntKind.i64 (IE.var 3), SV.int IntKind.i64 (IE.var 4), SV.int IntKind.i64 (IE.var 5), SV.int IntKind.i64 (IE.var 6),
                            SV.int IntKind.i64 (IE.var 7), SV.int IntKind.i64 (IE.var 8), SV.int IntKind.i64 (IE.var 9)])])))
                (VC.call 10 [SV.int IntKind.i64 (IE.var 15)] [Base.int IntKind.i64] (SV.int IntKind.i64 (IE.var 18)) [] false [] [] [13, 12, 11]
                  [(13, [SV.bool (BE.lit false)]), (12, [SV.int IntKind.i64 (IE.var 10)]),
                    (11,
                      [SV.int IntKind.i64 (IE.var 2), SV.int IntKind.i64 (IE.var 3), SV.int IntKind.i64 (IE.var 4), SV.int IntKind.i64 (IE.var 5), SV.int IntKind.i64 (IE.var 6),
                        SV.int IntKind.i64 (IE.var 7), SV.int IntKind.i64 (IE.var 8), SV.int IntKind.i64 (IE.var 9)])]
                  (VC.split (BE.not (BE.eq (IE.var 18) (IE.lit 0)))
                    (VC.leafM 0 [SV.bool (BE.lit false)] [13]
                      [(13, [SV.bool (BE.lit false)]), (12, [SV.int IntKind.i64 (IE.var 10)]),
                        (11,
                          [SV.int IntKind.i64 (IE.var 2), SV.int IntKind.i64 (IE.var 3), SV.int IntKind.i64 (IE.var 4), SV.int IntKind.i64 (IE.var 5), SV.int IntKind.i64 (IE.var 6),
                            SV.int IntKind.i64 (IE.var 7), SV.int IntKind.i64 (IE.var 8), SV.int IntKind.i64 (IE.var 9)])])
                    (VC.loop 1 [SV.int IntKind.i64 (IE.lit 0), SV.var 16] [Base.int IntKind.i64, Base.slice] [] [13, 12, 11]
                      [(13, [SV.bool (BE.lit false)]), (12, [SV.int IntKind.i64 (IE.var 10)]),
                        (11,
                          [SV.int IntKind.i64 (IE.var 2), SV.int IntKind.i64 (IE.var 3), SV.int IntKind.i64 (IE.var 4), SV.int IntKind.i64 (IE.var 5), SV.int IntKind.i64 (IE.var 6),
                            SV.int IntKind.i64 (IE.var 7), SV.int IntKind.i64 (IE.var 8), SV.int IntKind.i64 (IE.var 9)])]
                      [(13, [SV.bool (BE.lit false)]), (12, [SV.int IntKind.i64 (IE.var 10)]),
                        (11,
                          [SV.int IntKind.i64 (IE.var 2), SV.int IntKind.i64 (IE.var 3), SV.int IntKind.i64 (IE.var 4), SV.int IntKind.i64 (IE.var 5), SV.int IntKind.i64 (IE.var 6),
                            SV.int IntKind.i64 (IE.var 7), SV.int IntKind.i64 (IE.var 8), SV.int IntKind.i64 (IE.var 9)])]
                      (VC.split (BE.lt (IE.var 19) (IE.len 1))
                        (VC.ob (BE.le (IE.lit 0) (IE.var 19))
                          (VC.ob (BE.lt (IE.var 19) (IE.len 1))
                            (VC.ob (BE.not (BE.nil 1))
                              (VC.start false [] []
                                [(13, [SV.bool (BE.lit false)]), (12, [SV.int IntKind.i64 (IE.var 10)]),
                                  (11,
                                    [SV.int IntKind.i64 (IE.var 2), SV.int IntKind.i64 (IE.var 3), SV.int IntKind.i64 (IE.var 4), SV.int IntKind.i64 (IE.var 5), SV.int IntKind.i64 (IE.var 6),
                                      SV.int IntKind.i64 (IE.var 7), SV.int IntKind.i64 (IE.var 8), SV.int IntKind.i64 (IE.var 9)])]
                                (VC.load (SV.elt 1 0 (IE.var 19) 4 0) [Base.int IntKind.i64, Base.int IntKind.i64, Base.int IntKind.i64, Base.int IntKind.i64]
                                  (VC.call 15
                                    [SV.var 14, SV.var 20, SV.agg [SV.int IntKind.i64 (IE.var 21), SV.int IntKind.i64 (IE.var 22), SV.int IntKind.i64 (IE.var 23), SV.int IntKind.i64 (IE.var 24)]]
                                    [Base.slice, Base.bool] (SV.tuple [SV.var 25, SV.bool (BE.var 26)]) [] false [] [] [13, 12, 11]
                                    [(13, [SV.bool (BE.lit false)]), (12, [SV.int IntKind.i64 (IE.var 10)]),
                                      (11,
                                        [SV.int IntKind.i64 (IE.var 2), SV.int IntKind.i64 (IE.var 3), SV.int IntKind.i64 (IE.var 4), SV.int IntKind.i64 (IE.var 5), SV.int IntKind.i64 (IE.var 6),
                                          SV.int IntKind.i64 (IE.var 7), SV.int IntKind.i64 (IE.var 8), SV.int IntKind.i64 (IE.var 9)])]
                                    (VC.split (BE.not (BE.var 26))
                                      (VC.leafM 0 [SV.bool (BE.lit false)] [13]
                                        [(13, [SV.bool (BE.lit false)]), (12, [SV.int IntKind.i64 (IE.var 10)]),
                                          (11,
                                            [SV.int IntKind.i64 (IE.var 2), SV.int IntKind.i64 (IE.var 3), SV.int IntKind.i64 (IE.var 4), SV.int IntKind.i64 (IE.var 5), SV.int IntKind.i64 (IE.var 6),
                                              SV.int IntKind.i64 (IE.var 7), SV.int IntKind.i64 (IE.var 8), SV.int IntKind.i64 (IE.var 9)])])
                                      (VC.ob (BE.le (IE.lit (-9223372036854775808)) (IE.add (IE.var 19) (IE.lit 1)))
                                        (VC.ob (BE.le (IE.add (IE.var 19) (IE.lit 1)) (IE.lit 9223372036854775807))
                                          (VC.leaf 1 [SV.int IntKind.i64 (IE.add (IE.var 19) (IE.lit 1)), SV.var 25] []
                                            [(13, [SV.bool (BE.lit false)]), (12, [SV.int IntKind.i64 (IE.var 10)]),
                                              (11,
                                                [SV.int IntKind.i64 (IE.var 2), SV.int IntKind.i64 (IE.var 3), SV.int IntKind.i64 (IE.var 4), SV.int IntKind.i64 (IE.var 5),
                                                  SV.int IntKind.i64 (IE.var 6), SV.int IntKind.i64 (IE.var 7), SV.int IntKind.i64 (IE.var 8), SV.int IntKind.i64 (IE.var 9)])]))))))))))
                        (VC.call 17 [SV.var 14, SV.int IntKind.i64 (IE.lit 1)] [Base.func] (SV.var 21) [] false [] [] [13, 12, 11]
                          [(13, [SV.bool (BE.lit false)]), (12, [SV.int IntKind.i64 (IE.var 10)]),
                            (11,
                              [SV.int IntKind.i64 (IE.var 2), SV.int IntKind.i64 (IE.var 3), SV.int IntKind.i64 (IE.var 4), SV.int IntKind.i64 (IE.var 5), SV.int IntKind.i64 (IE.var 6),
                                SV.int IntKind.i64 (IE.var 7), SV.int IntKind.i64 (IE.var 8), SV.int IntKind.i64 (IE.var 9)])]
                          (VC.split (BE.nil 21)
                            (VC.leafM 0 [SV.bool (BE.lit false)] [13]
                              [(13, [SV.bool (BE.lit false)]), (12, [SV.int IntKind.i64 (IE.var 10)]),
                                (11,
                                  [SV.int IntKind.i64 (IE.var 2), SV.int IntKind.i64 (IE.var 3), SV.int IntKind.i64 (IE.var 4), SV.int IntKind.i64 (IE.var 5), SV.int IntKind.i64 (IE.var 6),
                                    SV.int IntKind.i64 (IE.var 7), SV.int IntKind.i64 (IE.var 8), SV.int IntKind.i64 (IE.var 9)])])
                            (VC.call 18 [SV.var 20, SV.int IntKind.i64 (IE.lit 1)] [Base.slice] (SV.var 22) [] false [] [] [13, 12, 11]
                              [(13, [SV.bool (BE.lit false)]), (12, [SV.int IntKind.i64 (IE.var 10)]),
                                (11,
                                  [SV.int IntKind.i64 (IE.var 2), SV.int IntKind.i64 (IE.var 3), SV.int IntKind.i64 (IE.var 4), SV.int IntKind.i64 (IE.var 5), SV.int IntKind.i64 (IE.var 6),
                                    SV.int IntKind.i64 (IE.var 7), SV.int IntKind.i64 (IE.var 8), SV.int IntKind.i64 (IE.var 9)])]
                              (VC.blk
                                (VC.call 19 [SV.var 14] [Base.ptr] (SV.var 24) [] false [23] [] [23, 13, 12, 11]
                                  [(23, [SV.var 22]), (13, [SV.bool (BE.lit false)]), (12, [SV.int IntKind.i64 (IE.var 10)]),
                                    (11,
                                      [SV.int IntKind.i64 (IE.var 2), SV.int IntKind.i64 (IE.var 3), SV.int IntKind.i64 (IE.var 4), SV.int IntKind.i64 (IE.var 5), SV.int IntKind.i64 (IE.var 6),
                                        SV.int IntKind.i64 (IE.var 7), SV.int IntKind.i64 (IE.var 8), SV.int IntKind.i64 (IE.var 9)])]
                                  (VC.call 15
                                    [SV.var 14, SV.var 20, SV.agg [SV.int IntKind.i64 (IE.var 2), SV.int IntKind.i64 (IE.var 3), SV.int IntKind.i64 (IE.var 4), SV.int IntKind.i64 (IE.var 5)]]
                                    [Base.slice, Base.bool] (SV.tuple [SV.var 25, SV.bool (BE.var 26)]) [] false [] [] [23, 13, 12, 11]
                                    [(23, [SV.var 22]), (13, [SV.bool (BE.lit false)]), (12, [SV.int IntKind.i64 (IE.var 10)]),
                                      (11,
                                        [SV.int IntKind.i64 (IE.var 2), SV.int IntKind.i64 (IE.var 3), SV.int IntKind.i64 (IE.var 4), SV.int IntKind.i64 (IE.var 5), SV.int IntKind.i64 (IE.var 6),
                                          SV.int IntKind.i64 (IE.var 7), SV.int IntKind.i64 (IE.var 8), SV.int IntKind.i64 (IE.var 9)])]
                                    (VC.call 15
                                      [SV.var 24, SV.var 20, SV.agg [SV.int IntKind.i64 (IE.var 6), SV.int IntKind.i64 (IE.var 7), SV.int IntKind.i64 (IE.var 8), SV.int IntKind.i64 (IE.var 9)]]
                                      [Base.slice, Base.bool] (SV.tuple [SV.var 27, SV.bool (BE.var 28)]) [] false [] [] [23, 13, 12, 11]
                                      [(23, [SV.var 22]), (13, [SV.bool (BE.lit false)]), (12, [SV.int IntKind.i64 (IE.var 10)]),
                                        (11,
                                          [SV.int IntKind.i64 (IE.var 2), SV.int IntKind.i64 (IE.var 3), SV.int IntKind.i64 (IE.var 4), SV.int IntKind.i64 (IE.var 5), SV.int IntKind.i64 (IE.var 6),
                                            SV.int IntKind.i64 (IE.var 7), SV.int IntKind.i64 (IE.var 8), SV.int IntKind.i64 (IE.var 9)])]
                                      (VC.blk
                                        (VC.range 2 (SV.var 21) [Base.int IntKind.i64, Base.int IntKind.i64] [3, 3] [SV.int IntKind.i64 (IE.lit 0)] [Base.int IntKind.i64] [29] [29, 23, 13, 12, 11]
                                          [(29, [SV.int IntKind.i64 (IE.lit 0)]), (23, [SV.var 22]), (13, [SV.bool (BE.lit false)]), (12, [SV.int IntKind.i64 (IE.var 10)]),
                                            (11,
                                              [SV.int IntKind.i64 (IE.var 2), SV.int IntKind.i64 (IE.var 3), SV.int IntKind.i64 (IE.var 4), SV.int IntKind.i64 (IE.var 5),
                                                SV.int IntKind.i64 (IE.var 6), SV.int IntKind.i64 (IE.var 7), SV.int IntKind.i64 (IE.var 8), SV.int IntKind.i64 (IE.var 9)])]
                                          [(29, [SV.int IntKind.i64 (IE.var 30)]), (23, [SV.var 22]), (13, [SV.bool (BE.lit false)]), (12, [SV.int IntKind.i64 (IE.var 10)]),
                                            (11,
                                              [SV.int IntKind.i64 (IE.var 2), SV.int IntKind.i64 (IE.var 3), SV.int IntKind.i64 (IE.var 4), SV.int IntKind.i64 (IE.var 5),
                                                SV.int IntKind.i64 (IE.var 6), SV.int IntKind.i64 (IE.var 7), SV.int IntKind.i64 (IE.var 8), SV.int IntKind.i64 (IE.var 9)])]
                                          (VC.split (BE.le (IE.len 22) (IE.var 30))
                                            (VC.resume [13] [29, 23, 13, 12, 11]
                                              [(29, [SV.int IntKind.i64 (IE.var 30)]), (23, [SV.var 22]), (13, [SV.bool (BE.lit false)]), (12, [SV.int IntKind.i64 (IE.var 10)]),
                                                (11,
                                                  [SV.int IntKind.i64 (IE.var 2), SV.int IntKind.i64 (IE.var 3), SV.int IntKind.i64 (IE.var 4), SV.int IntKind.i64 (IE.var 5),
                                                    SV.int IntKind.i64 (IE.var 6), SV.int IntKind.i64 (IE.var 7), SV.int IntKind.i64 (IE.var 8), SV.int IntKind.i64 (IE.var 9)])]
                                              (VC.leafM 0 [SV.bool (BE.lit false)] []
                                                [(29, [SV.int IntKind.i64 (IE.var 30)]), (23, [SV.var 22]), (13, [SV.bool (BE.lit false)]), (12, [SV.int IntKind.i64 (IE.var 10)]),
                                                  (11,
                                                    [SV.int IntKind.i64 (IE.var 2), SV.int IntKind.i64 (IE.var 3), SV.int IntKind.i64 (IE.var 4), SV.int IntKind.i64 (IE.var 5),
                                                      SV.int IntKind.i64 (IE.var 6), SV.int IntKind.i64 (IE.var 7), SV.int IntKind.i64 (IE.var 8), SV.int IntKind.i64 (IE.var 9)])]))
                                            (VC.ob (BE.le (IE.lit 0) (IE.var 30))
                                              (VC.ob (BE.lt (IE.var 30) (IE.len 22))
                                                (VC.ob (BE.not (BE.nil 22))
                                                  (VC.start false [] []
                                                    [(29, [SV.int IntKind.i64 (IE.var 30)]), (23, [SV.var 22]), (13, [SV.bool (BE.lit false)]), (12, [SV.int IntKind.i64 (IE.var 10)]),
                                                      (11,
                                                        [SV.int IntKind.i64 (IE.var 2), SV.int IntKind.i64 (IE.var 3), SV.int IntKind.i64 (IE.var 4), SV.int IntKind.i64 (IE.var 5),
                                                          SV.int IntKind.i64 (IE.var 6), SV.int IntKind.i64 (IE.var 7), SV.int IntKind.i64 (IE.var 8), SV.int IntKind.i64 (IE.var 9)])]
                                                    (VC.load (SV.elt 22 0 (IE.var 30) 1 0) [Base.int IntKind.i64]
                                                      (VC.split (BE.not (BE.eq (IE.var 31) (IE.var 33)))
                                                        (VC.resume [13] [29, 23, 13, 12, 11]
                                                          [(29, [SV.int IntKind.i64 (IE.var 30)]), (23, [SV.var 22]), (13, [SV.bool (BE.lit false)]), (12, [SV.int IntKind.i64 (IE.var 10)]),
                                                            (11,
                                                              [SV.int IntKind.i64 (IE.var 2), SV.int IntKind.i64 (IE.var 3), SV.int IntKind.i64 (IE.var 4), SV.int IntKind.i64 (IE.var 5),
                                                                SV.int IntKind.i64 (IE.var 6), SV.int IntKind.i64 (IE.var 7), SV.int IntKind.i64 (IE.var 8), SV.int IntKind.i64 (IE.var 9)])]
                                                          (VC.leafM 0 [SV.bool (BE.lit false)] []
                                                            [(29, [SV.int IntKind.i64 (IE.var 30)]), (23, [SV.var 22]), (13, [SV.bool (BE.lit false)]), (12, [SV.int IntKind.i64 (IE.var 10)]),
                                                              (11,
                                                                [SV.int IntKind.i64 (IE.var 2), SV.int IntKind.i64 (IE.var 3), SV.int IntKind.i64 (IE.var 4), SV.int IntKind.i64 (IE.var 5),
                                                                  SV.int IntKind.i64 (IE.var 6), SV.int IntKind.i64 (IE.var 7), SV.int IntKind.i64 (IE.var 8), SV.int IntKind.i64 (IE.var 9)])]))
                                                        (VC.ob (BE.le (IE.lit (-9223372036854775808)) (IE.add (IE.var 30) (IE.lit 1)))
                                                          (VC.ob (BE.le (IE.add (IE.var 30) (IE.lit 1)) (IE.lit 9223372036854775807))
                                                            (VC.split (BE.le (IE.var 10) (IE.add (IE.var 30) (IE.lit 1)))
                                                              (VC.resume [29] [29, 23, 13, 12, 11]
                                                                [(29, [SV.int IntKind.i64 (IE.add (IE.var 30) (IE.lit 1))]), (23, [SV.var 22]), (13, [SV.bool (BE.lit false)]),
                                                                  (12, [SV.int IntKind.i64 (IE.var 10)]),
                                                                  (11,
                                                                    [SV.int IntKind.i64 (IE.var 2), SV.int IntKind.i64 (IE.var 3), SV.int IntKind.i64 (IE.var 4), SV.int IntKind.i64 (IE.var 5),
                                                                      SV.int IntKind.i64 (IE.var 6), SV.int IntKind.i64 (IE.var 7), SV.int IntKind.i64 (IE.var 8), SV.int IntKind.i64 (IE.var 9)])]
                                                                (VC.split (BE.eq (IE.add (IE.var 30) (IE.lit 1)) (IE.min (IE.len 22) (IE.max (IE.lit 1) (IE.var 10))))
                                                                  (VC.split (BE.var 26)
                                                                    (VC.split (BE.var 28)
                                                                      (VC.call 16 [SV.var 14, SV.var 25] [Base.bool] (SV.bool (BE.var 34)) [] false [] [] [29, 23, 13, 12, 11]
                                                                        [(29, [SV.int IntKind.i64 (IE.add (IE.var 30) (IE.lit 1))]), (23, [SV.var 22]), (13, [SV.bool (BE.lit false)]),
                                                                          (12, [SV.int IntKind.i64 (IE.var 10)]),
                                                                          (11,
                                                                            [SV.int IntKind.i64 (IE.var 2), SV.int IntKind.i64 (IE.var 3), SV.int IntKind.i64 (IE.var 4), SV.int IntKind.i64 (IE.var 5),
                                                                              SV.int IntKind.i64 (IE.var 6), SV.int IntKind.i64 (IE.var 7), SV.int IntKind.i64 (IE.var 8),
                                                                              SV.int IntKind.i64 (IE.var 9)])]
                                                                        (VC.split (BE.var 34)
                                                                          (VC.call 16 [SV.var 24, SV.var 27] [Base.bool] (SV.bool (BE.var 35)) [] false [] [] [29, 23, 13, 12, 11]
                                                                            [(29, [SV.int IntKind.i64 (IE.add (IE.var 30) (IE.lit 1))]), (23, [SV.var 22]), (13, [SV.bool (BE.lit false)]),
                                                                              (12, [SV.int IntKind.i64 (IE.var 10)]),
                                                                              (11,
                                                                                [SV.int IntKind.i64 (IE.var 2), SV.int IntKind.i64 (IE.var 3), SV.int IntKind.i64 (IE.var 4),
                                                                                  SV.int IntKind.i64 (IE.var 5), SV.int IntKind.i64 (IE.var 6), SV.int IntKind.i64 (IE.var 7),
                                                                                  SV.int IntKind.i64 (IE.var 8), SV.int IntKind.i64 (IE.var 9)])]
                                                                            (VC.split (BE.var 35)
                                                                              (VC.call 8 [] [Base.bool] (SV.bool (BE.var 36)) [] false [] [] [29, 23, 13, 12, 11]
                                                                                [(29, [SV.int IntKind.i64 (IE.add (IE.var 30) (IE.lit 1))]), (23, [SV.var 22]), (13, [SV.bool (BE.lit false)]),
                                                                                  (12, [SV.int IntKind.i64 (IE.var 10)]),
                                                                                  (11,
                                                                                    [SV.int IntKind.i64 (IE.var 2), SV.int IntKind.i64 (IE.var 3), SV.int IntKind.i64 (IE.var 4),
                                                                                      SV.int IntKind.i64 (IE.var 5), SV.int IntKind.i64 (IE.var 6), SV.int IntKind.i64 (IE.var 7),
                                                                                      SV.int IntKind.i64 (IE.var 8), SV.int IntKind.i64 (IE.var 9)])]
                                                                                (VC.leafM 0 [SV.bool (BE.var 36)] [13]
                                                                                  [(29, [SV.int IntKind.i64 (IE.add (IE.var 30) (IE.lit 1))]), (23, [SV.var 22]), (13, [SV.bool (BE.var 36)]),
                                                                                    (12, [SV.int IntKind.i64 (IE.var 10)]),
                                                                                    (11,
                                                                                      [SV.int IntKind.i64 (IE.var 2), SV.int IntKind.i64 (IE.var 3), SV.int IntKind.i64 (IE.var 4),
                                                                                        SV.int IntKind.i64 (IE.var 5), SV.int IntKind.i64 (IE.var 6), SV.int IntKind.i64 (IE.var 7),
                                                                                        SV.int IntKind.i64 (IE.var 8), SV.int IntKind.i64 (IE.var 9)])]))
                                                                              (VC.leafM 0 [SV.bool (BE.lit false)] [13]
                                                                                [(29, [SV.int IntKind.i64 (IE.add (IE.var 30) (IE.lit 1))]), (23, [SV.var 22]), (13, [SV.bool (BE.lit false)]),
                                                                                  (12, [SV.int IntKind.i64 (IE.var 10)]),
                                                                                  (11,
                                                                                    [SV.int IntKind.i64 (IE.var 2), SV.int IntKind.i64 (IE.var 3), SV.int IntKind.i64 (IE.var 4),
                                                                                      SV.int IntKind.i64 (IE.var 5), SV.int IntKind.i64 (IE.var 6), SV.int IntKind.i64 (IE.var 7),
                                                                                      SV.int IntKind.i64 (IE.var 8), SV.int IntKind.i64 (IE.var 9)])])))
                                                                          (VC.leafM 0 [SV.bool (BE.lit false)] [13]
                                                                            [(29, [SV.int IntKind.i64 (IE.add (IE.var 30) (IE.lit 1))]), (23, [SV.var 22]), (13, [SV.bool (BE.lit false)]),
                                                                              (12, [SV.int IntKind.i64 (IE.var 10)]),
                                                                              (11,
                                                                                [SV.int IntKind.i64 (IE.var 2), SV.int IntKind.i64 (IE.var 3), SV.int IntKind.i64 (IE.var 4),
                                                                                  SV.int IntKind.i64 (IE.var 5), SV.int IntKind.i64 (IE.var 6), SV.int IntKind.i64 (IE.var 7),
                                                                                  SV.int IntKind.i64 (IE.var 8), SV.int IntKind.i64 (IE.var 9)])])))
                                                                      (VC.leafM 0 [SV.bool (BE.lit false)] [13]
                                                                        [(29, [SV.int IntKind.i64 (IE.add (IE.var 30) (IE.lit 1))]), (23, [SV.var 22]), (13, [SV.bool (BE.lit false)]),
                                                                          (12, [SV.int IntKind.i64 (IE.var 10)]),
                                                                          (11,
                                                                            [SV.int IntKind.i64 (IE.var 2), SV.int IntKind.i64 (IE.var 3), SV.int IntKind.i64 (IE.var 4), SV.int IntKind.i64 (IE.var 5),
                                                                              SV.int IntKind.i64 (IE.var 6), SV.int IntKind.i64 (IE.var 7), SV.int IntKind.i64 (IE.var 8),
                                                                              SV.int IntKind.i64 (IE.var 9)])]))
                                                                    (VC.leafM 0 [SV.bool (BE.lit false)] [13]
                                                                      [(29, [SV.int IntKind.i64 (IE.add (IE.var 30) (IE.lit 1))]), (23, [SV.var 22]), (13, [SV.bool (BE.lit false)]),
                                                                        (12, [SV.int IntKind.i64 (IE.var 10)]),
                                                                        (11,
                                                                          [SV.int IntKind.i64 (IE.var 2), SV.int IntKind.i64 (IE.var 3), SV.int IntKind.i64 (IE.var 4), SV.int IntKind.i64 (IE.var 5),
                                                                            SV.int IntKind.i64 (IE.var 6), SV.int IntKind.i64 (IE.var 7), SV.int IntKind.i64 (IE.var 8),
                                                                            SV.int IntKind.i64 (IE.var 9)])]))
                                                                  (VC.leafM 0 [SV.bool (BE.lit false)] [13]
                                                                    [(29, [SV.int IntKind.i64 (IE.add (IE.var 30) (IE.lit 1))]), (23, [SV.var 22]), (13, [SV.bool (BE.lit false)]),
                                                                      (12, [SV.int IntKind.i64 (IE.var 10)]),
                                                                      (11,
                                                                        [SV.int IntKind.i64 (IE.var 2), SV.int IntKind.i64 (IE.var 3), SV.int IntKind.i64 (IE.var 4), SV.int IntKind.i64 (IE.var 5),
                                                                          SV.int IntKind.i64 (IE.var 6), SV.int IntKind.i64 (IE.var 7), SV.int IntKind.i64 (IE.var 8),
                                                                          SV.int IntKind.i64 (IE.var 9)])])))
                                                              (VC.leaf 2 [SV.int IntKind.i64 (IE.add (IE.var 30) (IE.lit 1))] [29]
                                                                [(29, [SV.int IntKind.i64 (IE.add (IE.var 30) (IE.lit 1))]), (23, [SV.var 22]), (13, [SV.bool (BE.lit false)]),
                                                                  (12, [SV.int IntKind.i64 (IE.var 10)]),
                                                                  (11,
                                                                    [SV.int IntKind.i64 (IE.var 2), SV.int IntKind.i64 (IE.var 3), SV.int IntKind.i64 (IE.var 4), SV.int IntKind.i64 (IE.var 5),
                                                                      SV.int IntKind.i64 (IE.var 6), SV.int IntKind.i64 (IE.var 7), SV.int IntKind.i64 (IE.var 8),
                                                                      SV.int IntKind.i64 (IE.var 9)])])))))))))))
                                          (VC.split (BE.eq (IE.var 30) (IE.min (IE.len 22) (IE.max (IE.lit 1) (IE.var 10))))
                                            (VC.split (BE.var 26)
                                              (VC.split (BE.var 28)
                                                (VC.call 16 [SV.var 14, SV.var 25] [Base.bool] (SV.bool (BE.var 31)) [] false [] [] [29, 23, 13, 12, 11]
                                                  [(29, [SV.int IntKind.i64 (IE.var 30)]), (23, [SV.var 22]), (13, [SV.bool (BE.lit false)]), (12, [SV.int IntKind.i64 (IE.var 10)]),
                                                    (11,
                                                      [SV.int IntKind.i64 (IE.var 2), SV.int IntKind.i64 (IE.var 3), SV.int IntKind.i64 (IE.var 4), SV.int IntKind.i64 (IE.var 5),
                                                        SV.int IntKind.i64 (IE.var 6), SV.int IntKind.i64 (IE.var 7), SV.int IntKind.i64 (IE.var 8), SV.int IntKind.i64 (IE.var 9)])]
                                                  (VC.split (BE.var 31)
                                                    (VC.call 16 [SV.var 24, SV.var 27] [Base.bool] (SV.bool (BE.var 32)) [] false [] [] [29, 23, 13, 12, 11]
                                                      [(29, [SV.int IntKind.i64 (IE.var 30)]), (23, [SV.var 22]), (13, [SV.bool (BE.lit false)]), (12, [SV.int IntKind.i64 (IE.var 10)]),
                                                        (11,
                                                          [SV.int IntKind.i64 (IE.var 2), SV.int IntKind.i64 (IE.var 3), SV.int IntKind.i64 (IE.var 4), SV.int IntKind.i64 (IE.var 5),
                                                            SV.int IntKind.i64 (IE.var 6), SV.int IntKind.i64 (IE.var 7), SV.int IntKind.i64 (IE.var 8), SV.int IntKind.i64 (IE.var 9)])]
                                                      (VC.split (BE.var 32)
                                                        (VC.call 8 [] [Base.bool] (SV.bool (BE.var 33)) [] false [] [] [29, 23, 13, 12, 11]
                                                          [(29, [SV.int IntKind.i64 (IE.var 30)]), (23, [SV.var 22]), (13, [SV.bool (BE.lit false)]), (12, [SV.int IntKind.i64 (IE.var 10)]),
                                                            (11,
                                                              [SV.int IntKind.i64 (IE.var 2), SV.int IntKind.i64 (IE.var 3), SV.int IntKind.i64 (IE.var 4), SV.int IntKind.i64 (IE.var 5),
                                                                SV.int IntKind.i64 (IE.var 6), SV.int IntKind.i64 (IE.var 7), SV.int IntKind.i64 (IE.var 8), SV.int IntKind.i64 (IE.var 9)])]
                                                          (VC.leafM 0 [SV.bool (BE.var 33)] [13]
                                                            [(29, [SV.int IntKind.i64 (IE.var 30)]), (23, [SV.var 22]), (13, [SV.bool (BE.var 33)]), (12, [SV.int IntKind.i64 (IE.var 10)]),
                                                              (11,
                                                                [SV.int IntKind.i64 (IE.var 2), SV.int IntKind.i64 (IE.var 3), SV.int IntKind.i64 (IE.var 4), SV.int IntKind.i64 (IE.var 5),
                                                                  SV.int IntKind.i64 (IE.var 6), SV.int IntKind.i64 (IE.var 7), SV.int IntKind.i64 (IE.var 8), SV.int IntKind.i64 (IE.var 9)])]))
                                                        (VC.leafM 0 [SV.bool (BE.lit false)] [13]
                                                          [(29, [SV.int IntKind.i64 (IE.var 30)]), (23, [SV.var 22]), (13, [SV.bool (BE.lit false)]), (12, [SV.int IntKind.i64 (IE.var 10)]),
                                                            (11,
                                                              [SV.int IntKind.i64 (IE.var 2), SV.int IntKind.i64 (IE.var 3), SV.int IntKind.i64 (IE.var 4), SV.int IntKind.i64 (IE.var 5),
                                                                SV.int IntKind.i64 (IE.var 6), SV.int IntKind.i64 (IE.var 7), SV.int IntKind.i64 (IE.var 8), SV.int IntKind.i64 (IE.var 9)])])))
                                                    (VC.leafM 0 [SV.bool (BE.lit false)] [13]
                                                      [(29, [SV.int IntKind.i64 (IE.var 30)]), (23, [SV.var 22]), (13, [SV.bool (BE.lit false)]), (12, [SV.int IntKind.i64 (IE.var 10)]),
                                                        (11,
                                                          [SV.int IntKind.i64 (IE.var 2), SV.int IntKind.i64 (IE.var 3), SV.int IntKind.i64 (IE.var 4), SV.int IntKind.i64 (IE.var 5),
                                                            SV.int IntKind.i64 (IE.var 6), SV.int IntKind.i64 (IE.var 7), SV.int IntKind.i64 (IE.var 8), SV.int IntKind.i64 (IE.var 9)])])))
                                                (VC.leafM 0 [SV.bool (BE.lit false)] [13]
                                                  [(29, [SV.int IntKind.i64 (IE.var 30)]), (23, [SV.var 22]), (13, [SV.bool (BE.lit false)]), (12, [SV.int IntKind.i64 (IE.var 10)]),
                                                    (11,
                                                      [SV.int IntKind.i64 (IE.var 2), SV.int IntKind.i64 (IE.var 3), SV.int IntKind.i64 (IE.var 4), SV.int IntKind.i64 (IE.var 5),
                                                        SV.int IntKind.i64 (IE.var 6), SV.int IntKind.i64 (IE.var 7), SV.int IntKind.i64 (IE.var 8), SV.int IntKind.i64 (IE.var 9)])]))
                                              (VC.leafM 0 [SV.bool (BE.lit false)] [13]
                                                [(29, [SV.int IntKind.i64 (IE.var 30)]), (23, [SV.var 22]), (13, [SV.bool (BE.lit false)]), (12, [SV.int IntKind.i64 (IE.var 10)]),
                                                  (11,
                                                    [SV.int IntKind.i64 (IE.var 2), SV.int IntKind.i64 (IE.var 3), SV.int IntKind.i64 (IE.var 4), SV.int IntKind.i64 (IE.var 5),
                                                      SV.int IntKind.i64 (IE.var 6), SV.int IntKind.i64 (IE.var 7), SV.int IntKind.i64 (IE.var 8), SV.int IntKind.i64 (IE.var 9)])]))
                                            (VC.leafM 0 [SV.bool (BE.lit false)] [13]
                                              [(29, [SV.int IntKind.i64 (IE.var 30)]), (23, [SV.var 22]), (13, [SV.bool (BE.lit false)]), (12, [SV.int IntKind.i64 (IE.var 10)]),
                                                (11,
                                                  [SV.int IntKind.i64 (IE.var 2), SV.int IntKind.i64 (IE.var 3), SV.int IntKind.i64 (IE.var 4), SV.int IntKind.i64 (IE.var 5),
                                                    SV.int IntKind.i64 (IE.var 6), SV.int IntKind.i64 (IE.var 7), SV.int IntKind.i64 (IE.var 8), SV.int IntKind.i64 (IE.var 9)])])))))))))))))))))))))) := by kernel_rfl

theorem t3 : exFn { P := Try.prog, loops := fun r => if Nat.beq r 5 then some ⟨1, [(8, .int .i64)], []⟩ else if Nat.beq r 12 then some ⟨2, [(11, .int .i64)], []⟩ else none } 3 [.int .i64 (.var 0), .int .i64 (.var 1), .int .i64 (.var 2)] [.int .i64, .int .i64, .int .i64] [] =
  VC.split (BE.lt (IE.var 0) (IE.lit 1)) (VC.call 8 [] [Base.bool] (SV.bool (BE.var 3)) [] false [] [] [] [] (VC.leaf 0 [SV.bool (BE.var 3)] [] []))
  (VC.split (BE.lt (IE.lit 20) (IE.var 0)) (VC.call 8 [] [Base.bool] (SV.bool (BE.var 3)) [] false [] [] [] [] (VC.leaf 0 [SV.bool (BE.var 3)] [] []))
    (VC.split (BE.lt (IE.var 1) (IE.lit 0)) (VC.call 8 [] [Base.bool] (SV.bool (BE.var 3)) [] false [] [] [] [] (VC.leaf 0 [SV.bool (BE.var 3)] [] []))
      (VC.split (BE.lt (IE.lit 1000000) (IE.var 1)) (VC.call 8 [] [Base.bool] (SV.bool (BE.var 3)) [] false [] [] [] [] (VC.leaf 0 [SV.bool (BE.var 3)] [] []))
        (VC.split (BE.lt (IE.lit 200) (IE.var 2)) (VC.call 8 [] [Base.bool] (SV.bool (BE.var 3)) [] false [] [] [] [] (VC.leaf 0 [SV.bool (BE.var 3)] [] []))
          (VC.gen (Op.makeSlice 23 (Operand.tmp 36) (Operand.tmp 36)) 23 [(Operand.tmp 36, SV.int IntKind.i64 (IE.var 0)), (Operand.tmp 36, SV.int IntKind.i64 (IE.var 0))] [Base.slice] (SV.var 3) []
            false [] [] [] []
            (VC.loop 1 [SV.int IntKind.i64 (IE.lit 0)] [Base.int IntKind.i64] [] [] [] []
              (VC.split (BE.lt (IE.var 4) (IE.var 0))
                (VC.ob (BE.le (IE.lit 0) (IE.var 4))
                  (VC.ob (BE.lt (IE.var 4) (IE.len 3))
                    (VC.ob (BE.not (BE.nil 3))
                      (VC.gen (Op.store 3 (Operand.tmp 46) (Operand.tmp 45)) 0 [(Operand.tmp 46, SV.elt 3 0 (IE.var 4) 1 0), (Operand.tmp 45, SV.int IntKind.i64 (IE.var 1))] []
                        (SV.cst (Value.tuple { toList := [] })) [] false [] [] [] []
                        (VC.ob (BE.le (IE.lit (-9223372036854775808)) (IE.add (IE.var 4) (IE.lit 1)))
                          (VC.ob (BE.le (IE.add (IE.var 4) (IE.lit 1)) (IE.lit 9223372036854775807)) (VC.leaf 1 [SV.int IntKind.i64 (IE.add (IE.var 4) (IE.lit 1))] [] [])))))))
                (VC.call 9 [SV.var 3] [Base.ptr, Base.int IntKind.i64] (SV.tuple [SV.var 5, SV.int IntKind.i64 (IE.var 6)]) [] false [] [] [] []
                  (VC.call 10 [SV.int IntKind.i64 (IE.var 6)] [Base.int IntKind.i64] (SV.int IntKind.i64 (IE.var 7)) [] false [] [] [] []
                    (VC.split (BE.not (BE.eq (IE.var 7) (IE.lit 0))) (VC.leaf 0 [SV.bool (BE.lit false)] [] [])
                      (VC.split (BE.nil 5) (VC.leaf 0 [SV.bool (BE.lit false)] [] [])
                        (VC.loop 2 [SV.int IntKind.i64 (IE.lit 0)] [Base.int IntKind.i64] [] [] [] []
                          (VC.split (BE.lt (IE.var 8) (IE.var 2))
                            (VC.call 11 [SV.var 5] [Base.int IntKind.i64, Base.int IntKind.i64] (SV.tuple [SV.int IntKind.i64 (IE.var 9), SV.int IntKind.i64 (IE.var 10)]) [] false [] [] [] []
                              (VC.call 12 [SV.var 5, SV.int IntKind.i64 (IE.var 9)] [Base.int IntKind.i64] (SV.int IntKind.i64 (IE.var 11)) [] false [] [] [] []
                                (VC.call 13 [SV.var 5] [Base.int IntKind.i64, Base.int IntKind.i64] (SV.tuple [SV.int IntKind.i64 (IE.var 12), SV.int IntKind.i64 (IE.var 13)]) [] false [] [] [] []
                                  (VC.call 10 [SV.int IntKind.i64 (IE.var 10)] [Base.int IntKind.i64] (SV.int IntKind.i64 (IE.var 14)) [] false [] [] [] []
                                    (VC.call 10 [SV.int IntKind.i64 (IE.var 11)] [Base.int IntKind.i64] (SV.int IntKind.i64 (IE.var 15)) [] false [] [] [] []
                                      (VC.ob (BE.le (IE.lit (-9223372036854775808)) (IE.add (IE.var 14) (IE.var 15)))
                                        (VC.ob (BE.le (IE.add (IE.var 14) (IE.var 15)) (IE.lit 9223372036854775807))
                                          (VC.split (BE.not (BE.eq (IE.add (IE.var 14) (IE.var 15)) (IE.lit 0))) (VC.leaf 0 [SV.bool (BE.lit false)] [] [])
                                            (VC.ob (BE.le (IE.lit (-9223372036854775808)) (IE.sub (IE.var 13) (IE.var 12)))
                                              (VC.ob (BE.le (IE.sub (IE.var 13) (IE.var 12)) (IE.lit 9223372036854775807))
                                                (VC.split (BE.lt (IE.lit 1) (IE.sub (IE.var 13) (IE.var 12))) (VC.leaf 0 [SV.bool (BE.lit false)] [] [])
                                                  (VC.ob (BE.le (IE.lit (-9223372036854775808)) (IE.add (IE.var 8) (IE.lit 1)))
                                                    (VC.ob (BE.le (IE.add (IE.var 8) (IE.lit 1)) (IE.lit 9223372036854775807))
                                                      (VC.ob (BE.not (BE.eq (IE.var 0) (IE.lit 0)))
                                                        (VC.ob (BE.le (IE.lit (-9223372036854775808)) (IE.quo (IE.add (IE.var 8) (IE.lit 1)) (IE.var 0)))
                                                          (VC.ob (BE.le (IE.quo (IE.add (IE.var 8) (IE.lit 1)) (IE.var 0)) (IE.lit 9223372036854775807))
                                                            (VC.ob (BE.le (IE.lit (-9223372036854775808)) (IE.add (IE.var 1) (IE.quo (IE.add (IE.var 8) (IE.lit 1)) (IE.var 0))))
                                                              (VC.ob (BE.le (IE.add (IE.var 1) (IE.quo (IE.add (IE.var 8) (IE.lit 1)) (IE.var 0))) (IE.lit 9223372036854775807))
                                                                (VC.split (BE.not (BE.eq (IE.var 12) (IE.add (IE.var 1) (IE.quo (IE.add (IE.var 8) (IE.lit 1)) (IE.var 0)))))
                                                                  (VC.leaf 0 [SV.bool (BE.lit false)] [] [])
                                                                  (VC.ob (BE.le (IE.lit (-9223372036854775808)) (IE.add (IE.var 8) (IE.lit 1)))
                                                                    (VC.ob (BE.le (IE.add (IE.var 8) (IE.lit 1)) (IE.lit 9223372036854775807))
                                                                      (VC.leaf 2 [SV.int IntKind.i64 (IE.add (IE.var 8) (IE.lit 1))] [] []))))))))))))))))))))))
                            (VC.call 8 [] [Base.bool] (SV.bool (BE.var 9)) [] false [] [] [] [] (VC.leaf 0 [SV.bool (BE.var 9)] [] []))))))))))))))) := by kernel_rfl

end Go.Proofs.Ytdinjabnfjoojaa
