/- What the functions of the chapter come to, printed by a program of the prover's and checked by the kernel. No conditions. -/
import Derived.Test.YtppbapnibpeolaaSxZI
import Derived.Test.YtppbapnibpeolaaProg
import Derived.KernelRfl
set_option maxRecDepth 100000
set_option linter.unusedVariables false
namespace Go.Proofs.Ytppbapnibpeolaa
open Go.Sx

theorem t9 : exFn { P := Try.prog, loops := fun r => if Nat.beq r 4 then some ⟨1, [(5, .int .i64)], []⟩ else none } 9 [.var 0, .int .i64 (.var 1)] [.slice, .int .i64] [] =
  VC.split (BE.lt (IE.var 1) (IE.len 0)) (VC.leaf 0 [SV.bool (BE.lit false)] [] [])
  (VC.loop 1 [SV.int IntKind.i64 (IE.lit 0)] [Base.int IntKind.i64] [] [] [] []
    (VC.split (BE.lt (IE.var 2) (IE.len 0))
      (VC.ob (BE.le (IE.lit 0) (IE.var 2))
        (VC.ob (BE.lt (IE.var 2) (IE.len 0))
          (VC.ob (BE.not (BE.nil 0))
            (VC.start false [] [] []
              (VC.load (SV.elt 0 0 (IE.var 2) 5 3) [Base.slice]
                (VC.split (BE.lt (IE.lit 100) (IE.len 3)) (VC.leaf 0 [SV.bool (BE.lit false)] [] [])
                  (VC.ob (BE.le (IE.lit 0) (IE.var 2))
                    (VC.ob (BE.lt (IE.var 2) (IE.len 0))
                      (VC.start false [] [] []
                        (VC.load (SV.elt 0 0 (IE.var 2) 5 4) [Base.slice]
                          (VC.split (BE.lt (IE.lit 100) (IE.len 4)) (VC.leaf 0 [SV.bool (BE.lit false)] [] [])
                            (VC.ob (BE.le (IE.lit (-9223372036854775808)) (IE.add (IE.var 2) (IE.lit 1)))
                              (VC.ob (BE.le (IE.add (IE.var 2) (IE.lit 1)) (IE.lit 9223372036854775807)) (VC.leaf 1 [SV.int IntKind.i64 (IE.add (IE.var 2) (IE.lit 1))] [] []))))))))))))))
      (VC.leaf 0 [SV.bool (BE.lit true)] [] []))) := by kernel_rfl

theorem t4 : exFn { P := Try.prog, ranged := true, ranges := fun t => if Nat.beq t 32 then some ⟨1, [3, 3], []⟩ else none } 4 [.agg [.int .i64 (.var 0), .int .i64 (.var 1), .int .i64 (.var 2), .var 3, .var 4], .bool (.var 5)] [.int .i64, .int .i64, .int .i64, .slice, .slice, .bool] [] =
  VC.blk
  (VC.blk
    (VC.blk
      (VC.call 9 [SV.slc 8 0 1 1, SV.int IntKind.i64 (IE.lit 1)] [Base.bool] (SV.bool (BE.var 9)) [] false [] [] [8, 7, 6]
        [(8, [SV.int IntKind.i64 (IE.var 0), SV.int IntKind.i64 (IE.var 1), SV.int IntKind.i64 (IE.var 2), SV.var 3, SV.var 4]), (7, [SV.bool (BE.lit false)]),
          (6, [SV.int IntKind.i64 (IE.var 0), SV.int IntKind.i64 (IE.var 1), SV.int IntKind.i64 (IE.var 2), SV.var 3, SV.var 4])]
        (VC.split (BE.not (BE.var 9))
          (VC.call 11 [] [Base.bool] (SV.bool (BE.var 10)) [] false [] [] [8, 7, 6]
            [(8, [SV.int IntKind.i64 (IE.var 0), SV.int IntKind.i64 (IE.var 1), SV.int IntKind.i64 (IE.var 2), SV.var 3, SV.var 4]), (7, [SV.bool (BE.lit false)]),
              (6, [SV.int IntKind.i64 (IE.var 0), SV.int IntKind.i64 (IE.var 1), SV.int IntKind.i64 (IE.var 2), SV.var 3, SV.var 4])]
            (VC.leafM 0 [SV.bool (BE.var 10)] [7]
              [(8, [SV.int IntKind.i64 (IE.var 0), SV.int IntKind.i64 (IE.var 1), SV.int IntKind.i64 (IE.var 2), SV.var 3, SV.var 4]), (7, [SV.bool (BE.var 10)]),
                (6, [SV.int IntKind.i64 (IE.var 0), SV.int IntKind.i64 (IE.var 1), SV.int IntKind.i64 (IE.var 2), SV.var 3, SV.var 4])]))
          (VC.split (BE.var 5)
            (VC.blk
              (VC.call 13 [SV.ptr 10 0, SV.int IntKind.i64 (IE.var 1), SV.int IntKind.i64 (IE.var 2)] [Base.slice, Base.slice, Base.int IntKind.i64]
                (SV.tuple [SV.var 11, SV.var 12, SV.int IntKind.i64 (IE.var 13)]) [] false [] [] [10, 8, 7, 6]
                [(10,
                    [SV.int IntKind.i64 (IE.lit 0), SV.int IntKind.i64 (IE.lit 0), SV.int IntKind.i64 (IE.lit 0), SV.int IntKind.i64 (IE.lit 0), SV.cst (Value.map none), SV.cst (Value.slice none 0 0),
                      SV.int IntKind.i64 (IE.lit 0), SV.int IntKind.i64 (IE.lit 0), SV.int IntKind.i64 (IE.lit 0), SV.bool (BE.lit false)]),
                  (8, [SV.int IntKind.i64 (IE.var 0), SV.int IntKind.i64 (IE.var 1), SV.int IntKind.i64 (IE.var 2), SV.var 3, SV.var 4]), (7, [SV.bool (BE.lit false)]),
                  (6, [SV.int IntKind.i64 (IE.var 0), SV.int IntKind.i64 (IE.var 1), SV.int IntKind.i64 (IE.var 2), SV.var 3, SV.var 4])]
                (VC.call 17 [SV.ptr 10 0] [Base.func] (SV.var 14) [] false [] [] [10, 8, 7, 6]
                  [(10,
                      [SV.int IntKind.i64 (IE.lit 0), SV.int IntKind.i64 (IE.lit 0), SV.int IntKind.i64 (IE.lit 0), SV.int IntKind.i64 (IE.lit 0), SV.cst (Value.map none),
                        SV.cst (Value.slice none 0 0), SV.int IntKind.i64 (IE.lit 0), SV.int IntKind.i64 (IE.lit 0), SV.int IntKind.i64 (IE.lit 0), SV.bool (BE.lit false)]),
                    (8, [SV.int IntKind.i64 (IE.var 0), SV.int IntKind.i64 (IE.var 1), SV.int IntKind.i64 (IE.var 2), SV.var 3, SV.var 4]), (7, [SV.bool (BE.lit false)]),
                    (6, [SV.int IntKind.i64 (IE.var 0), SV.int IntKind.i64 (IE.var 1), SV.int IntKind.i64 (IE.var 2), SV.var 3, SV.var 4])]
                  (VC.split (BE.nil 14)
                    (VC.leafM 0 [SV.bool (BE.lit false)] [7]
                      [(10,
                          [SV.int IntKind.i64 (IE.lit 0), SV.int IntKind.i64 (IE.lit 0), SV.int IntKind.i64 (IE.lit 0), SV.int IntKind.i64 (IE.lit 0), SV.cst (Value.map none),
                            SV.cst (Value.slice none 0 0), SV.int IntKind.i64 (IE.lit 0), SV.int IntKind.i64 (IE.lit 0), SV.int IntKind.i64 (IE.lit 0), SV.bool (BE.lit false)]),
                        (8, [SV.int IntKind.i64 (IE.var 0), SV.int IntKind.i64 (IE.var 1), SV.int IntKind.i64 (IE.var 2), SV.var 3, SV.var 4]), (7, [SV.bool (BE.lit false)]),
                        (6, [SV.int IntKind.i64 (IE.var 0), SV.int IntKind.i64 (IE.var 1), SV.int IntKind.i64 (IE.var 2), SV.var 3, SV.var 4])])
                    (VC.range 1 (SV.var 14) [Base.int IntKind.i64, Base.int IntKind.i64] [3, 3] [] [] [] [10, 8, 7, 6]
                      [(10,
                          [SV.int IntKind.i64 (IE.lit 0), SV.int IntKind.i64 (IE.lit 0), SV.int IntKind.i64 (IE.lit 0), SV.int IntKind.i64 (IE.lit 0), SV.cst (Value.map none),
                            SV.cst (Value.slice none 0 0), SV.int IntKind.i64 (IE.lit 0), SV.int IntKind.i64 (IE.lit 0), SV.int IntKind.i64 (IE.lit 0), SV.bool (BE.lit false)]),
                        (8, [SV.int IntKind.i64 (IE.var 0), SV.int IntKind.i64 (IE.var 1), SV.int IntKind.i64 (IE.var 2), SV.var 3, SV.var 4]), (7, [SV.bool (BE.lit false)]),
                        (6, [SV.int IntKind.i64 (IE.var 0), SV.int IntKind.i64 (IE.var 1), SV.int IntKind.i64 (IE.var 2), SV.var 3, SV.var 4])]
                      [(10,
                          [SV.int IntKind.i64 (IE.lit 0), SV.int IntKind.i64 (IE.lit 0), SV.int IntKind.i64 (IE.lit 0), SV.int IntKind.i64 (IE.lit 0), SV.cst (Value.map none),
                            SV.cst (Value.slice none 0 0), SV.int IntKind.i64 (IE.lit 0), SV.int IntKind.i64 (IE.lit 0), SV.int IntKind.i64 (IE.lit 0), SV.bool (BE.lit false)]),
                        (8, [SV.int IntKind.i64 (IE.var 0), SV.int IntKind.i64 (IE.var 1), SV.int IntKind.i64 (IE.var 2), SV.var 3, SV.var 4]), (7, [SV.bool (BE.lit false)]),
                        (6, [SV.int IntKind.i64 (IE.var 0), SV.int IntKind.i64 (IE.var 1), SV.int IntKind.i64 (IE.var 2), SV.var 3, SV.var 4])]
                      (VC.resume [7] [10, 8, 7, 6]
                        [(10,
                            [SV.int IntKind.i64 (IE.lit 0), SV.int IntKind.i64 (IE.lit 0), SV.int IntKind.i64 (IE.lit 0), SV.int IntKind.i64 (IE.lit 0), SV.cst (Value.map none),
                              SV.cst (Value.slice none 0 0), SV.int IntKind.i64 (IE.lit 0), SV.int IntKind.i64 (IE.lit 0), SV.int IntKind.i64 (IE.lit 0), SV.bool (BE.lit false)]),
                          (8, [SV.int IntKind.i64 (IE.var 0), SV.int IntKind.i64 (IE.var 1), SV.int IntKind.i64 (IE.var 2), SV.var 3, SV.var 4]), (7, [SV.bool (BE.lit false)]),
                          (6, [SV.int IntKind.i64 (IE.var 0), SV.int IntKind.i64 (IE.var 1), SV.int IntKind.i64 (IE.var 2), SV.var 3, SV.var 4])]
                        (VC.leafM 0 [SV.bool (BE.lit false)] []
                          [(10,
                              [SV.int IntKind.i64 (IE.lit 0), SV.int IntKind.i64 (IE.lit 0), SV.int IntKind.i64 (IE.lit 0), SV.int IntKind.i64 (IE.lit 0), SV.cst (Value.map none),
                                SV.cst (Value.slice none 0 0), SV.int IntKind.i64 (IE.lit 0), SV.int IntKind.i64 (IE.lit 0), SV.int IntKind.i64 (IE.lit 0), SV.bool (BE.lit false)]),
                            (8, [SV.int IntKind.i64 (IE.var 0), SV.int IntKind.i64 (IE.var 1), SV.int IntKind.i64 (IE.var 2), SV.var 3, SV.var 4]), (7, [SV.bool (BE.lit false)]),
                            (6, [SV.int IntKind.i64 (IE.var 0), SV.int IntKind.i64 (IE.var 1), SV.int IntKind.i64 (IE.var 2), SV.var 3, SV.var 4])]))
                      (VC.start true [] [10, 8, 7, 6]
                        [(10,
                            [SV.int IntKind.i64 (IE.lit 0), SV.int IntKind.i64 (IE.lit 0), SV.int IntKind.i64 (IE.lit 0), SV.int IntKind.i64 (IE.lit 0), SV.cst (Value.map none),
                              SV.cst (Value.slice none 0 0), SV.int IntKind.i64 (IE.lit 0), SV.int IntKind.i64 (IE.lit 0), SV.int IntKind.i64 (IE.lit 0), SV.bool (BE.lit false)]),
                          (8, [SV.int IntKind.i64 (IE.var 0), SV.int IntKind.i64 (IE.var 1), SV.int IntKind.i64 (IE.var 2), SV.var 3, SV.var 4]), (7, [SV.bool (BE.lit false)]),
                          (6, [SV.int IntKind.i64 (IE.var 0), SV.int IntKind.i64 (IE.var 1), SV.int IntKind.i64 (IE.var 2), SV.var 3, SV.var 4])]
                        (VC.call 18 [SV.int IntKind.i64 (IE.var 13)] [Base.int IntKind.i64] (SV.int IntKind.i64 (IE.var 15)) [] true [] [] [10, 8, 7, 6]
                          [(10,
                              [SV.int IntKind.i64 (IE.lit 0), SV.int IntKind.i64 (IE.lit 0), SV.int IntKind.i64 (IE.lit 0), SV.int IntKind.i64 (IE.lit 0), SV.cst (Value.map none),
                                SV.cst (Value.slice none 0 0), SV.int IntKind.i64 (IE.lit 0), SV.int IntKind.i64 (IE.lit 0), SV.int IntKind.i64 (IE.lit 0), SV.bool (BE.lit false)]),
                            (8, [SV.int IntKind.i64 (IE.var 0), SV.int IntKind.i64 (IE.var 1), SV.int IntKind.i64 (IE.var 2), SV.var 3, SV.var 4]), (7, [SV.bool (BE.lit false)]),
                            (6, [SV.int IntKind.i64 (IE.var 0), SV.int IntKind.i64 (IE.var 1), SV.int IntKind.i64 (IE.var 2), SV.var 3, SV.var 4])]
                          (VC.split (BE.eq (IE.var 15) (IE.lit 1))
                            (VC.ob (BE.le (IE.lit (-9223372036854775808)) (IE.add (IE.len 11) (IE.len 12)))
                              (VC.ob (BE.le (IE.add (IE.len 11) (IE.len 12)) (IE.lit 9223372036854775807))
                                (VC.split (BE.eq (IE.add (IE.len 11) (IE.len 12)) (IE.lit 0))
                                  (VC.call 19 [SV.ptr 10 0, SV.int IntKind.i64 (IE.var 1), SV.int IntKind.i64 (IE.var 2), SV.var 3, SV.var 4] [Base.int IntKind.i64] (SV.int IntKind.i64 (IE.var 16)) []
                                    true [] [] [10, 8, 7, 6]
                                    [(10,
                                        [SV.int IntKind.i64 (IE.lit 0), SV.int IntKind.i64 (IE.lit 0), SV.int IntKind.i64 (IE.lit 0), SV.int IntKind.i64 (IE.lit 0), SV.cst (Value.map none),
                                          SV.cst (Value.slice none 0 0), SV.int IntKind.i64 (IE.lit 0), SV.int IntKind.i64 (IE.lit 0), SV.int IntKind.i64 (IE.lit 0), SV.bool (BE.lit false)]),
                                      (8, [SV.int IntKind.i64 (IE.var 0), SV.int IntKind.i64 (IE.var 1), SV.int IntKind.i64 (IE.var 2), SV.var 3, SV.var 4]), (7, [SV.bool (BE.lit false)]),
                                      (6, [SV.int IntKind.i64 (IE.var 0), SV.int IntKind.i64 (IE.var 1), SV.int IntKind.i64 (IE.var 2), SV.var 3, SV.var 4])]
                                    (VC.call 18 [SV.int IntKind.i64 (IE.var 16)] [Base.int IntKind.i64] (SV.int IntKind.i64 (IE.var 17)) [] true [] [] [10, 8, 7, 6]
                                      [(10,
                                          [SV.int IntKind.i64 (IE.lit 0), SV.int IntKind.i64 (IE.lit 0), SV.int IntKind.i64 (IE.lit 0), SV.int IntKind.i64 (IE.lit 0), SV.cst (Value.map none),
                                            SV.cst (Value.slice none 0 0), SV.int IntKind.i64 (IE.lit 0), SV.int IntKind.i64 (IE.lit 0), SV.int IntKind.i64 (IE.lit 0), SV.bool (BE.lit false)]),
                                        (8, [SV.int IntKind.i64 (IE.var 0), SV.int IntKind.i64 (IE.var 1), SV.int IntKind.i64 (IE.var 2), SV.var 3, SV.var 4]), (7, [SV.bool (BE.lit false)]),
                                        (6, [SV.int IntKind.i64 (IE.var 0), SV.int IntKind.i64 (IE.var 1), SV.int IntKind.i64 (IE.var 2), SV.var 3, SV.var 4])]
                                      (VC.split (BE.eq (IE.var 17) (IE.lit 1))
                                        (VC.call 20 [SV.ptr 10 0, SV.int IntKind.i64 (IE.var 1)] [Base.int IntKind.i64] (SV.int IntKind.i64 (IE.var 18)) [] true [] [] [10, 8, 7, 6]
                                          [(10,
                                              [SV.int IntKind.i64 (IE.lit 0), SV.int IntKind.i64 (IE.lit 0), SV.int IntKind.i64 (IE.lit 0), SV.int IntKind.i64 (IE.lit 0), SV.cst (Value.map none),
                                                SV.cst (Value.slice none 0 0), SV.int IntKind.i64 (IE.lit 0), SV.int IntKind.i64 (IE.lit 0), SV.int IntKind.i64 (IE.lit 0), SV.bool (BE.lit false)]),
                                            (8, [SV.int IntKind.i64 (IE.var 0), SV.int IntKind.i64 (IE.var 1), SV.int IntKind.i64 (IE.var 2), SV.var 3, SV.var 4]), (7, [SV.bool (BE.lit false)]),
                                            (6, [SV.int IntKind.i64 (IE.var 0), SV.int IntKind.i64 (IE.var 1), SV.int IntKind.i64 (IE.var 2), SV.var 3, SV.var 4])]
                                          (VC.call 18 [SV.int IntKind.i64 (IE.var 18)] [Base.int IntKind.i64] (SV.int IntKind.i64 (IE.var 19)) [] true [] [] [10, 8, 7, 6]
                                            [(10,
                                                [SV.int IntKind.i64 (IE.lit 0), SV.int IntKind.i64 (IE.lit 0), SV.int IntKind.i64 (IE.lit 0), SV.int IntKind.i64 (IE.lit 0), SV.cst (Value.map none),
                                                  SV.cst (Value.slice none 0 0), SV.int IntKind.i64 (IE.lit 0), SV.int IntKind.i64 (IE.lit 0), SV.int IntKind.i64 (IE.lit 0), SV.bool (BE.lit false)]),
                                              (8, [SV.int IntKind.i64 (IE.var 0), SV.int IntKind.i64 (IE.var 1), SV.int IntKind.i64 (IE.var 2), SV.var 3, SV.var 4]), (7, [SV.bool (BE.lit false)]),
                                              (6, [SV.int IntKind.i64 (IE.var 0), SV.int IntKind.i64 (IE.var 1), SV.int IntKind.i64 (IE.var 2), SV.var 3, SV.var 4])]
                                            (VC.split (BE.eq (IE.var 19) (IE.lit 1))
                                              (VC.call 21 [SV.ptr 10 0, SV.int IntKind.i64 (IE.var 1), SV.int IntKind.i64 (IE.var 2)] [Base.int IntKind.i64] (SV.int IntKind.i64 (IE.var 20)) [] true []
                                                [] [10, 8, 7, 6]
                                                [(10,
                                                    [SV.int IntKind.i64 (IE.lit 0), SV.int IntKind.i64 (IE.lit 0), SV.int IntKind.i64 (IE.lit 0), SV.int IntKind.i64 (IE.lit 0),
                                                      SV.cst (Value.map none), SV.cst (Value.slice none 0 0), SV.int IntKind.i64 (IE.lit 0), SV.int IntKind.i64 (IE.lit 0),
                                                      SV.int IntKind.i64 (IE.lit 0), SV.bool (BE.lit false)]),
                                                  (8, [SV.int IntKind.i64 (IE.var 0), SV.int IntKind.i64 (IE.var 1), SV.int IntKind.i64 (IE.var 2), SV.var 3, SV.var 4]), (7, [SV.bool (BE.lit false)]),
                                                  (6, [SV.int IntKind.i64 (IE.var 0), SV.int IntKind.i64 (IE.var 1), SV.int IntKind.i64 (IE.var 2), SV.var 3, SV.var 4])]
                                                (VC.call 18 [SV.int IntKind.i64 (IE.var 20)] [Base.int IntKind.i64] (SV.int IntKind.i64 (IE.var 21)) [] true [] [] [10, 8, 7, 6]
                                                  [(10,
                                                      [SV.int IntKind.i64 (IE.lit 0), SV.int IntKind.i64 (IE.lit 0), SV.int IntKind.i64 (IE.lit 0), SV.int IntKind.i64 (IE.lit 0),
                                                        SV.cst (Value.map none), SV.cst (Value.slice none 0 0), SV.int IntKind.i64 (IE.lit 0), SV.int IntKind.i64 (IE.lit 0),
                                                        SV.int IntKind.i64 (IE.lit 0), SV.bool (BE.lit false)]),
                                                    (8, [SV.int IntKind.i64 (IE.var 0), SV.int IntKind.i64 (IE.var 1), SV.int IntKind.i64 (IE.var 2), SV.var 3, SV.var 4]),
                                                    (7, [SV.bool (BE.lit false)]),
                                                    (6, [SV.int IntKind.i64 (IE.var 0), SV.int IntKind.i64 (IE.var 1), SV.int IntKind.i64 (IE.var 2), SV.var 3, SV.var 4])]
                                                  (VC.split (BE.eq (IE.var 21) (IE.lit 1))
                                                    (VC.call 22 [SV.ptr 10 0] [Base.int IntKind.i64] (SV.int IntKind.i64 (IE.var 22)) [] true [] [] [10, 8, 7, 6]
                                                      [(10,
                                                          [SV.int IntKind.i64 (IE.lit 0), SV.int IntKind.i64 (IE.lit 0), SV.int IntKind.i64 (IE.lit 0), SV.int IntKind.i64 (IE.lit 0),
                                                            SV.cst (Value.map none), SV.cst (Value.slice none 0 0), SV.int IntKind.i64 (IE.lit 0), SV.int IntKind.i64 (IE.lit 0),
                                                            SV.int IntKind.i64 (IE.lit 0), SV.bool (BE.lit false)]),
                                                        (8, [SV.int IntKind.i64 (IE.var 0), SV.int IntKind.i64 (IE.var 1), SV.int IntKind.i64 (IE.var 2), SV.var 3, SV.var 4]),
                                                        (7, [SV.bool (BE.lit false)]),
                                                        (6, [SV.int IntKind.i64 (IE.var 0), SV.int IntKind.i64 (IE.var 1), SV.int IntKind.i64 (IE.var 2), SV.var 3, SV.var 4])]
                                                      (VC.call 18 [SV.int IntKind.i64 (IE.var 22)] [Base.int IntKind.i64] (SV.int IntKind.i64 (IE.var 23)) [] true [] [] [10, 8, 7, 6]
                                                        [(10,
                                                            [SV.int IntKind.i64 (IE.lit 0), SV.int IntKind.i64 (IE.lit 0), SV.int IntKind.i64 (IE.lit 0), SV.int IntKind.i64 (IE.lit 0),
                                                              SV.cst (Value.map none), SV.cst (Value.slice none 0 0), SV.int IntKind.i64 (IE.lit 0), SV.int IntKind.i64 (IE.lit 0),
                                                              SV.int IntKind.i64 (IE.lit 0), SV.bool (BE.lit false)]),
                                                          (8, [SV.int IntKind.i64 (IE.var 0), SV.int IntKind.i64 (IE.var 1), SV.int IntKind.i64 (IE.var 2), SV.var 3, SV.var 4]),
                                                          (7, [SV.bool (BE.lit false)]),
                                                          (6, [SV.int IntKind.i64 (IE.var 0), SV.int IntKind.i64 (IE.var 1), SV.int IntKind.i64 (IE.var 2), SV.var 3, SV.var 4])]
                                                        (VC.split (BE.eq (IE.var 23) (IE.lit 1))
                                                          (VC.call 23 [SV.ptr 10 0] [Base.bool] (SV.bool (BE.var 24)) [] true [] [] [10, 8, 7, 6]
                                                            [(10,
                                                                [SV.int IntKind.i64 (IE.lit 0), SV.int IntKind.i64 (IE.lit 0), SV.int IntKind.i64 (IE.lit 0), SV.int IntKind.i64 (IE.lit 0),
                                                                  SV.cst (Value.map none), SV.cst (Value.slice none 0 0), SV.int IntKind.i64 (IE.lit 0), SV.int IntKind.i64 (IE.lit 0),
                                                                  SV.int IntKind.i64 (IE.lit 0), SV.bool (BE.lit false)]),
                                                              (8, [SV.int IntKind.i64 (IE.var 0), SV.int IntKind.i64 (IE.var 1), SV.int IntKind.i64 (IE.var 2), SV.var 3, SV.var 4]),
                                                              (7, [SV.bool (BE.lit false)]),
                                                              (6, [SV.int IntKind.i64 (IE.var 0), SV.int IntKind.i64 (IE.var 1), SV.int IntKind.i64 (IE.var 2), SV.var 3, SV.var 4])]
                                                            (VC.split (BE.not (BE.var 24))
                                                              (VC.call 24 [SV.ptr 10 0] [Base.int IntKind.i64, Base.int IntKind.i64, Base.int IntKind.i64, Base.int IntKind.i64]
                                                                (SV.agg
                                                                  [SV.int IntKind.i64 (IE.var 25), SV.int IntKind.i64 (IE.var 26), SV.int IntKind.i64 (IE.var 27), SV.int IntKind.i64 (IE.var 28)])
                                                                [] true [] [] [10, 8, 7, 6]
                                                                [(10,
                                                                    [SV.int IntKind.i64 (IE.lit 0), SV.int IntKind.i64 (IE.lit 0), SV.int IntKind.i64 (IE.lit 0), SV.int IntKind.i64 (IE.lit 0),
                                                                      SV.cst (Value.map none), SV.cst (Value.slice none 0 0), SV.int IntKind.i64 (IE.lit 0), SV.int IntKind.i64 (IE.lit 0),
                                                                      SV.int IntKind.i64 (IE.lit 0), SV.bool (BE.lit false)]),
                                                                  (8, [SV.int IntKind.i64 (IE.var 0), SV.int IntKind.i64 (IE.var 1), SV.int IntKind.i64 (IE.var 2), SV.var 3, SV.var 4]),
                                                                  (7, [SV.bool (BE.lit false)]),
                                                                  (6, [SV.int IntKind.i64 (IE.var 0), SV.int IntKind.i64 (IE.var 1), SV.int IntKind.i64 (IE.var 2), SV.var 3, SV.var 4])]
                                                                (VC.pur (Op.binOp BinOp.eql 23 (Operand.tmp 91) (Operand.tmp 92) 23) 4
                                                                  [(Operand.tmp 91,
                                                                      SV.agg
                                                                        [SV.int IntKind.i64 (IE.var 25), SV.int IntKind.i64 (IE.var 26), SV.int IntKind.i64 (IE.var 27),
                                                                          SV.int IntKind.i64 (IE.var 28)]),
                                                                    (Operand.tmp 92,
                                                                      SV.agg
                                                                        [SV.int IntKind.i64 (IE.lit 0), SV.int IntKind.i64 (IE.lit 0), SV.int IntKind.i64 (IE.lit 0), SV.int IntKind.i64 (IE.lit 0)])]
                                                                  [Base.bool] (SV.bool (BE.var 29))
                                                                  (VC.split (BE.var 29)
                                                                    (VC.call 25 [SV.ptr 10 0] [Base.int IntKind.i64] (SV.int IntKind.i64 (IE.var 30)) [] true [] [] [10, 8, 7, 6]
                                                                      [(10,
                                                                          [SV.int IntKind.i64 (IE.lit 0), SV.int IntKind.i64 (IE.lit 0), SV.int IntKind.i64 (IE.lit 0), SV.int IntKind.i64 (IE.lit 0),
                                                                            SV.cst (Value.map none), SV.cst (Value.slice none 0 0), SV.int IntKind.i64 (IE.lit 0), SV.int IntKind.i64 (IE.lit 0),
                                                                            SV.int IntKind.i64 (IE.lit 0), SV.bool (BE.lit false)]),
                                                                        (8, [SV.int IntKind.i64 (IE.var 0), SV.int IntKind.i64 (IE.var 1), SV.int IntKind.i64 (IE.var 2), SV.var 3, SV.var 4]),
                                                                        (7, [SV.bool (BE.lit false)]),
                                                                        (6, [SV.int IntKind.i64 (IE.var 0), SV.int IntKind.i64 (IE.var 1), SV.int IntKind.i64 (IE.var 2), SV.var 3, SV.var 4])]
                                                                      (VC.call 26 [SV.ptr 10 0, SV.int IntKind.i64 (IE.var 1)] [Base.int IntKind.i64] (SV.int IntKind.i64 (IE.var 31)) [] true [] []
                                                                        [10, 8, 7, 6]
                                                                        [(10,
                                                                            [SV.int IntKind.i64 (IE.lit 0), SV.int IntKind.i64 (IE.lit 0), SV.int IntKind.i64 (IE.lit 0), SV.int IntKind.i64 (IE.lit 0),
                                                                              SV.cst (Value.map none), SV.cst (Value.slice none 0 0), SV.int IntKind.i64 (IE.lit 0), SV.int IntKind.i64 (IE.lit 0),
                                                                              SV.int IntKind.i64 (IE.lit 0), SV.bool (BE.lit false)]),
                                                                          (8, [SV.int IntKind.i64 (IE.var 0), SV.int IntKind.i64 (IE.var 1), SV.int IntKind.i64 (IE.var 2), SV.var 3, SV.var 4]),
                                                                          (7, [SV.bool (BE.lit false)]),
                                                                          (6, [SV.int IntKind.i64 (IE.var 0), SV.int IntKind.i64 (IE.var 1), SV.int IntKind.i64 (IE.var 2), SV.var 3, SV.var 4])]
                                                                        (VC.ob (BE.le (IE.lit (-9223372036854775808)) (IE.add (IE.var 30) (IE.var 31)))
                                                                          (VC.ob (BE.le (IE.add (IE.var 30) (IE.var 31)) (IE.lit 9223372036854775807))
                                                                            (VC.call 27 [SV.ptr 10 0, SV.int IntKind.i64 (IE.var 1)] [Base.int IntKind.i64] (SV.int IntKind.i64 (IE.var 32)) [] true []
                                                                              [] [10, 8, 7, 6]
                                                                              [(10,
                                                                                  [SV.int IntKind.i64 (IE.lit 0), SV.int IntKind.i64 (IE.lit 0), SV.int IntKind.i64 (IE.lit 0),
                                                                                    SV.int IntKind.i64 (IE.lit 0), SV.cst (Value.map none), SV.cst (Value.slice none 0 0),
                                                                                    SV.int IntKind.i64 (IE.lit 0), SV.int IntKind.i64 (IE.lit 0), SV.int IntKind.i64 (IE.lit 0),
                                                                                    SV.bool (BE.lit false)]),
                                                                                (8, [SV.int IntKind.i64 (IE.var 0), SV.int IntKind.i64 (IE.var 1), SV.int IntKind.i64 (IE.var 2), SV.var 3, SV.var 4]),
                                                                                (7, [SV.bool (BE.lit false)]),
                                                                                (6, [SV.int IntKind.i64 (IE.var 0), SV.int IntKind.i64 (IE.var 1), SV.int IntKind.i64 (IE.var 2), SV.var 3, SV.var 4])]
                                                                              (VC.ob (BE.le (IE.lit (-9223372036854775808)) (IE.add (IE.add (IE.var 30) (IE.var 31)) (IE.var 32)))
                                                                                (VC.ob (BE.le (IE.add (IE.add (IE.var 30) (IE.var 31)) (IE.var 32)) (IE.lit 9223372036854775807))
                                                                                  (VC.split (BE.eq (IE.add (IE.add (IE.var 30) (IE.var 31)) (IE.var 32)) (IE.lit 0))
                                                                                    (VC.call 28 [SV.ptr 10 0, SV.int IntKind.i64 (IE.var 1), SV.int IntKind.i64 (IE.var 2)] [Base.int IntKind.i64]
                                                                                      (SV.int IntKind.i64 (IE.var 33)) [] true [] [] [10, 8, 7, 6]
                                                                                      [(10,
                                                                                          [SV.int IntKind.i64 (IE.lit 0), SV.int IntKind.i64 (IE.lit 0), SV.int IntKind.i64 (IE.lit 0),
                                                                                            SV.int IntKind.i64 (IE.lit 0), SV.cst (Value.map none), SV.cst (Value.slice none 0 0),
                                                                                            SV.int IntKind.i64 (IE.lit 0), SV.int IntKind.i64 (IE.lit 0), SV.int IntKind.i64 (IE.lit 0),
                                                                                            SV.bool (BE.lit false)]),
                                                                                        (8,
                                                                                          [SV.int IntKind.i64 (IE.var 0), SV.int IntKind.i64 (IE.var 1), SV.int IntKind.i64 (IE.var 2), SV.var 3,
                                                                                            SV.var 4]),
                                                                                        (7, [SV.bool (BE.lit false)]),
                                                                                        (6,
                                                                                          [SV.int IntKind.i64 (IE.var 0), SV.int IntKind.i64 (IE.var 1), SV.int IntKind.i64 (IE.var 2), SV.var 3,
                                                                                            SV.var 4])]
                                                                                      (VC.split (BE.eq (IE.var 33) (IE.lit 0))
                                                                                        (VC.call 14 [SV.ptr 10 0] [Base.ptr] (SV.var 34) [] true [] [] [10, 8, 7, 6]
                                                                                          [(10,
                                                                                              [SV.int IntKind.i64 (IE.lit 0), SV.int IntKind.i64 (IE.lit 0), SV.int IntKind.i64 (IE.lit 0),
                                                                                                SV.int IntKind.i64 (IE.lit 0), SV.cst (Value.map none), SV.cst (Value.slice none 0 0),
                                                                                                SV.int IntKind.i64 (IE.lit 0), SV.int IntKind.i64 (IE.lit 0), SV.int IntKind.i64 (IE.lit 0),
                                                                                                SV.bool (BE.lit false)]),
                                                                                            (8,
                                                                                              [SV.int IntKind.i64 (IE.var 0), SV.int IntKind.i64 (IE.var 1), SV.int IntKind.i64 (IE.var 2), SV.var 3,
                                                                                                SV.var 4]),
                                                                                            (7, [SV.bool (BE.lit false)]),
                                                                                            (6,
                                                                                              [SV.int IntKind.i64 (IE.var 0), SV.int IntKind.i64 (IE.var 1), SV.int IntKind.i64 (IE.var 2), SV.var 3,
                                                                                                SV.var 4])]
                                                                                          (VC.split (BE.nil 34)
                                                                                            (VC.call 11 [] [Base.bool] (SV.bool (BE.var 35)) [] true [] [] [10, 8, 7, 6]
                                                                                              [(10,
                                                                                                  [SV.int IntKind.i64 (IE.lit 0), SV.int IntKind.i64 (IE.lit 0), SV.int IntKind.i64 (IE.lit 0),
                                                                                                    SV.int IntKind.i64 (IE.lit 0), SV.cst (Value.map none), SV.cst (Value.slice none 0 0),
                                                                                                    SV.int IntKind.i64 (IE.lit 0), SV.int IntKind.i64 (IE.lit 0), SV.int IntKind.i64 (IE.lit 0),
                                                                                                    SV.bool (BE.lit false)]),
                                                                                                (8,
                                                                                                  [SV.int IntKind.i64 (IE.var 0), SV.int IntKind.i64 (IE.var 1), SV.int IntKind.i64 (IE.var 2),
                                                                                                    SV.var 3, SV.var 4]),
                                                                                                (7, [SV.bool (BE.lit false)]),
                                                                                                (6,
                                                                                                  [SV.int IntKind.i64 (IE.var 0), SV.int IntKind.i64 (IE.var 1), SV.int IntKind.i64 (IE.var 2),
                                                                                                    SV.var 3, SV.var 4])]
                                                                                              (VC.leafM 0 [SV.bool (BE.var 35)] [7]
                                                                                                [(10,
                                                                                                    [SV.int IntKind.i64 (IE.lit 0), SV.int IntKind.i64 (IE.lit 0), SV.int IntKind.i64 (IE.lit 0),
                                                                                                      SV.int IntKind.i64 (IE.lit 0), SV.cst (Value.map none), SV.cst (Value.slice none 0 0),
                                                                                                      SV.int IntKind.i64 (IE.lit 0), SV.int IntKind.i64 (IE.lit 0), SV.int IntKind.i64 (IE.lit 0),
                                                                                                      SV.bool (BE.lit false)]),
                                                                                                  (8,
                                                                                                    [SV.int IntKind.i64 (IE.var 0), SV.int IntKind.i64 (IE.var 1), SV.int IntKind.i64 (IE.var 2),
                                                                                                      SV.var 3, SV.var 4]),
                                                                                                  (7, [SV.bool (BE.var 35)]),
                                                                                                  (6,
                                                                                                    [SV.int IntKind.i64 (IE.var 0), SV.int IntKind.i64 (IE.var 1), SV.int IntKind.i64 (IE.var 2),
                                                                                                      SV.var 3, SV.var 4])]))
                                                                                            (VC.leafM 0 [SV.bool (BE.lit false)] [7]
                                                                                              [(10,
                                                                                                  [SV.int IntKind.i64 (IE.lit 0), SV.int IntKind.i64 (IE.lit 0), SV.int IntKind.i64 (IE.lit 0),
                                                                                                    SV.int IntKind.i64 (IE.lit 0), SV.cst (Value.map none), SV.cst (Value.slice none 0 0),
                                                                                                    SV.int IntKind.i64 (IE.lit 0), SV.int IntKind.i64 (IE.lit 0), SV.int IntKind.i64 (IE.lit 0),
                                                                                                    SV.bool (BE.lit false)]),
                                                                                                (8,
                                                                                                  [SV.int IntKind.i64 (IE.var 0), SV.int IntKind.i64 (IE.var 1), SV.int IntKind.i64 (IE.var 2),
                                                                                                    SV.var 3, SV.var 4]),
                                                                                                (7, [SV.bool (BE.lit false)]),
                                                                                                (6,
                                                                                                  [SV.int IntKind.i64 (IE.var 0), SV.int IntKind.i64 (IE.var 1), SV.int IntKind.i64 (IE.var 2),
                                                                                                    SV.var 3, SV.var 4])])))
                                                                                        (VC.leafM 0 [SV.bool (BE.lit false)] [7]
                                                                                          [(10,
                                                                                              [SV.int IntKind.i64 (IE.lit 0), SV.int IntKind.i64 (IE.lit 0), SV.int IntKind.i64 (IE.lit 0),
                                                                                                SV.int IntKind.i64 (IE.lit 0), SV.cst (Value.map none), SV.cst (Value.slice none 0 0),
                                                                                                SV.int IntKind.i64 (IE.lit 0), SV.int IntKind.i64 (IE.lit 0), SV.int IntKind.i64 (IE.lit 0),
                                                                                                SV.bool (BE.lit false)]),
                                                                                            (8,
                                                                                              [SV.int IntKind.i64 (IE.var 0), SV.int IntKind.i64 (IE.var 1), SV.int IntKind.i64 (IE.var 2), SV.var 3,
                                                                                                SV.var 4]),
                                                                                            (7, [SV.bool (BE.lit false)]),
                                                                                            (6,
                                                                                              [SV.int IntKind.i64 (IE.var 0), SV.int IntKind.i64 (IE.var 1), SV.int IntKind.i64 (IE.var 2), SV.var 3,
                                                                                                SV.var 4])])))
                                                                                    (VC.leafM 0 [SV.bool (BE.lit false)] [7]
                                                                                      [(10,
                                                                                          [SV.int IntKind.i64 (IE.lit 0), SV.int IntKind.i64 (IE.lit 0), SV.int IntKind.i64 (IE.lit 0),
                                                                                            SV.int IntKind.i64 (IE.lit 0), SV.cst (Value.map none), SV.cst (Value.slice none 0 0),
                                                                                            SV.int IntKind.i64 (IE.lit 0), SV.int IntKind.i64 (IE.lit 0), SV.int IntKind.i64 (IE.lit 0),
                                                                                            SV.bool (BE.lit false)]),
                                                                                        (8,
                                                                                          [SV.int IntKind.i64 (IE.var 0), SV.int IntKind.i64 (IE.var 1), SV.int IntKind.i64 (IE.var 2), SV.var 3,
                                                                                            SV.var 4]),
                                                                                        (7, [SV.bool (BE.lit false)]),
                                                                                        (6,
                                                                                          [SV.int IntKind.i64 (IE.var 0), SV.int IntKind.i64 (IE.var 1), SV.int IntKind.i64 (IE.var 2), SV.var 3,
                                                                                            SV.var 4])])))))))))
                                                                    (VC.leafM 0 [SV.bool (BE.lit false)] [7]
                                                                      [(10,
                                                                          [SV.int IntKind.i64 (IE.lit 0), SV.int IntKind.i64 (IE.lit 0), SV.int IntKind.i64 (IE.lit 0), SV.int IntKind.i64 (IE.lit 0),
                                                                            SV.cst (Value.map none), SV.cst (Value.slice none 0 0), SV.int IntKind.i64 (IE.lit 0), SV.int IntKind.i64 (IE.lit 0),
                                                                            SV.int IntKind.i64 (IE.lit 0), SV.bool (BE.lit false)]),
                                                                        (8, [SV.int IntKind.i64 (IE.var 0), SV.int IntKind.i64 (IE.var 1), SV.int IntKind.i64 (IE.var 2), SV.var 3, SV.var 4]),
                                                                        (7, [SV.bool (BE.lit false)]),
                                                                        (6, [SV.int IntKind.i64 (IE.var 0), SV.int IntKind.i64 (IE.var 1), SV.int IntKind.i64 (IE.var 2), SV.var 3, SV.var 4])]))))
                                                              (VC.leafM 0 [SV.bool (BE.lit false)] [7]
                                                                [(10,
                                                                    [SV.int IntKind.i64 (IE.lit 0), SV.int IntKind.i64 (IE.lit 0), SV.int IntKind.i64 (IE.lit 0), SV.int IntKind.i64 (IE.lit 0),
                                                                      SV.cst (Value.map none), SV.cst (Value.slice none 0 0), SV.int IntKind.i64 (IE.lit 0), SV.int IntKind.i64 (IE.lit 0),
                                                                      SV.int IntKind.i64 (IE.lit 0), SV.bool (BE.lit false)]),
                                                                  (8, [SV.int IntKind.i64 (IE.var 0), SV.int IntKind.i64 (IE.var 1), SV.int IntKind.i64 (IE.var 2), SV.var 3, SV.var 4]),
                                                                  (7, [SV.bool (BE.lit false)]),
                                                                  (6, [SV.int IntKind.i64 (IE.var 0), SV.int IntKind.i64 (IE.var 1), SV.int IntKind.i64 (IE.var 2), SV.var 3, SV.var 4])])))
                                                          (VC.leafM 0 [SV.bool (BE.lit false)] [7]
                                                            [(10,
                                                                [SV.int IntKind.i64 (IE.lit 0), SV.int IntKind.i64 (IE.lit 0), SV.int IntKind.i64 (IE.lit 0), SV.int IntKind.i64 (IE.lit 0),
                                                                  SV.cst (Value.map none), SV.cst (Value.slice none 0 0), SV.int IntKind.i64 (IE.lit 0), SV.int IntKind.i64 (IE.lit 0),
                                                                  SV.int IntKind.i64 (IE.lit 0), SV.bool (BE.lit false)]),
                                                              (8, [SV.int IntKind.i64 (IE.var 0), SV.int IntKind.i64 (IE.var 1), SV.int IntKind.i64 (IE.var 2), SV.var 3, SV.var 4]),
                                                              (7, [SV.bool (BE.lit false)]),
                                                              (6, [SV.int IntKind.i64 (IE.var 0), SV.int IntKind.i64 (IE.var 1), SV.int IntKind.i64 (IE.var 2), SV.var 3, SV.var 4])]))))
                                                    (VC.leafM 0 [SV.bool (BE.lit false)] [7]
                                                      [(10,
                                                          [SV.int IntKind.i64 (IE.lit 0), SV.int IntKind.i64 (IE.lit 0), SV.int IntKind.i64 (IE.lit 0), SV.int IntKind.i64 (IE.lit 0),
                                                            SV.cst (Value.map none), SV.cst (Value.slice none 0 0), SV.int IntKind.i64 (IE.lit 0), SV.int IntKind.i64 (IE.lit 0),
                                                            SV.int IntKind.i64 (IE.lit 0), SV.bool (BE.lit false)]),
                                                        (8, [SV.int IntKind.i64 (IE.var 0), SV.int IntKind.i64 (IE.var 1), SV.int IntKind.i64 (IE.var 2), SV.var 3, SV.var 4]),
                                                        (7, [SV.bool (BE.lit false)]),
                                                        (6, [SV.int IntKind.i64 (IE.var 0), SV.int IntKind.i64 (IE.var 1), SV.int IntKind.i64 (IE.var 2), SV.var 3, SV.var 4])]))))
                                              (VC.leafM 0 [SV.bool (BE.lit false)] [7]
                                                [(10,
                                                    [SV.int IntKind.i64 (IE.lit 0), SV.int IntKind.i64 (IE.lit 0), SV.int IntKind.i64 (IE.lit 0), SV.int IntKind.i64 (IE.lit 0),
                                                      SV.cst (Value.map none), SV.cst (Value.slice none 0 0), SV.int IntKind.i64 (IE.lit 0), SV.int IntKind.i64 (IE.lit 0),
                                                      SV.int IntKind.i64 (IE.lit 0), SV.bool (BE.lit false)]),
                                                  (8, [SV.int IntKind.i64 (IE.var 0), SV.int IntKind.i64 (IE.var 1), SV.int IntKind.i64 (IE.var 2), SV.var 3, SV.var 4]), (7, [SV.bool (BE.lit false)]),
                                                  (6, [SV.int IntKind.i64 (IE.var 0), SV.int IntKind.i64 (IE.var 1), SV.int IntKind.i64 (IE.var 2), SV.var 3, SV.var 4])]))))
                                        (VC.leafM 0 [SV.bool (BE.lit false)] [7]
                                          [(10,
                                              [SV.int IntKind.i64 (IE.lit 0), SV.int IntKind.i64 (IE.lit 0), SV.int IntKind.i64 (IE.lit 0), SV.int IntKind.i64 (IE.lit 0), SV.cst (Value.map none),
                                                SV.cst (Value.slice none 0 0), SV.int IntKind.i64 (IE.lit 0), SV.int IntKind.i64 (IE.lit 0), SV.int IntKind.i64 (IE.lit 0), SV.bool (BE.lit false)]),
                                            (8, [SV.int IntKind.i64 (IE.var 0), SV.int IntKind.i64 (IE.var 1), SV.int IntKind.i64 (IE.var 2), SV.var 3, SV.var 4]), (7, [SV.bool (BE.lit false)]),
                                            (6, [SV.int IntKind.i64 (IE.var 0), SV.int IntKind.i64 (IE.var 1), SV.int IntKind.i64 (IE.var 2), SV.var 3, SV.var 4])]))))
                                  (VC.leafM 0 [SV.bool (BE.lit false)] [7]
                                    [(10,
                                        [SV.int IntKind.i64 (IE.lit 0), SV.int IntKind.i64 (IE.lit 0), SV.int IntKind.i64 (IE.lit 0), SV.int IntKind.i64 (IE.lit 0), SV.cst (Value.map none),
                                          SV.cst (Value.slice none 0 0), SV.int IntKind.i64 (IE.lit 0), SV.int IntKind.i64 (IE.lit 0), SV.int IntKind.i64 (IE.lit 0), SV.bool (BE.lit false)]),
                                      (8, [SV.int IntKind.i64 (IE.var 0), SV.int IntKind.i64 (IE.var 1), SV.int IntKind.i64 (IE.var 2), SV.var 3, SV.var 4]), (7, [SV.bool (BE.lit false)]),
                                      (6, [SV.int IntKind.i64 (IE.var 0), SV.int IntKind.i64 (IE.var 1), SV.int IntKind.i64 (IE.var 2), SV.var 3, SV.var 4])]))))
                            (VC.leafM 0 [SV.bool (BE.lit false)] [7]
                              [(10,
                                  [SV.int IntKind.i64 (IE.lit 0), SV.int IntKind.i64 (IE.lit 0), SV.int IntKind.i64 (IE.lit 0), SV.int IntKind.i64 (IE.lit 0), SV.cst (Value.map none),
                                    SV.cst (Value.slice none 0 0), SV.int IntKind.i64 (IE.lit 0), SV.int IntKind.i64 (IE.lit 0), SV.int IntKind.i64 (IE.lit 0), SV.bool (BE.lit false)]),
                                (8, [SV.int IntKind.i64 (IE.var 0), SV.int IntKind.i64 (IE.var 1), SV.int IntKind.i64 (IE.var 2), SV.var 3, SV.var 4]), (7, [SV.bool (BE.lit false)]),
                                (6, [SV.int IntKind.i64 (IE.var 0), SV.int IntKind.i64 (IE.var 1), SV.int IntKind.i64 (IE.var 2), SV.var 3, SV.var 4])])))))))))
            (VC.call 13 [SV.cst (Value.pointer none), SV.int IntKind.i64 (IE.var 1), SV.int IntKind.i64 (IE.var 2)] [Base.slice, Base.slice, Base.int IntKind.i64]
              (SV.tuple [SV.var 10, SV.var 11, SV.int IntKind.i64 (IE.var 12)]) [] false [] [] [8, 7, 6]
              [(8, [SV.int IntKind.i64 (IE.var 0), SV.int IntKind.i64 (IE.var 1), SV.int IntKind.i64 (IE.var 2), SV.var 3, SV.var 4]), (7, [SV.bool (BE.lit false)]),
                (6, [SV.int IntKind.i64 (IE.var 0), SV.int IntKind.i64 (IE.var 1), SV.int IntKind.i64 (IE.var 2), SV.var 3, SV.var 4])]
              (VC.call 17 [SV.cst (Value.pointer none)] [Base.func] (SV.var 13) [] false [] [] [8, 7, 6]
                [(8, [SV.int IntKind.i64 (IE.var 0), SV.int IntKind.i64 (IE.var 1), SV.int IntKind.i64 (IE.var 2), SV.var 3, SV.var 4]), (7, [SV.bool (BE.lit false)]),
                  (6, [SV.int IntKind.i64 (IE.var 0), SV.int IntKind.i64 (IE.var 1), SV.int IntKind.i64 (IE.var 2), SV.var 3, SV.var 4])]
                (VC.split (BE.nil 13)
                  (VC.leafM 0 [SV.bool (BE.lit false)] [7]
                    [(8, [SV.int IntKind.i64 (IE.var 0), SV.int IntKind.i64 (IE.var 1), SV.int IntKind.i64 (IE.var 2), SV.var 3, SV.var 4]), (7, [SV.bool (BE.lit false)]),
                      (6, [SV.int IntKind.i64 (IE.var 0), SV.int IntKind.i64 (IE.var 1), SV.int IntKind.i64 (IE.var 2), SV.var 3, SV.var 4])])
                  (VC.range 1 (SV.var 13) [Base.int IntKind.i64, Base.int IntKind.i64] [3, 3] [] [] [] [8, 7, 6]
                    [(8, [SV.int IntKind.i64 (IE.var 0), SV.int IntKind.i64 (IE.var 1), SV.int IntKind.i64 (IE.var 2), SV.var 3, SV.var 4]), (7, [SV.bool (BE.lit false)]),
                      (6, [SV.int IntKind.i64 (IE.var 0), SV.int IntKind.i64 (IE.var 1), SV.int IntKind.i64 (IE.var 2), SV.var 3, SV.var 4])]
                    [(8, [SV.int IntKind.i64 (IE.var 0), SV.int IntKind.i64 (IE.var 1), SV.int IntKind.i64 (IE.var 2), SV.var 3, SV.var 4]), (7, [SV.bool (BE.lit false)]),
                      (6, [SV.int IntKind.i64 (IE.var 0), SV.int IntKind.i64 (IE.var 1), SV.int IntKind.i64 (IE.var 2), SV.var 3, SV.var 4])]
                    (VC.resume [7] [8, 7, 6]
                      [(8, [SV.int IntKind.i64 (IE.var 0), SV.int IntKind.i64 (IE.var 1), SV.int IntKind.i64 (IE.var 2), SV.var 3, SV.var 4]), (7, [SV.bool (BE.lit false)]),
                        (6, [SV.int IntKind.i64 (IE.var 0), SV.int IntKind.i64 (IE.var 1), SV.int IntKind.i64 (IE.var 2), SV.var 3, SV.var 4])]
                      (VC.leafM 0 [SV.bool (BE.lit false)] []
                        [(8, [SV.int IntKind.i64 (IE.var 0), SV.int IntKind.i64 (IE.var 1), SV.int IntKind.i64 (IE.var 2), SV.var 3, SV.var 4]), (7, [SV.bool (BE.lit false)]),
                          (6, [SV.int IntKind.i64 (IE.var 0), SV.int IntKind.i64 (IE.var 1), SV.int IntKind.i64 (IE.var 2), SV.var 3, SV.var 4])]))
                    (VC.start true [] [8, 7, 6]
                      [(8, [SV.int IntKind.i64 (IE.var 0), SV.int IntKind.i64 (IE.var 1), SV.int IntKind.i64 (IE.var 2), SV.var 3, SV.var 4]), (7, [SV.bool (BE.lit false)]),
                        (6, [SV.int IntKind.i64 (IE.var 0), SV.int IntKind.i64 (IE.var 1), SV.int IntKind.i64 (IE.var 2), SV.var 3, SV.var 4])]
                      (VC.call 18 [SV.int IntKind.i64 (IE.var 12)] [Base.int IntKind.i64] (SV.int IntKind.i64 (IE.var 14)) [] true [] [] [8, 7, 6]
                        [(8, [SV.int IntKind.i64 (IE.var 0), SV.int IntKind.i64 (IE.var 1), SV.int IntKind.i64 (IE.var 2), SV.var 3, SV.var 4]), (7, [SV.bool (BE.lit false)]),
                          (6, [SV.int IntKind.i64 (IE.var 0), SV.int IntKind.i64 (IE.var 1), SV.int IntKind.i64 (IE.var 2), SV.var 3, SV.var 4])]
                        (VC.split (BE.eq (IE.var 14) (IE.lit 1))
                          (VC.ob (BE.le (IE.lit (-9223372036854775808)) (IE.add (IE.len 10) (IE.len 11)))
                            (VC.ob (BE.le (IE.add (IE.len 10) (IE.len 11)) (IE.lit 9223372036854775807))
                              (VC.split (BE.eq (IE.add (IE.len 10) (IE.len 11)) (IE.lit 0))
                                (VC.call 19 [SV.cst (Value.pointer none), SV.int IntKind.i64 (IE.var 1), SV.int IntKind.i64 (IE.var 2), SV.var 3, SV.var 4] [Base.int IntKind.i64]
                                  (SV.int IntKind.i64 (IE.var 15)) [] true [] [] [8, 7, 6]
                                  [(8, [SV.int IntKind.i64 (IE.var 0), SV.int IntKind.i64 (IE.var 1), SV.int IntKind.i64 (IE.var 2), SV.var 3, SV.var 4]), (7, [SV.bool (BE.lit false)]),
                                    (6, [SV.int IntKind.i64 (IE.var 0), SV.int IntKind.i64 (IE.var 1), SV.int IntKind.i64 (IE.var 2), SV.var 3, SV.var 4])]
                                  (VC.call 18 [SV.int IntKind.i64 (IE.var 15)] [Base.int IntKind.i64] (SV.int IntKind.i64 (IE.var 16)) [] true [] [] [8, 7, 6]
                                    [(8, [SV.int IntKind.i64 (IE.var 0), SV.int IntKind.i64 (IE.var 1), SV.int IntKind.i64 (IE.var 2), SV.var 3, SV.var 4]), (7, [SV.bool (BE.lit false)]),
                                      (6, [SV.int IntKind.i64 (IE.var 0), SV.int IntKind.i64 (IE.var 1), SV.int IntKind.i64 (IE.var 2), SV.var 3, SV.var 4])]
                                    (VC.split (BE.eq (IE.var 16) (IE.lit 1))
                                      (VC.call 20 [SV.cst (Value.pointer none), SV.int IntKind.i64 (IE.var 1)] [Base.int IntKind.i64] (SV.int IntKind.i64 (IE.var 17)) [] true [] [] [8, 7, 6]
                                        [(8, [SV.int IntKind.i64 (IE.var 0), SV.int IntKind.i64 (IE.var 1), SV.int IntKind.i64 (IE.var 2), SV.var 3, SV.var 4]), (7, [SV.bool (BE.lit false)]),
                                          (6, [SV.int IntKind.i64 (IE.var 0), SV.int IntKind.i64 (IE.var 1), SV.int IntKind.i64 (IE.var 2), SV.var 3, SV.var 4])]
                                        (VC.call 18 [SV.int IntKind.i64 (IE.var 17)] [Base.int IntKind.i64] (SV.int IntKind.i64 (IE.var 18)) [] true [] [] [8, 7, 6]
                                          [(8, [SV.int IntKind.i64 (IE.var 0), SV.int IntKind.i64 (IE.var 1), SV.int IntKind.i64 (IE.var 2), SV.var 3, SV.var 4]), (7, [SV.bool (BE.lit false)]),
                                            (6, [SV.int IntKind.i64 (IE.var 0), SV.int IntKind.i64 (IE.var 1), SV.int IntKind.i64 (IE.var 2), SV.var 3, SV.var 4])]
                                          (VC.split (BE.eq (IE.var 18) (IE.lit 1))
                                            (VC.call 21 [SV.cst (Value.pointer none), SV.int IntKind.i64 (IE.var 1), SV.int IntKind.i64 (IE.var 2)] [Base.int IntKind.i64]
                                              (SV.int IntKind.i64 (IE.var 19)) [] true [] [] [8, 7, 6]
                                              [(8, [SV.int IntKind.i64 (IE.var 0), SV.int IntKind.i64 (IE.var 1), SV.int IntKind.i64 (IE.var 2), SV.var 3, SV.var 4]), (7, [SV.bool (BE.lit false)]),
                                                (6, [SV.int IntKind.i64 (IE.var 0), SV.int IntKind.i64 (IE.var 1), SV.int IntKind.i64 (IE.var 2), SV.var 3, SV.var 4])]
                                              (VC.call 18 [SV.int IntKind.i64 (IE.var 19)] [Base.int IntKind.i64] (SV.int IntKind.i64 (IE.var 20)) [] true [] [] [8, 7, 6]
                                                [(8, [SV.int IntKind.i64 (IE.var 0), SV.int IntKind.i64 (IE.var 1), SV.int IntKind.i64 (IE.var 2), SV.var 3, SV.var 4]), (7, [SV.bool (BE.lit false)]),
                                                  (6, [SV.int IntKind.i64 (IE.var 0), SV.int IntKind.i64 (IE.var 1), SV.int IntKind.i64 (IE.var 2), SV.var 3, SV.var 4])]
                                                (VC.split (BE.eq (IE.var 20) (IE.lit 1))
                                                  (VC.call 22 [SV.cst (Value.pointer none)] [Base.int IntKind.i64] (SV.int IntKind.i64 (IE.var 21)) [] true [] [] [8, 7, 6]
                                                    [(8, [SV.int IntKind.i64 (IE.var 0), SV.int IntKind.i64 (IE.var 1), SV.int IntKind.i64 (IE.var 2), SV.var 3, SV.var 4]),
                                                      (7, [SV.bool (BE.lit false)]),
                                                      (6, [SV.int IntKind.i64 (IE.var 0), SV.int IntKind.i64 (IE.var 1), SV.int IntKind.i64 (IE.var 2), SV.var 3, SV.var 4])]
                                                    (VC.call 18 [SV.int IntKind.i64 (IE.var 21)] [Base.int IntKind.i64] (SV.int IntKind.i64 (IE.var 22)) [] true [] [] [8, 7, 6]
                                                      [(8, [SV.int IntKind.i64 (IE.var 0), SV.int IntKind.i64 (IE.var 1), SV.int IntKind.i64 (IE.var 2), SV.var 3, SV.var 4]),
                                                        (7, [SV.bool (BE.lit false)]),
                                                        (6, [SV.int IntKind.i64 (IE.var 0), SV.int IntKind.i64 (IE.var 1), SV.int IntKind.i64 (IE.var 2), SV.var 3, SV.var 4])]
                                                      (VC.split (BE.eq (IE.var 22) (IE.lit 1))
                                                        (VC.call 23 [SV.cst (Value.pointer none)] [Base.bool] (SV.bool (BE.var 23)) [] true [] [] [8, 7, 6]
                                                          [(8, [SV.int IntKind.i64 (IE.var 0), SV.int IntKind.i64 (IE.var 1), SV.int IntKind.i64 (IE.var 2), SV.var 3, SV.var 4]),
                                                            (7, [SV.bool (BE.lit false)]),
                                                            (6, [SV.int IntKind.i64 (IE.var 0), SV.int IntKind.i64 (IE.var 1), SV.int IntKind.i64 (IE.var 2), SV.var 3, SV.var 4])]
                                                          (VC.split (BE.not (BE.var 23))
                                                            (VC.call 24 [SV.cst (Value.pointer none)] [Base.int IntKind.i64, Base.int IntKind.i64, Base.int IntKind.i64, Base.int IntKind.i64]
                                                              (SV.agg [SV.int IntKind.i64 (IE.var 24), SV.int IntKind.i64 (IE.var 25), SV.int IntKind.i64 (IE.var 26), SV.int IntKind.i64 (IE.var 27)])
                                                              [] true [] [] [8, 7, 6]
                                                              [(8, [SV.int IntKind.i64 (IE.var 0), SV.int IntKind.i64 (IE.var 1), SV.int IntKind.i64 (IE.var 2), SV.var 3, SV.var 4]),
                                                                (7, [SV.bool (BE.lit false)]),
                                                                (6, [SV.int IntKind.i64 (IE.var 0), SV.int IntKind.i64 (IE.var 1), SV.int IntKind.i64 (IE.var 2), SV.var 3, SV.var 4])]
                                                              (VC.pur (Op.binOp BinOp.eql 23 (Operand.tmp 91) (Operand.tmp 92) 23) 4
                                                                [(Operand.tmp 91,
                                                                    SV.agg
                                                                      [SV.int IntKind.i64 (IE.var 24), SV.int IntKind.i64 (IE.var 25), SV.int IntKind.i64 (IE.var 26), SV.int IntKind.i64 (IE.var 27)]),
                                                                  (Operand.tmp 92,
                                                                    SV.agg
                                                                      [SV.int IntKind.i64 (IE.lit 0), SV.int IntKind.i64 (IE.lit 0), SV.int IntKind.i64 (IE.lit 0), SV.int IntKind.i64 (IE.lit 0)])]
                                                                [Base.bool] (SV.bool (BE.var 28))
                                                                (VC.split (BE.var 28)
                                                                  (VC.call 25 [SV.cst (Value.pointer none)] [Base.int IntKind.i64] (SV.int IntKind.i64 (IE.var 29)) [] true [] [] [8, 7, 6]
                                                                    [(8, [SV.int IntKind.i64 (IE.var 0), SV.int IntKind.i64 (IE.var 1), SV.int IntKind.i64 (IE.var 2), SV.var 3, SV.var 4]),
                                                                      (7, [SV.bool (BE.lit false)]),
                                                                      (6, [SV.int IntKind.i64 (IE.var 0), SV.int IntKind.i64 (IE.var 1), SV.int IntKind.i64 (IE.var 2), SV.var 3, SV.var 4])]
                                                                    (VC.call 26 [SV.cst (Value.pointer none), SV.int IntKind.i64 (IE.var 1)] [Base.int IntKind.i64] (SV.int IntKind.i64 (IE.var 30)) []
                                                                      true [] [] [8, 7, 6]
                                                                      [(8, [SV.int IntKind.i64 (IE.var 0), SV.int IntKind.i64 (IE.var 1), SV.int IntKind.i64 (IE.var 2), SV.var 3, SV.var 4]),
                                                                        (7, [SV.bool (BE.lit false)]),
                                                                        (6, [SV.int IntKind.i64 (IE.var 0), SV.int IntKind.i64 (IE.var 1), SV.int IntKind.i64 (IE.var 2), SV.var 3, SV.var 4])]
                                                                      (VC.ob (BE.le (IE.lit (-9223372036854775808)) (IE.add (IE.var 29) (IE.var 30)))
                                                                        (VC.ob (BE.le (IE.add (IE.var 29) (IE.var 30)) (IE.lit 9223372036854775807))
                                                                          (VC.call 27 [SV.cst (Value.pointer none), SV.int IntKind.i64 (IE.var 1)] [Base.int IntKind.i64]
                                                                            (SV.int IntKind.i64 (IE.var 31)) [] true [] [] [8, 7, 6]
                                                                            [(8, [SV.int IntKind.i64 (IE.var 0), SV.int IntKind.i64 (IE.var 1), SV.int IntKind.i64 (IE.var 2), SV.var 3, SV.var 4]),
                                                                              (7, [SV.bool (BE.lit false)]),
                                                                              (6, [SV.int IntKind.i64 (IE.var 0), SV.int IntKind.i64 (IE.var 1), SV.int IntKind.i64 (IE.var 2), SV.var 3, SV.var 4])]
                                                                            (VC.ob (BE.le (IE.lit (-9223372036854775808)) (IE.add (IE.add (IE.var 29) (IE.var 30)) (IE.var 31)))
                                                                              (VC.ob (BE.le (IE.add (IE.add (IE.var 29) (IE.var 30)) (IE.var 31)) (IE.lit 9223372036854775807))
                                                                                (VC.split (BE.eq (IE.add (IE.add (IE.var 29) (IE.var 30)) (IE.var 31)) (IE.lit 0))
                                                                                  (VC.call 28 [SV.cst (Value.pointer none), SV.int IntKind.i64 (IE.var 1), SV.int IntKind.i64 (IE.var 2)]
                                                                                    [Base.int IntKind.i64] (SV.int IntKind.i64 (IE.var 32)) [] true [] [] [8, 7, 6]
                                                                                    [(8,
                                                                                        [SV.int IntKind.i64 (IE.var 0), SV.int IntKind.i64 (IE.var 1), SV.int IntKind.i64 (IE.var 2), SV.var 3,
                                                                                          SV.var 4]),
                                                                                      (7, [SV.bool (BE.lit false)]),
                                                                                      (6,
                                                                                        [SV.int IntKind.i64 (IE.var 0), SV.int IntKind.i64 (IE.var 1), SV.int IntKind.i64 (IE.var 2), SV.var 3,
                                                                                          SV.var 4])]
                                                                                    (VC.split (BE.eq (IE.var 32) (IE.lit 0))
                                                                                      (VC.call 14 [SV.cst (Value.pointer none)] [Base.ptr] (SV.var 33) [] true [] [] [8, 7, 6]
                                                                                        [(8,
                                                                                            [SV.int IntKind.i64 (IE.var 0), SV.int IntKind.i64 (IE.var 1), SV.int IntKind.i64 (IE.var 2), SV.var 3,
                                                                                              SV.var 4]),
                                                                                          (7, [SV.bool (BE.lit false)]),
                                                                                          (6,
                                                                                            [SV.int IntKind.i64 (IE.var 0), SV.int IntKind.i64 (IE.var 1), SV.int IntKind.i64 (IE.var 2), SV.var 3,
                                                                                              SV.var 4])]
                                                                                        (VC.split (BE.nil 33)
                                                                                          (VC.call 11 [] [Base.bool] (SV.bool (BE.var 34)) [] true [] [] [8, 7, 6]
                                                                                            [(8,
                                                                                                [SV.int IntKind.i64 (IE.var 0), SV.int IntKind.i64 (IE.var 1), SV.int IntKind.i64 (IE.var 2), SV.var 3,
                                                                                                  SV.var 4]),
                                                                                              (7, [SV.bool (BE.lit false)]),
                                                                                              (6,
                                                                                                [SV.int IntKind.i64 (IE.var 0), SV.int IntKind.i64 (IE.var 1), SV.int IntKind.i64 (IE.var 2), SV.var 3,
                                                                                                  SV.var 4])]
                                                                                            (VC.leafM 0 [SV.bool (BE.var 34)] [7]
                                                                                              [(8,
                                                                                                  [SV.int IntKind.i64 (IE.var 0), SV.int IntKind.i64 (IE.var 1), SV.int IntKind.i64 (IE.var 2),
                                                                                                    SV.var 3, SV.var 4]),
                                                                                                (7, [SV.bool (BE.var 34)]),
                                                                                                (6,
                                                                                                  [SV.int IntKind.i64 (IE.var 0), SV.int IntKind.i64 (IE.var 1), SV.int IntKind.i64 (IE.var 2),
                                                                                                    SV.var 3, SV.var 4])]))
                                                                                          (VC.leafM 0 [SV.bool (BE.lit false)] [7]
                                                                                            [(8,
                                                                                                [SV.int IntKind.i64 (IE.var 0), SV.int IntKind.i64 (IE.var 1), SV.int IntKind.i64 (IE.var 2), SV.var 3,
                                                                                                  SV.var 4]),
                                                                                              (7, [SV.bool (BE.lit false)]),
                                                                                              (6,
                                                                                                [SV.int IntKind.i64 (IE.var 0), SV.int IntKind.i64 (IE.var 1), SV.int IntKind.i64 (IE.var 2), SV.var 3,
                                                                                                  SV.var 4])])))
                                                                                      (VC.leafM 0 [SV.bool (BE.lit false)] [7]
                                                                                        [(8,
                                                                                            [SV.int IntKind.i64 (IE.var 0), SV.int IntKind.i64 (IE.var 1), SV.int IntKind.i64 (IE.var 2), SV.var 3,
                                                                                              SV.var 4]),
                                                                                          (7, [SV.bool (BE.lit false)]),
                                                                                          (6,
                                                                                            [SV.int IntKind.i64 (IE.var 0), SV.int IntKind.i64 (IE.var 1), SV.int IntKind.i64 (IE.var 2), SV.var 3,
                                                                                              SV.var 4])])))
                                                                                  (VC.leafM 0 [SV.bool (BE.lit false)] [7]
                                                                                    [(8,
                                                                                        [SV.int IntKind.i64 (IE.var 0), SV.int IntKind.i64 (IE.var 1), SV.int IntKind.i64 (IE.var 2), SV.var 3,
                                                                                          SV.var 4]),
                                                                                      (7, [SV.bool (BE.lit false)]),
                                                                                      (6,
                                                                                        [SV.int IntKind.i64 (IE.var 0), SV.int IntKind.i64 (IE.var 1), SV.int IntKind.i64 (IE.var 2), SV.var 3,
                                                                                          SV.var 4])])))))))))
                                                                  (VC.leafM 0 [SV.bool (BE.lit false)] [7]
                                                                    [(8, [SV.int IntKind.i64 (IE.var 0), SV.int IntKind.i64 (IE.var 1), SV.int IntKind.i64 (IE.var 2), SV.var 3, SV.var 4]),
                                                                      (7, [SV.bool (BE.lit false)]),
                                                                      (6, [SV.int IntKind.i64 (IE.var 0), SV.int IntKind.i64 (IE.var 1), SV.int IntKind.i64 (IE.var 2), SV.var 3, SV.var 4])]))))
                                                            (VC.leafM 0 [SV.bool (BE.lit false)] [7]
                                                              [(8, [SV.int IntKind.i64 (IE.var 0), SV.int IntKind.i64 (IE.var 1), SV.int IntKind.i64 (IE.var 2), SV.var 3, SV.var 4]),
                                                                (7, [SV.bool (BE.lit false)]),
                                                                (6, [SV.int IntKind.i64 (IE.var 0), SV.int IntKind.i64 (IE.var 1), SV.int IntKind.i64 (IE.var 2), SV.var 3, SV.var 4])])))
                                                        (VC.leafM 0 [SV.bool (BE.lit false)] [7]
                                                          [(8, [SV.int IntKind.i64 (IE.var 0), SV.int IntKind.i64 (IE.var 1), SV.int IntKind.i64 (IE.var 2), SV.var 3, SV.var 4]),
                                                            (7, [SV.bool (BE.lit false)]),
                                                            (6, [SV.int IntKind.i64 (IE.var 0), SV.int IntKind.i64 (IE.var 1), SV.int IntKind.i64 (IE.var 2), SV.var 3, SV.var 4])]))))
                                                  (VC.leafM 0 [SV.bool (BE.lit false)] [7]
                                                    [(8, [SV.int IntKind.i64 (IE.var 0), SV.int IntKind.i64 (IE.var 1), SV.int IntKind.i64 (IE.var 2), SV.var 3, SV.var 4]),
                                                      (7, [SV.bool (BE.lit false)]),
                                                      (6, [SV.int IntKind.i64 (IE.var 0), SV.int IntKind.i64 (IE.var 1), SV.int IntKind.i64 (IE.var 2), SV.var 3, SV.var 4])]))))
                                            (VC.leafM 0 [SV.bool (BE.lit false)] [7]
                                              [(8, [SV.int IntKind.i64 (IE.var 0), SV.int IntKind.i64 (IE.var 1), SV.int IntKind.i64 (IE.var 2), SV.var 3, SV.var 4]), (7, [SV.bool (BE.lit false)]),
                                                (6, [SV.int IntKind.i64 (IE.var 0), SV.int IntKind.i64 (IE.var 1), SV.int IntKind.i64 (IE.var 2), SV.var 3, SV.var 4])]))))
                                      (VC.leafM 0 [SV.bool (BE.lit false)] [7]
                                        [(8, [SV.int IntKind.i64 (IE.var 0), SV.int IntKind.i64 (IE.var 1), SV.int IntKind.i64 (IE.var 2), SV.var 3, SV.var 4]), (7, [SV.bool (BE.lit false)]),
                                          (6, [SV.int IntKind.i64 (IE.var 0), SV.int IntKind.i64 (IE.var 1), SV.int IntKind.i64 (IE.var 2), SV.var 3, SV.var 4])]))))
                                (VC.leafM 0 [SV.bool (BE.lit false)] [7]
                                  [(8, [SV.int IntKind.i64 (IE.var 0), SV.int IntKind.i64 (IE.var 1), SV.int IntKind.i64 (IE.var 2), SV.var 3, SV.var 4]), (7, [SV.bool (BE.lit false)]),
                                    (6, [SV.int IntKind.i64 (IE.var 0), SV.int IntKind.i64 (IE.var 1), SV.int IntKind.i64 (IE.var 2), SV.var 3, SV.var 4])]))))
                          (VC.leafM 0 [SV.bool (BE.lit false)] [7]
                            [(8, [SV.int IntKind.i64 (IE.var 0), SV.int IntKind.i64 (IE.var 1), SV.int IntKind.i64 (IE.var 2), SV.var 3, SV.var 4]), (7, [SV.bool (BE.lit false)]),
                              (6, [SV.int IntKind.i64 (IE.var 0), SV.int IntKind.i64 (IE.var 1), SV.int IntKind.i64 (IE.var 2), SV.var 3, SV.var 4])]))))))))))))) := by kernel_rfl

end Go.Proofs.Ytppbapnibpeolaa
