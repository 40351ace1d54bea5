/- What the functions of the chapter come to, printed by a program of the prover's and checked by the kernel. No conditions. -/
import Derived.Test.YtfjimghpjopgoaaSxX
import Derived.Test.YtfjimghpjopgoaaProg
import Derived.KernelRfl
set_option maxRecDepth 100000
set_option linter.unusedVariables false
namespace Go.Proofs.Ytfjimghpjopgoaa
open Go.Sx

theorem t5 : exFn { P := Try.prog, muts := (fun f => if (Bool.or (Nat.beq f 16) (Bool.or (Nat.beq f 19) (Nat.beq f 29))) = true then [0] else []), loops := fun r => if Nat.beq r 9 then some ⟨1, [(17, .int .i64), (16, .int .i64)], []⟩ else if Nat.beq r 20 then some ⟨2, [(22, .int .i64), (20, .slice), (21, .slice)], [19]⟩ else if Nat.beq r 25 then some ⟨3, [(23, .int .i64), (20, .slice), (21, .slice)], [19]⟩ else if Nat.beq r 33 then some ⟨4, [(26, .int .i64)], []⟩ else if Nat.beq r 36 then some ⟨5, [(27, .int .i64)], []⟩ else none, joins := fun r => if Nat.beq r 7 then some ⟨6, [(15, .int .i64)], []⟩ else if Nat.beq r 17 then some ⟨7, [], []⟩ else if Nat.beq r 24 then some ⟨8, [(20, .slice)], [19]⟩ else if Nat.beq r 32 then some ⟨10, [(20, .slice), (21, .slice)], [19]⟩ else if Nat.beq r 14 then some ⟨9, [], []⟩ else none } 5 [.agg [.int .i64 (.var 0), .int .i64 (.var 1), .int .i64 (.var 2), .int .i64 (.var 3)], .int .i64 (.var 4), .int .i64 (.var 5), .bool (.var 6), .var 7, .var 8] [.int .i64, .int .i64, .int .i64, .int .i64, .int .i64, .int .i64, .bool, .slice, .slice] [] =
  VC.blk
  (VC.split (BE.lt (IE.lit 300) (IE.var 5))
    (VC.call 9 [] [Base.bool] (SV.bool (BE.var 10)) [] false [] [] [9]
      [(9, [SV.int IntKind.i64 (IE.var 0), SV.int IntKind.i64 (IE.var 1), SV.int IntKind.i64 (IE.var 2), SV.int IntKind.i64 (IE.var 3)])]
      (VC.leaf 0 [SV.bool (BE.var 10)] [] [(9, [SV.int IntKind.i64 (IE.var 0), SV.int IntKind.i64 (IE.var 1), SV.int IntKind.i64 (IE.var 2), SV.int IntKind.i64 (IE.var 3)])]))
    (VC.split (BE.lt (IE.lit 40) (IE.len 7))
      (VC.call 9 [] [Base.bool] (SV.bool (BE.var 10)) [] false [] [] [9]
        [(9, [SV.int IntKind.i64 (IE.var 0), SV.int IntKind.i64 (IE.var 1), SV.int IntKind.i64 (IE.var 2), SV.int IntKind.i64 (IE.var 3)])]
        (VC.leaf 0 [SV.bool (BE.var 10)] [] [(9, [SV.int IntKind.i64 (IE.var 0), SV.int IntKind.i64 (IE.var 1), SV.int IntKind.i64 (IE.var 2), SV.int IntKind.i64 (IE.var 3)])]))
      (VC.split (BE.lt (IE.len 8) (IE.len 7))
        (VC.call 9 [] [Base.bool] (SV.bool (BE.var 10)) [] false [] [] [9]
          [(9, [SV.int IntKind.i64 (IE.var 0), SV.int IntKind.i64 (IE.var 1), SV.int IntKind.i64 (IE.var 2), SV.int IntKind.i64 (IE.var 3)])]
          (VC.leaf 0 [SV.bool (BE.var 10)] [] [(9, [SV.int IntKind.i64 (IE.var 0), SV.int IntKind.i64 (IE.var 1), SV.int IntKind.i64 (IE.var 2), SV.int IntKind.i64 (IE.var 3)])]))
        (VC.call 20
          [SV.agg [SV.int IntKind.i64 (IE.var 0), SV.int IntKind.i64 (IE.var 1), SV.int IntKind.i64 (IE.var 2), SV.int IntKind.i64 (IE.var 3)], SV.int IntKind.i64 (IE.var 4),
            SV.int IntKind.i64 (IE.var 5), SV.bool (BE.var 6)]
          [Base.slice, Base.int IntKind.i64] (SV.tuple [SV.var 10, SV.int IntKind.i64 (IE.var 11)]) [] false [] [] [9]
          [(9, [SV.int IntKind.i64 (IE.var 0), SV.int IntKind.i64 (IE.var 1), SV.int IntKind.i64 (IE.var 2), SV.int IntKind.i64 (IE.var 3)])]
          (VC.cut 6 [Base.int IntKind.i64] [9] [(9, [SV.int IntKind.i64 (IE.var 0), SV.int IntKind.i64 (IE.var 1), SV.int IntKind.i64 (IE.var 2), SV.int IntKind.i64 (IE.var 3)])]
            (VC.split (BE.var 6)
              (VC.leaf 6 [SV.int IntKind.i64 (IE.var 1)] [] [(9, [SV.int IntKind.i64 (IE.var 0), SV.int IntKind.i64 (IE.var 1), SV.int IntKind.i64 (IE.var 2), SV.int IntKind.i64 (IE.var 3)])])
              (VC.leaf 6 [SV.int IntKind.i64 (IE.var 0)] [] [(9, [SV.int IntKind.i64 (IE.var 0), SV.int IntKind.i64 (IE.var 1), SV.int IntKind.i64 (IE.var 2), SV.int IntKind.i64 (IE.var 3)])]))
            (VC.loop 1 [SV.int IntKind.i64 (IE.lit 0), SV.int IntKind.i64 (IE.var 4)] [Base.int IntKind.i64, Base.int IntKind.i64] [] [9]
              [(9, [SV.int IntKind.i64 (IE.var 0), SV.int IntKind.i64 (IE.var 1), SV.int IntKind.i64 (IE.var 2), SV.int IntKind.i64 (IE.var 3)])]
              [(9, [SV.int IntKind.i64 (IE.var 0), SV.int IntKind.i64 (IE.var 1), SV.int IntKind.i64 (IE.var 2), SV.int IntKind.i64 (IE.var 3)])]
              (VC.split (BE.lt (IE.var 13) (IE.len 10))
                (VC.ob (BE.le (IE.lit 0) (IE.var 13))
                  (VC.ob (BE.lt (IE.var 13) (IE.len 10))
                    (VC.ob (BE.not (BE.nil 10))
                      (VC.start false [] [] [(9, [SV.int IntKind.i64 (IE.var 0), SV.int IntKind.i64 (IE.var 1), SV.int IntKind.i64 (IE.var 2), SV.int IntKind.i64 (IE.var 3)])]
                        (VC.load (SV.elt 10 0 (IE.var 13) 2 0) [Base.int IntKind.i64, Base.int IntKind.i64]
                          (VC.blk
                            (VC.cut 9 [] [17, 9]
                              [(17, [SV.int IntKind.i64 (IE.var 15), SV.int IntKind.i64 (IE.var 16)]),
                                (9, [SV.int IntKind.i64 (IE.var 0), SV.int IntKind.i64 (IE.var 1), SV.int IntKind.i64 (IE.var 2), SV.int IntKind.i64 (IE.var 3)])]
                              (VC.start true [17] [17, 9]
                                [(17, [SV.int IntKind.i64 (IE.var 15), SV.int IntKind.i64 (IE.var 16)]),
                                  (9, [SV.int IntKind.i64 (IE.var 0), SV.int IntKind.i64 (IE.var 1), SV.int IntKind.i64 (IE.var 2), SV.int IntKind.i64 (IE.var 3)])]
                                (VC.split (BE.not (BE.eq (IE.var 15) (IE.var 14)))
                                  (VC.leaf 0 [SV.bool (BE.lit false)] []
                                    [(17, [SV.int IntKind.i64 (IE.var 15), SV.int IntKind.i64 (IE.var 16)]),
                                      (9, [SV.int IntKind.i64 (IE.var 0), SV.int IntKind.i64 (IE.var 1), SV.int IntKind.i64 (IE.var 2), SV.int IntKind.i64 (IE.var 3)])])
                                  (VC.split (BE.lt (IE.var 16) (IE.lit 1))
                                    (VC.leaf 0 [SV.bool (BE.lit false)] []
                                      [(17, [SV.int IntKind.i64 (IE.var 15), SV.int IntKind.i64 (IE.var 16)]),
                                        (9, [SV.int IntKind.i64 (IE.var 0), SV.int IntKind.i64 (IE.var 1), SV.int IntKind.i64 (IE.var 2), SV.int IntKind.i64 (IE.var 3)])])
                                    (VC.split (BE.lt (IE.var 12) (IE.var 16))
                                      (VC.leaf 0 [SV.bool (BE.lit false)] []
                                        [(17, [SV.int IntKind.i64 (IE.var 15), SV.int IntKind.i64 (IE.var 16)]),
                                          (9, [SV.int IntKind.i64 (IE.var 0), SV.int IntKind.i64 (IE.var 1), SV.int IntKind.i64 (IE.var 2), SV.int IntKind.i64 (IE.var 3)])])
                                      (VC.split (BE.lt (IE.lit 0) (IE.var 2))
                                        (VC.ob (BE.le (IE.lit (-9223372036854775808)) (IE.sub (IE.var 15) (IE.var 3)))
                                          (VC.ob (BE.le (IE.sub (IE.var 15) (IE.var 3)) (IE.lit 9223372036854775807))
                                            (VC.ob (BE.le (IE.lit (-9223372036854775808)) (IE.add (IE.sub (IE.var 15) (IE.var 3)) (IE.var 2)))
                                              (VC.ob (BE.le (IE.add (IE.sub (IE.var 15) (IE.var 3)) (IE.var 2)) (IE.lit 9223372036854775807))
                                                (VC.ob (BE.not (BE.eq (IE.var 2) (IE.lit 0)))
                                                  (VC.ob (BE.le (IE.lit (-9223372036854775808)) (IE.quo (IE.add (IE.sub (IE.var 15) (IE.var 3)) (IE.var 2)) (IE.var 2)))
                                                    (VC.ob (BE.le (IE.quo (IE.add (IE.sub (IE.var 15) (IE.var 3)) (IE.var 2)) (IE.var 2)) (IE.lit 9223372036854775807))
                                                      (VC.ob (BE.le (IE.lit (-9223372036854775808)) (IE.add (IE.var 15) (IE.var 16)))
                                                        (VC.ob (BE.le (IE.add (IE.var 15) (IE.var 16)) (IE.lit 9223372036854775807))
                                                          (VC.ob (BE.le (IE.lit (-9223372036854775808)) (IE.sub (IE.add (IE.var 15) (IE.var 16)) (IE.lit 1)))
                                                            (VC.ob (BE.le (IE.sub (IE.add (IE.var 15) (IE.var 16)) (IE.lit 1)) (IE.lit 9223372036854775807))
                                                              (VC.ob (BE.le (IE.lit (-9223372036854775808)) (IE.sub (IE.sub (IE.add (IE.var 15) (IE.var 16)) (IE.lit 1)) (IE.var 3)))
                                                                (VC.ob (BE.le (IE.sub (IE.sub (IE.add (IE.var 15) (IE.var 16)) (IE.lit 1)) (IE.var 3)) (IE.lit 9223372036854775807))
                                                                  (VC.ob
                                                                    (BE.le (IE.lit (-9223372036854775808)) (IE.add (IE.sub (IE.sub (IE.add (IE.var 15) (IE.var 16)) (IE.lit 1)) (IE.var 3)) (IE.var 2)))
                                                                    (VC.ob
                                                                      (BE.le (IE.add (IE.sub (IE.sub (IE.add (IE.var 15) (IE.var 16)) (IE.lit 1)) (IE.var 3)) (IE.var 2)) (IE.lit 9223372036854775807))
                                                                      (VC.ob (BE.not (BE.eq (IE.var 2) (IE.lit 0)))
                                                                        (VC.ob
                                                                          (BE.le (IE.lit (-9223372036854775808))
                                                                            (IE.quo (IE.add (IE.sub (IE.sub (IE.add (IE.var 15) (IE.var 16)) (IE.lit 1)) (IE.var 3)) (IE.var 2)) (IE.var 2)))
                                                                          (VC.ob
                                                                            (BE.le (IE.quo (IE.add (IE.sub (IE.sub (IE.add (IE.var 15) (IE.var 16)) (IE.lit 1)) (IE.var 3)) (IE.var 2)) (IE.var 2))
                                                                              (IE.lit 9223372036854775807))
                                                                            (VC.split
                                                                              (BE.not
                                                                                (BE.eq (IE.quo (IE.add (IE.sub (IE.var 15) (IE.var 3)) (IE.var 2)) (IE.var 2))
                                                                                  (IE.quo (IE.add (IE.sub (IE.sub (IE.add (IE.var 15) (IE.var 16)) (IE.lit 1)) (IE.var 3)) (IE.var 2)) (IE.var 2))))
                                                                              (VC.leaf 0 [SV.bool (BE.lit false)] []
                                                                                [(17, [SV.int IntKind.i64 (IE.var 15), SV.int IntKind.i64 (IE.var 16)]),
                                                                                  (9,
                                                                                    [SV.int IntKind.i64 (IE.var 0), SV.int IntKind.i64 (IE.var 1), SV.int IntKind.i64 (IE.var 2),
                                                                                      SV.int IntKind.i64 (IE.var 3)])])
                                                                              (VC.leaf 9 [] []
                                                                                [(17, [SV.int IntKind.i64 (IE.var 15), SV.int IntKind.i64 (IE.var 16)]),
                                                                                  (9,
                                                                                    [SV.int IntKind.i64 (IE.var 0), SV.int IntKind.i64 (IE.var 1), SV.int IntKind.i64 (IE.var 2),
                                                                                      SV.int IntKind.i64 (IE.var 3)])]))))))))))))))))))))
                                        (VC.leaf 9 [] []
                                          [(17, [SV.int IntKind.i64 (IE.var 15), SV.int IntKind.i64 (IE.var 16)]),
                                            (9, [SV.int IntKind.i64 (IE.var 0), SV.int IntKind.i64 (IE.var 1), SV.int IntKind.i64 (IE.var 2), SV.int IntKind.i64 (IE.var 3)])]))))))
                              (VC.ob (BE.le (IE.lit (-9223372036854775808)) (IE.add (IE.var 14) (IE.var 16)))
                                (VC.ob (BE.le (IE.add (IE.var 14) (IE.var 16)) (IE.lit 9223372036854775807))
                                  (VC.ob (BE.le (IE.lit (-9223372036854775808)) (IE.add (IE.var 13) (IE.lit 1)))
                                    (VC.ob (BE.le (IE.add (IE.var 13) (IE.lit 1)) (IE.lit 9223372036854775807))
                                      (VC.leaf 1 [SV.int IntKind.i64 (IE.add (IE.var 13) (IE.lit 1)), SV.int IntKind.i64 (IE.add (IE.var 14) (IE.var 16))] []
                                        [(17, [SV.int IntKind.i64 (IE.var 15), SV.int IntKind.i64 (IE.var 16)]),
                                          (9, [SV.int IntKind.i64 (IE.var 0), SV.int IntKind.i64 (IE.var 1), SV.int IntKind.i64 (IE.var 2), SV.int IntKind.i64 (IE.var 3)])]))))))))))))
                (VC.cut 7 [] [9] [(9, [SV.int IntKind.i64 (IE.var 0), SV.int IntKind.i64 (IE.var 1), SV.int IntKind.i64 (IE.var 2), SV.int IntKind.i64 (IE.var 3)])]
                  (VC.call 15 [SV.int IntKind.i64 (IE.var 11)] [Base.int IntKind.i64] (SV.int IntKind.i64 (IE.var 15)) [] false [] [] [9]
                    [(9, [SV.int IntKind.i64 (IE.var 0), SV.int IntKind.i64 (IE.var 1), SV.int IntKind.i64 (IE.var 2), SV.int IntKind.i64 (IE.var 3)])]
                    (VC.split (BE.eq (IE.var 15) (IE.lit 0))
                      (VC.ob (BE.le (IE.lit (-9223372036854775808)) (IE.add (IE.var 4) (IE.var 5)))
                        (VC.ob (BE.le (IE.add (IE.var 4) (IE.var 5)) (IE.lit 9223372036854775807))
                          (VC.split (BE.not (BE.eq (IE.var 14) (IE.add (IE.var 4) (IE.var 5))))
                            (VC.leaf 0 [SV.bool (BE.lit false)] [] [(9, [SV.int IntKind.i64 (IE.var 0), SV.int IntKind.i64 (IE.var 1), SV.int IntKind.i64 (IE.var 2), SV.int IntKind.i64 (IE.var 3)])])
                            (VC.leaf 7 [] [] [(9, [SV.int IntKind.i64 (IE.var 0), SV.int IntKind.i64 (IE.var 1), SV.int IntKind.i64 (IE.var 2), SV.int IntKind.i64 (IE.var 3)])]))))
                      (VC.leaf 7 [] [] [(9, [SV.int IntKind.i64 (IE.var 0), SV.int IntKind.i64 (IE.var 1), SV.int IntKind.i64 (IE.var 2), SV.int IntKind.i64 (IE.var 3)])])))
                  (VC.blk
                    (VC.loop 2 [SV.int IntKind.i64 (IE.lit 0), SV.cst (Value.slice none 0 0), SV.cst (Value.slice none 0 0), SV.cst (Value.slice none 0 0)]
                      [Base.int IntKind.i64, Base.slice, Base.slice, Base.slice] [] [15, 9]
                      [(15, [SV.cst (Value.slice none 0 0)]), (9, [SV.int IntKind.i64 (IE.var 0), SV.int IntKind.i64 (IE.var 1), SV.int IntKind.i64 (IE.var 2), SV.int IntKind.i64 (IE.var 3)])]
                      [(15, [SV.var 19]), (9, [SV.int IntKind.i64 (IE.var 0), SV.int IntKind.i64 (IE.var 1), SV.int IntKind.i64 (IE.var 2), SV.int IntKind.i64 (IE.var 3)])]
                      (VC.split (BE.lt (IE.var 16) (IE.len 7))
                        (VC.cut 8 [Base.slice, Base.slice] [15, 9]
                          [(15, [SV.var 21]), (9, [SV.int IntKind.i64 (IE.var 0), SV.int IntKind.i64 (IE.var 1), SV.int IntKind.i64 (IE.var 2), SV.int IntKind.i64 (IE.var 3)])]
                          (VC.start true [] [15, 9]
                            [(15, [SV.var 19]), (9, [SV.int IntKind.i64 (IE.var 0), SV.int IntKind.i64 (IE.var 1), SV.int IntKind.i64 (IE.var 2), SV.int IntKind.i64 (IE.var 3)])]
                            (VC.ob (BE.le (IE.lit 0) (IE.var 16))
                              (VC.ob (BE.lt (IE.var 16) (IE.len 7))
                                (VC.ob (BE.not (BE.nil 7))
                                  (VC.load (SV.elt 7 0 (IE.var 16) 5 2) [Base.int IntKind.i64]
                                    (VC.ob (BE.le (IE.lit 0) (IE.var 16))
                                      (VC.ob (BE.lt (IE.var 16) (IE.len 7))
                                        (VC.load (SV.elt 7 0 (IE.var 16) 5 3) [Base.int IntKind.i64]
                                          (VC.ob (BE.le (IE.lit 0) (IE.var 16))
                                            (VC.ob (BE.lt (IE.var 16) (IE.len 7))
                                              (VC.load (SV.elt 7 0 (IE.var 16) 5 4) [Base.bool]
                                                (VC.call 16 [SV.ptr 15 0, SV.int IntKind.i64 (IE.var 16), SV.int IntKind.i64 (IE.var 20), SV.int IntKind.i64 (IE.var 21), SV.bool (BE.var 22)]
                                                  [Base.int IntKind.i64, Base.slice] (SV.int IntKind.i64 (IE.var 23)) [(15, [SV.var 24])] true [] [] [9]
                                                  [(15, [SV.var 19]), (9, [SV.int IntKind.i64 (IE.var 0), SV.int IntKind.i64 (IE.var 1), SV.int IntKind.i64 (IE.var 2), SV.int IntKind.i64 (IE.var 3)])]
                                                  (VC.call 15 [SV.int IntKind.i64 (IE.var 23)] [Base.int IntKind.i64] (SV.int IntKind.i64 (IE.var 25)) [] true [] [] [15, 9]
                                                    [(15, [SV.var 24]),
                                                      (9, [SV.int IntKind.i64 (IE.var 0), SV.int IntKind.i64 (IE.var 1), SV.int IntKind.i64 (IE.var 2), SV.int IntKind.i64 (IE.var 3)])]
                                                    (VC.split (BE.eq (IE.var 25) (IE.lit 0))
                                                      (VC.blk
                                                        (VC.gen (Op.call { callee := Callee.builtin Builtin.append, args := #[Operand.tmp 164, Operand.tmp 166], argTypes := #[52, 52] }) 52
                                                          [(Operand.tmp 164, SV.var 17), (Operand.tmp 166, SV.slc 26 0 1 1)] [Base.slice] (SV.var 27) [] false [] [] [26, 15, 9]
                                                          [(26, [SV.int IntKind.i64 (IE.var 16)]), (15, [SV.var 24]),
                                                            (9, [SV.int IntKind.i64 (IE.var 0), SV.int IntKind.i64 (IE.var 1), SV.int IntKind.i64 (IE.var 2), SV.int IntKind.i64 (IE.var 3)])]
                                                          (VC.leaf 8 [SV.var 27, SV.var 24] []
                                                            [(26, [SV.int IntKind.i64 (IE.var 16)]), (15, [SV.var 24]),
                                                              (9, [SV.int IntKind.i64 (IE.var 0), SV.int IntKind.i64 (IE.var 1), SV.int IntKind.i64 (IE.var 2), SV.int IntKind.i64 (IE.var 3)])])))
                                                      (VC.leaf 8 [SV.var 17, SV.var 24] []
                                                        [(15, [SV.var 24]),
                                                          (9,
                                                            [SV.int IntKind.i64 (IE.var 0), SV.int IntKind.i64 (IE.var 1), SV.int IntKind.i64 (IE.var 2),
                                                              SV.int IntKind.i64 (IE.var 3)])])))))))))))))))
                          (VC.cut 10 [Base.slice, Base.slice, Base.slice] [15, 9]
                            [(15, [SV.var 24]), (9, [SV.int IntKind.i64 (IE.var 0), SV.int IntKind.i64 (IE.var 1), SV.int IntKind.i64 (IE.var 2), SV.int IntKind.i64 (IE.var 3)])]
                            (VC.loop 3 [SV.int IntKind.i64 (IE.lit 0), SV.var 20, SV.var 18, SV.var 21] [Base.int IntKind.i64, Base.slice, Base.slice, Base.slice] [] [15, 9]
                              [(15, [SV.var 21]), (9, [SV.int IntKind.i64 (IE.var 0), SV.int IntKind.i64 (IE.var 1), SV.int IntKind.i64 (IE.var 2), SV.int IntKind.i64 (IE.var 3)])]
                              [(15, [SV.var 25]), (9, [SV.int IntKind.i64 (IE.var 0), SV.int IntKind.i64 (IE.var 1), SV.int IntKind.i64 (IE.var 2), SV.int IntKind.i64 (IE.var 3)])]
                              (VC.ob (BE.le (IE.lit 0) (IE.var 16))
                                (VC.ob (BE.lt (IE.var 16) (IE.len 8))
                                  (VC.ob (BE.not (BE.nil 8))
                                    (VC.start false [] []
                                      [(15, [SV.var 25]), (9, [SV.int IntKind.i64 (IE.var 0), SV.int IntKind.i64 (IE.var 1), SV.int IntKind.i64 (IE.var 2), SV.int IntKind.i64 (IE.var 3)])]
                                      (VC.load (SV.elt 8 0 (IE.var 16) 1 0) [Base.int IntKind.u8]
                                        (VC.split (BE.lt (IE.var 22) (IE.rem (IE.wrap IntKind.i64 (IE.var 26)) (IE.lit 3)))
                                          (VC.split (BE.lt (IE.lit 0) (IE.len 23))
                                            (VC.call 21 [SV.ptr 15 0] [Base.int IntKind.i64, Base.int IntKind.i64] (SV.tuple [SV.int IntKind.i64 (IE.var 27), SV.int IntKind.i64 (IE.var 28)]) [] false
                                              [] [] [15, 9]
                                              [(15, [SV.var 25]), (9, [SV.int IntKind.i64 (IE.var 0), SV.int IntKind.i64 (IE.var 1), SV.int IntKind.i64 (IE.var 2), SV.int IntKind.i64 (IE.var 3)])]
                                              (VC.call 15 [SV.int IntKind.i64 (IE.var 28)] [Base.int IntKind.i64] (SV.int IntKind.i64 (IE.var 29)) [] false [] [] [15, 9]
                                                [(15, [SV.var 25]), (9, [SV.int IntKind.i64 (IE.var 0), SV.int IntKind.i64 (IE.var 1), SV.int IntKind.i64 (IE.var 2), SV.int IntKind.i64 (IE.var 3)])]
                                                (VC.split (BE.not (BE.eq (IE.var 29) (IE.lit 0)))
                                                  (VC.leaf 0 [SV.bool (BE.lit false)] []
                                                    [(15, [SV.var 25]),
                                                      (9, [SV.int IntKind.i64 (IE.var 0), SV.int IntKind.i64 (IE.var 1), SV.int IntKind.i64 (IE.var 2), SV.int IntKind.i64 (IE.var 3)])])
                                                  (VC.ob (BE.lt (IE.lit 0) (IE.len 23))
                                                    (VC.ob (BE.not (BE.nil 23))
                                                      (VC.start false [] []
                                                        [(15, [SV.var 25]),
                                                          (9, [SV.int IntKind.i64 (IE.var 0), SV.int IntKind.i64 (IE.var 1), SV.int IntKind.i64 (IE.var 2), SV.int IntKind.i64 (IE.var 3)])]
                                                        (VC.load (SV.elt 23 0 (IE.lit 0) 1 0) [Base.int IntKind.i64]
                                                          (VC.split (BE.not (BE.eq (IE.var 27) (IE.var 30)))
                                                            (VC.leaf 0 [SV.bool (BE.lit false)] []
                                                              [(15, [SV.var 25]),
                                                                (9, [SV.int IntKind.i64 (IE.var 0), SV.int IntKind.i64 (IE.var 1), SV.int IntKind.i64 (IE.var 2), SV.int IntKind.i64 (IE.var 3)])])
                                                            (VC.call 19 [SV.ptr 15 0, SV.int IntKind.i64 (IE.var 27)] [Base.int IntKind.i64, Base.slice] (SV.int IntKind.i64 (IE.var 31))
                                                              [(15, [SV.var 32])] false [] [] [9]
                                                              [(15, [SV.var 25]),
                                                                (9, [SV.int IntKind.i64 (IE.var 0), SV.int IntKind.i64 (IE.var 1), SV.int IntKind.i64 (IE.var 2), SV.int IntKind.i64 (IE.var 3)])]
                                                              (VC.call 15 [SV.int IntKind.i64 (IE.var 31)] [Base.int IntKind.i64] (SV.int IntKind.i64 (IE.var 33)) [] false [] [] [15, 9]
                                                                [(15, [SV.var 32]),
                                                                  (9, [SV.int IntKind.i64 (IE.var 0), SV.int IntKind.i64 (IE.var 1), SV.int IntKind.i64 (IE.var 2), SV.int IntKind.i64 (IE.var 3)])]
                                                                (VC.split (BE.not (BE.eq (IE.var 33) (IE.lit 0)))
                                                                  (VC.leaf 0 [SV.bool (BE.lit false)] []
                                                                    [(15, [SV.var 32]),
                                                                      (9,
                                                                        [SV.int IntKind.i64 (IE.var 0), SV.int IntKind.i64 (IE.var 1), SV.int IntKind.i64 (IE.var 2), SV.int IntKind.i64 (IE.var 3)])])
                                                                  (VC.blk
                                                                    (VC.gen (Op.call { callee := Callee.builtin Builtin.append, args := #[Operand.tmp 205, Operand.tmp 207], argTypes := #[52, 52] }) 52
                                                                      [(Operand.tmp 205, SV.var 24), (Operand.tmp 207, SV.slc 34 0 1 1)] [Base.slice] (SV.var 35) [] false [] [] [34, 15, 9]
                                                                      [(34, [SV.int IntKind.i64 (IE.var 27)]), (15, [SV.var 32]),
                                                                        (9,
                                                                          [SV.int IntKind.i64 (IE.var 0), SV.int IntKind.i64 (IE.var 1), SV.int IntKind.i64 (IE.var 2), SV.int IntKind.i64 (IE.var 3)])]
                                                                      (VC.start false [] []
                                                                        [(34, [SV.int IntKind.i64 (IE.var 27)]), (15, [SV.var 32]),
                                                                          (9,
                                                                            [SV.int IntKind.i64 (IE.var 0), SV.int IntKind.i64 (IE.var 1), SV.int IntKind.i64 (IE.var 2),
                                                                              SV.int IntKind.i64 (IE.var 3)])]
                                                                        (VC.pur (Op.slice 52 (Operand.tmp 209) (some (Operand.const (Value.int IntKind.i64 1))) none none) 52
                                                                          [(Operand.tmp 209, SV.var 23), (Operand.const (Value.int IntKind.i64 1), SV.int IntKind.i64 (IE.lit 1))] [Base.slice]
                                                                          (SV.var 36)
                                                                          (VC.ob (BE.le (IE.lit (-9223372036854775808)) (IE.add (IE.var 22) (IE.lit 1)))
                                                                            (VC.ob (BE.le (IE.add (IE.var 22) (IE.lit 1)) (IE.lit 9223372036854775807))
                                                                              (VC.leaf 3 [SV.int IntKind.i64 (IE.add (IE.var 22) (IE.lit 1)), SV.var 36, SV.var 35, SV.var 32] []
                                                                                [(34, [SV.int IntKind.i64 (IE.var 27)]), (15, [SV.var 32]),
                                                                                  (9,
                                                                                    [SV.int IntKind.i64 (IE.var 0), SV.int IntKind.i64 (IE.var 1), SV.int IntKind.i64 (IE.var 2),
                                                                                      SV.int IntKind.i64 (IE.var 3)])]))))))))))))))))))
                                            (VC.leaf 10 [SV.var 23, SV.var 24, SV.var 25] []
                                              [(15, [SV.var 25]), (9, [SV.int IntKind.i64 (IE.var 0), SV.int IntKind.i64 (IE.var 1), SV.int IntKind.i64 (IE.var 2), SV.int IntKind.i64 (IE.var 3)])]))
                                          (VC.leaf 10 [SV.var 23, SV.var 24, SV.var 25] []
                                            [(15, [SV.var 25]),
                                              (9, [SV.int IntKind.i64 (IE.var 0), SV.int IntKind.i64 (IE.var 1), SV.int IntKind.i64 (IE.var 2), SV.int IntKind.i64 (IE.var 3)])]))))))))
                            (VC.loop 4 [SV.int IntKind.i64 (IE.lit 0)] [Base.int IntKind.i64] [] [15, 9]
                              [(15, [SV.var 24]), (9, [SV.int IntKind.i64 (IE.var 0), SV.int IntKind.i64 (IE.var 1), SV.int IntKind.i64 (IE.var 2), SV.int IntKind.i64 (IE.var 3)])]
                              [(15, [SV.var 24]), (9, [SV.int IntKind.i64 (IE.var 0), SV.int IntKind.i64 (IE.var 1), SV.int IntKind.i64 (IE.var 2), SV.int IntKind.i64 (IE.var 3)])]
                              (VC.split (BE.lt (IE.var 25) (IE.len 22))
                                (VC.loop 5 [SV.int IntKind.i64 (IE.lit 0)] [Base.int IntKind.i64] [] [15, 9]
                                  [(15, [SV.var 24]), (9, [SV.int IntKind.i64 (IE.var 0), SV.int IntKind.i64 (IE.var 1), SV.int IntKind.i64 (IE.var 2), SV.int IntKind.i64 (IE.var 3)])]
                                  [(15, [SV.var 24]), (9, [SV.int IntKind.i64 (IE.var 0), SV.int IntKind.i64 (IE.var 1), SV.int IntKind.i64 (IE.var 2), SV.int IntKind.i64 (IE.var 3)])]
                                  (VC.split (BE.lt (IE.var 26) (IE.var 25))
                                    (VC.start true [] [15, 9]
                                      [(15, [SV.var 24]), (9, [SV.int IntKind.i64 (IE.var 0), SV.int IntKind.i64 (IE.var 1), SV.int IntKind.i64 (IE.var 2), SV.int IntKind.i64 (IE.var 3)])]
                                      (VC.ob (BE.le (IE.lit 0) (IE.var 26))
                                        (VC.ob (BE.lt (IE.var 26) (IE.len 22))
                                          (VC.ob (BE.not (BE.nil 22))
                                            (VC.load (SV.elt 22 0 (IE.var 26) 1 0) [Base.int IntKind.i64]
                                              (VC.ob (BE.le (IE.lit 0) (IE.var 27))
                                                (VC.ob (BE.lt (IE.var 27) (IE.len 7))
                                                  (VC.ob (BE.not (BE.nil 7))
                                                    (VC.load (SV.elt 7 0 (IE.var 27) 5 0) [Base.int IntKind.i64, Base.int IntKind.i64, Base.int IntKind.i64, Base.int IntKind.i64, Base.bool]
                                                      (VC.ob (BE.le (IE.lit 0) (IE.var 25))
                                                        (VC.ob (BE.lt (IE.var 25) (IE.len 22))
                                                          (VC.load (SV.elt 22 0 (IE.var 25) 1 0) [Base.int IntKind.i64]
                                                            (VC.ob (BE.le (IE.lit 0) (IE.var 33))
                                                              (VC.ob (BE.lt (IE.var 33) (IE.len 7))
                                                                (VC.load (SV.elt 7 0 (IE.var 33) 5 0)
                                                                  [Base.int IntKind.i64, Base.int IntKind.i64, Base.int IntKind.i64, Base.int IntKind.i64, Base.bool]
                                                                  (VC.both
                                                                    (VC.blk
                                                                      (VC.blk
                                                                        (VC.ob (BE.le (IE.lit 0) (IE.var 26))
                                                                          (VC.ob (BE.lt (IE.var 26) (IE.len 22))
                                                                            (VC.start false [40, 39] []
                                                                              [(40,
                                                                                  [SV.int IntKind.i64 (IE.var 34), SV.int IntKind.i64 (IE.var 35), SV.int IntKind.i64 (IE.var 36),
                                                                                    SV.int IntKind.i64 (IE.var 37), SV.bool (BE.var 38)]),
                                                                                (39,
                                                                                  [SV.int IntKind.i64 (IE.var 28), SV.int IntKind.i64 (IE.var 29), SV.int IntKind.i64 (IE.var 30),
                                                                                    SV.int IntKind.i64 (IE.var 31), SV.bool (BE.var 32)]),
                                                                                (15, [SV.var 24]),
                                                                                (9,
                                                                                  [SV.int IntKind.i64 (IE.var 0), SV.int IntKind.i64 (IE.var 1), SV.int IntKind.i64 (IE.var 2),
                                                                                    SV.int IntKind.i64 (IE.var 3)])]
                                                                              (VC.load (SV.elt 22 0 (IE.var 26) 1 0) [Base.int IntKind.i64]
                                                                                (VC.call 22 [SV.ptr 15 0, SV.int IntKind.i64 (IE.var 41)] [Base.bool, Base.int IntKind.i64]
                                                                                  (SV.tuple [SV.bool (BE.var 42), SV.int IntKind.i64 (IE.var 43)]) [] false [] [] [40, 39, 15, 9]
                                                                                  [(40,
                                                                                      [SV.int IntKind.i64 (IE.var 34), SV.int IntKind.i64 (IE.var 35), SV.int IntKind.i64 (IE.var 36),
                                                                                        SV.int IntKind.i64 (IE.var 37), SV.bool (BE.var 38)]),
                                                                                    (39,
                                                                                      [SV.int IntKind.i64 (IE.var 28), SV.int IntKind.i64 (IE.var 29), SV.int IntKind.i64 (IE.var 30),
                                                                                        SV.int IntKind.i64 (IE.var 31), SV.bool (BE.var 32)]),
                                                                                    (15, [SV.var 24]),
                                                                                    (9,
                                                                                      [SV.int IntKind.i64 (IE.var 0), SV.int IntKind.i64 (IE.var 1), SV.int IntKind.i64 (IE.var 2),
                                                                                        SV.int IntKind.i64 (IE.var 3)])]
                                                                                  (VC.ob (BE.le (IE.lit 0) (IE.var 25))
                                                                                    (VC.ob (BE.lt (IE.var 25) (IE.len 22))
                                                                                      (VC.start false [] []
                                                                                        [(40,
                                                                                            [SV.int IntKind.i64 (IE.var 34), SV.int IntKind.i64 (IE.var 35), SV.int IntKind.i64 (IE.var 36),
                                                                                              SV.int IntKind.i64 (IE.var 37), SV.bool (BE.var 38)]),
                                                                                          (39,
                                                                                            [SV.int IntKind.i64 (IE.var 28), SV.int IntKind.i64 (IE.var 29), SV.int IntKind.i64 (IE.var 30),
                                                                                              SV.int IntKind.i64 (IE.var 31), SV.bool (BE.var 32)]),
                                                                                          (15, [SV.var 24]),
                                                                                          (9,
                                                                                            [SV.int IntKind.i64 (IE.var 0), SV.int IntKind.i64 (IE.var 1), SV.int IntKind.i64 (IE.var 2),
                                                                                              SV.int IntKind.i64 (IE.var 3)])]
                                                                                        (VC.load (SV.elt 22 0 (IE.var 25) 1 0) [Base.int IntKind.i64]
                                                                                          (VC.call 22 [SV.ptr 15 0, SV.int IntKind.i64 (IE.var 44)] [Base.bool, Base.int IntKind.i64]
                                                                                            (SV.tuple [SV.bool (BE.var 45), SV.int IntKind.i64 (IE.var 46)]) [] false [] [] [40, 39, 15, 9]
                                                                                            [(40,
                                                                                                [SV.int IntKind.i64 (IE.var 34), SV.int IntKind.i64 (IE.var 35), SV.int IntKind.i64 (IE.var 36),
                                                                                                  SV.int IntKind.i64 (IE.var 37), SV.bool (BE.var 38)]),
                                                                                              (39,
                                                                                                [SV.int IntKind.i64 (IE.var 28), SV.int IntKind.i64 (IE.var 29), SV.int IntKind.i64 (IE.var 30),
                                                                                                  SV.int IntKind.i64 (IE.var 31), SV.bool (BE.var 32)]),
                                                                                              (15, [SV.var 24]),
                                                                                              (9,
                                                                                                [SV.int IntKind.i64 (IE.var 0), SV.int IntKind.i64 (IE.var 1), SV.int IntKind.i64 (IE.var 2),
                                                                                                  SV.int IntKind.i64 (IE.var 3)])]
                                                                                            (VC.call 15 [SV.int IntKind.i64 (IE.var 43)] [Base.int IntKind.i64] (SV.int IntKind.i64 (IE.var 47)) []
                                                                                              false [] [] [40, 39, 15, 9]
                                                                                              [(40,
                                                                                                  [SV.int IntKind.i64 (IE.var 34), SV.int IntKind.i64 (IE.var 35), SV.int IntKind.i64 (IE.var 36),
                                                                                                    SV.int IntKind.i64 (IE.var 37), SV.bool (BE.var 38)]),
                                                                                                (39,
                                                                                                  [SV.int IntKind.i64 (IE.var 28), SV.int IntKind.i64 (IE.var 29), SV.int IntKind.i64 (IE.var 30),
                                                                                                    SV.int IntKind.i64 (IE.var 31), SV.bool (BE.var 32)]),
                                                                                                (15, [SV.var 24]),
                                                                                                (9,
                                                                                                  [SV.int IntKind.i64 (IE.var 0), SV.int IntKind.i64 (IE.var 1), SV.int IntKind.i64 (IE.var 2),
                                                                                                    SV.int IntKind.i64 (IE.var 3)])]
                                                                                              (VC.call 15 [SV.int IntKind.i64 (IE.var 46)] [Base.int IntKind.i64] (SV.int IntKind.i64 (IE.var 48)) []
                                                                                                false [] [] [40, 39, 15, 9]
                                                                                                [(40,
                                                                                                    [SV.int IntKind.i64 (IE.var 34), SV.int IntKind.i64 (IE.var 35), SV.int IntKind.i64 (IE.var 36),
                                                                                                      SV.int IntKind.i64 (IE.var 37), SV.bool (BE.var 38)]),
                                                                                                  (39,
                                                                                                    [SV.int IntKind.i64 (IE.var 28), SV.int IntKind.i64 (IE.var 29), SV.int IntKind.i64 (IE.var 30),
                                                                                                      SV.int IntKind.i64 (IE.var 31), SV.bool (BE.var 32)]),
                                                                                                  (15, [SV.var 24]),
                                                                                                  (9,
                                                                                                    [SV.int IntKind.i64 (IE.var 0), SV.int IntKind.i64 (IE.var 1), SV.int IntKind.i64 (IE.var 2),
                                                                                                      SV.int IntKind.i64 (IE.var 3)])]
                                                                                                (VC.ob (BE.le (IE.lit (-9223372036854775808)) (IE.add (IE.var 47) (IE.var 48)))
                                                                                                  (VC.ob (BE.le (IE.add (IE.var 47) (IE.var 48)) (IE.lit 9223372036854775807))
                                                                                                    (VC.split (BE.not (BE.eq (IE.add (IE.var 47) (IE.var 48)) (IE.lit 0)))
                                                                                                      (VC.leaf 0 [SV.bool (BE.lit false)] []
                                                                                                        [(40,
                                                                                                            [SV.int IntKind.i64 (IE.var 34), SV.int IntKind.i64 (IE.var 35),
                                                                                                              SV.int IntKind.i64 (IE.var 36), SV.int IntKind.i64 (IE.var 37), SV.bool (BE.var 38)]),
                                                                                                          (39,
                                                                                                            [SV.int IntKind.i64 (IE.var 28), SV.int IntKind.i64 (IE.var 29),
                                                                                                              SV.int IntKind.i64 (IE.var 30), SV.int IntKind.i64 (IE.var 31), SV.bool (BE.var 32)]),
                                                                                                          (15, [SV.var 24]),
                                                                                                          (9,
                                                                                                            [SV.int IntKind.i64 (IE.var 0), SV.int IntKind.i64 (IE.var 1),
                                                                                                              SV.int IntKind.i64 (IE.var 2), SV.int IntKind.i64 (IE.var 3)])])
                                                                                                      (VC.split (BE.var 42)
                                                                                                        (VC.split (BE.var 45)
                                                                                                          (VC.split (BE.var 32)
                                                                                                            (VC.ob (BE.le (IE.lit (-9223372036854775808)) (IE.add (IE.var 36) (IE.var 37)))
                                                                                                              (VC.ob (BE.le (IE.add (IE.var 36) (IE.var 37)) (IE.lit 9223372036854775807))
                                                                                                                (VC.split (BE.lt (IE.var 30) (IE.add (IE.var 36) (IE.var 37)))
                                                                                                                  (VC.ob (BE.le (IE.lit (-9223372036854775808)) (IE.add (IE.var 30) (IE.var 31)))
                                                                                                                    (VC.ob (BE.le (IE.add (IE.var 30) (IE.var 31)) (IE.lit 9223372036854775807))
                                                                                                                      (VC.split (BE.lt (IE.var 36) (IE.add (IE.var 30) (IE.var 31)))
                                                                                                                        (VC.leaf 0 [SV.bool (BE.lit false)] []
                                                                                                                          [(40,
                                                                                                                              [SV.int IntKind.i64 (IE.var 34), SV.int IntKind.i64 (IE.var 35),
                                                                                                                                SV.int IntKind.i64 (IE.var 36), SV.int IntKind.i64 (IE.var 37),
                                                                                                                                SV.bool (BE.var 38)]),
                                                                                                                            (39,
                                                                                                                              [SV.int IntKind.i64 (IE.var 28), SV.int IntKind.i64 (IE.var 29),
                                                                                                                                SV.int IntKind.i64 (IE.var 30), SV.int IntKind.i64 (IE.var 31),
                                                                                                                                SV.bool (BE.var 32)]),
                                                                                                                            (15, [SV.var 24]),
                                                                                                                            (9,
                                                                                                                              [SV.int IntKind.i64 (IE.var 0), SV.int IntKind.i64 (IE.var 1),
                                                                                                                                SV.int IntKind.i64 (IE.var 2), SV.int IntKind.i64 (IE.var 3)])])
                                                                                                                        (VC.ob (BE.le (IE.lit (-9223372036854775808)) (IE.add (IE.var 26) (IE.lit 1)))
                                                                                                                          (VC.ob (BE.le (IE.add (IE.var 26) (IE.lit 1)) (IE.lit 9223372036854775807))
                                                                                                                            (VC.leaf 5 [SV.int IntKind.i64 (IE.add (IE.var 26) (IE.lit 1))] []
                                                                                                                              [(40,
                                                                                                                                  [SV.int IntKind.i64 (IE.var 34), SV.int IntKind.i64 (IE.var 35),
                                                                                                                                    SV.int IntKind.i64 (IE.var 36), SV.int IntKind.i64 (IE.var 37),
                                                                                                                                    SV.bool (BE.var 38)]),
                                                                                                                                (39,
                                                                                                                                  [SV.int IntKind.i64 (IE.var 28), SV.int IntKind.i64 (IE.var 29),
                                                                                                                                    SV.int IntKind.i64 (IE.var 30), SV.int IntKind.i64 (IE.var 31),
                                                                                                                                    SV.bool (BE.var 32)]),
                                                                                                                                (15, [SV.var 24]),
                                                                                                                                (9,
                                                                                                                                  [SV.int IntKind.i64 (IE.var 0), SV.int IntKind.i64 (IE.var 1),
                                                                                                                                    SV.int IntKind.i64 (IE.var 2),
                                                                                                                                    SV.int IntKind.i64 (IE.var 3)])]))))))
                                                                                                                  (VC.ob (BE.le (IE.lit (-9223372036854775808)) (IE.add (IE.var 26) (IE.lit 1)))
                                                                                                                    (VC.ob (BE.le (IE.add (IE.var 26) (IE.lit 1)) (IE.lit 9223372036854775807))
                                                                                                                      (VC.leaf 5 [SV.int IntKind.i64 (IE.add (IE.var 26) (IE.lit 1))] []
                                                                                                                        [(40,
                                                                                                                            [SV.int IntKind.i64 (IE.var 34), SV.int IntKind.i64 (IE.var 35),
                                                                                                                              SV.int IntKind.i64 (IE.var 36), SV.int IntKind.i64 (IE.var 37),
                                                                                                                              SV.bool (BE.var 38)]),
                                                                                                                          (39,
                                                                                                                            [SV.int IntKind.i64 (IE.var 28), SV.int IntKind.i64 (IE.var 29),
                                                                                                                              SV.int IntKind.i64 (IE.var 30), SV.int IntKind.i64 (IE.var 31),
                                                                                                                              SV.bool (BE.var 32)]),
                                                                                                                          (15, [SV.var 24]),
                                                                                                                          (9,
                                                                                                                            [SV.int IntKind.i64 (IE.var 0), SV.int IntKind.i64 (IE.var 1),
                                                                                                                              SV.int IntKind.i64 (IE.var 2), SV.int IntKind.i64 (IE.var 3)])]))))))
                                                                                                            (VC.split (BE.var 38)
                                                                                                              (VC.ob (BE.le (IE.lit (-9223372036854775808)) (IE.add (IE.var 36) (IE.var 37)))
                                                                                                                (VC.ob (BE.le (IE.add (IE.var 36) (IE.var 37)) (IE.lit 9223372036854775807))
                                                                                                                  (VC.split (BE.lt (IE.var 30) (IE.add (IE.var 36) (IE.var 37)))
                                                                                                                    (VC.ob (BE.le (IE.lit (-9223372036854775808)) (IE.add (IE.var 30) (IE.var 31)))
                                                                                                                      (VC.ob (BE.le (IE.add (IE.var 30) (IE.var 31)) (IE.lit 9223372036854775807))
                                                                                                                        (VC.split (BE.lt (IE.var 36) (IE.add (IE.var 30) (IE.var 31)))
                                                                                                                          (VC.leaf 0 [SV.bool (BE.lit false)] []
                                                                                                                            [(40,
                                                                                                                                [SV.int IntKind.i64 (IE.var 34), SV.int IntKind.i64 (IE.var 35),
                                                                                                                                  SV.int IntKind.i64 (IE.var 36), SV.int IntKind.i64 (IE.var 37),
                                                                                                                                  SV.bool (BE.var 38)]),
                                                                                                                              (39,
                                                                                                                                [SV.int IntKind.i64 (IE.var 28), SV.int IntKind.i64 (IE.var 29),
                                                                                                                                  SV.int IntKind.i64 (IE.var 30), SV.int IntKind.i64 (IE.var 31),
                                                                                                                                  SV.bool (BE.var 32)]),
                                                                                                                              (15, [SV.var 24]),
                                                                                                                              (9,
                                                                                                                                [SV.int IntKind.i64 (IE.var 0), SV.int IntKind.i64 (IE.var 1),
                                                                                                                                  SV.int IntKind.i64 (IE.var 2), SV.int IntKind.i64 (IE.var 3)])])
                                                                                                                          (VC.ob (BE.le (IE.lit (-9223372036854775808)) (IE.add (IE.var 26) (IE.lit 1)))
                                                                                                                            (VC.ob (BE.le (IE.add (IE.var 26) (IE.lit 1)) (IE.lit 9223372036854775807))
                                                                                                                              (VC.leaf 5 [SV.int IntKind.i64 (IE.add (IE.var 26) (IE.lit 1))] []
                                                                                                                                [(40,
                                                                                                                                    [SV.int IntKind.i64 (IE.var 34), SV.int IntKind.i64 (IE.var 35),
                                                                                                                                      SV.int IntKind.i64 (IE.var 36), SV.int IntKind.i64 (IE.var 37),
                                                                                                                                      SV.bool (BE.var 38)]),
                                                                                                                                  (39,
                                                                                                                                    [SV.int IntKind.i64 (IE.var 28), SV.int IntKind.i64 (IE.var 29),
                                                                                                                                      SV.int IntKind.i64 (IE.var 30), SV.int IntKind.i64 (IE.var 31),
                                                                                                                                      SV.bool (BE.var 32)]),
                                                                                                                                  (15, [SV.var 24]),
                                                                                                                                  (9,
                                                                                                                                    [SV.int IntKind.i64 (IE.var 0), SV.int IntKind.i64 (IE.var 1),
                                                                                                                                      SV.int IntKind.i64 (IE.var 2),
                                                                                                                                      SV.int IntKind.i64 (IE.var 3)])]))))))
                                                                                                                    (VC.ob (BE.le (IE.lit (-9223372036854775808)) (IE.add (IE.var 26) (IE.lit 1)))
                                                                                                                      (VC.ob (BE.le (IE.add (IE.var 26) (IE.lit 1)) (IE.lit 9223372036854775807))
                                                                                                                        (VC.leaf 5 [SV.int IntKind.i64 (IE.add (IE.var 26) (IE.lit 1))] []
                                                                                                                          [(40,
                                                                                                                              [SV.int IntKind.i64 (IE.var 34), SV.int IntKind.i64 (IE.var 35),
                                                                                                                                SV.int IntKind.i64 (IE.var 36), SV.int IntKind.i64 (IE.var 37),
                                                                                                                                SV.bool (BE.var 38)]),
                                                                                                                            (39,
                                                                                                                              [SV.int IntKind.i64 (IE.var 28), SV.int IntKind.i64 (IE.var 29),
                                                                                                                                SV.int IntKind.i64 (IE.var 30), SV.int IntKind.i64 (IE.var 31),
                                                                                                                                SV.bool (BE.var 32)]),
                                                                                                                            (15, [SV.var 24]),
                                                                                                                            (9,
                                                                                                                              [SV.int IntKind.i64 (IE.var 0), SV.int IntKind.i64 (IE.var 1),
                                                                                                                                SV.int IntKind.i64 (IE.var 2), SV.int IntKind.i64 (IE.var 3)])]))))))
                                                                                                              (VC.ob (BE.le (IE.lit (-9223372036854775808)) (IE.add (IE.var 26) (IE.lit 1)))
                                                                                                                (VC.ob (BE.le (IE.add (IE.var 26) (IE.lit 1)) (IE.lit 9223372036854775807))
                                                                                                                  (VC.leaf 5 [SV.int IntKind.i64 (IE.add (IE.var 26) (IE.lit 1))] []
                                                                                                                    [(40,
                                                                                                                        [SV.int IntKind.i64 (IE.var 34), SV.int IntKind.i64 (IE.var 35),
                                                                                                                          SV.int IntKind.i64 (IE.var 36), SV.int IntKind.i64 (IE.var 37),
                                                                                                                          SV.bool (BE.var 38)]),
                                                                                                                      (39,
                                                                                                                        [SV.int IntKind.i64 (IE.var 28), SV.int IntKind.i64 (IE.var 29),
                                                                                                                          SV.int IntKind.i64 (IE.var 30), SV.int IntKind.i64 (IE.var 31),
                                                                                                                          SV.bool (BE.var 32)]),
                                                                                                                      (15, [SV.var 24]),
                                                                                                                      (9,
                                                                                                                        [SV.int IntKind.i64 (IE.var 0), SV.int IntKind.i64 (IE.var 1),
                                                                                                                          SV.int IntKind.i64 (IE.var 2), SV.int IntKind.i64 (IE.var 3)])])))))
                                                                                                          (VC.ob (BE.le (IE.lit (-9223372036854775808)) (IE.add (IE.var 26) (IE.lit 1)))
                                                                                                            (VC.ob (BE.le (IE.add (IE.var 26) (IE.lit 1)) (IE.lit 9223372036854775807))
                                                                                                              (VC.leaf 5 [SV.int IntKind.i64 (IE.add (IE.var 26) (IE.lit 1))] []
                                                                                                                [(40,
                                                                                                                    [SV.int IntKind.i64 (IE.var 34), SV.int IntKind.i64 (IE.var 35),
                                                                                                                      SV.int IntKind.i64 (IE.var 36), SV.int IntKind.i64 (IE.var 37),
                                                                                                                      SV.bool (BE.var 38)]),
                                                                                                                  (39,
                                                                                                                    [SV.int IntKind.i64 (IE.var 28), SV.int IntKind.i64 (IE.var 29),
                                                                                                                      SV.int IntKind.i64 (IE.var 30), SV.int IntKind.i64 (IE.var 31),
                                                                                                                      SV.bool (BE.var 32)]),
                                                                                                                  (15, [SV.var 24]),
                                                                                                                  (9,
                                                                                                                    [SV.int IntKind.i64 (IE.var 0), SV.int IntKind.i64 (IE.var 1),
                                                                                                                      SV.int IntKind.i64 (IE.var 2), SV.int IntKind.i64 (IE.var 3)])]))))
                                                                                                        (VC.ob (BE.le (IE.lit (-9223372036854775808)) (IE.add (IE.var 26) (IE.lit 1)))
                                                                                                          (VC.ob (BE.le (IE.add (IE.var 26) (IE.lit 1)) (IE.lit 9223372036854775807))
                                                                                                            (VC.leaf 5 [SV.int IntKind.i64 (IE.add (IE.var 26) (IE.lit 1))] []
                                                                                                              [(40,
                                                                                                                  [SV.int IntKind.i64 (IE.var 34), SV.int IntKind.i64 (IE.var 35),
                                                                                                                    SV.int IntKind.i64 (IE.var 36), SV.int IntKind.i64 (IE.var 37),
                                                                                                                    SV.bool (BE.var 38)]),
                                                                                                                (39,
                                                                                                                  [SV.int IntKind.i64 (IE.var 28), SV.int IntKind.i64 (IE.var 29),
                                                                                                                    SV.int IntKind.i64 (IE.var 30), SV.int IntKind.i64 (IE.var 31),
                                                                                                                    SV.bool (BE.var 32)]),
                                                                                                                (15, [SV.var 24]),
                                                                                                                (9,
                                                                                                                  [SV.int IntKind.i64 (IE.var 0), SV.int IntKind.i64 (IE.var 1),
                                                                                                                    SV.int IntKind.i64 (IE.var 2), SV.int IntKind.i64 (IE.var 3)])])))))))))))))))))))))
                                                                    (VC.blk
                                                                      (VC.blk
                                                                        (VC.ob (BE.le (IE.lit 0) (IE.var 26))
                                                                          (VC.ob (BE.lt (IE.var 26) (IE.len 22))
                                                                            (VC.start false [39, 40] []
                                                                              [(40,
                                                                                  [SV.int IntKind.i64 (IE.var 28), SV.int IntKind.i64 (IE.var 29), SV.int IntKind.i64 (IE.var 30),
                                                                                    SV.int IntKind.i64 (IE.var 31), SV.bool (BE.var 32)]),
                                                                                (39,
                                                                                  [SV.int IntKind.i64 (IE.var 34), SV.int IntKind.i64 (IE.var 35), SV.int IntKind.i64 (IE.var 36),
                                                                                    SV.int IntKind.i64 (IE.var 37), SV.bool (BE.var 38)]),
                                                                                (15, [SV.var 24]),
                                                                                (9,
                                                                                  [SV.int IntKind.i64 (IE.var 0), SV.int IntKind.i64 (IE.var 1), SV.int IntKind.i64 (IE.var 2),
                                                                                    SV.int IntKind.i64 (IE.var 3)])]
                                                                              (VC.load (SV.elt 22 0 (IE.var 26) 1 0) [Base.int IntKind.i64]
                                                                                (VC.call 22 [SV.ptr 15 0, SV.int IntKind.i64 (IE.var 41)] [Base.bool, Base.int IntKind.i64]
                                                                                  (SV.tuple [SV.bool (BE.var 42), SV.int IntKind.i64 (IE.var 43)]) [] false [] [] [40, 39, 15, 9]
                                                                                  [(40,
                                                                                      [SV.int IntKind.i64 (IE.var 28), SV.int IntKind.i64 (IE.var 29), SV.int IntKind.i64 (IE.var 30),
                                                                                        SV.int IntKind.i64 (IE.var 31), SV.bool (BE.var 32)]),
                                                                                    (39,
                                                                                      [SV.int IntKind.i64 (IE.var 34), SV.int IntKind.i64 (IE.var 35), SV.int IntKind.i64 (IE.var 36),
                                                                                        SV.int IntKind.i64 (IE.var 37), SV.bool (BE.var 38)]),
                                                                                    (15, [SV.var 24]),
                                                                                    (9,
                                                                                      [SV.int IntKind.i64 (IE.var 0), SV.int IntKind.i64 (IE.var 1), SV.int IntKind.i64 (IE.var 2),
                                                                                        SV.int IntKind.i64 (IE.var 3)])]
                                                                                  (VC.ob (BE.le (IE.lit 0) (IE.var 25))
                                                                                    (VC.ob (BE.lt (IE.var 25) (IE.len 22))
                                                                                      (VC.start false [] []
                                                                                        [(40,
                                                                                            [SV.int IntKind.i64 (IE.var 28), SV.int IntKind.i64 (IE.var 29), SV.int IntKind.i64 (IE.var 30),
                                                                                              SV.int IntKind.i64 (IE.var 31), SV.bool (BE.var 32)]),
                                                                                          (39,
                                                                                            [SV.int IntKind.i64 (IE.var 34), SV.int IntKind.i64 (IE.var 35), SV.int IntKind.i64 (IE.var 36),
                                                                                              SV.int IntKind.i64 (IE.var 37), SV.bool (BE.var 38)]),
                                                                                          (15, [SV.var 24]),
                                                                                          (9,
                                                                                            [SV.int IntKind.i64 (IE.var 0), SV.int IntKind.i64 (IE.var 1), SV.int IntKind.i64 (IE.var 2),
                                                                                              SV.int IntKind.i64 (IE.var 3)])]
                                                                                        (VC.load (SV.elt 22 0 (IE.var 25) 1 0) [Base.int IntKind.i64]
                                                                                          (VC.call 22 [SV.ptr 15 0, SV.int IntKind.i64 (IE.var 44)] [Base.bool, Base.int IntKind.i64]
                                                                                            (SV.tuple [SV.bool (BE.var 45), SV.int IntKind.i64 (IE.var 46)]) [] false [] [] [40, 39, 15, 9]
                                                                                            [(40,
                                                                                                [SV.int IntKind.i64 (IE.var 28), SV.int IntKind.i64 (IE.var 29), SV.int IntKind.i64 (IE.var 30),
                                                                                                  SV.int IntKind.i64 (IE.var 31), SV.bool (BE.var 32)]),
                                                                                              (39,
                                                                                                [SV.int IntKind.i64 (IE.var 34), SV.int IntKind.i64 (IE.var 35), SV.int IntKind.i64 (IE.var 36),
                                                                                                  SV.int IntKind.i64 (IE.var 37), SV.bool (BE.var 38)]),
                                                                                              (15, [SV.var 24]),
                                                                                              (9,
                                                                                                [SV.int IntKind.i64 (IE.var 0), SV.int IntKind.i64 (IE.var 1), SV.int IntKind.i64 (IE.var 2),
                                                                                                  SV.int IntKind.i64 (IE.var 3)])]
                                                                                            (VC.call 15 [SV.int IntKind.i64 (IE.var 43)] [Base.int IntKind.i64] (SV.int IntKind.i64 (IE.var 47)) []
                                                                                              false [] [] [40, 39, 15, 9]
                                                                                              [(40,
                                                                                                  [SV.int IntKind.i64 (IE.var 28), SV.int IntKind.i64 (IE.var 29), SV.int IntKind.i64 (IE.var 30),
                                                                                                    SV.int IntKind.i64 (IE.var 31), SV.bool (BE.var 32)]),
                                                                                                (39,
                                                                                                  [SV.int IntKind.i64 (IE.var 34), SV.int IntKind.i64 (IE.var 35), SV.int IntKind.i64 (IE.var 36),
                                                                                                    SV.int IntKind.i64 (IE.var 37), SV.bool (BE.var 38)]),
                                                                                                (15, [SV.var 24]),
                                                                                                (9,
                                                                                                  [SV.int IntKind.i64 (IE.var 0), SV.int IntKind.i64 (IE.var 1), SV.int IntKind.i64 (IE.var 2),
                                                                                                    SV.int IntKind.i64 (IE.var 3)])]
                                                                                              (VC.call 15 [SV.int IntKind.i64 (IE.var 46)] [Base.int IntKind.i64] (SV.int IntKind.i64 (IE.var 48)) []
                                                                                                false [] [] [40, 39, 15, 9]
                                                                                                [(40,
                                                                                                    [SV.int IntKind.i64 (IE.var 28), SV.int IntKind.i64 (IE.var 29), SV.int IntKind.i64 (IE.var 30),
                                                                                                      SV.int IntKind.i64 (IE.var 31), SV.bool (BE.var 32)]),
                                                                                                  (39,
                                                                                                    [SV.int IntKind.i64 (IE.var 34), SV.int IntKind.i64 (IE.var 35), SV.int IntKind.i64 (IE.var 36),
                                                                                                      SV.int IntKind.i64 (IE.var 37), SV.bool (BE.var 38)]),
                                                                                                  (15, [SV.var 24]),
                                                                                                  (9,
                                                                                                    [SV.int IntKind.i64 (IE.var 0), SV.int IntKind.i64 (IE.var 1), SV.int IntKind.i64 (IE.var 2),
                                                                                                      SV.int IntKind.i64 (IE.var 3)])]
                                                                                                (VC.ob (BE.le (IE.lit (-9223372036854775808)) (IE.add (IE.var 47) (IE.var 48)))
                                                                                                  (VC.ob (BE.le (IE.add (IE.var 47) (IE.var 48)) (IE.lit 9223372036854775807))
                                                                                                    (VC.split (BE.not (BE.eq (IE.add (IE.var 47) (IE.var 48)) (IE.lit 0)))
                                                                                                      (VC.leaf 0 [SV.bool (BE.lit false)] []
                                                                                                        [(40,
                                                                                                            [SV.int IntKind.i64 (IE.var 28), SV.int IntKind.i64 (IE.var 29),
                                                                                                              SV.int IntKind.i64 (IE.var 30), SV.int IntKind.i64 (IE.var 31), SV.bool (BE.var 32)]),
                                                                                                          (39,
                                                                                                            [SV.int IntKind.i64 (IE.var 34), SV.int IntKind.i64 (IE.var 35),
                                                                                                              SV.int IntKind.i64 (IE.var 36), SV.int IntKind.i64 (IE.var 37), SV.bool (BE.var 38)]),
                                                                                                          (15, [SV.var 24]),
                                                                                                          (9,
                                                                                                            [SV.int IntKind.i64 (IE.var 0), SV.int IntKind.i64 (IE.var 1),
                                                                                                              SV.int IntKind.i64 (IE.var 2), SV.int IntKind.i64 (IE.var 3)])])
                                                                                                      (VC.split (BE.var 42)
                                                                                                        (VC.split (BE.var 45)
                                                                                                          (VC.split (BE.var 32)
                                                                                                            (VC.ob (BE.le (IE.lit (-9223372036854775808)) (IE.add (IE.var 36) (IE.var 37)))
                                                                                                              (VC.ob (BE.le (IE.add (IE.var 36) (IE.var 37)) (IE.lit 9223372036854775807))
                                                                                                                (VC.split (BE.lt (IE.var 30) (IE.add (IE.var 36) (IE.var 37)))
                                                                                                                  (VC.ob (BE.le (IE.lit (-9223372036854775808)) (IE.add (IE.var 30) (IE.var 31)))
                                                                                                                    (VC.ob (BE.le (IE.add (IE.var 30) (IE.var 31)) (IE.lit 9223372036854775807))
                                                                                                                      (VC.split (BE.lt (IE.var 36) (IE.add (IE.var 30) (IE.var 31)))
                                                                                                                        (VC.leaf 0 [SV.bool (BE.lit false)] []
                                                                                                                          [(40,
                                                                                                                              [SV.int IntKind.i64 (IE.var 28), SV.int IntKind.i64 (IE.var 29),
                                                                                                                                SV.int IntKind.i64 (IE.var 30), SV.int IntKind.i64 (IE.var 31),
                                                                                                                                SV.bool (BE.var 32)]),
                                                                                                                            (39,
                                                                                                                              [SV.int IntKind.i64 (IE.var 34), SV.int IntKind.i64 (IE.var 35),
                                                                                                                                SV.int IntKind.i64 (IE.var 36), SV.int IntKind.i64 (IE.var 37),
                                                                                                                                SV.bool (BE.var 38)]),
                                                                                                                            (15, [SV.var 24]),
                                                                                                                            (9,
                                                                                                                              [SV.int IntKind.i64 (IE.var 0), SV.int IntKind.i64 (IE.var 1),
                                                                                                                                SV.int IntKind.i64 (IE.var 2), SV.int IntKind.i64 (IE.var 3)])])
                                                                                                                        (VC.ob (BE.le (IE.lit (-9223372036854775808)) (IE.add (IE.var 26) (IE.lit 1)))
                                                                                                                          (VC.ob (BE.le (IE.add (IE.var 26) (IE.lit 1)) (IE.lit 9223372036854775807))
                                                                                                                            (VC.leaf 5 [SV.int IntKind.i64 (IE.add (IE.var 26) (IE.lit 1))] []
                                                                                                                              [(40,
                                                                                                                                  [SV.int IntKind.i64 (IE.var 28), SV.int IntKind.i64 (IE.var 29),
                                                                                                                                    SV.int IntKind.i64 (IE.var 30), SV.int IntKind.i64 (IE.var 31),
                                                                                                                                    SV.bool (BE.var 32)]),
                                                                                                                                (39,
                                                                                                                                  [SV.int IntKind.i64 (IE.var 34), SV.int IntKind.i64 (IE.var 35),
                                                                                                                                    SV.int IntKind.i64 (IE.var 36), SV.int IntKind.i64 (IE.var 37),
                                                                                                                                    SV.bool (BE.var 38)]),
                                                                                                                                (15, [SV.var 24]),
                                                                                                                                (9,
                                                                                                                                  [SV.int IntKind.i64 (IE.var 0), SV.int IntKind.i64 (IE.var 1),
                                                                                                                                    SV.int IntKind.i64 (IE.var 2),
                                                                                                                                    SV.int IntKind.i64 (IE.var 3)])]))))))
                                                                                                                  (VC.ob (BE.le (IE.lit (-9223372036854775808)) (IE.add (IE.var 26) (IE.lit 1)))
                                                                                                                    (VC.ob (BE.le (IE.add (IE.var 26) (IE.lit 1)) (IE.lit 9223372036854775807))
                                                                                                                      (VC.leaf 5 [SV.int IntKind.i64 (IE.add (IE.var 26) (IE.lit 1))] []
                                                                                                                        [(40,
                                                                                                                            [SV.int IntKind.i64 (IE.var 28), SV.int IntKind.i64 (IE.var 29),
                                                                                                                              SV.int IntKind.i64 (IE.var 30), SV.int IntKind.i64 (IE.var 31),
                                                                                                                              SV.bool (BE.var 32)]),
                                                                                                                          (39,
                                                                                                                            [SV.int IntKind.i64 (IE.var 34), SV.int IntKind.i64 (IE.var 35),
                                                                                                                              SV.int IntKind.i64 (IE.var 36), SV.int IntKind.i64 (IE.var 37),
                                                                                                                              SV.bool (BE.var 38)]),
                                                                                                                          (15, [SV.var 24]),
                                                                                                                          (9,
                                                                                                                            [SV.int IntKind.i64 (IE.var 0), SV.int IntKind.i64 (IE.var 1),
                                                                                                                              SV.int IntKind.i64 (IE.var 2), SV.int IntKind.i64 (IE.var 3)])]))))))
                                                                                                            (VC.split (BE.var 38)
                                                                                                              (VC.ob (BE.le (IE.lit (-9223372036854775808)) (IE.add (IE.var 36) (IE.var 37)))
                                                                                                                (VC.ob (BE.le (IE.add (IE.var 36) (IE.var 37)) (IE.lit 9223372036854775807))
                                                                                                                  (VC.split (BE.lt (IE.var 30) (IE.add (IE.var 36) (IE.var 37)))
                                                                                                                    (VC.ob (BE.le (IE.lit (-9223372036854775808)) (IE.add (IE.var 30) (IE.var 31)))
                                                                                                                      (VC.ob (BE.le (IE.add (IE.var 30) (IE.var 31)) (IE.lit 9223372036854775807))
                                                                                                                        (VC.split (BE.lt (IE.var 36) (IE.add (IE.var 30) (IE.var 31)))
                                                                                                                          (VC.leaf 0 [SV.bool (BE.lit false)] []
                                                                                                                            [(40,
                                                                                                                                [SV.int IntKind.i64 (IE.var 28), SV.int IntKind.i64 (IE.var 29),
                                                                                                                                  SV.int IntKind.i64 (IE.var 30), SV.int IntKind.i64 (IE.var 31),
                                                                                                                                  SV.bool (BE.var 32)]),
                                                                                                                              (39,
                                                                                                                                [SV.int IntKind.i64 (IE.var 34), SV.int IntKind.i64 (IE.var 35),
                                                                                                                                  SV.int IntKind.i64 (IE.var 36), SV.int IntKind.i64 (IE.var 37),
                                                                                                                                  SV.bool (BE.var 38)]),
                                                                                                                              (15, [SV.var 24]),
                                                                                                                              (9,
                                                                                                                                [SV.int IntKind.i64 (IE.var 0), SV.int IntKind.i64 (IE.var 1),
                                                                                                                                  SV.int IntKind.i64 (IE.var 2), SV.int IntKind.i64 (IE.var 3)])])
                                                                                                                          (VC.ob (BE.le (IE.lit (-9223372036854775808)) (IE.add (IE.var 26) (IE.lit 1)))
                                                                                                                            (VC.ob (BE.le (IE.add (IE.var 26) (IE.lit 1)) (IE.lit 9223372036854775807))
                                                                                                                              (VC.leaf 5 [SV.int IntKind.i64 (IE.add (IE.var 26) (IE.lit 1))] []
                                                                                                                                [(40,
                                                                                                                                    [SV.int IntKind.i64 (IE.var 28), SV.int IntKind.i64 (IE.var 29),
                                                                                                                                      SV.int IntKind.i64 (IE.var 30), SV.int IntKind.i64 (IE.var 31),
                                                                                                                                      SV.bool (BE.var 32)]),
                                                                                                                                  (39,
                                                                                                                                    [SV.int IntKind.i64 (IE.var 34), SV.int IntKind.i64 (IE.var 35),
                                                                                                                                      SV.int IntKind.i64 (IE.var 36), SV.int IntKind.i64 (IE.var 37),
                                                                                                                                      SV.bool (BE.var 38)]),
                                                                                                                                  (15, [SV.var 24]),
                                                                                                                                  (9,
                                                                                                                                    [SV.int IntKind.i64 (IE.var 0), SV.int IntKind.i64 (IE.var 1),
                                                                                                                                      SV.int IntKind.i64 (IE.var 2),
                                                                                                                                      SV.int IntKind.i64 (IE.var 3)])]))))))
                                                                                                                    (VC.ob (BE.le (IE.lit (-9223372036854775808)) (IE.add (IE.var 26) (IE.lit 1)))
                                                                                                                      (VC.ob (BE.le (IE.add (IE.var 26) (IE.lit 1)) (IE.lit 9223372036854775807))
                                                                                                                        (VC.leaf 5 [SV.int IntKind.i64 (IE.add (IE.var 26) (IE.lit 1))] []
                                                                                                                          [(40,
                                                                                                                              [SV.int IntKind.i64 (IE.var 28), SV.int IntKind.i64 (IE.var 29),
                                                                                                                                SV.int IntKind.i64 (IE.var 30), SV.int IntKind.i64 (IE.var 31),
                                                                                                                                SV.bool (BE.var 32)]),
                                                                                                                            (39,
                                                                                                                              [SV.int IntKind.i64 (IE.var 34), SV.int IntKind.i64 (IE.var 35),
                                                                                                                                SV.int IntKind.i64 (IE.var 36), SV.int IntKind.i64 (IE.var 37),
                                                                                                                                SV.bool (BE.var 38)]),
                                                                                                                            (15, [SV.var 24]),
                                                                                                                            (9,
                                                                                                                              [SV.int IntKind.i64 (IE.var 0), SV.int IntKind.i64 (IE.var 1),
                                                                                                                                SV.int IntKind.i64 (IE.var 2), SV.int IntKind.i64 (IE.var 3)])]))))))
                                                                                                              (VC.ob (BE.le (IE.lit (-9223372036854775808)) (IE.add (IE.var 26) (IE.lit 1)))
                                                                                                                (VC.ob (BE.le (IE.add (IE.var 26) (IE.lit 1)) (IE.lit 9223372036854775807))
                                                                                                                  (VC.leaf 5 [SV.int IntKind.i64 (IE.add (IE.var 26) (IE.lit 1))] []
                                                                                                                    [(40,
                                                                                                                        [SV.int IntKind.i64 (IE.var 28), SV.int IntKind.i64 (IE.var 29),
                                                                                                                          SV.int IntKind.i64 (IE.var 30), SV.int IntKind.i64 (IE.var 31),
                                                                                                                          SV.bool (BE.var 32)]),
                                                                                                                      (39,
                                                                                                                        [SV.int IntKind.i64 (IE.var 34), SV.int IntKind.i64 (IE.var 35),
                                                                                                                          SV.int IntKind.i64 (IE.var 36), SV.int IntKind.i64 (IE.var 37),
                                                                                                                          SV.bool (BE.var 38)]),
                                                                                                                      (15, [SV.var 24]),
                                                                                                                      (9,
                                                                                                                        [SV.int IntKind.i64 (IE.var 0), SV.int IntKind.i64 (IE.var 1),
                                                                                                                          SV.int IntKind.i64 (IE.var 2), SV.int IntKind.i64 (IE.var 3)])])))))
                                                                                                          (VC.ob (BE.le (IE.lit (-9223372036854775808)) (IE.add (IE.var 26) (IE.lit 1)))
                                                                                                            (VC.ob (BE.le (IE.add (IE.var 26) (IE.lit 1)) (IE.lit 9223372036854775807))
                                                                                                              (VC.leaf 5 [SV.int IntKind.i64 (IE.add (IE.var 26) (IE.lit 1))] []
                                                                                                                [(40,
                                                                                                                    [SV.int IntKind.i64 (IE.var 28), SV.int IntKind.i64 (IE.var 29),
                                                                                                                      SV.int IntKind.i64 (IE.var 30), SV.int IntKind.i64 (IE.var 31),
                                                                                                                      SV.bool (BE.var 32)]),
                                                                                                                  (39,
                                                                                                                    [SV.int IntKind.i64 (IE.var 34), SV.int IntKind.i64 (IE.var 35),
                                                                                                                      SV.int IntKind.i64 (IE.var 36), SV.int IntKind.i64 (IE.var 37),
                                                                                                                      SV.bool (BE.var 38)]),
                                                                                                                  (15, [SV.var 24]),
                                                                                                                  (9,
                                                                                                                    [SV.int IntKind.i64 (IE.var 0), SV.int IntKind.i64 (IE.var 1),
                                                                                                                      SV.int IntKind.i64 (IE.var 2), SV.int IntKind.i64 (IE.var 3)])]))))
                                                                                                        (VC.ob (BE.le (IE.lit (-9223372036854775808)) (IE.add (IE.var 26) (IE.lit 1)))
                                                                                                          (VC.ob (BE.le (IE.add (IE.var 26) (IE.lit 1)) (IE.lit 9223372036854775807))
                                                                                                            (VC.leaf 5 [SV.int IntKind.i64 (IE.add (IE.var 26) (IE.lit 1))] []
                                                                                                              [(40,
                                                                                                                  [SV.int IntKind.i64 (IE.var 28), SV.int IntKind.i64 (IE.var 29),
                                                                                                                    SV.int IntKind.i64 (IE.var 30), SV.int IntKind.i64 (IE.var 31),
                                                                                                                    SV.bool (BE.var 32)]),
                                                                                                                (39,
                                                                                                                  [SV.int IntKind.i64 (IE.var 34), SV.int IntKind.i64 (IE.var 35),
                                                                                                                    SV.int IntKind.i64 (IE.var 36), SV.int IntKind.i64 (IE.var 37),
                                                                                                                    SV.bool (BE.var 38)]),
                                                                                                                (15, [SV.var 24]),
                                                                                                                (9,
                                                                                                                  [SV.int IntKind.i64 (IE.var 0), SV.int IntKind.i64 (IE.var 1),
                                                                                                                    SV.int IntKind.i64 (IE.var 2),
                                                                                                                    SV.int IntKind.i64 (IE.var 3)])])))))))))))))))))))))))))))))))))))))
                                    (VC.ob (BE.le (IE.lit (-9223372036854775808)) (IE.add (IE.var 25) (IE.lit 1)))
                                      (VC.ob (BE.le (IE.add (IE.var 25) (IE.lit 1)) (IE.lit 9223372036854775807))
                                        (VC.leaf 4 [SV.int IntKind.i64 (IE.add (IE.var 25) (IE.lit 1))] []
                                          [(15, [SV.var 24]), (9, [SV.int IntKind.i64 (IE.var 0), SV.int IntKind.i64 (IE.var 1), SV.int IntKind.i64 (IE.var 2), SV.int IntKind.i64 (IE.var 3)])])))))
                                (VC.ob (BE.le (IE.lit (-9223372036854775808)) (IE.add (IE.var 16) (IE.lit 1)))
                                  (VC.ob (BE.le (IE.add (IE.var 16) (IE.lit 1)) (IE.lit 9223372036854775807))
                                    (VC.leaf 2 [SV.int IntKind.i64 (IE.add (IE.var 16) (IE.lit 1)), SV.var 22, SV.var 23, SV.var 24] []
                                      [(15, [SV.var 24]), (9, [SV.int IntKind.i64 (IE.var 0), SV.int IntKind.i64 (IE.var 1), SV.int IntKind.i64 (IE.var 2), SV.int IntKind.i64 (IE.var 3)])])))))))
                        (VC.call 17 [SV.ptr 15 0] [Base.int IntKind.i64] (SV.int IntKind.i64 (IE.var 20)) [] false [] [] [15, 9]
                          [(15, [SV.var 19]), (9, [SV.int IntKind.i64 (IE.var 0), SV.int IntKind.i64 (IE.var 1), SV.int IntKind.i64 (IE.var 2), SV.int IntKind.i64 (IE.var 3)])]
                          (VC.split (BE.eq (IE.var 20) (IE.len 17))
                            (VC.call 9 [] [Base.bool] (SV.bool (BE.var 21)) [] false [] [] [15, 9]
                              [(15, [SV.var 19]), (9, [SV.int IntKind.i64 (IE.var 0), SV.int IntKind.i64 (IE.var 1), SV.int IntKind.i64 (IE.var 2), SV.int IntKind.i64 (IE.var 3)])]
                              (VC.leaf 0 [SV.bool (BE.var 21)] []
                                [(15, [SV.var 19]), (9, [SV.int IntKind.i64 (IE.var 0), SV.int IntKind.i64 (IE.var 1), SV.int IntKind.i64 (IE.var 2), SV.int IntKind.i64 (IE.var 3)])]))
                            (VC.leaf 0 [SV.bool (BE.lit false)] []
                              [(15, [SV.var 19]), (9, [SV.int IntKind.i64 (IE.var 0), SV.int IntKind.i64 (IE.var 1), SV.int IntKind.i64 (IE.var 2), SV.int IntKind.i64 (IE.var 3)])])))))))))))))) := by kernel_rfl

end Go.Proofs.Ytfjimghpjopgoaa
