/- What the functions of the chapter come to, printed by a program of the prover's and checked by the kernel. No conditions. -/
import Derived.Test.YtfjimghpjopgoaaSxX
import Derived.Test.YtfjimghpjopgoaaProg
import Derived.KernelRfl
set_option maxRecDepth 100000
set_option linter.unusedVariables false
namespace Go.Proofs.Ytfjimghpjopgoaa
open Go.Sx

theorem t15 : exFn { P := Try.prog } 15 [.int .i64 (.var 0)] [.int .i64] [] =
  VC.leaf 0 [SV.int IntKind.i64 (IE.var 0)] [] [] := by kernel_rfl

theorem t33 : exFn { P := Try.prog, wraps := true } 33 [.int .i64 (.var 0), .int .i64 (.var 1)] [.int .i64, .int .i64] [] =
  VC.blk
  (VC.call 31 [SV.slc 2 0 4 4] [Base.bool] (SV.bool (BE.var 3)) [] false [] [] [2]
    [(2,
        [SV.bool (BE.le (IE.lit 0) (IE.var 0)), SV.bool (BE.le (IE.lit 1) (IE.var 1)), SV.bool (BE.le (IE.var 1) (IE.lit 65536)),
          SV.bool (BE.le (IE.var 0) (IE.wrap IntKind.i64 (IE.sub (IE.lit 1099511627776) (IE.var 1))))])]
    (VC.leaf 0 [SV.bool (BE.var 3)] []
      [(2,
          [SV.bool (BE.le (IE.lit 0) (IE.var 0)), SV.bool (BE.le (IE.lit 1) (IE.var 1)), SV.bool (BE.le (IE.var 1) (IE.lit 65536)),
            SV.bool (BE.le (IE.var 0) (IE.wrap IntKind.i64 (IE.sub (IE.lit 1099511627776) (IE.var 1))))])])) := by kernel_rfl

theorem t30 : exFn { P := Try.prog } 30 [.int .i64 (.var 0), .int .i64 (.var 1)] [.int .i64, .int .i64] [] =
  VC.split (BE.le (IE.lit 0) (IE.var 0))
  (VC.split (BE.le (IE.lit 1) (IE.var 1))
    (VC.split (BE.le (IE.var 1) (IE.lit 65536))
      (VC.ob (BE.le (IE.lit (-9223372036854775808)) (IE.sub (IE.lit 1099511627776) (IE.var 1)))
        (VC.ob (BE.le (IE.sub (IE.lit 1099511627776) (IE.var 1)) (IE.lit 9223372036854775807)) (VC.leaf 0 [SV.bool (BE.le (IE.var 0) (IE.sub (IE.lit 1099511627776) (IE.var 1)))] [] [])))
      (VC.leaf 0 [SV.bool (BE.lit false)] [] []))
    (VC.leaf 0 [SV.bool (BE.lit false)] [] []))
  (VC.leaf 0 [SV.bool (BE.lit false)] [] []) := by kernel_rfl

theorem t31 : exFn { P := Try.prog } 31 [.var 0] [.slice] [] =
  VC.call 48 [SV.var 0, SV.bool (BE.lit false)] [Base.bool] (SV.bool (BE.var 1)) [] false [] [] [] [] (VC.leaf 0 [SV.bool (BE.not (BE.var 1))] [] []) := by kernel_rfl

theorem t48 : exFn { P := Try.prog } 48 [.var 0, .bool (.var 1)] [.slice, .bool] [] =
  VC.call 53 [SV.var 0, SV.bool (BE.var 1)] [Base.int IntKind.i64] (SV.int IntKind.i64 (IE.var 2)) [] false [] [] [] [] (VC.leaf 0 [SV.bool (BE.le (IE.lit 0) (IE.var 2))] [] []) := by kernel_rfl

theorem t53 : exFn { P := Try.prog, loops := fun r => if Nat.beq r 2 then some ⟨1, [(8, .int .i64)], []⟩ else none } 53 [.var 0, .bool (.var 1)] [.slice, .bool] [] =
  VC.loop 1 [SV.int IntKind.i64 (IE.lit 0)] [Base.int IntKind.i64] [] [] [] []
  (VC.split (BE.lt (IE.var 2) (IE.len 0))
    (VC.ob (BE.le (IE.lit 0) (IE.var 2))
      (VC.ob (BE.lt (IE.var 2) (IE.len 0))
        (VC.ob (BE.not (BE.nil 0))
          (VC.start false [] [] []
            (VC.load (SV.elt 0 0 (IE.var 2) 1 0) [Base.bool]
              (VC.split (BE.beq (BE.var 1) (BE.var 3)) (VC.leaf 0 [SV.int IntKind.i64 (IE.var 2)] [] [])
                (VC.ob (BE.le (IE.lit (-9223372036854775808)) (IE.add (IE.var 2) (IE.lit 1)))
                  (VC.ob (BE.le (IE.add (IE.var 2) (IE.lit 1)) (IE.lit 9223372036854775807)) (VC.leaf 1 [SV.int IntKind.i64 (IE.add (IE.var 2) (IE.lit 1))] [] [])))))))))
    (VC.leaf 0 [SV.int IntKind.i64 (IE.lit (-1))] [] [])) := by kernel_rfl

theorem t12 : exFn { P := Try.prog } 12 [.agg [.int .i64 (.var 0), .int .i64 (.var 1), .int .i64 (.var 2), .int .i64 (.var 3)]] [.int .i64, .int .i64, .int .i64, .int .i64] [] =
  VC.blk
  (VC.blk
    (VC.call 31 [SV.slc 5 0 4 4] [Base.bool] (SV.bool (BE.var 6)) [] false [] [] [5, 4]
      [(5, [SV.bool (BE.le (IE.lit 1) (IE.var 0)), SV.bool (BE.le (IE.var 0) (IE.lit 65536)), SV.bool (BE.le (IE.lit 1) (IE.var 1)), SV.bool (BE.le (IE.var 1) (IE.var 0))]),
        (4, [SV.int IntKind.i64 (IE.var 0), SV.int IntKind.i64 (IE.var 1), SV.int IntKind.i64 (IE.var 2), SV.int IntKind.i64 (IE.var 3)])]
      (VC.split (BE.not (BE.var 6))
        (VC.leaf 0 [SV.bool (BE.lit false)] []
          [(5, [SV.bool (BE.le (IE.lit 1) (IE.var 0)), SV.bool (BE.le (IE.var 0) (IE.lit 65536)), SV.bool (BE.le (IE.lit 1) (IE.var 1)), SV.bool (BE.le (IE.var 1) (IE.var 0))]),
            (4, [SV.int IntKind.i64 (IE.var 0), SV.int IntKind.i64 (IE.var 1), SV.int IntKind.i64 (IE.var 2), SV.int IntKind.i64 (IE.var 3)])])
        (VC.split (BE.eq (IE.var 2) (IE.lit 0))
          (VC.split (BE.eq (IE.var 3) (IE.lit 0))
            (VC.leaf 0 [SV.bool (BE.lit true)] []
              [(5, [SV.bool (BE.le (IE.lit 1) (IE.var 0)), SV.bool (BE.le (IE.var 0) (IE.lit 65536)), SV.bool (BE.le (IE.lit 1) (IE.var 1)), SV.bool (BE.le (IE.var 1) (IE.var 0))]),
                (4, [SV.int IntKind.i64 (IE.var 0), SV.int IntKind.i64 (IE.var 1), SV.int IntKind.i64 (IE.var 2), SV.int IntKind.i64 (IE.var 3)])])
            (VC.blk
              (VC.call 31 [SV.slc 7 0 4 4] [Base.bool] (SV.bool (BE.var 8)) [] false [] [] [7, 5, 4]
                [(7, [SV.bool (BE.le (IE.var 0) (IE.var 2)), SV.bool (BE.le (IE.var 2) (IE.lit 1048576)), SV.bool (BE.le (IE.lit 0) (IE.var 3)), SV.bool (BE.lt (IE.var 3) (IE.var 2))]),
                  (5, [SV.bool (BE.le (IE.lit 1) (IE.var 0)), SV.bool (BE.le (IE.var 0) (IE.lit 65536)), SV.bool (BE.le (IE.lit 1) (IE.var 1)), SV.bool (BE.le (IE.var 1) (IE.var 0))]),
                  (4, [SV.int IntKind.i64 (IE.var 0), SV.int IntKind.i64 (IE.var 1), SV.int IntKind.i64 (IE.var 2), SV.int IntKind.i64 (IE.var 3)])]
                (VC.leaf 0 [SV.bool (BE.var 8)] []
                  [(7, [SV.bool (BE.le (IE.var 0) (IE.var 2)), SV.bool (BE.le (IE.var 2) (IE.lit 1048576)), SV.bool (BE.le (IE.lit 0) (IE.var 3)), SV.bool (BE.lt (IE.var 3) (IE.var 2))]),
                    (5, [SV.bool (BE.le (IE.lit 1) (IE.var 0)), SV.bool (BE.le (IE.var 0) (IE.lit 65536)), SV.bool (BE.le (IE.lit 1) (IE.var 1)), SV.bool (BE.le (IE.var 1) (IE.var 0))]),
                    (4, [SV.int IntKind.i64 (IE.var 0), SV.int IntKind.i64 (IE.var 1), SV.int IntKind.i64 (IE.var 2), SV.int IntKind.i64 (IE.var 3)])]))))
          (VC.blk
            (VC.call 31 [SV.slc 7 0 4 4] [Base.bool] (SV.bool (BE.var 8)) [] false [] [] [7, 5, 4]
              [(7, [SV.bool (BE.le (IE.var 0) (IE.var 2)), SV.bool (BE.le (IE.var 2) (IE.lit 1048576)), SV.bool (BE.le (IE.lit 0) (IE.var 3)), SV.bool (BE.lt (IE.var 3) (IE.var 2))]),
                (5, [SV.bool (BE.le (IE.lit 1) (IE.var 0)), SV.bool (BE.le (IE.var 0) (IE.lit 65536)), SV.bool (BE.le (IE.lit 1) (IE.var 1)), SV.bool (BE.le (IE.var 1) (IE.var 0))]),
                (4, [SV.int IntKind.i64 (IE.var 0), SV.int IntKind.i64 (IE.var 1), SV.int IntKind.i64 (IE.var 2), SV.int IntKind.i64 (IE.var 3)])]
              (VC.leaf 0 [SV.bool (BE.var 8)] []
                [(7, [SV.bool (BE.le (IE.var 0) (IE.var 2)), SV.bool (BE.le (IE.var 2) (IE.lit 1048576)), SV.bool (BE.le (IE.lit 0) (IE.var 3)), SV.bool (BE.lt (IE.var 3) (IE.var 2))]),
                  (5, [SV.bool (BE.le (IE.lit 1) (IE.var 0)), SV.bool (BE.le (IE.var 0) (IE.lit 65536)), SV.bool (BE.le (IE.lit 1) (IE.var 1)), SV.bool (BE.le (IE.var 1) (IE.var 0))]),
                  (4, [SV.int IntKind.i64 (IE.var 0), SV.int IntKind.i64 (IE.var 1), SV.int IntKind.i64 (IE.var 2), SV.int IntKind.i64 (IE.var 3)])]))))))) := by kernel_rfl

theorem t13 : exFn { P := Try.prog } 13 [.agg [.int .i64 (.var 0), .int .i64 (.var 1), .int .i64 (.var 2), .int .i64 (.var 3)]] [.int .i64, .int .i64, .int .i64, .int .i64] [] =
  VC.blk
  (VC.split (BE.lt (IE.var 0) (IE.lit 1))
    (VC.leaf 0 [SV.bool (BE.lit false)] [] [(4, [SV.int IntKind.i64 (IE.var 0), SV.int IntKind.i64 (IE.var 1), SV.int IntKind.i64 (IE.var 2), SV.int IntKind.i64 (IE.var 3)])])
    (VC.split (BE.lt (IE.lit 65536) (IE.var 0))
      (VC.leaf 0 [SV.bool (BE.lit false)] [] [(4, [SV.int IntKind.i64 (IE.var 0), SV.int IntKind.i64 (IE.var 1), SV.int IntKind.i64 (IE.var 2), SV.int IntKind.i64 (IE.var 3)])])
      (VC.split (BE.lt (IE.var 1) (IE.lit 1))
        (VC.leaf 0 [SV.bool (BE.lit false)] [] [(4, [SV.int IntKind.i64 (IE.var 0), SV.int IntKind.i64 (IE.var 1), SV.int IntKind.i64 (IE.var 2), SV.int IntKind.i64 (IE.var 3)])])
        (VC.split (BE.lt (IE.var 0) (IE.var 1))
          (VC.leaf 0 [SV.bool (BE.lit false)] [] [(4, [SV.int IntKind.i64 (IE.var 0), SV.int IntKind.i64 (IE.var 1), SV.int IntKind.i64 (IE.var 2), SV.int IntKind.i64 (IE.var 3)])])
          (VC.split (BE.eq (IE.var 2) (IE.lit 0))
            (VC.leaf 0 [SV.bool (BE.eq (IE.var 3) (IE.lit 0))] [] [(4, [SV.int IntKind.i64 (IE.var 0), SV.int IntKind.i64 (IE.var 1), SV.int IntKind.i64 (IE.var 2), SV.int IntKind.i64 (IE.var 3)])])
            (VC.split (BE.le (IE.var 0) (IE.var 2))
              (VC.split (BE.le (IE.var 2) (IE.lit 1048576))
                (VC.split (BE.le (IE.lit 0) (IE.var 3))
                  (VC.leaf 0 [SV.bool (BE.lt (IE.var 3) (IE.var 2))] []
                    [(4, [SV.int IntKind.i64 (IE.var 0), SV.int IntKind.i64 (IE.var 1), SV.int IntKind.i64 (IE.var 2), SV.int IntKind.i64 (IE.var 3)])])
                  (VC.leaf 0 [SV.bool (BE.lit false)] [] [(4, [SV.int IntKind.i64 (IE.var 0), SV.int IntKind.i64 (IE.var 1), SV.int IntKind.i64 (IE.var 2), SV.int IntKind.i64 (IE.var 3)])]))
                (VC.leaf 0 [SV.bool (BE.lit false)] [] [(4, [SV.int IntKind.i64 (IE.var 0), SV.int IntKind.i64 (IE.var 1), SV.int IntKind.i64 (IE.var 2), SV.int IntKind.i64 (IE.var 3)])]))
              (VC.leaf 0 [SV.bool (BE.lit false)] [] [(4, [SV.int IntKind.i64 (IE.var 0), SV.int IntKind.i64 (IE.var 1), SV.int IntKind.i64 (IE.var 2), SV.int IntKind.i64 (IE.var 3)])]))))))) := by kernel_rfl

theorem t38 : exFn { P := Try.prog } 38 [.agg [.int .i64 (.var 0), .int .i64 (.var 1), .int .i64 (.var 2), .int .i64 (.var 3)], .int .i64 (.var 4), .int .i64 (.var 5)] [.int .i64, .int .i64, .int .i64, .int .i64, .int .i64, .int .i64] [] =
  VC.blk
  (VC.split (BE.eq (IE.var 2) (IE.lit 0))
    (VC.leaf 0 [SV.int IntKind.i64 (IE.var 5)] [] [(6, [SV.int IntKind.i64 (IE.var 0), SV.int IntKind.i64 (IE.var 1), SV.int IntKind.i64 (IE.var 2), SV.int IntKind.i64 (IE.var 3)])])
    (VC.start true [] [6] [(6, [SV.int IntKind.i64 (IE.var 0), SV.int IntKind.i64 (IE.var 1), SV.int IntKind.i64 (IE.var 2), SV.int IntKind.i64 (IE.var 3)])]
      (VC.ob (BE.le (IE.lit (-9223372036854775808)) (IE.sub (IE.var 4) (IE.var 3)))
        (VC.ob (BE.le (IE.sub (IE.var 4) (IE.var 3)) (IE.lit 9223372036854775807))
          (VC.ob (BE.le (IE.lit (-9223372036854775808)) (IE.add (IE.sub (IE.var 4) (IE.var 3)) (IE.var 2)))
            (VC.ob (BE.le (IE.add (IE.sub (IE.var 4) (IE.var 3)) (IE.var 2)) (IE.lit 9223372036854775807))
              (VC.ob (BE.not (BE.eq (IE.var 2) (IE.lit 0)))
                (VC.ob (BE.le (IE.lit (-9223372036854775808)) (IE.sub (IE.var 2) (IE.rem (IE.add (IE.sub (IE.var 4) (IE.var 3)) (IE.var 2)) (IE.var 2))))
                  (VC.ob (BE.le (IE.sub (IE.var 2) (IE.rem (IE.add (IE.sub (IE.var 4) (IE.var 3)) (IE.var 2)) (IE.var 2))) (IE.lit 9223372036854775807))
                    (VC.leaf 0 [SV.int IntKind.i64 (IE.min (IE.var 5) (IE.sub (IE.var 2) (IE.rem (IE.add (IE.sub (IE.var 4) (IE.var 3)) (IE.var 2)) (IE.var 2))))] []
                      [(6, [SV.int IntKind.i64 (IE.var 0), SV.int IntKind.i64 (IE.var 1), SV.int IntKind.i64 (IE.var 2), SV.int IntKind.i64 (IE.var 3)])])))))))))) := by kernel_rfl

theorem t11 : exFn { P := Try.prog } 11 [.agg [.int .i64 (.var 0), .int .i64 (.var 1), .int .i64 (.var 2), .int .i64 (.var 3)], .int .i64 (.var 4), .int .i64 (.var 5), .bool (.var 6)] [.int .i64, .int .i64, .int .i64, .int .i64, .int .i64, .int .i64, .bool] [] =
  VC.blk
  (VC.call 20
    [SV.agg [SV.int IntKind.i64 (IE.var 0), SV.int IntKind.i64 (IE.var 1), SV.int IntKind.i64 (IE.var 2), SV.int IntKind.i64 (IE.var 3)], SV.int IntKind.i64 (IE.var 4), SV.int IntKind.i64 (IE.var 5),
      SV.bool (BE.var 6)]
    [Base.slice, Base.int IntKind.i64] (SV.tuple [SV.var 8, SV.int IntKind.i64 (IE.var 9)]) [] false [] [] [7]
    [(7, [SV.int IntKind.i64 (IE.var 0), SV.int IntKind.i64 (IE.var 1), SV.int IntKind.i64 (IE.var 2), SV.int IntKind.i64 (IE.var 3)])]
    (VC.leaf 0 [SV.tuple [SV.bool (BE.eq (IE.len 8) (IE.lit 1)), SV.int IntKind.i64 (IE.var 9)]] []
      [(7, [SV.int IntKind.i64 (IE.var 0), SV.int IntKind.i64 (IE.var 1), SV.int IntKind.i64 (IE.var 2), SV.int IntKind.i64 (IE.var 3)])])) := by kernel_rfl

theorem t14 : exFn { P := Try.prog } 14 [.agg [.int .i64 (.var 0), .int .i64 (.var 1), .int .i64 (.var 2), .int .i64 (.var 3)], .int .i64 (.var 4), .int .i64 (.var 5), .bool (.var 6), .int .i64 (.var 7), .var 8] [.int .i64, .int .i64, .int .i64, .int .i64, .int .i64, .int .i64, .bool, .int .i64, .slice] [] =
  VC.blk
  (VC.call 20
    [SV.agg [SV.int IntKind.i64 (IE.var 0), SV.int IntKind.i64 (IE.var 1), SV.int IntKind.i64 (IE.var 2), SV.int IntKind.i64 (IE.var 3)], SV.int IntKind.i64 (IE.var 4), SV.int IntKind.i64 (IE.var 5),
      SV.bool (BE.var 6)]
    [Base.slice, Base.int IntKind.i64] (SV.tuple [SV.var 10, SV.int IntKind.i64 (IE.var 11)]) [] false [] [] [9]
    [(9, [SV.int IntKind.i64 (IE.var 0), SV.int IntKind.i64 (IE.var 1), SV.int IntKind.i64 (IE.var 2), SV.int IntKind.i64 (IE.var 3)])]
    (VC.call 32 [SV.var 10, SV.var 8] [Base.bool] (SV.bool (BE.var 12)) [] false [] [] [9]
      [(9, [SV.int IntKind.i64 (IE.var 0), SV.int IntKind.i64 (IE.var 1), SV.int IntKind.i64 (IE.var 2), SV.int IntKind.i64 (IE.var 3)])]
      (VC.split (BE.var 12)
        (VC.call 15 [SV.int IntKind.i64 (IE.var 11)] [Base.int IntKind.i64] (SV.int IntKind.i64 (IE.var 13)) [] false [] [] [9]
          [(9, [SV.int IntKind.i64 (IE.var 0), SV.int IntKind.i64 (IE.var 1), SV.int IntKind.i64 (IE.var 2), SV.int IntKind.i64 (IE.var 3)])]
          (VC.leaf 0 [SV.bool (BE.eq (IE.var 13) (IE.var 7))] [] [(9, [SV.int IntKind.i64 (IE.var 0), SV.int IntKind.i64 (IE.var 1), SV.int IntKind.i64 (IE.var 2), SV.int IntKind.i64 (IE.var 3)])]))
        (VC.leaf 0 [SV.bool (BE.lit false)] [] [(9, [SV.int IntKind.i64 (IE.var 0), SV.int IntKind.i64 (IE.var 1), SV.int IntKind.i64 (IE.var 2), SV.int IntKind.i64 (IE.var 3)])])))) := by kernel_rfl

theorem t39 : exFn { P := Try.prog, loops := fun r => if Nat.beq r 2 then some ⟨1, [(9, .int .i64)], []⟩ else none } 39 [.var 0, .var 1] [.slice, .func] [] =
  VC.loop 1 [SV.int IntKind.i64 (IE.lit 0)] [Base.int IntKind.i64] [] [] [] []
  (VC.split (BE.lt (IE.var 2) (IE.len 0))
    (VC.ob (BE.le (IE.lit 0) (IE.var 2))
      (VC.ob (BE.lt (IE.var 2) (IE.len 0))
        (VC.ob (BE.not (BE.nil 0))
          (VC.start false [] [] []
            (VC.load (SV.elt 0 0 (IE.var 2) 4 0) [Base.int IntKind.i64, Base.int IntKind.i64, Base.int IntKind.i64, Base.bool]
              (VC.blk
                (VC.gen (Op.call { callee := Callee.value (Operand.tmp 14), args := { toList := [Operand.tmp 15, Operand.tmp 16] }, argTypes := { toList := [3, 82] } }) 4
                  [(Operand.tmp 14, SV.var 1), (Operand.tmp 15, SV.int IntKind.i64 (IE.var 2)),
                    (Operand.tmp 16, SV.agg [SV.int IntKind.i64 (IE.var 3), SV.int IntKind.i64 (IE.var 4), SV.int IntKind.i64 (IE.var 5), SV.bool (BE.var 6)])]
                  [Base.bool] (SV.bool (BE.var 8)) [] false [7] [] [7] [(7, [SV.int IntKind.i64 (IE.var 3), SV.int IntKind.i64 (IE.var 4), SV.int IntKind.i64 (IE.var 5), SV.bool (BE.var 6)])]
                  (VC.split (BE.var 8)
                    (VC.leaf 0 [SV.int IntKind.i64 (IE.var 2)] [] [(7, [SV.int IntKind.i64 (IE.var 3), SV.int IntKind.i64 (IE.var 4), SV.int IntKind.i64 (IE.var 5), SV.bool (BE.var 6)])])
                    (VC.ob (BE.le (IE.lit (-9223372036854775808)) (IE.add (IE.var 2) (IE.lit 1)))
                      (VC.ob (BE.le (IE.add (IE.var 2) (IE.lit 1)) (IE.lit 9223372036854775807))
                        (VC.leaf 1 [SV.int IntKind.i64 (IE.add (IE.var 2) (IE.lit 1))] []
                          [(7, [SV.int IntKind.i64 (IE.var 3), SV.int IntKind.i64 (IE.var 4), SV.int IntKind.i64 (IE.var 5), SV.bool (BE.var 6)])])))))))))))
    (VC.leaf 0 [SV.int IntKind.i64 (IE.lit (-1))] [] [])) := by kernel_rfl

theorem t49 : exFn { P := Try.prog } 49 [.int .i64 (.var 0), .agg [.int .i64 (.var 1), .int .i64 (.var 2), .int .i64 (.var 3), .bool (.var 4)], .ptr 5 0] [.int .i64, .int .i64, .int .i64, .int .i64, .bool, .ptr] [] =
  VC.blk
  (VC.start false [] [] [(6, [SV.int IntKind.i64 (IE.var 1), SV.int IntKind.i64 (IE.var 2), SV.int IntKind.i64 (IE.var 3), SV.bool (BE.var 4)])]
    (VC.load (SV.ptr 5 0) [Base.int IntKind.i64]
      (VC.leaf 0 [SV.bool (BE.eq (IE.var 1) (IE.var 7))] [] [(6, [SV.int IntKind.i64 (IE.var 1), SV.int IntKind.i64 (IE.var 2), SV.int IntKind.i64 (IE.var 3), SV.bool (BE.var 4)])]))) := by kernel_rfl

theorem t50 : exFn { P := Try.prog } 50 [.int .i64 (.var 0), .agg [.int .i64 (.var 1), .int .i64 (.var 2), .int .i64 (.var 3), .bool (.var 4)], .ptr 5 0, .ptr 6 0] [.int .i64, .int .i64, .int .i64, .int .i64, .bool, .ptr, .ptr] [] =
  VC.blk
  (VC.start true [] [7] [(7, [SV.int IntKind.i64 (IE.var 1), SV.int IntKind.i64 (IE.var 2), SV.int IntKind.i64 (IE.var 3), SV.bool (BE.var 4)])]
    (VC.load (SV.ptr 5 0) [Base.ptr]
      (VC.ob (BE.not (BE.nil 8))
        (VC.load (SV.ptr 8 0) [Base.slice]
          (VC.load (SV.ptr 6 0) [Base.int IntKind.i64]
            (VC.ob (BE.le (IE.lit 0) (IE.var 10))
              (VC.ob (BE.lt (IE.var 10) (IE.len 9))
                (VC.ob (BE.not (BE.nil 9))
                  (VC.load (SV.elt 9 0 (IE.var 10) 4 0) [Base.int IntKind.i64, Base.int IntKind.i64, Base.int IntKind.i64, Base.bool]
                    (VC.call 51
                      [SV.agg [SV.int IntKind.i64 (IE.var 1), SV.int IntKind.i64 (IE.var 2), SV.int IntKind.i64 (IE.var 3), SV.bool (BE.var 4)],
                        SV.agg [SV.int IntKind.i64 (IE.var 11), SV.int IntKind.i64 (IE.var 12), SV.int IntKind.i64 (IE.var 13), SV.bool (BE.var 14)]]
                      [Base.bool] (SV.bool (BE.var 15)) [] true [] [] [7] [(7, [SV.int IntKind.i64 (IE.var 1), SV.int IntKind.i64 (IE.var 2), SV.int IntKind.i64 (IE.var 3), SV.bool (BE.var 4)])]
                      (VC.leaf 0 [SV.bool (BE.var 15)] [] [(7, [SV.int IntKind.i64 (IE.var 1), SV.int IntKind.i64 (IE.var 2), SV.int IntKind.i64 (IE.var 3), SV.bool (BE.var 4)])]))))))))))) := by kernel_rfl

theorem t40 : exFn { P := Try.prog } 40 [.int .i64 (.var 0), .agg [.int .i64 (.var 1), .int .i64 (.var 2), .int .i64 (.var 3), .bool (.var 4)], .ptr 5 0] [.int .i64, .int .i64, .int .i64, .int .i64, .bool, .ptr] [] =
  VC.blk
  (VC.start false [] [] [(6, [SV.int IntKind.i64 (IE.var 1), SV.int IntKind.i64 (IE.var 2), SV.int IntKind.i64 (IE.var 3), SV.bool (BE.var 4)])]
    (VC.load (SV.ptr 5 0) [Base.ptr]
      (VC.ob (BE.not (BE.nil 7))
        (VC.call 36 [SV.ptr 7 0, SV.int IntKind.i64 (IE.var 0)] [Base.bool] (SV.bool (BE.var 8)) [] false [] [] [6]
          [(6, [SV.int IntKind.i64 (IE.var 1), SV.int IntKind.i64 (IE.var 2), SV.int IntKind.i64 (IE.var 3), SV.bool (BE.var 4)])]
          (VC.leaf 0 [SV.bool (BE.var 8)] [] [(6, [SV.int IntKind.i64 (IE.var 1), SV.int IntKind.i64 (IE.var 2), SV.int IntKind.i64 (IE.var 3), SV.bool (BE.var 4)])]))))) := by kernel_rfl

theorem t34 : exFn { P := Try.prog } 34 [.var 0, .int .i64 (.var 1)] [.ptr, .int .i64] [] =
  VC.blk
  (VC.ob (BE.not (BE.nil 0))
    (VC.start false [] [] [(2, [SV.int IntKind.i64 (IE.var 1)])]
      (VC.load (SV.ptr 0 0) [Base.slice]
        (VC.call 39 [SV.var 3, SV.fn 49 [SV.ptr 2 0]] [Base.int IntKind.i64] (SV.int IntKind.i64 (IE.var 4)) [] false [] [] [2] [(2, [SV.int IntKind.i64 (IE.var 1)])]
          (VC.leaf 0 [SV.int IntKind.i64 (IE.var 4)] [] [(2, [SV.int IntKind.i64 (IE.var 1)])]))))) := by kernel_rfl

theorem t36 : exFn { P := Try.prog } 36 [.var 0, .int .i64 (.var 1)] [.ptr, .int .i64] [] =
  VC.blk
  (VC.blk
    (VC.start true [] [3, 2] [(3, [SV.int IntKind.i64 (IE.var 1)]), (2, [SV.var 0])]
      (VC.ob (BE.not (BE.nil 0))
        (VC.load (SV.ptr 0 0) [Base.slice]
          (VC.pur (Op.slice 38 (Operand.tmp 8) none (some (Operand.tmp 9)) (some (Operand.tmp 10))) 38
            [(Operand.tmp 8, SV.var 4), (Operand.tmp 9, SV.int IntKind.i64 (IE.var 1)), (Operand.tmp 10, SV.int IntKind.i64 (IE.var 1))] [Base.slice] (SV.var 5)
            (VC.call 39 [SV.var 5, SV.fn 50 [SV.ptr 2 0, SV.ptr 3 0]] [Base.int IntKind.i64] (SV.int IntKind.i64 (IE.var 6)) [] true [] [] [3, 2]
              [(3, [SV.int IntKind.i64 (IE.var 1)]), (2, [SV.var 0])] (VC.leaf 0 [SV.bool (BE.lt (IE.var 6) (IE.lit 0))] [] [(3, [SV.int IntKind.i64 (IE.var 1)]), (2, [SV.var 0])]))))))) := by kernel_rfl

theorem t35 : exFn { P := Try.prog } 35 [.var 0, .int .i64 (.var 1)] [.ptr, .int .i64] [] =
  VC.split (BE.nil 0) (VC.leaf 0 [SV.tuple [SV.int IntKind.i64 (IE.lit 0), SV.int IntKind.i64 (IE.lit 1)]] [] [])
  (VC.split (BE.lt (IE.var 1) (IE.lit 0)) (VC.leaf 0 [SV.tuple [SV.int IntKind.i64 (IE.lit 0), SV.int IntKind.i64 (IE.lit 2)]] [] [])
    (VC.call 34 [SV.ptr 0 0, SV.int IntKind.i64 (IE.var 1)] [Base.int IntKind.i64] (SV.int IntKind.i64 (IE.var 2)) [] false [] [] [] []
      (VC.split (BE.le (IE.lit 0) (IE.var 2)) (VC.leaf 0 [SV.tuple [SV.int IntKind.i64 (IE.var 2), SV.int IntKind.i64 (IE.lit 0)]] [] [])
        (VC.leaf 0 [SV.tuple [SV.int IntKind.i64 (IE.lit 0), SV.int IntKind.i64 (IE.lit 9)]] [] [])))) := by kernel_rfl

theorem t51 : exFn { P := Try.prog, wraps := true } 51 [.agg [.int .i64 (.var 0), .int .i64 (.var 1), .int .i64 (.var 2), .bool (.var 3)], .agg [.int .i64 (.var 4), .int .i64 (.var 5), .int .i64 (.var 6), .bool (.var 7)]] [.int .i64, .int .i64, .int .i64, .bool, .int .i64, .int .i64, .int .i64, .bool] [] =
  VC.blk
  (VC.blk
    (VC.split (BE.var 3)
      (VC.blk
        (VC.call 31 [SV.slc 10 0 3 3] [Base.bool] (SV.bool (BE.var 11)) [] false [] [] [10, 9, 8]
          [(10,
              [SV.bool (BE.lit true), SV.bool (BE.lt (IE.var 1) (IE.wrap IntKind.i64 (IE.add (IE.var 5) (IE.var 6)))),
                SV.bool (BE.lt (IE.var 5) (IE.wrap IntKind.i64 (IE.add (IE.var 1) (IE.var 2))))]),
            (9, [SV.int IntKind.i64 (IE.var 4), SV.int IntKind.i64 (IE.var 5), SV.int IntKind.i64 (IE.var 6), SV.bool (BE.var 7)]),
            (8, [SV.int IntKind.i64 (IE.var 0), SV.int IntKind.i64 (IE.var 1), SV.int IntKind.i64 (IE.var 2), SV.bool (BE.var 3)])]
          (VC.leaf 0 [SV.bool (BE.var 11)] []
            [(10,
                [SV.bool (BE.lit true), SV.bool (BE.lt (IE.var 1) (IE.wrap IntKind.i64 (IE.add (IE.var 5) (IE.var 6)))),
                  SV.bool (BE.lt (IE.var 5) (IE.wrap IntKind.i64 (IE.add (IE.var 1) (IE.var 2))))]),
              (9, [SV.int IntKind.i64 (IE.var 4), SV.int IntKind.i64 (IE.var 5), SV.int IntKind.i64 (IE.var 6), SV.bool (BE.var 7)]),
              (8, [SV.int IntKind.i64 (IE.var 0), SV.int IntKind.i64 (IE.var 1), SV.int IntKind.i64 (IE.var 2), SV.bool (BE.var 3)])])))
      (VC.blk
        (VC.call 31 [SV.slc 10 0 3 3] [Base.bool] (SV.bool (BE.var 11)) [] false [] [] [10, 9, 8]
          [(10, [SV.bool (BE.var 7), SV.bool (BE.lt (IE.var 1) (IE.wrap IntKind.i64 (IE.add (IE.var 5) (IE.var 6)))), SV.bool (BE.lt (IE.var 5) (IE.wrap IntKind.i64 (IE.add (IE.var 1) (IE.var 2))))]),
            (9, [SV.int IntKind.i64 (IE.var 4), SV.int IntKind.i64 (IE.var 5), SV.int IntKind.i64 (IE.var 6), SV.bool (BE.var 7)]),
            (8, [SV.int IntKind.i64 (IE.var 0), SV.int IntKind.i64 (IE.var 1), SV.int IntKind.i64 (IE.var 2), SV.bool (BE.var 3)])]
          (VC.leaf 0 [SV.bool (BE.var 11)] []
            [(10,
                [SV.bool (BE.var 7), SV.bool (BE.lt (IE.var 1) (IE.wrap IntKind.i64 (IE.add (IE.var 5) (IE.var 6)))), SV.bool (BE.lt (IE.var 5) (IE.wrap IntKind.i64 (IE.add (IE.var 1) (IE.var 2))))]),
              (9, [SV.int IntKind.i64 (IE.var 4), SV.int IntKind.i64 (IE.var 5), SV.int IntKind.i64 (IE.var 6), SV.bool (BE.var 7)]),
              (8, [SV.int IntKind.i64 (IE.var 0), SV.int IntKind.i64 (IE.var 1), SV.int IntKind.i64 (IE.var 2), SV.bool (BE.var 3)])]))))) := by kernel_rfl

theorem t46 : exFn { P := Try.prog, wraps := true } 46 [.agg [.int .i64 (.var 0), .int .i64 (.var 1), .int .i64 (.var 2), .bool (.var 3)], .agg [.int .i64 (.var 4), .int .i64 (.var 5), .int .i64 (.var 6), .bool (.var 7)]] [.int .i64, .int .i64, .int .i64, .bool, .int .i64, .int .i64, .int .i64, .bool] [] =
  VC.blk
  (VC.blk
    (VC.split (BE.var 3)
      (VC.split (BE.lt (IE.var 1) (IE.wrap IntKind.i64 (IE.add (IE.var 5) (IE.var 6))))
        (VC.leaf 0 [SV.bool (BE.lt (IE.var 5) (IE.wrap IntKind.i64 (IE.add (IE.var 1) (IE.var 2))))] []
          [(9, [SV.int IntKind.i64 (IE.var 4), SV.int IntKind.i64 (IE.var 5), SV.int IntKind.i64 (IE.var 6), SV.bool (BE.var 7)]),
            (8, [SV.int IntKind.i64 (IE.var 0), SV.int IntKind.i64 (IE.var 1), SV.int IntKind.i64 (IE.var 2), SV.bool (BE.var 3)])])
        (VC.leaf 0 [SV.bool (BE.lit false)] []
          [(9, [SV.int IntKind.i64 (IE.var 4), SV.int IntKind.i64 (IE.var 5), SV.int IntKind.i64 (IE.var 6), SV.bool (BE.var 7)]),
            (8, [SV.int IntKind.i64 (IE.var 0), SV.int IntKind.i64 (IE.var 1), SV.int IntKind.i64 (IE.var 2), SV.bool (BE.var 3)])]))
      (VC.split (BE.var 7)
        (VC.split (BE.lt (IE.var 1) (IE.wrap IntKind.i64 (IE.add (IE.var 5) (IE.var 6))))
          (VC.leaf 0 [SV.bool (BE.lt (IE.var 5) (IE.wrap IntKind.i64 (IE.add (IE.var 1) (IE.var 2))))] []
            [(9, [SV.int IntKind.i64 (IE.var 4), SV.int IntKind.i64 (IE.var 5), SV.int IntKind.i64 (IE.var 6), SV.bool (BE.var 7)]),
              (8, [SV.int IntKind.i64 (IE.var 0), SV.int IntKind.i64 (IE.var 1), SV.int IntKind.i64 (IE.var 2), SV.bool (BE.var 3)])])
          (VC.leaf 0 [SV.bool (BE.lit false)] []
            [(9, [SV.int IntKind.i64 (IE.var 4), SV.int IntKind.i64 (IE.var 5), SV.int IntKind.i64 (IE.var 6), SV.bool (BE.var 7)]),
              (8, [SV.int IntKind.i64 (IE.var 0), SV.int IntKind.i64 (IE.var 1), SV.int IntKind.i64 (IE.var 2), SV.bool (BE.var 3)])]))
        (VC.leaf 0 [SV.bool (BE.lit false)] []
          [(9, [SV.int IntKind.i64 (IE.var 4), SV.int IntKind.i64 (IE.var 5), SV.int IntKind.i64 (IE.var 6), SV.bool (BE.var 7)]),
            (8, [SV.int IntKind.i64 (IE.var 0), SV.int IntKind.i64 (IE.var 1), SV.int IntKind.i64 (IE.var 2), SV.bool (BE.var 3)])])))) := by kernel_rfl

theorem t20 : exFn { P := Try.prog, loops := fun r => if Nat.beq r 7 then some ⟨1, [(1, .int .i64), (2, .int .i64), (8, .slice)], []⟩ else if Nat.beq r 13 then some ⟨2, [(14, .int .i64), (8, .slice)], []⟩ else none } 20 [.agg [.int .i64 (.var 0), .int .i64 (.var 1), .int .i64 (.var 2), .int .i64 (.var 3)], .int .i64 (.var 4), .int .i64 (.var 5), .bool (.var 6)] [.int .i64, .int .i64, .int .i64, .int .i64, .int .i64, .int .i64, .bool] [] =
  VC.blk
  (VC.call 12 [SV.agg [SV.int IntKind.i64 (IE.var 0), SV.int IntKind.i64 (IE.var 1), SV.int IntKind.i64 (IE.var 2), SV.int IntKind.i64 (IE.var 3)]] [Base.bool] (SV.bool (BE.var 8)) [] false [] [] [7]
    [(7, [SV.int IntKind.i64 (IE.var 0), SV.int IntKind.i64 (IE.var 1), SV.int IntKind.i64 (IE.var 2), SV.int IntKind.i64 (IE.var 3)])]
    (VC.call 33 [SV.int IntKind.i64 (IE.var 4), SV.int IntKind.i64 (IE.var 5)] [Base.bool] (SV.bool (BE.var 9)) [] false [] [] [7]
      [(7, [SV.int IntKind.i64 (IE.var 0), SV.int IntKind.i64 (IE.var 1), SV.int IntKind.i64 (IE.var 2), SV.int IntKind.i64 (IE.var 3)])]
      (VC.blk
        (VC.call 31 [SV.slc 10 0 2 2] [Base.bool] (SV.bool (BE.var 11)) [] false [] [] [10, 7]
          [(10, [SV.bool (BE.var 8), SV.bool (BE.var 9)]), (7, [SV.int IntKind.i64 (IE.var 0), SV.int IntKind.i64 (IE.var 1), SV.int IntKind.i64 (IE.var 2), SV.int IntKind.i64 (IE.var 3)])]
          (VC.split (BE.not (BE.var 11))
            (VC.leaf 0 [SV.tuple [SV.cst (Value.slice none 0 0), SV.int IntKind.i64 (IE.lit 2)]] []
              [(10, [SV.bool (BE.var 8), SV.bool (BE.var 9)]), (7, [SV.int IntKind.i64 (IE.var 0), SV.int IntKind.i64 (IE.var 1), SV.int IntKind.i64 (IE.var 2), SV.int IntKind.i64 (IE.var 3)])])
            (VC.blk
              (VC.split (BE.var 6)
                (VC.loop 1 [SV.int IntKind.i64 (IE.var 4), SV.int IntKind.i64 (IE.var 5), SV.cst (Value.slice none 0 0)] [Base.int IntKind.i64, Base.int IntKind.i64, Base.slice] [12] [12, 10, 7]
                  [(12, [SV.int IntKind.i64 (IE.var 0), SV.int IntKind.i64 (IE.var 1)]), (10, [SV.bool (BE.var 8), SV.bool (BE.var 9)]),
                    (7, [SV.int IntKind.i64 (IE.var 0), SV.int IntKind.i64 (IE.var 1), SV.int IntKind.i64 (IE.var 2), SV.int IntKind.i64 (IE.var 3)])]
                  [(12, [SV.int IntKind.i64 (IE.var 0), SV.int IntKind.i64 (IE.var 1)]), (10, [SV.bool (BE.var 8), SV.bool (BE.var 9)]),
                    (7, [SV.int IntKind.i64 (IE.var 0), SV.int IntKind.i64 (IE.var 1), SV.int IntKind.i64 (IE.var 2), SV.int IntKind.i64 (IE.var 3)])]
                  (VC.split (BE.lt (IE.lit 0) (IE.var 14))
                    (VC.call 38
                      [SV.agg [SV.int IntKind.i64 (IE.var 0), SV.int IntKind.i64 (IE.var 1), SV.int IntKind.i64 (IE.var 2), SV.int IntKind.i64 (IE.var 3)], SV.int IntKind.i64 (IE.var 13),
                        SV.int IntKind.i64 (IE.var 14)]
                      [Base.int IntKind.i64] (SV.int IntKind.i64 (IE.var 16)) [] false [] [] [12, 10, 7]
                      [(12, [SV.int IntKind.i64 (IE.var 0), SV.int IntKind.i64 (IE.var 1)]), (10, [SV.bool (BE.var 8), SV.bool (BE.var 9)]),
                        (7, [SV.int IntKind.i64 (IE.var 0), SV.int IntKind.i64 (IE.var 1), SV.int IntKind.i64 (IE.var 2), SV.int IntKind.i64 (IE.var 3)])]
                      (VC.split (BE.lt (IE.var 1) (IE.var 16))
                        (VC.loop 2 [SV.int IntKind.i64 (IE.lit 0), SV.var 15] [Base.int IntKind.i64, Base.slice] [] [12, 10, 7]
                          [(12, [SV.int IntKind.i64 (IE.var 0), SV.int IntKind.i64 (IE.var 1)]), (10, [SV.bool (BE.var 8), SV.bool (BE.var 9)]),
                            (7, [SV.int IntKind.i64 (IE.var 0), SV.int IntKind.i64 (IE.var 1), SV.int IntKind.i64 (IE.var 2), SV.int IntKind.i64 (IE.var 3)])]
                          [(12, [SV.int IntKind.i64 (IE.var 0), SV.int IntKind.i64 (IE.var 1)]), (10, [SV.bool (BE.var 8), SV.bool (BE.var 9)]),
                            (7, [SV.int IntKind.i64 (IE.var 0), SV.int IntKind.i64 (IE.var 1), SV.int IntKind.i64 (IE.var 2), SV.int IntKind.i64 (IE.var 3)])]
                          (VC.split (BE.lt (IE.var 17) (IE.var 16))
                            (VC.ob (BE.le (IE.lit (-9223372036854775808)) (IE.add (IE.var 13) (IE.var 17)))
                              (VC.ob (BE.le (IE.add (IE.var 13) (IE.var 17)) (IE.lit 9223372036854775807))
                                (VC.blk
                                  (VC.gen (Op.call { callee := Callee.builtin Builtin.append, args := { toList := [Operand.tmp 49, Operand.tmp 55] }, argTypes := { toList := [25, 25] } }) 25
                                    [(Operand.tmp 49, SV.var 18), (Operand.tmp 55, SV.slc 19 0 1 1)] [Base.slice] (SV.var 20) [] false [] [] [19, 12, 10, 7]
                                    [(19, [SV.int IntKind.i64 (IE.add (IE.var 13) (IE.var 17)), SV.int IntKind.i64 (IE.lit 1)]), (12, [SV.int IntKind.i64 (IE.var 0), SV.int IntKind.i64 (IE.var 1)]),
                                      (10, [SV.bool (BE.var 8), SV.bool (BE.var 9)]),
                                      (7, [SV.int IntKind.i64 (IE.var 0), SV.int IntKind.i64 (IE.var 1), SV.int IntKind.i64 (IE.var 2), SV.int IntKind.i64 (IE.var 3)])]
                                    (VC.ob (BE.le (IE.lit (-9223372036854775808)) (IE.add (IE.var 17) (IE.lit 1)))
                                      (VC.ob (BE.le (IE.add (IE.var 17) (IE.lit 1)) (IE.lit 9223372036854775807))
                                        (VC.leaf 2 [SV.int IntKind.i64 (IE.add (IE.var 17) (IE.lit 1)), SV.var 20] []
                                          [(19, [SV.int IntKind.i64 (IE.add (IE.var 13) (IE.var 17)), SV.int IntKind.i64 (IE.lit 1)]),
                                            (12, [SV.int IntKind.i64 (IE.var 0), SV.int IntKind.i64 (IE.var 1)]), (10, [SV.bool (BE.var 8), SV.bool (BE.var 9)]),
                                            (7, [SV.int IntKind.i64 (IE.var 0), SV.int IntKind.i64 (IE.var 1), SV.int IntKind.i64 (IE.var 2), SV.int IntKind.i64 (IE.var 3)])])))))))
                            (VC.ob (BE.le (IE.lit (-9223372036854775808)) (IE.add (IE.var 13) (IE.var 16)))
                              (VC.ob (BE.le (IE.add (IE.var 13) (IE.var 16)) (IE.lit 9223372036854775807))
                                (VC.ob (BE.le (IE.lit (-9223372036854775808)) (IE.sub (IE.var 14) (IE.var 16)))
                                  (VC.ob (BE.le (IE.sub (IE.var 14) (IE.var 16)) (IE.lit 9223372036854775807))
                                    (VC.leaf 1 [SV.int IntKind.i64 (IE.add (IE.var 13) (IE.var 16)), SV.int IntKind.i64 (IE.sub (IE.var 14) (IE.var 16)), SV.var 18] []
                                      [(12, [SV.int IntKind.i64 (IE.var 0), SV.int IntKind.i64 (IE.var 1)]), (10, [SV.bool (BE.var 8), SV.bool (BE.var 9)]),
                                        (7, [SV.int IntKind.i64 (IE.var 0), SV.int IntKind.i64 (IE.var 1), SV.int IntKind.i64 (IE.var 2), SV.int IntKind.i64 (IE.var 3)])])))))))
                        (VC.loop 2 [SV.int IntKind.i64 (IE.lit 0), SV.var 15] [Base.int IntKind.i64, Base.slice] [] [12, 10, 7]
                          [(12, [SV.int IntKind.i64 (IE.var 0), SV.int IntKind.i64 (IE.var 1)]), (10, [SV.bool (BE.var 8), SV.bool (BE.var 9)]),
                            (7, [SV.int IntKind.i64 (IE.var 0), SV.int IntKind.i64 (IE.var 1), SV.int IntKind.i64 (IE.var 2), SV.int IntKind.i64 (IE.var 3)])]
                          [(12, [SV.int IntKind.i64 (IE.var 0), SV.int IntKind.i64 (IE.var 1)]), (10, [SV.bool (BE.var 8), SV.bool (BE.var 9)]),
                            (7, [SV.int IntKind.i64 (IE.var 0), SV.int IntKind.i64 (IE.var 1), SV.int IntKind.i64 (IE.var 2), SV.int IntKind.i64 (IE.var 3)])]
                          (VC.split (BE.lt (IE.var 17) (IE.var 16))
                            (VC.ob (BE.le (IE.lit (-9223372036854775808)) (IE.add (IE.var 13) (IE.var 17)))
                              (VC.ob (BE.le (IE.add (IE.var 13) (IE.var 17)) (IE.lit 9223372036854775807))
                                (VC.blk
                                  (VC.gen (Op.call { callee := Callee.builtin Builtin.append, args := { toList := [Operand.tmp 49, Operand.tmp 55] }, argTypes := { toList := [25, 25] } }) 25
                                    [(Operand.tmp 49, SV.var 18), (Operand.tmp 55, SV.slc 19 0 1 1)] [Base.slice] (SV.var 20) [] false [] [] [19, 12, 10, 7]
                                    [(19, [SV.int IntKind.i64 (IE.add (IE.var 13) (IE.var 17)), SV.int IntKind.i64 (IE.var 16)]), (12, [SV.int IntKind.i64 (IE.var 0), SV.int IntKind.i64 (IE.var 1)]),
                                      (10, [SV.bool (BE.var 8), SV.bool (BE.var 9)]),
                                      (7, [SV.int IntKind.i64 (IE.var 0), SV.int IntKind.i64 (IE.var 1), SV.int IntKind.i64 (IE.var 2), SV.int IntKind.i64 (IE.var 3)])]
                                    (VC.ob (BE.le (IE.lit (-9223372036854775808)) (IE.add (IE.var 17) (IE.var 16)))
                                      (VC.ob (BE.le (IE.add (IE.var 17) (IE.var 16)) (IE.lit 9223372036854775807))
                                        (VC.leaf 2 [SV.int IntKind.i64 (IE.add (IE.var 17) (IE.var 16)), SV.var 20] []
                                          [(19, [SV.int IntKind.i64 (IE.add (IE.var 13) (IE.var 17)), SV.int IntKind.i64 (IE.var 16)]),
                                            (12, [SV.int IntKind.i64 (IE.var 0), SV.int IntKind.i64 (IE.var 1)]), (10, [SV.bool (BE.var 8), SV.bool (BE.var 9)]),
                                            (7, [SV.int IntKind.i64 (IE.var 0), SV.int IntKind.i64 (IE.var 1), SV.int IntKind.i64 (IE.var 2), SV.int IntKind.i64 (IE.var 3)])])))))))
                            (VC.ob (BE.le (IE.lit (-9223372036854775808)) (IE.add (IE.var 13) (IE.var 16)))
                              (VC.ob (BE.le (IE.add (IE.var 13) (IE.var 16)) (IE.lit 9223372036854775807))
                                (VC.ob (BE.le (IE.lit (-9223372036854775808)) (IE.sub (IE.var 14) (IE.var 16)))
                                  (VC.ob (BE.le (IE.sub (IE.var 14) (IE.var 16)) (IE.lit 9223372036854775807))
                                    (VC.leaf 1 [SV.int IntKind.i64 (IE.add (IE.var 13) (IE.var 16)), SV.int IntKind.i64 (IE.sub (IE.var 14) (IE.var 16)), SV.var 18] []
                                      [(12, [SV.int IntKind.i64 (IE.var 0), SV.int IntKind.i64 (IE.var 1)]), (10, [SV.bool (BE.var 8), SV.bool (BE.var 9)]),
                                        (7, [SV.int IntKind.i64 (IE.var 0), SV.int IntKind.i64 (IE.var 1), SV.int IntKind.i64 (IE.var 2), SV.int IntKind.i64 (IE.var 3)])])))))))))
                    (VC.leaf 0 [SV.tuple [SV.var 15, SV.int IntKind.i64 (IE.lit 0)]] []
                      [(12, [SV.int IntKind.i64 (IE.var 0), SV.int IntKind.i64 (IE.var 1)]), (10, [SV.bool (BE.var 8), SV.bool (BE.var 9)]),
                        (7, [SV.int IntKind.i64 (IE.var 0), SV.int IntKind.i64 (IE.var 1), SV.int IntKind.i64 (IE.var 2), SV.int IntKind.i64 (IE.var 3)])])))
                (VC.loop 1 [SV.int IntKind.i64 (IE.var 4), SV.int IntKind.i64 (IE.var 5), SV.cst (Value.slice none 0 0)] [Base.int IntKind.i64, Base.int IntKind.i64, Base.slice] [12] [12, 10, 7]
                  [(12, [SV.int IntKind.i64 (IE.var 0), SV.int IntKind.i64 (IE.var 1)]), (10, [SV.bool (BE.var 8), SV.bool (BE.var 9)]),
                    (7, [SV.int IntKind.i64 (IE.var 0), SV.int IntKind.i64 (IE.var 1), SV.int IntKind.i64 (IE.var 2), SV.int IntKind.i64 (IE.var 3)])]
                  [(12, [SV.int IntKind.i64 (IE.var 0), SV.int IntKind.i64 (IE.var 1)]), (10, [SV.bool (BE.var 8), SV.bool (BE.var 9)]),
                    (7, [SV.int IntKind.i64 (IE.var 0), SV.int IntKind.i64 (IE.var 1), SV.int IntKind.i64 (IE.var 2), SV.int IntKind.i64 (IE.var 3)])]
                  (VC.split (BE.lt (IE.lit 0) (IE.var 14))
                    (VC.call 38
                      [SV.agg [SV.int IntKind.i64 (IE.var 0), SV.int IntKind.i64 (IE.var 1), SV.int IntKind.i64 (IE.var 2), SV.int IntKind.i64 (IE.var 3)], SV.int IntKind.i64 (IE.var 13),
                        SV.int IntKind.i64 (IE.var 14)]
                      [Base.int IntKind.i64] (SV.int IntKind.i64 (IE.var 16)) [] false [] [] [12, 10, 7]
                      [(12, [SV.int IntKind.i64 (IE.var 0), SV.int IntKind.i64 (IE.var 1)]), (10, [SV.bool (BE.var 8), SV.bool (BE.var 9)]),
                        (7, [SV.int IntKind.i64 (IE.var 0), SV.int IntKind.i64 (IE.var 1), SV.int IntKind.i64 (IE.var 2), SV.int IntKind.i64 (IE.var 3)])]
                      (VC.split (BE.lt (IE.var 0) (IE.var 16))
                        (VC.loop 2 [SV.int IntKind.i64 (IE.lit 0), SV.var 15] [Base.int IntKind.i64, Base.slice] [] [12, 10, 7]
                          [(12, [SV.int IntKind.i64 (IE.var 0), SV.int IntKind.i64 (IE.var 1)]), (10, [SV.bool (BE.var 8), SV.bool (BE.var 9)]),
                            (7, [SV.int IntKind.i64 (IE.var 0), SV.int IntKind.i64 (IE.var 1), SV.int IntKind.i64 (IE.var 2), SV.int IntKind.i64 (IE.var 3)])]
                          [(12, [SV.int IntKind.i64 (IE.var 0), SV.int IntKind.i64 (IE.var 1)]), (10, [SV.bool (BE.var 8), SV.bool (BE.var 9)]),
                            (7, [SV.int IntKind.i64 (IE.var 0), SV.int IntKind.i64 (IE.var 1), SV.int IntKind.i64 (IE.var 2), SV.int IntKind.i64 (IE.var 3)])]
                          (VC.split (BE.lt (IE.var 17) (IE.var 16))
                            (VC.ob (BE.le (IE.lit (-9223372036854775808)) (IE.add (IE.var 13) (IE.var 17)))
                              (VC.ob (BE.le (IE.add (IE.var 13) (IE.var 17)) (IE.lit 9223372036854775807))
                                (VC.blk
                                  (VC.gen (Op.call { callee := Callee.builtin Builtin.append, args := { toList := [Operand.tmp 49, Operand.tmp 55] }, argTypes := { toList := [25, 25] } }) 25
                                    [(Operand.tmp 49, SV.var 18), (Operand.tmp 55, SV.slc 19 0 1 1)] [Base.slice] (SV.var 20) [] false [] [] [19, 12, 10, 7]
                                    [(19, [SV.int IntKind.i64 (IE.add (IE.var 13) (IE.var 17)), SV.int IntKind.i64 (IE.lit 1)]), (12, [SV.int IntKind.i64 (IE.var 0), SV.int IntKind.i64 (IE.var 1)]),
                                      (10, [SV.bool (BE.var 8), SV.bool (BE.var 9)]),
                                      (7, [SV.int IntKind.i64 (IE.var 0), SV.int IntKind.i64 (IE.var 1), SV.int IntKind.i64 (IE.var 2), SV.int IntKind.i64 (IE.var 3)])]
                                    (VC.ob (BE.le (IE.lit (-9223372036854775808)) (IE.add (IE.var 17) (IE.lit 1)))
                                      (VC.ob (BE.le (IE.add (IE.var 17) (IE.lit 1)) (IE.lit 9223372036854775807))
                                        (VC.leaf 2 [SV.int IntKind.i64 (IE.add (IE.var 17) (IE.lit 1)), SV.var 20] []
                                          [(19, [SV.int IntKind.i64 (IE.add (IE.var 13) (IE.var 17)), SV.int IntKind.i64 (IE.lit 1)]),
                                            (12, [SV.int IntKind.i64 (IE.var 0), SV.int IntKind.i64 (IE.var 1)]), (10, [SV.bool (BE.var 8), SV.bool (BE.var 9)]),
                                            (7, [SV.int IntKind.i64 (IE.var 0), SV.int IntKind.i64 (IE.var 1), SV.int IntKind.i64 (IE.var 2), SV.int IntKind.i64 (IE.var 3)])])))))))
                            (VC.ob (BE.le (IE.lit (-9223372036854775808)) (IE.add (IE.var 13) (IE.var 16)))
                              (VC.ob (BE.le (IE.add (IE.var 13) (IE.var 16)) (IE.lit 9223372036854775807))
                                (VC.ob (BE.le (IE.lit (-9223372036854775808)) (IE.sub (IE.var 14) (IE.var 16)))
                                  (VC.ob (BE.le (IE.sub (IE.var 14) (IE.var 16)) (IE.lit 9223372036854775807))
                                    (VC.leaf 1 [SV.int IntKind.i64 (IE.add (IE.var 13) (IE.var 16)), SV.int IntKind.i64 (IE.sub (IE.var 14) (IE.var 16)), SV.var 18] []
                                      [(12, [SV.int IntKind.i64 (IE.var 0), SV.int IntKind.i64 (IE.var 1)]), (10, [SV.bool (BE.var 8), SV.bool (BE.var 9)]),
                                        (7, [SV.int IntKind.i64 (IE.var 0), SV.int IntKind.i64 (IE.var 1), SV.int IntKind.i64 (IE.var 2), SV.int IntKind.i64 (IE.var 3)])])))))))
                        (VC.loop 2 [SV.int IntKind.i64 (IE.lit 0), SV.var 15] [Base.int IntKind.i64, Base.slice] [] [12, 10, 7]
                          [(12, [SV.int IntKind.i64 (IE.var 0), SV.int IntKind.i64 (IE.var 1)]), (10, [SV.bool (BE.var 8), SV.bool (BE.var 9)]),
                            (7, [SV.int IntKind.i64 (IE.var 0), SV.int IntKind.i64 (IE.var 1), SV.int IntKind.i64 (IE.var 2), SV.int IntKind.i64 (IE.var 3)])]
                          [(12, [SV.int IntKind.i64 (IE.var 0), SV.int IntKind.i64 (IE.var 1)]), (10, [SV.bool (BE.var 8), SV.bool (BE.var 9)]),
                            (7, [SV.int IntKind.i64 (IE.var 0), SV.int IntKind.i64 (IE.var 1), SV.int IntKind.i64 (IE.var 2), SV.int IntKind.i64 (IE.var 3)])]
                          (VC.split (BE.lt (IE.var 17) (IE.var 16))
                            (VC.ob (BE.le (IE.lit (-9223372036854775808)) (IE.add (IE.var 13) (IE.var 17)))
                              (VC.ob (BE.le (IE.add (IE.var 13) (IE.var 17)) (IE.lit 9223372036854775807))
                                (VC.blk
                                  (VC.gen (Op.call { callee := Callee.builtin Builtin.append, args := { toList := [Operand.tmp 49, Operand.tmp 55] }, argTypes := { toList := [25, 25] } }) 25
                                    [(Operand.tmp 49, SV.var 18), (Operand.tmp 55, SV.slc 19 0 1 1)] [Base.slice] (SV.var 20) [] false [] [] [19, 12, 10, 7]
                                    [(19, [SV.int IntKind.i64 (IE.add (IE.var 13) (IE.var 17)), SV.int IntKind.i64 (IE.var 16)]), (12, [SV.int IntKind.i64 (IE.var 0), SV.int IntKind.i64 (IE.var 1)]),
                                      (10, [SV.bool (BE.var 8), SV.bool (BE.var 9)]),
                                      (7, [SV.int IntKind.i64 (IE.var 0), SV.int IntKind.i64 (IE.var 1), SV.int IntKind.i64 (IE.var 2), SV.int IntKind.i64 (IE.var 3)])]
                                    (VC.ob (BE.le (IE.lit (-9223372036854775808)) (IE.add (IE.var 17) (IE.var 16)))
                                      (VC.ob (BE.le (IE.add (IE.var 17) (IE.var 16)) (IE.lit 9223372036854775807))
                                        (VC.leaf 2 [SV.int IntKind.i64 (IE.add (IE.var 17) (IE.var 16)), SV.var 20] []
                                          [(19, [SV.int IntKind.i64 (IE.add (IE.var 13) (IE.var 17)), SV.int IntKind.i64 (IE.var 16)]),
                                            (12, [SV.int IntKind.i64 (IE.var 0), SV.int IntKind.i64 (IE.var 1)]), (10, [SV.bool (BE.var 8), SV.bool (BE.var 9)]),
                                            (7, [SV.int IntKind.i64 (IE.var 0), SV.int IntKind.i64 (IE.var 1), SV.int IntKind.i64 (IE.var 2), SV.int IntKind.i64 (IE.var 3)])])))))))
                            (VC.ob (BE.le (IE.lit (-9223372036854775808)) (IE.add (IE.var 13) (IE.var 16)))
                              (VC.ob (BE.le (IE.add (IE.var 13) (IE.var 16)) (IE.lit 9223372036854775807))
                                (VC.ob (BE.le (IE.lit (-9223372036854775808)) (IE.sub (IE.var 14) (IE.var 16)))
                                  (VC.ob (BE.le (IE.sub (IE.var 14) (IE.var 16)) (IE.lit 9223372036854775807))
                                    (VC.leaf 1 [SV.int IntKind.i64 (IE.add (IE.var 13) (IE.var 16)), SV.int IntKind.i64 (IE.sub (IE.var 14) (IE.var 16)), SV.var 18] []
                                      [(12, [SV.int IntKind.i64 (IE.var 0), SV.int IntKind.i64 (IE.var 1)]), (10, [SV.bool (BE.var 8), SV.bool (BE.var 9)]),
                                        (7, [SV.int IntKind.i64 (IE.var 0), SV.int IntKind.i64 (IE.var 1), SV.int IntKind.i64 (IE.var 2), SV.int IntKind.i64 (IE.var 3)])])))))))))
                    (VC.leaf 0 [SV.tuple [SV.var 15, SV.int IntKind.i64 (IE.lit 0)]] []
                      [(12, [SV.int IntKind.i64 (IE.var 0), SV.int IntKind.i64 (IE.var 1)]), (10, [SV.bool (BE.var 8), SV.bool (BE.var 9)]),
                        (7, [SV.int IntKind.i64 (IE.var 0), SV.int IntKind.i64 (IE.var 1), SV.int IntKind.i64 (IE.var 2), SV.int IntKind.i64 (IE.var 3)])])))))))))) := by kernel_rfl

theorem t10 : exFn { P := Try.prog, loops := fun r => if Nat.beq r 8 then some ⟨1, [(12, .int .i64), (11, .slice)], []⟩ else if Nat.beq r 10 then some ⟨2, [(13, .int .i64)], []⟩ else if Nat.beq r 15 then some ⟨3, [(14, .int .i64), (11, .slice)], []⟩ else none } 10 [.agg [.int .i64 (.var 0), .int .i64 (.var 1), .int .i64 (.var 2), .int .i64 (.var 3)], .int .i64 (.var 4), .int .i64 (.var 5), .bool (.var 6)] [.int .i64, .int .i64, .int .i64, .int .i64, .int .i64, .int .i64, .bool] [] =
  VC.blk
  (VC.call 13 [SV.agg [SV.int IntKind.i64 (IE.var 0), SV.int IntKind.i64 (IE.var 1), SV.int IntKind.i64 (IE.var 2), SV.int IntKind.i64 (IE.var 3)]] [Base.bool] (SV.bool (BE.var 8)) [] false [] [] [7]
    [(7, [SV.int IntKind.i64 (IE.var 0), SV.int IntKind.i64 (IE.var 1), SV.int IntKind.i64 (IE.var 2), SV.int IntKind.i64 (IE.var 3)])]
    (VC.split (BE.not (BE.var 8))
      (VC.leaf 0 [SV.tuple [SV.cst (Value.slice none 0 0), SV.int IntKind.i64 (IE.lit 2)]] []
        [(7, [SV.int IntKind.i64 (IE.var 0), SV.int IntKind.i64 (IE.var 1), SV.int IntKind.i64 (IE.var 2), SV.int IntKind.i64 (IE.var 3)])])
      (VC.call 30 [SV.int IntKind.i64 (IE.var 4), SV.int IntKind.i64 (IE.var 5)] [Base.bool] (SV.bool (BE.var 9)) [] false [] [] [7]
        [(7, [SV.int IntKind.i64 (IE.var 0), SV.int IntKind.i64 (IE.var 1), SV.int IntKind.i64 (IE.var 2), SV.int IntKind.i64 (IE.var 3)])]
        (VC.split (BE.not (BE.var 9))
          (VC.leaf 0 [SV.tuple [SV.cst (Value.slice none 0 0), SV.int IntKind.i64 (IE.lit 2)]] []
            [(7, [SV.int IntKind.i64 (IE.var 0), SV.int IntKind.i64 (IE.var 1), SV.int IntKind.i64 (IE.var 2), SV.int IntKind.i64 (IE.var 3)])])
          (VC.split (BE.var 6)
            (VC.loop 1 [SV.int IntKind.i64 (IE.var 4), SV.cst (Value.slice none 0 0)] [Base.int IntKind.i64, Base.slice] [] [7]
              [(7, [SV.int IntKind.i64 (IE.var 0), SV.int IntKind.i64 (IE.var 1), SV.int IntKind.i64 (IE.var 2), SV.int IntKind.i64 (IE.var 3)])]
              [(7, [SV.int IntKind.i64 (IE.var 0), SV.int IntKind.i64 (IE.var 1), SV.int IntKind.i64 (IE.var 2), SV.int IntKind.i64 (IE.var 3)])]
              (VC.ob (BE.le (IE.lit (-9223372036854775808)) (IE.add (IE.var 4) (IE.var 5)))
                (VC.ob (BE.le (IE.add (IE.var 4) (IE.var 5)) (IE.lit 9223372036854775807))
                  (VC.split (BE.lt (IE.var 10) (IE.add (IE.var 4) (IE.var 5)))
                    (VC.ob (BE.le (IE.lit (-9223372036854775808)) (IE.add (IE.var 10) (IE.lit 1)))
                      (VC.ob (BE.le (IE.add (IE.var 10) (IE.lit 1)) (IE.lit 9223372036854775807))
                        (VC.loop 2 [SV.int IntKind.i64 (IE.add (IE.var 10) (IE.lit 1))] [Base.int IntKind.i64] [] [7]
                          [(7, [SV.int IntKind.i64 (IE.var 0), SV.int IntKind.i64 (IE.var 1), SV.int IntKind.i64 (IE.var 2), SV.int IntKind.i64 (IE.var 3)])]
                          [(7, [SV.int IntKind.i64 (IE.var 0), SV.int IntKind.i64 (IE.var 1), SV.int IntKind.i64 (IE.var 2), SV.int IntKind.i64 (IE.var 3)])]
                          (VC.ob (BE.le (IE.lit (-9223372036854775808)) (IE.add (IE.var 4) (IE.var 5)))
                            (VC.ob (BE.le (IE.add (IE.var 4) (IE.var 5)) (IE.lit 9223372036854775807))
                              (VC.split (BE.lt (IE.var 12) (IE.add (IE.var 4) (IE.var 5)))
                                (VC.split (BE.eq (IE.var 2) (IE.lit 0))
                                  (VC.ob (BE.le (IE.lit (-9223372036854775808)) (IE.add (IE.var 12) (IE.lit 1)))
                                    (VC.ob (BE.le (IE.add (IE.var 12) (IE.lit 1)) (IE.lit 9223372036854775807))
                                      (VC.leaf 2 [SV.int IntKind.i64 (IE.add (IE.var 12) (IE.lit 1))] []
                                        [(7, [SV.int IntKind.i64 (IE.var 0), SV.int IntKind.i64 (IE.var 1), SV.int IntKind.i64 (IE.var 2), SV.int IntKind.i64 (IE.var 3)])])))
                                  (VC.ob (BE.le (IE.lit (-9223372036854775808)) (IE.sub (IE.var 12) (IE.var 3)))
                                    (VC.ob (BE.le (IE.sub (IE.var 12) (IE.var 3)) (IE.lit 9223372036854775807))
                                      (VC.ob (BE.not (BE.eq (IE.var 2) (IE.lit 0)))
                                        (VC.split (BE.not (BE.eq (IE.rem (IE.sub (IE.var 12) (IE.var 3)) (IE.var 2)) (IE.lit 0)))
                                          (VC.ob (BE.le (IE.lit (-9223372036854775808)) (IE.add (IE.var 12) (IE.lit 1)))
                                            (VC.ob (BE.le (IE.add (IE.var 12) (IE.lit 1)) (IE.lit 9223372036854775807))
                                              (VC.leaf 2 [SV.int IntKind.i64 (IE.add (IE.var 12) (IE.lit 1))] []
                                                [(7, [SV.int IntKind.i64 (IE.var 0), SV.int IntKind.i64 (IE.var 1), SV.int IntKind.i64 (IE.var 2), SV.int IntKind.i64 (IE.var 3)])])))
                                          (VC.ob (BE.le (IE.lit (-9223372036854775808)) (IE.sub (IE.var 12) (IE.var 10)))
                                            (VC.ob (BE.le (IE.sub (IE.var 12) (IE.var 10)) (IE.lit 9223372036854775807))
                                              (VC.split (BE.le (IE.sub (IE.var 12) (IE.var 10)) (IE.var 1))
                                                (VC.ob (BE.le (IE.lit (-9223372036854775808)) (IE.sub (IE.var 12) (IE.var 10)))
                                                  (VC.ob (BE.le (IE.sub (IE.var 12) (IE.var 10)) (IE.lit 9223372036854775807))
                                                    (VC.blk
                                                      (VC.gen
                                                        (Op.call
                                                          { callee := Callee.builtin Builtin.append, args := { toList := [Operand.tmp 64, Operand.tmp 70] }, argTypes := { toList := [25, 25] } })
                                                        25 [(Operand.tmp 64, SV.var 11), (Operand.tmp 70, SV.slc 13 0 1 1)] [Base.slice] (SV.var 14) [] false [] [] [13, 7]
                                                        [(13, [SV.int IntKind.i64 (IE.var 10), SV.int IntKind.i64 (IE.sub (IE.var 12) (IE.var 10))]),
                                                          (7, [SV.int IntKind.i64 (IE.var 0), SV.int IntKind.i64 (IE.var 1), SV.int IntKind.i64 (IE.var 2), SV.int IntKind.i64 (IE.var 3)])]
                                                        (VC.leaf 1 [SV.int IntKind.i64 (IE.var 12), SV.var 14] []
                                                          [(13, [SV.int IntKind.i64 (IE.var 10), SV.int IntKind.i64 (IE.sub (IE.var 12) (IE.var 10))]),
                                                            (7, [SV.int IntKind.i64 (IE.var 0), SV.int IntKind.i64 (IE.var 1), SV.int IntKind.i64 (IE.var 2), SV.int IntKind.i64 (IE.var 3)])])))))
                                                (VC.loop 3 [SV.int IntKind.i64 (IE.var 10), SV.var 11] [Base.int IntKind.i64, Base.slice] [] [7]
                                                  [(7, [SV.int IntKind.i64 (IE.var 0), SV.int IntKind.i64 (IE.var 1), SV.int IntKind.i64 (IE.var 2), SV.int IntKind.i64 (IE.var 3)])]
                                                  [(7, [SV.int IntKind.i64 (IE.var 0), SV.int IntKind.i64 (IE.var 1), SV.int IntKind.i64 (IE.var 2), SV.int IntKind.i64 (IE.var 3)])]
                                                  (VC.split (BE.lt (IE.var 13) (IE.var 12))
                                                    (VC.blk
                                                      (VC.gen
                                                        (Op.call
                                                          { callee := Callee.builtin Builtin.append, args := { toList := [Operand.tmp 78, Operand.tmp 81] }, argTypes := { toList := [25, 25] } })
                                                        25 [(Operand.tmp 78, SV.var 14), (Operand.tmp 81, SV.slc 15 0 1 1)] [Base.slice] (SV.var 16) [] false [] [] [15, 7]
                                                        [(15, [SV.int IntKind.i64 (IE.var 13), SV.int IntKind.i64 (IE.lit 1)]),
                                                          (7, [SV.int IntKind.i64 (IE.var 0), SV.int IntKind.i64 (IE.var 1), SV.int IntKind.i64 (IE.var 2), SV.int IntKind.i64 (IE.var 3)])]
                                                        (VC.ob (BE.le (IE.lit (-9223372036854775808)) (IE.add (IE.var 13) (IE.lit 1)))
                                                          (VC.ob (BE.le (IE.add (IE.var 13) (IE.lit 1)) (IE.lit 9223372036854775807))
                                                            (VC.leaf 3 [SV.int IntKind.i64 (IE.add (IE.var 13) (IE.lit 1)), SV.var 16] []
                                                              [(15, [SV.int IntKind.i64 (IE.var 13), SV.int IntKind.i64 (IE.lit 1)]),
                                                                (7, [SV.int IntKind.i64 (IE.var 0), SV.int IntKind.i64 (IE.var 1), SV.int IntKind.i64 (IE.var 2), SV.int IntKind.i64 (IE.var 3)])])))))
                                                    (VC.leaf 1 [SV.int IntKind.i64 (IE.var 12), SV.var 14] []
                                                      [(7, [SV.int IntKind.i64 (IE.var 0), SV.int IntKind.i64 (IE.var 1), SV.int IntKind.i64 (IE.var 2), SV.int IntKind.i64 (IE.var 3)])])))))))))))
                                (VC.ob (BE.le (IE.lit (-9223372036854775808)) (IE.sub (IE.var 12) (IE.var 10)))
                                  (VC.ob (BE.le (IE.sub (IE.var 12) (IE.var 10)) (IE.lit 9223372036854775807))
                                    (VC.split (BE.le (IE.sub (IE.var 12) (IE.var 10)) (IE.var 1))
                                      (VC.ob (BE.le (IE.lit (-9223372036854775808)) (IE.sub (IE.var 12) (IE.var 10)))
                                        (VC.ob (BE.le (IE.sub (IE.var 12) (IE.var 10)) (IE.lit 9223372036854775807))
                                          (VC.blk
                                            (VC.gen (Op.call { callee := Callee.builtin Builtin.append, args := { toList := [Operand.tmp 64, Operand.tmp 70] }, argTypes := { toList := [25, 25] } }) 25
                                              [(Operand.tmp 64, SV.var 11), (Operand.tmp 70, SV.slc 13 0 1 1)] [Base.slice] (SV.var 14) [] false [] [] [13, 7]
                                              [(13, [SV.int IntKind.i64 (IE.var 10), SV.int IntKind.i64 (IE.sub (IE.var 12) (IE.var 10))]),
                                                (7, [SV.int IntKind.i64 (IE.var 0), SV.int IntKind.i64 (IE.var 1), SV.int IntKind.i64 (IE.var 2), SV.int IntKind.i64 (IE.var 3)])]
                                              (VC.leaf 1 [SV.int IntKind.i64 (IE.var 12), SV.var 14] []
                                                [(13, [SV.int IntKind.i64 (IE.var 10), SV.int IntKind.i64 (IE.sub (IE.var 12) (IE.var 10))]),
                                                  (7, [SV.int IntKind.i64 (IE.var 0), SV.int IntKind.i64 (IE.var 1), SV.int IntKind.i64 (IE.var 2), SV.int IntKind.i64 (IE.var 3)])])))))
                                      (VC.loop 3 [SV.int IntKind.i64 (IE.var 10), SV.var 11] [Base.int IntKind.i64, Base.slice] [] [7]
                                        [(7, [SV.int IntKind.i64 (IE.var 0), SV.int IntKind.i64 (IE.var 1), SV.int IntKind.i64 (IE.var 2), SV.int IntKind.i64 (IE.var 3)])]
                                        [(7, [SV.int IntKind.i64 (IE.var 0), SV.int IntKind.i64 (IE.var 1), SV.int IntKind.i64 (IE.var 2), SV.int IntKind.i64 (IE.var 3)])]
                                        (VC.split (BE.lt (IE.var 13) (IE.var 12))
                                          (VC.blk
                                            (VC.gen (Op.call { callee := Callee.builtin Builtin.append, args := { toList := [Operand.tmp 78, Operand.tmp 81] }, argTypes := { toList := [25, 25] } }) 25
                                              [(Operand.tmp 78, SV.var 14), (Operand.tmp 81, SV.slc 15 0 1 1)] [Base.slice] (SV.var 16) [] false [] [] [15, 7]
                                              [(15, [SV.int IntKind.i64 (IE.var 13), SV.int IntKind.i64 (IE.lit 1)]),
                                                (7, [SV.int IntKind.i64 (IE.var 0), SV.int IntKind.i64 (IE.var 1), SV.int IntKind.i64 (IE.var 2), SV.int IntKind.i64 (IE.var 3)])]
                                              (VC.ob (BE.le (IE.lit (-9223372036854775808)) (IE.add (IE.var 13) (IE.lit 1)))
                                                (VC.ob (BE.le (IE.add (IE.var 13) (IE.lit 1)) (IE.lit 9223372036854775807))
                                                  (VC.leaf 3 [SV.int IntKind.i64 (IE.add (IE.var 13) (IE.lit 1)), SV.var 16] []
                                                    [(15, [SV.int IntKind.i64 (IE.var 13), SV.int IntKind.i64 (IE.lit 1)]),
                                                      (7, [SV.int IntKind.i64 (IE.var 0), SV.int IntKind.i64 (IE.var 1), SV.int IntKind.i64 (IE.var 2), SV.int IntKind.i64 (IE.var 3)])])))))
                                          (VC.leaf 1 [SV.int IntKind.i64 (IE.var 12), SV.var 14] []
                                            [(7, [SV.int IntKind.i64 (IE.var 0), SV.int IntKind.i64 (IE.var 1), SV.int IntKind.i64 (IE.var 2), SV.int IntKind.i64 (IE.var 3)])]))))))))))))
                    (VC.leaf 0 [SV.tuple [SV.var 11, SV.int IntKind.i64 (IE.lit 0)]] []
                      [(7, [SV.int IntKind.i64 (IE.var 0), SV.int IntKind.i64 (IE.var 1), SV.int IntKind.i64 (IE.var 2), SV.int IntKind.i64 (IE.var 3)])])))))
            (VC.loop 1 [SV.int IntKind.i64 (IE.var 4), SV.cst (Value.slice none 0 0)] [Base.int IntKind.i64, Base.slice] [] [7]
              [(7, [SV.int IntKind.i64 (IE.var 0), SV.int IntKind.i64 (IE.var 1), SV.int IntKind.i64 (IE.var 2), SV.int IntKind.i64 (IE.var 3)])]
              [(7, [SV.int IntKind.i64 (IE.var 0), SV.int IntKind.i64 (IE.var 1), SV.int IntKind.i64 (IE.var 2), SV.int IntKind.i64 (IE.var 3)])]
              (VC.ob (BE.le (IE.lit (-9223372036854775808)) (IE.add (IE.var 4) (IE.var 5)))
                (VC.ob (BE.le (IE.add (IE.var 4) (IE.var 5)) (IE.lit 9223372036854775807))
                  (VC.split (BE.lt (IE.var 10) (IE.add (IE.var 4) (IE.var 5)))
                    (VC.ob (BE.le (IE.lit (-9223372036854775808)) (IE.add (IE.var 10) (IE.lit 1)))
                      (VC.ob (BE.le (IE.add (IE.var 10) (IE.lit 1)) (IE.lit 9223372036854775807))
                        (VC.loop 2 [SV.int IntKind.i64 (IE.add (IE.var 10) (IE.lit 1))] [Base.int IntKind.i64] [] [7]
                          [(7, [SV.int IntKind.i64 (IE.var 0), SV.int IntKind.i64 (IE.var 1), SV.int IntKind.i64 (IE.var 2), SV.int IntKind.i64 (IE.var 3)])]
                          [(7, [SV.int IntKind.i64 (IE.var 0), SV.int IntKind.i64 (IE.var 1), SV.int IntKind.i64 (IE.var 2), SV.int IntKind.i64 (IE.var 3)])]
                          (VC.ob (BE.le (IE.lit (-9223372036854775808)) (IE.add (IE.var 4) (IE.var 5)))
                            (VC.ob (BE.le (IE.add (IE.var 4) (IE.var 5)) (IE.lit 9223372036854775807))
                              (VC.split (BE.lt (IE.var 12) (IE.add (IE.var 4) (IE.var 5)))
                                (VC.split (BE.eq (IE.var 2) (IE.lit 0))
                                  (VC.ob (BE.le (IE.lit (-9223372036854775808)) (IE.add (IE.var 12) (IE.lit 1)))
                                    (VC.ob (BE.le (IE.add (IE.var 12) (IE.lit 1)) (IE.lit 9223372036854775807))
                                      (VC.leaf 2 [SV.int IntKind.i64 (IE.add (IE.var 12) (IE.lit 1))] []
                                        [(7, [SV.int IntKind.i64 (IE.var 0), SV.int IntKind.i64 (IE.var 1), SV.int IntKind.i64 (IE.var 2), SV.int IntKind.i64 (IE.var 3)])])))
                                  (VC.ob (BE.le (IE.lit (-9223372036854775808)) (IE.sub (IE.var 12) (IE.var 3)))
                                    (VC.ob (BE.le (IE.sub (IE.var 12) (IE.var 3)) (IE.lit 9223372036854775807))
                                      (VC.ob (BE.not (BE.eq (IE.var 2) (IE.lit 0)))
                                        (VC.split (BE.not (BE.eq (IE.rem (IE.sub (IE.var 12) (IE.var 3)) (IE.var 2)) (IE.lit 0)))
                                          (VC.ob (BE.le (IE.lit (-9223372036854775808)) (IE.add (IE.var 12) (IE.lit 1)))
                                            (VC.ob (BE.le (IE.add (IE.var 12) (IE.lit 1)) (IE.lit 9223372036854775807))
                                              (VC.leaf 2 [SV.int IntKind.i64 (IE.add (IE.var 12) (IE.lit 1))] []
                                                [(7, [SV.int IntKind.i64 (IE.var 0), SV.int IntKind.i64 (IE.var 1), SV.int IntKind.i64 (IE.var 2), SV.int IntKind.i64 (IE.var 3)])])))
                                          (VC.ob (BE.le (IE.lit (-9223372036854775808)) (IE.sub (IE.var 12) (IE.var 10)))
                                            (VC.ob (BE.le (IE.sub (IE.var 12) (IE.var 10)) (IE.lit 9223372036854775807))
                                              (VC.split (BE.le (IE.sub (IE.var 12) (IE.var 10)) (IE.var 0))
                                                (VC.ob (BE.le (IE.lit (-9223372036854775808)) (IE.sub (IE.var 12) (IE.var 10)))
                                                  (VC.ob (BE.le (IE.sub (IE.var 12) (IE.var 10)) (IE.lit 9223372036854775807))
                                                    (VC.blk
                                                      (VC.gen
                                                        (Op.call
                                                          { callee := Callee.builtin Builtin.append, args := { toList := [Operand.tmp 64, Operand.tmp 70] }, argTypes := { toList := [25, 25] } })
                                                        25 [(Operand.tmp 64, SV.var 11), (Operand.tmp 70, SV.slc 13 0 1 1)] [Base.slice] (SV.var 14) [] false [] [] [13, 7]
                                                        [(13, [SV.int IntKind.i64 (IE.var 10), SV.int IntKind.i64 (IE.sub (IE.var 12) (IE.var 10))]),
                                                          (7, [SV.int IntKind.i64 (IE.var 0), SV.int IntKind.i64 (IE.var 1), SV.int IntKind.i64 (IE.var 2), SV.int IntKind.i64 (IE.var 3)])]
                                                        (VC.leaf 1 [SV.int IntKind.i64 (IE.var 12), SV.var 14] []
                                                          [(13, [SV.int IntKind.i64 (IE.var 10), SV.int IntKind.i64 (IE.sub (IE.var 12) (IE.var 10))]),
                                                            (7, [SV.int IntKind.i64 (IE.var 0), SV.int IntKind.i64 (IE.var 1), SV.int IntKind.i64 (IE.var 2), SV.int IntKind.i64 (IE.var 3)])])))))
                                                (VC.loop 3 [SV.int IntKind.i64 (IE.var 10), SV.var 11] [Base.int IntKind.i64, Base.slice] [] [7]
                                                  [(7, [SV.int IntKind.i64 (IE.var 0), SV.int IntKind.i64 (IE.var 1), SV.int IntKind.i64 (IE.var 2), SV.int IntKind.i64 (IE.var 3)])]
                                                  [(7, [SV.int IntKind.i64 (IE.var 0), SV.int IntKind.i64 (IE.var 1), SV.int IntKind.i64 (IE.var 2), SV.int IntKind.i64 (IE.var 3)])]
                                                  (VC.split (BE.lt (IE.var 13) (IE.var 12))
                                                    (VC.blk
                                                      (VC.gen
                                                        (Op.call
                                                          { callee := Callee.builtin Builtin.append, args := { toList := [Operand.tmp 78, Operand.tmp 81] }, argTypes := { toList := [25, 25] } })
                                                        25 [(Operand.tmp 78, SV.var 14), (Operand.tmp 81, SV.slc 15 0 1 1)] [Base.slice] (SV.var 16) [] false [] [] [15, 7]
                                                        [(15, [SV.int IntKind.i64 (IE.var 13), SV.int IntKind.i64 (IE.lit 1)]),
                                                          (7, [SV.int IntKind.i64 (IE.var 0), SV.int IntKind.i64 (IE.var 1), SV.int IntKind.i64 (IE.var 2), SV.int IntKind.i64 (IE.var 3)])]
                                                        (VC.ob (BE.le (IE.lit (-9223372036854775808)) (IE.add (IE.var 13) (IE.lit 1)))
                                                          (VC.ob (BE.le (IE.add (IE.var 13) (IE.lit 1)) (IE.lit 9223372036854775807))
                                                            (VC.leaf 3 [SV.int IntKind.i64 (IE.add (IE.var 13) (IE.lit 1)), SV.var 16] []
                                                              [(15, [SV.int IntKind.i64 (IE.var 13), SV.int IntKind.i64 (IE.lit 1)]),
                                                                (7, [SV.int IntKind.i64 (IE.var 0), SV.int IntKind.i64 (IE.var 1), SV.int IntKind.i64 (IE.var 2), SV.int IntKind.i64 (IE.var 3)])])))))
                                                    (VC.leaf 1 [SV.int IntKind.i64 (IE.var 12), SV.var 14] []
                                                      [(7, [SV.int IntKind.i64 (IE.var 0), SV.int IntKind.i64 (IE.var 1), SV.int IntKind.i64 (IE.var 2), SV.int IntKind.i64 (IE.var 3)])])))))))))))
                                (VC.ob (BE.le (IE.lit (-9223372036854775808)) (IE.sub (IE.var 12) (IE.var 10)))
                                  (VC.ob (BE.le (IE.sub (IE.var 12) (IE.var 10)) (IE.lit 9223372036854775807))
                                    (VC.split (BE.le (IE.sub (IE.var 12) (IE.var 10)) (IE.var 0))
                                      (VC.ob (BE.le (IE.lit (-9223372036854775808)) (IE.sub (IE.var 12) (IE.var 10)))
                                        (VC.ob (BE.le (IE.sub (IE.var 12) (IE.var 10)) (IE.lit 9223372036854775807))
                                          (VC.blk
                                            (VC.gen (Op.call { callee := Callee.builtin Builtin.append, args := { toList := [Operand.tmp 64, Operand.tmp 70] }, argTypes := { toList := [25, 25] } }) 25
                                              [(Operand.tmp 64, SV.var 11), (Operand.tmp 70, SV.slc 13 0 1 1)] [Base.slice] (SV.var 14) [] false [] [] [13, 7]
                                              [(13, [SV.int IntKind.i64 (IE.var 10), SV.int IntKind.i64 (IE.sub (IE.var 12) (IE.var 10))]),
                                                (7, [SV.int IntKind.i64 (IE.var 0), SV.int IntKind.i64 (IE.var 1), SV.int IntKind.i64 (IE.var 2), SV.int IntKind.i64 (IE.var 3)])]
                                              (VC.leaf 1 [SV.int IntKind.i64 (IE.var 12), SV.var 14] []
                                                [(13, [SV.int IntKind.i64 (IE.var 10), SV.int IntKind.i64 (IE.sub (IE.var 12) (IE.var 10))]),
                                                  (7, [SV.int IntKind.i64 (IE.var 0), SV.int IntKind.i64 (IE.var 1), SV.int IntKind.i64 (IE.var 2), SV.int IntKind.i64 (IE.var 3)])])))))
                                      (VC.loop 3 [SV.int IntKind.i64 (IE.var 10), SV.var 11] [Base.int IntKind.i64, Base.slice] [] [7]
                                        [(7, [SV.int IntKind.i64 (IE.var 0), SV.int IntKind.i64 (IE.var 1), SV.int IntKind.i64 (IE.var 2), SV.int IntKind.i64 (IE.var 3)])]
                                        [(7, [SV.int IntKind.i64 (IE.var 0), SV.int IntKind.i64 (IE.var 1), SV.int IntKind.i64 (IE.var 2), SV.int IntKind.i64 (IE.var 3)])]
                                        (VC.split (BE.lt (IE.var 13) (IE.var 12))
                                          (VC.blk
                                            (VC.gen (Op.call { callee := Callee.builtin Builtin.append, args := { toList := [Operand.tmp 78, Operand.tmp 81] }, argTypes := { toList := [25, 25] } }) 25
                                              [(Operand.tmp 78, SV.var 14), (Operand.tmp 81, SV.slc 15 0 1 1)] [Base.slice] (SV.var 16) [] false [] [] [15, 7]
                                              [(15, [SV.int IntKind.i64 (IE.var 13), SV.int IntKind.i64 (IE.lit 1)]),
                                                (7, [SV.int IntKind.i64 (IE.var 0), SV.int IntKind.i64 (IE.var 1), SV.int IntKind.i64 (IE.var 2), SV.int IntKind.i64 (IE.var 3)])]
                                              (VC.ob (BE.le (IE.lit (-9223372036854775808)) (IE.add (IE.var 13) (IE.lit 1)))
                                                (VC.ob (BE.le (IE.add (IE.var 13) (IE.lit 1)) (IE.lit 9223372036854775807))
                                                  (VC.leaf 3 [SV.int IntKind.i64 (IE.add (IE.var 13) (IE.lit 1)), SV.var 16] []
                                                    [(15, [SV.int IntKind.i64 (IE.var 13), SV.int IntKind.i64 (IE.lit 1)]),
                                                      (7, [SV.int IntKind.i64 (IE.var 0), SV.int IntKind.i64 (IE.var 1), SV.int IntKind.i64 (IE.var 2), SV.int IntKind.i64 (IE.var 3)])])))))
                                          (VC.leaf 1 [SV.int IntKind.i64 (IE.var 12), SV.var 14] []
                                            [(7, [SV.int IntKind.i64 (IE.var 0), SV.int IntKind.i64 (IE.var 1), SV.int IntKind.i64 (IE.var 2), SV.int IntKind.i64 (IE.var 3)])]))))))))))))
                    (VC.leaf 0 [SV.tuple [SV.var 11, SV.int IntKind.i64 (IE.lit 0)]] []
                      [(7, [SV.int IntKind.i64 (IE.var 0), SV.int IntKind.i64 (IE.var 1), SV.int IntKind.i64 (IE.var 2), SV.int IntKind.i64 (IE.var 3)])])))))))))) := by kernel_rfl

theorem t32 : exFn { P := Try.prog, loops := fun r => if Nat.beq r 4 then some ⟨1, [(5, .int .i64)], []⟩ else none } 32 [.var 0, .var 1] [.slice, .slice] [] =
  VC.split (BE.not (BE.eq (IE.len 0) (IE.len 1))) (VC.leaf 0 [SV.bool (BE.lit false)] [] [])
  (VC.loop 1 [SV.int IntKind.i64 (IE.lit 0)] [Base.int IntKind.i64] [] [] [] []
    (VC.split (BE.lt (IE.var 2) (IE.len 0))
      (VC.start true [] [] []
        (VC.ob (BE.le (IE.lit 0) (IE.var 2))
          (VC.ob (BE.lt (IE.var 2) (IE.len 0))
            (VC.ob (BE.not (BE.nil 0))
              (VC.load (SV.elt 0 0 (IE.var 2) 2 0) [Base.int IntKind.i64, Base.int IntKind.i64]
                (VC.ob (BE.le (IE.lit 0) (IE.var 2))
                  (VC.ob (BE.lt (IE.var 2) (IE.len 1))
                    (VC.ob (BE.not (BE.nil 1))
                      (VC.load (SV.elt 1 0 (IE.var 2) 2 0) [Base.int IntKind.i64, Base.int IntKind.i64]
                        (VC.pur (Op.binOp BinOp.neq 36 (Operand.tmp 20) (Operand.tmp 24) 36) 4
                          [(Operand.tmp 20, SV.agg [SV.int IntKind.i64 (IE.var 3), SV.int IntKind.i64 (IE.var 4)]),
                            (Operand.tmp 24, SV.agg [SV.int IntKind.i64 (IE.var 5), SV.int IntKind.i64 (IE.var 6)])]
                          [Base.bool] (SV.bool (BE.var 7))
                          (VC.split (BE.var 7) (VC.leaf 0 [SV.bool (BE.lit false)] [] [])
                            (VC.ob (BE.le (IE.lit (-9223372036854775808)) (IE.add (IE.var 2) (IE.lit 1)))
                              (VC.ob (BE.le (IE.add (IE.var 2) (IE.lit 1)) (IE.lit 9223372036854775807)) (VC.leaf 1 [SV.int IntKind.i64 (IE.add (IE.var 2) (IE.lit 1))] [] []))))))))))))))
      (VC.leaf 0 [SV.bool (BE.lit true)] [] []))) := by kernel_rfl

theorem t21 : exFn { P := Try.prog } 21 [.var 0] [.ptr] [] =
  VC.blk
  (VC.split (BE.nil 0) (VC.leaf 0 [SV.tuple [SV.int IntKind.i64 (IE.lit 0), SV.int IntKind.i64 (IE.lit 1)]] [] [(1, [SV.var 0])])
    (VC.start false [] [] [(1, [SV.var 0])]
      (VC.load (SV.ptr 0 0) [Base.slice]
        (VC.call 39 [SV.var 2, SV.fn 40 [SV.ptr 1 0]] [Base.int IntKind.i64] (SV.int IntKind.i64 (IE.var 3)) [] false [] [] [1] [(1, [SV.var 0])]
          (VC.split (BE.lt (IE.var 3) (IE.lit 0)) (VC.leaf 0 [SV.tuple [SV.int IntKind.i64 (IE.lit 0), SV.int IntKind.i64 (IE.lit 9)]] [] [(1, [SV.var 0])])
            (VC.start false [] [] [(1, [SV.var 0])]
              (VC.load (SV.ptr 0 0) [Base.slice]
                (VC.ob (BE.le (IE.lit 0) (IE.var 3))
                  (VC.ob (BE.lt (IE.var 3) (IE.len 4))
                    (VC.ob (BE.not (BE.nil 4))
                      (VC.start false [] [] [(1, [SV.var 0])]
                        (VC.load (SV.elt 4 0 (IE.var 3) 4 0) [Base.int IntKind.i64]
                          (VC.leaf 0 [SV.tuple [SV.int IntKind.i64 (IE.var 5), SV.int IntKind.i64 (IE.lit 0)]] [] [(1, [SV.var 0])]))))))))))))) := by kernel_rfl

theorem t16 : exFn { P := Try.prog } 16 [.ptr 0 0, .int .i64 (.var 2), .int .i64 (.var 3), .int .i64 (.var 4), .bool (.var 5)] [.ptr, .slice, .int .i64, .int .i64, .int .i64, .bool] [(0, [.var 1])] =
  VC.call 33 [SV.int IntKind.i64 (IE.var 3), SV.int IntKind.i64 (IE.var 4)] [Base.bool] (SV.bool (BE.var 6)) [] false [] [] [0] [(0, [SV.var 1])]
  (VC.blk
    (VC.call 31 [SV.slc 7 0 2 2] [Base.bool] (SV.bool (BE.var 8)) [] false [] [] [7, 0] [(7, [SV.bool (BE.le (IE.lit 0) (IE.var 2)), SV.bool (BE.var 6)]), (0, [SV.var 1])]
      (VC.split (BE.not (BE.var 8)) (VC.leaf 0 [SV.int IntKind.i64 (IE.lit 2)] [] [(7, [SV.bool (BE.le (IE.lit 0) (IE.var 2)), SV.bool (BE.var 6)]), (0, [SV.var 1])])
        (VC.call 34 [SV.ptr 0 0, SV.int IntKind.i64 (IE.var 2)] [Base.int IntKind.i64] (SV.int IntKind.i64 (IE.var 9)) [] false [] [] [7, 0]
          [(7, [SV.bool (BE.le (IE.lit 0) (IE.var 2)), SV.bool (BE.var 6)]), (0, [SV.var 1])]
          (VC.split (BE.le (IE.lit 0) (IE.var 9)) (VC.leaf 0 [SV.int IntKind.i64 (IE.lit 11)] [] [(7, [SV.bool (BE.le (IE.lit 0) (IE.var 2)), SV.bool (BE.var 6)]), (0, [SV.var 1])])
            (VC.split (BE.le (IE.lit 1024) (IE.len 1)) (VC.leaf 0 [SV.int IntKind.i64 (IE.lit 7)] [] [(7, [SV.bool (BE.le (IE.lit 0) (IE.var 2)), SV.bool (BE.var 6)]), (0, [SV.var 1])])
              (VC.blk
                (VC.gen (Op.call { callee := Callee.builtin Builtin.append, args := { toList := [Operand.tmp 39, Operand.tmp 45] }, argTypes := { toList := [38, 38] } }) 38
                  [(Operand.tmp 39, SV.var 1), (Operand.tmp 45, SV.slc 10 0 1 1)] [Base.slice] (SV.var 11) [] false [] [] [10, 7, 0]
                  [(10, [SV.int IntKind.i64 (IE.var 2), SV.int IntKind.i64 (IE.var 3), SV.int IntKind.i64 (IE.var 4), SV.bool (BE.var 5)]),
                    (7, [SV.bool (BE.le (IE.lit 0) (IE.var 2)), SV.bool (BE.var 6)]), (0, [SV.var 1])]
                  (VC.leaf 0 [SV.int IntKind.i64 (IE.lit 0)] [0]
                    [(10, [SV.int IntKind.i64 (IE.var 2), SV.int IntKind.i64 (IE.var 3), SV.int IntKind.i64 (IE.var 4), SV.bool (BE.var 5)]),
                      (7, [SV.bool (BE.le (IE.lit 0) (IE.var 2)), SV.bool (BE.var 6)]), (0, [SV.var 11])]))))))))) := by kernel_rfl

theorem t17 : exFn { P := Try.prog } 17 [.var 0] [.ptr] [] =
  VC.split (BE.nil 0) (VC.leaf 0 [SV.int IntKind.i64 (IE.lit 0)] [] []) (VC.start false [] [] [] (VC.load (SV.ptr 0 0) [Base.slice] (VC.leaf 0 [SV.int IntKind.i64 (IE.len 1)] [] []))) := by kernel_rfl

theorem t18 : exFn { P := Try.prog } 18 [.var 0, .int .i64 (.var 1), .bool (.var 2), .int .i64 (.var 3)] [.ptr, .int .i64, .bool, .int .i64] [] =
  VC.call 22 [SV.var 0, SV.int IntKind.i64 (IE.var 1)] [Base.bool, Base.int IntKind.i64] (SV.tuple [SV.bool (BE.var 4), SV.int IntKind.i64 (IE.var 5)]) [] false [] [] [] []
  (VC.split (BE.beq (BE.var 4) (BE.var 2))
    (VC.call 15 [SV.int IntKind.i64 (IE.var 5)] [Base.int IntKind.i64] (SV.int IntKind.i64 (IE.var 6)) [] false [] [] [] [] (VC.leaf 0 [SV.bool (BE.eq (IE.var 6) (IE.var 3))] [] []))
    (VC.leaf 0 [SV.bool (BE.lit false)] [] [])) := by kernel_rfl

theorem t19 : exFn { P := Try.prog, muts := fun f => if Nat.beq f 37 then [0] else [] } 19 [.ptr 0 0, .int .i64 (.var 2)] [.ptr, .slice, .int .i64] [(0, [.var 1])] =
  VC.call 35 [SV.ptr 0 0, SV.int IntKind.i64 (IE.var 2)] [Base.int IntKind.i64, Base.int IntKind.i64] (SV.tuple [SV.int IntKind.i64 (IE.var 3), SV.int IntKind.i64 (IE.var 4)]) [] false [] [] [0]
  [(0, [SV.var 1])]
  (VC.split (BE.not (BE.eq (IE.var 4) (IE.lit 0))) (VC.leaf 0 [SV.int IntKind.i64 (IE.var 4)] [] [(0, [SV.var 1])])
    (VC.call 36 [SV.ptr 0 0, SV.int IntKind.i64 (IE.var 3)] [Base.bool] (SV.bool (BE.var 5)) [] false [] [] [0] [(0, [SV.var 1])]
      (VC.split (BE.not (BE.var 5)) (VC.leaf 0 [SV.int IntKind.i64 (IE.lit 8)] [] [(0, [SV.var 1])])
        (VC.call 37 [SV.ptr 0 0, SV.int IntKind.i64 (IE.var 3)] [Base.slice] (SV.tuple []) [(0, [SV.var 6])] false [] [] [] [(0, [SV.var 1])]
          (VC.leaf 0 [SV.int IntKind.i64 (IE.lit 0)] [] [(0, [SV.var 6])]))))) := by kernel_rfl

theorem t22 : exFn { P := Try.prog } 22 [.var 0, .int .i64 (.var 1)] [.ptr, .int .i64] [] =
  VC.call 35 [SV.var 0, SV.int IntKind.i64 (IE.var 1)] [Base.int IntKind.i64, Base.int IntKind.i64] (SV.tuple [SV.int IntKind.i64 (IE.var 2), SV.int IntKind.i64 (IE.var 3)]) [] false [] [] [] []
  (VC.split (BE.eq (IE.var 3) (IE.lit 0))
    (VC.ob (BE.not (BE.nil 0))
      (VC.call 36 [SV.ptr 0 0, SV.int IntKind.i64 (IE.var 2)] [Base.bool] (SV.bool (BE.var 4)) [] false [] [] [] [] (VC.leaf 0 [SV.tuple [SV.bool (BE.var 4), SV.int IntKind.i64 (IE.var 3)]] [] [])))
    (VC.leaf 0 [SV.tuple [SV.bool (BE.lit false), SV.int IntKind.i64 (IE.var 3)]] [] [])) := by kernel_rfl

theorem t37 : exFn { P := Try.prog } 37 [.ptr 0 0, .int .i64 (.var 2)] [.ptr, .slice, .int .i64] [(0, [.var 1])] =
  VC.call 44 [SV.var 1] [Base.slice] (SV.var 3) [] false [] [] [0] [(0, [SV.var 1])]
  (VC.ob (BE.le (IE.lit (-9223372036854775808)) (IE.add (IE.var 2) (IE.lit 1)))
    (VC.ob (BE.le (IE.add (IE.var 2) (IE.lit 1)) (IE.lit 9223372036854775807))
      (VC.call 52 [SV.var 3, SV.int IntKind.i64 (IE.var 2), SV.int IntKind.i64 (IE.add (IE.var 2) (IE.lit 1))] [Base.slice] (SV.var 4) [] false [] [] [0] [(0, [SV.var 1])]
        (VC.leaf 0 [SV.tuple []] [0] [(0, [SV.var 4])])))) := by kernel_rfl

theorem t29 : exFn { P := Try.prog, muts := fun f => if Nat.beq f 37 then [0] else [] } 29 [.ptr 0 0, .int .i64 (.var 2)] [.ptr, .slice, .int .i64] [(0, [.var 1])] =
  VC.call 35 [SV.ptr 0 0, SV.int IntKind.i64 (IE.var 2)] [Base.int IntKind.i64, Base.int IntKind.i64] (SV.tuple [SV.int IntKind.i64 (IE.var 3), SV.int IntKind.i64 (IE.var 4)]) [] false [] [] [0]
  [(0, [SV.var 1])]
  (VC.split (BE.eq (IE.var 4) (IE.lit 0))
    (VC.call 37 [SV.ptr 0 0, SV.int IntKind.i64 (IE.var 3)] [Base.slice] (SV.tuple []) [(0, [SV.var 5])] false [] [] [] [(0, [SV.var 1])]
      (VC.leaf 0 [SV.int IntKind.i64 (IE.var 4)] [] [(0, [SV.var 5])]))
    (VC.leaf 0 [SV.int IntKind.i64 (IE.var 4)] [] [(0, [SV.var 1])])) := by kernel_rfl

theorem t24 : exFn { P := Try.prog } 24 [.var 0] [.ptr] [] =
  VC.split (BE.nil 0) (VC.leaf 0 [SV.cst (Value.pointer none)] [] [])
  (VC.start false [] [] [] (VC.load (SV.ptr 0 0) [Base.slice] (VC.call 44 [SV.var 1] [Base.slice] (SV.var 2) [] false [] [] [] [] (VC.blk (VC.leaf 0 [SV.ptr 3 0] [] [(3, [SV.var 2])]))))) := by kernel_rfl

theorem t44 : exFn { P := Try.prog } 44 [.var 0] [.slice] [] =
  VC.split (BE.nil 0) (VC.leaf 0 [SV.cst (Value.slice none 0 0)] [] [])
  (VC.blk
    (VC.gen (Op.call { callee := Callee.builtin Builtin.append, args := { toList := [Operand.tmp 5, Operand.tmp 6] }, argTypes := { toList := [38, 38] } }) 38
      [(Operand.tmp 5, SV.slc 1 0 0 0), (Operand.tmp 6, SV.var 0)] [Base.slice] (SV.var 2) [] false [] [] [1] [(1, [])] (VC.leaf 0 [SV.var 2] [] [(1, [])]))) := by kernel_rfl

theorem t52 : exFn { P := Try.prog } 52 [.var 0, .int .i64 (.var 1), .int .i64 (.var 2)] [.slice, .int .i64, .int .i64] [] =
  VC.start false [] [] []
  (VC.pur (Op.slice 38 (Operand.tmp 8) (some (Operand.tmp 9)) (some (Operand.tmp 10)) (some (Operand.tmp 12))) 38
    [(Operand.tmp 8, SV.var 0), (Operand.tmp 9, SV.int IntKind.i64 (IE.var 1)), (Operand.tmp 10, SV.int IntKind.i64 (IE.var 2)), (Operand.tmp 12, SV.int IntKind.i64 (IE.len 0))] [Base.slice]
    (SV.var 3)
    (VC.split (BE.eq (IE.var 1) (IE.var 2)) (VC.leaf 0 [SV.var 0] [] [])
      (VC.start true [] [] []
        (VC.pur (Op.slice 38 (Operand.tmp 20) none (some (Operand.tmp 21)) none) 38 [(Operand.tmp 20, SV.var 0), (Operand.tmp 21, SV.int IntKind.i64 (IE.var 1))] [Base.slice] (SV.var 4)
          (VC.pur (Op.slice 38 (Operand.tmp 23) (some (Operand.tmp 24)) none none) 38 [(Operand.tmp 23, SV.var 0), (Operand.tmp 24, SV.int IntKind.i64 (IE.var 2))] [Base.slice] (SV.var 5)
            (VC.gen (Op.call { callee := Callee.builtin Builtin.append, args := { toList := [Operand.tmp 22, Operand.tmp 25] }, argTypes := { toList := [38, 38] } }) 38
              [(Operand.tmp 22, SV.var 4), (Operand.tmp 25, SV.var 5)] [Base.slice] (SV.var 6) [] true [] [] [] []
              (VC.start false [] [] []
                (VC.pur (Op.slice 38 (Operand.tmp 27) (some (Operand.tmp 29)) (some (Operand.tmp 30)) none) 38
                  [(Operand.tmp 27, SV.var 6), (Operand.tmp 29, SV.int IntKind.i64 (IE.len 6)), (Operand.tmp 30, SV.int IntKind.i64 (IE.len 0))] [Base.slice] (SV.var 7)
                  (VC.gen (Op.call { callee := Callee.builtin Builtin.clear, args := { toList := [Operand.tmp 31] }, argTypes := { toList := [38] } }) 0 [(Operand.tmp 31, SV.var 7)] [] (SV.tuple [])
                    [] false [] [] [] [] (VC.leaf 0 [SV.var 6] [] [])))))))))) := by kernel_rfl

theorem t47 : exFn { P := Try.prog, loops := fun r => if Nat.beq r 2 then some ⟨1, [(5, .int .i64)], []⟩ else none } 47 [.agg [.var 0], .int .i64 (.var 1)] [.slice, .int .i64] [] =
  VC.blk
  (VC.loop 1 [SV.int IntKind.i64 (IE.lit 0)] [Base.int IntKind.i64] [] [2] [(2, [SV.var 0])] [(2, [SV.var 0])]
    (VC.split (BE.lt (IE.var 3) (IE.len 0))
      (VC.ob (BE.le (IE.lit 0) (IE.var 3))
        (VC.ob (BE.lt (IE.var 3) (IE.len 0))
          (VC.ob (BE.not (BE.nil 0))
            (VC.start false [] [] [(2, [SV.var 0])]
              (VC.load (SV.elt 0 0 (IE.var 3) 4 0) [Base.int IntKind.i64]
                (VC.split (BE.eq (IE.var 4) (IE.var 1)) (VC.leaf 0 [SV.int IntKind.i64 (IE.var 3)] [] [(2, [SV.var 0])])
                  (VC.ob (BE.le (IE.lit (-9223372036854775808)) (IE.add (IE.var 3) (IE.lit 1)))
                    (VC.ob (BE.le (IE.add (IE.var 3) (IE.lit 1)) (IE.lit 9223372036854775807)) (VC.leaf 1 [SV.int IntKind.i64 (IE.add (IE.var 3) (IE.lit 1))] [] [(2, [SV.var 0])])))))))))
      (VC.leaf 0 [SV.int IntKind.i64 (IE.lit (-1))] [] [(2, [SV.var 0])]))) := by kernel_rfl

theorem t27 : exFn { P := Try.prog, loops := fun r => if Nat.beq r 2 then some ⟨1, [(5, .int .i64)], []⟩ else none } 27 [.agg [.var 0], .int .i64 (.var 1)] [.slice, .int .i64] [] =
  VC.blk
  (VC.loop 1 [SV.int IntKind.i64 (IE.lit 0)] [Base.int IntKind.i64] [] [2] [(2, [SV.var 0])] [(2, [SV.var 0])]
    (VC.split (BE.lt (IE.var 3) (IE.var 1))
      (VC.start true [] [2] [(2, [SV.var 0])]
        (VC.ob (BE.le (IE.lit 0) (IE.var 3))
          (VC.ob (BE.lt (IE.var 3) (IE.len 0))
            (VC.ob (BE.not (BE.nil 0))
              (VC.load (SV.elt 0 0 (IE.var 3) 4 0) [Base.int IntKind.i64, Base.int IntKind.i64, Base.int IntKind.i64, Base.bool]
                (VC.ob (BE.le (IE.lit 0) (IE.var 1))
                  (VC.ob (BE.lt (IE.var 1) (IE.len 0))
                    (VC.load (SV.elt 0 0 (IE.var 1) 4 0) [Base.int IntKind.i64, Base.int IntKind.i64, Base.int IntKind.i64, Base.bool]
                      (VC.call 46
                        [SV.agg [SV.int IntKind.i64 (IE.var 4), SV.int IntKind.i64 (IE.var 5), SV.int IntKind.i64 (IE.var 6), SV.bool (BE.var 7)],
                          SV.agg [SV.int IntKind.i64 (IE.var 8), SV.int IntKind.i64 (IE.var 9), SV.int IntKind.i64 (IE.var 10), SV.bool (BE.var 11)]]
                        [Base.bool] (SV.bool (BE.var 12)) [] true [] [] [2] [(2, [SV.var 0])]
                        (VC.split (BE.var 12) (VC.leaf 0 [SV.bool (BE.lit false)] [] [(2, [SV.var 0])])
                          (VC.ob (BE.le (IE.lit (-9223372036854775808)) (IE.add (IE.var 3) (IE.lit 1)))
                            (VC.ob (BE.le (IE.add (IE.var 3) (IE.lit 1)) (IE.lit 9223372036854775807)) (VC.leaf 1 [SV.int IntKind.i64 (IE.add (IE.var 3) (IE.lit 1))] [] [(2, [SV.var 0])])))))))))))))
      (VC.leaf 0 [SV.bool (BE.lit true)] [] [(2, [SV.var 0])]))) := by kernel_rfl

theorem t28 : exFn { P := Try.prog } 28 [.agg [.var 0], .int .i64 (.var 1)] [.slice, .int .i64] [] =
  VC.blk
  (VC.split (BE.lt (IE.var 1) (IE.lit 0)) (VC.leaf 0 [SV.tuple [SV.bool (BE.lit false), SV.int IntKind.i64 (IE.lit 2)]] [] [(2, [SV.var 0])])
    (VC.call 47 [SV.agg [SV.var 0], SV.int IntKind.i64 (IE.var 1)] [Base.int IntKind.i64] (SV.int IntKind.i64 (IE.var 3)) [] false [] [] [2] [(2, [SV.var 0])]
      (VC.split (BE.lt (IE.var 3) (IE.lit 0)) (VC.leaf 0 [SV.tuple [SV.bool (BE.lit false), SV.int IntKind.i64 (IE.lit 9)]] [] [(2, [SV.var 0])])
        (VC.call 27 [SV.agg [SV.var 0], SV.int IntKind.i64 (IE.var 3)] [Base.bool] (SV.bool (BE.var 4)) [] false [] [] [2] [(2, [SV.var 0])]
          (VC.leaf 0 [SV.tuple [SV.bool (BE.var 4), SV.int IntKind.i64 (IE.lit 0)]] [] [(2, [SV.var 0])]))))) := by kernel_rfl

theorem t43 : exFn { P := Try.prog, loops := fun r => if Nat.beq r 2 then some ⟨1, [(4, .int .i64)], []⟩ else none } 43 [.agg [.var 0]] [.slice] [] =
  VC.blk
  (VC.loop 1 [SV.int IntKind.i64 (IE.lit 0)] [Base.int IntKind.i64] [] [1] [(1, [SV.var 0])] [(1, [SV.var 0])]
    (VC.split (BE.lt (IE.var 2) (IE.len 0))
      (VC.call 27 [SV.agg [SV.var 0], SV.int IntKind.i64 (IE.var 2)] [Base.bool] (SV.bool (BE.var 3)) [] false [] [] [1] [(1, [SV.var 0])]
        (VC.split (BE.var 3)
          (VC.ob (BE.le (IE.lit 0) (IE.var 2))
            (VC.ob (BE.lt (IE.var 2) (IE.len 0))
              (VC.ob (BE.not (BE.nil 0))
                (VC.start false [] [] [(1, [SV.var 0])]
                  (VC.load (SV.elt 0 0 (IE.var 2) 4 0) [Base.int IntKind.i64] (VC.leaf 0 [SV.tuple [SV.int IntKind.i64 (IE.var 4), SV.int IntKind.i64 (IE.lit 0)]] [] [(1, [SV.var 0])]))))))
          (VC.ob (BE.le (IE.lit (-9223372036854775808)) (IE.add (IE.var 2) (IE.lit 1)))
            (VC.ob (BE.le (IE.add (IE.var 2) (IE.lit 1)) (IE.lit 9223372036854775807)) (VC.leaf 1 [SV.int IntKind.i64 (IE.add (IE.var 2) (IE.lit 1))] [] [(1, [SV.var 0])])))))
      (VC.leaf 0 [SV.tuple [SV.int IntKind.i64 (IE.lit 0), SV.int IntKind.i64 (IE.lit 9)]] [] [(1, [SV.var 0])]))) := by kernel_rfl

theorem t41 : exFn { P := Try.prog } 41 [.agg [.var 0], .int .i64 (.var 1), .int .i64 (.var 2), .int .i64 (.var 3), .bool (.var 4)] [.slice, .int .i64, .int .i64, .int .i64, .bool] [] =
  VC.blk
  (VC.blk
    (VC.split (BE.lt (IE.var 1) (IE.lit 0)) (VC.leaf 0 [SV.tuple [SV.agg [SV.var 0], SV.int IntKind.i64 (IE.lit 2)]] [6] [(6, [SV.var 0]), (5, [SV.var 0])])
      (VC.call 30 [SV.int IntKind.i64 (IE.var 2), SV.int IntKind.i64 (IE.var 3)] [Base.bool] (SV.bool (BE.var 7)) [] false [] [] [6, 5] [(6, [SV.cst (Value.slice none 0 0)]), (5, [SV.var 0])]
        (VC.split (BE.not (BE.var 7)) (VC.leaf 0 [SV.tuple [SV.agg [SV.var 0], SV.int IntKind.i64 (IE.lit 2)]] [6] [(6, [SV.var 0]), (5, [SV.var 0])])
          (VC.call 47 [SV.agg [SV.var 0], SV.int IntKind.i64 (IE.var 1)] [Base.int IntKind.i64] (SV.int IntKind.i64 (IE.var 8)) [] false [] [] [6, 5]
            [(6, [SV.cst (Value.slice none 0 0)]), (5, [SV.var 0])]
            (VC.split (BE.le (IE.lit 0) (IE.var 8)) (VC.leaf 0 [SV.tuple [SV.agg [SV.var 0], SV.int IntKind.i64 (IE.lit 11)]] [6] [(6, [SV.var 0]), (5, [SV.var 0])])
              (VC.split (BE.le (IE.lit 1024) (IE.len 0)) (VC.leaf 0 [SV.tuple [SV.agg [SV.var 0], SV.int IntKind.i64 (IE.lit 7)]] [6] [(6, [SV.var 0]), (5, [SV.var 0])])
                (VC.blk
                  (VC.gen (Op.call { callee := Callee.builtin Builtin.append, args := { toList := [Operand.tmp 34, Operand.tmp 36] }, argTypes := { toList := [60, 60] } }) 60
                    [(Operand.tmp 34, SV.slc 9 0 0 0), (Operand.tmp 36, SV.var 0)] [Base.slice] (SV.var 10) [] false [] [] [9, 6, 5] [(9, []), (6, [SV.cst (Value.slice none 0 0)]), (5, [SV.var 0])]
                    (VC.blk
                      (VC.gen (Op.call { callee := Callee.builtin Builtin.append, args := { toList := [Operand.tmp 37, Operand.tmp 43] }, argTypes := { toList := [60, 60] } }) 60
                        [(Operand.tmp 37, SV.var 10), (Operand.tmp 43, SV.slc 11 0 1 1)] [Base.slice] (SV.var 12) [] false [] [] [11, 9, 6, 5]
                        [(11, [SV.int IntKind.i64 (IE.var 1), SV.int IntKind.i64 (IE.var 2), SV.int IntKind.i64 (IE.var 3), SV.bool (BE.var 4)]), (9, []), (6, [SV.cst (Value.slice none 0 0)]),
                          (5, [SV.var 0])]
                        (VC.leaf 0 [SV.tuple [SV.agg [SV.var 12], SV.int IntKind.i64 (IE.lit 0)]] [6]
                          [(11, [SV.int IntKind.i64 (IE.var 1), SV.int IntKind.i64 (IE.var 2), SV.int IntKind.i64 (IE.var 3), SV.bool (BE.var 4)]), (9, []), (6, [SV.var 12]),
                            (5, [SV.var 0])])))))))))))) := by kernel_rfl

theorem t42 : exFn { P := Try.prog } 42 [.agg [.var 0], .int .i64 (.var 1), .bool (.var 2)] [.slice, .int .i64, .bool] [] =
  VC.blk
  (VC.blk
    (VC.call 28 [SV.agg [SV.var 0], SV.int IntKind.i64 (IE.var 1)] [Base.bool, Base.int IntKind.i64] (SV.tuple [SV.bool (BE.var 5), SV.int IntKind.i64 (IE.var 6)]) [] false [] [] [4, 3]
      [(4, [SV.cst (Value.slice none 0 0)]), (3, [SV.var 0])]
      (VC.split (BE.not (BE.eq (IE.var 6) (IE.lit 0))) (VC.leaf 0 [SV.tuple [SV.agg [SV.var 0], SV.int IntKind.i64 (IE.var 6)]] [4] [(4, [SV.var 0]), (3, [SV.var 0])])
        (VC.split (BE.not (BE.var 5))
          (VC.split (BE.not (BE.var 2)) (VC.leaf 0 [SV.tuple [SV.agg [SV.var 0], SV.int IntKind.i64 (IE.lit 8)]] [4] [(4, [SV.var 0]), (3, [SV.var 0])])
            (VC.call 47 [SV.agg [SV.var 0], SV.int IntKind.i64 (IE.var 1)] [Base.int IntKind.i64] (SV.int IntKind.i64 (IE.var 7)) [] false [] [] [4, 3]
              [(4, [SV.cst (Value.slice none 0 0)]), (3, [SV.var 0])]
              (VC.start true [] [4, 3] [(4, [SV.cst (Value.slice none 0 0)]), (3, [SV.var 0])]
                (VC.pur (Op.slice 60 (Operand.tmp 33) none (some (Operand.tmp 34)) none) 60 [(Operand.tmp 33, SV.var 0), (Operand.tmp 34, SV.int IntKind.i64 (IE.var 7))] [Base.slice] (SV.var 8)
                  (VC.ob (BE.le (IE.lit (-9223372036854775808)) (IE.add (IE.var 7) (IE.lit 1)))
                    (VC.ob (BE.le (IE.add (IE.var 7) (IE.lit 1)) (IE.lit 9223372036854775807))
                      (VC.pur (Op.slice 60 (Operand.tmp 38) (some (Operand.tmp 40)) none none) 60 [(Operand.tmp 38, SV.var 0), (Operand.tmp 40, SV.int IntKind.i64 (IE.add (IE.var 7) (IE.lit 1)))]
                        [Base.slice] (SV.var 9)
                        (VC.blk
                          (VC.gen (Op.call { callee := Callee.builtin Builtin.append, args := { toList := [Operand.tmp 31, Operand.tmp 35] }, argTypes := { toList := [60, 60] } }) 60
                            [(Operand.tmp 31, SV.slc 10 0 0 0), (Operand.tmp 35, SV.var 8)] [Base.slice] (SV.var 11) [] true [] [] [10, 4, 3]
                            [(10, []), (4, [SV.cst (Value.slice none 0 0)]), (3, [SV.var 0])]
                            (VC.gen (Op.call { callee := Callee.builtin Builtin.append, args := { toList := [Operand.tmp 36, Operand.tmp 41] }, argTypes := { toList := [60, 60] } }) 60
                              [(Operand.tmp 36, SV.var 11), (Operand.tmp 41, SV.var 9)] [Base.slice] (SV.var 12) [] true [] [] [10, 4, 3]
                              [(10, []), (4, [SV.cst (Value.slice none 0 0)]), (3, [SV.var 0])]
                              (VC.leaf 0 [SV.tuple [SV.agg [SV.var 12], SV.int IntKind.i64 (IE.lit 0)]] [4] [(10, []), (4, [SV.var 12]), (3, [SV.var 0])])))))))))))
          (VC.call 47 [SV.agg [SV.var 0], SV.int IntKind.i64 (IE.var 1)] [Base.int IntKind.i64] (SV.int IntKind.i64 (IE.var 7)) [] false [] [] [4, 3]
            [(4, [SV.cst (Value.slice none 0 0)]), (3, [SV.var 0])]
            (VC.start true [] [4, 3] [(4, [SV.cst (Value.slice none 0 0)]), (3, [SV.var 0])]
              (VC.pur (Op.slice 60 (Operand.tmp 33) none (some (Operand.tmp 34)) none) 60 [(Operand.tmp 33, SV.var 0), (Operand.tmp 34, SV.int IntKind.i64 (IE.var 7))] [Base.slice] (SV.var 8)
                (VC.ob (BE.le (IE.lit (-9223372036854775808)) (IE.add (IE.var 7) (IE.lit 1)))
                  (VC.ob (BE.le (IE.add (IE.var 7) (IE.lit 1)) (IE.lit 9223372036854775807))
                    (VC.pur (Op.slice 60 (Operand.tmp 38) (some (Operand.tmp 40)) none none) 60 [(Operand.tmp 38, SV.var 0), (Operand.tmp 40, SV.int IntKind.i64 (IE.add (IE.var 7) (IE.lit 1)))]
                      [Base.slice] (SV.var 9)
                      (VC.blk
                        (VC.gen (Op.call { callee := Callee.builtin Builtin.append, args := { toList := [Operand.tmp 31, Operand.tmp 35] }, argTypes := { toList := [60, 60] } }) 60
                          [(Operand.tmp 31, SV.slc 10 0 0 0), (Operand.tmp 35, SV.var 8)] [Base.slice] (SV.var 11) [] true [] [] [10, 4, 3]
                          [(10, []), (4, [SV.cst (Value.slice none 0 0)]), (3, [SV.var 0])]
                          (VC.gen (Op.call { callee := Callee.builtin Builtin.append, args := { toList := [Operand.tmp 36, Operand.tmp 41] }, argTypes := { toList := [60, 60] } }) 60
                            [(Operand.tmp 36, SV.var 11), (Operand.tmp 41, SV.var 9)] [Base.slice] (SV.var 12) [] true [] [] [10, 4, 3]
                            [(10, []), (4, [SV.cst (Value.slice none 0 0)]), (3, [SV.var 0])]
                            (VC.leaf 0 [SV.tuple [SV.agg [SV.var 12], SV.int IntKind.i64 (IE.lit 0)]] [4] [(10, []), (4, [SV.var 12]), (3, [SV.var 0])])))))))))))))) := by kernel_rfl

theorem t25 : exFn { P := Try.prog } 25 [.var 0] [.ptr] [] =
  VC.call 24 [SV.var 0] [Base.ptr] (SV.var 1) [] false [] [] [] [] (VC.blk (VC.leaf 0 [SV.fn 45 [SV.ptr 2 0]] [2] [(2, [SV.var 1])])) := by kernel_rfl
end Go.Proofs.Ytfjimghpjopgoaa
