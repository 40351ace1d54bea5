/- What the functions of the law FormatPlaces return, each for every argument that its theorem names. No conditions beyond those. -/
import Derived.Test.YtngemhmjpphpaaaSxT
import Derived.Test.YtngemhmjpphpaaaProg
import Derived.KernelRfl
set_option maxRecDepth 100000
set_option linter.unusedVariables false
set_option linter.unusedSimpArgs false
namespace Go.Proofs.Ytngemhmjpphpaaa
open Go.Sx

theorem mix : Try.prog.follows .mixedOrders = true := by kernel_rfl
def pOk (t : Int) (fi : Bool) : Bool := decide (0 ≤ t) && decide (t ≤ 3) && (decide (0 < t) || !fi)
def fOk (z m : Int) (x : Bool) (t : Int) (fi : Bool) : Bool :=
  (decide (z = 512) || decide (z = 4096)) && (decide (m = 0) || decide (m = 8) || decide (m = 16) || decide (m = 64)) && pOk t fi && (decide (0 < m) || (decide (t = 0) && !x))
def per (z m : Int) (x : Bool) (t : Int) (fi : Bool) : Int := if fOk z m x t fi then (4160 : Int).tdiv (z + m) else 0
theorem t52 : exFn { P := Try.prog, loops := fun r => if Nat.beq r 2 then some ⟨1, [(8, .int .i64)], []⟩ else none } 52 [.var 0, .int .i64 (.var 1)] [.slice, .int .i64] [] =
  VC.loop 1 [SV.int IntKind.i64 (IE.lit 0)] [Base.int IntKind.i64] [] [] [] []
  (VC.split (BE.lt (IE.var 2) (IE.len 0))
    (VC.ob (BE.le (IE.lit 0) (IE.var 2))
      (VC.ob (BE.lt (IE.var 2) (IE.len 0))
        (VC.ob (BE.not (BE.nil 0))
          (VC.start false [] [] []
            (VC.load (SV.elt 0 0 (IE.var 2) 1 0) [Base.int IntKind.i64]
              (VC.split (BE.eq (IE.var 1) (IE.var 3)) (VC.leaf 0 [SV.int IntKind.i64 (IE.var 2)] [] [])
                (VC.ob (BE.le (IE.lit (-9223372036854775808)) (IE.add (IE.var 2) (IE.lit 1)))
                  (VC.ob (BE.le (IE.add (IE.var 2) (IE.lit 1)) (IE.lit 9223372036854775807)) (VC.leaf 1 [SV.int IntKind.i64 (IE.add (IE.var 2) (IE.lit 1))] [] [])))))))))
    (VC.leaf 0 [SV.int IntKind.i64 (IE.lit (-1))] [] [])) := by kernel_rfl

theorem t56 : exFn { P := Try.prog, loops := fun r => if Nat.beq r 2 then some ⟨1, [(8, .int .i64)], []⟩ else none } 56 [.var 0, .bool (.var 1)] [.slice, .bool] [] =
  VC.loop 1 [SV.int IntKind.i64 (IE.lit 0)] [Base.int IntKind.i64] [] [] [] []
  (VC.split (BE.lt (IE.var 2) (IE.len 0))
    (VC.ob (BE.le (IE.lit 0) (IE.var 2))
      (VC.ob (BE.lt (IE.var 2) (IE.len 0))
        (VC.ob (BE.not (BE.nil 0))
          (VC.start false [] [] []
            (VC.load (SV.elt 0 0 (IE.var 2) 1 0) [Base.bool]
              (VC.split (BE.beq (BE.var 1) (BE.var 3)) (VC.leaf 0 [SV.int IntKind.i64 (IE.var 2)] [] [])
                (VC.ob (BE.le (IE.lit (-9223372036854775808)) (IE.add (IE.var 2) (IE.lit 1)))
                  (VC.ob (BE.le (IE.add (IE.var 2) (IE.lit 1)) (IE.lit 9223372036854775807)) (VC.leaf 1 [SV.int IntKind.i64 (IE.add (IE.var 2) (IE.lit 1))] [] [])))))))))
    (VC.leaf 0 [SV.int IntKind.i64 (IE.lit (-1))] [] [])) := by kernel_rfl

theorem t36 : exFn { P := Try.prog } 36 [.agg [.int .i64 (.var 0), .bool (.var 1)]] [.int .i64, .bool] [] =
  VC.blk
  (VC.split (BE.eq (IE.shr IntKind.i64 (IE.var 0) (IE.lit 2)) (IE.lit 0))
    (VC.split (BE.lt (IE.lit 0) (IE.var 0)) (VC.leaf 0 [SV.bool (BE.lit true)] [] [(2, [SV.int IntKind.i64 (IE.var 0), SV.bool (BE.var 1)])])
      (VC.leaf 0 [SV.bool (BE.not (BE.var 1))] [] [(2, [SV.int IntKind.i64 (IE.var 0), SV.bool (BE.var 1)])]))
    (VC.leaf 0 [SV.bool (BE.lit false)] [] [(2, [SV.int IntKind.i64 (IE.var 0), SV.bool (BE.var 1)])])) := by kernel_rfl

theorem t37 : exFn { P := Try.prog } 37 [.agg [.int .i64 (.var 0), .bool (.var 1)]] [.int .i64, .bool] [] =
  VC.blk
  (VC.split (BE.le (IE.lit 0) (IE.var 0))
    (VC.split (BE.le (IE.var 0) (IE.lit 3))
      (VC.split (BE.lt (IE.lit 0) (IE.var 0)) (VC.leaf 0 [SV.bool (BE.lit true)] [] [(2, [SV.int IntKind.i64 (IE.var 0), SV.bool (BE.var 1)])])
        (VC.leaf 0 [SV.bool (BE.not (BE.var 1))] [] [(2, [SV.int IntKind.i64 (IE.var 0), SV.bool (BE.var 1)])]))
      (VC.leaf 0 [SV.bool (BE.lit false)] [] [(2, [SV.int IntKind.i64 (IE.var 0), SV.bool (BE.var 1)])]))
    (VC.leaf 0 [SV.bool (BE.lit false)] [] [(2, [SV.int IntKind.i64 (IE.var 0), SV.bool (BE.var 1)])])) := by kernel_rfl

theorem t35 : exFn { P := Try.prog } 35 [.var 0, .int .i64 (.var 1)] [.slice, .int .i64] [] =
  VC.call 52 [SV.var 0, SV.int IntKind.i64 (IE.var 1)] [Base.int IntKind.i64] (SV.int IntKind.i64 (IE.var 2)) [] false [] [] [] [] (VC.leaf 0 [SV.bool (BE.le (IE.lit 0) (IE.var 2))] [] []) := by kernel_rfl

theorem t51 : exFn { P := Try.prog } 51 [.var 0, .bool (.var 1)] [.slice, .bool] [] =
  VC.call 56 [SV.var 0, SV.bool (BE.var 1)] [Base.int IntKind.i64] (SV.int IntKind.i64 (IE.var 2)) [] false [] [] [] [] (VC.leaf 0 [SV.bool (BE.le (IE.lit 0) (IE.var 2))] [] []) := by kernel_rfl

theorem t34 : exFn { P := Try.prog } 34 [.var 0] [.slice] [] =
  VC.call 51 [SV.var 0, SV.bool (BE.lit false)] [Base.bool] (SV.bool (BE.var 1)) [] false [] [] [] [] (VC.leaf 0 [SV.bool (BE.not (BE.var 1))] [] []) := by kernel_rfl

theorem t14 : exFn { P := Try.prog } 14 [.agg [.int .i64 (.var 0), .int .i64 (.var 1), .bool (.var 2), .int .i64 (.var 3), .bool (.var 4)]] [.int .i64, .int .i64, .bool, .int .i64, .bool] [] =
  VC.blk
  (VC.blk
    (VC.blk
      (VC.start true [] [7, 6, 5]
        [(7, [SV.int IntKind.i64 (IE.lit 0), SV.int IntKind.i64 (IE.lit 8), SV.int IntKind.i64 (IE.lit 16), SV.int IntKind.i64 (IE.lit 64)]),
          (6, [SV.int IntKind.i64 (IE.lit 512), SV.int IntKind.i64 (IE.lit 4096)]),
          (5, [SV.int IntKind.i64 (IE.var 0), SV.int IntKind.i64 (IE.var 1), SV.bool (BE.var 2), SV.int IntKind.i64 (IE.var 3), SV.bool (BE.var 4)])]
        (VC.call 35 [SV.slc 6 0 2 2, SV.int IntKind.i64 (IE.var 0)] [Base.bool] (SV.bool (BE.var 8)) [] true [7, 6, 5] [7, 6, 5] [7, 6, 5]
          [(7, [SV.int IntKind.i64 (IE.lit 0), SV.int IntKind.i64 (IE.lit 8), SV.int IntKind.i64 (IE.lit 16), SV.int IntKind.i64 (IE.lit 64)]),
            (6, [SV.int IntKind.i64 (IE.lit 512), SV.int IntKind.i64 (IE.lit 4096)]),
            (5, [SV.int IntKind.i64 (IE.var 0), SV.int IntKind.i64 (IE.var 1), SV.bool (BE.var 2), SV.int IntKind.i64 (IE.var 3), SV.bool (BE.var 4)])]
          (VC.call 35 [SV.slc 7 0 4 4, SV.int IntKind.i64 (IE.var 1)] [Base.bool] (SV.bool (BE.var 9)) [] true [7, 6, 5] [7, 6, 5] [7, 6, 5]
            [(7, [SV.int IntKind.i64 (IE.lit 0), SV.int IntKind.i64 (IE.lit 8), SV.int IntKind.i64 (IE.lit 16), SV.int IntKind.i64 (IE.lit 64)]),
              (6, [SV.int IntKind.i64 (IE.lit 512), SV.int IntKind.i64 (IE.lit 4096)]),
              (5, [SV.int IntKind.i64 (IE.var 0), SV.int IntKind.i64 (IE.var 1), SV.bool (BE.var 2), SV.int IntKind.i64 (IE.var 3), SV.bool (BE.var 4)])]
            (VC.call 36 [SV.agg [SV.int IntKind.i64 (IE.var 3), SV.bool (BE.var 4)]] [Base.bool] (SV.bool (BE.var 10)) [] true [7, 6, 5] [7, 6, 5] [7, 6, 5]
              [(7, [SV.int IntKind.i64 (IE.lit 0), SV.int IntKind.i64 (IE.lit 8), SV.int IntKind.i64 (IE.lit 16), SV.int IntKind.i64 (IE.lit 64)]),
                (6, [SV.int IntKind.i64 (IE.lit 512), SV.int IntKind.i64 (IE.lit 4096)]),
                (5, [SV.int IntKind.i64 (IE.var 0), SV.int IntKind.i64 (IE.var 1), SV.bool (BE.var 2), SV.int IntKind.i64 (IE.var 3), SV.bool (BE.var 4)])]
              (VC.split (BE.lt (IE.lit 0) (IE.var 1))
                (VC.blk
                  (VC.call 34 [SV.slc 11 0 4 4] [Base.bool] (SV.bool (BE.var 12)) [] true [7, 6, 5] [11, 7, 6, 5] [11, 7, 6, 5]
                    [(11, [SV.bool (BE.var 8), SV.bool (BE.var 9), SV.bool (BE.var 10), SV.bool (BE.lit true)]),
                      (7, [SV.int IntKind.i64 (IE.lit 0), SV.int IntKind.i64 (IE.lit 8), SV.int IntKind.i64 (IE.lit 16), SV.int IntKind.i64 (IE.lit 64)]),
                      (6, [SV.int IntKind.i64 (IE.lit 512), SV.int IntKind.i64 (IE.lit 4096)]),
                      (5, [SV.int IntKind.i64 (IE.var 0), SV.int IntKind.i64 (IE.var 1), SV.bool (BE.var 2), SV.int IntKind.i64 (IE.var 3), SV.bool (BE.var 4)])]
                    (VC.leaf 0 [SV.bool (BE.var 12)] [11, 7, 6, 5]
                      [(11, [SV.bool (BE.var 8), SV.bool (BE.var 9), SV.bool (BE.var 10), SV.bool (BE.lit true)]),
                        (7, [SV.int IntKind.i64 (IE.lit 0), SV.int IntKind.i64 (IE.lit 8), SV.int IntKind.i64 (IE.lit 16), SV.int IntKind.i64 (IE.lit 64)]),
                        (6, [SV.int IntKind.i64 (IE.lit 512), SV.int IntKind.i64 (IE.lit 4096)]),
                        (5, [SV.int IntKind.i64 (IE.var 0), SV.int IntKind.i64 (IE.var 1), SV.bool (BE.var 2), SV.int IntKind.i64 (IE.var 3), SV.bool (BE.var 4)])])))
                (VC.split (BE.eq (IE.var 3) (IE.lit 0))
                  (VC.blk
                    (VC.call 34 [SV.slc 11 0 4 4] [Base.bool] (SV.bool (BE.var 12)) [] true [7, 6, 5] [11, 7, 6, 5] [11, 7, 6, 5]
                      [(11, [SV.bool (BE.var 8), SV.bool (BE.var 9), SV.bool (BE.var 10), SV.bool (BE.not (BE.var 2))]),
                        (7, [SV.int IntKind.i64 (IE.lit 0), SV.int IntKind.i64 (IE.lit 8), SV.int IntKind.i64 (IE.lit 16), SV.int IntKind.i64 (IE.lit 64)]),
                        (6, [SV.int IntKind.i64 (IE.lit 512), SV.int IntKind.i64 (IE.lit 4096)]),
                        (5, [SV.int IntKind.i64 (IE.var 0), SV.int IntKind.i64 (IE.var 1), SV.bool (BE.var 2), SV.int IntKind.i64 (IE.var 3), SV.bool (BE.var 4)])]
                      (VC.leaf 0 [SV.bool (BE.var 12)] [11, 7, 6, 5]
                        [(11, [SV.bool (BE.var 8), SV.bool (BE.var 9), SV.bool (BE.var 10), SV.bool (BE.not (BE.var 2))]),
                          (7, [SV.int IntKind.i64 (IE.lit 0), SV.int IntKind.i64 (IE.lit 8), SV.int IntKind.i64 (IE.lit 16), SV.int IntKind.i64 (IE.lit 64)]),
                          (6, [SV.int IntKind.i64 (IE.lit 512), SV.int IntKind.i64 (IE.lit 4096)]),
                          (5, [SV.int IntKind.i64 (IE.var 0), SV.int IntKind.i64 (IE.var 1), SV.bool (BE.var 2), SV.int IntKind.i64 (IE.var 3), SV.bool (BE.var 4)])])))
                  (VC.blk
                    (VC.call 34 [SV.slc 11 0 4 4] [Base.bool] (SV.bool (BE.var 12)) [] true [7, 6, 5] [11, 7, 6, 5] [11, 7, 6, 5]
                      [(11, [SV.bool (BE.var 8), SV.bool (BE.var 9), SV.bool (BE.var 10), SV.bool (BE.lit false)]),
                        (7, [SV.int IntKind.i64 (IE.lit 0), SV.int IntKind.i64 (IE.lit 8), SV.int IntKind.i64 (IE.lit 16), SV.int IntKind.i64 (IE.lit 64)]),
                        (6, [SV.int IntKind.i64 (IE.lit 512), SV.int IntKind.i64 (IE.lit 4096)]),
                        (5, [SV.int IntKind.i64 (IE.var 0), SV.int IntKind.i64 (IE.var 1), SV.bool (BE.var 2), SV.int IntKind.i64 (IE.var 3), SV.bool (BE.var 4)])]
                      (VC.leaf 0 [SV.bool (BE.var 12)] [11, 7, 6, 5]
                        [(11, [SV.bool (BE.var 8), SV.bool (BE.var 9), SV.bool (BE.var 10), SV.bool (BE.lit false)]),
                          (7, [SV.int IntKind.i64 (IE.lit 0), SV.int IntKind.i64 (IE.lit 8), SV.int IntKind.i64 (IE.lit 16), SV.int IntKind.i64 (IE.lit 64)]),
                          (6, [SV.int IntKind.i64 (IE.lit 512), SV.int IntKind.i64 (IE.lit 4096)]),
                          (5, [SV.int IntKind.i64 (IE.var 0), SV.int IntKind.i64 (IE.var 1), SV.bool (BE.var 2), SV.int IntKind.i64 (IE.var 3), SV.bool (BE.var 4)])]))))))))))) := by kernel_rfl

theorem t15 : exFn { P := Try.prog } 15 [.agg [.int .i64 (.var 0), .int .i64 (.var 1), .bool (.var 2), .int .i64 (.var 3), .bool (.var 4)]] [.int .i64, .int .i64, .bool, .int .i64, .bool] [] =
  VC.blk
  (VC.split (BE.not (BE.eq (IE.var 0) (IE.lit 512)))
    (VC.split (BE.not (BE.eq (IE.var 0) (IE.lit 4096)))
      (VC.leaf 0 [SV.bool (BE.lit false)] [] [(5, [SV.int IntKind.i64 (IE.var 0), SV.int IntKind.i64 (IE.var 1), SV.bool (BE.var 2), SV.int IntKind.i64 (IE.var 3), SV.bool (BE.var 4)])])
      (VC.split (BE.not (BE.eq (IE.var 1) (IE.lit 0)))
        (VC.split (BE.not (BE.eq (IE.var 1) (IE.lit 8)))
          (VC.split (BE.not (BE.eq (IE.var 1) (IE.lit 16)))
            (VC.split (BE.not (BE.eq (IE.var 1) (IE.lit 64)))
              (VC.leaf 0 [SV.bool (BE.lit false)] [] [(5, [SV.int IntKind.i64 (IE.var 0), SV.int IntKind.i64 (IE.var 1), SV.bool (BE.var 2), SV.int IntKind.i64 (IE.var 3), SV.bool (BE.var 4)])])
              (VC.call 37 [SV.agg [SV.int IntKind.i64 (IE.var 3), SV.bool (BE.var 4)]] [Base.bool] (SV.bool (BE.var 6)) [] false [] [5] [5]
                [(5, [SV.int IntKind.i64 (IE.var 0), SV.int IntKind.i64 (IE.var 1), SV.bool (BE.var 2), SV.int IntKind.i64 (IE.var 3), SV.bool (BE.var 4)])]
                (VC.split (BE.not (BE.var 6))
                  (VC.leaf 0 [SV.bool (BE.lit false)] [5] [(5, [SV.int IntKind.i64 (IE.var 0), SV.int IntKind.i64 (IE.var 1), SV.bool (BE.var 2), SV.int IntKind.i64 (IE.var 3), SV.bool (BE.var 4)])])
                  (VC.split (BE.lt (IE.lit 0) (IE.var 1))
                    (VC.leaf 0 [SV.bool (BE.lit true)] [5] [(5, [SV.int IntKind.i64 (IE.var 0), SV.int IntKind.i64 (IE.var 1), SV.bool (BE.var 2), SV.int IntKind.i64 (IE.var 3), SV.bool (BE.var 4)])])
                    (VC.split (BE.eq (IE.var 3) (IE.lit 0))
                      (VC.leaf 0 [SV.bool (BE.not (BE.var 2))] [5]
                        [(5, [SV.int IntKind.i64 (IE.var 0), SV.int IntKind.i64 (IE.var 1), SV.bool (BE.var 2), SV.int IntKind.i64 (IE.var 3), SV.bool (BE.var 4)])])
                      (VC.leaf 0 [SV.bool (BE.lit false)] [5]
                        [(5, [SV.int IntKind.i64 (IE.var 0), SV.int IntKind.i64 (IE.var 1), SV.bool (BE.var 2), SV.int IntKind.i64 (IE.var 3), SV.bool (BE.var 4)])]))))))
            (VC.call 37 [SV.agg [SV.int IntKind.i64 (IE.var 3), SV.bool (BE.var 4)]] [Base.bool] (SV.bool (BE.var 6)) [] false [] [5] [5]
              [(5, [SV.int IntKind.i64 (IE.var 0), SV.int IntKind.i64 (IE.var 1), SV.bool (BE.var 2), SV.int IntKind.i64 (IE.var 3), SV.bool (BE.var 4)])]
              (VC.split (BE.not (BE.var 6))
                (VC.leaf 0 [SV.bool (BE.lit false)] [5] [(5, [SV.int IntKind.i64 (IE.var 0), SV.int IntKind.i64 (IE.var 1), SV.bool (BE.var 2), SV.int IntKind.i64 (IE.var 3), SV.bool (BE.var 4)])])
                (VC.split (BE.lt (IE.lit 0) (IE.var 1))
                  (VC.leaf 0 [SV.bool (BE.lit true)] [5] [(5, [SV.int IntKind.i64 (IE.var 0), SV.int IntKind.i64 (IE.var 1), SV.bool (BE.var 2), SV.int IntKind.i64 (IE.var 3), SV.bool (BE.var 4)])])
                  (VC.split (BE.eq (IE.var 3) (IE.lit 0))
                    (VC.leaf 0 [SV.bool (BE.not (BE.var 2))] [5]
                      [(5, [SV.int IntKind.i64 (IE.var 0), SV.int IntKind.i64 (IE.var 1), SV.bool (BE.var 2), SV.int IntKind.i64 (IE.var 3), SV.bool (BE.var 4)])])
                    (VC.leaf 0 [SV.bool (BE.lit false)] [5]
                      [(5, [SV.int IntKind.i64 (IE.var 0), SV.int IntKind.i64 (IE.var 1), SV.bool (BE.var 2), SV.int IntKind.i64 (IE.var 3), SV.bool (BE.var 4)])]))))))
          (VC.call 37 [SV.agg [SV.int IntKind.i64 (IE.var 3), SV.bool (BE.var 4)]] [Base.bool] (SV.bool (BE.var 6)) [] false [] [5] [5]
            [(5, [SV.int IntKind.i64 (IE.var 0), SV.int IntKind.i64 (IE.var 1), SV.bool (BE.var 2), SV.int IntKind.i64 (IE.var 3), SV.bool (BE.var 4)])]
            (VC.split (BE.not (BE.var 6))
              (VC.leaf 0 [SV.bool (BE.lit false)] [5] [(5, [SV.int IntKind.i64 (IE.var 0), SV.int IntKind.i64 (IE.var 1), SV.bool (BE.var 2), SV.int IntKind.i64 (IE.var 3), SV.bool (BE.var 4)])])
              (VC.split (BE.lt (IE.lit 0) (IE.var 1))
                (VC.leaf 0 [SV.bool (BE.lit true)] [5] [(5, [SV.int IntKind.i64 (IE.var 0), SV.int IntKind.i64 (IE.var 1), SV.bool (BE.var 2), SV.int IntKind.i64 (IE.var 3), SV.bool (BE.var 4)])])
                (VC.split (BE.eq (IE.var 3) (IE.lit 0))
                  (VC.leaf 0 [SV.bool (BE.not (BE.var 2))] [5]
                    [(5, [SV.int IntKind.i64 (IE.var 0), SV.int IntKind.i64 (IE.var 1), SV.bool (BE.var 2), SV.int IntKind.i64 (IE.var 3), SV.bool (BE.var 4)])])
                  (VC.leaf 0 [SV.bool (BE.lit false)] [5]
                    [(5, [SV.int IntKind.i64 (IE.var 0), SV.int IntKind.i64 (IE.var 1), SV.bool (BE.var 2), SV.int IntKind.i64 (IE.var 3), SV.bool (BE.var 4)])]))))))
        (VC.call 37 [SV.agg [SV.int IntKind.i64 (IE.var 3), SV.bool (BE.var 4)]] [Base.bool] (SV.bool (BE.var 6)) [] false [] [5] [5]
          [(5, [SV.int IntKind.i64 (IE.var 0), SV.int IntKind.i64 (IE.var 1), SV.bool (BE.var 2), SV.int IntKind.i64 (IE.var 3), SV.bool (BE.var 4)])]
          (VC.split (BE.not (BE.var 6))
            (VC.leaf 0 [SV.bool (BE.lit false)] [5] [(5, [SV.int IntKind.i64 (IE.var 0), SV.int IntKind.i64 (IE.var 1), SV.bool (BE.var 2), SV.int IntKind.i64 (IE.var 3), SV.bool (BE.var 4)])])
            (VC.split (BE.lt (IE.lit 0) (IE.var 1))
              (VC.leaf 0 [SV.bool (BE.lit true)] [5] [(5, [SV.int IntKind.i64 (IE.var 0), SV.int IntKind.i64 (IE.var 1), SV.bool (BE.var 2), SV.int IntKind.i64 (IE.var 3), SV.bool (BE.var 4)])])
              (VC.split (BE.eq (IE.var 3) (IE.lit 0))
                (VC.leaf 0 [SV.bool (BE.not (BE.var 2))] [5]
                  [(5, [SV.int IntKind.i64 (IE.var 0), SV.int IntKind.i64 (IE.var 1), SV.bool (BE.var 2), SV.int IntKind.i64 (IE.var 3), SV.bool (BE.var 4)])])
                (VC.leaf 0 [SV.bool (BE.lit false)] [5]
                  [(5, [SV.int IntKind.i64 (IE.var 0), SV.int IntKind.i64 (IE.var 1), SV.bool (BE.var 2), SV.int IntKind.i64 (IE.var 3), SV.bool (BE.var 4)])])))))))
    (VC.split (BE.not (BE.eq (IE.var 1) (IE.lit 0)))
      (VC.split (BE.not (BE.eq (IE.var 1) (IE.lit 8)))
        (VC.split (BE.not (BE.eq (IE.var 1) (IE.lit 16)))
          (VC.split (BE.not (BE.eq (IE.var 1) (IE.lit 64)))
            (VC.leaf 0 [SV.bool (BE.lit false)] [] [(5, [SV.int IntKind.i64 (IE.var 0), SV.int IntKind.i64 (IE.var 1), SV.bool (BE.var 2), SV.int IntKind.i64 (IE.var 3), SV.bool (BE.var 4)])])
            (VC.call 37 [SV.agg [SV.int IntKind.i64 (IE.var 3), SV.bool (BE.var 4)]] [Base.bool] (SV.bool (BE.var 6)) [] false [] [5] [5]
              [(5, [SV.int IntKind.i64 (IE.var 0), SV.int IntKind.i64 (IE.var 1), SV.bool (BE.var 2), SV.int IntKind.i64 (IE.var 3), SV.bool (BE.var 4)])]
              (VC.split (BE.not (BE.var 6))
                (VC.leaf 0 [SV.bool (BE.lit false)] [5] [(5, [SV.int IntKind.i64 (IE.var 0), SV.int IntKind.i64 (IE.var 1), SV.bool (BE.var 2), SV.int IntKind.i64 (IE.var 3), SV.bool (BE.var 4)])])
                (VC.split (BE.lt (IE.lit 0) (IE.var 1))
                  (VC.leaf 0 [SV.bool (BE.lit true)] [5] [(5, [SV.int IntKind.i64 (IE.var 0), SV.int IntKind.i64 (IE.var 1), SV.bool (BE.var 2), SV.int IntKind.i64 (IE.var 3), SV.bool (BE.var 4)])])
                  (VC.split (BE.eq (IE.var 3) (IE.lit 0))
                    (VC.leaf 0 [SV.bool (BE.not (BE.var 2))] [5]
                      [(5, [SV.int IntKind.i64 (IE.var 0), SV.int IntKind.i64 (IE.var 1), SV.bool (BE.var 2), SV.int IntKind.i64 (IE.var 3), SV.bool (BE.var 4)])])
                    (VC.leaf 0 [SV.bool (BE.lit false)] [5]
                      [(5, [SV.int IntKind.i64 (IE.var 0), SV.int IntKind.i64 (IE.var 1), SV.bool (BE.var 2), SV.int IntKind.i64 (IE.var 3), SV.bool (BE.var 4)])]))))))
          (VC.call 37 [SV.agg [SV.int IntKind.i64 (IE.var 3), SV.bool (BE.var 4)]] [Base.bool] (SV.bool (BE.var 6)) [] false [] [5] [5]
            [(5, [SV.int IntKind.i64 (IE.var 0), SV.int IntKind.i64 (IE.var 1), SV.bool (BE.var 2), SV.int IntKind.i64 (IE.var 3), SV.bool (BE.var 4)])]
            (VC.split (BE.not (BE.var 6))
              (VC.leaf 0 [SV.bool (BE.lit false)] [5] [(5, [SV.int IntKind.i64 (IE.var 0), SV.int IntKind.i64 (IE.var 1), SV.bool (BE.var 2), SV.int IntKind.i64 (IE.var 3), SV.bool (BE.var 4)])])
              (VC.split (BE.lt (IE.lit 0) (IE.var 1))
                (VC.leaf 0 [SV.bool (BE.lit true)] [5] [(5, [SV.int IntKind.i64 (IE.var 0), SV.int IntKind.i64 (IE.var 1), SV.bool (BE.var 2), SV.int IntKind.i64 (IE.var 3), SV.bool (BE.var 4)])])
                (VC.split (BE.eq (IE.var 3) (IE.lit 0))
                  (VC.leaf 0 [SV.bool (BE.not (BE.var 2))] [5]
                    [(5, [SV.int IntKind.i64 (IE.var 0), SV.int IntKind.i64 (IE.var 1), SV.bool (BE.var 2), SV.int IntKind.i64 (IE.var 3), SV.bool (BE.var 4)])])
                  (VC.leaf 0 [SV.bool (BE.lit false)] [5]
                    [(5, [SV.int IntKind.i64 (IE.var 0), SV.int IntKind.i64 (IE.var 1), SV.bool (BE.var 2), SV.int IntKind.i64 (IE.var 3), SV.bool (BE.var 4)])]))))))
        (VC.call 37 [SV.agg [SV.int IntKind.i64 (IE.var 3), SV.bool (BE.var 4)]] [Base.bool] (SV.bool (BE.var 6)) [] false [] [5] [5]
          [(5, [SV.int IntKind.i64 (IE.var 0), SV.int IntKind.i64 (IE.var 1), SV.bool (BE.var 2), SV.int IntKind.i64 (IE.var 3), SV.bool (BE.var 4)])]
          (VC.split (BE.not (BE.var 6))
            (VC.leaf 0 [SV.bool (BE.lit false)] [5] [(5, [SV.int IntKind.i64 (IE.var 0), SV.int IntKind.i64 (IE.var 1), SV.bool (BE.var 2), SV.int IntKind.i64 (IE.var 3), SV.bool (BE.var 4)])])
            (VC.split (BE.lt (IE.lit 0) (IE.var 1))
              (VC.leaf 0 [SV.bool (BE.lit true)] [5] [(5, [SV.int IntKind.i64 (IE.var 0), SV.int IntKind.i64 (IE.var 1), SV.bool (BE.var 2), SV.int IntKind.i64 (IE.var 3), SV.bool (BE.var 4)])])
              (VC.split (BE.eq (IE.var 3) (IE.lit 0))
                (VC.leaf 0 [SV.bool (BE.not (BE.var 2))] [5]
                  [(5, [SV.int IntKind.i64 (IE.var 0), SV.int IntKind.i64 (IE.var 1), SV.bool (BE.var 2), SV.int IntKind.i64 (IE.var 3), SV.bool (BE.var 4)])])
                (VC.leaf 0 [SV.bool (BE.lit false)] [5]
                  [(5, [SV.int IntKind.i64 (IE.var 0), SV.int IntKind.i64 (IE.var 1), SV.bool (BE.var 2), SV.int IntKind.i64 (IE.var 3), SV.bool (BE.var 4)])]))))))
      (VC.call 37 [SV.agg [SV.int IntKind.i64 (IE.var 3), SV.bool (BE.var 4)]] [Base.bool] (SV.bool (BE.var 6)) [] false [] [5] [5]
        [(5, [SV.int IntKind.i64 (IE.var 0), SV.int IntKind.i64 (IE.var 1), SV.bool (BE.var 2), SV.int IntKind.i64 (IE.var 3), SV.bool (BE.var 4)])]
        (VC.split (BE.not (BE.var 6))
          (VC.leaf 0 [SV.bool (BE.lit false)] [5] [(5, [SV.int IntKind.i64 (IE.var 0), SV.int IntKind.i64 (IE.var 1), SV.bool (BE.var 2), SV.int IntKind.i64 (IE.var 3), SV.bool (BE.var 4)])])
          (VC.split (BE.lt (IE.lit 0) (IE.var 1))
            (VC.leaf 0 [SV.bool (BE.lit true)] [5] [(5, [SV.int IntKind.i64 (IE.var 0), SV.int IntKind.i64 (IE.var 1), SV.bool (BE.var 2), SV.int IntKind.i64 (IE.var 3), SV.bool (BE.var 4)])])
            (VC.split (BE.eq (IE.var 3) (IE.lit 0))
              (VC.leaf 0 [SV.bool (BE.not (BE.var 2))] [5] [(5, [SV.int IntKind.i64 (IE.var 0), SV.int IntKind.i64 (IE.var 1), SV.bool (BE.var 2), SV.int IntKind.i64 (IE.var 3), SV.bool (BE.var 4)])])
              (VC.leaf 0 [SV.bool (BE.lit false)] [5]
                [(5, [SV.int IntKind.i64 (IE.var 0), SV.int IntKind.i64 (IE.var 1), SV.bool (BE.var 2), SV.int IntKind.i64 (IE.var 3), SV.bool (BE.var 4)])]))))))) := by kernel_rfl

theorem t16 : exFn { P := Try.prog } 16 [.agg [.int .i64 (.var 0), .int .i64 (.var 1), .bool (.var 2), .int .i64 (.var 3), .bool (.var 4)]] [.int .i64, .int .i64, .bool, .int .i64, .bool] [] =
  VC.blk
  (VC.call 14 [SV.agg [SV.int IntKind.i64 (IE.var 0), SV.int IntKind.i64 (IE.var 1), SV.bool (BE.var 2), SV.int IntKind.i64 (IE.var 3), SV.bool (BE.var 4)]] [Base.bool] (SV.bool (BE.var 6)) [] false
    [] [5] [5] [(5, [SV.int IntKind.i64 (IE.var 0), SV.int IntKind.i64 (IE.var 1), SV.bool (BE.var 2), SV.int IntKind.i64 (IE.var 3), SV.bool (BE.var 4)])]
    (VC.split (BE.not (BE.var 6))
      (VC.leaf 0 [SV.int IntKind.i64 (IE.lit 0)] [5] [(5, [SV.int IntKind.i64 (IE.var 0), SV.int IntKind.i64 (IE.var 1), SV.bool (BE.var 2), SV.int IntKind.i64 (IE.var 3), SV.bool (BE.var 4)])])
      (VC.ob (BE.le (IE.lit (-9223372036854775808)) (IE.add (IE.var 0) (IE.var 1)))
        (VC.ob (BE.le (IE.add (IE.var 0) (IE.var 1)) (IE.lit 9223372036854775807))
          (VC.ob (BE.not (BE.eq (IE.add (IE.var 0) (IE.var 1)) (IE.lit 0)))
            (VC.ob (BE.le (IE.lit (-9223372036854775808)) (IE.quo (IE.lit 4160) (IE.add (IE.var 0) (IE.var 1))))
              (VC.ob (BE.le (IE.quo (IE.lit 4160) (IE.add (IE.var 0) (IE.var 1))) (IE.lit 9223372036854775807))
                (VC.leaf 0 [SV.int IntKind.i64 (IE.quo (IE.lit 4160) (IE.add (IE.var 0) (IE.var 1)))] [5]
                  [(5, [SV.int IntKind.i64 (IE.var 0), SV.int IntKind.i64 (IE.var 1), SV.bool (BE.var 2), SV.int IntKind.i64 (IE.var 3), SV.bool (BE.var 4)])])))))))) := by kernel_rfl

theorem t17 : exFn { P := Try.prog } 17 [.agg [.int .i64 (.var 0), .int .i64 (.var 1), .bool (.var 2), .int .i64 (.var 3), .bool (.var 4)]] [.int .i64, .int .i64, .bool, .int .i64, .bool] [] =
  VC.blk
  (VC.call 15 [SV.agg [SV.int IntKind.i64 (IE.var 0), SV.int IntKind.i64 (IE.var 1), SV.bool (BE.var 2), SV.int IntKind.i64 (IE.var 3), SV.bool (BE.var 4)]] [Base.bool] (SV.bool (BE.var 6)) [] false
    [] [5] [5] [(5, [SV.int IntKind.i64 (IE.var 0), SV.int IntKind.i64 (IE.var 1), SV.bool (BE.var 2), SV.int IntKind.i64 (IE.var 3), SV.bool (BE.var 4)])]
    (VC.split (BE.not (BE.var 6))
      (VC.leaf 0 [SV.int IntKind.i64 (IE.lit 0)] [5] [(5, [SV.int IntKind.i64 (IE.var 0), SV.int IntKind.i64 (IE.var 1), SV.bool (BE.var 2), SV.int IntKind.i64 (IE.var 3), SV.bool (BE.var 4)])])
      (VC.ob (BE.le (IE.lit (-9223372036854775808)) (IE.add (IE.var 0) (IE.var 1)))
        (VC.ob (BE.le (IE.add (IE.var 0) (IE.var 1)) (IE.lit 9223372036854775807))
          (VC.ob (BE.not (BE.eq (IE.add (IE.var 0) (IE.var 1)) (IE.lit 0)))
            (VC.ob (BE.le (IE.lit (-9223372036854775808)) (IE.quo (IE.lit 4160) (IE.add (IE.var 0) (IE.var 1))))
              (VC.ob (BE.le (IE.quo (IE.lit 4160) (IE.add (IE.var 0) (IE.var 1))) (IE.lit 9223372036854775807))
                (VC.leaf 0 [SV.int IntKind.i64 (IE.quo (IE.lit 4160) (IE.add (IE.var 0) (IE.var 1)))] [5]
                  [(5, [SV.int IntKind.i64 (IE.var 0), SV.int IntKind.i64 (IE.var 1), SV.bool (BE.var 2), SV.int IntKind.i64 (IE.var 3), SV.bool (BE.var 4)])])))))))) := by kernel_rfl

theorem t10 : exFn { P := Try.prog } 10 [.agg [.int .i64 (.var 0), .int .i64 (.var 1), .bool (.var 2), .int .i64 (.var 3), .bool (.var 4)], .int .i64 (.var 5)] [.int .i64, .int .i64, .bool, .int .i64, .bool, .int .i64] [] =
  VC.blk
  (VC.call 14 [SV.agg [SV.int IntKind.i64 (IE.var 0), SV.int IntKind.i64 (IE.var 1), SV.bool (BE.var 2), SV.int IntKind.i64 (IE.var 3), SV.bool (BE.var 4)]] [Base.bool] (SV.bool (BE.var 7)) [] false
    [] [6] [6] [(6, [SV.int IntKind.i64 (IE.var 0), SV.int IntKind.i64 (IE.var 1), SV.bool (BE.var 2), SV.int IntKind.i64 (IE.var 3), SV.bool (BE.var 4)])]
    (VC.blk
      (VC.call 34 [SV.slc 8 0 2 2] [Base.bool] (SV.bool (BE.var 9)) [] false [6] [8, 6] [8, 6]
        [(8, [SV.bool (BE.var 7), SV.bool (BE.le (IE.lit 0) (IE.var 5))]),
          (6, [SV.int IntKind.i64 (IE.var 0), SV.int IntKind.i64 (IE.var 1), SV.bool (BE.var 2), SV.int IntKind.i64 (IE.var 3), SV.bool (BE.var 4)])]
        (VC.split (BE.not (BE.var 9))
          (VC.leaf 0 [SV.tuple [SV.int IntKind.i64 (IE.lit 0), SV.int IntKind.i64 (IE.lit 0), SV.int IntKind.i64 (IE.lit 2)]] [8, 6]
            [(8, [SV.bool (BE.var 7), SV.bool (BE.le (IE.lit 0) (IE.var 5))]),
              (6, [SV.int IntKind.i64 (IE.var 0), SV.int IntKind.i64 (IE.var 1), SV.bool (BE.var 2), SV.int IntKind.i64 (IE.var 3), SV.bool (BE.var 4)])])
          (VC.call 16 [SV.agg [SV.int IntKind.i64 (IE.var 0), SV.int IntKind.i64 (IE.var 1), SV.bool (BE.var 2), SV.int IntKind.i64 (IE.var 3), SV.bool (BE.var 4)]] [Base.int IntKind.i64]
            (SV.int IntKind.i64 (IE.var 10)) [] false [8, 6] [8, 6] [8, 6]
            [(8, [SV.bool (BE.var 7), SV.bool (BE.le (IE.lit 0) (IE.var 5))]),
              (6, [SV.int IntKind.i64 (IE.var 0), SV.int IntKind.i64 (IE.var 1), SV.bool (BE.var 2), SV.int IntKind.i64 (IE.var 3), SV.bool (BE.var 4)])]
            (VC.start true [8, 6] [8, 6]
              [(8, [SV.bool (BE.var 7), SV.bool (BE.le (IE.lit 0) (IE.var 5))]),
                (6, [SV.int IntKind.i64 (IE.var 0), SV.int IntKind.i64 (IE.var 1), SV.bool (BE.var 2), SV.int IntKind.i64 (IE.var 3), SV.bool (BE.var 4)])]
              (VC.ob (BE.not (BE.eq (IE.var 10) (IE.lit 0)))
                (VC.ob (BE.le (IE.lit (-9223372036854775808)) (IE.quo (IE.var 5) (IE.var 10)))
                  (VC.ob (BE.le (IE.quo (IE.var 5) (IE.var 10)) (IE.lit 9223372036854775807))
                    (VC.ob (BE.not (BE.eq (IE.var 10) (IE.lit 0)))
                      (VC.leaf 0 [SV.tuple [SV.int IntKind.i64 (IE.quo (IE.var 5) (IE.var 10)), SV.int IntKind.i64 (IE.rem (IE.var 5) (IE.var 10)), SV.int IntKind.i64 (IE.lit 0)]] [8, 6]
                        [(8, [SV.bool (BE.var 7), SV.bool (BE.le (IE.lit 0) (IE.var 5))]),
                          (6, [SV.int IntKind.i64 (IE.var 0), SV.int IntKind.i64 (IE.var 1), SV.bool (BE.var 2), SV.int IntKind.i64 (IE.var 3), SV.bool (BE.var 4)])]))))))))))) := by kernel_rfl

theorem t11 : exFn { P := Try.prog } 11 [.agg [.int .i64 (.var 0), .int .i64 (.var 1), .bool (.var 2), .int .i64 (.var 3), .bool (.var 4)], .int .i64 (.var 5)] [.int .i64, .int .i64, .bool, .int .i64, .bool, .int .i64] [] =
  VC.blk
  (VC.call 15 [SV.agg [SV.int IntKind.i64 (IE.var 0), SV.int IntKind.i64 (IE.var 1), SV.bool (BE.var 2), SV.int IntKind.i64 (IE.var 3), SV.bool (BE.var 4)]] [Base.bool] (SV.bool (BE.var 7)) [] false
    [] [6] [6] [(6, [SV.int IntKind.i64 (IE.var 0), SV.int IntKind.i64 (IE.var 1), SV.bool (BE.var 2), SV.int IntKind.i64 (IE.var 3), SV.bool (BE.var 4)])]
    (VC.split (BE.not (BE.var 7))
      (VC.leaf 0 [SV.tuple [SV.int IntKind.i64 (IE.lit 0), SV.int IntKind.i64 (IE.lit 0), SV.int IntKind.i64 (IE.lit 2)]] [6]
        [(6, [SV.int IntKind.i64 (IE.var 0), SV.int IntKind.i64 (IE.var 1), SV.bool (BE.var 2), SV.int IntKind.i64 (IE.var 3), SV.bool (BE.var 4)])])
      (VC.split (BE.lt (IE.var 5) (IE.lit 0))
        (VC.leaf 0 [SV.tuple [SV.int IntKind.i64 (IE.lit 0), SV.int IntKind.i64 (IE.lit 0), SV.int IntKind.i64 (IE.lit 2)]] [6]
          [(6, [SV.int IntKind.i64 (IE.var 0), SV.int IntKind.i64 (IE.var 1), SV.bool (BE.var 2), SV.int IntKind.i64 (IE.var 3), SV.bool (BE.var 4)])])
        (VC.start true [6] [6] [(6, [SV.int IntKind.i64 (IE.var 0), SV.int IntKind.i64 (IE.var 1), SV.bool (BE.var 2), SV.int IntKind.i64 (IE.var 3), SV.bool (BE.var 4)])]
          (VC.call 17 [SV.agg [SV.int IntKind.i64 (IE.var 0), SV.int IntKind.i64 (IE.var 1), SV.bool (BE.var 2), SV.int IntKind.i64 (IE.var 3), SV.bool (BE.var 4)]] [Base.int IntKind.i64]
            (SV.int IntKind.i64 (IE.var 8)) [] true [6] [6] [6]
            [(6, [SV.int IntKind.i64 (IE.var 0), SV.int IntKind.i64 (IE.var 1), SV.bool (BE.var 2), SV.int IntKind.i64 (IE.var 3), SV.bool (BE.var 4)])]
            (VC.ob (BE.not (BE.eq (IE.var 8) (IE.lit 0)))
              (VC.ob (BE.le (IE.lit (-9223372036854775808)) (IE.quo (IE.var 5) (IE.var 8)))
                (VC.ob (BE.le (IE.quo (IE.var 5) (IE.var 8)) (IE.lit 9223372036854775807))
                  (VC.call 17 [SV.agg [SV.int IntKind.i64 (IE.var 0), SV.int IntKind.i64 (IE.var 1), SV.bool (BE.var 2), SV.int IntKind.i64 (IE.var 3), SV.bool (BE.var 4)]] [Base.int IntKind.i64]
                    (SV.int IntKind.i64 (IE.var 9)) [] true [6] [6] [6]
                    [(6, [SV.int IntKind.i64 (IE.var 0), SV.int IntKind.i64 (IE.var 1), SV.bool (BE.var 2), SV.int IntKind.i64 (IE.var 3), SV.bool (BE.var 4)])]
                    (VC.ob (BE.not (BE.eq (IE.var 9) (IE.lit 0)))
                      (VC.leaf 0 [SV.tuple [SV.int IntKind.i64 (IE.quo (IE.var 5) (IE.var 8)), SV.int IntKind.i64 (IE.rem (IE.var 5) (IE.var 9)), SV.int IntKind.i64 (IE.lit 0)]] [6]
                        [(6, [SV.int IntKind.i64 (IE.var 0), SV.int IntKind.i64 (IE.var 1), SV.bool (BE.var 2), SV.int IntKind.i64 (IE.var 3), SV.bool (BE.var 4)])]))))))))))) := by kernel_rfl

theorem t12 : exFn { P := Try.prog } 12 [.agg [.int .i64 (.var 0), .int .i64 (.var 1), .bool (.var 2), .int .i64 (.var 3), .bool (.var 4)], .int .i64 (.var 5)] [.int .i64, .int .i64, .bool, .int .i64, .bool, .int .i64] [] =
  VC.blk
  (VC.call 10 [SV.agg [SV.int IntKind.i64 (IE.var 0), SV.int IntKind.i64 (IE.var 1), SV.bool (BE.var 2), SV.int IntKind.i64 (IE.var 3), SV.bool (BE.var 4)], SV.int IntKind.i64 (IE.var 5)]
    [Base.int IntKind.i64, Base.int IntKind.i64, Base.int IntKind.i64] (SV.tuple [SV.int IntKind.i64 (IE.var 7), SV.int IntKind.i64 (IE.var 8), SV.int IntKind.i64 (IE.var 9)]) [] false [] [6] [6]
    [(6, [SV.int IntKind.i64 (IE.var 0), SV.int IntKind.i64 (IE.var 1), SV.bool (BE.var 2), SV.int IntKind.i64 (IE.var 3), SV.bool (BE.var 4)])]
    (VC.split (BE.eq (IE.var 9) (IE.lit 0))
      (VC.split (BE.lt (IE.lit 0) (IE.var 8))
        (VC.ob (BE.le (IE.lit (-9223372036854775808)) (IE.add (IE.var 7) (IE.lit 1)))
          (VC.ob (BE.le (IE.add (IE.var 7) (IE.lit 1)) (IE.lit 9223372036854775807))
            (VC.leaf 0 [SV.tuple [SV.int IntKind.i64 (IE.add (IE.var 7) (IE.lit 1)), SV.int IntKind.i64 (IE.var 9)]] [6]
              [(6, [SV.int IntKind.i64 (IE.var 0), SV.int IntKind.i64 (IE.var 1), SV.bool (BE.var 2), SV.int IntKind.i64 (IE.var 3), SV.bool (BE.var 4)])])))
        (VC.leaf 0 [SV.tuple [SV.int IntKind.i64 (IE.var 7), SV.int IntKind.i64 (IE.var 9)]] [6]
          [(6, [SV.int IntKind.i64 (IE.var 0), SV.int IntKind.i64 (IE.var 1), SV.bool (BE.var 2), SV.int IntKind.i64 (IE.var 3), SV.bool (BE.var 4)])]))
      (VC.leaf 0 [SV.tuple [SV.int IntKind.i64 (IE.var 7), SV.int IntKind.i64 (IE.var 9)]] [6]
        [(6, [SV.int IntKind.i64 (IE.var 0), SV.int IntKind.i64 (IE.var 1), SV.bool (BE.var 2), SV.int IntKind.i64 (IE.var 3), SV.bool (BE.var 4)])]))) := by kernel_rfl

theorem t13 : exFn { P := Try.prog } 13 [.agg [.int .i64 (.var 0), .int .i64 (.var 1), .bool (.var 2), .int .i64 (.var 3), .bool (.var 4)], .int .i64 (.var 5)] [.int .i64, .int .i64, .bool, .int .i64, .bool, .int .i64] [] =
  VC.blk
  (VC.call 15 [SV.agg [SV.int IntKind.i64 (IE.var 0), SV.int IntKind.i64 (IE.var 1), SV.bool (BE.var 2), SV.int IntKind.i64 (IE.var 3), SV.bool (BE.var 4)]] [Base.bool] (SV.bool (BE.var 7)) [] false
    [] [6] [6] [(6, [SV.int IntKind.i64 (IE.var 0), SV.int IntKind.i64 (IE.var 1), SV.bool (BE.var 2), SV.int IntKind.i64 (IE.var 3), SV.bool (BE.var 4)])]
    (VC.split (BE.not (BE.var 7))
      (VC.leaf 0 [SV.tuple [SV.int IntKind.i64 (IE.lit 0), SV.int IntKind.i64 (IE.lit 2)]] [6]
        [(6, [SV.int IntKind.i64 (IE.var 0), SV.int IntKind.i64 (IE.var 1), SV.bool (BE.var 2), SV.int IntKind.i64 (IE.var 3), SV.bool (BE.var 4)])])
      (VC.split (BE.lt (IE.var 5) (IE.lit 0))
        (VC.leaf 0 [SV.tuple [SV.int IntKind.i64 (IE.lit 0), SV.int IntKind.i64 (IE.lit 2)]] [6]
          [(6, [SV.int IntKind.i64 (IE.var 0), SV.int IntKind.i64 (IE.var 1), SV.bool (BE.var 2), SV.int IntKind.i64 (IE.var 3), SV.bool (BE.var 4)])])
        (VC.call 17 [SV.agg [SV.int IntKind.i64 (IE.var 0), SV.int IntKind.i64 (IE.var 1), SV.bool (BE.var 2), SV.int IntKind.i64 (IE.var 3), SV.bool (BE.var 4)]] [Base.int IntKind.i64]
          (SV.int IntKind.i64 (IE.var 8)) [] false [6] [6] [6]
          [(6, [SV.int IntKind.i64 (IE.var 0), SV.int IntKind.i64 (IE.var 1), SV.bool (BE.var 2), SV.int IntKind.i64 (IE.var 3), SV.bool (BE.var 4)])]
          (VC.ob (BE.not (BE.eq (IE.var 8) (IE.lit 0)))
            (VC.ob (BE.le (IE.lit (-9223372036854775808)) (IE.quo (IE.var 5) (IE.var 8)))
              (VC.ob (BE.le (IE.quo (IE.var 5) (IE.var 8)) (IE.lit 9223372036854775807))
                (VC.call 17 [SV.agg [SV.int IntKind.i64 (IE.var 0), SV.int IntKind.i64 (IE.var 1), SV.bool (BE.var 2), SV.int IntKind.i64 (IE.var 3), SV.bool (BE.var 4)]] [Base.int IntKind.i64]
                  (SV.int IntKind.i64 (IE.var 9)) [] false [6] [6] [6]
                  [(6, [SV.int IntKind.i64 (IE.var 0), SV.int IntKind.i64 (IE.var 1), SV.bool (BE.var 2), SV.int IntKind.i64 (IE.var 3), SV.bool (BE.var 4)])]
                  (VC.ob (BE.not (BE.eq (IE.var 9) (IE.lit 0)))
                    (VC.split (BE.lt (IE.lit 0) (IE.rem (IE.var 5) (IE.var 9)))
                      (VC.ob (BE.le (IE.lit (-9223372036854775808)) (IE.add (IE.quo (IE.var 5) (IE.var 8)) (IE.lit 1)))
                        (VC.ob (BE.le (IE.add (IE.quo (IE.var 5) (IE.var 8)) (IE.lit 1)) (IE.lit 9223372036854775807))
                          (VC.leaf 0 [SV.tuple [SV.int IntKind.i64 (IE.add (IE.quo (IE.var 5) (IE.var 8)) (IE.lit 1)), SV.int IntKind.i64 (IE.lit 0)]] [6]
                            [(6, [SV.int IntKind.i64 (IE.var 0), SV.int IntKind.i64 (IE.var 1), SV.bool (BE.var 2), SV.int IntKind.i64 (IE.var 3), SV.bool (BE.var 4)])])))
                      (VC.leaf 0 [SV.tuple [SV.int IntKind.i64 (IE.quo (IE.var 5) (IE.var 8)), SV.int IntKind.i64 (IE.lit 0)]] [6]
                        [(6, [SV.int IntKind.i64 (IE.var 0), SV.int IntKind.i64 (IE.var 1), SV.bool (BE.var 2), SV.int IntKind.i64 (IE.var 3), SV.bool (BE.var 4)])]))))))))))) := by kernel_rfl

theorem t18 : exFn { P := Try.prog } 18 [.int .i64 (.var 0)] [.int .i64] [] =
  VC.leaf 0 [SV.int IntKind.i64 (IE.var 0)] [] [] := by kernel_rfl

theorem t38 : exFn { P := Try.prog } 38 [] [] [] =
  VC.blk
  (VC.leaf 0 [SV.agg [SV.int IntKind.i64 (IE.lit 512), SV.int IntKind.i64 (IE.lit 8), SV.bool (BE.lit false), SV.int IntKind.i64 (IE.lit 1), SV.bool (BE.lit false)]] []
    [(0, [SV.int IntKind.i64 (IE.lit 512), SV.int IntKind.i64 (IE.lit 8), SV.bool (BE.lit false), SV.int IntKind.i64 (IE.lit 1), SV.bool (BE.lit false)])]) := by kernel_rfl

theorem t39 : exFn { P := Try.prog } 39 [.agg [.int .i64 (.var 0), .int .i64 (.var 1), .bool (.var 2), .int .i64 (.var 3), .bool (.var 4)], .int .i64 (.var 5), .bool (.var 6)] [.int .i64, .int .i64, .bool, .int .i64, .bool, .int .i64, .bool] [] =
  VC.blk
  (VC.blk
    (VC.blk
      (VC.call 14 [SV.agg [SV.int IntKind.i64 (IE.var 0), SV.int IntKind.i64 (IE.var 1), SV.bool (BE.var 2), SV.int IntKind.i64 (IE.var 3), SV.bool (BE.var 4)]] [Base.bool] (SV.bool (BE.var 10)) []
        false [] [9, 8, 7] [9, 8, 7]
        [(9, [SV.int IntKind.i64 (IE.var 0), SV.int IntKind.i64 (IE.var 1), SV.bool (BE.var 2), SV.int IntKind.i64 (IE.var 3), SV.bool (BE.var 4), SV.int IntKind.i64 (IE.var 1)]),
          (8, [SV.int IntKind.i64 (IE.lit 0), SV.int IntKind.i64 (IE.lit 0), SV.bool (BE.lit false), SV.int IntKind.i64 (IE.lit 0), SV.bool (BE.lit false), SV.int IntKind.i64 (IE.lit 0)]),
          (7, [SV.int IntKind.i64 (IE.var 0), SV.int IntKind.i64 (IE.var 1), SV.bool (BE.var 2), SV.int IntKind.i64 (IE.var 3), SV.bool (BE.var 4)])]
        (VC.split (BE.not (BE.var 6))
          (VC.blk
            (VC.call 34 [SV.slc 11 0 4 4] [Base.bool] (SV.bool (BE.var 12)) [] false [9, 8, 7] [11, 9, 8, 7] [11, 9, 8, 7]
              [(11, [SV.bool (BE.var 10), SV.bool (BE.le (IE.lit 0) (IE.var 5)), SV.bool (BE.le (IE.var 5) (IE.lit 65536)), SV.bool (BE.lit true)]),
                (9, [SV.int IntKind.i64 (IE.var 0), SV.int IntKind.i64 (IE.var 1), SV.bool (BE.var 2), SV.int IntKind.i64 (IE.var 3), SV.bool (BE.var 4), SV.int IntKind.i64 (IE.var 1)]),
                (8, [SV.int IntKind.i64 (IE.lit 0), SV.int IntKind.i64 (IE.lit 0), SV.bool (BE.lit false), SV.int IntKind.i64 (IE.lit 0), SV.bool (BE.lit false), SV.int IntKind.i64 (IE.lit 0)]),
                (7, [SV.int IntKind.i64 (IE.var 0), SV.int IntKind.i64 (IE.var 1), SV.bool (BE.var 2), SV.int IntKind.i64 (IE.var 3), SV.bool (BE.var 4)])]
              (VC.split (BE.not (BE.var 12))
                (VC.leaf 0
                  [SV.tuple
                      [SV.agg
                          [SV.int IntKind.i64 (IE.lit 0), SV.int IntKind.i64 (IE.lit 0), SV.bool (BE.lit false), SV.int IntKind.i64 (IE.lit 0), SV.bool (BE.lit false), SV.int IntKind.i64 (IE.lit 0)],
                        SV.int IntKind.i64 (IE.lit 2)]]
                  [11, 9, 8, 7]
                  [(11, [SV.bool (BE.var 10), SV.bool (BE.le (IE.lit 0) (IE.var 5)), SV.bool (BE.le (IE.var 5) (IE.lit 65536)), SV.bool (BE.lit true)]),
                    (9, [SV.int IntKind.i64 (IE.var 0), SV.int IntKind.i64 (IE.var 1), SV.bool (BE.var 2), SV.int IntKind.i64 (IE.var 3), SV.bool (BE.var 4), SV.int IntKind.i64 (IE.var 1)]),
                    (8, [SV.int IntKind.i64 (IE.lit 0), SV.int IntKind.i64 (IE.lit 0), SV.bool (BE.lit false), SV.int IntKind.i64 (IE.lit 0), SV.bool (BE.lit false), SV.int IntKind.i64 (IE.lit 0)]),
                    (7, [SV.int IntKind.i64 (IE.var 0), SV.int IntKind.i64 (IE.var 1), SV.bool (BE.var 2), SV.int IntKind.i64 (IE.var 3), SV.bool (BE.var 4)])])
                (VC.split (BE.var 6)
                  (VC.split (BE.eq (IE.var 1) (IE.lit 8))
                    (VC.leaf 0
                      [SV.tuple
                          [SV.agg [SV.int IntKind.i64 (IE.var 0), SV.int IntKind.i64 (IE.var 1), SV.bool (BE.var 2), SV.int IntKind.i64 (IE.var 3), SV.bool (BE.var 4), SV.int IntKind.i64 (IE.lit 0)],
                            SV.int IntKind.i64 (IE.lit 0)]]
                      [11, 9, 8, 7]
                      [(11, [SV.bool (BE.var 10), SV.bool (BE.le (IE.lit 0) (IE.var 5)), SV.bool (BE.le (IE.var 5) (IE.lit 65536)), SV.bool (BE.lit true)]),
                        (9, [SV.int IntKind.i64 (IE.var 0), SV.int IntKind.i64 (IE.var 1), SV.bool (BE.var 2), SV.int IntKind.i64 (IE.var 3), SV.bool (BE.var 4), SV.int IntKind.i64 (IE.lit 0)]),
                        (8, [SV.int IntKind.i64 (IE.var 0), SV.int IntKind.i64 (IE.var 1), SV.bool (BE.var 2), SV.int IntKind.i64 (IE.var 3), SV.bool (BE.var 4), SV.int IntKind.i64 (IE.lit 0)]),
                        (7, [SV.int IntKind.i64 (IE.var 0), SV.int IntKind.i64 (IE.var 1), SV.bool (BE.var 2), SV.int IntKind.i64 (IE.var 3), SV.bool (BE.var 4)])])
                    (VC.leaf 0
                      [SV.tuple
                          [SV.agg [SV.int IntKind.i64 (IE.var 0), SV.int IntKind.i64 (IE.var 1), SV.bool (BE.var 2), SV.int IntKind.i64 (IE.var 3), SV.bool (BE.var 4), SV.int IntKind.i64 (IE.var 1)],
                            SV.int IntKind.i64 (IE.lit 0)]]
                      [11, 9, 8, 7]
                      [(11, [SV.bool (BE.var 10), SV.bool (BE.le (IE.lit 0) (IE.var 5)), SV.bool (BE.le (IE.var 5) (IE.lit 65536)), SV.bool (BE.lit true)]),
                        (9, [SV.int IntKind.i64 (IE.var 0), SV.int IntKind.i64 (IE.var 1), SV.bool (BE.var 2), SV.int IntKind.i64 (IE.var 3), SV.bool (BE.var 4), SV.int IntKind.i64 (IE.var 1)]),
                        (8, [SV.int IntKind.i64 (IE.var 0), SV.int IntKind.i64 (IE.var 1), SV.bool (BE.var 2), SV.int IntKind.i64 (IE.var 3), SV.bool (BE.var 4), SV.int IntKind.i64 (IE.var 1)]),
                        (7, [SV.int IntKind.i64 (IE.var 0), SV.int IntKind.i64 (IE.var 1), SV.bool (BE.var 2), SV.int IntKind.i64 (IE.var 3), SV.bool (BE.var 4)])]))
                  (VC.leaf 0
                    [SV.tuple
                        [SV.agg [SV.int IntKind.i64 (IE.var 0), SV.int IntKind.i64 (IE.var 1), SV.bool (BE.var 2), SV.int IntKind.i64 (IE.var 3), SV.bool (BE.var 4), SV.int IntKind.i64 (IE.var 1)],
                          SV.int IntKind.i64 (IE.lit 0)]]
                    [11, 9, 8, 7]
                    [(11, [SV.bool (BE.var 10), SV.bool (BE.le (IE.lit 0) (IE.var 5)), SV.bool (BE.le (IE.var 5) (IE.lit 65536)), SV.bool (BE.lit true)]),
                      (9, [SV.int IntKind.i64 (IE.var 0), SV.int IntKind.i64 (IE.var 1), SV.bool (BE.var 2), SV.int IntKind.i64 (IE.var 3), SV.bool (BE.var 4), SV.int IntKind.i64 (IE.var 1)]),
                      (8, [SV.int IntKind.i64 (IE.var 0), SV.int IntKind.i64 (IE.var 1), SV.bool (BE.var 2), SV.int IntKind.i64 (IE.var 3), SV.bool (BE.var 4), SV.int IntKind.i64 (IE.var 1)]),
                      (7, [SV.int IntKind.i64 (IE.var 0), SV.int IntKind.i64 (IE.var 1), SV.bool (BE.var 2), SV.int IntKind.i64 (IE.var 3), SV.bool (BE.var 4)])])))))
          (VC.blk
            (VC.call 34 [SV.slc 11 0 4 4] [Base.bool] (SV.bool (BE.var 12)) [] false [9, 8, 7] [11, 9, 8, 7] [11, 9, 8, 7]
              [(11, [SV.bool (BE.var 10), SV.bool (BE.le (IE.lit 0) (IE.var 5)), SV.bool (BE.le (IE.var 5) (IE.lit 65536)), SV.bool (BE.lt (IE.lit 0) (IE.var 3))]),
                (9, [SV.int IntKind.i64 (IE.var 0), SV.int IntKind.i64 (IE.var 1), SV.bool (BE.var 2), SV.int IntKind.i64 (IE.var 3), SV.bool (BE.var 4), SV.int IntKind.i64 (IE.var 1)]),
                (8, [SV.int IntKind.i64 (IE.lit 0), SV.int IntKind.i64 (IE.lit 0), SV.bool (BE.lit false), SV.int IntKind.i64 (IE.lit 0), SV.bool (BE.lit false), SV.int IntKind.i64 (IE.lit 0)]),
                (7, [SV.int IntKind.i64 (IE.var 0), SV.int IntKind.i64 (IE.var 1), SV.bool (BE.var 2), SV.int IntKind.i64 (IE.var 3), SV.bool (BE.var 4)])]
              (VC.split (BE.not (BE.var 12))
                (VC.leaf 0
                  [SV.tuple
                      [SV.agg
                          [SV.int IntKind.i64 (IE.lit 0), SV.int IntKind.i64 (IE.lit 0), SV.bool (BE.lit false), SV.int IntKind.i64 (IE.lit 0), SV.bool (BE.lit false), SV.int IntKind.i64 (IE.lit 0)],
                        SV.int IntKind.i64 (IE.lit 2)]]
                  [11, 9, 8, 7]
                  [(11, [SV.bool (BE.var 10), SV.bool (BE.le (IE.lit 0) (IE.var 5)), SV.bool (BE.le (IE.var 5) (IE.lit 65536)), SV.bool (BE.lt (IE.lit 0) (IE.var 3))]),
                    (9, [SV.int IntKind.i64 (IE.var 0), SV.int IntKind.i64 (IE.var 1), SV.bool (BE.var 2), SV.int IntKind.i64 (IE.var 3), SV.bool (BE.var 4), SV.int IntKind.i64 (IE.var 1)]),
                    (8, [SV.int IntKind.i64 (IE.lit 0), SV.int IntKind.i64 (IE.lit 0), SV.bool (BE.lit false), SV.int IntKind.i64 (IE.lit 0), SV.bool (BE.lit false), SV.int IntKind.i64 (IE.lit 0)]),
                    (7, [SV.int IntKind.i64 (IE.var 0), SV.int IntKind.i64 (IE.var 1), SV.bool (BE.var 2), SV.int IntKind.i64 (IE.var 3), SV.bool (BE.var 4)])])
                (VC.split (BE.var 6)
                  (VC.split (BE.eq (IE.var 1) (IE.lit 8))
                    (VC.leaf 0
                      [SV.tuple
                          [SV.agg [SV.int IntKind.i64 (IE.var 0), SV.int IntKind.i64 (IE.var 1), SV.bool (BE.var 2), SV.int IntKind.i64 (IE.var 3), SV.bool (BE.var 4), SV.int IntKind.i64 (IE.lit 0)],
                            SV.int IntKind.i64 (IE.lit 0)]]
                      [11, 9, 8, 7]
                      [(11, [SV.bool (BE.var 10), SV.bool (BE.le (IE.lit 0) (IE.var 5)), SV.bool (BE.le (IE.var 5) (IE.lit 65536)), SV.bool (BE.lt (IE.lit 0) (IE.var 3))]),
                        (9, [SV.int IntKind.i64 (IE.var 0), SV.int IntKind.i64 (IE.var 1), SV.bool (BE.var 2), SV.int IntKind.i64 (IE.var 3), SV.bool (BE.var 4), SV.int IntKind.i64 (IE.lit 0)]),
                        (8, [SV.int IntKind.i64 (IE.var 0), SV.int IntKind.i64 (IE.var 1), SV.bool (BE.var 2), SV.int IntKind.i64 (IE.var 3), SV.bool (BE.var 4), SV.int IntKind.i64 (IE.lit 0)]),
                        (7, [SV.int IntKind.i64 (IE.var 0), SV.int IntKind.i64 (IE.var 1), SV.bool (BE.var 2), SV.int IntKind.i64 (IE.var 3), SV.bool (BE.var 4)])])
                    (VC.leaf 0
                      [SV.tuple
                          [SV.agg [SV.int IntKind.i64 (IE.var 0), SV.int IntKind.i64 (IE.var 1), SV.bool (BE.var 2), SV.int IntKind.i64 (IE.var 3), SV.bool (BE.var 4), SV.int IntKind.i64 (IE.var 1)],
                            SV.int IntKind.i64 (IE.lit 0)]]
                      [11, 9, 8, 7]
                      [(11, [SV.bool (BE.var 10), SV.bool (BE.le (IE.lit 0) (IE.var 5)), SV.bool (BE.le (IE.var 5) (IE.lit 65536)), SV.bool (BE.lt (IE.lit 0) (IE.var 3))]),
                        (9, [SV.int IntKind.i64 (IE.var 0), SV.int IntKind.i64 (IE.var 1), SV.bool (BE.var 2), SV.int IntKind.i64 (IE.var 3), SV.bool (BE.var 4), SV.int IntKind.i64 (IE.var 1)]),
                        (8, [SV.int IntKind.i64 (IE.var 0), SV.int IntKind.i64 (IE.var 1), SV.bool (BE.var 2), SV.int IntKind.i64 (IE.var 3), SV.bool (BE.var 4), SV.int IntKind.i64 (IE.var 1)]),
                        (7, [SV.int IntKind.i64 (IE.var 0), SV.int IntKind.i64 (IE.var 1), SV.bool (BE.var 2), SV.int IntKind.i64 (IE.var 3), SV.bool (BE.var 4)])]))
                  (VC.leaf 0
                    [SV.tuple
                        [SV.agg [SV.int IntKind.i64 (IE.var 0), SV.int IntKind.i64 (IE.var 1), SV.bool (BE.var 2), SV.int IntKind.i64 (IE.var 3), SV.bool (BE.var 4), SV.int IntKind.i64 (IE.var 1)],
                          SV.int IntKind.i64 (IE.lit 0)]]
                    [11, 9, 8, 7]
                    [(11, [SV.bool (BE.var 10), SV.bool (BE.le (IE.lit 0) (IE.var 5)), SV.bool (BE.le (IE.var 5) (IE.lit 65536)), SV.bool (BE.lt (IE.lit 0) (IE.var 3))]),
                      (9, [SV.int IntKind.i64 (IE.var 0), SV.int IntKind.i64 (IE.var 1), SV.bool (BE.var 2), SV.int IntKind.i64 (IE.var 3), SV.bool (BE.var 4), SV.int IntKind.i64 (IE.var 1)]),
                      (8, [SV.int IntKind.i64 (IE.var 0), SV.int IntKind.i64 (IE.var 1), SV.bool (BE.var 2), SV.int IntKind.i64 (IE.var 3), SV.bool (BE.var 4), SV.int IntKind.i64 (IE.var 1)]),
                      (7, [SV.int IntKind.i64 (IE.var 0), SV.int IntKind.i64 (IE.var 1), SV.bool (BE.var 2), SV.int IntKind.i64 (IE.var 3), SV.bool (BE.var 4)])]))))))))) := by kernel_rfl

theorem t40 : exFn { P := Try.prog } 40 [.agg [.int .i64 (.var 0), .int .i64 (.var 1), .bool (.var 2), .int .i64 (.var 3), .bool (.var 4), .int .i64 (.var 5)], .int .i64 (.var 6)] [.int .i64, .int .i64, .bool, .int .i64, .bool, .int .i64, .int .i64] [] =
  VC.blk
  (VC.split (BE.var 2)
    (VC.ob (BE.le (IE.lit (-9223372036854775808)) (IE.add (IE.var 0) (IE.var 5)))
      (VC.ob (BE.le (IE.add (IE.var 0) (IE.var 5)) (IE.lit 9223372036854775807))
        (VC.ob (BE.le (IE.lit (-9223372036854775808)) (IE.mul (IE.var 6) (IE.add (IE.var 0) (IE.var 5))))
          (VC.ob (BE.le (IE.mul (IE.var 6) (IE.add (IE.var 0) (IE.var 5))) (IE.lit 9223372036854775807))
            (VC.leaf 0 [SV.tuple [SV.int IntKind.i64 (IE.mul (IE.var 6) (IE.add (IE.var 0) (IE.var 5))), SV.int IntKind.i64 (IE.lit 0)]] []
              [(7, [SV.int IntKind.i64 (IE.var 0), SV.int IntKind.i64 (IE.var 1), SV.bool (BE.var 2), SV.int IntKind.i64 (IE.var 3), SV.bool (BE.var 4), SV.int IntKind.i64 (IE.var 5)])])))))
    (VC.start true [] [7] [(7, [SV.int IntKind.i64 (IE.var 0), SV.int IntKind.i64 (IE.var 1), SV.bool (BE.var 2), SV.int IntKind.i64 (IE.var 3), SV.bool (BE.var 4), SV.int IntKind.i64 (IE.var 5)])]
      (VC.ob (BE.le (IE.lit (-9223372036854775808)) (IE.mul (IE.var 6) (IE.var 0)))
        (VC.ob (BE.le (IE.mul (IE.var 6) (IE.var 0)) (IE.lit 9223372036854775807))
          (VC.ob (BE.le (IE.lit (-9223372036854775808)) (IE.mul (IE.var 6) (IE.var 5)))
            (VC.ob (BE.le (IE.mul (IE.var 6) (IE.var 5)) (IE.lit 9223372036854775807))
              (VC.leaf 0 [SV.tuple [SV.int IntKind.i64 (IE.mul (IE.var 6) (IE.var 0)), SV.int IntKind.i64 (IE.mul (IE.var 6) (IE.var 5))]] [7]
                [(7, [SV.int IntKind.i64 (IE.var 0), SV.int IntKind.i64 (IE.var 1), SV.bool (BE.var 2), SV.int IntKind.i64 (IE.var 3), SV.bool (BE.var 4), SV.int IntKind.i64 (IE.var 5)])]))))))) := by kernel_rfl

theorem t46 : exFn { P := Try.prog } 46 [.agg [.int .i64 (.var 0), .int .i64 (.var 1), .bool (.var 2), .int .i64 (.var 3), .bool (.var 4)], .int .i64 (.var 5), .bool (.var 6)] [.int .i64, .int .i64, .bool, .int .i64, .bool, .int .i64, .bool] [] =
  VC.blk
  (VC.call 39
    [SV.agg [SV.int IntKind.i64 (IE.var 0), SV.int IntKind.i64 (IE.var 1), SV.bool (BE.var 2), SV.int IntKind.i64 (IE.var 3), SV.bool (BE.var 4)], SV.int IntKind.i64 (IE.var 5), SV.bool (BE.var 6)]
    [Base.int IntKind.i64, Base.int IntKind.i64, Base.bool, Base.int IntKind.i64, Base.bool, Base.int IntKind.i64, Base.int IntKind.i64]
    (SV.tuple
      [SV.agg [SV.int IntKind.i64 (IE.var 8), SV.int IntKind.i64 (IE.var 9), SV.bool (BE.var 10), SV.int IntKind.i64 (IE.var 11), SV.bool (BE.var 12), SV.int IntKind.i64 (IE.var 13)],
        SV.int IntKind.i64 (IE.var 14)])
    [] false [] [7] [7] [(7, [SV.int IntKind.i64 (IE.var 0), SV.int IntKind.i64 (IE.var 1), SV.bool (BE.var 2), SV.int IntKind.i64 (IE.var 3), SV.bool (BE.var 4)])]
    (VC.blk
      (VC.split (BE.not (BE.eq (IE.var 14) (IE.lit 0)))
        (VC.leaf 0 [SV.tuple [SV.int IntKind.i64 (IE.lit 0), SV.int IntKind.i64 (IE.lit 0), SV.int IntKind.i64 (IE.var 14)]] [7]
          [(15, [SV.int IntKind.i64 (IE.var 8), SV.int IntKind.i64 (IE.var 9), SV.bool (BE.var 10), SV.int IntKind.i64 (IE.var 11), SV.bool (BE.var 12), SV.int IntKind.i64 (IE.var 13)]),
            (7, [SV.int IntKind.i64 (IE.var 0), SV.int IntKind.i64 (IE.var 1), SV.bool (BE.var 2), SV.int IntKind.i64 (IE.var 3), SV.bool (BE.var 4)])])
        (VC.call 40
          [SV.agg [SV.int IntKind.i64 (IE.var 8), SV.int IntKind.i64 (IE.var 9), SV.bool (BE.var 10), SV.int IntKind.i64 (IE.var 11), SV.bool (BE.var 12), SV.int IntKind.i64 (IE.var 13)],
            SV.int IntKind.i64 (IE.var 5)]
          [Base.int IntKind.i64, Base.int IntKind.i64] (SV.tuple [SV.int IntKind.i64 (IE.var 16), SV.int IntKind.i64 (IE.var 17)]) [] false [7] [15, 7] [15, 7]
          [(15, [SV.int IntKind.i64 (IE.var 8), SV.int IntKind.i64 (IE.var 9), SV.bool (BE.var 10), SV.int IntKind.i64 (IE.var 11), SV.bool (BE.var 12), SV.int IntKind.i64 (IE.var 13)]),
            (7, [SV.int IntKind.i64 (IE.var 0), SV.int IntKind.i64 (IE.var 1), SV.bool (BE.var 2), SV.int IntKind.i64 (IE.var 3), SV.bool (BE.var 4)])]
          (VC.leaf 0 [SV.tuple [SV.int IntKind.i64 (IE.var 16), SV.int IntKind.i64 (IE.var 17), SV.int IntKind.i64 (IE.lit 0)]] [15, 7]
            [(15, [SV.int IntKind.i64 (IE.var 8), SV.int IntKind.i64 (IE.var 9), SV.bool (BE.var 10), SV.int IntKind.i64 (IE.var 11), SV.bool (BE.var 12), SV.int IntKind.i64 (IE.var 13)]),
              (7, [SV.int IntKind.i64 (IE.var 0), SV.int IntKind.i64 (IE.var 1), SV.bool (BE.var 2), SV.int IntKind.i64 (IE.var 3), SV.bool (BE.var 4)])]))))) := by kernel_rfl

theorem t41 : exFn { P := Try.prog } 41 [.var 0, .int .i64 (.var 1)] [.slice, .int .i64] [] =
  VC.split (BE.lt (IE.len 0) (IE.var 1)) (VC.leaf 0 [SV.int IntKind.i64 (IE.lit 4)] [] [])
  (VC.split (BE.lt (IE.var 1) (IE.len 0)) (VC.leaf 0 [SV.int IntKind.i64 (IE.lit 5)] [] []) (VC.leaf 0 [SV.int IntKind.i64 (IE.lit 0)] [] [])) := by kernel_rfl

theorem t23 : exFn { P := Try.prog } 23 [.agg [.int .i64 (.var 0), .int .i64 (.var 1), .bool (.var 2), .int .i64 (.var 3), .bool (.var 4)], .int .i64 (.var 5), .bool (.var 6), .int .i64 (.var 7), .int .i64 (.var 8), .int .i64 (.var 9)] [.int .i64, .int .i64, .bool, .int .i64, .bool, .int .i64, .bool, .int .i64, .int .i64, .int .i64] [] =
  VC.blk
  (VC.call 46
    [SV.agg [SV.int IntKind.i64 (IE.var 0), SV.int IntKind.i64 (IE.var 1), SV.bool (BE.var 2), SV.int IntKind.i64 (IE.var 3), SV.bool (BE.var 4)], SV.int IntKind.i64 (IE.var 5), SV.bool (BE.var 6)]
    [Base.int IntKind.i64, Base.int IntKind.i64, Base.int IntKind.i64] (SV.tuple [SV.int IntKind.i64 (IE.var 11), SV.int IntKind.i64 (IE.var 12), SV.int IntKind.i64 (IE.var 13)]) [] false [] [10] [10]
    [(10, [SV.int IntKind.i64 (IE.var 0), SV.int IntKind.i64 (IE.var 1), SV.bool (BE.var 2), SV.int IntKind.i64 (IE.var 3), SV.bool (BE.var 4)])]
    (VC.split (BE.eq (IE.var 11) (IE.var 7))
      (VC.split (BE.eq (IE.var 12) (IE.var 8))
        (VC.call 18 [SV.int IntKind.i64 (IE.var 13)] [Base.int IntKind.i64] (SV.int IntKind.i64 (IE.var 14)) [] false [10] [10] [10]
          [(10, [SV.int IntKind.i64 (IE.var 0), SV.int IntKind.i64 (IE.var 1), SV.bool (BE.var 2), SV.int IntKind.i64 (IE.var 3), SV.bool (BE.var 4)])]
          (VC.leaf 0 [SV.bool (BE.eq (IE.var 14) (IE.var 9))] [10]
            [(10, [SV.int IntKind.i64 (IE.var 0), SV.int IntKind.i64 (IE.var 1), SV.bool (BE.var 2), SV.int IntKind.i64 (IE.var 3), SV.bool (BE.var 4)])]))
        (VC.leaf 0 [SV.bool (BE.lit false)] [10] [(10, [SV.int IntKind.i64 (IE.var 0), SV.int IntKind.i64 (IE.var 1), SV.bool (BE.var 2), SV.int IntKind.i64 (IE.var 3), SV.bool (BE.var 4)])]))
      (VC.leaf 0 [SV.bool (BE.lit false)] [10] [(10, [SV.int IntKind.i64 (IE.var 0), SV.int IntKind.i64 (IE.var 1), SV.bool (BE.var 2), SV.int IntKind.i64 (IE.var 3), SV.bool (BE.var 4)])]))) := by kernel_rfl

theorem t3 : exFn { P := Try.prog } 3 [.agg [.int .i64 (.var 0), .int .i64 (.var 1), .bool (.var 2), .int .i64 (.var 3), .bool (.var 4)], .int .i64 (.var 5), .int .i64 (.var 6)] [.int .i64, .int .i64, .bool, .int .i64, .bool, .int .i64, .int .i64] [] =
  VC.blk
  (VC.call 10 [SV.agg [SV.int IntKind.i64 (IE.var 0), SV.int IntKind.i64 (IE.var 1), SV.bool (BE.var 2), SV.int IntKind.i64 (IE.var 3), SV.bool (BE.var 4)], SV.int IntKind.i64 (IE.var 5)]
    [Base.int IntKind.i64, Base.int IntKind.i64, Base.int IntKind.i64] (SV.tuple [SV.int IntKind.i64 (IE.var 8), SV.int IntKind.i64 (IE.var 9), SV.int IntKind.i64 (IE.var 10)]) [] false [] [7] [7]
    [(7, [SV.int IntKind.i64 (IE.var 0), SV.int IntKind.i64 (IE.var 1), SV.bool (BE.var 2), SV.int IntKind.i64 (IE.var 3), SV.bool (BE.var 4)])]
    (VC.call 11 [SV.agg [SV.int IntKind.i64 (IE.var 0), SV.int IntKind.i64 (IE.var 1), SV.bool (BE.var 2), SV.int IntKind.i64 (IE.var 3), SV.bool (BE.var 4)], SV.int IntKind.i64 (IE.var 5)]
      [Base.int IntKind.i64, Base.int IntKind.i64, Base.int IntKind.i64] (SV.tuple [SV.int IntKind.i64 (IE.var 11), SV.int IntKind.i64 (IE.var 12), SV.int IntKind.i64 (IE.var 13)]) [] false [7] [7]
      [7] [(7, [SV.int IntKind.i64 (IE.var 0), SV.int IntKind.i64 (IE.var 1), SV.bool (BE.var 2), SV.int IntKind.i64 (IE.var 3), SV.bool (BE.var 4)])]
      (VC.call 12 [SV.agg [SV.int IntKind.i64 (IE.var 0), SV.int IntKind.i64 (IE.var 1), SV.bool (BE.var 2), SV.int IntKind.i64 (IE.var 3), SV.bool (BE.var 4)], SV.int IntKind.i64 (IE.var 6)]
        [Base.int IntKind.i64, Base.int IntKind.i64] (SV.tuple [SV.int IntKind.i64 (IE.var 14), SV.int IntKind.i64 (IE.var 15)]) [] false [7] [7] [7]
        [(7, [SV.int IntKind.i64 (IE.var 0), SV.int IntKind.i64 (IE.var 1), SV.bool (BE.var 2), SV.int IntKind.i64 (IE.var 3), SV.bool (BE.var 4)])]
        (VC.call 13 [SV.agg [SV.int IntKind.i64 (IE.var 0), SV.int IntKind.i64 (IE.var 1), SV.bool (BE.var 2), SV.int IntKind.i64 (IE.var 3), SV.bool (BE.var 4)], SV.int IntKind.i64 (IE.var 6)]
          [Base.int IntKind.i64, Base.int IntKind.i64] (SV.tuple [SV.int IntKind.i64 (IE.var 16), SV.int IntKind.i64 (IE.var 17)]) [] false [7] [7] [7]
          [(7, [SV.int IntKind.i64 (IE.var 0), SV.int IntKind.i64 (IE.var 1), SV.bool (BE.var 2), SV.int IntKind.i64 (IE.var 3), SV.bool (BE.var 4)])]
          (VC.start true [7] [7] [(7, [SV.int IntKind.i64 (IE.var 0), SV.int IntKind.i64 (IE.var 1), SV.bool (BE.var 2), SV.int IntKind.i64 (IE.var 3), SV.bool (BE.var 4)])]
            (VC.call 14 [SV.agg [SV.int IntKind.i64 (IE.var 0), SV.int IntKind.i64 (IE.var 1), SV.bool (BE.var 2), SV.int IntKind.i64 (IE.var 3), SV.bool (BE.var 4)]] [Base.bool] (SV.bool (BE.var 18))
              [] true [7] [7] [7] [(7, [SV.int IntKind.i64 (IE.var 0), SV.int IntKind.i64 (IE.var 1), SV.bool (BE.var 2), SV.int IntKind.i64 (IE.var 3), SV.bool (BE.var 4)])]
              (VC.call 15 [SV.agg [SV.int IntKind.i64 (IE.var 0), SV.int IntKind.i64 (IE.var 1), SV.bool (BE.var 2), SV.int IntKind.i64 (IE.var 3), SV.bool (BE.var 4)]] [Base.bool]
                (SV.bool (BE.var 19)) [] true [7] [7] [7] [(7, [SV.int IntKind.i64 (IE.var 0), SV.int IntKind.i64 (IE.var 1), SV.bool (BE.var 2), SV.int IntKind.i64 (IE.var 3), SV.bool (BE.var 4)])]
                (VC.split (BE.beq (BE.var 18) (BE.var 19))
                  (VC.call 16 [SV.agg [SV.int IntKind.i64 (IE.var 0), SV.int IntKind.i64 (IE.var 1), SV.bool (BE.var 2), SV.int IntKind.i64 (IE.var 3), SV.bool (BE.var 4)]] [Base.int IntKind.i64]
                    (SV.int IntKind.i64 (IE.var 20)) [] true [7] [7] [7]
                    [(7, [SV.int IntKind.i64 (IE.var 0), SV.int IntKind.i64 (IE.var 1), SV.bool (BE.var 2), SV.int IntKind.i64 (IE.var 3), SV.bool (BE.var 4)])]
                    (VC.call 17 [SV.agg [SV.int IntKind.i64 (IE.var 0), SV.int IntKind.i64 (IE.var 1), SV.bool (BE.var 2), SV.int IntKind.i64 (IE.var 3), SV.bool (BE.var 4)]] [Base.int IntKind.i64]
                      (SV.int IntKind.i64 (IE.var 21)) [] true [7] [7] [7]
                      [(7, [SV.int IntKind.i64 (IE.var 0), SV.int IntKind.i64 (IE.var 1), SV.bool (BE.var 2), SV.int IntKind.i64 (IE.var 3), SV.bool (BE.var 4)])]
                      (VC.split (BE.eq (IE.var 20) (IE.var 21))
                        (VC.split (BE.eq (IE.var 8) (IE.var 11))
                          (VC.split (BE.eq (IE.var 9) (IE.var 12))
                            (VC.call 18 [SV.int IntKind.i64 (IE.var 10)] [Base.int IntKind.i64] (SV.int IntKind.i64 (IE.var 22)) [] true [7] [7] [7]
                              [(7, [SV.int IntKind.i64 (IE.var 0), SV.int IntKind.i64 (IE.var 1), SV.bool (BE.var 2), SV.int IntKind.i64 (IE.var 3), SV.bool (BE.var 4)])]
                              (VC.split (BE.eq (IE.var 22) (IE.var 13))
                                (VC.split (BE.eq (IE.var 14) (IE.var 16))
                                  (VC.call 18 [SV.int IntKind.i64 (IE.var 15)] [Base.int IntKind.i64] (SV.int IntKind.i64 (IE.var 23)) [] true [7] [7] [7]
                                    [(7, [SV.int IntKind.i64 (IE.var 0), SV.int IntKind.i64 (IE.var 1), SV.bool (BE.var 2), SV.int IntKind.i64 (IE.var 3), SV.bool (BE.var 4)])]
                                    (VC.split (BE.eq (IE.var 23) (IE.var 17))
                                      (VC.call 19 [] [Base.bool] (SV.bool (BE.var 24)) [] true [7] [7] [7]
                                        [(7, [SV.int IntKind.i64 (IE.var 0), SV.int IntKind.i64 (IE.var 1), SV.bool (BE.var 2), SV.int IntKind.i64 (IE.var 3), SV.bool (BE.var 4)])]
                                        (VC.leaf 0 [SV.bool (BE.var 24)] [7]
                                          [(7, [SV.int IntKind.i64 (IE.var 0), SV.int IntKind.i64 (IE.var 1), SV.bool (BE.var 2), SV.int IntKind.i64 (IE.var 3), SV.bool (BE.var 4)])]))
                                      (VC.leaf 0 [SV.bool (BE.lit false)] [7]
                                        [(7, [SV.int IntKind.i64 (IE.var 0), SV.int IntKind.i64 (IE.var 1), SV.bool (BE.var 2), SV.int IntKind.i64 (IE.var 3), SV.bool (BE.var 4)])])))
                                  (VC.leaf 0 [SV.bool (BE.lit false)] [7]
                                    [(7, [SV.int IntKind.i64 (IE.var 0), SV.int IntKind.i64 (IE.var 1), SV.bool (BE.var 2), SV.int IntKind.i64 (IE.var 3), SV.bool (BE.var 4)])]))
                                (VC.leaf 0 [SV.bool (BE.lit false)] [7]
                                  [(7, [SV.int IntKind.i64 (IE.var 0), SV.int IntKind.i64 (IE.var 1), SV.bool (BE.var 2), SV.int IntKind.i64 (IE.var 3), SV.bool (BE.var 4)])])))
                            (VC.leaf 0 [SV.bool (BE.lit false)] [7]
                              [(7, [SV.int IntKind.i64 (IE.var 0), SV.int IntKind.i64 (IE.var 1), SV.bool (BE.var 2), SV.int IntKind.i64 (IE.var 3), SV.bool (BE.var 4)])]))
                          (VC.leaf 0 [SV.bool (BE.lit false)] [7]
                            [(7, [SV.int IntKind.i64 (IE.var 0), SV.int IntKind.i64 (IE.var 1), SV.bool (BE.var 2), SV.int IntKind.i64 (IE.var 3), SV.bool (BE.var 4)])]))
                        (VC.leaf 0 [SV.bool (BE.lit false)] [7]
                          [(7, [SV.int IntKind.i64 (IE.var 0), SV.int IntKind.i64 (IE.var 1), SV.bool (BE.var 2), SV.int IntKind.i64 (IE.var 3), SV.bool (BE.var 4)])]))))
                  (VC.leaf 0 [SV.bool (BE.lit false)] [7]
                    [(7, [SV.int IntKind.i64 (IE.var 0), SV.int IntKind.i64 (IE.var 1), SV.bool (BE.var 2), SV.int IntKind.i64 (IE.var 3), SV.bool (BE.var 4)])]))))))))) := by kernel_rfl

end Go.Proofs.Ytngemhmjpphpaaa
