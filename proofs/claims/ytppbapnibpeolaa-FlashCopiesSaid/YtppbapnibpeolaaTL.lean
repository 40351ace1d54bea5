/- What the functions of the chapter come to, printed by a program of the prover's and checked by the kernel. No conditions. -/
import Derived.Test.YtppbapnibpeolaaSxZI
import Derived.Test.YtppbapnibpeolaaProg
import Derived.KernelRfl
set_option maxRecDepth 100000
set_option linter.unusedVariables false
namespace Go.Proofs.Ytppbapnibpeolaa
open Go.Sx

def qc0 : List SV := [.int .i64 (.var 6), .int .i64 (.var 7), .int .i64 (.var 8), .var 9, .var 10, .int .i64 (.var 11), .int .i64 (.var 12), .int .i64 (.var 13), .var 14, .var 15]
def qc1 : List SV := [.int .i64 (.var 0), .int .i64 (.var 1), .int .i64 (.var 2), .int .i64 (.var 3)]
def qc2 : List SV := [.int .i64 (.var 26), .int .i64 (.var 27), .int .i64 (.var 28), .int .i64 (.var 29), .var 30, .var 31, .var 32, .int .i64 (.var 33), .int .i64 (.var 34), .int .i64 (.var 35), .bool (.var 36)]
def qc3 : List SV := [.int .i64 (.var 25), .int .i64 (.var 26), .int .i64 (.var 27), .var 28, .var 29]
def qc4 : List SV := [.int .i64 (.var 42), .int .i64 (.var 43), .int .i64 (.var 44), .int .i64 (.var 45), .var 46, .var 47, .var 48, .int .i64 (.var 49), .int .i64 (.var 50), .int .i64 (.var 51), .bool (.var 52)]
def qc5 : List SV := [.int .i64 (.var 55), .int .i64 (.var 56), .int .i64 (.var 57), .int .i64 (.var 58), .var 59, .var 60, .var 61, .int .i64 (.var 62), .int .i64 (.var 63), .int .i64 (.var 64), .bool (.var 65)]
def qc6 : List SV := [.int .i64 (.var 31), .int .i64 (.var 32), .int .i64 (.var 33), .var 34, .var 35]
def q0 : VC := .call 11 [] [.bool] (.bool (.var 19)) [] false [] [] [17, 16] [(17, qc0), (16, qc1)] (.leaf 0 [.bool (.var 19)] [] [(17, qc0), (16, qc1)])
def q1 : VC := .blk (.gen (.call { callee := .builtin .append, args := #[.tmp 79, .tmp 81], argTypes := #[26, 26] }) 26 [(.tmp 79, .slc 33 0 0 0), (.tmp 81, .var 29)] [.slice] (.var 34) [] true [] [] [33, 31, 30, 17, 16]
 [(33, []), (31, []), (30, qc3), (17, qc0), (16, qc1)] (.leaf 8 [.int .i64 (.var 25), .int .i64 (.var 26), .int .i64 (.var 27), .var 32, .var 34] [30] [(33, []), (31, []), (30, [.int .i64 (.var 25), .int .i64 (.var 26),
 .int .i64 (.var 27), .var 32, .var 34]), (17, qc0), (16, qc1)]))
def q2 : VC := .leaf 8 [.int .i64 (.var 25), .int .i64 (.var 26), .int .i64 (.var 27), .var 33, .var 34] [30] [(32, []), (31, []), (30, [.int .i64 (.var 25), .int .i64 (.var 26), .int .i64 (.var 27), .var 33, .var 34]),
 (17, qc0), (16, qc1)]
def q3 : VC := .gen (.call { callee := .builtin .append, args := #[.tmp 75, .tmp 77], argTypes := #[26, 26] }) 26 [(.tmp 75, .slc 31 0 0 0), (.tmp 77, .var 28)] [.slice] (.var 33) [] true [] [] [32, 31, 30, 17, 16] [(32,
 []), (31, []), (30, qc3), (17, qc0), (16, qc1)] (.gen (.call { callee := .builtin .append, args := #[.tmp 79, .tmp 81], argTypes := #[26, 26] }) 26 [(.tmp 79, .slc 32 0 0 0), (.tmp 81, .var 29)] [.slice] (.var 34) []
 true [] [] [32, 31, 30, 17, 16] [(32, []), (31, []), (30, qc3), (17, qc0), (16, qc1)] q2)
def q4 : VC := .both q3 q3
def q5 : VC := .blk q3
def q6 : VC := .both (.gen (.call { callee := .builtin .append, args := #[.tmp 75, .tmp 77], argTypes := #[26, 26] }) 26 [(.tmp 75, .slc 31 0 0 0), (.tmp 77, .var 28)] [.slice] (.var 32) [] true [] [] [31, 30, 17, 16]
 [(31, []), (30, qc3), (17, qc0), (16, qc1)] q1) q5
def q7 : VC := .both (.gen (.call { callee := .builtin .append, args := #[.tmp 75, .tmp 77], argTypes := #[26, 26] }) 26 [(.tmp 75, .slc 31 0 0 0), (.tmp 77, .var 28)] [.slice] (.var 32) [] true [] [] [31, 30, 17, 16]
 [(31, []), (30, qc3), (17, qc0), (16, qc1)] (.both q1 q1)) (.both (.blk q4) q6)
def q8 : VC := .both q6 q5
def q9 : VC := .gen (.call { callee := .builtin .append, args := #[.tmp 75, .tmp 77], argTypes := #[26, 26] }) 26 [(.tmp 75, .slc 32 0 0 0), (.tmp 77, .var 28)] [.slice] (.var 33) [] true [] [] [32, 31, 30, 17, 16] [(32,
 []), (31, []), (30, qc3), (17, qc0), (16, qc1)] (.gen (.call { callee := .builtin .append, args := #[.tmp 79, .tmp 81], argTypes := #[26, 26] }) 26 [(.tmp 79, .slc 31 0 0 0), (.tmp 81, .var 29)] [.slice] (.var 34) []
 true [] [] [32, 31, 30, 17, 16] [(32, []), (31, []), (30, qc3), (17, qc0), (16, qc1)] q2)
def q10 : VC := .both q9 q9
def q11 : VC := .blk q9
def q12 : VC := .both (.blk q10) q11
def q13 : VC := .both (.blk q6) (.blk q11)
def q14 : VC := .both q11 q11
def q15 : VC := .leaf 0 [.bool (.lit false)] [] [(67, qc5), (54, qc4), (38, qc2), (17, qc0), (16, qc1)]
def q16 : VC := .leaf 0 [.bool (.lit false)] [67] [(67, qc5), (54, qc4), (38, qc2), (17, qc0), (16, qc1)]
theorem t3 : exFn { P := Try.prog, loops := fun r => if Nat.beq r 4 then some ⟨1, [(9, .int .i64)], []⟩ else if Nat.beq r 10 then some ⟨2, [(10, .slice), (11, .int .i64)], []⟩ else if Nat.beq r 19 then some ⟨3, [(16, .int .i64)], []⟩ else if Nat.beq r 22 then some ⟨4, [(17, .int .i64)], []⟩ else if Nat.beq r 26 then some ⟨5, [(18, .int .i64)], []⟩ else if Nat.beq r 30 then some ⟨6, [(22, .int .i64)], []⟩ else if Nat.beq r 34 then some ⟨7, [(23, .int .i64)], []⟩ else none, joins := fun r => if Nat.beq r 14 then some ⟨8, [], [12]⟩ else none }
 3 [.agg [.int .i64 (.var 0), .int .i64 (.var 1), .int .i64 (.var 2), .int .i64 (.var 3)], .var 4, .var 5, .agg [.int .i64 (.var 6), .int .i64 (.var 7), .int .i64 (.var 8), .var 9, .var 10, .int .i64 (.var 11), .int .i64
 (.var 12), .int .i64 (.var 13), .var 14, .var 15]] [.int .i64, .int .i64, .int .i64, .int .i64, .slice, .slice, .int .i64, .int .i64, .int .i64, .slice, .slice, .int .i64, .int .i64, .int .i64, .slice, .slice] [] = .blk
 (.blk (.call 8 [.agg [.int .i64 (.var 0), .int .i64 (.var 1), .int .i64 (.var 2), .int .i64 (.var 3)]] [.bool] (.bool (.var 18)) [] false [] [] [17, 16] [(17, qc0), (16, qc1)] (.split (.not (.var 18)) q0 (.split (.lt
 (.lit 20) (.len 4)) q0 (.call 9 [.var 5, .int .i64 (.lit 25)] [.bool] (.bool (.var 19)) [] false [] [] [17, 16] [(17, qc0), (16, qc1)] (.split (.not (.var 19)) (.call 11 [] [.bool] (.bool (.var 20)) [] false [] [] [17,
 16] [(17, qc0), (16, qc1)] (.leaf 0 [.bool (.var 20)] [] [(17, qc0), (16, qc1)])) (.call 9 [.slc 17 0 2 2, .int .i64 (.lit 2)] [.bool] (.bool (.var 20)) [] false [] [] [17, 16] [(17, qc0), (16, qc1)] (.split (.not (.var
 20)) (.call 11 [] [.bool] (.bool (.var 21)) [] false [] [] [17, 16] [(17, qc0), (16, qc1)] (.leaf 0 [.bool (.var 21)] [] [(17, qc0), (16, qc1)])) (.call 10 [.agg [.int .i64 (.var 0), .int .i64 (.var 1), .int .i64 (.var
 2), .int .i64 (.var 3)]] [.bool] (.bool (.var 21)) [] false [] [] [17, 16] [(17, qc0), (16, qc1)] (.split (.not (.var 21)) (.call 11 [] [.bool] (.bool (.var 22)) [] false [] [] [17, 16] [(17, qc0), (16, qc1)] (.leaf 0
 [.bool (.var 22)] [] [(17, qc0), (16, qc1)])) (.loop 1 [.int .i64 (.lit 0)] [.int .i64] [] [17, 16] [(17, qc0), (16, qc1)] [(17, qc0), (16, qc1)] (.split (.lt (.var 22) (.len 4)) (.ob (.le (.lit 0) (.var 22)) (.ob (.lt
 (.var 22) (.len 4)) (.ob (.not (.nil 4)) (.start false [] [] [(17, qc0), (16, qc1)] (.load (.elt 4 0 (.var 22) 1 0) [.int .i64] (.split (.lt (.var 23) (.lit 0)) (.call 11 [] [.bool] (.bool (.var 24)) [] false [] [] [17,
 16] [(17, qc0), (16, qc1)] (.leaf 0 [.bool (.var 24)] [] [(17, qc0), (16, qc1)])) (.ob (.le (.lit (-9223372036854775808)) (.add (.var 22) (.lit 1))) (.ob (.le (.add (.var 22) (.lit 1)) (.lit 9223372036854775807)) (.leaf
 1 [.int .i64 (.add (.var 22) (.lit 1))] [] [(17, qc0), (16, qc1)]))))))))) (.loop 2 [.cst (.slice none 0 0), .int .i64 (.lit 0)] [.slice, .int .i64] [] [17, 16] [(17, qc0), (16, qc1)] [(17, qc0), (16, qc1)] (.split (.lt
 (.var 24) (.len 5)) (.ob (.le (.lit 0) (.var 24)) (.ob (.lt (.var 24) (.len 5)) (.ob (.not (.nil 5)) (.start false [] [] [(17, qc0), (16, qc1)] (.load (.elt 5 0 (.var 24) 5 0) [.int .i64, .int .i64, .int .i64, .slice,
 .slice] (.blk (.cut 8 [.int .i64, .int .i64, .int .i64, .slice, .slice] [30, 17, 16] [(30, qc6), (17, qc0), (16, qc1)] (.start true [30] [30, 17, 16] [(30, qc3), (17, qc0), (16, qc1)] (.both (.blk (.both q7 (.both (.blk
 (.both q4 q3)) q8))) (.both (.both (.blk q7) (.both (.blk q12) q13)) (.both (.blk (.both (.blk (.both q10 q9)) (.both q12 q14))) (.both (.blk q8) (.both q13 (.blk q14))))))) (.blk (.gen (.call { callee := .builtin .append, args := #[.tmp 85, .tmp 87], argTypes := #[25, 25] })
 25 [(.tmp 85, .var 23), (.tmp 87, .slc 36 0 1 1)] [.slice] (.var 37) [] false [] [] [36, 30, 17, 16] [(36, qc6), (30, qc6), (17, qc0), (16, qc1)] (.ob (.le (.lit (-9223372036854775808)) (.add (.var 24) (.lit 1))) (.ob
 (.le (.add (.var 24) (.lit 1)) (.lit 9223372036854775807)) (.leaf 2 [.var 37, .int .i64 (.add (.var 24) (.lit 1))] [] [(36, qc6), (30, qc6), (17, qc0), (16, qc1)])))))))))))) (.call 12 [.agg [.int .i64 (.var 0), .int
 .i64 (.var 1), .int .i64 (.var 2), .int .i64 (.var 3)], .var 4, .var 23] [.ptr, .int .i64, .int .i64, .int .i64, .int .i64, .slice, .slice, .slice, .int .i64, .int .i64, .int .i64, .bool, .bool] (.tuple [.var 25, .agg
 [.int .i64 (.var 26), .int .i64 (.var 27), .int .i64 (.var 28), .int .i64 (.var 29), .var 30, .var 31, .var 32, .int .i64 (.var 33), .int .i64 (.var 34), .int .i64 (.var 35), .bool (.var 36)], .bool (.var 37)]) [] false
 [] [] [17, 16] [(17, qc0), (16, qc1)] (.blk (.split (.not (.var 37)) (.leaf 0 [.bool (.lit false)] [38] [(38, qc2), (17, qc0), (16, qc1)]) (.loop 3 [.int .i64 (.lit 0)] [.int .i64] [38] [38, 17, 16] [(38, qc2), (17,
 qc0), (16, qc1)] [(38, qc2), (17, qc0), (16, qc1)] (.split (.lt (.var 39) (.len 23)) (.loop 4 [.int .i64 (.lit 0)] [.int .i64] [] [38, 17, 16] [(38, qc2), (17, qc0), (16, qc1)] [(38, qc2), (17, qc0), (16, qc1)] (.ob
 (.le (.lit 0) (.var 39)) (.ob (.lt (.var 39) (.len 23)) (.ob (.not (.nil 23)) (.start false [] [] [(38, qc2), (17, qc0), (16, qc1)] (.load (.elt 23 0 (.var 39) 5 3) [.slice] (.split (.lt (.var 40) (.len 41)) (.ob (.le
 (.lit 0) (.var 39)) (.ob (.lt (.var 39) (.len 23)) (.start false [] [] [(38, qc2), (17, qc0), (16, qc1)] (.load (.elt 23 0 (.var 39) 5 3) [.slice] (.ob (.le (.lit 0) (.var 40)) (.ob (.lt (.var 40) (.len 42)) (.ob (.not
 (.nil 42)) (.start false [] [] [(38, qc2), (17, qc0), (16, qc1)] (.load (.elt 42 0 (.var 40) 1 0) [.int .u8] (.ob (.le (.lit 0) (.var 40)) (.ob (.lt (.var 40) (.len 42)) (.gen (.store 5 (.tmp 124) (.tmp 123)) 0 [(.tmp
 124, .elt 42 0 (.var 40) 1 0), (.tmp 123, .int .u8 (.wrap .u8 (.add (.var 43) (.lit 1))))] [] (.cst (.tuple #[])) [] false [] [] [38, 17, 16] [(38, qc2), (17, qc0), (16, qc1)] (.ob (.le (.lit (-9223372036854775808))
 (.add (.var 40) (.lit 1))) (.ob (.le (.add (.var 40) (.lit 1)) (.lit 9223372036854775807)) (.leaf 4 [.int .i64 (.add (.var 40) (.lit 1))] [] [(38, qc2), (17, qc0), (16, qc1)]))))))))))))))) (.ob (.le (.lit
 (-9223372036854775808)) (.add (.var 39) (.lit 1))) (.ob (.le (.add (.var 39) (.lit 1)) (.lit 9223372036854775807)) (.leaf 3 [.int .i64 (.add (.var 39) (.lit 1))] [] [(38, qc2), (17, qc0), (16, qc1)])))))))))) (.loop 5
 [.int .i64 (.lit 0)] [.int .i64] [] [38, 17, 16] [(38, qc2), (17, qc0), (16, qc1)] [(38, qc2), (17, qc0), (16, qc1)] (.split (.lt (.var 40) (.var 0)) (.call 13 [.var 25, .int .i64 (.var 40), .int .i64 (.lit 0)] [.slice,
 .slice, .int .i64] (.tuple [.var 41, .var 42, .int .i64 (.var 43)]) [] false [] [] [38, 17, 16] [(38, qc2), (17, qc0), (16, qc1)] (.loop 6 [.int .i64 (.lit 0)] [.int .i64] [] [38, 17, 16] [(38, qc2), (17, qc0), (16,
 qc1)] [(38, qc2), (17, qc0), (16, qc1)] (.split (.lt (.var 44) (.len 41)) (.ob (.le (.lit 0) (.var 44)) (.ob (.lt (.var 44) (.len 41)) (.ob (.not (.nil 41)) (.start false [] [] [(38, qc2), (17, qc0), (16, qc1)] (.load
 (.elt 41 0 (.var 44) 1 0) [.int .u8] (.ob (.le (.lit 0) (.var 44)) (.ob (.lt (.var 44) (.len 41)) (.gen (.store 5 (.tmp 149) (.tmp 148)) 0 [(.tmp 149, .elt 41 0 (.var 44) 1 0), (.tmp 148, .int .u8 (.wrap .u8 (.add (.var
 45) (.lit 1))))] [] (.cst (.tuple #[])) [] false [] [] [38, 17, 16] [(38, qc2), (17, qc0), (16, qc1)] (.ob (.le (.lit (-9223372036854775808)) (.add (.var 44) (.lit 1))) (.ob (.le (.add (.var 44) (.lit 1)) (.lit
 9223372036854775807)) (.leaf 6 [.int .i64 (.add (.var 44) (.lit 1))] [] [(38, qc2), (17, qc0), (16, qc1)]))))))))))) (.loop 7 [.int .i64 (.lit 0)] [.int .i64] [] [38, 17, 16] [(38, qc2), (17, qc0), (16, qc1)] [(38,
 qc2), (17, qc0), (16, qc1)] (.split (.lt (.var 45) (.len 42)) (.ob (.le (.lit 0) (.var 45)) (.ob (.lt (.var 45) (.len 42)) (.ob (.not (.nil 42)) (.start false [] [] [(38, qc2), (17, qc0), (16, qc1)] (.load (.elt 42 0
 (.var 45) 1 0) [.int .u8] (.ob (.le (.lit 0) (.var 45)) (.ob (.lt (.var 45) (.len 42)) (.gen (.store 5 (.tmp 161) (.tmp 160)) 0 [(.tmp 161, .elt 42 0 (.var 45) 1 0), (.tmp 160, .int .u8 (.wrap .u8 (.add (.var 46) (.lit
 1))))] [] (.cst (.tuple #[])) [] false [] [] [38, 17, 16] [(38, qc2), (17, qc0), (16, qc1)] (.ob (.le (.lit (-9223372036854775808)) (.add (.var 45) (.lit 1))) (.ob (.le (.add (.var 45) (.lit 1)) (.lit
 9223372036854775807)) (.leaf 7 [.int .i64 (.add (.var 45) (.lit 1))] [] [(38, qc2), (17, qc0), (16, qc1)]))))))))))) (.ob (.le (.lit (-9223372036854775808)) (.add (.var 40) (.lit 1))) (.ob (.le (.add (.var 40) (.lit 1))
 (.lit 9223372036854775807)) (.leaf 5 [.int .i64 (.add (.var 40) (.lit 1))] [] [(38, qc2), (17, qc0), (16, qc1)])))))))) (.call 14 [.var 25] [.ptr] (.var 41) [] false [] [] [38, 17, 16] [(38, qc2), (17, qc0), (16, qc1)]
 (.call 15 [.var 25, .agg [.int .i64 (.var 26), .int .i64 (.var 27), .int .i64 (.var 28), .int .i64 (.var 29), .var 30, .var 31, .var 32, .int .i64 (.var 33), .int .i64 (.var 34), .int .i64 (.var 35), .bool (.var 36)],
 .agg [.int .i64 (.var 6), .int .i64 (.var 7), .int .i64 (.var 8), .var 9, .var 10]] [.int .i64, .int .i64, .int .i64, .int .i64, .slice, .slice, .slice, .int .i64, .int .i64, .int .i64, .bool, .bool] (.tuple [.agg [.int
 .i64 (.var 42), .int .i64 (.var 43), .int .i64 (.var 44), .int .i64 (.var 45), .var 46, .var 47, .var 48, .int .i64 (.var 49), .int .i64 (.var 50), .int .i64 (.var 51), .bool (.var 52)], .bool (.var 53)]) [] false [] []
 [38, 17, 16] [(38, qc2), (17, qc0), (16, qc1)] (.blk (.call 15 [.var 41, .agg [.int .i64 (.var 26), .int .i64 (.var 27), .int .i64 (.var 28), .int .i64 (.var 29), .var 30, .var 31, .var 32, .int .i64 (.var 33), .int
 .i64 (.var 34), .int .i64 (.var 35), .bool (.var 36)], .agg [.int .i64 (.var 11), .int .i64 (.var 12), .int .i64 (.var 13), .var 14, .var 15]] [.int .i64, .int .i64, .int .i64, .int .i64, .slice, .slice, .slice, .int
 .i64, .int .i64, .int .i64, .bool, .bool] (.tuple [.agg [.int .i64 (.var 55), .int .i64 (.var 56), .int .i64 (.var 57), .int .i64 (.var 58), .var 59, .var 60, .var 61, .int .i64 (.var 62), .int .i64 (.var 63), .int .i64
 (.var 64), .bool (.var 65)], .bool (.var 66)]) [] false [54] [] [54, 38, 17, 16] [(54, qc4), (38, qc2), (17, qc0), (16, qc1)] (.blk (.split (.var 53) (.split (.var 66) (.call 16 [.var 25, .agg [.int .i64 (.var 42), .int
 .i64 (.var 43), .int .i64 (.var 44), .int .i64 (.var 45), .var 46, .var 47, .var 48, .int .i64 (.var 49), .int .i64 (.var 50), .int .i64 (.var 51), .bool (.var 52)]] [.bool] (.bool (.var 68)) [] false [67] [] [67, 54,
 38, 17, 16] [(67, qc5), (54, qc4), (38, qc2), (17, qc0), (16, qc1)] (.split (.var 68) (.call 16 [.var 41, .agg [.int .i64 (.var 55), .int .i64 (.var 56), .int .i64 (.var 57), .int .i64 (.var 58), .var 59, .var 60, .var
 61, .int .i64 (.var 62), .int .i64 (.var 63), .int .i64 (.var 64), .bool (.var 65)]] [.bool] (.bool (.var 69)) [] false [] [] [67, 54, 38, 17, 16] [(67, qc5), (54, qc4), (38, qc2), (17, qc0), (16, qc1)] (.split (.var
 69) (.call 11 [] [.bool] (.bool (.var 70)) [] false [] [] [67, 54, 38, 17, 16] [(67, qc5), (54, qc4), (38, qc2), (17, qc0), (16, qc1)] (.leaf 0 [.bool (.var 70)] [] [(67, qc5), (54, qc4), (38, qc2), (17, qc0), (16,
 qc1)])) q15)) q15)) q16) q16))))))))))))))))))))))))))) := by kernel_rfl

end Go.Proofs.Ytppbapnibpeolaa
