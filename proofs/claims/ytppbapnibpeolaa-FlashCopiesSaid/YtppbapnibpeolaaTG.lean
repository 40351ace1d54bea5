/- What the functions of the chapter come to, printed by a program of the prover's and checked by the kernel. No conditions. -/
import Derived.Test.YtppbapnibpeolaaSxZI
import Derived.Test.YtppbapnibpeolaaProg
import Derived.KernelRfl
set_option maxRecDepth 100000
set_option linter.unusedVariables false
namespace Go.Proofs.Ytppbapnibpeolaa
open Go.Sx

theorem t31 : exFn { P := Try.prog, lastOut := true, loops := (fun r => if Nat.beq r 4 then some ⟨1, [(6, .int .i64)], []⟩ else if Nat.beq r 10 then some ⟨2, [(8, .int .i64)], []⟩ else none), joins := (fun r => if Nat.beq r 9 then some ⟨3, [(7, .ptr)], []⟩ else none), dropJ := fun r => if Nat.beq r 9 then [7] else [] }
 31 [.agg [.int .i64 (.var 0), .int .i64 (.var 1), .int .i64 (.var 2), .int .i64 (.var 3)], .var 4] [.int .i64, .int .i64, .int .i64, .int .i64, .slice] [] = .blk (.blk (.call 10 [.agg [.int .i64 (.var
 0), .int .i64 (.var 1), .int .i64 (.var 2), .int .i64 (.var 3)]] [.bool] (.bool (.var 7)) [] false [] [] [6, 5] [(6, [.int .i64 (.lit 0), .int .i64 (.lit
 0), .int .i64 (.lit 0), .int .i64 (.lit 0), .cst (.slice none 0 0), .cst (.slice none 0 0), .cst (.slice none 0 0), .int .i64 (.lit 0), .int .i64 (.lit
 0), .int .i64 (.lit 0), .bool (.lit false)]), (5, [.int .i64 (.var 0), .int .i64 (.var 1), .int .i64 (.var 2), .int .i64 (.var 3)])] (.split (.not (.var
 7)) (.leaf 0 [.tuple [.agg [.int .i64 (.lit 0), .int .i64 (.lit 0), .int .i64 (.lit 0), .int .i64 (.lit 0), .cst (.slice none 0 0), .cst (.slice none 0 0),
 .cst (.slice none 0 0), .int .i64 (.lit 0), .int .i64 (.lit 0), .int .i64 (.lit 0), .bool (.lit false)], .int .i64 (.lit 2)]] [6] [(6, [.int .i64 (.lit
 0), .int .i64 (.lit 0), .int .i64 (.lit 0), .int .i64 (.lit 0), .cst (.slice none 0 0), .cst (.slice none 0 0), .cst (.slice none 0 0), .int .i64 (.lit
 0), .int .i64 (.lit 0), .int .i64 (.lit 0), .bool (.lit false)]), (5, [.int .i64 (.var 0), .int .i64 (.var 1), .int .i64 (.var 2), .int .i64 (.var
 3)])]) (.loop 1 [.int .i64 (.lit 0)] [.int .i64] [] [6, 5] [(6, [.int .i64 (.lit 0), .int .i64 (.lit 0), .int .i64 (.lit 0), .int .i64 (.lit 0), .cst
 (.slice none 0 0), .cst (.slice none 0 0), .cst (.slice none 0 0), .int .i64 (.lit 0), .int .i64 (.lit 0), .int .i64 (.lit 0), .bool (.lit false)]), (5, [.int
 .i64 (.var 0), .int .i64 (.var 1), .int .i64 (.var 2), .int .i64 (.var 3)])] [(6, [.int .i64 (.lit 0), .int .i64 (.lit 0), .int .i64 (.lit 0),
 .int .i64 (.lit 0), .cst (.slice none 0 0), .cst (.slice none 0 0), .cst (.slice none 0 0), .int .i64 (.lit 0), .int .i64 (.lit 0), .int .i64 (.lit 0),
 .bool (.lit false)]), (5, [.int .i64 (.var 0), .int .i64 (.var 1), .int .i64 (.var 2), .int .i64 (.var 3)])] (.split (.lt (.var 8) (.len 4)) (.ob (.le (.lit
 0) (.var 8)) (.ob (.lt (.var 8) (.len 4)) (.ob (.not (.nil 4)) (.start false [] [] [(6, [.int .i64 (.lit 0), .int .i64 (.lit 0), .int .i64 (.lit 0), .int .i64
 (.lit 0), .cst (.slice none 0 0), .cst (.slice none 0 0), .cst (.slice none 0 0), .int .i64 (.lit 0), .int .i64 (.lit 0), .int .i64 (.lit 0), .bool (.lit
 false)]), (5, [.int .i64 (.var 0), .int .i64 (.var 1), .int .i64 (.var 2), .int .i64 (.var 3)])] (.load (.elt 4 0 (.var 8) 1 0) [.int .i64] (.split (.lt
 (.var 9) (.lit 0)) (.leaf 0 [.tuple [.agg [.int .i64 (.lit 0), .int .i64 (.lit 0), .int .i64 (.lit 0), .int .i64 (.lit 0), .cst (.slice none 0 0), .cst
 (.slice none 0 0), .cst (.slice none 0 0), .int .i64 (.lit 0), .int .i64 (.lit 0), .int .i64 (.lit 0), .bool (.lit false)], .int .i64 (.lit 2)]] [6] [(6,
 [.int .i64 (.lit 0), .int .i64 (.lit 0), .int .i64 (.lit 0), .int .i64 (.lit 0), .cst (.slice none 0 0), .cst (.slice none 0 0), .cst (.slice none 0 0),
 .int .i64 (.lit 0), .int .i64 (.lit 0), .int .i64 (.lit 0), .bool (.lit false)]), (5, [.int .i64 (.var 0), .int .i64 (.var 1), .int .i64 (.var 2),
 .int .i64 (.var 3)])]) (.ob (.le (.lit (-9223372036854775808)) (.add (.var 8) (.lit 1))) (.ob (.le (.add (.var 8) (.lit 1)) (.lit 9223372036854775807)) (.leaf 1 [.int .i64
 (.add (.var 8) (.lit 1))] [] [(6, [.int .i64 (.lit 0), .int .i64 (.lit 0), .int .i64 (.lit 0), .int .i64 (.lit 0), .cst (.slice none 0 0), .cst (.slice
 none 0 0), .cst (.slice none 0 0), .int .i64 (.lit 0), .int .i64 (.lit 0), .int .i64 (.lit 0), .bool (.lit false)]), (5, [.int .i64 (.var 0), .int .i64
 (.var 1), .int .i64 (.var 2), .int .i64 (.var 3)])]))))))))) (.cut 3 [.ptr] [6, 5] [(6, [.int .i64 (.lit 0), .int .i64 (.lit 0), .int .i64 (.lit 0), .int
 .i64 (.lit 0), .cst (.slice none 0 0), .cst (.slice none 0 0), .cst (.slice none 0 0), .int .i64 (.lit 0), .int .i64 (.lit 0), .int .i64 (.lit 0), .bool
 (.lit false)]), (5, [.int .i64 (.var 0), .int .i64 (.var 1), .int .i64 (.var 2), .int .i64 (.var 3)])] (.start true [] [6, 5] [(6, [.int .i64 (.lit 0), .int
 .i64 (.lit 0), .int .i64 (.lit 0), .int .i64 (.lit 0), .cst (.slice none 0 0), .cst (.slice none 0 0), .cst (.slice none 0 0), .int .i64 (.lit 0), .int
 .i64 (.lit 0), .int .i64 (.lit 0), .bool (.lit false)]), (5, [.int .i64 (.var 0), .int .i64 (.var 1), .int .i64 (.var 2), .int .i64 (.var 3)])]
 (.both (.blk (.both (.gen (.call { callee := .builtin .append, args := #[.tmp 26, .tmp 27], argTypes := #[24, 24] }) 24 [(.tmp 26, .slc 9 0 0 0), (.tmp 27, .var 4)]
 [.slice] (.var 10) [] true [] [] [9, 6, 5] [(9, []), (6, [.int .i64 (.lit 0), .int .i64 (.lit 0), .int .i64 (.lit 0), .int .i64 (.lit 0), .cst (.slice none 0 0),
 .cst (.slice none 0 0), .cst (.slice none 0 0), .int .i64 (.lit 0), .int .i64 (.lit 0), .int .i64 (.lit 0), .bool (.lit false)]), (5, [.int .i64 (.var 0),
 .int .i64 (.var 1), .int .i64 (.var 2), .int .i64 (.var 3)])] (.both (.gen (.makeSlice 24 (.tmp 30) (.tmp 30)) 24 [(.tmp 30, .int .i64 (.var 0)),
 (.tmp 30, .int .i64 (.var 0))] [.slice] (.var 11) [] true [] [] [9, 6, 5] [(9, []), (6, [.int .i64 (.lit 0), .int .i64 (.lit 0), .int .i64 (.lit 0), .int
 .i64 (.lit 0), .cst (.slice none 0 0), .cst (.slice none 0 0), .cst (.slice none 0 0), .int .i64 (.lit 0), .int .i64 (.lit 0), .int .i64 (.lit 0), .bool
 (.lit false)]), (5, [.int .i64 (.var 0), .int .i64 (.var 1), .int .i64 (.var 2), .int .i64 (.var 3)])] (.blk (.leaf 3 [.ptr 12 0] [12] [(12, [.int .i64
 (.var 0), .int .i64 (.var 1), .int .i64 (.var 2), .int .i64 (.var 3), .var 10, .cst (.slice none 0 0), .var 11, .int .i64 (.lit 0), .int .i64 (.lit
 (-1)), .int .i64 (.lit 0), .bool (.lit false)]), (9, []), (6, [.int .i64 (.lit 0), .int .i64 (.lit 0), .int .i64 (.lit 0), .int .i64 (.lit 0), .cst
 (.slice none 0 0), .cst (.slice none 0 0), .cst (.slice none 0 0), .int .i64 (.lit 0), .int .i64 (.lit 0), .int .i64 (.lit 0), .bool (.lit false)]), (5, [.int
 .i64 (.var 0), .int .i64 (.var 1), .int .i64 (.var 2), .int .i64 (.var 3)])]))) (.blk (.gen (.makeSlice 24 (.tmp 30) (.tmp 30)) 24 [(.tmp 30, .int
 .i64 (.var 0)), (.tmp 30, .int .i64 (.var 0))] [.slice] (.var 12) [] true [] [] [11, 9, 6, 5] [(11, [.int .i64 (.lit 0), .int .i64 (.lit 0), .int .i64
 (.lit 0), .int .i64 (.lit 0), .cst (.slice none 0 0), .cst (.slice none 0 0), .cst (.slice none 0 0), .int .i64 (.lit 0), .int .i64 (.lit 0), .int .i64
 (.lit 0), .bool (.lit false)]), (9, []), (6, [.int .i64 (.lit 0), .int .i64 (.lit 0), .int .i64 (.lit 0), .int .i64 (.lit 0), .cst (.slice none 0 0), .cst
 (.slice none 0 0), .cst (.slice none 0 0), .int .i64 (.lit 0), .int .i64 (.lit 0), .int .i64 (.lit 0), .bool (.lit false)]), (5, [.int .i64 (.var 0), .int
 .i64 (.var 1), .int .i64 (.var 2), .int .i64 (.var 3)])] (.leaf 3 [.ptr 11 0] [11] [(11, [.int .i64 (.var 0), .int .i64 (.var 1), .int .i64 (.var 2),
 .int .i64 (.var 3), .var 10, .cst (.slice none 0 0), .var 12, .int .i64 (.lit 0), .int .i64 (.lit (-1)), .int .i64 (.lit 0), .bool (.lit false)]), (9, []), (6,
 [.int .i64 (.lit 0), .int .i64 (.lit 0), .int .i64 (.lit 0), .int .i64 (.lit 0), .cst (.slice none 0 0), .cst (.slice none 0 0), .cst (.slice none 0 0),
 .int .i64 (.lit 0), .int .i64 (.lit 0), .int .i64 (.lit 0), .bool (.lit false)]), (5, [.int .i64 (.var 0), .int .i64 (.var 1), .int .i64 (.var 2),
 .int .i64 (.var 3)])]))))) (.both (.gen (.makeSlice 24 (.tmp 30) (.tmp 30)) 24 [(.tmp 30, .int .i64 (.var 0)), (.tmp 30, .int .i64 (.var 0))]
 [.slice] (.var 10) [] true [] [] [9, 6, 5] [(9, []), (6, [.int .i64 (.lit 0), .int .i64 (.lit 0), .int .i64 (.lit 0), .int .i64 (.lit 0), .cst (.slice none 0 0),
 .cst (.slice none 0 0), .cst (.slice none 0 0), .int .i64 (.lit 0), .int .i64 (.lit 0), .int .i64 (.lit 0), .bool (.lit false)]), (5, [.int .i64 (.var 0),
 .int .i64 (.var 1), .int .i64 (.var 2), .int .i64 (.var 3)])] (.both (.gen (.call { callee := .builtin .append, args := #[.tmp 26, .tmp 27], argTypes := #[24, 24] })
 24 [(.tmp 26, .slc 9 0 0 0), (.tmp 27, .var 4)] [.slice] (.var 11) [] true [] [] [9, 6, 5] [(9, []), (6, [.int .i64 (.lit 0), .int .i64 (.lit 0), .int .i64 (.lit
 0), .int .i64 (.lit 0), .cst (.slice none 0 0), .cst (.slice none 0 0), .cst (.slice none 0 0), .int .i64 (.lit 0), .int .i64 (.lit 0), .int .i64 (.lit
 0), .bool (.lit false)]), (5, [.int .i64 (.var 0), .int .i64 (.var 1), .int .i64 (.var 2), .int .i64 (.var 3)])] (.blk (.leaf 3 [.ptr 12 0] [12] [(12, [.int
 .i64 (.var 0), .int .i64 (.var 1), .int .i64 (.var 2), .int .i64 (.var 3), .var 11, .cst (.slice none 0 0), .var 10, .int .i64 (.lit 0), .int .i64
 (.lit (-1)), .int .i64 (.lit 0), .bool (.lit false)]), (9, []), (6, [.int .i64 (.lit 0), .int .i64 (.lit 0), .int .i64 (.lit 0), .int .i64 (.lit 0), .cst
 (.slice none 0 0), .cst (.slice none 0 0), .cst (.slice none 0 0), .int .i64 (.lit 0), .int .i64 (.lit 0), .int .i64 (.lit 0), .bool (.lit false)]), (5, [.int
 .i64 (.var 0), .int .i64 (.var 1), .int .i64 (.var 2), .int .i64 (.var 3)])]))) (.blk (.gen (.call { callee := .builtin .append, args := #[.tmp 26, .tmp 27], argTypes := #[24, 24] })
 24 [(.tmp 26, .slc 9 0 0 0), (.tmp 27, .var 4)] [.slice] (.var 12) [] true [] [] [11, 9, 6, 5] [(11, [.int .i64 (.lit 0), .int .i64 (.lit 0), .int .i64 (.lit 0),
 .int .i64 (.lit 0), .cst (.slice none 0 0), .cst (.slice none 0 0), .cst (.slice none 0 0), .int .i64 (.lit 0), .int .i64 (.lit 0), .int .i64 (.lit 0),
 .bool (.lit false)]), (9, []), (6, [.int .i64 (.lit 0), .int .i64 (.lit 0), .int .i64 (.lit 0), .int .i64 (.lit 0), .cst (.slice none 0 0), .cst (.slice none
 0 0), .cst (.slice none 0 0), .int .i64 (.lit 0), .int .i64 (.lit 0), .int .i64 (.lit 0), .bool (.lit false)]), (5, [.int .i64 (.var 0), .int .i64 (.var
 1), .int .i64 (.var 2), .int .i64 (.var 3)])] (.leaf 3 [.ptr 11 0] [11] [(11, [.int .i64 (.var 0), .int .i64 (.var 1), .int .i64 (.var 2), .int .i64
 (.var 3), .var 12, .cst (.slice none 0 0), .var 10, .int .i64 (.lit 0), .int .i64 (.lit (-1)), .int .i64 (.lit 0), .bool (.lit false)]), (9, []), (6, [.int .i64
 (.lit 0), .int .i64 (.lit 0), .int .i64 (.lit 0), .int .i64 (.lit 0), .cst (.slice none 0 0), .cst (.slice none 0 0), .cst (.slice none 0 0), .int .i64
 (.lit 0), .int .i64 (.lit 0), .int .i64 (.lit 0), .bool (.lit false)]), (5, [.int .i64 (.var 0), .int .i64 (.var 1), .int .i64 (.var 2), .int .i64
 (.var 3)])]))))) (.blk (.both (.gen (.call { callee := .builtin .append, args := #[.tmp 26, .tmp 27], argTypes := #[24, 24] }) 24 [(.tmp 26, .slc 9 0 0 0), (.tmp 27,
 .var 4)] [.slice] (.var 11) [] true [] [] [10, 9, 6, 5] [(10, [.int .i64 (.lit 0), .int .i64 (.lit 0), .int .i64 (.lit 0), .int .i64 (.lit 0), .cst (.slice none
 0 0), .cst (.slice none 0 0), .cst (.slice none 0 0), .int .i64 (.lit 0), .int .i64 (.lit 0), .int .i64 (.lit 0), .bool (.lit false)]), (9, []), (6, [.int .i64
 (.lit 0), .int .i64 (.lit 0), .int .i64 (.lit 0), .int .i64 (.lit 0), .cst (.slice none 0 0), .cst (.slice none 0 0), .cst (.slice none 0 0), .int .i64
 (.lit 0), .int .i64 (.lit 0), .int .i64 (.lit 0), .bool (.lit false)]), (5, [.int .i64 (.var 0), .int .i64 (.var 1), .int .i64 (.var 2), .int .i64
 (.var 3)])] (.gen (.makeSlice 24 (.tmp 30) (.tmp 30)) 24 [(.tmp 30, .int .i64 (.var 0)), (.tmp 30, .int .i64 (.var 0))] [.slice] (.var 12) [] true [] [] [10,
 9, 6, 5] [(10, [.int .i64 (.lit 0), .int .i64 (.lit 0), .int .i64 (.lit 0), .int .i64 (.lit 0), .cst (.slice none 0 0), .cst (.slice none 0 0), .cst
 (.slice none 0 0), .int .i64 (.lit 0), .int .i64 (.lit 0), .int .i64 (.lit 0), .bool (.lit false)]), (9, []), (6, [.int .i64 (.lit 0), .int .i64 (.lit 0),
 .int .i64 (.lit 0), .int .i64 (.lit 0), .cst (.slice none 0 0), .cst (.slice none 0 0), .cst (.slice none 0 0), .int .i64 (.lit 0), .int .i64 (.lit 0),
 .int .i64 (.lit 0), .bool (.lit false)]), (5, [.int .i64 (.var 0), .int .i64 (.var 1), .int .i64 (.var 2), .int .i64 (.var 3)])] (.leaf 3 [.ptr 10 0] [10]
 [(10, [.int .i64 (.var 0), .int .i64 (.var 1), .int .i64 (.var 2), .int .i64 (.var 3), .var 11, .cst (.slice none 0 0), .var 12, .int .i64 (.lit 0),
 .int .i64 (.lit (-1)), .int .i64 (.lit 0), .bool (.lit false)]), (9, []), (6, [.int .i64 (.lit 0), .int .i64 (.lit 0), .int .i64 (.lit 0), .int .i64
 (.lit 0), .cst (.slice none 0 0), .cst (.slice none 0 0), .cst (.slice none 0 0), .int .i64 (.lit 0), .int .i64 (.lit 0), .int .i64 (.lit 0), .bool (.lit
 false)]), (5, [.int .i64 (.var 0), .int .i64 (.var 1), .int .i64 (.var 2), .int .i64 (.var 3)])]))) (.gen (.makeSlice 24 (.tmp 30) (.tmp 30)) 24
 [(.tmp 30, .int .i64 (.var 0)), (.tmp 30, .int .i64 (.var 0))] [.slice] (.var 11) [] true [] [] [10, 9, 6, 5] [(10, [.int .i64 (.lit 0), .int .i64 (.lit
 0), .int .i64 (.lit 0), .int .i64 (.lit 0), .cst (.slice none 0 0), .cst (.slice none 0 0), .cst (.slice none 0 0), .int .i64 (.lit 0), .int .i64 (.lit
 0), .int .i64 (.lit 0), .bool (.lit false)]), (9, []), (6, [.int .i64 (.lit 0), .int .i64 (.lit 0), .int .i64 (.lit 0), .int .i64 (.lit 0), .cst (.slice
 none 0 0), .cst (.slice none 0 0), .cst (.slice none 0 0), .int .i64 (.lit 0), .int .i64 (.lit 0), .int .i64 (.lit 0), .bool (.lit false)]), (5, [.int .i64
 (.var 0), .int .i64 (.var 1), .int .i64 (.var 2), .int .i64 (.var 3)])] (.gen (.call { callee := .builtin .append, args := #[.tmp 26, .tmp 27], argTypes := #[24, 24] })
 24 [(.tmp 26, .slc 9 0 0 0), (.tmp 27, .var 4)] [.slice] (.var 12) [] true [] [] [10, 9, 6, 5] [(10, [.int .i64 (.lit 0), .int .i64 (.lit 0), .int .i64 (.lit 0),
 .int .i64 (.lit 0), .cst (.slice none 0 0), .cst (.slice none 0 0), .cst (.slice none 0 0), .int .i64 (.lit 0), .int .i64 (.lit 0), .int .i64 (.lit 0),
 .bool (.lit false)]), (9, []), (6, [.int .i64 (.lit 0), .int .i64 (.lit 0), .int .i64 (.lit 0), .int .i64 (.lit 0), .cst (.slice none 0 0), .cst (.slice none
 0 0), .cst (.slice none 0 0), .int .i64 (.lit 0), .int .i64 (.lit 0), .int .i64 (.lit 0), .bool (.lit false)]), (5, [.int .i64 (.var 0), .int .i64 (.var
 1), .int .i64 (.var 2), .int .i64 (.var 3)])] (.leaf 3 [.ptr 10 0] [10] [(10, [.int .i64 (.var 0), .int .i64 (.var 1), .int .i64 (.var 2), .int .i64
 (.var 3), .var 12, .cst (.slice none 0 0), .var 11, .int .i64 (.lit 0), .int .i64 (.lit (-1)), .int .i64 (.lit 0), .bool (.lit false)]), (9, []), (6, [.int .i64
 (.lit 0), .int .i64 (.lit 0), .int .i64 (.lit 0), .int .i64 (.lit 0), .cst (.slice none 0 0), .cst (.slice none 0 0), .cst (.slice none 0 0), .int .i64
 (.lit 0), .int .i64 (.lit 0), .int .i64 (.lit 0), .bool (.lit false)]), (5, [.int .i64 (.var 0), .int .i64 (.var 1), .int .i64 (.var 2), .int .i64
 (.var 3)])])))))))) (.both (.gen (.makeSlice 24 (.tmp 30) (.tmp 30)) 24 [(.tmp 30, .int .i64 (.var 0)), (.tmp 30, .int .i64 (.var 0))] [.slice] (.var 9) []
 true [] [] [6, 5] [(6, [.int .i64 (.lit 0), .int .i64 (.lit 0), .int .i64 (.lit 0), .int .i64 (.lit 0), .cst (.slice none 0 0), .cst (.slice none 0 0), .cst
 (.slice none 0 0), .int .i64 (.lit 0), .int .i64 (.lit 0), .int .i64 (.lit 0), .bool (.lit false)]), (5, [.int .i64 (.var 0), .int .i64 (.var 1), .int
 .i64 (.var 2), .int .i64 (.var 3)])] (.both (.blk (.both (.gen (.call { callee := .builtin .append, args := #[.tmp 26, .tmp 27], argTypes := #[24, 24] }) 24
 [(.tmp 26, .slc 10 0 0 0), (.tmp 27, .var 4)] [.slice] (.var 11) [] true [] [] [10, 6, 5] [(10, []), (6, [.int .i64 (.lit 0), .int .i64 (.lit 0), .int .i64 (.lit
 0), .int .i64 (.lit 0), .cst (.slice none 0 0), .cst (.slice none 0 0), .cst (.slice none 0 0), .int .i64 (.lit 0), .int .i64 (.lit 0), .int .i64 (.lit
 0), .bool (.lit false)]), (5, [.int .i64 (.var 0), .int .i64 (.var 1), .int .i64 (.var 2), .int .i64 (.var 3)])] (.blk (.leaf 3 [.ptr 12 0] [12] [(12, [.int
 .i64 (.var 0), .int .i64 (.var 1), .int .i64 (.var 2), .int .i64 (.var 3), .var 11, .cst (.slice none 0 0), .var 9, .int .i64 (.lit 0), .int .i64
 (.lit (-1)), .int .i64 (.lit 0), .bool (.lit false)]), (10, []), (6, [.int .i64 (.lit 0), .int .i64 (.lit 0), .int .i64 (.lit 0), .int .i64 (.lit 0), .cst
 (.slice none 0 0), .cst (.slice none 0 0), .cst (.slice none 0 0), .int .i64 (.lit 0), .int .i64 (.lit 0), .int .i64 (.lit 0), .bool (.lit false)]), (5, [.int
 .i64 (.var 0), .int .i64 (.var 1), .int .i64 (.var 2), .int .i64 (.var 3)])]))) (.blk (.gen (.call { callee := .builtin .append, args := #[.tmp 26, .tmp 27], argTypes := #[24, 24] })
 24 [(.tmp 26, .slc 10 0 0 0), (.tmp 27, .var 4)] [.slice] (.var 12) [] true [] [] [11, 10, 6, 5] [(11, [.int .i64 (.lit 0), .int .i64 (.lit 0), .int .i64 (.lit
 0), .int .i64 (.lit 0), .cst (.slice none 0 0), .cst (.slice none 0 0), .cst (.slice none 0 0), .int .i64 (.lit 0), .int .i64 (.lit 0), .int .i64 (.lit
 0), .bool (.lit false)]), (10, []), (6, [.int .i64 (.lit 0), .int .i64 (.lit 0), .int .i64 (.lit 0), .int .i64 (.lit 0), .cst (.slice none 0 0), .cst (.slice
 none 0 0), .cst (.slice none 0 0), .int .i64 (.lit 0), .int .i64 (.lit 0), .int .i64 (.lit 0), .bool (.lit false)]), (5, [.int .i64 (.var 0), .int .i64
 (.var 1), .int .i64 (.var 2), .int .i64 (.var 3)])] (.leaf 3 [.ptr 11 0] [11] [(11, [.int .i64 (.var 0), .int .i64 (.var 1), .int .i64 (.var 2), .int
 .i64 (.var 3), .var 12, .cst (.slice none 0 0), .var 9, .int .i64 (.lit 0), .int .i64 (.lit (-1)), .int .i64 (.lit 0), .bool (.lit false)]), (10, []), (6, [.int
 .i64 (.lit 0), .int .i64 (.lit 0), .int .i64 (.lit 0), .int .i64 (.lit 0), .cst (.slice none 0 0), .cst (.slice none 0 0), .cst (.slice none 0 0), .int
 .i64 (.lit 0), .int .i64 (.lit 0), .int .i64 (.lit 0), .bool (.lit false)]), (5, [.int .i64 (.var 0), .int .i64 (.var 1), .int .i64 (.var 2), .int
 .i64 (.var 3)])]))))) (.blk (.blk (.gen (.call { callee := .builtin .append, args := #[.tmp 26, .tmp 27], argTypes := #[24, 24] }) 24 [(.tmp 26, .slc 11 0 0 0),
 (.tmp 27, .var 4)] [.slice] (.var 12) [] true [] [] [11, 10, 6, 5] [(11, []), (10, [.int .i64 (.lit 0), .int .i64 (.lit 0), .int .i64 (.lit 0), .int .i64 (.lit
 0), .cst (.slice none 0 0), .cst (.slice none 0 0), .cst (.slice none 0 0), .int .i64 (.lit 0), .int .i64 (.lit 0), .int .i64 (.lit 0), .bool (.lit false)]), (6,
 [.int .i64 (.lit 0), .int .i64 (.lit 0), .int .i64 (.lit 0), .int .i64 (.lit 0), .cst (.slice none 0 0), .cst (.slice none 0 0), .cst (.slice none 0 0),
 .int .i64 (.lit 0), .int .i64 (.lit 0), .int .i64 (.lit 0), .bool (.lit false)]), (5, [.int .i64 (.var 0), .int .i64 (.var 1), .int .i64 (.var 2),
 .int .i64 (.var 3)])] (.leaf 3 [.ptr 10 0] [10] [(11, []), (10, [.int .i64 (.var 0), .int .i64 (.var 1), .int .i64 (.var 2), .int .i64 (.var 3), .var 12,
 .cst (.slice none 0 0), .var 9, .int .i64 (.lit 0), .int .i64 (.lit (-1)), .int .i64 (.lit 0), .bool (.lit false)]), (6, [.int .i64 (.lit 0), .int .i64
 (.lit 0), .int .i64 (.lit 0), .int .i64 (.lit 0), .cst (.slice none 0 0), .cst (.slice none 0 0), .cst (.slice none 0 0), .int .i64 (.lit 0), .int .i64
 (.lit 0), .int .i64 (.lit 0), .bool (.lit false)]), (5, [.int .i64 (.var 0), .int .i64 (.var 1), .int .i64 (.var 2), .int .i64 (.var 3)])])))))) (.blk
 (.both (.blk (.both (.gen (.call { callee := .builtin .append, args := #[.tmp 26, .tmp 27], argTypes := #[24, 24] }) 24 [(.tmp 26, .slc 10 0 0 0), (.tmp 27, .var
 4)] [.slice] (.var 11) [] true [] [] [10, 9, 6, 5] [(10, []), (9, [.int .i64 (.lit 0), .int .i64 (.lit 0), .int .i64 (.lit 0), .int .i64 (.lit 0), .cst (.slice
 none 0 0), .cst (.slice none 0 0), .cst (.slice none 0 0), .int .i64 (.lit 0), .int .i64 (.lit 0), .int .i64 (.lit 0), .bool (.lit false)]), (6, [.int .i64
 (.lit 0), .int .i64 (.lit 0), .int .i64 (.lit 0), .int .i64 (.lit 0), .cst (.slice none 0 0), .cst (.slice none 0 0), .cst (.slice none 0 0), .int .i64
 (.lit 0), .int .i64 (.lit 0), .int .i64 (.lit 0), .bool (.lit false)]), (5, [.int .i64 (.var 0), .int .i64 (.var 1), .int .i64 (.var 2), .int .i64
 (.var 3)])] (.gen (.makeSlice 24 (.tmp 30) (.tmp 30)) 24 [(.tmp 30, .int .i64 (.var 0)), (.tmp 30, .int .i64 (.var 0))] [.slice] (.var 12) [] true [] [] [10,
 9, 6, 5] [(10, []), (9, [.int .i64 (.lit 0), .int .i64 (.lit 0), .int .i64 (.lit 0), .int .i64 (.lit 0), .cst (.slice none 0 0), .cst (.slice none 0 0), .cst
 (.slice none 0 0), .int .i64 (.lit 0), .int .i64 (.lit 0), .int .i64 (.lit 0), .bool (.lit false)]), (6, [.int .i64 (.lit 0), .int .i64 (.lit 0), .int
 .i64 (.lit 0), .int .i64 (.lit 0), .cst (.slice none 0 0), .cst (.slice none 0 0), .cst (.slice none 0 0), .int .i64 (.lit 0), .int .i64 (.lit 0), .int
 .i64 (.lit 0), .bool (.lit false)]), (5, [.int .i64 (.var 0), .int .i64 (.var 1), .int .i64 (.var 2), .int .i64 (.var 3)])] (.leaf 3 [.ptr 9 0] [9] [(10, []),
 (9, [.int .i64 (.var 0), .int .i64 (.var 1), .int .i64 (.var 2), .int .i64 (.var 3), .var 11, .cst (.slice none 0 0), .var 12, .int .i64 (.lit 0), .int
 .i64 (.lit (-1)), .int .i64 (.lit 0), .bool (.lit false)]), (6, [.int .i64 (.lit 0), .int .i64 (.lit 0), .int .i64 (.lit 0), .int .i64 (.lit 0), .cst
 (.slice none 0 0), .cst (.slice none 0 0), .cst (.slice none 0 0), .int .i64 (.lit 0), .int .i64 (.lit 0), .int .i64 (.lit 0), .bool (.lit false)]), (5, [.int
 .i64 (.var 0), .int .i64 (.var 1), .int .i64 (.var 2), .int .i64 (.var 3)])]))) (.gen (.makeSlice 24 (.tmp 30) (.tmp 30)) 24 [(.tmp 30, .int
 .i64 (.var 0)), (.tmp 30, .int .i64 (.var 0))] [.slice] (.var 11) [] true [] [] [10, 9, 6, 5] [(10, []), (9, [.int .i64 (.lit 0), .int .i64 (.lit 0), .int
 .i64 (.lit 0), .int .i64 (.lit 0), .cst (.slice none 0 0), .cst (.slice none 0 0), .cst (.slice none 0 0), .int .i64 (.lit 0), .int .i64 (.lit 0), .int
 .i64 (.lit 0), .bool (.lit false)]), (6, [.int .i64 (.lit 0), .int .i64 (.lit 0), .int .i64 (.lit 0), .int .i64 (.lit 0), .cst (.slice none 0 0), .cst
 (.slice none 0 0), .cst (.slice none 0 0), .int .i64 (.lit 0), .int .i64 (.lit 0), .int .i64 (.lit 0), .bool (.lit false)]), (5, [.int .i64 (.var 0), .int
 .i64 (.var 1), .int .i64 (.var 2), .int .i64 (.var 3)])] (.gen (.call { callee := .builtin .append, args := #[.tmp 26, .tmp 27], argTypes := #[24, 24] }) 24
 [(.tmp 26, .slc 10 0 0 0), (.tmp 27, .var 4)] [.slice] (.var 12) [] true [] [] [10, 9, 6, 5] [(10, []), (9, [.int .i64 (.lit 0), .int .i64 (.lit 0), .int .i64
 (.lit 0), .int .i64 (.lit 0), .cst (.slice none 0 0), .cst (.slice none 0 0), .cst (.slice none 0 0), .int .i64 (.lit 0), .int .i64 (.lit 0), .int .i64
 (.lit 0), .bool (.lit false)]), (6, [.int .i64 (.lit 0), .int .i64 (.lit 0), .int .i64 (.lit 0), .int .i64 (.lit 0), .cst (.slice none 0 0), .cst (.slice
 none 0 0), .cst (.slice none 0 0), .int .i64 (.lit 0), .int .i64 (.lit 0), .int .i64 (.lit 0), .bool (.lit false)]), (5, [.int .i64 (.var 0), .int .i64
 (.var 1), .int .i64 (.var 2), .int .i64 (.var 3)])] (.leaf 3 [.ptr 9 0] [9] [(10, []), (9, [.int .i64 (.var 0), .int .i64 (.var 1), .int .i64 (.var 2), .int
 .i64 (.var 3), .var 12, .cst (.slice none 0 0), .var 11, .int .i64 (.lit 0), .int .i64 (.lit (-1)), .int .i64 (.lit 0), .bool (.lit false)]), (6, [.int
 .i64 (.lit 0), .int .i64 (.lit 0), .int .i64 (.lit 0), .int .i64 (.lit 0), .cst (.slice none 0 0), .cst (.slice none 0 0), .cst (.slice none 0 0), .int
 .i64 (.lit 0), .int .i64 (.lit 0), .int .i64 (.lit 0), .bool (.lit false)]), (5, [.int .i64 (.var 0), .int .i64 (.var 1), .int .i64 (.var 2), .int
 .i64 (.var 3)])]))))) (.gen (.makeSlice 24 (.tmp 30) (.tmp 30)) 24 [(.tmp 30, .int .i64 (.var 0)), (.tmp 30, .int .i64 (.var 0))] [.slice] (.var 10)
 [] true [] [] [9, 6, 5] [(9, [.int .i64 (.lit 0), .int .i64 (.lit 0), .int .i64 (.lit 0), .int .i64 (.lit 0), .cst (.slice none 0 0), .cst (.slice none 0 0),
 .cst (.slice none 0 0), .int .i64 (.lit 0), .int .i64 (.lit 0), .int .i64 (.lit 0), .bool (.lit false)]), (6, [.int .i64 (.lit 0), .int .i64 (.lit 0),
 .int .i64 (.lit 0), .int .i64 (.lit 0), .cst (.slice none 0 0), .cst (.slice none 0 0), .cst (.slice none 0 0), .int .i64 (.lit 0), .int .i64 (.lit 0),
 .int .i64 (.lit 0), .bool (.lit false)]), (5, [.int .i64 (.var 0), .int .i64 (.var 1), .int .i64 (.var 2), .int .i64 (.var 3)])] (.blk (.gen (.call { callee := .builtin .append, args := #[.tmp 26, .tmp 27], argTypes := #[24, 24] })
 24 [(.tmp 26, .slc 11 0 0 0), (.tmp 27, .var 4)] [.slice] (.var 12) [] true [] [] [11, 9, 6, 5] [(11, []), (9, [.int .i64 (.lit 0), .int .i64 (.lit 0), .int .i64
 (.lit 0), .int .i64 (.lit 0), .cst (.slice none 0 0), .cst (.slice none 0 0), .cst (.slice none 0 0), .int .i64 (.lit 0), .int .i64 (.lit 0), .int .i64
 (.lit 0), .bool (.lit false)]), (6, [.int .i64 (.lit 0), .int .i64 (.lit 0), .int .i64 (.lit 0), .int .i64 (.lit 0), .cst (.slice none 0 0), .cst (.slice
 none 0 0), .cst (.slice none 0 0), .int .i64 (.lit 0), .int .i64 (.lit 0), .int .i64 (.lit 0), .bool (.lit false)]), (5, [.int .i64 (.var 0), .int .i64
 (.var 1), .int .i64 (.var 2), .int .i64 (.var 3)])] (.leaf 3 [.ptr 9 0] [9] [(11, []), (9, [.int .i64 (.var 0), .int .i64 (.var 1), .int .i64 (.var 2), .int
 .i64 (.var 3), .var 12, .cst (.slice none 0 0), .var 10, .int .i64 (.lit 0), .int .i64 (.lit (-1)), .int .i64 (.lit 0), .bool (.lit false)]), (6, [.int
 .i64 (.lit 0), .int .i64 (.lit 0), .int .i64 (.lit 0), .int .i64 (.lit 0), .cst (.slice none 0 0), .cst (.slice none 0 0), .cst (.slice none 0 0), .int
 .i64 (.lit 0), .int .i64 (.lit 0), .int .i64 (.lit 0), .bool (.lit false)]), (5, [.int .i64 (.var 0), .int .i64 (.var 1), .int .i64 (.var 2), .int
 .i64 (.var 3)])]))))))))) (.loop 2 [.int .i64 (.lit 0)] [.int .i64] [] [6, 5] [(6, [.int .i64 (.lit 0), .int .i64 (.lit 0), .int .i64 (.lit 0), .int
 .i64 (.lit 0), .cst (.slice none 0 0), .cst (.slice none 0 0), .cst (.slice none 0 0), .int .i64 (.lit 0), .int .i64 (.lit 0), .int .i64 (.lit 0), .bool
 (.lit false)]), (5, [.int .i64 (.var 0), .int .i64 (.var 1), .int .i64 (.var 2), .int .i64 (.var 3)])] [(6, [.int .i64 (.lit 0), .int .i64 (.lit 0),
 .int .i64 (.lit 0), .int .i64 (.lit 0), .cst (.slice none 0 0), .cst (.slice none 0 0), .cst (.slice none 0 0), .int .i64 (.lit 0), .int .i64 (.lit 0),
 .int .i64 (.lit 0), .bool (.lit false)]), (5, [.int .i64 (.var 0), .int .i64 (.var 1), .int .i64 (.var 2), .int .i64 (.var 3)])] (.split (.lt (.var 10)
 (.var 0)) (.start true [] [6, 5] [(6, [.int .i64 (.lit 0), .int .i64 (.lit 0), .int .i64 (.lit 0), .int .i64 (.lit 0), .cst (.slice none 0 0), .cst (.slice
 none 0 0), .cst (.slice none 0 0), .int .i64 (.lit 0), .int .i64 (.lit 0), .int .i64 (.lit 0), .bool (.lit false)]), (5, [.int .i64 (.var 0), .int .i64
 (.var 1), .int .i64 (.var 2), .int .i64 (.var 3)])] (.ob (.not (.nil 9)) (.load (.ptr 9 5) [.slice] (.call 59 [.int .i64 (.var 1), .int .i64 (.lit 1)]
 [.slice] (.var 12) [] true [] [] [6, 5] [(6, [.int .i64 (.lit 0), .int .i64 (.lit 0), .int .i64 (.lit 0), .int .i64 (.lit 0), .cst (.slice none 0 0), .cst
 (.slice none 0 0), .cst (.slice none 0 0), .int .i64 (.lit 0), .int .i64 (.lit 0), .int .i64 (.lit 0), .bool (.lit false)]), (5, [.int .i64 (.var 0), .int
 .i64 (.var 1), .int .i64 (.var 2), .int .i64 (.var 3)])] (.blk (.gen (.call { callee := .builtin .append, args := #[.tmp 40, .tmp 44], argTypes := #[34, 34] })
 34 [(.tmp 40, .var 11), (.tmp 44, .slc 13 0 1 1)] [.slice] (.var 14) [] true [] [] [13, 6, 5] [(13, [.var 12]), (6, [.int .i64 (.lit 0), .int .i64 (.lit 0), .int
 .i64 (.lit 0), .int .i64 (.lit 0), .cst (.slice none 0 0), .cst (.slice none 0 0), .cst (.slice none 0 0), .int .i64 (.lit 0), .int .i64 (.lit 0), .int
 .i64 (.lit 0), .bool (.lit false)]), (5, [.int .i64 (.var 0), .int .i64 (.var 1), .int .i64 (.var 2), .int .i64 (.var 3)])] (.gen (.store 34 (.tmp 46)
 (.tmp 45)) 0 [(.tmp 46, .ptr 9 5), (.tmp 45, .var 14)] [] (.cst (.tuple #[])) [] false [] [] [13, 6, 5] [(13, [.var 12]), (6, [.int .i64 (.lit 0), .int .i64 (.lit
 0), .int .i64 (.lit 0), .int .i64 (.lit 0), .cst (.slice none 0 0), .cst (.slice none 0 0), .cst (.slice none 0 0), .int .i64 (.lit 0), .int .i64 (.lit
 0), .int .i64 (.lit 0), .bool (.lit false)]), (5, [.int .i64 (.var 0), .int .i64 (.var 1), .int .i64 (.var 2), .int .i64 (.var 3)])] (.ob (.le (.lit
 (-9223372036854775808)) (.add (.var 10) (.lit 1))) (.ob (.le (.add (.var 10) (.lit 1)) (.lit 9223372036854775807)) (.leaf 2 [.int .i64 (.add (.var 10) (.lit 1))] [] [(13, [.var 12]),
 (6, [.int .i64 (.lit 0), .int .i64 (.lit 0), .int .i64 (.lit 0), .int .i64 (.lit 0), .cst (.slice none 0 0), .cst (.slice none 0 0), .cst (.slice none 0
 0), .int .i64 (.lit 0), .int .i64 (.lit 0), .int .i64 (.lit 0), .bool (.lit false)]), (5, [.int .i64 (.var 0), .int .i64 (.var 1), .int .i64 (.var
 2), .int .i64 (.var 3)])])))))))))) (.start false [] [] [(6, [.int .i64 (.lit 0), .int .i64 (.lit 0), .int .i64 (.lit 0), .int .i64 (.lit 0), .cst (.slice
 none 0 0), .cst (.slice none 0 0), .cst (.slice none 0 0), .int .i64 (.lit 0), .int .i64 (.lit 0), .int .i64 (.lit 0), .bool (.lit false)]), (5, [.int .i64
 (.var 0), .int .i64 (.var 1), .int .i64 (.var 2), .int .i64 (.var 3)])] (.load (.ptr 9 0) [.int .i64, .int .i64, .int .i64, .int .i64,
 .slice, .slice, .slice, .int .i64, .int .i64, .int .i64, .bool] (.leaf 0 [.tuple [.agg [.int .i64 (.var 11), .int .i64 (.var 12), .int
 .i64 (.var 13), .int .i64 (.var 14), .var 15, .var 16, .var 17, .int .i64 (.var 18), .int .i64 (.var 19), .int .i64 (.var 20), .bool (.var 21)], .int
 .i64 (.lit 0)]] [6] [(6, [.int .i64 (.var 11), .int .i64 (.var 12), .int .i64 (.var 13), .int .i64 (.var 14), .var 15, .var 16, .var 17, .int .i64
 (.var 18), .int .i64 (.var 19), .int .i64 (.var 20), .bool (.var 21)]), (5, [.int .i64 (.var 0), .int .i64 (.var 1), .int .i64 (.var 2), .int .i64
 (.var 3)])]))))))))))) := by kernel_rfl

end Go.Proofs.Ytppbapnibpeolaa
