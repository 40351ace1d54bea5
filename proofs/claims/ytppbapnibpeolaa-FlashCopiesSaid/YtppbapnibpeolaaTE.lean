/- What the functions of the chapter come to, printed by a program of the prover's and checked by the kernel. No conditions. -/
import Derived.Test.YtppbapnibpeolaaSxZI
import Derived.Test.YtppbapnibpeolaaProg
import Derived.KernelRfl
set_option maxRecDepth 100000
set_option linter.unusedVariables false
namespace Go.Proofs.Ytppbapnibpeolaa
open Go.Sx

theorem t9 : exFn { P := Try.prog, loops := fun r => if Nat.beq r 4 then some ⟨1, [(5, .int .i64)], []⟩ else none } 9 [.var 0, .int .i64 (.var 1)] [.slice, .int .i64] [] = .split (.lt (.var 1) (.len 0)) (.leaf
 0 [.bool (.lit false)] [] []) (.loop 1 [.int .i64 (.lit 0)] [.int .i64] [] [] [] [] (.split (.lt (.var 2) (.len 0)) (.ob (.le (.lit 0) (.var 2)) (.ob (.lt (.var 2)
 (.len 0)) (.ob (.not (.nil 0)) (.start false [] [] [] (.load (.elt 0 0 (.var 2) 5 3) [.slice] (.split (.lt (.lit 100) (.len 3)) (.leaf 0 [.bool (.lit false)] [] []) (.ob (.le
 (.lit 0) (.var 2)) (.ob (.lt (.var 2) (.len 0)) (.start false [] [] [] (.load (.elt 0 0 (.var 2) 5 4) [.slice] (.split (.lt (.lit 100) (.len 4)) (.leaf 0 [.bool (.lit false)] [] [])
 (.ob (.le (.lit (-9223372036854775808)) (.add (.var 2) (.lit 1))) (.ob (.le (.add (.var 2) (.lit 1)) (.lit 9223372036854775807)) (.leaf 1 [.int .i64 (.add (.var 2) (.lit 1))] []
 [])))))))))))))) (.leaf 0 [.bool (.lit true)] [] []))) := by kernel_rfl

end Go.Proofs.Ytppbapnibpeolaa
