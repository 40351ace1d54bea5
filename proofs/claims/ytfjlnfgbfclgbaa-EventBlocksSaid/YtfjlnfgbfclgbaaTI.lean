/- What the functions of the chapter come to, printed by a program of the prover's and checked by the kernel. No conditions. -/
import Derived.Test.YtfjlnfgbfclgbaaSxZI
import Derived.Test.YtfjlnfgbfclgbaaProg
import Derived.KernelRfl
set_option maxRecDepth 100000
set_option linter.unusedVariables false
namespace Go.Proofs.Ytfjlnfgbfclgbaa
open Go.Sx

theorem t3 : exFn { P := Try.prog } 3 [.agg [.int .u8 (.var 0), .int .u8 (.var 1), .int .u8 (.var 2)], .int .u32 (.var 3)] [.int .u8, .int .u8, .int .u8, .int .u32] [] = .blk (.start true [] [4] [(4, [.int
 .u8 (.var 0), .int .u8 (.var 1), .int .u8 (.var 2)])] (.call 10 [.agg [.int .u8 (.var 0), .int .u8 (.var 1), .int .u8 (.var 2)]] [.int .u32]
 (.int .u32 (.var 5)) [] true [] [] [4] [(4, [.int .u8 (.var 0), .int .u8 (.var 1), .int .u8 (.var 2)])] (.call 11 [.agg [.int .u8 (.var 0), .int .u8
 (.var 1), .int .u8 (.var 2)]] [.int .u32] (.int .u32 (.var 6)) [] true [] [] [4] [(4, [.int .u8 (.var 0), .int .u8 (.var 1), .int .u8 (.var 2)])]
 (.split (.eq (.var 5) (.var 6)) (.call 12 [.agg [.int .u8 (.var 0), .int .u8 (.var 1), .int .u8 (.var 2)]] [.bool] (.bool (.var 7)) [] true [] [] [4] [(4, [.int
 .u8 (.var 0), .int .u8 (.var 1), .int .u8 (.var 2)])] (.call 13 [.agg [.int .u8 (.var 0), .int .u8 (.var 1), .int .u8 (.var 2)]] [.bool] (.bool
 (.var 8)) [] true [] [] [4] [(4, [.int .u8 (.var 0), .int .u8 (.var 1), .int .u8 (.var 2)])] (.split (.beq (.var 7) (.var 8)) (.call 14 [.agg [.int .u8 (.var 0),
 .int .u8 (.var 1), .int .u8 (.var 2)], .int .u32 (.var 3)] [.bool] (.bool (.var 9)) [] true [] [] [4] [(4, [.int .u8 (.var 0), .int .u8 (.var 1), .int
 .u8 (.var 2)])] (.call 15 [.agg [.int .u8 (.var 0), .int .u8 (.var 1), .int .u8 (.var 2)], .int .u32 (.var 3)] [.bool] (.bool (.var 10)) [] true [] [] [4]
 [(4, [.int .u8 (.var 0), .int .u8 (.var 1), .int .u8 (.var 2)])] (.split (.beq (.var 9) (.var 10)) (.call 16 [] [.bool] (.bool (.var 11)) [] true [] [] [4] [(4, [.int
 .u8 (.var 0), .int .u8 (.var 1), .int .u8 (.var 2)])] (.leaf 0 [.bool (.var 11)] [] [(4, [.int .u8 (.var 0), .int .u8 (.var 1), .int .u8 (.var
 2)])])) (.leaf 0 [.bool (.lit false)] [] [(4, [.int .u8 (.var 0), .int .u8 (.var 1), .int .u8 (.var 2)])])))) (.leaf 0 [.bool (.lit false)] [] [(4, [.int .u8 (.var
 0), .int .u8 (.var 1), .int .u8 (.var 2)])])))) (.leaf 0 [.bool (.lit false)] [] [(4, [.int .u8 (.var 0), .int .u8 (.var 1), .int .u8 (.var 2)])]))))) := by
 kernel_rfl

end Go.Proofs.Ytfjlnfgbfclgbaa
