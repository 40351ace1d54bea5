/- What the functions of the chapter come to, printed by a program of the prover's and checked by the kernel. No conditions. -/
import Derived.Test.YtfjlnfgbfclgbaaSxZI
import Derived.Test.YtfjlnfgbfclgbaaProg
import Derived.KernelRfl
set_option maxRecDepth 100000
set_option linter.unusedVariables false
namespace Go.Proofs.Ytfjlnfgbfclgbaa
open Go.Sx

theorem t3 : exFn { P := Try.prog } 3 [.agg [.int .u8 (.var 0), .int .u8 (.var 1), .int .u8 (.var 2)], .int .u32 (.var 3)] [.int .u8, .int .u8, .int .u8, .int .u32] [] = VC.blk (VC.start true [] [4] [(4, [SV.int
 IntKind.u8 (IE.var 0), SV.int IntKind.u8 (IE.var 1), SV.int IntKind.u8 (IE.var 2)])] (VC.call 10 [SV.agg [SV.int IntKind.u8 (IE.var 0), SV.int IntKind.u8 (IE.var 1), SV.int IntKind.u8 (IE.var 2)]] [Base.int IntKind.u32]
 (SV.int IntKind.u32 (IE.var 5)) [] true [] [] [4] [(4, [SV.int IntKind.u8 (IE.var 0), SV.int IntKind.u8 (IE.var 1), SV.int IntKind.u8 (IE.var 2)])] (VC.call 11 [SV.agg [SV.int IntKind.u8 (IE.var 0), SV.int IntKind.u8
 (IE.var 1), SV.int IntKind.u8 (IE.var 2)]] [Base.int IntKind.u32] (SV.int IntKind.u32 (IE.var 6)) [] true [] [] [4] [(4, [SV.int IntKind.u8 (IE.var 0), SV.int IntKind.u8 (IE.var 1), SV.int IntKind.u8 (IE.var 2)])]
 (VC.split (BE.eq (IE.var 5) (IE.var 6)) (VC.call 12 [SV.agg [SV.int IntKind.u8 (IE.var 0), SV.int IntKind.u8 (IE.var 1), SV.int IntKind.u8 (IE.var 2)]] [Base.bool] (SV.bool (BE.var 7)) [] true [] [] [4] [(4, [SV.int
 IntKind.u8 (IE.var 0), SV.int IntKind.u8 (IE.var 1), SV.int IntKind.u8 (IE.var 2)])] (VC.call 13 [SV.agg [SV.int IntKind.u8 (IE.var 0), SV.int IntKind.u8 (IE.var 1), SV.int IntKind.u8 (IE.var 2)]] [Base.bool] (SV.bool
 (BE.var 8)) [] true [] [] [4] [(4, [SV.int IntKind.u8 (IE.var 0), SV.int IntKind.u8 (IE.var 1), SV.int IntKind.u8 (IE.var 2)])] (VC.split (BE.beq (BE.var 7) (BE.var 8)) (VC.call 14 [SV.agg [SV.int IntKind.u8 (IE.var 0),
 SV.int IntKind.u8 (IE.var 1), SV.int IntKind.u8 (IE.var 2)], SV.int IntKind.u32 (IE.var 3)] [Base.bool] (SV.bool (BE.var 9)) [] true [] [] [4] [(4, [SV.int IntKind.u8 (IE.var 0), SV.int IntKind.u8 (IE.var 1), SV.int
 IntKind.u8 (IE.var 2)])] (VC.call 15 [SV.agg [SV.int IntKind.u8 (IE.var 0), SV.int IntKind.u8 (IE.var 1), SV.int IntKind.u8 (IE.var 2)], SV.int IntKind.u32 (IE.var 3)] [Base.bool] (SV.bool (BE.var 10)) [] true [] [] [4]
 [(4, [SV.int IntKind.u8 (IE.var 0), SV.int IntKind.u8 (IE.var 1), SV.int IntKind.u8 (IE.var 2)])] (VC.split (BE.beq (BE.var 9) (BE.var 10)) (VC.call 16 [] [Base.bool] (SV.bool (BE.var 11)) [] true [] [] [4] [(4, [SV.int
 IntKind.u8 (IE.var 0), SV.int IntKind.u8 (IE.var 1), SV.int IntKind.u8 (IE.var 2)])] (VC.leaf 0 [SV.bool (BE.var 11)] [] [(4, [SV.int IntKind.u8 (IE.var 0), SV.int IntKind.u8 (IE.var 1), SV.int IntKind.u8 (IE.var
 2)])])) (VC.leaf 0 [SV.bool (BE.lit false)] [] [(4, [SV.int IntKind.u8 (IE.var 0), SV.int IntKind.u8 (IE.var 1), SV.int IntKind.u8 (IE.var 2)])])))) (VC.leaf 0 [SV.bool (BE.lit false)] [] [(4, [SV.int IntKind.u8 (IE.var
 0), SV.int IntKind.u8 (IE.var 1), SV.int IntKind.u8 (IE.var 2)])])))) (VC.leaf 0 [SV.bool (BE.lit false)] [] [(4, [SV.int IntKind.u8 (IE.var 0), SV.int IntKind.u8 (IE.var 1), SV.int IntKind.u8 (IE.var 2)])]))))) := by
 kernel_rfl

end Go.Proofs.Ytfjlnfgbfclgbaa
