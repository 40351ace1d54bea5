/- What is kept stays: the plain law behind FlashHolds. No conditions beyond those that each theorem names. -/
import Derived.Test.YtppbapnibpeolaaR
set_option maxRecDepth 100000
set_option maxHeartbeats 2000000
set_option linter.unusedVariables false
set_option linter.unusedSimpArgs false
namespace Go.Proofs.Ytppbapnibpeolaa
open Go.Sx

theorem cutD_bs (d : Dv) (o c : Int) : (d.cutD o c).bs = d.bs := by unfold Dv.cutD; split <;> rfl
/-! calls whose slices are slices -/
def AvS := { v : Av // (∃ a n c, v.sd = .slice a n c) ∧ ∃ a n c, v.ss = .slice a n c }
section
variable {w0 w w' : World} {S T S' T' M : Nat → Prop} {gk nb : Nat} {Kv : List Value} {KL : List (List AvS)} {KA : List (List Ac)}
end
end Go.Proofs.Ytppbapnibpeolaa
