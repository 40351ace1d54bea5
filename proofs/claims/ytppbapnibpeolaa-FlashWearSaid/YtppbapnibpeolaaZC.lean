/- The comparison of a device with its reference. No conditions beyond those that each theorem names. -/
import Derived.Test.YtppbapnibpeolaaZA
set_option maxRecDepth 100000
set_option maxHeartbeats 4000000
set_option linter.unusedVariables false
set_option linter.unusedSimpArgs false
namespace Go.Proofs.Ytppbapnibpeolaa
open Go.Sx

section
variable {w w' : World} {S T S' T' M : Nat → Prop} {b mf : Nat} {sB : Value} {Lb : List Bv} {d : Dv} {fv pv ev : Value} {Fl : List Int} {PV : List Sl} {RP : List (List Rv)}
end
end Go.Proofs.Ytppbapnibpeolaa
