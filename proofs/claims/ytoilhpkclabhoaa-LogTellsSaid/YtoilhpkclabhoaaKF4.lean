/- How entries in a slice, and logs, are read. No conditions. -/
import Derived.Test.YtoilhpkclabhoaaKA7
import Derived.Test.YtoilhpkclabhoaaKF1
set_option linter.unusedVariables false
set_option linter.unusedSimpArgs false
namespace Go.Proofs.Ytoilhpkclabhoaa
open Go.ChangeShapes Go.WideShapes Go.ChangeAt Go.RowKit
set_option maxRecDepth 100000
section
variable {H : Type} {enc : TypeId × Value → H} {W : World} {fuel : Nat} {held : Bool} {cs : List Value} {x : DataW H × List MemPlace}
end
end Go.Proofs.Ytoilhpkclabhoaa
