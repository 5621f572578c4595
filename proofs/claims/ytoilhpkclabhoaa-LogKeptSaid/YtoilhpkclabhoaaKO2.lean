/- op.Do and the reference's DoOf. == and != on [4]int. -/
import Derived.Test.YtoilhpkclabhoaaKO1
import Derived.ChangeKeysEq
set_option linter.unusedVariables false
set_option linter.unusedSimpArgs false
namespace Go.Proofs.Ytoilhpkclabhoaa
open Go.RowKit

end Go.Proofs.Ytoilhpkclabhoaa
namespace Go.Proofs.Ytoilhpkclabhoaa
open Go.RowKit
end Go.Proofs.Ytoilhpkclabhoaa
