/- Symbolic runs of functions: what each leaves to prove is enough for its call. Printed by a program of ours. No conditions. Contracts: what deletes in a table of one's own, what inserts. No conditions. Contracts: what is fresh, what is dropped, what is put. No conditions. -/
import Derived.Test.YtoilhpkclabhoaaKE3
import Derived.Test.YtoilhpkclabhoaaProg
import Derived.Test.YtoilhpkclabhoaaKS2
import Derived.Test.YtoilhpkclabhoaaKE4
import Derived.Lib.Overlaps
set_option linter.unusedVariables false
set_option linter.unusedSimpArgs false
namespace Go.Proofs.Ytoilhpkclabhoaa
open Go.RowKit
set_option maxRecDepth 100000
set_option maxHeartbeats 4000000
end Go.Proofs.Ytoilhpkclabhoaa
namespace Go.Proofs.Ytoilhpkclabhoaa
open Go.RowKit

end Go.Proofs.Ytoilhpkclabhoaa
namespace Go.Proofs.Ytoilhpkclabhoaa
open Go.RowKit

def old (clock : Int) (s : Ses) : Bool := decide (s.seen < clock - 20)
end Go.Proofs.Ytoilhpkclabhoaa
