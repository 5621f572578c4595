/- Symbolic runs of functions: what each leaves to prove is enough for its call. Printed by a program of ours. No conditions. Contract: slices.Insert of replies. No conditions. Contracts: what looks up, and what deletes, in kept answers. No conditions. -/
import Derived.Test.YtoilhpkclabhoaaKE3
import Derived.Test.YtoilhpkclabhoaaProg
import Derived.Test.YtoilhpkclabhoaaKS2
import Derived.Test.YtoilhpkclabhoaaKE4
import Derived.Lib.Overlaps
import Derived.Test.YtoilhpkclabhoaaKS3
import Derived.Test.YtoilhpkclabhoaaKA1
set_option linter.unusedVariables false
set_option linter.unusedSimpArgs false
namespace Go.Proofs.Ytoilhpkclabhoaa
open Go.RowKit
set_option maxRecDepth 100000
set_option maxHeartbeats 4000000
end Go.Proofs.Ytoilhpkclabhoaa
namespace Go.Proofs.Ytoilhpkclabhoaa
open Go.RowKit

end Go.Proofs.Ytoilhpkclabhoaa
namespace Go.Proofs.Ytoilhpkclabhoaa
open Go.RowKit

end Go.Proofs.Ytoilhpkclabhoaa
