/- Contracts: what opens, what calls. No conditions. Contract: a call of a session. No conditions. Contract: an entry is applied. No conditions. -/
import Derived.Test.YtoilhpkclabhoaaKI1
import Derived.Test.YtoilhpkclabhoaaKA3
import Derived.Test.YtoilhpkclabhoaaKA2
import Derived.Test.YtoilhpkclabhoaaKO2
import Derived.Test.YtoilhpkclabhoaaKT1
set_option linter.unusedVariables false
set_option linter.unusedSimpArgs false
namespace Go.Proofs.Ytoilhpkclabhoaa
open Go.RowKit

abbrev Sta.cells (s : Sta) (v : Value) : Array Value := #[vi s.pos, vi s.clock, vi s.vals.a, vi s.vals.b, vi s.vals.c, vi s.vals.d, v]
end Go.Proofs.Ytoilhpkclabhoaa
namespace Go.Proofs.Ytoilhpkclabhoaa
open Go.RowKit

end Go.Proofs.Ytoilhpkclabhoaa
namespace Go.Proofs.Ytoilhpkclabhoaa
open Go.RowKit

end Go.Proofs.Ytoilhpkclabhoaa
