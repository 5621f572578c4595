/- Symbolic runs of functions: what each leaves to prove is enough for its call. Printed by a program of ours. No conditions. Contracts: what deletes in a table of one's own, what inserts. No conditions. Contracts: what is fresh, what is dropped, what is put. No conditions. -/
import Derived.Test.YtoilhpkclabhoaaKE3
import Derived.Test.YtoilhpkclabhoaaProg
import Derived.Test.YtoilhpkclabhoaaKS2
import Derived.Test.YtoilhpkclabhoaaKE4
import Derived.Lib.Overlaps
set_option linter.unusedVariables false
set_option linter.unusedSimpArgs false
namespace Go.Proofs.Ytoilhpkclabhoaa
open Go.RowKit
set_option maxRecDepth 100000
set_option maxHeartbeats 4000000
def v_choose : VC :=
(.ite (.lt (.v 0) (.k 0))
(.chk (.rng .i64 (.add (.v 0) (.k 1)))
(.chk (.rng .i64 (.sub (.k 0) (.add (.v 0) (.k 1))))
(.esc (.bop .rem 3 (.tmp 10) (.tmp 11)) [.int .i64 (.sub (.k 0) (.add (.v 0) (.k 1))), .int .i64 (.v 1)] [] [(2, .i)] (some (.int .i64 (.v 2))) .same
(.ret (.int .i64 (.v 2)) []))))
(.esc (.bop .rem 3 (.tmp 10) (.tmp 11)) [.int .i64 (.v 0), .int .i64 (.v 1)] [] [(2, .i)] (some (.int .i64 (.v 2))) .same
(.ret (.int .i64 (.v 2)) [])))
theorem x_choose (x0 : Int) (x1 : Int) (M : Nat → Prop) (H0 : Hp) (W0 : World) (R : Ending → World → Prop) (hH : H0.le (hpOf W0)) (h :
 ((x0 < 0 →
  (inKind .i64 (x0 + 1) ∧ (inKind .i64 (x0 + 1) →
  (inKind .i64 (0 - (x0 + 1)) ∧ (inKind .i64 (0 - (x0 + 1)) →
  (Es W0 M H0 nK fun W1 => ∃ x2 : Int, Eo Try.prog (.bop .rem 3 (.tmp 10) (.tmp 11)) [vi (0 - (x0 + 1)), vi x1] W1 (.value (vi x2)) fun W2 => Ext W1 W2 ∧
  Rt R W0 M H0 nK (vi x2))))))) ∧
 (¬ (x0 < 0) →
  (Es W0 M H0 nK fun W1 => ∃ x2 : Int, Eo Try.prog (.bop .rem 3 (.tmp 10) (.tmp 11)) [vi x0, vi x1] W1 (.value (vi x2)) fun W2 => Ext W1 W2 ∧
  Rt R W0 M H0 nK (vi x2))))) :
  Calls Try.prog 22 #[vi x0, vi x1] W0 R :=
  calls_sxA (M := M) (V := v_choose) (hi := {}) (args := [.int .i64 (.v 0), .int .i64 (.v 1)]) (nv := 2) (e := (upd (upd (fun _ => .i 0) 0 (.i x0)) 1 (.i x1))) Try.func22 hH h (by kernel_rfl) (by kernel_rfl) (by kernel_rfl)
end Go.Proofs.Ytoilhpkclabhoaa
namespace Go.Proofs.Ytoilhpkclabhoaa
open Go.RowKit

end Go.Proofs.Ytoilhpkclabhoaa
namespace Go.Proofs.Ytoilhpkclabhoaa
open Go.RowKit

def old (clock : Int) (s : Ses) : Bool := decide (s.seen < clock - 20)
end Go.Proofs.Ytoilhpkclabhoaa
