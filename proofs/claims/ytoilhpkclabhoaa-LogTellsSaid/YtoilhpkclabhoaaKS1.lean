/- == and != on replies. No conditions. Symbolic runs of functions: what each leaves to prove is enough for its call. Printed by a program of ours. No conditions. Contracts: what checks a session, a table; what compares them. No conditions. Contracts: what checks a table, what finds in it, what compares. No conditions. -/
import Derived.Test.YtoilhpkclabhoaaKD1
import Derived.Test.YtoilhpkclabhoaaKE3
import Derived.Test.YtoilhpkclabhoaaProg
import Derived.ChangeKeysEq
set_option linter.unusedVariables false
set_option linter.unusedSimpArgs false
namespace Go.Proofs.Ytoilhpkclabhoaa
open Go.RowKit
end Go.Proofs.Ytoilhpkclabhoaa
namespace Go.Proofs.Ytoilhpkclabhoaa
open Go.RowKit
set_option maxRecDepth 100000
set_option maxHeartbeats 4000000
def v_within : VC :=
(.ite (.le (.v 1) (.v 0))
(.ret (.bool (.le (.v 0) (.v 2))) [])
(.ret (.bool (.k false)) []))
theorem x_within (x0 : Int) (x1 : Int) (x2 : Int) (M : Nat → Prop) (H0 : Hp) (W0 : World) (R : Ending → World → Prop) (hH : H0.le (hpOf W0)) (h :
 ((x1 ≤ x0 →
  Rt R W0 M H0 nK (vb (decide (x0 ≤ x2)))) ∧
 (¬ (x1 ≤ x0) →
  Rt R W0 M H0 nK (vb (false))))) :
  Calls Try.prog 36 #[vi x0, vi x1, vi x2] W0 R :=
  calls_sxA (M := M) (V := v_within) (hi := {}) (args := [.int .i64 (.v 0), .int .i64 (.v 1), .int .i64 (.v 2)]) (nv := 3) (e := (upd (upd (upd (fun _ => .i 0) 0 (.i x0)) 1 (.i x1)) 2 (.i x2))) Try.func36 hH h (by kernel_rfl) (by kernel_rfl) (by kernel_rfl)
end Go.Proofs.Ytoilhpkclabhoaa
namespace Go.Proofs.Ytoilhpkclabhoaa
open Go.RowKit

theorem c_within (a lo hi : Int) (H : Hp) : Gv Try.prog 36 #[vi a, vi lo, vi hi] H (vb (inR a lo hi)) := fun W hH =>
  x_within a lo hi noM H W _ hH ⟨fun h => Rt.gv' (by simp [inR, h]), fun h => Rt.gv' (by simp [inR, h])⟩

end Go.Proofs.Ytoilhpkclabhoaa
namespace Go.Proofs.Ytoilhpkclabhoaa
open Go.RowKit

end Go.Proofs.Ytoilhpkclabhoaa
