/- Symbolic runs of functions: what each leaves to prove is enough for its call. Printed by a program of ours. No conditions. Contracts: the laws of states as bytes. No conditions. -/
import Derived.Test.YtoilhpkclabhoaaKE3
import Derived.Test.YtoilhpkclabhoaaProg
import Derived.Test.YtoilhpkclabhoaaKY2
import Derived.Test.YtoilhpkclabhoaaKL1
import Derived.Laws.Concat
set_option linter.unusedVariables false
set_option linter.unusedSimpArgs false
namespace Go.Proofs.Ytoilhpkclabhoaa
open Go.RowKit
set_option maxRecDepth 100000
set_option maxHeartbeats 4000000
end Go.Proofs.Ytoilhpkclabhoaa
namespace Go.Proofs.Ytoilhpkclabhoaa
open Go.RowKit

theorem ek_str_add {W : World} (x y : Operand) (a b : List UInt8) (ha : a.length ≤ 1000000) (hb : b.length ≤ 1000000) : (EK.sem (.bop .add 9 x y) [.string (bs a), .string (bs b)]).run Try.prog W = .ok (.value (.string (bs (a ++ b)))) W := by
  have h := run_string_add_lists (P := Try.prog) W a b (by omega) (by omega)
  simp only [EK.sem, eqGuard, List.getD_cons_zero, List.getD_cons_succ, binOp_string_add, Sem.run_bind, Sem.run_pure]
  have h' : (Op.stringOp .add (bs a) (bs b)).run Try.prog W = .ok (.string (bs (a ++ b))) W := h
  simp [h', Result.andThen_ok, Sem.run_pure]
end Go.Proofs.Ytoilhpkclabhoaa
