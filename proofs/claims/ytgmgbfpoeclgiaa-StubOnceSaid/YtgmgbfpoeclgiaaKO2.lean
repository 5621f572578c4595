/- op.Do and the reference's DoOf. == and != on [4]int. -/
import Derived.Test.YtgmgbfpoeclgiaaKO1
import Derived.ChangeKeysEq
set_option linter.unusedVariables false
set_option linter.unusedSimpArgs false
namespace Go.Proofs.Ytgmgbfpoeclgiaa
open Go.RowKit

theorem op_turn (v : V4) (k key to n : Int) (w : World) (hx : POp.err ⟨k, key, to, n⟩ = 0) (hv : v.ok = true) :
    Calls Try.prog 126 #[v.val, POp.val ⟨k, key, to, n⟩] w fun e w' => e = .returned (.tuple #[(POp.turn ⟨k, key, to, n⟩ v).1.val, .int .i64 (POp.turn ⟨k, key, to, n⟩ v).2]) ∧ Below w.heap.size w w' := by
  rcases (err_parts hx).1 with h | h | h | h
  all_goals simp only at h; subst h
  · exact op_turn1 v key to n w hx hv
  · exact op_turn2 v key to n w hx hv
  · exact op_turn3 v key to n w hx hv
  · exact op_turn4 v key to n w hx hv

end Go.Proofs.Ytgmgbfpoeclgiaa
namespace Go.Proofs.Ytgmgbfpoeclgiaa
open Go.RowKit
end Go.Proofs.Ytgmgbfpoeclgiaa
