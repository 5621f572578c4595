/- Symbolic runs of functions: what each leaves to prove is enough for its call. Printed by a program of ours. No conditions. Contracts: cmp.Compare, the order of sessions, binary search. No conditions. Contracts: clones of replies and sessions; what finds a session. No conditions. -/
import Derived.Test.YtoilhpkclabhoaaKE3
import Derived.Test.YtoilhpkclabhoaaProg
import Derived.Test.YtoilhpkclabhoaaKS1
import Derived.Test.YtoilhpkclabhoaaKE4
set_option linter.unusedVariables false
set_option linter.unusedSimpArgs false
namespace Go.Proofs.Ytoilhpkclabhoaa
open Go.RowKit
set_option maxRecDepth 100000
set_option maxHeartbeats 4000000
end Go.Proofs.Ytoilhpkclabhoaa
namespace Go.Proofs.Ytoilhpkclabhoaa
open Go.RowKit

end Go.Proofs.Ytoilhpkclabhoaa
namespace Go.Proofs.Ytoilhpkclabhoaa
open Go.RowKit

theorem Kept.of_ow {H : Hp} {p : Option Loc} {n c : Nat} {l : List Rep} {g : Option Nat} (h : Ow H 67 2 p n c (l.map Rep.row) g) : Kept H p n c l := ⟨h.2.2.1, h.2.2.2.1, h.rows⟩
/-- a table of one's own -/
def OwnTab (D : Hp) (p : Option Loc) (n c : Nat) (l : List Ses) (g : Option Nat) : Prop := ∃ rows Dk, Ow D 59 4 p n c rows g ∧ Hp.le Dk D ∧ (∀ b, g = some b → Dk b = none) ∧ All2 (SesRow Dk) rows l
theorem OwnTab.tab {D : Hp} {p : Option Loc} {n c : Nat} {l : List Ses} {g : Option Nat} (h : OwnTab D p n c l g) : Tab D p n c l := by
  obtain ⟨rows, Dk, h1, h2, _, h4⟩ := h
  exact ⟨h1.2.2.1, h1.2.2.2.1, rows, h1.rows, h4.mono fun _ _ h => h.mono h2⟩
end Go.Proofs.Ytoilhpkclabhoaa
