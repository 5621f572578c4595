/- Symbolic runs of functions: what each leaves to prove is enough for its call. Printed by a program of ours. No conditions. Contract of the document's answer: an entry is applied. No conditions. Contract of the document's answer: an entry is applied. No conditions. Contracts of package apply: Next, One; of the document's answer: OneOf. No conditions. -/
import Derived.Test.YtoilhpkclabhoaaKE3
import Derived.Test.YtoilhpkclabhoaaProg
import Derived.Test.YtoilhpkclabhoaaKS4
import Derived.Test.YtoilhpkclabhoaaKA3
import Derived.Test.YtoilhpkclabhoaaKA2
import Derived.Test.YtoilhpkclabhoaaKT1
import Derived.Test.YtoilhpkclabhoaaKA4
import Derived.Test.YtoilhpkclabhoaaKU1
import Derived.Test.YtoilhpkclabhoaaKA1
set_option linter.unusedVariables false
set_option linter.unusedSimpArgs false
namespace Go.Proofs.Ytoilhpkclabhoaa
open Go.RowKit
set_option maxRecDepth 100000
set_option maxHeartbeats 4000000
end Go.Proofs.Ytoilhpkclabhoaa
namespace Go.Proofs.Ytoilhpkclabhoaa
open Go.RowKit

theorem All2.set {α β : Type} {R : α → β → Prop} {l : List α} {m : List β} (h : All2 R l m) : ∀ (i : Nat) {a : α} {b : β}, R a b → All2 R (l.set i a) (m.set i b) := by
  induction h with
  | nil => intro i a b _; exact .nil
  | cons x y l m hxy t ih =>
    intro i a b hab
    cases i with
    | zero => exact .cons _ _ _ _ hab t
    | succ i => exact .cons _ _ _ _ hxy (ih i hab)
/-- the row at i, in such a table -/
theorem Out.row {W : World} {K : Hp} {p : Option Loc} {n c : Nat} {L : List Ses} {rows : List (List Value)} {g : Option Nat} (ho : Ow K 59 4 p n c rows g) (ha : All2 (SesRow (rest W g K)) rows L) {i : Nat} {s : Ses} (hs : L[i]? = some s) :
    ∃ q m d, rows[i]? = some [vi s.client, vi s.acked, vi s.seen, vsl q m d] ∧ Kept (rest W g K) q m d s.kept ∧ ∀ off : Int, off = (i : Int) * 4 → RowAt K p off [vi s.client, vi s.acked, vi s.seen, vsl q m d] := by
  obtain ⟨row, h1, q, m, d, rfl, h2⟩ := ha.get' hs
  refine ⟨q, m, d, h1, h2, fun off ho' => ?_⟩
  have hlt := (List.getElem?_eq_some_iff.1 h1).1
  obtain ⟨r, h3, _, h4⟩ := ho.rows.at (k := i) (by rw [ho.1]; exact hlt) (off := off) (by omega)
  rw [h1] at h3
  simp only [Option.some.injEq] at h3
  subst h3
  exact h4
end Go.Proofs.Ytoilhpkclabhoaa
namespace Go.Proofs.Ytoilhpkclabhoaa
open Go.RowKit

end Go.Proofs.Ytoilhpkclabhoaa
namespace Go.Proofs.Ytoilhpkclabhoaa
open Go.RowKit

theorem Tab.nil (D : Hp) (p : Option Loc) : Tab D p 0 0 [] := (OwnTab.nil D p).tab
end Go.Proofs.Ytoilhpkclabhoaa
