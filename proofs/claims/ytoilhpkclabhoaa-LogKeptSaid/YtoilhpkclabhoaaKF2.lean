/- Symbolic runs of functions: what each leaves to prove is enough for its call. Printed by a program of ours. No conditions. Contracts: entries checked, and folded as the document says. No conditions. Contract: the steps of a fold, as a loop takes them. No conditions. Contracts: the last state; all entries; the document's fold. No conditions. -/
import Derived.Test.YtoilhpkclabhoaaKE3
import Derived.Test.YtoilhpkclabhoaaProg
import Derived.Test.YtoilhpkclabhoaaKF1
import Derived.Test.YtoilhpkclabhoaaKA5
import Derived.Test.YtoilhpkclabhoaaKE4
set_option linter.unusedVariables false
set_option linter.unusedSimpArgs false
namespace Go.Proofs.Ytoilhpkclabhoaa
open Go.RowKit
set_option maxRecDepth 100000
set_option maxHeartbeats 4000000
end Go.Proofs.Ytoilhpkclabhoaa
namespace Go.Proofs.Ytoilhpkclabhoaa
open Go.RowKit
open Classical
section
variable {H : Hp} {p : Option Loc} {n c : Nat} {l : List Ent}
end
/-- a state's values, as they stand -/
def Sta.at (s : Sta) (a b v0 v1 v2 v3 : Int) : Prop := a = s.pos ∧ b = s.clock ∧ v0 = s.vals.a ∧ v1 = s.vals.b ∧ v2 = s.vals.c ∧ v3 = s.vals.d
theorem Tab.keep {W W' : World} {g : Option Nat} {H H' D : Hp} (hu : Upd g W W' H H') (hH : H.le (hpOf W)) (hD : D.le H) (hg : ∀ b, g = some b → D b = none) : D.le H' := hu.keep hH hD hg
end Go.Proofs.Ytoilhpkclabhoaa
namespace Go.Proofs.Ytoilhpkclabhoaa
open Go.RowKit
open Classical
theorem Kept.cells {H : Hp} {p : Option Loc} {n c : Nat} {l : List Rep} (h : Kept H p n c l) : Kept H.cells p n c l := ⟨h.1, h.2.1, h.2.2.cells'⟩
theorem Tab.cells {H : Hp} {p : Option Loc} {n c : Nat} {l : List Ses} (h : Tab H p n c l) : Tab H.cells p n c l := by
  obtain ⟨h1, h2, rows, h3, h4⟩ := h
  refine ⟨h1, h2, rows, h3.cells', h4.mono fun r s hr => ?_⟩
  obtain ⟨p, n, c, h5, h6⟩ := hr
  exact ⟨p, n, c, h5, h6.cells⟩
def Sta.row (s : Sta) (v : Value) : List Value := [vi s.pos, vi s.clock, vi s.vals.a, vi s.vals.b, vi s.vals.c, vi s.vals.d, v]
end Go.Proofs.Ytoilhpkclabhoaa
namespace Go.Proofs.Ytoilhpkclabhoaa
open Go.RowKit
open Classical
/-- what comes of All -/
def AllPost (r : Sta × List Int × Int) (v : Value) (D : Hp) : Prop := ∃ p n c pa na ca ga, v = .tuple #[r.1.val (vsl p n c), vsl pa na ca, vi r.2.2] ∧ Tab D p n c r.1.table ∧ Ow D 3 1 pa na ca (r.2.1.map irow) ga
theorem AllPost.bad (D : Hp) (x : Int) : AllPost (Sta.zero, [], x) (.tuple #[Sta.zero.val (Value.slice none 0 0), Value.slice none 0 0, vi x]) D := ⟨none, 0, 0, none, 0, 0, none, rfl, Tab.nil _ _, Ow.nil _ _ _ _⟩
end Go.Proofs.Ytoilhpkclabhoaa
