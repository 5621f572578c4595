/- Logs, packed, as the document says it, over plain data. No program in sight. No conditions. Symbolic runs of functions: what each leaves to prove is enough for its call. Printed by a program of ours. No conditions. Contracts of package pack, and of what the document says of it. No conditions. -/
import Derived.Test.YtgmgbfpoeclgiaaKF1
import Derived.Test.YtgmgbfpoeclgiaaKE3
import Derived.Test.YtgmgbfpoeclgiaaProg
import Derived.Test.YtgmgbfpoeclgiaaKF3
import Derived.Test.YtgmgbfpoeclgiaaKT1
set_option linter.unusedVariables false
set_option linter.unusedSimpArgs false
namespace Go.Proofs.Ytgmgbfpoeclgiaa

structure LogOk (s : Sta) (l : List Ent) : Prop where
  base : StOk s
  ents : ∀ e ∈ l, EntOk e
  len : s.pos + l.length ≤ 50
section
variable {s : Sta} {l : List Ent} {e : Ent} {n : Int}
theorem LogOk.put (h : LogOk s l) (he : EntOk e) (hp : ¬ s.pos + (l.length : Int) = 50) : LogOk s (l ++ [e]) := by
  have := h.len
  refine ⟨h.base, fun x hx => ?_, by simp; omega⟩
  rcases List.mem_append.1 hx with hx | hx
  · exact h.ents x hx
  · simp only [List.mem_singleton] at hx; subst hx; exact he
end
end Go.Proofs.Ytgmgbfpoeclgiaa
namespace Go.Proofs.Ytgmgbfpoeclgiaa
open Go.RowKit
set_option maxRecDepth 100000
set_option maxHeartbeats 4000000
end Go.Proofs.Ytgmgbfpoeclgiaa
namespace Go.Proofs.Ytgmgbfpoeclgiaa
open Go.RowKit
abbrev logV (s : Sta) (v w : Value) : Value := .agg #[vi s.pos, vi s.clock, vi s.vals.a, vi s.vals.b, vi s.vals.c, vi s.vals.d, v, w]
section
variable {H : Hp} {p q : Option Loc} {n c m d : Nat} {s : Sta} {l : List Ent}
def EndPost (r : Sta × Int) (v : Value) (D : Hp) : Prop := ∃ p n c, v = .tuple #[r.1.val (vsl p n c), vi r.2] ∧ Tab D p n c r.1.table
def LogPost (r : Sta × List Ent × Int) (v : Value) (D : Hp) : Prop := ∃ p n c q m d, v = .tuple #[logV r.1 (vsl p n c) (vsl q m d), vi r.2.2] ∧ Tab D p n c r.1.table ∧ Ents D q m d r.2.1
def PutPost (r : Sta × List Ent × Int × Int) (v : Value) (D : Hp) : Prop := ∃ p n c q m d, v = .tuple #[logV r.1 (vsl p n c) (vsl q m d), vi r.2.2.1, vi r.2.2.2] ∧ Tab D p n c r.1.table ∧ Ents D q m d r.2.1
theorem EndPost.bad (D : Hp) (x : Int) : EndPost (Sta.zero, x) (.tuple #[Sta.zero.val (Value.slice none 0 0), vi x]) D := ⟨none, 0, 0, rfl, Tab.nil _ _⟩
theorem LogPost.bad (D : Hp) (x : Int) : LogPost (Sta.zero, [], x) (.tuple #[logV Sta.zero (Value.slice none 0 0) (Value.slice none 0 0), vi x]) D := ⟨none, 0, 0, none, 0, 0, rfl, Tab.nil _ _, Ents.nil _ _⟩
theorem PutPost.bad (D : Hp) (x y : Int) : PutPost (Sta.zero, [], x, y) (.tuple #[logV Sta.zero (Value.slice none 0 0) (Value.slice none 0 0), vi x, vi y]) D := ⟨none, 0, 0, none, 0, 0, rfl, Tab.nil _ _, Ents.nil _ _⟩
theorem infoEnt : infoIs Try.prog 43 9 72 = true := by kernel_rfl
theorem ones_e (e : Ent) : ∀ v ∈ e.row, v.oneCell' = true := fun v hv => ones_E [e] e.row (by simp) v hv
end
end Go.Proofs.Ytgmgbfpoeclgiaa
