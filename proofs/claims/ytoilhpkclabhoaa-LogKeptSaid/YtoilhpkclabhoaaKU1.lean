/- States as plain data. No program in sight. No conditions. Symbolic runs of functions: what each leaves to prove is enough for its call. Printed by a program of ours. No conditions. Contracts: what checks a state, what compares two. No conditions. -/
import Derived.Test.YtoilhpkclabhoaaKD1
import Derived.Test.YtoilhpkclabhoaaKE3
import Derived.Test.YtoilhpkclabhoaaProg
import Derived.Test.YtoilhpkclabhoaaKS3
import Derived.Test.YtoilhpkclabhoaaKO1
import Derived.Test.YtoilhpkclabhoaaKO2
set_option linter.unusedVariables false
set_option linter.unusedSimpArgs false
namespace Go.Proofs.Ytoilhpkclabhoaa

structure Sta where
  pos : Int
  clock : Int
  vals : V4
  table : List Ses
  deriving DecidableEq
/-- seen too late, or too long ago -/
def late (clock : Int) (s : Ses) : Bool := decide (clock < s.seen ∨ s.seen < clock - 20)
def Sta.err (s : Sta) : Int :=
  if s.pos < 0 ∨ 50 < s.pos ∨ s.clock < 0 ∨ 999 < s.clock ∨ s.vals.ok = false then 3
  else if tabErr s.table = 0 then (if s.table.any (late s.clock) = true then 1 else 0) else tabErr s.table
def Sta.zero : Sta := ⟨0, 0, V4.zero, []⟩
/-- a right state -/
structure StOk (s : Sta) : Prop where
  pos : 0 ≤ s.pos ∧ s.pos ≤ 50
  clock : 0 ≤ s.clock ∧ s.clock ≤ 999
  vals : s.vals.ok = true
  table : TabOk s.table
  seen : ∀ x ∈ s.table, s.clock - 20 ≤ x.seen ∧ x.seen ≤ s.clock
theorem Sta.err_ok {s : Sta} : s.err = 0 ↔ StOk s := by
  unfold Sta.err
  constructor
  · intro h
    split at h
    · cases h
    · rename_i h1
      split at h
      · rename_i h2
        split at h
        · cases h
        · rename_i h3
          refine ⟨by omega, by omega, by cases hv : s.vals.ok <;> simp_all, tabErr_ok.1 h2, fun x hx => ?_⟩
          simp only [List.any_eq_true, not_exists, not_and] at h3
          have := h3 x hx
          simp only [late, decide_eq_true_eq] at this
          omega
      · rename_i h2; exact absurd h h2
  · intro h
    have h1 := h.pos; have h2 := h.clock
    rw [if_neg (by rw [h.vals]; simp; omega), if_pos (tabErr_ok.2 h.table), if_neg]
    simp only [List.any_eq_true, not_exists, not_and]
    intro x hx
    have := h.seen x hx
    simp only [late, decide_eq_true_eq]
    omega
end Go.Proofs.Ytoilhpkclabhoaa
namespace Go.Proofs.Ytoilhpkclabhoaa
open Go.RowKit
set_option maxRecDepth 100000
set_option maxHeartbeats 4000000
end Go.Proofs.Ytoilhpkclabhoaa
namespace Go.Proofs.Ytoilhpkclabhoaa
open Go.RowKit

abbrev Sta.val (s : Sta) (v : Value) : Value := .agg #[vi s.pos, vi s.clock, vi s.vals.a, vi s.vals.b, vi s.vals.c, vi s.vals.d, v]
end Go.Proofs.Ytoilhpkclabhoaa
