/- Symbolic runs of functions: what each leaves to prove is enough for its call. Printed by a program of ours. No conditions. Contracts: what deletes in a table of one's own, what inserts. No conditions. Contracts: what is fresh, what is dropped, what is put. No conditions. -/
import Derived.Test.YtoilhpkclabhoaaKE3
import Derived.Test.YtoilhpkclabhoaaProg
import Derived.Test.YtoilhpkclabhoaaKS2
import Derived.Test.YtoilhpkclabhoaaKE4
import Derived.Lib.Overlaps
set_option linter.unusedVariables false
set_option linter.unusedSimpArgs false
namespace Go.Proofs.Ytoilhpkclabhoaa
open Go.RowKit
set_option maxRecDepth 100000
set_option maxHeartbeats 4000000
end Go.Proofs.Ytoilhpkclabhoaa
namespace Go.Proofs.Ytoilhpkclabhoaa
open Go.RowKit

end Go.Proofs.Ytoilhpkclabhoaa
namespace Go.Proofs.Ytoilhpkclabhoaa
open Go.RowKit

/-- the first for which f says yes; -1: none -/
def ixP (f : Ses → Bool) : Nat → List Ses → Int
  | _, [] => -1
  | k, s :: t => if f s = true then k else ixP f (k + 1) t
def old (clock : Int) (s : Ses) : Bool := decide (s.seen < clock - 20)
theorem ixP_spec (f : Ses → Bool) : ∀ (l : List Ses) (k : Nat), (ixP f k l = -1 ∧ ∀ s ∈ l, f s = false) ∨ ∃ j s, ixP f k l = ((k + j : Nat) : Int) ∧ l[j]? = some s ∧ f s = true ∧ ∀ t ∈ l.take j, f t = false
  | [], k => .inl ⟨rfl, fun s hs => by simp at hs⟩
  | s :: t, k => by
    unfold ixP
    split
    · rename_i h
      exact .inr ⟨0, s, by simp, by simp, h, fun t ht => by simp at ht⟩
    · rename_i h
      rcases ixP_spec f t (k + 1) with ⟨h1, h2⟩ | ⟨j, u, h1, h2, h3, h4⟩
      · refine .inl ⟨h1, fun x hx => ?_⟩
        rcases List.mem_cons.1 hx with rfl | hx
        · simpa using h
        · exact h2 x hx
      · refine .inr ⟨j + 1, u, by rw [h1]; congr 1; omega, by simpa using h2, h3, fun x hx => ?_⟩
        rw [List.take_succ_cons] at hx
        rcases List.mem_cons.1 hx with rfl | hx
        · simpa using h
        · exact h4 x hx
end Go.Proofs.Ytoilhpkclabhoaa
