/- Symbolic runs of functions: what each leaves to prove is enough for its call. Printed by a program of ours. No conditions. Lists of ints in memory: what it is, are they the same, a copy, where one lies. No conditions. -/
import Derived.Test.YtfpmcmhihhnfgaaGreatKE3
import Derived.Test.YtfpmcmhihhnfgaaGreatProg
import Derived.Test.YtfpmcmhihhnfgaaGreatKE4
import Derived.Test.YtfpmcmhihhnfgaaGreatKD1
set_option linter.unusedVariables false
set_option linter.unusedSimpArgs false
namespace Go.Proofs.YtfpmcmhihhnfgaaGreat
open Go.RowKit
set_option maxRecDepth 100000
set_option maxHeartbeats 4000000
end Go.Proofs.YtfpmcmhihhnfgaaGreat
namespace Go.Proofs.YtfpmcmhihhnfgaaGreat
open Go.RowKit
theorem infoInt : infoIs Tryz.prog 3 1 8 = true := by kernel_rfl
def irow (x : Int) : List Value := [vi x]
def Ints (H : Hp) (p : Option Loc) (n c : Nat) (l : List Int) : Prop := n ≤ c ∧ c ≤ maxLen ∧ Rows H p n 1 (l.map irow)
section
variable {H K : Hp} {p p' : Option Loc} {n c n' c' : Nat} {l m : List Int}
theorem Ints.mono (h : Ints H p n c l) (hk : H.le K) : Ints K p n c l := ⟨h.1, h.2.1, h.2.2.mono hk⟩
theorem Ints.len (h : Ints H p n c l) : n = l.length := by simpa using h.2.2.len
theorem Ints.lt63 (h : Ints H p n c l) : (n : Int) ≤ 9223372036854775807 := by have := h.1; have := h.2.1; simp only [maxLen] at this; omega
theorem Ints.nil (H : Hp) (p : Option Loc) : Ints H p 0 0 [] := ⟨Nat.le_refl _, by simp [maxLen], Rows.nil _ _ _⟩
theorem Ints.at (h : Ints H p n c l) {k : Nat} (hk : k < n) : ∃ x : Int, l[k]? = some x ∧ RowAt H p (0 + (k : Int) * 1) [vi x] := by
  obtain ⟨row, h1, _, h3⟩ := h.2.2.at hk (off := 0 + (k : Int) * 1) (by omega)
  rw [List.getElem?_map, Option.map_eq_some_iff] at h1
  obtain ⟨x, hx, rfl⟩ := h1
  exact ⟨x, hx, h3⟩
theorem Ints.of_ow {g : Option Nat} (h : Ow H 3 1 p n c (l.map irow) g) : Ints H p n c l := ⟨h.2.2.1, h.2.2.2.1, h.rows⟩
end
end Go.Proofs.YtfpmcmhihhnfgaaGreat
