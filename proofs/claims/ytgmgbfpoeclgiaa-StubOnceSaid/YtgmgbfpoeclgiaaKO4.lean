/- How numbers in a slice are read, with their range. No conditions. -/
import Derived.Test.YtgmgbfpoeclgiaaKT3
set_option linter.unusedVariables false
set_option linter.unusedSimpArgs false
namespace Go.Proofs.Ytgmgbfpoeclgiaa
open Go.ChangeShapes Go.WideShapes Go.ChangeAt Go.RowKit
set_option maxRecDepth 100000
section
variable {H : Type} {enc : TypeId × Value → H} {W : World} {fuel : Nat} {held : Bool} {cs : List Value} {x : DataW H × List MemPlace}
theorem rd_intsR (h : DataW.trod enc Try.prog W 0 (fun _ => true) held fuel 60 cs = some x) : ∃ p n c l, cs = [vsl p n c] ∧ Ints (hpOf W) p n c l ∧ ∀ z ∈ l, -9223372036854775808 ≤ z ∧ z ≤ 9223372036854775807 := by
  obtain ⟨p, n, c, rows, rfl, h1, h2, hr, ht⟩ := rd_slice Try.underlying60 cellsOfInt (by omega) h
  have : ∃ l : List Int, rows = l.map irow ∧ ∀ z ∈ l, -9223372036854775808 ≤ z ∧ z ≤ 9223372036854775807 := by
    clear hr h
    induction rows with
    | nil => exact ⟨[], rfl, fun z hz => by cases hz⟩
    | cons r t ih =>
      obtain ⟨l, rfl, hl⟩ := ih fun r hr => ht r (List.mem_cons_of_mem _ hr)
      obtain ⟨m, y, hy⟩ := ht r (List.mem_cons_self ..)
      obtain ⟨a, rfl, ha⟩ := rd_int hy
      exact ⟨a :: l, rfl, fun z hz => (List.mem_cons.1 hz).elim (fun h => h ▸ ha) (hl z)⟩
  obtain ⟨l, rfl, hl⟩ := this
  exact ⟨p, n, c, l, rfl, ⟨h1, h2, hr⟩, hl⟩
end
end Go.Proofs.Ytgmgbfpoeclgiaa
