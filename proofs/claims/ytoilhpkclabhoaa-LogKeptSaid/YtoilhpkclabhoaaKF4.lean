/- How entries in a slice, and logs, are read. No conditions. -/
import Derived.Test.YtoilhpkclabhoaaKA7
import Derived.Test.YtoilhpkclabhoaaKF1
set_option linter.unusedVariables false
set_option linter.unusedSimpArgs false
namespace Go.Proofs.Ytoilhpkclabhoaa
open Go.ChangeShapes Go.WideShapes Go.ChangeAt Go.RowKit
set_option maxRecDepth 100000
section
variable {H : Type} {enc : TypeId × Value → H} {W : World} {fuel : Nat} {held : Bool} {cs : List Value} {x : DataW H × List MemPlace}
theorem rd_entries (h : DataW.trod enc Try.prog W 0 (fun _ => true) held fuel 38 cs = some x) : ∃ p n c l, cs = [vsl p n c] ∧ Ents (hpOf W) p n c l := by
  obtain ⟨p, n, c, rows, rfl, h1, h2, hr, ht⟩ := rd_slice Try.underlying38 cellsOfEntry (by omega) h
  have : ∃ l : List Ent, rows = l.map Ent.row ∧ ∀ e ∈ l, e.in64 := by
    clear hr h
    induction rows with
    | nil => exact ⟨[], rfl, fun e h => by cases h⟩
    | cons r t ih =>
      obtain ⟨l, rfl, hl⟩ := ih fun r hr => ht r (List.mem_cons_of_mem _ hr)
      obtain ⟨m, y, hy⟩ := ht r (List.mem_cons_self ..)
      obtain ⟨a, rfl, h64⟩ := rd_entry hy
      exact ⟨a :: l, rfl, fun e he => (List.mem_cons.1 he).elim (fun h => h ▸ h64) (hl e)⟩
  obtain ⟨l, rfl, hl⟩ := this
  exact ⟨p, n, c, l, rfl, h1, h2, hr, hl⟩
end
end Go.Proofs.Ytoilhpkclabhoaa
