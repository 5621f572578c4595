/- How states and entries are read. No conditions. -/
import Derived.Test.YtoilhpkclabhoaaKD1
import Derived.Test.YtoilhpkclabhoaaKT1
import Derived.Test.YtoilhpkclabhoaaKU1
set_option linter.unusedVariables false
set_option linter.unusedSimpArgs false
namespace Go.Proofs.Ytoilhpkclabhoaa
open Go.ChangeShapes Go.WideShapes Go.ChangeAt Go.RowKit
set_option maxRecDepth 100000
theorem cellsOfTab : Try.prog.cellsOf 23 = 1 := by kernel_rfl
theorem cellsOfState : Try.prog.cellsOf 25 = 7 := by kernel_rfl
section
variable {H : Type} {enc : TypeId × Value → H} {W : World} {fuel : Nat} {held : Bool} {cs : List Value} {x : DataW H × List MemPlace}
theorem rd_state (h : DataW.trod enc Try.prog W 0 (fun _ => true) held fuel 25 cs = some x) : ∃ (s : Sta) (p : Option Loc) (n c : Nat), cs = [vi s.pos, vi s.clock, vi s.vals.a, vi s.vals.b, vi s.vals.c, vi s.vals.d, vsl p n c] ∧ Tab (hpOf W) p n c s.table := by
  obtain ⟨xs, m, _, _, hl, hn, hf⟩ := DataW.trod_struct Try.underlying25 h
  rw [cellsOfState] at hl
  match cs, hl with
  | [c0, c1, c2, c3, c4, c5, c6], _ =>
    match xs, hn with
    | [y0, y1, y2, y3], _ =>
      have h0 : DataW.trod enc Try.prog W 0 (fun _ => true) held m 3 (([c0, c1, c2, c3, c4, c5, c6].drop 0).take (Try.prog.cellsOf 3)) = some y0 := hf 0 _ rfl
      have h1 : DataW.trod enc Try.prog W 0 (fun _ => true) held m 3 (([c0, c1, c2, c3, c4, c5, c6].drop 1).take (Try.prog.cellsOf 3)) = some y1 := hf 1 _ rfl
      have h2 : DataW.trod enc Try.prog W 0 (fun _ => true) held m 22 (([c0, c1, c2, c3, c4, c5, c6].drop 2).take (Try.prog.cellsOf 22)) = some y2 := hf 2 _ rfl
      have h3 : DataW.trod enc Try.prog W 0 (fun _ => true) held m 23 (([c0, c1, c2, c3, c4, c5, c6].drop 6).take (Try.prog.cellsOf 23)) = some y3 := hf 3 _ rfl
      rw [cellsOfInt] at h0 h1
      rw [cellsOfV4] at h2
      rw [cellsOfTab] at h3
      obtain ⟨a, e0, _⟩ := rd_int h0
      obtain ⟨b, e1, _⟩ := rd_int h1
      obtain ⟨v0, v1, v2, v3, e2⟩ := rd_v4 h2
      obtain ⟨p, n, d, l, e3, hk⟩ := rd_tab h3
      simp at e0 e1 e2 e3
      obtain ⟨f0, f1, f2, f3⟩ := e2
      exact ⟨⟨a, b, ⟨v0, v1, v2, v3⟩, l⟩, p, n, d, by rw [e0, e1, f0, f1, f2, f3, e3], hk⟩
end
end Go.Proofs.Ytoilhpkclabhoaa
