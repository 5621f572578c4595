/- How entries in a slice, and logs, are read. No conditions. -/
import Derived.Test.YtfpmcmhihhnfgaaGreatKA7
import Derived.Test.YtfpmcmhihhnfgaaGreatKF1
set_option linter.unusedVariables false
set_option linter.unusedSimpArgs false
namespace Go.Proofs.YtfpmcmhihhnfgaaGreat
open Go.ChangeShapes Go.WideShapes Go.ChangeAt Go.RowKit
set_option maxRecDepth 100000
theorem cellsOfEnts : Tryz.prog.cellsOf 26 = 1 := by kernel_rfl
section
variable {H : Type} {enc : TypeId × Value → H} {W : World} {fuel : Nat} {held : Bool} {cs : List Value} {x : DataW H × List MemPlace}
theorem rd_entries (h : DataW.trod enc Tryz.prog W 0 (fun _ => true) held fuel 26 cs = some x) (hz : W.noneFrozen x.2) : ∃ p n c l, cs = [vsl p n c] ∧ Ents (hpOf W) p n c l := by
  obtain ⟨p, n, c, rows, rfl, h1, h2, hr, ht⟩ := rd_slice Tryz.underlying26 cellsOfEntry (by omega) h hz
  have : ∃ l : List Ent, rows = l.map Ent.row ∧ ∀ e ∈ l, e.in64 := by
    clear hr h
    induction rows with
    | nil => exact ⟨[], rfl, fun e h => by cases h⟩
    | cons r t ih =>
      obtain ⟨l, rfl, hl⟩ := ih fun r hr => ht r (List.mem_cons_of_mem _ hr)
      obtain ⟨m, y, hy, _⟩ := ht r (List.mem_cons_self ..)
      obtain ⟨a, rfl, h64⟩ := rd_entry hy
      exact ⟨a :: l, rfl, fun e he => (List.mem_cons.1 he).elim (fun h => h ▸ h64) (hl e)⟩
  obtain ⟨l, rfl, hl⟩ := this
  exact ⟨p, n, c, l, rfl, h1, h2, hr, hl⟩
theorem cellsOfLog : Tryz.prog.cellsOf 28 = 8 := by kernel_rfl
theorem rd_log (h : DataW.trod enc Tryz.prog W 0 (fun _ => true) held fuel 28 cs = some x) (hz : W.noneFrozen x.2) : ∃ (s : Sta) (p : Option Loc) (n c : Nat) (l : List Ent) (q : Option Loc) (m d : Nat),
    cs = [vi s.pos, vi s.clock, vi s.vals.a, vi s.vals.b, vi s.vals.c, vi s.vals.d, vsl p n c, vsl q m d] ∧ Tab (hpOf W) p n c s.table ∧ Ents (hpOf W) q m d l := by
  obtain ⟨xs, m, _, hxe, hl, hn, hf⟩ := DataW.trod_struct Tryz.underlying28 h
  rw [cellsOfLog] at hl
  match cs, hl with
  | [c0, c1, c2, c3, c4, c5, c6, c7], _ =>
    match xs, hn with
    | [y0, y1], _ =>
      have h0 : DataW.trod enc Tryz.prog W 0 (fun _ => true) held m 25 (([c0, c1, c2, c3, c4, c5, c6, c7].drop 0).take (Tryz.prog.cellsOf 25)) = some y0 := hf 0 _ rfl
      have h1 : DataW.trod enc Tryz.prog W 0 (fun _ => true) held m 26 (([c0, c1, c2, c3, c4, c5, c6, c7].drop 7).take (Tryz.prog.cellsOf 26)) = some y1 := hf 1 _ rfl
      rw [cellsOfState] at h0
      rw [cellsOfEnts] at h1
      obtain ⟨s, p, n, c, e0, hT⟩ := rd_state h0 (sub_free hxe hz (by simp))
      obtain ⟨q, m, d, l, e1, hE⟩ := rd_entries h1 (sub_free hxe hz (by simp))
      simp at e0 e1
      obtain ⟨f0, f1, f2, f3, f4, f5, f6⟩ := e0
      exact ⟨s, p, n, c, l, q, m, d, by rw [f0, f1, f2, f3, f4, f5, f6, e1], hT, hE⟩
end
end Go.Proofs.YtfpmcmhihhnfgaaGreat
