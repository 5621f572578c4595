/- How states and entries are read. No conditions. -/
import Derived.Test.YtfpmcmhihhnfgaaGreatKD1
import Derived.Test.YtfpmcmhihhnfgaaGreatKT1
import Derived.Test.YtfpmcmhihhnfgaaGreatKU1
set_option linter.unusedVariables false
set_option linter.unusedSimpArgs false
namespace Go.Proofs.YtfpmcmhihhnfgaaGreat
open Go.ChangeShapes Go.WideShapes Go.ChangeAt Go.RowKit
set_option maxRecDepth 100000
theorem cellsOfTab : Tryz.prog.cellsOf 23 = 1 := by kernel_rfl
theorem cellsOfState : Tryz.prog.cellsOf 25 = 7 := by kernel_rfl
theorem cellsOfEntry : Tryz.prog.cellsOf 35 = 9 := by kernel_rfl
section
variable {H : Type} {enc : TypeId × Value → H} {W : World} {fuel : Nat} {held : Bool} {cs : List Value} {x : DataW H × List MemPlace}
theorem rd_state (h : DataW.trod enc Tryz.prog W 0 (fun _ => true) held fuel 25 cs = some x) (hz : W.noneFrozen x.2) : ∃ (s : Sta) (p : Option Loc) (n c : Nat), cs = [vi s.pos, vi s.clock, vi s.vals.a, vi s.vals.b, vi s.vals.c, vi s.vals.d, vsl p n c] ∧ Tab (hpOf W) p n c s.table := by
  obtain ⟨xs, m, _, hxe, hl, hn, hf⟩ := DataW.trod_struct Tryz.underlying25 h
  rw [cellsOfState] at hl
  match cs, hl with
  | [c0, c1, c2, c3, c4, c5, c6], _ =>
    match xs, hn with
    | [y0, y1, y2, y3], _ =>
      have h0 : DataW.trod enc Tryz.prog W 0 (fun _ => true) held m 3 (([c0, c1, c2, c3, c4, c5, c6].drop 0).take (Tryz.prog.cellsOf 3)) = some y0 := hf 0 _ rfl
      have h1 : DataW.trod enc Tryz.prog W 0 (fun _ => true) held m 3 (([c0, c1, c2, c3, c4, c5, c6].drop 1).take (Tryz.prog.cellsOf 3)) = some y1 := hf 1 _ rfl
      have h2 : DataW.trod enc Tryz.prog W 0 (fun _ => true) held m 22 (([c0, c1, c2, c3, c4, c5, c6].drop 2).take (Tryz.prog.cellsOf 22)) = some y2 := hf 2 _ rfl
      have h3 : DataW.trod enc Tryz.prog W 0 (fun _ => true) held m 23 (([c0, c1, c2, c3, c4, c5, c6].drop 6).take (Tryz.prog.cellsOf 23)) = some y3 := hf 3 _ rfl
      rw [cellsOfInt] at h0 h1
      rw [cellsOfV4] at h2
      rw [cellsOfTab] at h3
      obtain ⟨a, e0, _⟩ := rd_int h0
      obtain ⟨b, e1, _⟩ := rd_int h1
      obtain ⟨v0, v1, v2, v3, e2⟩ := rd_v4 h2
      obtain ⟨p, n, d, l, e3, hk⟩ := rd_tab h3 (sub_free hxe hz (by simp))
      simp at e0 e1 e2 e3
      obtain ⟨f0, f1, f2, f3⟩ := e2
      exact ⟨⟨a, b, ⟨v0, v1, v2, v3⟩, l⟩, p, n, d, by rw [e0, e1, f0, f1, f2, f3, e3], hk⟩
theorem rd_entry (h : DataW.trod enc Tryz.prog W 0 (fun _ => true) held fuel 35 cs = some x) : ∃ e : Ent, cs = [vi e.kind, vi e.time, vi e.client, vi e.seq, vi e.ack, vi e.op.kind, vi e.op.key, vi e.op.to, vi e.op.n] ∧ -9223372036854775808 ≤ e.seq ∧ e.seq ≤ 9223372036854775807 := by
  obtain ⟨xs, m, _, _, hl, hn, hf⟩ := DataW.trod_struct Tryz.underlying35 h
  rw [cellsOfEntry] at hl
  match cs, hl with
  | [c0, c1, c2, c3, c4, c5, c6, c7, c8], _ =>
    match xs, hn with
    | [y0, y1, y2, y3, y4, y5], _ =>
      have h0 : DataW.trod enc Tryz.prog W 0 (fun _ => true) held m 3 (([c0, c1, c2, c3, c4, c5, c6, c7, c8].drop 0).take (Tryz.prog.cellsOf 3)) = some y0 := hf 0 _ rfl
      have h1 : DataW.trod enc Tryz.prog W 0 (fun _ => true) held m 3 (([c0, c1, c2, c3, c4, c5, c6, c7, c8].drop 1).take (Tryz.prog.cellsOf 3)) = some y1 := hf 1 _ rfl
      have h2 : DataW.trod enc Tryz.prog W 0 (fun _ => true) held m 3 (([c0, c1, c2, c3, c4, c5, c6, c7, c8].drop 2).take (Tryz.prog.cellsOf 3)) = some y2 := hf 2 _ rfl
      have h3 : DataW.trod enc Tryz.prog W 0 (fun _ => true) held m 3 (([c0, c1, c2, c3, c4, c5, c6, c7, c8].drop 3).take (Tryz.prog.cellsOf 3)) = some y3 := hf 3 _ rfl
      have h4 : DataW.trod enc Tryz.prog W 0 (fun _ => true) held m 3 (([c0, c1, c2, c3, c4, c5, c6, c7, c8].drop 4).take (Tryz.prog.cellsOf 3)) = some y4 := hf 4 _ rfl
      have h5 : DataW.trod enc Tryz.prog W 0 (fun _ => true) held m 33 (([c0, c1, c2, c3, c4, c5, c6, c7, c8].drop 5).take (Tryz.prog.cellsOf 33)) = some y5 := hf 5 _ rfl
      rw [cellsOfInt] at h0 h1 h2 h3 h4
      rw [cellsOfOp] at h5
      obtain ⟨a0, e0, _⟩ := rd_int h0
      obtain ⟨a1, e1, _⟩ := rd_int h1
      obtain ⟨a2, e2, _⟩ := rd_int h2
      obtain ⟨a3, e3, lo, hi⟩ := rd_int h3
      obtain ⟨a4, e4, _⟩ := rd_int h4
      obtain ⟨v0, v1, v2, v3, e5⟩ := rd_op h5
      simp at e0 e1 e2 e3 e4 e5
      obtain ⟨f0, f1, f2, f3⟩ := e5
      exact ⟨⟨a0, a1, a2, a3, a4, ⟨v0, v1, v2, v3⟩⟩, by rw [e0, e1, e2, e3, e4, f0, f1, f2, f3], lo, hi⟩
end
end Go.Proofs.YtfpmcmhihhnfgaaGreat
