/- How groups are read. No conditions. -/
import Derived.Test.YtfpmcmhihhnfgaaGreatKF4
import Derived.Test.YtfpmcmhihhnfgaaGreatKG1
set_option linter.unusedVariables false
set_option linter.unusedSimpArgs false
namespace Go.Proofs.YtfpmcmhihhnfgaaGreat
open Go.ChangeShapes Go.WideShapes Go.ChangeAt Go.RowKit
set_option maxRecDepth 100000
theorem cellsOfGroup : Tryz.prog.cellsOf 31 = 29 := by kernel_rfl
theorem cellsOfNodes : Tryz.prog.cellsOf 29 = 21 := by kernel_rfl
section
variable {H : Type} {enc : TypeId × Value → H} {W : World} {fuel : Nat} {held : Bool} {cs : List Value} {x : DataW H × List MemPlace}
theorem rd_nodes (h : DataW.trod enc Tryz.prog W 0 (fun _ => true) held fuel 29 cs = some x) (hz : W.noneFrozen x.2) : ∃ (s0 : Sta) (p0 : Option Loc) (n0 d0 : Nat) (s1 : Sta) (p1 : Option Loc) (n1 d1 : Nat) (s2 : Sta) (p2 : Option Loc) (n2 d2 : Nat),
    cs = [vi s0.pos, vi s0.clock, vi s0.vals.a, vi s0.vals.b, vi s0.vals.c, vi s0.vals.d, vsl p0 n0 d0, vi s1.pos, vi s1.clock, vi s1.vals.a, vi s1.vals.b, vi s1.vals.c, vi s1.vals.d, vsl p1 n1 d1, vi s2.pos, vi s2.clock, vi s2.vals.a, vi s2.vals.b, vi s2.vals.c, vi s2.vals.d, vsl p2 n2 d2] ∧ Tab (hpOf W) p0 n0 d0 s0.table ∧ Tab (hpOf W) p1 n1 d1 s1.table ∧ Tab (hpOf W) p2 n2 d2 s2.table := by
  obtain ⟨xs, m, _, hxe, hl, hn, hf⟩ := DataW.trod_array Tryz.underlying29 h
  rw [cellsOfNodes] at hl
  match cs, hl with
  | [c0, c1, c2, c3, c4, c5, c6, c7, c8, c9, c10, c11, c12, c13, c14, c15, c16, c17, c18, c19, c20], _ =>
    match xs, hn with
    | [y0, y1, y2], _ =>
      have h0 := hf 0 (by omega)
      have h1 := hf 1 (by omega)
      have h2 := hf 2 (by omega)
      rw [cellsOfState] at h0 h1 h2
      obtain ⟨s0, p0, n0, d0, e0, hT0⟩ := rd_state (h0.trans rfl) (sub_free hxe hz (by simp))
      obtain ⟨s1, p1, n1, d1, e1, hT1⟩ := rd_state (h1.trans rfl) (sub_free hxe hz (by simp))
      obtain ⟨s2, p2, n2, d2, e2, hT2⟩ := rd_state (h2.trans rfl) (sub_free hxe hz (by simp))
      simp at e0 e1 e2
      obtain ⟨f0, f1, f2, f3, f4, f5, f6⟩ := e0
      obtain ⟨f7, f8, f9, f10, f11, f12, f13⟩ := e1
      obtain ⟨f14, f15, f16, f17, f18, f19, f20⟩ := e2
      exact ⟨s0, p0, n0, d0, s1, p1, n1, d1, s2, p2, n2, d2, by rw [f0, f1, f2, f3, f4, f5, f6, f7, f8, f9, f10, f11, f12, f13, f14, f15, f16, f17, f18, f19, f20], hT0, hT1, hT2⟩
theorem rd_group (h : DataW.trod enc Tryz.prog W 0 (fun _ => true) held fuel 31 cs = some x) (hz : W.noneFrozen x.2) : ∃ (g : Grp) (γ : GP), cs = gRow g γ ∧ GTab (hpOf W) g γ := by
  obtain ⟨xs, m, _, hxe, hl, hn, hf⟩ := DataW.trod_struct Tryz.underlying31 h
  rw [cellsOfGroup] at hl
  match xs, hn with
  | [y0, y1], _ =>
    have h0 : DataW.trod enc Tryz.prog W 0 (fun _ => true) held m 28 ((cs.drop 0).take (Tryz.prog.cellsOf 28)) = some y0 := hf 0 _ rfl
    have h1 : DataW.trod enc Tryz.prog W 0 (fun _ => true) held m 29 ((cs.drop 8).take (Tryz.prog.cellsOf 29)) = some y1 := hf 1 _ rfl
    rw [cellsOfLog] at h0
    rw [cellsOfNodes] at h1
    obtain ⟨s, p, n, c, l, q, m, d, e0, hT, hE⟩ := rd_log h0 (sub_free hxe hz (by simp))
    obtain ⟨s0, p0, n0, d0, s1, p1, n1, d1, s2, p2, n2, d2, e1, hT0, hT1, hT2⟩ := rd_nodes h1 (sub_free hxe hz (by simp))
    refine ⟨⟨s, l, s0, s1, s2⟩, ⟨p, n, c, q, m, d, p0, n0, d0, p1, n1, d1, p2, n2, d2⟩, ?_, hT, hE, hT0, hT1, hT2⟩
    have e2 : cs = (cs.drop 0).take 8 ++ (cs.drop 8).take 21 := by
      rw [List.drop_zero, List.take_of_length_le (l := cs.drop 8) (by rw [List.length_drop]; omega), List.take_append_drop]
    rw [e2, e0, e1]
    rfl
end
end Go.Proofs.YtfpmcmhihhnfgaaGreat
