/- portagelaw.OpTells: for every input the call returns true. No conditions. -/
import Derived.Test.YtcnkljeniffmmaaRows
import Derived.Test.YtcnkljeniffmmaaLaw
import Derived.Test.YtcnkljeniffmmaaOpH
namespace Go.Proofs.Ytcnkljeniffmmaa
open Go.ChangeShapes Go.WideShapes Go.ChangeAt Go.RowKit
theorem own : ownKnob Try.prog.godebug = none := by kernel_rfl
theorem laidOut : laidOutB Try.prog = true := by kernel_rfl
theorem cellsOfV4 : Try.prog.cellsOf 22 = 4 := by kernel_rfl
theorem cellsOfOp : Try.prog.cellsOf 24 = 4 := by kernel_rfl
theorem cellsOfInt : Try.prog.cellsOf 3 = 1 := by kernel_rfl

section
variable {H : Type} {enc : TypeId × Value → H} {w : World} {base : Nat} {spare : Nat → Bool} {held : Bool} {fuel : Nat} {cs : List Value} {x : DataW H × List MemPlace}
/-- four values, read -/
theorem rd_v4 (h : DataW.trod enc Try.prog w base spare held fuel 22 cs = some x) : ∃ a b c d : Int, cs = [.int .i64 a, .int .i64 b, .int .i64 c, .int .i64 d] := by
  obtain ⟨xs, m, _, _, hl, hn, hf⟩ := DataW.trod_array Try.underlying22 h
  rw [cellsOfV4] at hl
  match cs, hl with
  | [c0, c1, c2, c3], _ =>
    match xs, hn with
    | [y0, y1, y2, y3], _ =>
      have h0 := hf 0 (by omega)
      have h1 := hf 1 (by omega)
      have h2 := hf 2 (by omega)
      have h3 := hf 3 (by omega)
      rw [cellsOfInt] at h0 h1 h2 h3
      obtain ⟨a, e0, _⟩ := DataW.trod_int Try.underlying3 (h0.trans rfl)
      obtain ⟨b, e1, _⟩ := DataW.trod_int Try.underlying3 (h1.trans rfl)
      obtain ⟨c, e2, _⟩ := DataW.trod_int Try.underlying3 (h2.trans rfl)
      obtain ⟨d, e3, _⟩ := DataW.trod_int Try.underlying3 (h3.trans rfl)
      simp at e0 e1 e2 e3
      exact ⟨a, b, c, d, by rw [e0, e1, e2, e3]⟩
theorem rd_op (h : DataW.trod enc Try.prog w base spare held fuel 24 cs = some x) : ∃ a b c d : Int, cs = [.int .i64 a, .int .i64 b, .int .i64 c, .int .i64 d] := by
  obtain ⟨xs, m, _, _, hl, hn, hf⟩ := DataW.trod_struct Try.underlying24 h
  rw [cellsOfOp] at hl
  match cs, hl with
  | [c0, c1, c2, c3], _ =>
    match xs, hn with
    | [y0, y1, y2, y3], _ =>
      have h0 : DataW.trod enc Try.prog w base spare held m 3 (([c0, c1, c2, c3].drop 0).take (Try.prog.cellsOf 3)) = some y0 := hf 0 _ rfl
      have h1 : DataW.trod enc Try.prog w base spare held m 3 (([c0, c1, c2, c3].drop 1).take (Try.prog.cellsOf 3)) = some y1 := hf 1 _ rfl
      have h2 : DataW.trod enc Try.prog w base spare held m 3 (([c0, c1, c2, c3].drop 2).take (Try.prog.cellsOf 3)) = some y2 := hf 2 _ rfl
      have h3 : DataW.trod enc Try.prog w base spare held m 3 (([c0, c1, c2, c3].drop 3).take (Try.prog.cellsOf 3)) = some y3 := hf 3 _ rfl
      rw [cellsOfInt] at h0 h1 h2 h3
      obtain ⟨a, e0, _⟩ := DataW.trod_int Try.underlying3 h0
      obtain ⟨b, e1, _⟩ := DataW.trod_int Try.underlying3 h1
      obtain ⟨c, e2, _⟩ := DataW.trod_int Try.underlying3 h2
      obtain ⟨d, e3, _⟩ := DataW.trod_int Try.underlying3 h3
      simp at e0 e1 e2 e3
      exact ⟨a, b, c, d, by rw [e0, e1, e2, e3]⟩
end
theorem okWide_arr {w : World} {r : Reach} {v : Value} {base : Nat} (h : Value.okWide Try.prog w r base 22 v) : ∃ cs, v = .agg cs := by
  simp only [Value.okWide, Try.underlying22] at h
  obtain ⟨cs, h1, _⟩ := h
  exact ⟨cs, h1⟩

set_option maxRecDepth 100000 in
theorem opTells_lifted (os : Os) (started : os.Started) (H : Type) (enc : TypeId × Value → H) :
    ReturnsInHanded {} Try.checked os 3 .any (Rows.opTellsSpec.pre6 enc Try.prog Try.f3 Rows.opTellsRow.domain false) (Rows.opTellsSpec.post enc Try.prog Try.f3 false true false false) := by
  refine returnsInHanded_of_change (C := Try.checked) own started (by kernel_rfl) Try.func3
    (ChangeSpec.witness6 (enc := enc) (C := Try.checked) false ⟨#[], #[.agg #[.int .i64 0, .int .i64 0, .int .i64 0, .int .i64 0], .agg #[.int .i64 0, .int .i64 0, .int .i64 0, .int .i64 0]], []⟩ 8 (by kernel_rfl) (by kernel_rfl) (by kernel_rfl) (by kernel_rfl)) ?_
  intro W base args ds gs before hval0 hW _ _
  have hval : ∀ (j : Nat) t v, Try.f3.params[j]? = some t → args[j]? = some v → Value.okWide Try.prog W .any base t v := hval0
  have hW' := hW
  obtain ⟨p, q, hA0, hV, rfl, hfz, hnd⟩ := hW
  have hA : DataW.TrodAll enc Try.prog W 0 (fun _ => true) true Try.f3.params.toList args.toList ds p := hA0
  rw [Try.params3] at hA hval
  obtain ⟨v0, v1, d0, d1, p0, p1, rfl, rfl, rfl, h0, h1⟩ := trodAll_two hA
  obtain ⟨rfl, rfl⟩ := trodVars_none hV
  obtain ⟨c0, rfl⟩ := okWide_arr (hval 0 22 v0 rfl rfl)
  obtain ⟨c1, rfl, _⟩ := okWide_struct Try.underlying24 (hval 1 24 v1 rfl rfl)
  obtain ⟨n0, t0⟩ := h0
  obtain ⟨n1, t1⟩ := h1
  obtain ⟨a, b, c, d, e0⟩ := rd_v4 t0
  obtain ⟨k, key, to, n, e1⟩ := rd_op t1
  have f0 : c0 = #[.int .i64 a, .int .i64 b, .int .i64 c, .int .i64 d] := by cases c0; simp_all [Value.cells]
  have f1 : c1 = #[.int .i64 k, .int .i64 key, .int .i64 to, .int .i64 n] := by cases c1; simp_all [Value.cells]
  clear hA0 hval0 hA
  subst f0 f1
  refine (opTells_walk a b c d k key to n W).mono fun e W' ⟨he, hb⟩ => ?_
  exact ⟨_, he, law_post laidOut (by decide +kernel) rfl Try.underlying4 rfl rfl rfl rfl hW' hb⟩
theorem opTells_holds : Rows.OpTellsSaid :=
  OpenClaim.holds_of_wide 3 Try.f3 rfl rfl rfl rfl rfl rfl rfl ⟨rfl, rfl, rfl, rfl, rfl⟩ rfl rfl rfl rfl rfl (by kernel_rfl) Try.func3 (by kernel_rfl)
    (of_decide_eq_true (by kernel_rfl)) (by unfold Func.isWrapper; first | (rw [if_pos (by decide +kernel)]; kernel_rfl) | (rw [if_neg (by decide +kernel)]; exact ⟨rfl, rfl⟩))
    (fun os started H enc _ => opTells_lifted os started H enc)
end Go.Proofs.Ytcnkljeniffmmaa
