/- How arguments are read. No conditions. -/
import Derived.Test.YtcnkljeniffmmaaRows
import Derived.Test.YtcnkljeniffmmaaLaw
import Derived.Test.YtcnkljeniffmmaaProg
import Derived.KernelRfl
namespace Go.Proofs.Ytcnkljeniffmmaa
open Go.ChangeShapes Go.WideShapes Go.ChangeAt Go.RowKit
theorem own : ownKnob Try.prog.godebug = none := by kernel_rfl
theorem laidOut : laidOutB Try.prog = true := by kernel_rfl
theorem cellsOfV4 : Try.prog.cellsOf 22 = 4 := by kernel_rfl
theorem cellsOfOp : Try.prog.cellsOf 24 = 4 := by kernel_rfl
theorem cellsOfInt : Try.prog.cellsOf 3 = 1 := by kernel_rfl

section
variable {H : Type} {enc : TypeId × Value → H} {w : World} {base : Nat} {spare : Nat → Bool} {held : Bool} {fuel : Nat} {cs : List Value} {x : DataW H × List MemPlace}
/-- four values, read -/
theorem rd_v4 (h : DataW.trod enc Try.prog w base spare held fuel 22 cs = some x) : ∃ a b c d : Int, cs = [.int .i64 a, .int .i64 b, .int .i64 c, .int .i64 d] := by
  obtain ⟨xs, m, _, _, hl, hn, hf⟩ := DataW.trod_array Try.underlying22 h
  rw [cellsOfV4] at hl
  match cs, hl with
  | [c0, c1, c2, c3], _ =>
    match xs, hn with
    | [y0, y1, y2, y3], _ =>
      have h0 := hf 0 (by omega)
      have h1 := hf 1 (by omega)
      have h2 := hf 2 (by omega)
      have h3 := hf 3 (by omega)
      rw [cellsOfInt] at h0 h1 h2 h3
      obtain ⟨a, e0, _⟩ := DataW.trod_int Try.underlying3 (h0.trans rfl)
      obtain ⟨b, e1, _⟩ := DataW.trod_int Try.underlying3 (h1.trans rfl)
      obtain ⟨c, e2, _⟩ := DataW.trod_int Try.underlying3 (h2.trans rfl)
      obtain ⟨d, e3, _⟩ := DataW.trod_int Try.underlying3 (h3.trans rfl)
      simp at e0 e1 e2 e3
      exact ⟨a, b, c, d, by rw [e0, e1, e2, e3]⟩
theorem rd_op (h : DataW.trod enc Try.prog w base spare held fuel 24 cs = some x) : ∃ a b c d : Int, cs = [.int .i64 a, .int .i64 b, .int .i64 c, .int .i64 d] := by
  obtain ⟨xs, m, _, _, hl, hn, hf⟩ := DataW.trod_struct Try.underlying24 h
  rw [cellsOfOp] at hl
  match cs, hl with
  | [c0, c1, c2, c3], _ =>
    match xs, hn with
    | [y0, y1, y2, y3], _ =>
      have h0 : DataW.trod enc Try.prog w base spare held m 3 (([c0, c1, c2, c3].drop 0).take (Try.prog.cellsOf 3)) = some y0 := hf 0 _ rfl
      have h1 : DataW.trod enc Try.prog w base spare held m 3 (([c0, c1, c2, c3].drop 1).take (Try.prog.cellsOf 3)) = some y1 := hf 1 _ rfl
      have h2 : DataW.trod enc Try.prog w base spare held m 3 (([c0, c1, c2, c3].drop 2).take (Try.prog.cellsOf 3)) = some y2 := hf 2 _ rfl
      have h3 : DataW.trod enc Try.prog w base spare held m 3 (([c0, c1, c2, c3].drop 3).take (Try.prog.cellsOf 3)) = some y3 := hf 3 _ rfl
      rw [cellsOfInt] at h0 h1 h2 h3
      obtain ⟨a, e0, _⟩ := DataW.trod_int Try.underlying3 h0
      obtain ⟨b, e1, _⟩ := DataW.trod_int Try.underlying3 h1
      obtain ⟨c, e2, _⟩ := DataW.trod_int Try.underlying3 h2
      obtain ⟨d, e3, _⟩ := DataW.trod_int Try.underlying3 h3
      simp at e0 e1 e2 e3
      exact ⟨a, b, c, d, by rw [e0, e1, e2, e3]⟩
end
theorem okWide_arr {w : World} {r : Reach} {v : Value} {base : Nat} (h : Value.okWide Try.prog w r base 22 v) : ∃ cs, v = .agg cs := by
  simp only [Value.okWide, Try.underlying22] at h
  obtain ⟨cs, h1, _⟩ := h
  exact ⟨cs, h1⟩

end Go.Proofs.Ytcnkljeniffmmaa
