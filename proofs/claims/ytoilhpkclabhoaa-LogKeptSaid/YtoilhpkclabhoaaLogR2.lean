/- portagelaw.LogKept: for every input the call returns true. No conditions. -/
import Derived.Test.YtoilhpkclabhoaaKF4
import Derived.Test.YtoilhpkclabhoaaKQ4
set_option linter.unusedVariables false
set_option linter.unusedSimpArgs false
namespace Go.Proofs.Ytoilhpkclabhoaa
open Go.ChangeShapes Go.WideShapes Go.ChangeAt Go.RowKit
set_option maxRecDepth 100000 in
theorem logKept_lifted (os : Os) (started : os.Started) (H : Type) (enc : TypeId × Value → H) :
    ReturnsInHanded {} Try.checked os 5 .any (Rows.logKeptSpec.pre6 enc Try.prog Try.f5 Rows.logKeptRow.domain false) (Rows.logKeptSpec.post enc Try.prog Try.f5 false true false false) := by
  refine returnsInHanded_of_change (C := Try.checked) own started (by kernel_rfl) Try.func5
    (ChangeSpec.witness6 (enc := enc) (C := Try.checked) false ⟨#[], #[.slice none 0 0, .int .i64 0], []⟩ 8 (by kernel_rfl) (by kernel_rfl) (by kernel_rfl) (by kernel_rfl)) ?_
  intro W base args ds gs before hval0 hW _ _
  have hval : ∀ (j : Nat) t v, Try.f5.params[j]? = some t → args[j]? = some v → Value.okWide Try.prog W .any base t v := hval0
  have hW' := hW
  obtain ⟨p, q, hA0, hV, rfl, hfz, hnd⟩ := hW
  have hA : DataW.TrodAll enc Try.prog W 0 (fun _ => true) true Try.f5.params.toList args.toList ds p := hA0
  rw [Try.params5] at hA hval
  obtain ⟨v0, vr1, d0, dr1, p0, q1, e0, rfl, rfl, h0, r1⟩ := trodAll_cons hA
  obtain ⟨v1, vr2, d1, dr2, p1, q2, e1, g1, k1, h1, r2⟩ := trodAll_cons r1
  obtain ⟨rfl, rfl, rfl⟩ := trodAll_nil r2
  subst e1 g1 k1
  have ea : args = #[v0, v1] := by cases args; simp_all
  subst ea
  obtain ⟨rfl, rfl⟩ := trodVars_none hV
  obtain ⟨n0, t0⟩ := h0
  rw [okWide_ptr1 Try.underlying38 (hval 0 38 v0 rfl rfl)] at t0
  obtain ⟨p0, n0, c0, l0, f0, hT0⟩ := rd_entries t0
  obtain rfl : v0 = vsl p0 n0 c0 := by simpa using f0
  obtain ⟨n1, t1⟩ := h1
  obtain ⟨i1, rfl⟩ := okWide_int Try.underlying3 (hval 1 3 v1 rfl rfl)
  obtain ⟨j1, f1, lo1, hi1⟩ := rd_int (show DataW.trod enc Try.prog W 0 (fun _ => true) true n1 3 [vi i1] = some _ from t1)
  obtain rfl : i1 = j1 := by simpa using f1
  refine (c_logKept hT0 i1 ⟨lo1, hi1⟩ W (fun _ _ h => h)).mono fun e W' ⟨he, hb⟩ => ?_
  exact ⟨_, he, law_post laidOut (by decide +kernel) rfl Try.underlying4 rfl rfl rfl rfl hW' hb⟩
theorem logKept_holds : Rows.LogKeptSaid :=
  OpenClaim.holds_of_wide 5 Try.f5 rfl rfl rfl rfl rfl rfl rfl ⟨rfl, rfl, rfl, rfl, rfl⟩ rfl rfl rfl rfl rfl (by kernel_rfl) Try.func5 (by kernel_rfl)
    (of_decide_eq_true (by kernel_rfl)) (by unfold Func.isWrapper; first | (rw [if_pos (by decide +kernel)]; kernel_rfl) | (rw [if_neg (by decide +kernel)]; exact ⟨rfl, rfl⟩))
    (fun os started H enc _ => logKept_lifted os started H enc)
end Go.Proofs.Ytoilhpkclabhoaa
