/- portagelaw.GroupTrue: for every input the call returns true. No conditions. -/
import Derived.Test.YtgmgbfpoeclgiaaKG3
import Derived.Test.YtgmgbfpoeclgiaaKG4
set_option linter.unusedVariables false
set_option linter.unusedSimpArgs false
namespace Go.Proofs.Ytgmgbfpoeclgiaa
open Go.ChangeShapes Go.WideShapes Go.ChangeAt Go.RowKit
set_option maxRecDepth 100000 in
theorem groupTrue_lifted (os : Os) (started : os.Started) (H : Type) (enc : TypeId × Value → H) :
    ReturnsInHanded {} Try.checked os 6 .any (Rows.groupTrueSpec.pre6 enc Try.prog Try.f6 Rows.groupTrueRow.domain false) (Rows.groupTrueSpec.post enc Try.prog Try.f6 false true false false) := by
  refine returnsInHanded_of_change (C := Try.checked) own started (by kernel_rfl) Try.func6
    (ChangeSpec.witness6 (enc := enc) (C := Try.checked) false ⟨#[], #[.agg #[.int .i64 0, .int .i64 0, .int .i64 0, .int .i64 0, .int .i64 0, .int .i64 0, .slice none 0 0, .slice none 0 0, .int .i64 0, .int .i64 0, .int .i64 0, .int .i64 0, .int .i64 0, .int .i64 0, .slice none 0 0, .int .i64 0, .int .i64 0, .int .i64 0, .int .i64 0, .int .i64 0, .int .i64 0, .slice none 0 0, .int .i64 0, .int .i64 0, .int .i64 0, .int .i64 0, .int .i64 0, .int .i64 0, .slice none 0 0], .agg #[.int .i64 0, .int .i64 0, .int .i64 0, .int .i64 0, .int .i64 0, .int .i64 0, .int .i64 0, .int .i64 0, .int .i64 0], .int .i64 0, .int .i64 0], []⟩ 8 (by kernel_rfl) (by kernel_rfl) (by kernel_rfl) (by kernel_rfl)) ?_
  intro W base args ds gs before hval0 hW _ _
  have hval : ∀ (j : Nat) t v, Try.f6.params[j]? = some t → args[j]? = some v → Value.okWide Try.prog W .any base t v := hval0
  have hW' := hW
  obtain ⟨p, q, hA0, hV, rfl, hfz, hnd⟩ := hW
  have hA : DataW.TrodAll enc Try.prog W 0 (fun _ => true) true Try.f6.params.toList args.toList ds p := hA0
  rw [Try.params6] at hA hval
  obtain ⟨v0, vr1, d0, dr1, p0, q1, e0, rfl, rfl, h0, r1⟩ := trodAll_cons hA
  obtain ⟨v1, vr2, d1, dr2, p1, q2, e1, g1, k1, h1, r2⟩ := trodAll_cons r1
  obtain ⟨v2, vr3, d2, dr3, p2, q3, e2, g2, k2, h2, r3⟩ := trodAll_cons r2
  obtain ⟨v3, vr4, d3, dr4, p3, q4, e3, g3, k3, h3, r4⟩ := trodAll_cons r3
  obtain ⟨rfl, rfl, rfl⟩ := trodAll_nil r4
  subst e3 g3 k3; subst e2 g2 k2; subst e1 g1 k1
  have ea : args = #[v0, v1, v2, v3] := by cases args; simp_all
  subst ea
  obtain ⟨rfl, rfl⟩ := trodVars_none hV
  obtain ⟨n0, t0⟩ := h0
  obtain ⟨c0, rfl, _⟩ := okWide_struct Try.underlying51 (hval 0 51 v0 rfl rfl)
  obtain ⟨g0, γ0, f0, hG0⟩ := rd_group t0
  obtain rfl : c0 = (gRow g0 γ0).toArray := by cases c0; simp_all [Value.cells]
  obtain ⟨n1, t1⟩ := h1
  obtain ⟨c1, rfl, _⟩ := okWide_struct Try.underlying43 (hval 1 43 v1 rfl rfl)
  obtain ⟨s1, f1, hR1⟩ := rd_entry t1
  obtain rfl : c1 = #[vi s1.kind, vi s1.time, vi s1.client, vi s1.seq, vi s1.ack, vi s1.op.kind, vi s1.op.key, vi s1.op.to, vi s1.op.n] := by cases c1; simp_all [Value.cells]
  obtain ⟨n2, t2⟩ := h2
  obtain ⟨i2, rfl⟩ := okWide_int Try.underlying3 (hval 2 3 v2 rfl rfl)
  obtain ⟨j2, f2, lo2, hi2⟩ := rd_int (show DataW.trod enc Try.prog W 0 (fun _ => true) true n2 3 [vi i2] = some _ from t2)
  obtain rfl : i2 = j2 := by simpa using f2
  obtain ⟨n3, t3⟩ := h3
  obtain ⟨i3, rfl⟩ := okWide_int Try.underlying3 (hval 3 3 v3 rfl rfl)
  obtain ⟨j3, f3, lo3, hi3⟩ := rd_int (show DataW.trod enc Try.prog W 0 (fun _ => true) true n3 3 [vi i3] = some _ from t3)
  obtain rfl : i3 = j3 := by simpa using f3
  refine (c_groupTrue hG0 hR1 i2 i3 ⟨lo2, hi2⟩ ⟨lo3, hi3⟩ W (fun _ _ h => h)).mono fun e W' ⟨he, hb⟩ => ?_
  exact ⟨_, he, law_post laidOut (by decide +kernel) rfl Try.underlying4 rfl rfl rfl rfl hW' hb⟩
theorem groupTrue_holds : Rows.GroupTrueSaid :=
  OpenClaim.holds_of_wide 6 Try.f6 rfl rfl rfl rfl rfl rfl rfl ⟨rfl, rfl, rfl, rfl, rfl⟩ rfl rfl rfl rfl rfl (by kernel_rfl) Try.func6 (by kernel_rfl)
    (of_decide_eq_true (by kernel_rfl)) (by unfold Func.isWrapper; first | (rw [if_pos (by decide +kernel)]; kernel_rfl) | (rw [if_neg (by decide +kernel)]; exact ⟨rfl, rfl⟩))
    (fun os started H enc _ => groupTrue_lifted os started H enc)
end Go.Proofs.Ytgmgbfpoeclgiaa
