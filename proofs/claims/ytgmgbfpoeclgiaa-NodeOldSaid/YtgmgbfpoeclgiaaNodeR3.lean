/- portagelaw.NodeOld: for every input the call returns true. No conditions. -/
import Derived.Test.YtgmgbfpoeclgiaaKN2
import Derived.Test.YtgmgbfpoeclgiaaKF4
set_option linter.unusedVariables false
set_option linter.unusedSimpArgs false
namespace Go.Proofs.Ytgmgbfpoeclgiaa
open Go.ChangeShapes Go.WideShapes Go.ChangeAt Go.RowKit
set_option maxRecDepth 100000 in
theorem nodeOld_lifted (os : Os) (started : os.Started) (H : Type) (enc : TypeId × Value → H) :
    ReturnsInHanded {} Try.checked os 5 .any (Rows.nodeOldSpec.pre6 enc Try.prog Try.f5 Rows.nodeOldRow.domain false) (Rows.nodeOldSpec.post enc Try.prog Try.f5 false true false false) := by
  refine returnsInHanded_of_change (C := Try.checked) own started (by kernel_rfl) Try.func5
    (ChangeSpec.witness6 (enc := enc) (C := Try.checked) false ⟨#[], #[.agg #[.int .i64 0, .int .i64 0, .int .i64 0, .int .i64 0, .int .i64 0, .int .i64 0, .slice none 0 0, .slice none 0 0], .agg #[.int .i64 0, .int .i64 0, .int .i64 0, .int .i64 0, .int .i64 0, .int .i64 0, .slice none 0 0], .int .i64 0, .agg #[.int .i64 0, .int .i64 0, .int .i64 0, .int .i64 0, .int .i64 0, .int .i64 0, .int .i64 0, .int .i64 0, .int .i64 0]], []⟩ 8 (by kernel_rfl) (by kernel_rfl) (by kernel_rfl) (by kernel_rfl)) ?_
  intro W base args ds gs before hval0 hW _ _
  have hval : ∀ (j : Nat) t v, Try.f5.params[j]? = some t → args[j]? = some v → Value.okWide Try.prog W .any base t v := hval0
  have hW' := hW
  obtain ⟨p, q, hA0, hV, rfl, hfz, hnd⟩ := hW
  have hA : DataW.TrodAll enc Try.prog W 0 (fun _ => true) true Try.f5.params.toList args.toList ds p := hA0
  rw [Try.params5] at hA hval
  obtain ⟨v0, vr1, d0, dr1, p0, q1, e0, rfl, rfl, h0, r1⟩ := trodAll_cons hA
  obtain ⟨v1, vr2, d1, dr2, p1, q2, e1, g1, k1, h1, r2⟩ := trodAll_cons r1
  obtain ⟨v2, vr3, d2, dr3, p2, q3, e2, g2, k2, h2, r3⟩ := trodAll_cons r2
  obtain ⟨v3, vr4, d3, dr4, p3, q4, e3, g3, k3, h3, r4⟩ := trodAll_cons r3
  obtain ⟨rfl, rfl, rfl⟩ := trodAll_nil r4
  subst e3 g3 k3; subst e2 g2 k2; subst e1 g1 k1
  have ea : args = #[v0, v1, v2, v3] := by cases args; simp_all
  subst ea
  obtain ⟨rfl, rfl⟩ := trodVars_none hV
  obtain ⟨n0, t0⟩ := h0
  obtain ⟨c0, rfl, _⟩ := okWide_struct Try.underlying28 (hval 0 28 v0 rfl rfl)
  obtain ⟨s0, qs0, ms0, ds0, l0, qe0, me0, de0, f0, hK0, hE0⟩ := rd_log t0
  obtain rfl : c0 = #[vi s0.pos, vi s0.clock, vi s0.vals.a, vi s0.vals.b, vi s0.vals.c, vi s0.vals.d, vsl qs0 ms0 ds0, vsl qe0 me0 de0] := by cases c0; simp_all [Value.cells]
  obtain ⟨n1, t1⟩ := h1
  obtain ⟨c1, rfl, _⟩ := okWide_struct Try.underlying25 (hval 1 25 v1 rfl rfl)
  obtain ⟨s1, qs1, ms1, ds1, f1, hK1⟩ := rd_state t1
  obtain rfl : c1 = #[vi s1.pos, vi s1.clock, vi s1.vals.a, vi s1.vals.b, vi s1.vals.c, vi s1.vals.d, vsl qs1 ms1 ds1] := by cases c1; simp_all [Value.cells]
  obtain ⟨n2, t2⟩ := h2
  obtain ⟨i2, rfl⟩ := okWide_int Try.underlying3 (hval 2 3 v2 rfl rfl)
  obtain ⟨j2, f2, lo2, hi2⟩ := rd_int (show DataW.trod enc Try.prog W 0 (fun _ => true) true n2 3 [vi i2] = some _ from t2)
  obtain rfl : i2 = j2 := by simpa using f2
  obtain ⟨n3, t3⟩ := h3
  obtain ⟨c3, rfl, _⟩ := okWide_struct Try.underlying43 (hval 3 43 v3 rfl rfl)
  obtain ⟨s3, f3, hR3⟩ := rd_entry t3
  obtain rfl : c3 = #[vi s3.kind, vi s3.time, vi s3.client, vi s3.seq, vi s3.ack, vi s3.op.kind, vi s3.op.key, vi s3.op.to, vi s3.op.n] := by cases c3; simp_all [Value.cells]
  refine (c_nodeOld hK0 hE0 hK1 i2 ⟨lo2, hi2⟩ s3 hR3 W (fun _ _ h => h)).mono fun e W' ⟨he, hb⟩ => ?_
  exact ⟨_, he, law_post laidOut (by decide +kernel) rfl Try.underlying4 rfl rfl rfl rfl hW' hb⟩
theorem nodeOld_holds : Rows.NodeOldSaid :=
  OpenClaim.holds_of_wide 5 Try.f5 rfl rfl rfl rfl rfl rfl rfl ⟨rfl, rfl, rfl, rfl, rfl⟩ rfl rfl rfl rfl rfl (by kernel_rfl) Try.func5 (by kernel_rfl)
    (of_decide_eq_true (by kernel_rfl)) (by unfold Func.isWrapper; first | (rw [if_pos (by decide +kernel)]; kernel_rfl) | (rw [if_neg (by decide +kernel)]; exact ⟨rfl, rfl⟩))
    (fun os started H enc _ => nodeOld_lifted os started H enc)
end Go.Proofs.Ytgmgbfpoeclgiaa
