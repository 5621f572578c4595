/- portagelaw.RestGroups: for every input the call returns true. No conditions. -/
import Derived.Test.YtfpmcmhihhnfgaaGreatKG4
import Derived.Test.YtfpmcmhihhnfgaaGreatKV2
set_option linter.unusedVariables false
set_option linter.unusedSimpArgs false
namespace Go.Proofs.YtfpmcmhihhnfgaaGreat
open Go.ChangeShapes Go.WideShapes Go.ChangeAt Go.RowKit
set_option maxRecDepth 100000 in
theorem restGroups_lifted (os : Os) (started : os.Started) (H : Type) (enc : TypeId × Value → H) :
    ReturnsInHanded {} Tryz.checked os 3 .any (Rows.restGroupsSpec.pre6 enc Tryz.prog Tryz.f3 Rows.restGroupsRow.domain false) (Rows.restGroupsSpec.post enc Tryz.prog Tryz.f3 false true false false) := by
  refine returnsInHanded_of_change (C := Tryz.checked) own started (by kernel_rfl) Tryz.func3
    (ChangeSpec.witness6 (enc := enc) (C := Tryz.checked) false ⟨#[], #[.agg #[.int .i64 0, .int .i64 0, .int .i64 0, .int .i64 0, .int .i64 0, .int .i64 0, .slice none 0 0, .slice none 0 0, .int .i64 0, .int .i64 0, .int .i64 0, .int .i64 0, .int .i64 0, .int .i64 0, .slice none 0 0, .int .i64 0, .int .i64 0, .int .i64 0, .int .i64 0, .int .i64 0, .int .i64 0, .slice none 0 0, .int .i64 0, .int .i64 0, .int .i64 0, .int .i64 0, .int .i64 0, .int .i64 0, .slice none 0 0], .agg #[.int .i64 0, .int .i64 0, .int .i64 0, .int .i64 0, .int .i64 0, .int .i64 0, .int .i64 0, .int .i64 0, .int .i64 0], .int .i64 0], []⟩ 8 (by kernel_rfl) (by kernel_rfl) (by kernel_rfl) (by kernel_rfl)) ?_
  intro W base args ds gs before hval0 hW _ _
  have hval : ∀ (j : Nat) t v, Tryz.f3.params[j]? = some t → args[j]? = some v → Value.okWide Tryz.prog W .any base t v := hval0
  have hW' := hW
  obtain ⟨p, q, hA0, hV, rfl, hfz, hnd⟩ := hW
  have hA : DataW.TrodAll enc Tryz.prog W 0 (fun _ => true) true Tryz.f3.params.toList args.toList ds p := hA0
  rw [Tryz.params3] at hA hval
  obtain ⟨v0, vr1, d0, dr1, p0, q1, e0, rfl, rfl, h0, r1⟩ := trodAll_cons hA
  obtain ⟨v1, vr2, d1, dr2, p1, q2, e1, g1, k1, h1, r2⟩ := trodAll_cons r1
  obtain ⟨v2, vr3, d2, dr3, p2, q3, e2, g2, k2, h2, r3⟩ := trodAll_cons r2
  obtain ⟨rfl, rfl, rfl⟩ := trodAll_nil r3
  subst e2 g2 k2; subst e1 g1 k1
  have ea : args = #[v0, v1, v2] := by cases args; simp_all
  subst ea
  obtain ⟨rfl, rfl⟩ := trodVars_none hV
  obtain ⟨n0, t0⟩ := h0
  obtain ⟨c0, rfl, _⟩ := okWide_struct Tryz.underlying31 (hval 0 31 v0 rfl rfl)
  obtain ⟨g0, γ0, f0, hG0⟩ := rd_group t0 (fun b off h => hfz b off (by simp [h]))
  obtain rfl : c0 = (gRow g0 γ0).toArray := by cases c0; simp_all [Value.cells]
  obtain ⟨n1, t1⟩ := h1
  obtain ⟨c1, rfl, _⟩ := okWide_struct Tryz.underlying35 (hval 1 35 v1 rfl rfl)
  obtain ⟨s1, f1, hR1⟩ := rd_entry t1
  obtain rfl : c1 = #[vi s1.kind, vi s1.time, vi s1.client, vi s1.seq, vi s1.ack, vi s1.op.kind, vi s1.op.key, vi s1.op.to, vi s1.op.n] := by cases c1; simp_all [Value.cells]
  obtain ⟨n2, t2⟩ := h2
  obtain ⟨i2, rfl⟩ := okWide_int Tryz.underlying3 (hval 2 3 v2 rfl rfl)
  obtain ⟨j2, f2, lo2, hi2⟩ := rd_int (show DataW.trod enc Tryz.prog W 0 (fun _ => true) true n2 3 [vi i2] = some _ from t2)
  obtain rfl : i2 = j2 := by simpa using f2
  refine (c_restGroups hG0 hR1 i2 ⟨lo2, hi2⟩ W (fun _ _ h => h)).mono fun e W' ⟨he, hb⟩ => ?_
  exact ⟨_, he, law_post laidOut (by decide +kernel) rfl Tryz.underlying4 rfl rfl rfl rfl hW' hb⟩
theorem restGroups_holds : Rows.RestGroupsSaid :=
  OpenClaim.holds_of_wide 3 Tryz.f3 rfl rfl rfl rfl rfl rfl rfl ⟨rfl, rfl, rfl, rfl, rfl⟩ rfl rfl rfl rfl rfl (by kernel_rfl) Tryz.func3 (by kernel_rfl)
    (of_decide_eq_true (by kernel_rfl)) (by unfold Func.isWrapper; first | (rw [if_pos (by decide +kernel)]; kernel_rfl) | (rw [if_neg (by decide +kernel)]; exact ⟨rfl, rfl⟩))
    (fun os started H enc _ => restGroups_lifted os started H enc)
end Go.Proofs.YtfpmcmhihhnfgaaGreat
