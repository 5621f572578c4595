/- portagelaw.PackAnswer: for every input of bulk at most 1048576 the call returns true. No conditions. -/
import Derived.Test.YtdihdcielchodaaKP2
import Derived.Test.YtdihdcielchodaaKF4
import Derived.JoinedCond
set_option linter.unusedVariables false
set_option linter.unusedSimpArgs false
namespace Go.Proofs.Ytdihdcielchodaa
open Go.ChangeShapes Go.WideShapes Go.ChangeAt Go.RowKit
theorem bulk_pos {H : Type} (d : DataW H) : 1 ≤ Rows.uptoBulk d := by
  cases d with
  | lit x => cases x <;> simp [Rows.uptoBulk]
  | _ => simp [Rows.uptoBulk]
theorem bulk_len {H : Type} : ∀ l : List (DataW H), l.length ≤ Rows.uptoBulkAll l
  | [] => by simp [Rows.uptoBulkAll]
  | d :: l => by
    have h1 := bulk_pos d
    have h2 := bulk_len l
    simp only [Rows.uptoBulkAll, List.length_cons]
    omega
theorem bulk_slice {H : Type} {enc : TypeId × Value → H} {W : World} {held : Bool} {fuel t e : Nat} {p : Option Loc} {n c : Nat} {d : DataW H} {q : List MemPlace} (ht : Try.prog.underlying t = some (.slice e))
    (h : DataW.trod enc Try.prog W 0 (fun _ => true) held fuel t [vsl p n c] = some (d, q)) : n ≤ Rows.uptoBulk d := by
  rcases DataW.trod_slice ht h with ⟨h1, _⟩ | ⟨a, len, cap, elems, rest, m, _, h1, h2, _, _, _, h3, _⟩
  · simp only [vsl, List.cons.injEq, Value.slice.injEq, and_true] at h1
    omega
  · simp only [vsl, List.cons.injEq, Value.slice.injEq, and_true] at h1
    simp only [Prod.mk.injEq] at h2
    rw [h2.1]
    have := bulk_len (elems.map (·.1))
    simp only [List.length_map] at this
    simp only [Rows.uptoBulk]
    omega
set_option maxRecDepth 100000 in
theorem packAnswer_lifted (os : Os) (started : os.Started) (H : Type) (enc : TypeId × Value → H) (F0 : Stop.Interp) :
    ReturnsInHanded {} Try.checked os 13 .any ((Rows.OpenSpec.upto Rows.packAnswerSpec).pre6 enc Try.prog Try.f13 Rows.packAnswerUptoRow.domain false) (((Rows.OpenSpec.upto Rows.packAnswerSpec).at F0).post enc Try.prog Try.f13 false true false false) := by
  refine returnsInHanded_of_cond (C := Try.checked) (s := Rows.OpenSpec.upto Rows.packAnswerSpec) (k := Rows.uptoSmall) rfl own started (by kernel_rfl) Try.func13
    (OpenSpec.witness (enc := enc) (C := Try.checked) (s := Rows.OpenSpec.upto Rows.packAnswerSpec) (k := Rows.uptoSmall) rfl false ⟨#[], #[.slice none 0 0, .int .i64 0, .agg #[.int .i64 0, .int .i64 0, .int .i64 0, .int .i64 0, .int .i64 0, .int .i64 0, .int .i64 0, .int .i64 0, .int .i64 0]], []⟩ 8 (by kernel_rfl) (by kernel_rfl) (by kernel_rfl)
      (x := ([.nil, .lit (.int .i64 0), .agg [.lit (.int .i64 0), .lit (.int .i64 0), .lit (.int .i64 0), .lit (.int .i64 0), .lit (.int .i64 0), .agg [.lit (.int .i64 0), .lit (.int .i64 0), .lit (.int .i64 0), .lit (.int .i64 0)]]], [], [])) (by kernel_rfl) (by kernel_rfl) (by kernel_rfl)) ?_
  intro W base args ds gs before hval0 hW _ hk _
  have hval : ∀ (j : Nat) t v, Try.f13.params[j]? = some t → args[j]? = some v → Value.okWide Try.prog W .any base t v := hval0
  have hW' : DataW.Whole enc Try.prog Try.f13.params.toList Rows.packAnswerSpec.vars false W args.toList ds gs before := hW
  obtain ⟨p, q, hA0, hV, rfl, hfz, hnd⟩ := hW
  have hA : DataW.TrodAll enc Try.prog W 0 (fun _ => true) true Try.f13.params.toList args.toList ds p := hA0
  rw [Try.params13] at hA hval
  obtain ⟨v0, vr1, d0, dr1, p0, q1, e0, rfl, rfl, h0, r1⟩ := trodAll_cons hA
  obtain ⟨v1, vr2, d1, dr2, p1, q2, e1, g1, k1, h1, r2⟩ := trodAll_cons r1
  obtain ⟨v2, vr3, d2, dr3, p2, q3, e2, g2, k2, h2, r3⟩ := trodAll_cons r2
  obtain ⟨rfl, rfl, rfl⟩ := trodAll_nil r3
  subst e2 g2 k2; subst e1 g1 k1
  have ea : args = #[v0, v1, v2] := by cases args; simp_all
  subst ea
  obtain ⟨rfl, rfl⟩ := trodVars_none hV
  have hk' := of_decide_eq_true (show decide (Rows.uptoBulkAll ([d0, d1, d2] ++ []) ≤ 1048576) = true from hk)
  simp only [List.append_nil, Rows.uptoBulkAll] at hk'
  obtain ⟨n0, t0⟩ := h0
  rw [okWide_ptr1 Try.underlying26 (hval 0 26 v0 rfl rfl)] at t0
  obtain ⟨p0, n0, c0, l0, f0, hT0⟩ := rd_entries t0
  obtain rfl : v0 = vsl p0 n0 c0 := by simpa using f0
  have hlow := bulk_slice Try.underlying26 t0
  obtain ⟨n1, t1⟩ := h1
  obtain ⟨i1, rfl⟩ := okWide_int Try.underlying3 (hval 1 3 v1 rfl rfl)
  obtain ⟨j1, f1, lo1, hi1⟩ := rd_int (show DataW.trod enc Try.prog W 0 (fun _ => true) true n1 3 [vi i1] = some _ from t1)
  obtain rfl : i1 = j1 := by simpa using f1
  obtain ⟨n2, t2⟩ := h2
  obtain ⟨c2, rfl, _⟩ := okWide_struct Try.underlying54 (hval 2 54 v2 rfl rfl)
  obtain ⟨s2, f2, hR2⟩ := rd_entry t2
  obtain rfl : c2 = #[vi s2.kind, vi s2.time, vi s2.client, vi s2.seq, vi s2.ack, vi s2.op.kind, vi s2.op.key, vi s2.op.to, vi s2.op.n] := by cases c2; simp_all [Value.cells]
  refine (c_packAnswer hT0 (by omega) i1 ⟨lo1, hi1⟩ s2 hR2 W (fun _ _ h => h)).mono fun e W' ⟨he, hb⟩ => ?_
  exact ⟨_, he, law_post (s := Rows.packAnswerSpec) laidOut (by decide +kernel) rfl Try.underlying4 rfl rfl rfl rfl hW' hb⟩
theorem packAnswer_holds : Rows.PackAnswerUptoSaid :=
  OpenClaim.holds_of_cond 13 Try.f13 rfl rfl rfl rfl rfl rfl rfl ⟨rfl, rfl, rfl, rfl, rfl⟩ rfl rfl rfl rfl rfl (by kernel_rfl) Try.func13 (by kernel_rfl)
    (of_decide_eq_true (by kernel_rfl)) (by unfold Func.isWrapper; first | (rw [if_pos (by decide +kernel)]; kernel_rfl) | (rw [if_neg (by decide +kernel)]; exact ⟨rfl, rfl⟩))
    (fun os started H enc _ F0 => packAnswer_lifted os started H enc F0)
end Go.Proofs.Ytdihdcielchodaa
