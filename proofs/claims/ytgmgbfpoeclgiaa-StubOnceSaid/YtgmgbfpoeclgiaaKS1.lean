/- == and != on replies. No conditions. Symbolic runs of functions: what each leaves to prove is enough for its call. Printed by a program of ours. No conditions. Contracts: what checks a session, a table; what compares them. No conditions. Contracts: what checks a table, what finds in it, what compares. No conditions. -/
import Derived.Test.YtgmgbfpoeclgiaaKD1
import Derived.Test.YtgmgbfpoeclgiaaKE3
import Derived.Test.YtgmgbfpoeclgiaaProg
import Derived.ChangeKeysEq
set_option linter.unusedVariables false
set_option linter.unusedSimpArgs false
namespace Go.Proofs.Ytgmgbfpoeclgiaa
open Go.RowKit
end Go.Proofs.Ytgmgbfpoeclgiaa
namespace Go.Proofs.Ytgmgbfpoeclgiaa
open Go.RowKit
set_option maxRecDepth 100000
set_option maxHeartbeats 4000000
def v_one : VC :=
(.all 0
(.ite (.lt (.v 0) (.k 1))
(.ret (.int .i64 (.k 3)) [])
(.ite (.lt (.k 5) (.v 0))
(.ret (.int .i64 (.k 3)) [])
(.ite (.lt (.v 1) (.k 0))
(.ret (.int .i64 (.k 3)) [])
(.ite (.lt (.k 60) (.v 1))
(.ret (.int .i64 (.k 3)) [])
(.ite (.lt (.v 2) (.k 0))
(.ret (.int .i64 (.k 3)) [])
(.ite (.lt (.k 999) (.v 2))
(.ret (.int .i64 (.k 3)) [])
(.chk (.le (.k 0) (.v 4))
(.loop [(6, .i), (7, .i)] [.i (.k 0), .i (.v 1)] [.i (.v 6), .i (.v 7)]
(.ite (.lt (.v 6) (.v 4))
(.chk (.idx (.v 6) (.v 4))
(.chk (.isp 3)
(.ld 3 (.add (.k 0) (.mul (.v 6) (.k 2))) [.int .i64 (.v 8), .int .i64 (.v 9)] [(8, .i), (9, .i)]
(.all 1
(.ite (.le (.v 8) (.v 7))
(.ret (.int .i64 (.k 1)) [])
(.chk (.rng .i64 (.add (.v 1) (.k 3)))
(.ite (.lt (.add (.v 1) (.k 3)) (.v 8))
(.ret (.int .i64 (.k 1)) [])
(.ite (.lt (.k 60) (.v 8))
(.ret (.int .i64 (.k 1)) [])
(.ite (.lt (.v 9) (.k (-1)))
(.ret (.int .i64 (.k 1)) [])
(.ite (.lt (.k 999) (.v 9))
(.ret (.int .i64 (.k 1)) [])
(.chk (.rng .i64 (.add (.v 6) (.k 1)))
(.back 0 [.i (.add (.v 6) (.k 1)), .i (.v 8)]))))))))))))
(.ret (.int .i64 (.k 0)) [])))))))))))
theorem x_one (x0 : Int) (x1 : Int) (x2 : Int) (x3 : Option Loc) (x4 : Nat) (x5 : Nat) (M : Nat → Prop) (H0 : Hp) (W0 : World) (R : Ending → World → Prop) (hH : H0.le (hpOf W0)) (h :
 (∀ b0 : Nat,
 ((x0 < 1 →
  Rt R W0 M H0 nK (vi 3)) ∧
 (¬ (x0 < 1) →
  ((5 < x0 →
   Rt R W0 M H0 nK (vi 3)) ∧
  (¬ (5 < x0) →
   ((x1 < 0 →
    Rt R W0 M H0 nK (vi 3)) ∧
   (¬ (x1 < 0) →
    ((60 < x1 →
     Rt R W0 M H0 nK (vi 3)) ∧
    (¬ (60 < x1) →
     ((x2 < 0 →
      Rt R W0 M H0 nK (vi 3)) ∧
     (¬ (x2 < 0) →
      ((999 < x2 →
       Rt R W0 M H0 nK (vi 3)) ∧
      (¬ (999 < x2) →
       (0 ≤ (x4 : Int) ∧ (0 ≤ (x4 : Int) →
       (∃ (I0 : List Dat → Hp → Prop) (μ0 : List Dat → Nat), I0 [.i 0, .i x1] H0 ∧ ∀ H1 : Hp, ∀ x6 : Int, ∀ x7 : Int, I0 [.i x6, .i x7] H1 →
        ((x6 < (x4 : Int) →
         (((0 : Int) ≤ x6 ∧ x6 < (x4 : Int)) ∧ (((0 : Int) ≤ x6 ∧ x6 < (x4 : Int)) →
         (x3.isSome = true ∧ (x3.isSome = true →
         (∃ x8 : Int, ∃ x9 : Int, RowAt H1 x3 (0 + (x6 * 2)) [vi x8, vi x9] ∧
         (∀ b1 : Nat,
         ((x8 ≤ x7 →
          Rt R W0 M H1 nK (vi 1)) ∧
         (¬ (x8 ≤ x7) →
          (inKind .i64 (x1 + 3) ∧ (inKind .i64 (x1 + 3) →
          (((x1 + 3) < x8 →
           Rt R W0 M H1 nK (vi 1)) ∧
          (¬ ((x1 + 3) < x8) →
           ((60 < x8 →
            Rt R W0 M H1 nK (vi 1)) ∧
           (¬ (60 < x8) →
            ((x9 < (-1) →
             Rt R W0 M H1 nK (vi 1)) ∧
            (¬ (x9 < (-1)) →
             ((999 < x9 →
              Rt R W0 M H1 nK (vi 1)) ∧
             (¬ (999 < x9) →
              (inKind .i64 (x6 + 1) ∧ (inKind .i64 (x6 + 1) →
              (I0 [.i (x6 + 1), .i x8] H1 ∧ μ0 [.i (x6 + 1), .i x8] < μ0 [.i x6, .i x7])))))))))))))))))))))) ∧
        (¬ (x6 < (x4 : Int)) →
         Rt R W0 M H1 nK (vi 0)))))))))))))))))))) :
  Calls Try.prog 109 #[Value.agg #[vi x0, vi x1, vi x2, vsl x3 x4 x5]] W0 R :=
  calls_sxA (M := M) (V := v_one) (hi := {loops := [(5, .inv [(39, .pt (.int .i64)), (3, .pt (.int .i64))] [])]}) (args := [.agg [.int .i64 (.v 0), .int .i64 (.v 1), .int .i64 (.v 2), .slO 3 (.k 0) (.v 4) (.v 5)]]) (nv := 6) (e := (upd (upd (upd (upd (upd (upd (fun _ => .i 0) 0 (.i x0)) 1 (.i x1)) 2 (.i x2)) 3 (.p x3)) 4 (.n x4)) 5 (.n x5))) Try.func109 hH h (by kernel_rfl) (by kernel_rfl) (by kernel_rfl)
def v_check : VC :=
(.chk (.le (.k 0) (.v 1))
(.ite (.lt (.k 3) (.v 1))
(.ret (.int .i64 (.k 2)) [])
(.loop [(3, .i)] [.i (.k 0)] [.i (.v 3)]
(.ite (.lt (.v 3) (.v 1))
(.chk (.idx (.v 3) (.v 1))
(.chk (.isp 0)
(.ld 0 (.add (.k 0) (.mul (.v 3) (.k 4))) [.int .i64 (.v 4), .int .i64 (.v 5), .int .i64 (.v 6), .slO 7 (.k 0) (.v 8) (.v 9)] [(4, .i), (5, .i), (6, .i), (7, .p), (8, .n), (9, .n)]
(.all 0
(.call 109 [.agg [.int .i64 (.v 4), .int .i64 (.v 5), .int .i64 (.v 6), .slO 7 (.k 0) (.v 8) (.v 9)]] [] [(10, .i)] (.int .i64 (.v 10)) .same
(.ite (.eq (.v 10) (.k 0))
(.chk (.rng .i64 (.add (.v 3) (.k 1)))
(.back 0 [.i (.add (.v 3) (.k 1))]))
(.ret (.int .i64 (.v 10)) [])))))))
(.loop [(4, .i), (5, .i)] [.i (.k 0), .i (.k 0)] [.i (.v 4), .i (.v 5)]
(.ite (.lt (.v 4) (.v 1))
(.chk (.idx (.v 4) (.v 1))
(.chk (.isp 0)
(.ld 0 (.add (.k 0) (.mul (.v 4) (.k 4))) [.int .i64 (.v 6), .int .i64 (.v 7), .int .i64 (.v 8), .slO 9 (.k 0) (.v 10) (.v 11)] [(6, .i), (7, .i), (8, .i), (9, .p), (10, .n), (11, .n)]
(.all 0
(.ite (.le (.v 6) (.v 5))
(.ret (.int .i64 (.k 1)) [])
(.chk (.rng .i64 (.add (.v 4) (.k 1)))
(.back 0 [.i (.add (.v 4) (.k 1)), .i (.v 6)])))))))
(.ret (.int .i64 (.k 0)) [])))))))
theorem x_check (x0 : Option Loc) (x1 : Nat) (x2 : Nat) (M : Nat → Prop) (H0 : Hp) (W0 : World) (R : Ending → World → Prop) (hH : H0.le (hpOf W0)) (h :
 (0 ≤ (x1 : Int) ∧ (0 ≤ (x1 : Int) →
 ((3 < (x1 : Int) →
  Rt R W0 M H0 nK (vi 2)) ∧
 (¬ (3 < (x1 : Int)) →
  (∃ (I0 : List Dat → Hp → Prop) (μ0 : List Dat → Nat), I0 [.i 0] H0 ∧ ∀ H1 : Hp, ∀ x3 : Int, I0 [.i x3] H1 →
   ((x3 < (x1 : Int) →
    (((0 : Int) ≤ x3 ∧ x3 < (x1 : Int)) ∧ (((0 : Int) ≤ x3 ∧ x3 < (x1 : Int)) →
    (x0.isSome = true ∧ (x0.isSome = true →
    (∃ x4 : Int, ∃ x5 : Int, ∃ x6 : Int, ∃ x7 : Option Loc, ∃ x8 : Nat, ∃ x9 : Nat, RowAt H1 x0 (0 + (x3 * 4)) [vi x4, vi x5, vi x6, vsl x7 x8 x9] ∧
    (∀ b0 : Nat,
    (Cl Try.prog W0 M H1 nK 109 #[Value.agg #[vi x4, vi x5, vi x6, vsl x7 x8 x9]] fun z W1 W2 => ∃ x10 : Int, z = .returned (vi x10) ∧ Ext W1 W2 ∧
    ((x10 = 0 →
     (inKind .i64 (x3 + 1) ∧ (inKind .i64 (x3 + 1) →
     (I0 [.i (x3 + 1)] H1 ∧ μ0 [.i (x3 + 1)] < μ0 [.i x3])))) ∧
    (¬ (x10 = 0) →
     Rt R W0 M H1 nK (vi x10))))))))))) ∧
   (¬ (x3 < (x1 : Int)) →
    (∃ (I1 : List Dat → Hp → Prop) (μ1 : List Dat → Nat), I1 [.i 0, .i 0] H1 ∧ ∀ H2 : Hp, ∀ x4 : Int, ∀ x5 : Int, I1 [.i x4, .i x5] H2 →
     ((x4 < (x1 : Int) →
      (((0 : Int) ≤ x4 ∧ x4 < (x1 : Int)) ∧ (((0 : Int) ≤ x4 ∧ x4 < (x1 : Int)) →
      (x0.isSome = true ∧ (x0.isSome = true →
      (∃ x6 : Int, ∃ x7 : Int, ∃ x8 : Int, ∃ x9 : Option Loc, ∃ x10 : Nat, ∃ x11 : Nat, RowAt H2 x0 (0 + (x4 * 4)) [vi x6, vi x7, vi x8, vsl x9 x10 x11] ∧
      (∀ b0 : Nat,
      ((x6 ≤ x5 →
       Rt R W0 M H2 nK (vi 1)) ∧
      (¬ (x6 ≤ x5) →
       (inKind .i64 (x4 + 1) ∧ (inKind .i64 (x4 + 1) →
       (I1 [.i (x4 + 1), .i x6] H2 ∧ μ1 [.i (x4 + 1), .i x6] < μ1 [.i x4, .i x5])))))))))))) ∧
     (¬ (x4 < (x1 : Int)) →
      Rt R W0 M H2 nK (vi 0)))))))))))) :
  Calls Try.prog 75 #[vsl x0 x1 x2] W0 R :=
  calls_sxA (M := M) (V := v_check) (hi := {loops := [(4, .inv [(14, .pt (.int .i64))] []), (12, .inv [(26, .pt (.int .i64)), (6, .pt (.int .i64))] [])]}) (args := [.slO 0 (.k 0) (.v 1) (.v 2)]) (nv := 3) (e := (upd (upd (upd (fun _ => .i 0) 0 (.p x0)) 1 (.n x1)) 2 (.n x2))) Try.func75 hH h (by kernel_rfl) (by kernel_rfl) (by kernel_rfl)
end Go.Proofs.Ytgmgbfpoeclgiaa
namespace Go.Proofs.Ytgmgbfpoeclgiaa
open Go.RowKit

theorem keptOk_cons (a last : Int) (r : Rep) (t : List Rep) : keptOk a last (r :: t) = (decide (last < r.seq ∧ r.seq ≤ a + 3 ∧ r.seq ≤ 60 ∧ -1 ≤ r.val ∧ r.val ≤ 999) && keptOk a r.seq t) := rfl
theorem err_range {s : Ses} (h : s.client < 1 ∨ 5 < s.client ∨ s.acked < 0 ∨ 60 < s.acked ∨ s.seen < 0 ∨ 999 < s.seen) : vi 3 = vi s.err := by unfold Ses.err; rw [if_pos h]
theorem err_kept {s : Ses} (h : ¬ (s.client < 1 ∨ 5 < s.client ∨ s.acked < 0 ∨ 60 < s.acked ∨ s.seen < 0 ∨ 999 < s.seen)) (hk : keptOk s.acked s.acked s.kept = false) : vi 1 = vi s.err := by unfold Ses.err; rw [if_neg h, hk]; rfl
theorem err_none {s : Ses} (h : ¬ (s.client < 1 ∨ 5 < s.client ∨ s.acked < 0 ∨ 60 < s.acked ∨ s.seen < 0 ∨ 999 < s.seen)) (hk : keptOk s.acked s.acked s.kept = true) : vi 0 = vi s.err := by unfold Ses.err; rw [if_neg h, hk]; rfl
theorem Kept.at' {H : Hp} {p : Option Loc} {n c : Nat} {l : List Rep} (h : Kept H p n c l) {k : Nat} (hk : k < n) : ∃ r : Rep, l[k]? = some r ∧ RowAt H p (0 + (k : Int) * 2) [vi r.seq, vi r.val] ∧ RowAt H p (0 + (k : Int) * 2) [vi r.seq] ∧ RowAt H p (0 + (k : Int) * 2 + 1) [vi r.val] := by
  obtain ⟨r, h1, h2⟩ := h.at hk
  exact ⟨r, h1, h2 _ (by omega)⟩

theorem c_one {H : Hp} {p : Option Loc} {n c : Nat} {s : Ses} (hk : Kept H p n c s.kept) : Gv Try.prog 109 #[.agg #[vi s.client, vi s.acked, vi s.seen, vsl p n c]] H (vi s.err) := fun W hH => by
  refine x_one _ _ _ p n c noM H W _ hH ?_
  intro b0
  refine ⟨fun h => Rt.gv' (err_range (by omega)), fun h1 => ⟨fun h => Rt.gv' (err_range (by omega)), fun h2 => ⟨fun h => Rt.gv' (err_range (by omega)), fun h3 => ⟨fun h => Rt.gv' (err_range (by omega)), fun h4 => ⟨fun h => Rt.gv' (err_range (by omega)), fun h5 => ⟨fun h => Rt.gv' (err_range (by omega)), fun h6 => ?_⟩⟩⟩⟩⟩⟩
  have hr : ¬ (s.client < 1 ∨ 5 < s.client ∨ s.acked < 0 ∨ 60 < s.acked ∨ s.seen < 0 ∨ 999 < s.seen) := by omega
  refine ⟨by omega, fun _ => ⟨fun l K => match l with | [.i k, .i last] => ∃ j : Nat, k = j ∧ j ≤ n ∧ H.le K ∧ keptOk s.acked last (s.kept.drop j) = keptOk s.acked s.acked s.kept | _ => False,
    fun l => match l with | [.i k, _] => n - k.toNat | _ => 0, ⟨0, rfl, by omega, Hp.le_refl H, by simp⟩, fun K k last hI => ?_⟩⟩
  obtain ⟨j, rfl, hj, hle, hok⟩ := hI
  have hl63 := hk.lt63
  refine ⟨fun hlt => ⟨⟨by omega, hlt⟩, fun _ => ?_⟩, fun hge => ?_⟩
  · obtain ⟨r, hr1, hr2, _⟩ := (hk.mono hle).at' (k := j) (by omega)
    refine ⟨hr2.isSome, fun _ => ⟨r.seq, r.val, hr2, fun b1 => ?_⟩⟩
    rw [drop_cons hr1, keptOk_cons] at hok
    have no : ¬ (last < r.seq ∧ r.seq ≤ s.acked + 3 ∧ r.seq ≤ 60 ∧ -1 ≤ r.val ∧ r.val ≤ 999) → vi 1 = vi s.err := fun h => err_kept hr (by rw [← hok]; simp only [decide_eq_false h, Bool.false_and])
    refine ⟨fun h => Rt.gv' (no (by omega)), fun g1 => ⟨in64 (by omega), fun _ => ⟨fun h => Rt.gv' (no (by omega)), fun g2 => ⟨fun h => Rt.gv' (no (by omega)), fun g3 => ⟨fun h => Rt.gv' (no (by omega)), fun g4 => ⟨fun h => Rt.gv' (no (by omega)), fun g5 => ⟨in64 (by omega), fun _ => ?_⟩⟩⟩⟩⟩⟩⟩
    refine ⟨⟨j + 1, by omega, by omega, hle, ?_⟩, by simp only; omega⟩
    rw [← hok, decide_eq_true (by omega), Bool.true_and]
  · refine Rt.gv' (err_none hr ?_)
    rw [← hok, List.drop_of_length_le (by have := hk.len; omega)]
    rfl

end Go.Proofs.Ytgmgbfpoeclgiaa
namespace Go.Proofs.Ytgmgbfpoeclgiaa
open Go.RowKit

theorem Tab.at' {H : Hp} {p : Option Loc} {n c : Nat} {l : List Ses} (h : Tab H p n c l) {k : Nat} (hk : k < n) : ∃ (s : Ses) (q : Option Loc) (m d : Nat), l[k]? = some s ∧ Kept H q m d s.kept ∧
    RowAt H p (0 + (k : Int) * 4) [vi s.client, vi s.acked, vi s.seen, vsl q m d] ∧ RowAt H p (0 + (k : Int) * 4) [vi s.client] := by
  obtain ⟨s, q, m, d, h1, h2, h3⟩ := h.at hk
  exact ⟨s, q, m, d, h1, h2, (h3 _ (by omega)).1, (h3 _ (by omega)).2.1⟩
theorem te_many {l : List Ses} (h : 3 < l.length) : vi 2 = vi (tabErr l) := by unfold tabErr; rw [if_pos h]
theorem te_first {l : List Ses} (h : ¬ 3 < l.length) {e : Int} (he : e ≠ 0) (hf : firstErr l = e) : vi e = vi (tabErr l) := by unfold tabErr; rw [if_neg h, hf, if_neg he]
theorem te_form {l : List Ses} (h : ¬ 3 < l.length) (hf : firstErr l = 0) (ho : ordered 0 l = false) : vi 1 = vi (tabErr l) := by unfold tabErr; rw [if_neg h, hf, if_pos rfl, ho]; rfl
theorem te_ok {l : List Ses} (h : ¬ 3 < l.length) (hf : firstErr l = 0) (ho : ordered 0 l = true) : vi 0 = vi (tabErr l) := by unfold tabErr; rw [if_neg h, hf, if_pos rfl, ho]; rfl

theorem c_check {H : Hp} {p : Option Loc} {n c : Nat} {l : List Ses} (hT : Tab H p n c l) : Gv Try.prog 75 #[vsl p n c] H (vi (tabErr l)) := fun W hH => by
  have hn := hT.len
  refine x_check p n c noM H W _ hH ⟨by omega, fun _ => ⟨fun h => Rt.gv' (te_many (by omega)), fun h3 => ?_⟩⟩
  have hl : ¬ 3 < l.length := by omega
  refine ⟨fun v K => match v with | [.i k] => ∃ j : Nat, k = j ∧ j ≤ n ∧ H.le K ∧ firstErr (l.drop j) = firstErr l | _ => False, fun v => match v with | [.i k] => n - k.toNat | _ => 0, ⟨0, rfl, by omega, Hp.le_refl H, by simp⟩, fun K k hI => ?_⟩
  obtain ⟨j, rfl, hj, hle, hf⟩ := hI
  refine ⟨fun hlt => ⟨⟨by omega, hlt⟩, fun _ => ?_⟩, fun hge => ?_⟩
  · obtain ⟨s, q, m, d, hs, hq, hat, _⟩ := (hT.mono hle).at' (k := j) (by omega)
    rw [drop_cons hs, firstErr] at hf
    refine ⟨hat.isSome, fun _ => ⟨_, _, _, q, m, d, hat, fun b0 => ?_⟩⟩
    refine Cl.same (c_one hq) fun _ _ hx => ⟨_, rfl, hx, fun h0 => ⟨in64 (by omega), fun _ => ⟨⟨j + 1, by omega, by omega, hle, ?_⟩, by simp only; omega⟩⟩, fun h0 => Rt.gv' (te_first hl h0 ?_)⟩
    · rw [← hf, if_pos h0]
    · rw [← hf, if_neg h0]
  · have hf0 : firstErr l = 0 := by rw [← hf, List.drop_of_length_le (by omega)]; rfl
    refine ⟨fun v K => match v with | [.i k, .i last] => ∃ j : Nat, k = j ∧ j ≤ n ∧ H.le K ∧ ordered last (l.drop j) = ordered 0 l | _ => False, fun v => match v with | [.i k, _] => n - k.toNat | _ => 0, ⟨0, rfl, by omega, hle, by simp⟩, fun K' k last hI => ?_⟩
    obtain ⟨i, rfl, hi, hle', ho⟩ := hI
    refine ⟨fun hlt => ⟨⟨by omega, hlt⟩, fun _ => ?_⟩, fun hge => ?_⟩
    · obtain ⟨s, q, m, d, hs, hq, hat, _⟩ := (hT.mono hle').at' (k := i) (by omega)
      rw [drop_cons hs, ordered] at ho
      refine ⟨hat.isSome, fun _ => ⟨_, _, _, q, m, d, hat, fun b0 => ⟨fun h0 => Rt.gv' (te_form hl hf0 ?_), fun h0 => ⟨in64 (by omega), fun _ => ⟨⟨i + 1, by omega, by omega, hle', ?_⟩, by simp only; omega⟩⟩⟩⟩⟩
      · rw [← ho, decide_eq_false (by omega), Bool.false_and]
      · rw [← ho, decide_eq_true (by omega), Bool.true_and]
    · refine Rt.gv' (te_ok hl hf0 ?_)
      rw [← ho, List.drop_of_length_le (by omega)]
      rfl
end Go.Proofs.Ytgmgbfpoeclgiaa
