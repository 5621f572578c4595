/- op.Do and the reference's DoOf. == and != on [4]int. -/
import Derived.Test.YtdihdcielchodaaKO1
import Derived.ChangeKeysEq
set_option linter.unusedVariables false
set_option linter.unusedSimpArgs false
namespace Go.Proofs.Ytdihdcielchodaa
open Go.RowKit

theorem op_turn (v : V4) (k key to n : Int) (w : World) (hx : POp.err ⟨k, key, to, n⟩ = 0) (hv : v.ok = true) :
    Calls Try.prog 61 #[v.val, POp.val ⟨k, key, to, n⟩] w fun e w' => e = .returned (.tuple #[(POp.turn ⟨k, key, to, n⟩ v).1.val, .int .i64 (POp.turn ⟨k, key, to, n⟩ v).2]) ∧ Below w.heap.size w w' := by
  rcases (err_parts hx).1 with h | h | h | h
  all_goals simp only at h; subst h
  · exact op_turn1 v key to n w hx hv
  · exact op_turn2 v key to n w hx hv
  · exact op_turn3 v key to n w hx hv
  · exact op_turn4 v key to n w hx hv

set_option maxHeartbeats 2000000 in
theorem op_do (a b c d k key to n : Int) (w : World) :
    Calls Try.prog 33 #[V4.val ⟨a, b, c, d⟩, POp.val ⟨k, key, to, n⟩] w fun e w' => e = .returned (.tuple #[(POp.does ⟨k, key, to, n⟩ ⟨a, b, c, d⟩).1.val, .int .i64 (POp.does ⟨k, key, to, n⟩ ⟨a, b, c, d⟩).2.1, .int .i64 (POp.does ⟨k, key, to, n⟩ ⟨a, b, c, d⟩).2.2]) ∧ Below w.heap.size w w' := by
  obtain ⟨er, her⟩ : ∃ er, POp.err ⟨k, key, to, n⟩ = er := ⟨_, rfl⟩
  obtain ⟨ok, hok⟩ : ∃ ok, V4.ok ⟨a, b, c, d⟩ = ok := ⟨_, rfl⟩
  by_cases he : er = 0
  · subst he
    have HE := Lib.hid her
    have HE0 := Lib.hid her
    clear her
    cases ok
    · have HO := Lib.hid hok
      clear hok
      go_enter Try.func33, Try.ntmps33
      go_wp2_with (first
    | (go_at_call 60; refine (op_check _ _ _ _ _).mono ?_; rintro e w1 ⟨rfl, hb1⟩; have hc1 := bcell hb1; have hz1 := hb1.size; simp only [World.size_alloc] at hz1; have q0 := lts3 (Nat.le_refl (w.heap.size + 1 + 1 + 1)); have q1 := lts3 hz1; rw [HE.out])
    | (go_at_call 53; refine (op_vals _ _ _ _ _).mono ?_; rintro e w2 ⟨rfl, hb2⟩; have hc2 := bcell hb2; have hz2 := hb2.size; have q2 := lts3 (Nat.le_trans hz1 hz2); rw [HO.out])
    | (go_at_call 61; refine (op_turn ⟨a, b, c, d⟩ _ _ _ _ _ HE0.out HO.out).mono ?_; rintro e w3 ⟨rfl, hb3⟩; have hc3 := bcell hb3; have hz3 := hb3.size; have q3 := lts3 (Nat.le_trans hz1 (Nat.le_trans hz2 hz3)); rw [HR.out]))
      refine bodyPost_ret (v := .tuple #[V4.zero.val, .int .i64 0, .int .i64 3]) (by simp [results, Try.results33, go_sem, hc1, hc2, q0, q1, q2, V4.zero]) rfl ⟨?_, ?_⟩
      · simp [POp.does, HE.out, HO.out]
      · (repeat (first | exact Below.refl _ _ | exact hb1.mono (by (try simp only [World.size_alloc]); omega) | refine Below.setCell ?_ (by dsimp only; omega) _ | refine Below.alloc ?_ (by (try simp only [World.size_alloc, World.size_setCell]); omega) _ | refine Below.trans ?_ (hb3.mono (by omega)) | refine Below.trans ?_ (hb2.mono (by omega)) | refine Below.trans ?_ (hb1.mono (by (try simp only [World.size_alloc]); omega))))
    · have HO := Lib.hid hok
      clear hok
      obtain ⟨r, hr⟩ : ∃ r, POp.turn ⟨k, key, to, n⟩ ⟨a, b, c, d⟩ = r := ⟨_, rfl⟩
      have HR := Lib.hid hr
      clear hr
      go_enter Try.func33, Try.ntmps33
      go_wp2_with (first
    | (go_at_call 60; refine (op_check _ _ _ _ _).mono ?_; rintro e w1 ⟨rfl, hb1⟩; have hc1 := bcell hb1; have hz1 := hb1.size; simp only [World.size_alloc] at hz1; have q0 := lts3 (Nat.le_refl (w.heap.size + 1 + 1 + 1)); have q1 := lts3 hz1; rw [HE.out])
    | (go_at_call 53; refine (op_vals _ _ _ _ _).mono ?_; rintro e w2 ⟨rfl, hb2⟩; have hc2 := bcell hb2; have hz2 := hb2.size; have q2 := lts3 (Nat.le_trans hz1 hz2); rw [HO.out])
    | (go_at_call 61; refine (op_turn ⟨a, b, c, d⟩ _ _ _ _ _ HE0.out HO.out).mono ?_; rintro e w3 ⟨rfl, hb3⟩; have hc3 := bcell hb3; have hz3 := hb3.size; have q3 := lts3 (Nat.le_trans hz1 (Nat.le_trans hz2 hz3)); rw [HR.out]))
      refine bodyPost_ret (v := .tuple #[r.1.val, .int .i64 r.2, .int .i64 0]) (by simp [results, Try.results33, go_sem, hc1, hc2, hc3, q0, q1, q2, q3]) rfl ⟨?_, ?_⟩
      · simp [POp.does, HE.out, HO.out, HR.out]
      · (repeat (first | exact Below.refl _ _ | exact hb1.mono (by (try simp only [World.size_alloc]); omega) | refine Below.setCell ?_ (by dsimp only; omega) _ | refine Below.alloc ?_ (by (try simp only [World.size_alloc, World.size_setCell]); omega) _ | refine Below.trans ?_ (hb3.mono (by omega)) | refine Below.trans ?_ (hb2.mono (by omega)) | refine Below.trans ?_ (hb1.mono (by (try simp only [World.size_alloc]); omega))))
  · have hne : (er != 0) = true := by rw [bne_iff_ne]; exact he
    have HN := Lib.hid he
    have HE := Lib.hid her
    have HO := Lib.hid hok
    clear her he hok
    go_enter Try.func33, Try.ntmps33
    go_wp2_with (first
    | (go_at_call 60; refine (op_check _ _ _ _ _).mono ?_; rintro e w1 ⟨rfl, hb1⟩; have hc1 := bcell hb1; have hz1 := hb1.size; simp only [World.size_alloc] at hz1; have q0 := lts3 (Nat.le_refl (w.heap.size + 1 + 1 + 1)); have q1 := lts3 hz1; rw [HE.out])
    | (go_at_call 53; refine (op_vals _ _ _ _ _).mono ?_; rintro e w2 ⟨rfl, hb2⟩; have hc2 := bcell hb2; have hz2 := hb2.size; have q2 := lts3 (Nat.le_trans hz1 hz2); rw [HO.out])
    | (go_at_call 61; refine (op_turn ⟨a, b, c, d⟩ _ _ _ _ _ HE0.out HO.out).mono ?_; rintro e w3 ⟨rfl, hb3⟩; have hc3 := bcell hb3; have hz3 := hb3.size; have q3 := lts3 (Nat.le_trans hz1 (Nat.le_trans hz2 hz3)); rw [HR.out]))
    refine bodyPost_ret (v := .tuple #[V4.zero.val, .int .i64 0, .int .i64 er]) (by simp [results, Try.results33, go_sem, hc1, q0, q1, V4.zero]) rfl ⟨?_, ?_⟩
    · simp [POp.does, HE.out, HN.out]
    · (repeat (first | exact Below.refl _ _ | exact hb1.mono (by (try simp only [World.size_alloc]); omega) | refine Below.setCell ?_ (by dsimp only; omega) _ | refine Below.alloc ?_ (by (try simp only [World.size_alloc, World.size_setCell]); omega) _ | refine Below.trans ?_ (hb3.mono (by omega)) | refine Below.trans ?_ (hb2.mono (by omega)) | refine Below.trans ?_ (hb1.mono (by (try simp only [World.size_alloc]); omega))))

end Go.Proofs.Ytdihdcielchodaa
namespace Go.Proofs.Ytdihdcielchodaa
open Go.RowKit
theorem part4 (a b c d : Value) : (∀ w, (part 3 #[a, b, c, d] 0).run Try.prog w = .ok a w) ∧ (∀ w, (part 3 #[a, b, c, d] 1).run Try.prog w = .ok b w) ∧ (∀ w, (part 3 #[a, b, c, d] 2).run Try.prog w = .ok c w) ∧ (∀ w, (part 3 #[a, b, c, d] 3).run Try.prog w = .ok d w) :=
  ⟨fun _ => by kernel_rfl, fun _ => by kernel_rfl, fun _ => by kernel_rfl, fun _ => by kernel_rfl⟩
theorem cells_int : Try.prog.cellsOf 3 = 1 := by kernel_rfl
theorem V4.eq_iff (v u : V4) : v = u ↔ v.a = u.a ∧ v.b = u.b ∧ v.c = u.c ∧ v.d = u.d := by
  cases v; cases u; simp
theorem info_int : (Try.prog.info? 3).isSome = true := by kernel_rfl
theorem run_equal_v4 (a b c d a' b' c' d' : Int) (w : World) : (Op.equal 22 (.agg #[.int .i64 a, .int .i64 b, .int .i64 c, .int .i64 d]) (.agg #[.int .i64 a', .int .i64 b', .int .i64 c', .int .i64 d'])).run Try.prog w = .ok (decide (V4.mk a b c d = V4.mk a' b' c' d')) w := by
  obtain ⟨i, hi⟩ := Option.isSome_iff_exists.1 info_int
  unfold Op.equal Op.maxDepth
  rw [run_equalIn_array (P := Try.prog) w 9999 _ _ Try.underlying22 hi]
  obtain ⟨p0, p1, p2, p3⟩ := part4 (.int .i64 a) (.int .i64 b) (.int .i64 c) (.int .i64 d)
  obtain ⟨r0, r1, r2, r3⟩ := part4 (.int .i64 a') (.int .i64 b') (.int .i64 c') (.int .i64 d')
  have e : ∀ (x y : Int) (w : World), (Op.equalIn 9999 3 (.int .i64 x) (.int .i64 y)).run Try.prog w = .ok (x == y) w := fun x y w => run_equalIn_int w 9998 _ _ _ x y Try.underlying3
  simp only [show List.range 4 = [0, 1, 2, 3] from rfl, Op.eqItems, Sem.run_bind, cells_int, Nat.mul_one, p0, p1, p2, p3, r0, r1, r2, r3, Result.andThen_ok, e]
  have z : ∀ x : Int, (x == x) = true := fun x => beq_self_eq_true x
  by_cases h0 : a = a'
  · subst h0
    by_cases h1 : b = b'
    · subst h1
      by_cases h2 : c = c'
      · subst h2
        by_cases h3 : d = d'
        · subst h3
          simp [p1, p2, p3, r1, r2, r3, e]
        · simp [h3, p1, p2, p3, r1, r2, r3, e]
      · simp [h2, p1, p2, r1, r2, e]
    · simp [h1, p1, r1, e]
  · simp [h0]
theorem run_eql_v4 (a b c d a' b' c' d' : Int) (w : World) : (binOp .eql 22 (.agg #[.int .i64 a, .int .i64 b, .int .i64 c, .int .i64 d]) (.agg #[.int .i64 a', .int .i64 b', .int .i64 c', .int .i64 d'])).run Try.prog w = .ok (.bool (decide (V4.mk a b c d = V4.mk a' b' c' d'))) w := by
  simp only [binOp, Sem.run_bind, run_equal_v4, Result.andThen_ok, Sem.run_pure]
theorem guard_v4 : Program.eqGuardType Try.prog Try.prog.depth 22 = false := by kernel_rfl
end Go.Proofs.Ytdihdcielchodaa
