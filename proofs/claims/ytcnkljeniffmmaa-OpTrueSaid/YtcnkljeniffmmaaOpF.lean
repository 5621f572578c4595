/- op.Do and the reference's DoOf. -/
import Derived.Test.YtcnkljeniffmmaaOpE
namespace Go.Proofs.Ytcnkljeniffmmaa
open Go.RowKit

theorem op_turn (v : V4) (k key to n : Int) (w : World) (hx : POp.err ⟨k, key, to, n⟩ = 0) (hv : v.ok = true) :
    Calls Try.prog 35 #[v.val, POp.val ⟨k, key, to, n⟩] w fun e w' => e = .returned (.tuple #[(POp.turn ⟨k, key, to, n⟩ v).1.val, .int .i64 (POp.turn ⟨k, key, to, n⟩ v).2]) ∧ Below w.heap.size w w' := by
  rcases (err_parts hx).1 with h | h | h | h
  all_goals simp only at h; subst h
  · exact op_turn1 v key to n w hx hv
  · exact op_turn2 v key to n w hx hv
  · exact op_turn3 v key to n w hx hv
  · exact op_turn4 v key to n w hx hv

set_option maxHeartbeats 2000000 in
theorem op_do (a b c d k key to n : Int) (w : World) :
    Calls Try.prog 10 #[V4.val ⟨a, b, c, d⟩, POp.val ⟨k, key, to, n⟩] w fun e w' => e = .returned (.tuple #[(POp.does ⟨k, key, to, n⟩ ⟨a, b, c, d⟩).1.val, .int .i64 (POp.does ⟨k, key, to, n⟩ ⟨a, b, c, d⟩).2.1, .int .i64 (POp.does ⟨k, key, to, n⟩ ⟨a, b, c, d⟩).2.2]) ∧ Below w.heap.size w w' := by
  obtain ⟨er, her⟩ : ∃ er, POp.err ⟨k, key, to, n⟩ = er := ⟨_, rfl⟩
  obtain ⟨ok, hok⟩ : ∃ ok, V4.ok ⟨a, b, c, d⟩ = ok := ⟨_, rfl⟩
  by_cases he : er = 0
  · subst he
    have HE := Lib.hid her
    have HE0 := Lib.hid her
    clear her
    cases ok
    · have HO := Lib.hid hok
      clear hok
      go_enter Try.func10, Try.ntmps10
      go_wp2_with (first
    | (go_at_call 13; refine (op_check _ _ _ _ _).mono ?_; rintro e w1 ⟨rfl, hb1⟩; have hc1 := bcell hb1; have hz1 := hb1.size; simp only [World.size_alloc] at hz1; have q0 := lts3 (Nat.le_refl (w.heap.size + 1 + 1 + 1)); have q1 := lts3 hz1; rw [HE.out])
    | (go_at_call 34; refine (op_vals _ _ _ _ _).mono ?_; rintro e w2 ⟨rfl, hb2⟩; have hc2 := bcell hb2; have hz2 := hb2.size; have q2 := lts3 (Nat.le_trans hz1 hz2); rw [HO.out])
    | (go_at_call 35; refine (op_turn ⟨a, b, c, d⟩ _ _ _ _ _ HE0.out HO.out).mono ?_; rintro e w3 ⟨rfl, hb3⟩; have hc3 := bcell hb3; have hz3 := hb3.size; have q3 := lts3 (Nat.le_trans hz1 (Nat.le_trans hz2 hz3)); rw [HR.out]))
      refine bodyPost_ret (v := .tuple #[V4.zero.val, .int .i64 0, .int .i64 3]) (by simp [results, Try.results10, go_sem, hc1, hc2, q0, q1, q2, V4.zero]) rfl ⟨?_, ?_⟩
      · simp [POp.does, HE.out, HO.out]
      · (repeat (first | exact Below.refl _ _ | exact hb1.mono (by (try simp only [World.size_alloc]); omega) | refine Below.setCell ?_ (by dsimp only; omega) _ | refine Below.alloc ?_ (by (try simp only [World.size_alloc, World.size_setCell]); omega) _ | refine Below.trans ?_ (hb3.mono (by omega)) | refine Below.trans ?_ (hb2.mono (by omega)) | refine Below.trans ?_ (hb1.mono (by (try simp only [World.size_alloc]); omega))))
    · have HO := Lib.hid hok
      clear hok
      obtain ⟨r, hr⟩ : ∃ r, POp.turn ⟨k, key, to, n⟩ ⟨a, b, c, d⟩ = r := ⟨_, rfl⟩
      have HR := Lib.hid hr
      clear hr
      go_enter Try.func10, Try.ntmps10
      go_wp2_with (first
    | (go_at_call 13; refine (op_check _ _ _ _ _).mono ?_; rintro e w1 ⟨rfl, hb1⟩; have hc1 := bcell hb1; have hz1 := hb1.size; simp only [World.size_alloc] at hz1; have q0 := lts3 (Nat.le_refl (w.heap.size + 1 + 1 + 1)); have q1 := lts3 hz1; rw [HE.out])
    | (go_at_call 34; refine (op_vals _ _ _ _ _).mono ?_; rintro e w2 ⟨rfl, hb2⟩; have hc2 := bcell hb2; have hz2 := hb2.size; have q2 := lts3 (Nat.le_trans hz1 hz2); rw [HO.out])
    | (go_at_call 35; refine (op_turn ⟨a, b, c, d⟩ _ _ _ _ _ HE0.out HO.out).mono ?_; rintro e w3 ⟨rfl, hb3⟩; have hc3 := bcell hb3; have hz3 := hb3.size; have q3 := lts3 (Nat.le_trans hz1 (Nat.le_trans hz2 hz3)); rw [HR.out]))
      refine bodyPost_ret (v := .tuple #[r.1.val, .int .i64 r.2, .int .i64 0]) (by simp [results, Try.results10, go_sem, hc1, hc2, hc3, q0, q1, q2, q3]) rfl ⟨?_, ?_⟩
      · simp [POp.does, HE.out, HO.out, HR.out]
      · (repeat (first | exact Below.refl _ _ | exact hb1.mono (by (try simp only [World.size_alloc]); omega) | refine Below.setCell ?_ (by dsimp only; omega) _ | refine Below.alloc ?_ (by (try simp only [World.size_alloc, World.size_setCell]); omega) _ | refine Below.trans ?_ (hb3.mono (by omega)) | refine Below.trans ?_ (hb2.mono (by omega)) | refine Below.trans ?_ (hb1.mono (by (try simp only [World.size_alloc]); omega))))
  · have hne : (er != 0) = true := by rw [bne_iff_ne]; exact he
    have HN := Lib.hid he
    have HE := Lib.hid her
    have HO := Lib.hid hok
    clear her he hok
    go_enter Try.func10, Try.ntmps10
    go_wp2_with (first
    | (go_at_call 13; refine (op_check _ _ _ _ _).mono ?_; rintro e w1 ⟨rfl, hb1⟩; have hc1 := bcell hb1; have hz1 := hb1.size; simp only [World.size_alloc] at hz1; have q0 := lts3 (Nat.le_refl (w.heap.size + 1 + 1 + 1)); have q1 := lts3 hz1; rw [HE.out])
    | (go_at_call 34; refine (op_vals _ _ _ _ _).mono ?_; rintro e w2 ⟨rfl, hb2⟩; have hc2 := bcell hb2; have hz2 := hb2.size; have q2 := lts3 (Nat.le_trans hz1 hz2); rw [HO.out])
    | (go_at_call 35; refine (op_turn ⟨a, b, c, d⟩ _ _ _ _ _ HE0.out HO.out).mono ?_; rintro e w3 ⟨rfl, hb3⟩; have hc3 := bcell hb3; have hz3 := hb3.size; have q3 := lts3 (Nat.le_trans hz1 (Nat.le_trans hz2 hz3)); rw [HR.out]))
    refine bodyPost_ret (v := .tuple #[V4.zero.val, .int .i64 0, .int .i64 er]) (by simp [results, Try.results10, go_sem, hc1, q0, q1, V4.zero]) rfl ⟨?_, ?_⟩
    · simp [POp.does, HE.out, HN.out]
    · (repeat (first | exact Below.refl _ _ | exact hb1.mono (by (try simp only [World.size_alloc]); omega) | refine Below.setCell ?_ (by dsimp only; omega) _ | refine Below.alloc ?_ (by (try simp only [World.size_alloc, World.size_setCell]); omega) _ | refine Below.trans ?_ (hb3.mono (by omega)) | refine Below.trans ?_ (hb2.mono (by omega)) | refine Below.trans ?_ (hb1.mono (by (try simp only [World.size_alloc]); omega))))

set_option maxHeartbeats 2000000 in
theorem r_do (a b c d k key to n : Int) (w : World) :
    Calls Try.prog 11 #[V4.val ⟨a, b, c, d⟩, POp.val ⟨k, key, to, n⟩] w fun e w' => e = .returned (.tuple #[(POp.does ⟨k, key, to, n⟩ ⟨a, b, c, d⟩).1.val, .int .i64 (POp.does ⟨k, key, to, n⟩ ⟨a, b, c, d⟩).2.1, .int .i64 (POp.does ⟨k, key, to, n⟩ ⟨a, b, c, d⟩).2.2]) ∧ Below w.heap.size w w' := by
  obtain ⟨er, her⟩ : ∃ er, POp.err ⟨k, key, to, n⟩ = er := ⟨_, rfl⟩
  obtain ⟨ok, hok⟩ : ∃ ok, V4.ok ⟨a, b, c, d⟩ = ok := ⟨_, rfl⟩
  by_cases he : er = 0
  · subst he
    have HE := Lib.hid her
    have HE0 := Lib.hid her
    clear her
    cases ok
    · have HO := Lib.hid hok
      clear hok
      go_enter Try.func11, Try.ntmps11
      go_wp2_with (first
    | (go_at_call 14; refine (r_check _ _ _ _ _).mono ?_; rintro e w1 ⟨rfl, hb1⟩; have hc1 := bcell hb1; have hz1 := hb1.size; simp only [World.size_alloc] at hz1; have q0 := lts3 (Nat.le_refl (w.heap.size + 1 + 1 + 1)); have q1 := lts3 hz1; rw [HE.out])
    | (go_at_call 36; refine (r_valsFine _ _ _ _ _).mono ?_; rintro e w2 ⟨rfl, hb2⟩; have hc2 := bcell hb2; have hz2 := hb2.size; have q2 := lts3 (Nat.le_trans hz1 hz2); rw [HO.out])
    | (go_at_call 37; refine (r_did ⟨a, b, c, d⟩ _ _ _ _ _ HE0.out HO.out).mono ?_; rintro e w3 ⟨rfl, hb3⟩; have hc3 := bcell hb3; have hz3 := hb3.size; have q3 := lts3 (Nat.le_trans hz1 (Nat.le_trans hz2 hz3)); rw [HR.out]))
      refine bodyPost_ret (v := .tuple #[V4.zero.val, .int .i64 0, .int .i64 3]) (by simp [results, Try.results11, go_sem, hc1, hc2, q0, q1, q2, V4.zero]) rfl ⟨?_, ?_⟩
      · simp [POp.does, HE.out, HO.out]
      · (repeat (first | exact Below.refl _ _ | exact hb1.mono (by (try simp only [World.size_alloc]); omega) | refine Below.setCell ?_ (by dsimp only; omega) _ | refine Below.alloc ?_ (by (try simp only [World.size_alloc, World.size_setCell]); omega) _ | refine Below.trans ?_ (hb3.mono (by omega)) | refine Below.trans ?_ (hb2.mono (by omega)) | refine Below.trans ?_ (hb1.mono (by (try simp only [World.size_alloc]); omega))))
    · have HO := Lib.hid hok
      clear hok
      obtain ⟨r, hr⟩ : ∃ r, POp.turn ⟨k, key, to, n⟩ ⟨a, b, c, d⟩ = r := ⟨_, rfl⟩
      have HR := Lib.hid hr
      clear hr
      go_enter Try.func11, Try.ntmps11
      go_wp2_with (first
    | (go_at_call 14; refine (r_check _ _ _ _ _).mono ?_; rintro e w1 ⟨rfl, hb1⟩; have hc1 := bcell hb1; have hz1 := hb1.size; simp only [World.size_alloc] at hz1; have q0 := lts3 (Nat.le_refl (w.heap.size + 1 + 1 + 1)); have q1 := lts3 hz1; rw [HE.out])
    | (go_at_call 36; refine (r_valsFine _ _ _ _ _).mono ?_; rintro e w2 ⟨rfl, hb2⟩; have hc2 := bcell hb2; have hz2 := hb2.size; have q2 := lts3 (Nat.le_trans hz1 hz2); rw [HO.out])
    | (go_at_call 37; refine (r_did ⟨a, b, c, d⟩ _ _ _ _ _ HE0.out HO.out).mono ?_; rintro e w3 ⟨rfl, hb3⟩; have hc3 := bcell hb3; have hz3 := hb3.size; have q3 := lts3 (Nat.le_trans hz1 (Nat.le_trans hz2 hz3)); rw [HR.out]))
      refine bodyPost_ret (v := .tuple #[r.1.val, .int .i64 r.2, .int .i64 0]) (by simp [results, Try.results11, go_sem, hc1, hc2, hc3, q0, q1, q2, q3]) rfl ⟨?_, ?_⟩
      · simp [POp.does, HE.out, HO.out, HR.out]
      · (repeat (first | exact Below.refl _ _ | exact hb1.mono (by (try simp only [World.size_alloc]); omega) | refine Below.setCell ?_ (by dsimp only; omega) _ | refine Below.alloc ?_ (by (try simp only [World.size_alloc, World.size_setCell]); omega) _ | refine Below.trans ?_ (hb3.mono (by omega)) | refine Below.trans ?_ (hb2.mono (by omega)) | refine Below.trans ?_ (hb1.mono (by (try simp only [World.size_alloc]); omega))))
  · have hne : (er != 0) = true := by rw [bne_iff_ne]; exact he
    have HN := Lib.hid he
    have HE := Lib.hid her
    have HO := Lib.hid hok
    clear her he hok
    go_enter Try.func11, Try.ntmps11
    go_wp2_with (first
    | (go_at_call 14; refine (r_check _ _ _ _ _).mono ?_; rintro e w1 ⟨rfl, hb1⟩; have hc1 := bcell hb1; have hz1 := hb1.size; simp only [World.size_alloc] at hz1; have q0 := lts3 (Nat.le_refl (w.heap.size + 1 + 1 + 1)); have q1 := lts3 hz1; rw [HE.out])
    | (go_at_call 36; refine (r_valsFine _ _ _ _ _).mono ?_; rintro e w2 ⟨rfl, hb2⟩; have hc2 := bcell hb2; have hz2 := hb2.size; have q2 := lts3 (Nat.le_trans hz1 hz2); rw [HO.out])
    | (go_at_call 37; refine (r_did ⟨a, b, c, d⟩ _ _ _ _ _ HE0.out HO.out).mono ?_; rintro e w3 ⟨rfl, hb3⟩; have hc3 := bcell hb3; have hz3 := hb3.size; have q3 := lts3 (Nat.le_trans hz1 (Nat.le_trans hz2 hz3)); rw [HR.out]))
    refine bodyPost_ret (v := .tuple #[V4.zero.val, .int .i64 0, .int .i64 er]) (by simp [results, Try.results11, go_sem, hc1, q0, q1, V4.zero]) rfl ⟨?_, ?_⟩
    · simp [POp.does, HE.out, HN.out]
    · (repeat (first | exact Below.refl _ _ | exact hb1.mono (by (try simp only [World.size_alloc]); omega) | refine Below.setCell ?_ (by dsimp only; omega) _ | refine Below.alloc ?_ (by (try simp only [World.size_alloc, World.size_setCell]); omega) _ | refine Below.trans ?_ (hb3.mono (by omega)) | refine Below.trans ?_ (hb2.mono (by omega)) | refine Below.trans ?_ (hb1.mono (by (try simp only [World.size_alloc]); omega))))
end Go.Proofs.Ytcnkljeniffmmaa
