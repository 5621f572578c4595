/- portagelaw.OpTells: the walk. -/
import Derived.Test.YtcnkljeniffmmaaOpG
namespace Go.Proofs.Ytcnkljeniffmmaa
open Go.RowKit
set_option maxHeartbeats 4000000 in
theorem opTells_walk (a b c d k key to n : Int) (w : World) :
    Calls Try.prog 3 #[V4.val ⟨a, b, c, d⟩, POp.val ⟨k, key, to, n⟩] w fun e w' => e = .returned (.bool true) ∧ Below w.heap.size w w' := by
  obtain ⟨ra, rb, rc, rd, rn, re, hr⟩ : ∃ ra rb rc rd rn re, POp.does ⟨k, key, to, n⟩ ⟨a, b, c, d⟩ = (⟨ra, rb, rc, rd⟩, rn, re) := ⟨_, _, _, _, _, _, rfl⟩
  obtain ⟨er, her⟩ : ∃ er, POp.err ⟨k, key, to, n⟩ = er := ⟨_, rfl⟩
  have HR := Lib.hid hr
  have HE := Lib.hid her
  clear hr her
  have e4 := run_eql_v4
  have g4 := guard_v4
  go_enter Try.func3, Try.ntmps3
  go_wp2_with (first
   | (go_at_call 10
      ((with_reducible refine (op_do _ _ _ _ _ _ _ _ _).mono ?_))
      rw [HR.out]
      rintro e w1 ⟨rfl, hb1⟩
      have hc1 := bcell hb1
      have hz1 := hb1.size
      simp only [World.size_alloc] at hz1
      have q1 := lts2 hz1
      have p1 := lts2 (Nat.le_refl (w.heap.size + 1 + 1)))
   | (go_at_call 11
      ((with_reducible refine (r_do _ _ _ _ _ _ _ _ _).mono ?_))
      rw [HR.out]
      rintro e w2 ⟨rfl, hb2⟩
      have hc2 := bcell hb2
      have hz2 := hb2.size
      simp only [World.size_alloc] at hz2
      have q2 := lts1 hz2
      have q3 := lts2 (show w.heap.size + 1 + 1 ≤ w2.heap.size by omega)
      have p2 := lts2 (show w.heap.size + 1 + 1 ≤ w1.heap.size + 1 by omega)))
  have hS : Below w.heap.size w (w2.alloc (.cells #[.int .i64 ra, .int .i64 rb, .int .i64 rc, .int .i64 rd] 22)) := by
    repeat (first | exact Below.refl _ _ | refine Below.alloc ?_ (by (try simp only [World.size_alloc]); omega) _ | refine Below.trans ?_ (hb2.mono (by (try simp only [World.size_alloc]); omega)) | refine Below.trans ?_ (hb1.mono (by (try simp only [World.size_alloc]); omega)))
  go_region_held3 (fun w' => w'.cell? ⟨w.heap.size + 1, 0, none⟩ = some (.int .i64 k) ∧ w'.cell? ⟨w.heap.size + 1, 1, none⟩ = some (.int .i64 key) ∧ w'.cell? ⟨w.heap.size + 1, 2, none⟩ = some (.int .i64 to) ∧ w'.cell? ⟨w.heap.size + 1, 3, none⟩ = some (.int .i64 n) ∧ w'.cell? ⟨w1.heap.size, 0, none⟩ = some (.int .i64 ra) ∧ w'.cell? ⟨w1.heap.size, 1, none⟩ = some (.int .i64 rb) ∧ w'.cell? ⟨w1.heap.size, 2, none⟩ = some (.int .i64 rc) ∧ w'.cell? ⟨w1.heap.size, 3, none⟩ = some (.int .i64 rd) ∧ w'.cell? ⟨w2.heap.size, 0, none⟩ = some (.int .i64 ra) ∧ w'.cell? ⟨w2.heap.size, 1, none⟩ = some (.int .i64 rb) ∧ w'.cell? ⟨w2.heap.size, 2, none⟩ = some (.int .i64 rc) ∧ w'.cell? ⟨w2.heap.size, 3, none⟩ = some (.int .i64 rd))
    (first | (go_simp; done) | (refine ⟨?_, ?_, ?_, ?_, ?_, ?_, ?_, ?_, ?_, ?_, ?_, ?_⟩ <;> exact keepCell' (by assumption) (by simp [*])))
    (first
      | (go_at_call 12; refine (opBegun_true _).mono ?_; rintro e w' ⟨rfl, hb⟩)
      | (go_at_call 13; refine (op_check _ _ _ _ _).mono ?_; rw [HE.out]; rintro e w' ⟨rfl, hb⟩)
      | (go_at_call 14; refine (r_check _ _ _ _ _).mono ?_; rw [HE.out]; rintro e w' ⟨rfl, hb⟩))
  all_goals go_wp2
  all_goals go_ret
  all_goals refine ⟨?_, ?_⟩
  all_goals try (first | rfl | (simp; done))
  all_goals try (repeat (first | exact hS | exact Below.drew hS | exact Below.refl _ _ | refine keepBelow' (by assumption) ?_))
end Go.Proofs.Ytcnkljeniffmmaa
