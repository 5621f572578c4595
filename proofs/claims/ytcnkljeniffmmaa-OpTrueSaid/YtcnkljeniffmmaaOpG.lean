/- opBegun: what must be in any case: true. -/
import Derived.Test.YtcnkljeniffmmaaOpEq
namespace Go.Proofs.Ytcnkljeniffmmaa
open Go.RowKit
theorem does0 (w : World) : Calls Try.prog 10 #[V4.val ⟨5, 0, 998, 0⟩, POp.val ⟨3, 0, 1, 3⟩] w fun e w' => e = .returned (.tuple #[V4.val ⟨2, 3, 998, 0⟩, .int .i64 2, .int .i64 0]) ∧ Below w.heap.size w w' :=
  (op_do 5 0 998 0 3 0 1 3 w).mono fun _ _ ⟨he, hb⟩ => ⟨he.trans (by rw [show POp.does ⟨3, 0, 1, 3⟩ ⟨5, 0, 998, 0⟩ = (⟨2, 3, 998, 0⟩, 2, 0) from by decide]), hb⟩
theorem does1 (w : World) : Calls Try.prog 10 #[V4.val ⟨5, 0, 998, 0⟩, POp.val ⟨3, 0, 2, 3⟩] w fun e w' => e = .returned (.tuple #[V4.val ⟨5, 0, 998, 0⟩, .int .i64 (-1), .int .i64 0]) ∧ Below w.heap.size w w' :=
  (op_do 5 0 998 0 3 0 2 3 w).mono fun _ _ ⟨he, hb⟩ => ⟨he.trans (by rw [show POp.does ⟨3, 0, 2, 3⟩ ⟨5, 0, 998, 0⟩ = (⟨5, 0, 998, 0⟩, (-1), 0) from by decide]), hb⟩
theorem does2 (w : World) : Calls Try.prog 10 #[V4.val ⟨5, 0, 998, 0⟩, POp.val ⟨3, 0, 0, 6⟩] w fun e w' => e = .returned (.tuple #[V4.val ⟨5, 0, 998, 0⟩, .int .i64 (-1), .int .i64 0]) ∧ Below w.heap.size w w' :=
  (op_do 5 0 998 0 3 0 0 6 w).mono fun _ _ ⟨he, hb⟩ => ⟨he.trans (by rw [show POp.does ⟨3, 0, 0, 6⟩ ⟨5, 0, 998, 0⟩ = (⟨5, 0, 998, 0⟩, (-1), 0) from by decide]), hb⟩
theorem does3 (w : World) : Calls Try.prog 10 #[V4.val ⟨5, 0, 998, 0⟩, POp.val ⟨2, 2, 0, 1⟩] w fun e w' => e = .returned (.tuple #[V4.val ⟨5, 0, 999, 0⟩, .int .i64 999, .int .i64 0]) ∧ Below w.heap.size w w' :=
  (op_do 5 0 998 0 2 2 0 1 w).mono fun _ _ ⟨he, hb⟩ => ⟨he.trans (by rw [show POp.does ⟨2, 2, 0, 1⟩ ⟨5, 0, 998, 0⟩ = (⟨5, 0, 999, 0⟩, 999, 0) from by decide]), hb⟩
theorem does4 (w : World) : Calls Try.prog 10 #[V4.val ⟨1000, 0, 0, 0⟩, POp.val ⟨4, 0, 0, 0⟩] w fun e w' => e = .returned (.tuple #[V4.val ⟨0, 0, 0, 0⟩, .int .i64 0, .int .i64 3]) ∧ Below w.heap.size w w' :=
  (op_do 1000 0 0 0 4 0 0 0 w).mono fun _ _ ⟨he, hb⟩ => ⟨he.trans (by rw [show POp.does ⟨4, 0, 0, 0⟩ ⟨1000, 0, 0, 0⟩ = (⟨0, 0, 0, 0⟩, 0, 3) from by decide]), hb⟩
theorem err0 (w : World) : Calls Try.prog 13 #[POp.val ⟨0, 0, 0, 0⟩] w fun e w' => e = .returned (.int .i64 4) ∧ Below w.heap.size w w' :=
  (op_check 0 0 0 0 w).mono fun _ _ ⟨he, hb⟩ => ⟨he.trans (by rw [show POp.err ⟨0, 0, 0, 0⟩ = 4 from by decide]), hb⟩
theorem err1 (w : World) : Calls Try.prog 13 #[POp.val ⟨4, 0, 0, 1⟩] w fun e w' => e = .returned (.int .i64 1) ∧ Below w.heap.size w w' :=
  (op_check 4 0 0 1 w).mono fun _ _ ⟨he, hb⟩ => ⟨he.trans (by rw [show POp.err ⟨4, 0, 0, 1⟩ = 1 from by decide]), hb⟩
theorem err2 (w : World) : Calls Try.prog 13 #[POp.val ⟨1, 0, 0, (-1)⟩] w fun e w' => e = .returned (.int .i64 3) ∧ Below w.heap.size w w' :=
  (op_check 1 0 0 (-1) w).mono fun _ _ ⟨he, hb⟩ => ⟨he.trans (by rw [show POp.err ⟨1, 0, 0, (-1)⟩ = 3 from by decide]), hb⟩
theorem err3 (w : World) : Calls Try.prog 13 #[POp.val ⟨2, 4, 0, 0⟩] w fun e w' => e = .returned (.int .i64 3) ∧ Below w.heap.size w w' :=
  (op_check 2 4 0 0 w).mono fun _ _ ⟨he, hb⟩ => ⟨he.trans (by rw [show POp.err ⟨2, 4, 0, 0⟩ = 3 from by decide]), hb⟩
set_option maxHeartbeats 4000000 in
theorem opBegun_true (w : World) : Calls Try.prog 12 #[] w fun e w' => e = .returned (.bool true) ∧ Below w.heap.size w w' := by
  have e4 := run_eql_v4
  have g4 := guard_v4
  go_enter Try.func12, Try.ntmps12
  go_wp2_with (first
   | (go_at_call 10
      ((with_reducible refine (does0 _).mono ?_))
      rintro e w1 ⟨rfl, hb1⟩
      have hc1 := bcell hb1
      have hz1 := hb1.size
      try simp only [World.size_alloc] at hz1
      have q1 : w.heap.size < w1.heap.size ∧ w.heap.size ≠ w1.heap.size ∧ w1.heap.size ≠ w.heap.size := by omega
      have p1 := lts1 (Nat.le_refl (w.heap.size + 1)))
   | (go_at_call 10
      ((with_reducible refine (does1 _).mono ?_))
      rintro e w2 ⟨rfl, hb2⟩
      have hc2 := bcell hb2
      have hz2 := hb2.size
      try simp only [World.size_alloc] at hz2
      have q2 : w.heap.size < w2.heap.size ∧ w.heap.size ≠ w2.heap.size ∧ w2.heap.size ≠ w.heap.size ∧ w1.heap.size < w2.heap.size ∧ w1.heap.size ≠ w2.heap.size ∧ w2.heap.size ≠ w1.heap.size := by omega
      have p2 := lts1 (Nat.le_refl (w1.heap.size + 1))
      have o2 : w.heap.size < w1.heap.size + 1 := by omega)
   | (go_at_call 10
      ((with_reducible refine (does2 _).mono ?_))
      rintro e w3 ⟨rfl, hb3⟩
      have hc3 := bcell hb3
      have hz3 := hb3.size
      try simp only [World.size_alloc] at hz3
      have q3 : w.heap.size < w3.heap.size ∧ w.heap.size ≠ w3.heap.size ∧ w3.heap.size ≠ w.heap.size ∧ w1.heap.size < w3.heap.size ∧ w1.heap.size ≠ w3.heap.size ∧ w3.heap.size ≠ w1.heap.size ∧ w2.heap.size < w3.heap.size ∧ w2.heap.size ≠ w3.heap.size ∧ w3.heap.size ≠ w2.heap.size := by omega
      have p3 := lts1 (Nat.le_refl (w2.heap.size + 1))
      have o3 : w.heap.size < w2.heap.size + 1 ∧ w1.heap.size < w2.heap.size + 1 := by omega)
   | (go_at_call 10
      ((with_reducible refine (does3 _).mono ?_))
      rintro e w4 ⟨rfl, hb4⟩
      have hc4 := bcell hb4
      have hz4 := hb4.size
      try simp only [World.size_alloc] at hz4
      have q4 : w.heap.size < w4.heap.size ∧ w.heap.size ≠ w4.heap.size ∧ w4.heap.size ≠ w.heap.size ∧ w1.heap.size < w4.heap.size ∧ w1.heap.size ≠ w4.heap.size ∧ w4.heap.size ≠ w1.heap.size ∧ w2.heap.size < w4.heap.size ∧ w2.heap.size ≠ w4.heap.size ∧ w4.heap.size ≠ w2.heap.size ∧ w3.heap.size < w4.heap.size ∧ w3.heap.size ≠ w4.heap.size ∧ w4.heap.size ≠ w3.heap.size := by omega
      have p4 := lts1 (Nat.le_refl (w3.heap.size + 1))
      have o4 : w.heap.size < w3.heap.size + 1 ∧ w1.heap.size < w3.heap.size + 1 ∧ w2.heap.size < w3.heap.size + 1 := by omega)
   | (go_at_call 10
      ((with_reducible refine (does4 _).mono ?_))
      rintro e w5 ⟨rfl, hb5⟩
      have hc5 := bcell hb5
      have hz5 := hb5.size
      try simp only [World.size_alloc] at hz5
      have q5 : w.heap.size < w5.heap.size ∧ w.heap.size ≠ w5.heap.size ∧ w5.heap.size ≠ w.heap.size ∧ w1.heap.size < w5.heap.size ∧ w1.heap.size ≠ w5.heap.size ∧ w5.heap.size ≠ w1.heap.size ∧ w2.heap.size < w5.heap.size ∧ w2.heap.size ≠ w5.heap.size ∧ w5.heap.size ≠ w2.heap.size ∧ w3.heap.size < w5.heap.size ∧ w3.heap.size ≠ w5.heap.size ∧ w5.heap.size ≠ w3.heap.size ∧ w4.heap.size < w5.heap.size ∧ w4.heap.size ≠ w5.heap.size ∧ w5.heap.size ≠ w4.heap.size := by omega
      have p5 := lts1 (Nat.le_refl (w4.heap.size + 1))
      have o5 : w.heap.size < w4.heap.size + 1 ∧ w1.heap.size < w4.heap.size + 1 ∧ w2.heap.size < w4.heap.size + 1 ∧ w3.heap.size < w4.heap.size + 1 := by omega)
   | (go_at_call 13
      ((with_reducible refine (err0 _).mono ?_))
      rintro e w6 ⟨rfl, hb6⟩
      have hc6 := bcell hb6
      have hz6 := hb6.size
      try simp only [World.size_alloc] at hz6
      have q6 : w.heap.size < w6.heap.size ∧ w.heap.size ≠ w6.heap.size ∧ w6.heap.size ≠ w.heap.size ∧ w1.heap.size < w6.heap.size ∧ w1.heap.size ≠ w6.heap.size ∧ w6.heap.size ≠ w1.heap.size ∧ w2.heap.size < w6.heap.size ∧ w2.heap.size ≠ w6.heap.size ∧ w6.heap.size ≠ w2.heap.size ∧ w3.heap.size < w6.heap.size ∧ w3.heap.size ≠ w6.heap.size ∧ w6.heap.size ≠ w3.heap.size ∧ w4.heap.size < w6.heap.size ∧ w4.heap.size ≠ w6.heap.size ∧ w6.heap.size ≠ w4.heap.size ∧ w5.heap.size < w6.heap.size ∧ w5.heap.size ≠ w6.heap.size ∧ w6.heap.size ≠ w5.heap.size := by omega
      have p6 := lts1 (Nat.le_refl (w5.heap.size + 1))
      have o6 : w.heap.size < w5.heap.size + 1 ∧ w1.heap.size < w5.heap.size + 1 ∧ w2.heap.size < w5.heap.size + 1 ∧ w3.heap.size < w5.heap.size + 1 ∧ w4.heap.size < w5.heap.size + 1 := by omega)
   | (go_at_call 13
      ((with_reducible refine (err1 _).mono ?_))
      rintro e w7 ⟨rfl, hb7⟩
      have hc7 := bcell hb7
      have hz7 := hb7.size
      try simp only [World.size_alloc] at hz7
      have q7 : w.heap.size < w7.heap.size ∧ w.heap.size ≠ w7.heap.size ∧ w7.heap.size ≠ w.heap.size ∧ w1.heap.size < w7.heap.size ∧ w1.heap.size ≠ w7.heap.size ∧ w7.heap.size ≠ w1.heap.size ∧ w2.heap.size < w7.heap.size ∧ w2.heap.size ≠ w7.heap.size ∧ w7.heap.size ≠ w2.heap.size ∧ w3.heap.size < w7.heap.size ∧ w3.heap.size ≠ w7.heap.size ∧ w7.heap.size ≠ w3.heap.size ∧ w4.heap.size < w7.heap.size ∧ w4.heap.size ≠ w7.heap.size ∧ w7.heap.size ≠ w4.heap.size ∧ w5.heap.size < w7.heap.size ∧ w5.heap.size ≠ w7.heap.size ∧ w7.heap.size ≠ w5.heap.size := by omega)
   | (go_at_call 13
      ((with_reducible refine (err2 _).mono ?_))
      rintro e w8 ⟨rfl, hb8⟩
      have hc8 := bcell hb8
      have hz8 := hb8.size
      try simp only [World.size_alloc] at hz8
      have q8 : w.heap.size < w8.heap.size ∧ w.heap.size ≠ w8.heap.size ∧ w8.heap.size ≠ w.heap.size ∧ w1.heap.size < w8.heap.size ∧ w1.heap.size ≠ w8.heap.size ∧ w8.heap.size ≠ w1.heap.size ∧ w2.heap.size < w8.heap.size ∧ w2.heap.size ≠ w8.heap.size ∧ w8.heap.size ≠ w2.heap.size ∧ w3.heap.size < w8.heap.size ∧ w3.heap.size ≠ w8.heap.size ∧ w8.heap.size ≠ w3.heap.size ∧ w4.heap.size < w8.heap.size ∧ w4.heap.size ≠ w8.heap.size ∧ w8.heap.size ≠ w4.heap.size ∧ w5.heap.size < w8.heap.size ∧ w5.heap.size ≠ w8.heap.size ∧ w8.heap.size ≠ w5.heap.size := by omega)
   | (go_at_call 13
      ((with_reducible refine (err3 _).mono ?_))
      rintro e w9 ⟨rfl, hb9⟩
      have hc9 := bcell hb9
      have hz9 := hb9.size
      try simp only [World.size_alloc] at hz9
      have q9 : w.heap.size < w9.heap.size ∧ w.heap.size ≠ w9.heap.size ∧ w9.heap.size ≠ w.heap.size ∧ w1.heap.size < w9.heap.size ∧ w1.heap.size ≠ w9.heap.size ∧ w9.heap.size ≠ w1.heap.size ∧ w2.heap.size < w9.heap.size ∧ w2.heap.size ≠ w9.heap.size ∧ w9.heap.size ≠ w2.heap.size ∧ w3.heap.size < w9.heap.size ∧ w3.heap.size ≠ w9.heap.size ∧ w9.heap.size ≠ w3.heap.size ∧ w4.heap.size < w9.heap.size ∧ w4.heap.size ≠ w9.heap.size ∧ w9.heap.size ≠ w4.heap.size ∧ w5.heap.size < w9.heap.size ∧ w5.heap.size ≠ w9.heap.size ∧ w9.heap.size ≠ w5.heap.size := by omega))
  go_ret
  refine ⟨rfl, ?_⟩
  repeat (first | exact Below.refl _ _ | refine Below.drew ?_ | refine Below.setCell ?_ (by dsimp only; omega) _ | refine Below.alloc ?_ (by (try simp only [World.size_alloc, World.size_setCell, World.size_drew]); omega) _ | refine Below.trans ?_ (hb9.mono (by (try simp only [World.size_alloc, World.size_setCell, World.size_drew]); omega)) | refine Below.trans ?_ (hb8.mono (by (try simp only [World.size_alloc, World.size_setCell, World.size_drew]); omega)) | refine Below.trans ?_ (hb7.mono (by (try simp only [World.size_alloc, World.size_setCell, World.size_drew]); omega)) | refine Below.trans ?_ (hb6.mono (by (try simp only [World.size_alloc, World.size_setCell, World.size_drew]); omega)) | refine Below.trans ?_ (hb5.mono (by (try simp only [World.size_alloc, World.size_setCell, World.size_drew]); omega)) | refine Below.trans ?_ (hb4.mono (by (try simp only [World.size_alloc, World.size_setCell, World.size_drew]); omega)) | refine Below.trans ?_ (hb3.mono (by (try simp only [World.size_alloc, World.size_setCell, World.size_drew]); omega)) | refine Below.trans ?_ (hb2.mono (by (try simp only [World.size_alloc, World.size_setCell, World.size_drew]); omega)) | refine Below.trans ?_ (hb1.mono (by (try simp only [World.size_alloc, World.size_setCell, World.size_drew]); omega)))
end Go.Proofs.Ytcnkljeniffmmaa
