/- Contracts of op.Vals (over slices.ContainsFunc) and of the reference's valsFine. -/
import Derived.Test.YtcnkljeniffmmaaOpA
namespace Go.Proofs.Ytcnkljeniffmmaa
open Go.RowKit

def V4.at (v : V4) (k : Nat) : Int := if k = 0 then v.a else if k = 1 then v.b else if k = 2 then v.c else v.d
def V4.okTo (v : V4) (k : Nat) : Prop := ∀ j, j < k → inR (v.at j) 0 999 = true
theorem V4.okTo_succ {v : V4} {k : Nat} (h : v.okTo k) (hk : inR (v.at k) 0 999 = true) : v.okTo (k + 1) := fun j hj => by
  by_cases e : j = k
  · rw [e]; exact hk
  · exact h j (by omega)
theorem V4.ok_of_okTo {v : V4} (h : v.okTo 4) : v.ok = true := by
  simp only [V4.ok, Bool.and_eq_true]
  exact ⟨⟨⟨h 0 (by omega), h 1 (by omega)⟩, h 2 (by omega)⟩, h 3 (by omega)⟩
theorem V4.bad_of {v : V4} {k : Nat} (hk : k < 4) (h : inR (v.at k) 0 999 = false) : v.ok = false := by
  have : k = 0 ∨ k = 1 ∨ k = 2 ∨ k = 3 := by omega
  rcases this with rfl | rfl | rfl | rfl <;> simp only [V4.at] at h <;> simp [V4.ok] <;> simp_all
def Bad (v : V4) (n : Int) : Prop := decide (0 ≤ n) = !v.ok
def V4.In (w : World) (b : Nat) (v : V4) : Prop := ∀ k, k < 4 → w.cell? ⟨b, k, none⟩ = some (.int .i64 (v.at k))

set_option maxHeartbeats 1000000 in
theorem op_index (b : Nat) (v : V4) (w : World) (hv : V4.In w b v) :
    Calls Try.prog 77 #[.slice (some ⟨b, 0, none⟩) 4 4, .func (.func 63) #[] #[]] w fun e w' => (∃ n, e = .returned (.int .i64 n) ∧ Bad v n) ∧ w = w' := by
  go_enter Try.func77, Try.ntmps77
  go_wp2
  go_loop [8] (fun i => ∃ k : Nat, k ≤ 4 ∧ i = .int .i64 k ∧ v.okTo k) (fun i => 4 - (intOf i).toNat)
  case atStart => exact ⟨0, by omega, rfl, fun j hj => by omega⟩
  case round =>
    obtain ⟨k, hk4, rfl, hok⟩ := hrel
    by_cases hk : k < 4
    · have hc := hv k hk
      have HO := Lib.hid hok
      clear hok hv
      cases hb : inR (v.at k) 0 999
      · have HB := Lib.hid (V4.bad_of hk hb)
        have HA := Lib.hid hb
        clear hb
        go_wp2_with (go_at_call 63; refine (op_bad _ _).mono ?_; rintro e w' ⟨rfl, rfl⟩; rw [HA.out])
        go_ret
        exact ⟨⟨_, rfl, by unfold Bad; rw [HB.out]; simp⟩, rfl⟩
      · have HA := Lib.hid hb
        clear hb
        go_wp2_with (go_at_call 63; refine (op_bad _ _).mono ?_; rintro e w' ⟨rfl, rfl⟩; rw [HA.out])
        go_round
        case rel => exact ⟨k + 1, by omega, by go_num, V4.okTo_succ HO.out HA.out⟩
        case measure => simp [intOf]; omega
    · obtain rfl : k = 4 := by omega
      have HO := Lib.hid hok
      clear hok hv
      go_wp2
      go_ret
      exact ⟨⟨_, rfl, by unfold Bad; rw [V4.ok_of_okTo HO.out]; simp⟩, rfl⟩
theorem op_contains (b : Nat) (v : V4) (w : World) (hv : V4.In w b v) :
    Calls Try.prog 62 #[.slice (some ⟨b, 0, none⟩) 4 4, .func (.func 63) #[] #[]] w fun e w' => e = .returned (.bool !v.ok) ∧ w = w' := by
  have HV := Lib.hid hv
  clear hv
  go_enter Try.func62, Try.ntmps62
  go_wp2_with (go_at_call 77; refine (op_index b v _ HV.out).mono ?_; rintro e w' ⟨⟨n, rfl, hn⟩, rfl⟩; have HN := Lib.hid hn; clear hn)
  go_ret
  exact ⟨ret_bool (by have := HN.out; unfold Bad at this; rw [← this]), rfl⟩
theorem op_vals (a b c d : Int) (w : World) :
    Calls Try.prog 34 #[.agg #[.int .i64 a, .int .i64 b, .int .i64 c, .int .i64 d]] w fun e w' => e = .returned (.bool (V4.ok ⟨a, b, c, d⟩)) ∧ Below w.heap.size w w' := by
  go_enter Try.func34, Try.ntmps34
  go_wp2_with (go_at_call 62; refine (op_contains _ ⟨a, b, c, d⟩ _ (fun k hk => ?_)).mono ?_)
  · have : k = 0 ∨ k = 1 ∨ k = 2 ∨ k = 3 := by omega
    rcases this with rfl | rfl | rfl | rfl <;> simp [V4.at]
  · rintro e w' ⟨rfl, rfl⟩
    go_wp2
    go_ret
    refine ⟨?_, (Below.refl _ _).alloc (Nat.le_refl _) _⟩
    first | rfl | simp

set_option maxHeartbeats 1000000 in
theorem r_valsFine (a b c d : Int) (w : World) :
    Calls Try.prog 36 #[.agg #[.int .i64 a, .int .i64 b, .int .i64 c, .int .i64 d]] w fun e w' => e = .returned (.bool (V4.ok ⟨a, b, c, d⟩)) ∧ Below w.heap.size w w' := by
  go_enter Try.func36, Try.ntmps36
  go_wp2
  go_loop [3] (fun i => ∃ k : Nat, k ≤ 4 ∧ i = .int .i64 k ∧ V4.okTo ⟨a, b, c, d⟩ k) (fun i => 4 - (intOf i).toNat)
  case atStart => exact ⟨0, by omega, rfl, fun j hj => by omega⟩
  case round =>
    obtain ⟨k, hk4, rfl, hok⟩ := hrel
    have HO := Lib.hid hok
    clear hok
    by_cases hk : k < 4
    · have hc : (w.alloc (.cells #[.int .i64 a, .int .i64 b, .int .i64 c, .int .i64 d] 22)).cell? ⟨w.heap.size, k, none⟩ = some (.int .i64 (V4.at ⟨a, b, c, d⟩ k)) := by
        have : k = 0 ∨ k = 1 ∨ k = 2 ∨ k = 3 := by omega
        rcases this with rfl | rfl | rfl | rfl <;> simp [V4.at]
      generalize hv : V4.at ⟨a, b, c, d⟩ k = x at hc
      have HV := Lib.hid hv
      clear hv
      cases hb : inR x 0 999
      · have HA := Lib.hid hb
        clear hb
        go_wp2_with (go_at_call 41; refine (r_within _ _ _ _).mono ?_; rintro e w' ⟨rfl, rfl⟩; rw [HA.out])
        go_ret
        exact ⟨ret_bool (V4.bad_of hk (by rw [HV.out]; exact HA.out)).symm, (Below.refl _ _).alloc (Nat.le_refl _) _⟩
      · have HA := Lib.hid hb
        clear hb
        go_wp2_with (go_at_call 41; refine (r_within _ _ _ _).mono ?_; rintro e w' ⟨rfl, rfl⟩; rw [HA.out])
        go_round
        case rel => exact ⟨k + 1, by omega, by go_num, V4.okTo_succ HO.out (by rw [HV.out]; exact HA.out)⟩
        case measure => simp [intOf]; omega
    · obtain rfl : k = 4 := by omega
      go_wp2
      go_ret
      exact ⟨ret_bool (V4.ok_of_okTo HO.out).symm, (Below.refl _ _).alloc (Nat.le_refl _) _⟩
end Go.Proofs.Ytcnkljeniffmmaa
