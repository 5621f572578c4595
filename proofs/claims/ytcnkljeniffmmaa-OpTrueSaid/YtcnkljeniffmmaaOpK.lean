/- portagelaw.OpTrue: for every input the call returns true. No conditions. -/
import Derived.Test.YtcnkljeniffmmaaOpG
import Derived.Test.YtcnkljeniffmmaaOpP
import Derived.Test.YtcnkljeniffmmaaOpEq
import Derived.Test.YtcnkljeniffmmaaVcOpT
namespace Go.Proofs.Ytcnkljeniffmmaa
open Go.RowKit
theorem does_facts (a b c d k key to n : Int) {ra rb rc rd rn re : Int} (hr : POp.does ⟨k, key, to, n⟩ ⟨a, b, c, d⟩ = (⟨ra, rb, rc, rd⟩, rn, re)) :
    re ≠ 0 ∨ (re = 0 ∧ (0 ≤ key ∧ key ≤ 3) ∧ ((0 ≤ a ∧ a ≤ 999) ∧ (0 ≤ b ∧ b ≤ 999) ∧ (0 ≤ c ∧ c ≤ 999) ∧ (0 ≤ d ∧ d ≤ 999)) ∧ ((0 ≤ ra ∧ ra ≤ 999) ∧ (0 ≤ rb ∧ rb ≤ 999) ∧ (0 ≤ rc ∧ rc ≤ 999) ∧ (0 ≤ rd ∧ rd ≤ 999)) ∧
      ((ra = a ∨ key = 0 ∨ (k = 3 ∧ to = 0)) ∧ (rb = b ∨ key = 1 ∨ (k = 3 ∧ to = 1)) ∧ (rc = c ∨ key = 2 ∨ (k = 3 ∧ to = 2)) ∧ (rd = d ∨ key = 3 ∨ (k = 3 ∧ to = 3))) ∧
      (rn = -1 → ra = a ∧ rb = b ∧ rc = c ∧ rd = d) ∧
      (rn ≠ -1 → ((key = 0 → rn = ra) ∧ (key = 1 → rn = rb) ∧ (key = 2 → rn = rc) ∧ (key = 3 → rn = rd)) ∧ ((k = 3 ∨ k = 4) → ra + rb + rc + rd = a + b + c + d) ∧ (k = 4 → ra = a ∧ rb = b ∧ rc = c ∧ rd = d))) := by
  by_cases he : POp.err ⟨k, key, to, n⟩ = 0
  · cases hv : V4.ok ⟨a, b, c, d⟩ with
    | false =>
      left
      unfold POp.does at hr
      simp [he, hv] at hr
      omega
    | true =>
      right
      have ht := turn_true _ _ he hv
      have hp := err_parts he
      unfold POp.does at hr
      simp only [he, hv, ne_eq, not_true_eq_false, if_false, Bool.true_eq_false, Prod.mk.injEq] at hr
      obtain ⟨h1, h2, h3⟩ := hr
      rw [h1, h2] at ht
      have hvv := (V4.ok_iff _).1 hv
      have hrv := (V4.ok_iff _).1 ht.1
      simp only at hvv hrv
      obtain ⟨_, t2, t3, t4⟩ := ht
      simp only [Kept4] at t2
      simp only [V4.eq_iff] at t3 t4
      simp only [V4.get] at t4
      refine ⟨h3.symm, ⟨hp.2.1, hp.2.2.1⟩, hvv, hrv, t2, t3, fun h => ?_⟩
      obtain ⟨u1, u2, u3⟩ := t4 h
      refine ⟨?_, u2, u3⟩
      refine ⟨fun hk => ?_, fun hk => ?_, fun hk => ?_, fun hk => ?_⟩ <;> subst hk <;> simpa using u1
  · left
    unfold POp.does at hr
    simp [he] at hr
    omega
theorem eql_v4 (x y : Operand) (a b c d a' b' c' d' : Int) (w : World) : (EK.sem (.bop .eql 22 x y) [Value.agg #[Value.int .i64 a, Value.int .i64 b, Value.int .i64 c, Value.int .i64 d], Value.agg #[Value.int .i64 a', Value.int .i64 b', Value.int .i64 c', Value.int .i64 d']]).run Try.prog w = .ok (.value (Value.bool (decide (V4.mk a b c d = V4.mk a' b' c' d')))) w := by
  have h := run_eql_v4 a b c d a' b' c' d' w
  have g := guard_v4
  simp [EK.sem, eqGuard, g, h]
set_option maxHeartbeats 4000000 in
theorem opTrue_true (a b c d k key to n : Int) (W : World) :
    Calls Try.prog 4 #[V4.val ⟨a, b, c, d⟩, POp.val ⟨k, key, to, n⟩] W fun z W' => z = .returned (.bool true) ∧ Ext W W' := by
  obtain ⟨⟨ra, rb, rc, rd⟩, rn, re, hr⟩ : ∃ r rn re, POp.does ⟨k, key, to, n⟩ ⟨a, b, c, d⟩ = (r, rn, re) := ⟨_, _, _, rfl⟩
  have hf := does_facts a b c d k key to n hr
  refine x_opTrue a b c d k key to n noH W _ (noH_le _) ?_
  intro b0 b1 W1 n1 _
  refine (op_do a b c d k key to n W1).mono ?_
  rw [hr]
  dsimp only [V4.val]
  rintro z W2 ⟨rfl, hx⟩
  refine ⟨_, _, _, _, _, _, rfl, hx, ?_⟩
  clear hr
  intro b2
  rcases hf with hre | ⟨hre, hkey, ⟨ha, hb, hc, hd⟩, ⟨hra, hrb, hrc, hrd⟩, ⟨hk0, hk1, hk2, hk3⟩, hm, hn⟩
  · refine ⟨fun h => absurd h hre, fun _ W n _ => ?_⟩
    refine (opBegun_true _).mono ?_
    rintro z W4 ⟨rfl, hx4⟩
    exact ⟨_, rfl, hx4, fun _ W n _ => ⟨by simp [hre], n.ext⟩, fun h => absurd rfl h⟩
  refine ⟨fun _ => ⟨fun h => absurd h (by omega), fun _ => ⟨fun h => absurd h (by omega), fun _ => ?_⟩⟩, fun h => absurd hre h⟩
  refine ⟨fun l _ => ∃ s t j, l = [.i s, .i t, .n j] ∧ j ≤ 4 ∧ (j = 0 → s = 0 ∧ t = 0) ∧ (j = 1 → s = a ∧ t = ra) ∧ (j = 2 → s = a + b ∧ t = ra + rb) ∧ (j = 3 → s = a + b + c ∧ t = ra + rb + rc) ∧ (j = 4 → s = a + b + c + d ∧ t = ra + rb + rc + rd), fun l => match l with | [_, _, .n j] => 4 - j | _ => 0, ⟨0, 0, 0, rfl, by omega, by omega, by omega, by omega, by omega, by omega⟩, ?_⟩
  rintro H s t j ⟨s', t', j', he, hj4, h0, h1, h2, h3, h4⟩
  injection he with he1 he; injection he with he2 he; injection he with he3 he
  injection he1 with he1; injection he2 with he2; injection he3 with he3
  subst he1; subst he2; subst he3
  clear he
  refine ⟨fun hlt => ⟨by omega, fun _ => ⟨?_, ?_, ?_, ?_, trivial⟩⟩, fun hge => ?_⟩
  · intro hj
    obtain ⟨hs, ht⟩ := h0 (by omega)
    have hsb : 0 ≤ s ∧ s ≤ 2997 ∧ 0 ≤ t ∧ t ≤ 2997 := by rw [hs, ht]; omega
    clear h0 h1 h2 h3 h4
    refine ⟨in64 (by omega), fun _ => ⟨in64 (by omega), fun _ => ⟨fun h => absurd h (by omega), fun _ => ⟨fun h => absurd h (by omega), fun _ => ⟨fun he => ⟨in64 (by omega), fun _ => ⟨by omega, fun _ => ⟨⟨_, _, _, rfl, by omega, fun h => absurd h (by omega), fun h => ⟨by rw [hs]; omega, by rw [ht]; omega⟩, fun h => absurd h (by omega), fun h => absurd h (by omega), fun h => absurd h (by omega)⟩, by simp only; omega⟩⟩⟩, fun hne => ⟨fun hk => ⟨in64 (by omega), fun _ => ⟨by omega, fun _ => ⟨⟨_, _, _, rfl, by omega, fun h => absurd h (by omega), fun h => ⟨by rw [hs]; omega, by rw [ht]; omega⟩, fun h => absurd h (by omega), fun h => absurd h (by omega), fun h => absurd h (by omega)⟩, by simp only; omega⟩⟩⟩, fun hk => ⟨fun h3 => ⟨fun hto => ⟨in64 (by omega), fun _ => ⟨by omega, fun _ => ⟨⟨_, _, _, rfl, by omega, fun h => absurd h (by omega), fun h => ⟨by rw [hs]; omega, by rw [ht]; omega⟩, fun h => absurd h (by omega), fun h => absurd h (by omega), fun h => absurd h (by omega)⟩, by simp only; omega⟩⟩⟩, fun hto => by exfalso; rcases hk0 with h | h | ⟨h, h'⟩ <;> omega⟩, fun h3 => by exfalso; rcases hk0 with h | h | ⟨h, h'⟩ <;> omega⟩⟩⟩⟩⟩⟩⟩
  · intro hj
    obtain ⟨hs, ht⟩ := h1 (by omega)
    have hsb : 0 ≤ s ∧ s ≤ 2997 ∧ 0 ≤ t ∧ t ≤ 2997 := by rw [hs, ht]; omega
    clear h0 h1 h2 h3 h4
    refine ⟨in64 (by omega), fun _ => ⟨in64 (by omega), fun _ => ⟨fun h => absurd h (by omega), fun _ => ⟨fun h => absurd h (by omega), fun _ => ⟨fun he => ⟨in64 (by omega), fun _ => ⟨by omega, fun _ => ⟨⟨_, _, _, rfl, by omega, fun h => absurd h (by omega), fun h => absurd h (by omega), fun h => ⟨by rw [hs], by rw [ht]⟩, fun h => absurd h (by omega), fun h => absurd h (by omega)⟩, by simp only; omega⟩⟩⟩, fun hne => ⟨fun hk => ⟨in64 (by omega), fun _ => ⟨by omega, fun _ => ⟨⟨_, _, _, rfl, by omega, fun h => absurd h (by omega), fun h => absurd h (by omega), fun h => ⟨by rw [hs], by rw [ht]⟩, fun h => absurd h (by omega), fun h => absurd h (by omega)⟩, by simp only; omega⟩⟩⟩, fun hk => ⟨fun h3 => ⟨fun hto => ⟨in64 (by omega), fun _ => ⟨by omega, fun _ => ⟨⟨_, _, _, rfl, by omega, fun h => absurd h (by omega), fun h => absurd h (by omega), fun h => ⟨by rw [hs], by rw [ht]⟩, fun h => absurd h (by omega), fun h => absurd h (by omega)⟩, by simp only; omega⟩⟩⟩, fun hto => by exfalso; rcases hk1 with h | h | ⟨h, h'⟩ <;> omega⟩, fun h3 => by exfalso; rcases hk1 with h | h | ⟨h, h'⟩ <;> omega⟩⟩⟩⟩⟩⟩⟩
  · intro hj
    obtain ⟨hs, ht⟩ := h2 (by omega)
    have hsb : 0 ≤ s ∧ s ≤ 2997 ∧ 0 ≤ t ∧ t ≤ 2997 := by rw [hs, ht]; omega
    clear h0 h1 h2 h3 h4
    refine ⟨in64 (by omega), fun _ => ⟨in64 (by omega), fun _ => ⟨fun h => absurd h (by omega), fun _ => ⟨fun h => absurd h (by omega), fun _ => ⟨fun he => ⟨in64 (by omega), fun _ => ⟨by omega, fun _ => ⟨⟨_, _, _, rfl, by omega, fun h => absurd h (by omega), fun h => absurd h (by omega), fun h => absurd h (by omega), fun h => ⟨by rw [hs], by rw [ht]⟩, fun h => absurd h (by omega)⟩, by simp only; omega⟩⟩⟩, fun hne => ⟨fun hk => ⟨in64 (by omega), fun _ => ⟨by omega, fun _ => ⟨⟨_, _, _, rfl, by omega, fun h => absurd h (by omega), fun h => absurd h (by omega), fun h => absurd h (by omega), fun h => ⟨by rw [hs], by rw [ht]⟩, fun h => absurd h (by omega)⟩, by simp only; omega⟩⟩⟩, fun hk => ⟨fun h3 => ⟨fun hto => ⟨in64 (by omega), fun _ => ⟨by omega, fun _ => ⟨⟨_, _, _, rfl, by omega, fun h => absurd h (by omega), fun h => absurd h (by omega), fun h => absurd h (by omega), fun h => ⟨by rw [hs], by rw [ht]⟩, fun h => absurd h (by omega)⟩, by simp only; omega⟩⟩⟩, fun hto => by exfalso; rcases hk2 with h | h | ⟨h, h'⟩ <;> omega⟩, fun h3 => by exfalso; rcases hk2 with h | h | ⟨h, h'⟩ <;> omega⟩⟩⟩⟩⟩⟩⟩
  · intro hj
    obtain ⟨hs, ht⟩ := h3 (by omega)
    have hsb : 0 ≤ s ∧ s ≤ 2997 ∧ 0 ≤ t ∧ t ≤ 2997 := by rw [hs, ht]; omega
    clear h0 h1 h2 h3 h4
    refine ⟨in64 (by omega), fun _ => ⟨in64 (by omega), fun _ => ⟨fun h => absurd h (by omega), fun _ => ⟨fun h => absurd h (by omega), fun _ => ⟨fun he => ⟨in64 (by omega), fun _ => ⟨by omega, fun _ => ⟨⟨_, _, _, rfl, by omega, fun h => absurd h (by omega), fun h => absurd h (by omega), fun h => absurd h (by omega), fun h => absurd h (by omega), fun h => ⟨by rw [hs], by rw [ht]⟩⟩, by simp only; omega⟩⟩⟩, fun hne => ⟨fun hk => ⟨in64 (by omega), fun _ => ⟨by omega, fun _ => ⟨⟨_, _, _, rfl, by omega, fun h => absurd h (by omega), fun h => absurd h (by omega), fun h => absurd h (by omega), fun h => absurd h (by omega), fun h => ⟨by rw [hs], by rw [ht]⟩⟩, by simp only; omega⟩⟩⟩, fun hk => ⟨fun h3 => ⟨fun hto => ⟨in64 (by omega), fun _ => ⟨by omega, fun _ => ⟨⟨_, _, _, rfl, by omega, fun h => absurd h (by omega), fun h => absurd h (by omega), fun h => absurd h (by omega), fun h => absurd h (by omega), fun h => ⟨by rw [hs], by rw [ht]⟩⟩, by simp only; omega⟩⟩⟩, fun hto => by exfalso; rcases hk3 with h | h | ⟨h, h'⟩ <;> omega⟩, fun h3 => by exfalso; rcases hk3 with h | h | ⟨h, h'⟩ <;> omega⟩⟩⟩⟩⟩⟩⟩
  · obtain ⟨hs, ht⟩ := h4 (by omega)
    clear h0 h1 h2 h3 h4
    refine ⟨fun hrn W n _ => ?_, fun hrn W n _ => ?_⟩
    · refine (opBegun_true _).mono ?_
      rintro z W4 ⟨rfl, hx4⟩
      exact ⟨_, rfl, hx4, fun _ W5 n5 _ => ⟨_, _, eql_v4 .., Ext.refl _, fun W n _ => ⟨by rw [decide_eq_true (by rw [V4.eq_iff]; exact hm hrn)], n.ext⟩⟩, fun h => absurd rfl h⟩
    · refine (opBegun_true _).mono ?_
      rintro z W4 ⟨rfl, hx4⟩
      obtain ⟨⟨hn0, hn1, hn2, hn3⟩, hsum, h4⟩ := hn hrn
      rw [← ht, ← hs] at hsum
      replace hsum : k = 3 ∨ k = 4 → s = t := fun h => (hsum h).symm
      refine ⟨_, rfl, hx4, fun _ => ⟨by omega, fun _ => ⟨?_, ?_, ?_, ?_, trivial⟩⟩, fun h => absurd rfl h⟩
      · intro hk
        exact ⟨fun _ => ⟨fun h3 => ⟨fun _ W n _ => ⟨rfl, n.ext⟩, fun hs => absurd (hsum (.inl h3)) hs⟩, fun _ => ⟨fun hx4 => ⟨fun _ => fun W5 n5 _ => ⟨_, _, eql_v4 .., Ext.refl _, fun W n _ => ⟨by rw [decide_eq_true (by rw [V4.eq_iff]; exact h4 hx4)], n.ext⟩⟩, fun hs => absurd (hsum (.inr hx4)) hs⟩, fun _ W n _ => ⟨rfl, n.ext⟩⟩⟩, fun h => absurd (hn0 hk) h⟩
      · intro hk
        exact ⟨fun _ => ⟨fun h3 => ⟨fun _ W n _ => ⟨rfl, n.ext⟩, fun hs => absurd (hsum (.inl h3)) hs⟩, fun _ => ⟨fun hx4 => ⟨fun _ => fun W5 n5 _ => ⟨_, _, eql_v4 .., Ext.refl _, fun W n _ => ⟨by rw [decide_eq_true (by rw [V4.eq_iff]; exact h4 hx4)], n.ext⟩⟩, fun hs => absurd (hsum (.inr hx4)) hs⟩, fun _ W n _ => ⟨rfl, n.ext⟩⟩⟩, fun h => absurd (hn1 hk) h⟩
      · intro hk
        exact ⟨fun _ => ⟨fun h3 => ⟨fun _ W n _ => ⟨rfl, n.ext⟩, fun hs => absurd (hsum (.inl h3)) hs⟩, fun _ => ⟨fun hx4 => ⟨fun _ => fun W5 n5 _ => ⟨_, _, eql_v4 .., Ext.refl _, fun W n _ => ⟨by rw [decide_eq_true (by rw [V4.eq_iff]; exact h4 hx4)], n.ext⟩⟩, fun hs => absurd (hsum (.inr hx4)) hs⟩, fun _ W n _ => ⟨rfl, n.ext⟩⟩⟩, fun h => absurd (hn2 hk) h⟩
      · intro hk
        exact ⟨fun _ => ⟨fun h3 => ⟨fun _ W n _ => ⟨rfl, n.ext⟩, fun hs => absurd (hsum (.inl h3)) hs⟩, fun _ => ⟨fun hx4 => ⟨fun _ => fun W5 n5 _ => ⟨_, _, eql_v4 .., Ext.refl _, fun W n _ => ⟨by rw [decide_eq_true (by rw [V4.eq_iff]; exact h4 hx4)], n.ext⟩⟩, fun hs => absurd (hsum (.inr hx4)) hs⟩, fun _ W n _ => ⟨rfl, n.ext⟩⟩⟩, fun h => absurd (hn3 hk) h⟩
end Go.Proofs.Ytcnkljeniffmmaa
