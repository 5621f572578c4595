/- The plain law behind portagelaw.OpTrue: what an op does to four values. No program in sight. -/
import Derived.Test.YtcnkljeniffmmaaData
namespace Go.Proofs.Ytcnkljeniffmmaa
def Kept4 (x : POp) (v a : V4) : Prop := (a.a = v.a ∨ x.key = 0 ∨ (x.kind = 3 ∧ x.to = 0)) ∧ (a.b = v.b ∨ x.key = 1 ∨ (x.kind = 3 ∧ x.to = 1)) ∧ (a.c = v.c ∨ x.key = 2 ∨ (x.kind = 3 ∧ x.to = 2)) ∧ (a.d = v.d ∨ x.key = 3 ∨ (x.kind = 3 ∧ x.to = 3))
theorem turn_true (x : POp) (v : V4) (hx : x.err = 0) (hv : v.ok = true) :
    (x.turn v).1.ok = true ∧ Kept4 x v (x.turn v).1 ∧ ((x.turn v).2 = -1 → (x.turn v).1 = v) ∧
    ((x.turn v).2 ≠ -1 → (x.turn v).2 = (x.turn v).1.get x.key ∧ ((x.kind = 3 ∨ x.kind = 4) → (x.turn v).1.a + (x.turn v).1.b + (x.turn v).1.c + (x.turn v).1.d = v.a + v.b + v.c + v.d) ∧ (x.kind = 4 → (x.turn v).1 = v)) := by
  obtain ⟨kind, key, to, n⟩ := x
  obtain ⟨va, vb, vc, vd⟩ := v
  have hk : (kind = 1 ∨ kind = 2 ∨ kind = 3 ∨ kind = 4) ∧ (key = 0 ∨ key = 1 ∨ key = 2 ∨ key = 3) ∧ (kind = 3 → to = 0 ∨ to = 1 ∨ to = 2 ∨ to = 3) := by
    unfold POp.err at hx; simp only at hx; omega
  obtain ⟨h1, h2, h3⟩ := hk
  have hv' := (V4.ok_iff _).1 hv
  simp only at hv'
  rcases h1 with rfl | rfl | rfl | rfl
  · rcases h2 with rfl | rfl | rfl | rfl <;> simp only [POp.turn, V4.set, V4.get, if_pos, Kept4] <;> simp <;> split <;> rename_i ho <;> simp_all [V4.ok_iff] <;> omega
  · rcases h2 with rfl | rfl | rfl | rfl <;> simp only [POp.turn, V4.set, V4.get, if_pos, Kept4] <;> simp <;> split <;> rename_i ho <;> simp_all [V4.ok_iff] <;> omega
  · have h4 := h3 rfl
    rcases h2 with rfl | rfl | rfl | rfl <;> rcases h4 with rfl | rfl | rfl | rfl <;> simp only [POp.turn, V4.set, V4.get, if_pos, Kept4] <;> simp <;> (repeat' split) <;> simp_all [V4.ok_iff] <;> omega
  · rcases h2 with rfl | rfl | rfl | rfl <;> simp_all [POp.turn, V4.get, Kept4]
end Go.Proofs.Ytcnkljeniffmmaa
