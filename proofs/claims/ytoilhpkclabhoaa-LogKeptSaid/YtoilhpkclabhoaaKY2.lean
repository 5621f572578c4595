/- Contracts: Write of a state. No conditions. Contracts: Write of a state, as a whole. No conditions. Contracts: what the document says of states as bytes. No conditions. Contracts: what the document reads out of bytes. No conditions. -/
import Derived.Test.YtoilhpkclabhoaaKY1
import Derived.Test.YtoilhpkclabhoaaKE4
import Derived.Test.YtoilhpkclabhoaaKS2
import Derived.Test.YtoilhpkclabhoaaKU1
import Derived.Test.YtoilhpkclabhoaaKI1
set_option linter.unusedVariables false
set_option linter.unusedSimpArgs false
namespace Go.Proofs.Ytoilhpkclabhoaa
open Go.RowKit

def beK (k : Nat) (x : Int) : List UInt8 := if k = 1 then [b8 x] else be2 x
theorem beK_len {k : Nat} (h : k = 1 ∨ k = 2) (x : Int) : (beK k x).length = k := by rcases h with rfl | rfl <;> rfl
/-- the bytes of a number, one after the other -/
theorem beK_next {k : Nat} (h : k = 1 ∨ k = 2) (x : Int) {j : Nat} (hj : j < k) : (beK k x).take (k - j) = (beK k x).take (k - 1 - j) ++ [b8 (if j = 0 then x else x / 256)] := by
  rcases h with rfl | rfl
  · have : j = 0 := by omega
    subst this
    rfl
  · have : j = 0 ∨ j = 1 := by omega
    rcases this with rfl | rfl <;> rfl
theorem flatK_len {k : Nat} (h : k = 1 ∨ k = 2) : ∀ xs : List Int, (xs.flatMap (beK k)).length = xs.length * k
  | [] => by simp
  | x :: xs => by rw [List.flatMap_cons, List.length_append, beK_len h, flatK_len h xs, List.length_cons, Nat.succ_mul]; omega
/-- what holds of the pen's array on the way -/
structure PenI (W : World) (H : Hp) (g : Option Nat) (K : Hp) (p : Option Loc) (n c : Nat) (l : List UInt8) (g1 : Option Nat) : Prop where
  by_ : By K p n c l g1
  own : g1 = g ∨ ∀ b, g1 = some b → W.heap.size ≤ b
  keep : ∀ K0 : Hp, K0.le H → (∀ b, g = some b → K0 b = none) → K0.le K
  dom : ∀ b o, K b = some o → (∃ o', H b = some o') ∨ W.heap.size ≤ b
theorem c_put {H Hx : Hp} {W : World} {b0 : Nat} {p q : Option Loc} {n c m d : Nat} {l : List UInt8} {g : Option Nat} {xs : List Int} {k : Nat} (hk : k = 1 ∨ k = 2) (hH : H.le (hpOf W)) (h0 : W.heap[b0]? = some (.cells #[vsl p n c] 91 (0, 0))) (hn : H b0 = none) (ho : By H p n c l g)
    (hx : Hx.le H) (hxg : ∀ b, g = some b → Hx b = none) (hI : Rows Hx q m 1 (xs.map irow)) (hsz : n + 2 * m ≤ 1000000) :
    Calls Try.prog 53 #[.pointer (some ⟨b0, 0, none⟩), vi k, vsl q m d] W fun z W' => ∃ p' n' c' g' H', z = .returned (.tuple #[]) ∧ W'.heap[b0]? = some (.cells #[vsl p' n' c'] 91 (0, 0)) ∧ Mod (fun b => b = b0 ∨ g = some b) W W' ∧ H'.le (hpOf W') ∧ PenI W H g H' p' n' c' (l ++ xs.flatMap (beK k)) g' := by
  have hm : m = xs.length := by simpa using hI.len
  have hnl : n = l.length := by simpa using ho.1
  refine x_put k q m d p n c b0 (fun b => b = b0 ∨ g = some b) H W _ hH ⟨h0, .inl rfl, hn⟩ ⟨by omega, fun _ => ⟨by omega, fun _ => ⟨by omega, fun _ => ?_⟩⟩⟩
  refine ⟨fun v K => match v with | [.n i, .p p, .n n, .n c] => ∃ g1, i ≤ m ∧ PenI W H g K p n c (l ++ (xs.take i).flatMap (beK k)) g1 | _ => False, fun v => match v with | [.n i, _, _, _] => m - i | _ => 0,
    ⟨g, by omega, ⟨by rw [map0]; simpa using ho, .inl rfl, fun K0 h _ => h, fun b o h => .inl ⟨o, h⟩⟩⟩, fun K i p1 n1 c1 hI1 => ?_⟩
  obtain ⟨g1, hi, hP⟩ := hI1
  rw [map0] at hP
  have hin := flatK_len hk (xs.take i)
  have hil : (xs.take i).length = i := by rw [List.length_take]; omega
  refine ⟨fun hlt => ?_, fun hge => ?_⟩
  · have hlt' : i < xs.length := by omega
    obtain ⟨row, hr1, _, hat⟩ := (hI.mono (hP.keep Hx hx hxg)).at (k := i) (by omega) (off := 0 + (i : Int) * 1) (by omega)
    rw [List.getElem?_map, Option.map_eq_some_iff] at hr1
    obtain ⟨x, hxi, rfl⟩ := hr1
    refine ⟨⟨by omega, hlt⟩, fun _ => ⟨hat.isSome, fun _ => ⟨x, hat, in64 (by omega), fun _ => ⟨by omega, fun _ => ⟨by omega, fun _ => ?_⟩⟩⟩⟩⟩
    have hs : (xs.take (i + 1)).flatMap (beK k) = (xs.take i).flatMap (beK k) ++ beK k x := by
      rw [List.take_add_one, hxi]
      simp
    refine ⟨fun v K => match v with | [.i j, .p p, .n n, .n c] => ∃ (g1 : Option Nat) (r : Nat), j = (k : Int) - 1 - r ∧ r ≤ k ∧ PenI W H g K p n c (l ++ (xs.take i).flatMap (beK k) ++ (beK k x).take r) g1 | _ => False, fun v => match v with | [.i j, _, _, _] => (j + 1).toNat | _ => 0,
      ⟨g1, 0, by omega, by omega, by rw [map0]; simpa using hP⟩, fun K2 j p2 n2 c2 hI2 => ?_⟩
    obtain ⟨g2, r, rfl, hr, hP2⟩ := hI2
    rw [map0] at hP2
    have hn2 : n2 = (l ++ (xs.take i).flatMap (beK k) ++ (beK k x).take r).length := by simpa using hP2.by_.1
    have hlen : n2 ≤ n + 2 * m := by
      have h1 : ((beK k x).take r).length ≤ k := by rw [List.length_take, beK_len hk]; omega
      simp only [List.length_append, hin, hil] at hn2
      have : (i + 1) * k ≤ m * 2 := by
        calc (i + 1) * k ≤ m * k := Nat.mul_le_mul_right _ (by omega)
          _ ≤ m * 2 := Nat.mul_le_mul_left _ (by omega)
      rw [Nat.succ_mul] at this
      omega
    refine ⟨fun hj => ?_, fun hj => ?_⟩
    · obtain ⟨j, hjr⟩ : ∃ j : Nat, (k : Int) - 1 - r = j := ⟨k - 1 - r, by omega⟩
      rw [hjr]
      have hj1 : j < k := by omega
      refine ⟨in64 (by omega), fun _ W1 n1 _ => ⟨_, _, ek_bshr j (by omega) _ _ x, Ext.refl _, fun b1 W3 n3 k3 => ?_⟩⟩
      have hk3 := k3.1
      rw [wrap8] at hk3
      obtain ⟨p', c', g', W4, K3, hrun, hu, ho3, hg3⟩ := by_append (l := l ++ (xs.take i).flatMap (beK k) ++ (beK k x).take r) (m := [b8 (if j = 0 then x else x / 256)]) n3.sub hP2.by_ hk3.eq hk3.off (by simp only [List.length_cons, List.length_nil]; omega) 71
      have hown : ∀ b, g2 = some b → W.heap.size ≤ b ∨ (b = b0 ∨ g = some b) := fun b hb => by
        rcases hP2.own with h | h
        · exact .inr (.inr (h ▸ hb))
        · exact .inl (h b hb)
      refine ⟨p', _, c', W4, hrun, K3, hu.own hP2.by_ hown, in64 (by omega), fun _ => ⟨by omega, fun _ => ⟨by omega, fun _ => ?_⟩⟩⟩
      refine ⟨⟨g', r + 1, by omega, by omega, ?_, ?_, fun K0 h1 h2 => ?_, fun b o hb => ?_⟩, by simp only; omega⟩
      · rw [map0]
        have e1 : r + 1 = k - j := by omega
        have e2 : r = k - 1 - j := by omega
        rw [e1, beK_next hk x hj1, ← e2, ← List.append_assoc]
        exact ho3
      · rcases hg3 with h | h
        · rw [h]; exact hP2.own
        · exact .inr fun b hb => by rw [h] at hb; simp only [Option.some.injEq] at hb; have := n3.mod.size; omega
      · refine hu.keep n3.sub (hP2.keep K0 h1 h2) fun b hb => ?_
        rcases hP2.own with h | h
        · exact h2 b (h ▸ hb)
        · exact le_none h1 (old_none hH (h b hb))
      · rcases hu.dom b o hb with ⟨o', h⟩ | h
        · exact hP2.dom b o' h
        · have := n3.mod.size; omega
    · have hrk : r = k := by omega
      subst hrk
      refine ⟨in64 (by omega), fun _ => ⟨by omega, fun _ => ⟨by omega, fun _ => ⟨by omega, fun _ => ?_⟩⟩⟩⟩
      rw [show ((i : Int) + 1).toNat = i + 1 by omega]
      refine ⟨⟨g2, by omega, ?_⟩, by simp only; omega⟩
      rw [map0, hs, ← List.append_assoc]
      have : (beK r x).take r = beK r x := List.take_of_length_le (by rw [beK_len hk]; exact Nat.le_refl _)
      rw [this] at hP2
      exact hP2
  · have him : i = m := by omega
    subst him
    rw [List.take_of_length_le (by omega)] at hP
    exact fun W2 n2 k2 => ⟨p1, n1, c1, g1, K, rfl, k2.1.eq, n2.mod, n2.sub, hP⟩
/-- put, where the numbers stand in a known block -/
theorem Cl.put {W0 : World} {H : Hp} {kn : World → Prop} {Φ : Ending → World → World → Prop} {b1 b2 T2 off m d : Nat} {C2 : Array Value} {p : Option Loc} {n c : Nat} {l : List UInt8} {g : Option Nat} {xs : List Int} {k : Nat} (hk : k = 1 ∨ k = 2) (ho : By H p n c l g) (hg : ∀ b, g = some b → W0.heap.size ≤ b)
    (hkn : ∀ W, kn W → Kn W0 noM H W b1 (.cells #[vsl p n c] 91 (0, 0)) ∧ Kn W0 noM H W b2 (.cells C2 T2 (0, 0))) (hT : T2 ≠ 91) (hrow : Rows (addH noH b2 (.cells C2 T2 (0, 0))) (some ((b2 : Blk), off)) m 1 (xs.map irow)) (hsz : n + 2 * m ≤ 1000000)
    (hk2 : ∀ W W' p' n' c' g' H', By H' p' n' c' (l ++ xs.flatMap (beK k)) g' → (∀ b, g' = some b → W0.heap.size ≤ b) → (∀ K : Hp, K.le H → (∀ b, g = some b → K b = none) → K.le H') → (∀ K : Hp → Prop, K H' → Bt W0 noM H [(b1, .cells #[vsl p' n' c'] 91 (0, 0))] W W' K) → Φ (.returned (.tuple #[])) W W') :
    Cl Try.prog W0 noM H kn 53 #[.pointer (some ⟨b1, 0, none⟩), vi k, vsl (some ((b2 : Blk), off)) m d] Φ := fun W nW kW => by
  obtain ⟨k1, k2⟩ := hkn W kW
  have hne : b1 ≠ b2 := fun he => by
    have e := k1.eq
    rw [he, k2.eq] at e
    simp at e
    exact hT e.2
  have hlt2 := heap_lt k2.eq
  have hgb : ∀ b, g = some b → b ≠ b2 := fun b hb he => by
    obtain ⟨o, h⟩ := ho.held b hb
    rw [he, k2.off] at h; cases h
  have hH1 := addH_le nW.sub k2.eq
  refine (c_put (H := addH H b2 (.cells C2 T2 (0, 0))) (Hx := addH noH b2 (.cells C2 T2 (0, 0))) hk hH1 k1.eq (by unfold addH; rw [if_neg hne]; exact k1.off) (ho.mono fun b _ o h => le_addH k2.off b o h) (fun b o hb => ?_) (fun b hb => ?_) hrow hsz).mono fun z W' ⟨p', n', c', g', H', hz, h1, h2, h3, h4⟩ => ?_
  · unfold addH at hb ⊢
    split at hb
    · rename_i h; rw [if_pos h]; exact hb
    · cases hb
  · unfold addH
    rw [if_neg (hgb b hb)]
    rfl
  · subst hz
    have hg2 : g' ≠ some b2 := fun h => by
      rcases h4.own with h5 | h5
      · exact hgb b2 (h5 ▸ h) rfl
      · have := h5 b2 h; omega
    have s0 := setRow_heap W b1 _ #[vsl p' n' c'] _ _ k1.eq
    have o0 : ∀ b, b ≠ b1 → (W.setRow b1 #[vsl p' n' c']).heap[b]? = W.heap[b]? := fun b hb => setRow_other W b1 b _ hb
    refine hk2 W W' p' n' c' g' (less b2 H') (less_ow h4.by_ hg2) (fun b hb => ?_) (fun K hK hKg b o hb => ?_) (fun K hK => ⟨W.setRow b1 #[vsl p' n' c'], less b2 H', ⟨rfl, rfl, rfl, by simp, fun b _ hb => o0 b fun he => hb ⟨_, List.mem_singleton_self _, he.symm⟩⟩, fun q hq => ?_, ⟨⟨h2.os, h2.tape, h2.output, by simpa using h2.size, fun b hb hnb => ?_⟩, fun b o hb => ?_, fun b o hb => ?_⟩, hK⟩)
    · rcases h4.own with h5 | h5
      · exact hg b (h5 ▸ hb)
      · have := h5 b hb; have := nW.mod.size; omega
    · have hne2 : b ≠ b2 := fun he => by
        have := hK b o hb
        rw [he, k2.off] at this; cases this
      unfold less
      rw [if_neg hne2]
      exact h4.keep K (Hp.le_trans hK (le_addH k2.off)) hKg b o hb
    · simp only [List.mem_singleton] at hq
      subst hq
      exact s0
    · simp only [size_setRow] at hb
      by_cases he : b = b1
      · rw [he, h1]; exact s0.symm
      · rw [o0 b he, h2.blk b hb]
        rintro (h5 | h5)
        · exact he h5
        · exact hnb ⟨ho.held b h5, .inl (hg b h5)⟩
    · unfold less at hb
      split at hb
      · cases hb
      · exact h3 b o hb
    · unfold less at hb
      split at hb
      · cases hb
      · rename_i he
        rcases h4.dom b o hb with ⟨o', h5⟩ | h5
        · unfold addH at h5
          rw [if_neg he] at h5
          exact .inl ⟨o', h5⟩
        · exact .inr (by simpa using h5)
end Go.Proofs.Ytoilhpkclabhoaa
namespace Go.Proofs.Ytoilhpkclabhoaa
open Go.RowKit

theorem By.len {K : Hp} {p : Option Loc} {n c : Nat} {l : List UInt8} {g : Option Nat} (h : By K p n c l g) : n = l.length := by simpa using h.1
theorem take_flat {α : Type} (e : α → List UInt8) {xs : List α} {i : Nat} {x : α} (h : xs[i]? = some x) : (xs.take (i + 1)).flatMap e = (xs.take i).flatMap e ++ e x := by
  rw [List.take_add_one, h]
  simp
end Go.Proofs.Ytoilhpkclabhoaa
namespace Go.Proofs.Ytoilhpkclabhoaa
open Go.RowKit

theorem OldP.of {H : Hp} {W : World} (hH : H.le (hpOf W)) {q : Option Loc} {off : Int} {cs : List Value} (h : RowAt H q off cs) : OldP W noM q := by
  obtain ⟨b, o, h1, C, T, fz, h2, _⟩ := h
  exact ⟨b, o, h1, heap_lt (hH b _ h2), fun h => h⟩
theorem By.mono {H K : Hp} {p : Option Loc} {n c : Nat} {l : List UInt8} {g : Option Nat} (h : By H p n c l g) (hk : H.le K) : By K p n c l g := Ow.mono h fun b _ o ho => hk b o ho
end Go.Proofs.Ytoilhpkclabhoaa
namespace Go.Proofs.Ytoilhpkclabhoaa
open Go.RowKit

section
variable {H : Hp} {b0 : Nat} {l : List UInt8}
end
end Go.Proofs.Ytoilhpkclabhoaa
