/- Contracts: Write of a state. No conditions. Contracts: Write of a state, as a whole. No conditions. Contracts: what the document says of states as bytes. No conditions. Contracts: what the document reads out of bytes. No conditions. -/
import Derived.Test.YtoilhpkclabhoaaKY1
import Derived.Test.YtoilhpkclabhoaaKE4
import Derived.Test.YtoilhpkclabhoaaKS2
import Derived.Test.YtoilhpkclabhoaaKU1
import Derived.Test.YtoilhpkclabhoaaKI1
set_option linter.unusedVariables false
set_option linter.unusedSimpArgs false
namespace Go.Proofs.Ytoilhpkclabhoaa
open Go.RowKit

def beK (k : Nat) (x : Int) : List UInt8 := if k = 1 then [b8 x] else be2 x
theorem beK_len {k : Nat} (h : k = 1 ∨ k = 2) (x : Int) : (beK k x).length = k := by rcases h with rfl | rfl <;> rfl
/-- the bytes of a number, one after the other -/
theorem beK_next {k : Nat} (h : k = 1 ∨ k = 2) (x : Int) {j : Nat} (hj : j < k) : (beK k x).take (k - j) = (beK k x).take (k - 1 - j) ++ [b8 (if j = 0 then x else x / 256)] := by
  rcases h with rfl | rfl
  · have : j = 0 := by omega
    subst this
    rfl
  · have : j = 0 ∨ j = 1 := by omega
    rcases this with rfl | rfl <;> rfl
theorem flatK_len {k : Nat} (h : k = 1 ∨ k = 2) : ∀ xs : List Int, (xs.flatMap (beK k)).length = xs.length * k
  | [] => by simp
  | x :: xs => by rw [List.flatMap_cons, List.length_append, beK_len h, flatK_len h xs, List.length_cons, Nat.succ_mul]; omega
/-- what holds of the pen's array on the way -/
structure PenI (W : World) (H : Hp) (g : Option Nat) (K : Hp) (p : Option Loc) (n c : Nat) (l : List UInt8) (g1 : Option Nat) : Prop where
  by_ : By K p n c l g1
  own : g1 = g ∨ ∀ b, g1 = some b → W.heap.size ≤ b
  keep : ∀ K0 : Hp, K0.le H → (∀ b, g = some b → K0 b = none) → K0.le K
  dom : ∀ b o, K b = some o → (∃ o', H b = some o') ∨ W.heap.size ≤ b
theorem c_put {H Hx : Hp} {W : World} {b0 : Nat} {p q : Option Loc} {n c m d : Nat} {l : List UInt8} {g : Option Nat} {xs : List Int} {k : Nat} (hk : k = 1 ∨ k = 2) (hH : H.le (hpOf W)) (h0 : W.heap[b0]? = some (.cells #[vsl p n c] 91 (0, 0))) (hn : H b0 = none) (ho : By H p n c l g)
    (hx : Hx.le H) (hxg : ∀ b, g = some b → Hx b = none) (hI : Rows Hx q m 1 (xs.map irow)) (hsz : n + 2 * m ≤ 1000000) :
    Calls Try.prog 53 #[.pointer (some ⟨b0, 0, none⟩), vi k, vsl q m d] W fun z W' => ∃ p' n' c' g' H', z = .returned (.tuple #[]) ∧ W'.heap[b0]? = some (.cells #[vsl p' n' c'] 91 (0, 0)) ∧ Mod (fun b => b = b0 ∨ g = some b) W W' ∧ H'.le (hpOf W') ∧ PenI W H g H' p' n' c' (l ++ xs.flatMap (beK k)) g' := by
  have hm : m = xs.length := by simpa using hI.len
  have hnl : n = l.length := by simpa using ho.1
  refine x_put k q m d p n c b0 (fun b => b = b0 ∨ g = some b) H W _ hH ⟨h0, .inl rfl, hn⟩ ⟨by omega, fun _ => ⟨by omega, fun _ => ⟨by omega, fun _ => ?_⟩⟩⟩
  refine ⟨fun v K => match v with | [.n i, .p p, .n n, .n c] => ∃ g1, i ≤ m ∧ PenI W H g K p n c (l ++ (xs.take i).flatMap (beK k)) g1 | _ => False, fun v => match v with | [.n i, _, _, _] => m - i | _ => 0,
    ⟨g, by omega, ⟨by rw [map0]; simpa using ho, .inl rfl, fun K0 h _ => h, fun b o h => .inl ⟨o, h⟩⟩⟩, fun K i p1 n1 c1 hI1 => ?_⟩
  obtain ⟨g1, hi, hP⟩ := hI1
  rw [map0] at hP
  have hin := flatK_len hk (xs.take i)
  have hil : (xs.take i).length = i := by rw [List.length_take]; omega
  refine ⟨fun hlt => ?_, fun hge => ?_⟩
  · have hlt' : i < xs.length := by omega
    obtain ⟨row, hr1, _, hat⟩ := (hI.mono (hP.keep Hx hx hxg)).at (k := i) (by omega) (off := 0 + (i : Int) * 1) (by omega)
    rw [List.getElem?_map, Option.map_eq_some_iff] at hr1
    obtain ⟨x, hxi, rfl⟩ := hr1
    refine ⟨⟨by omega, hlt⟩, fun _ => ⟨hat.isSome, fun _ => ⟨x, hat, in64 (by omega), fun _ => ⟨by omega, fun _ => ⟨by omega, fun _ => ?_⟩⟩⟩⟩⟩
    have hs : (xs.take (i + 1)).flatMap (beK k) = (xs.take i).flatMap (beK k) ++ beK k x := by
      rw [List.take_add_one, hxi]
      simp
    refine ⟨fun v K => match v with | [.i j, .p p, .n n, .n c] => ∃ (g1 : Option Nat) (r : Nat), j = (k : Int) - 1 - r ∧ r ≤ k ∧ PenI W H g K p n c (l ++ (xs.take i).flatMap (beK k) ++ (beK k x).take r) g1 | _ => False, fun v => match v with | [.i j, _, _, _] => (j + 1).toNat | _ => 0,
      ⟨g1, 0, by omega, by omega, by rw [map0]; simpa using hP⟩, fun K2 j p2 n2 c2 hI2 => ?_⟩
    obtain ⟨g2, r, rfl, hr, hP2⟩ := hI2
    rw [map0] at hP2
    have hn2 : n2 = (l ++ (xs.take i).flatMap (beK k) ++ (beK k x).take r).length := by simpa using hP2.by_.1
    have hlen : n2 ≤ n + 2 * m := by
      have h1 : ((beK k x).take r).length ≤ k := by rw [List.length_take, beK_len hk]; omega
      simp only [List.length_append, hin, hil] at hn2
      have : (i + 1) * k ≤ m * 2 := by
        calc (i + 1) * k ≤ m * k := Nat.mul_le_mul_right _ (by omega)
          _ ≤ m * 2 := Nat.mul_le_mul_left _ (by omega)
      rw [Nat.succ_mul] at this
      omega
    refine ⟨fun hj => ?_, fun hj => ?_⟩
    · obtain ⟨j, hjr⟩ : ∃ j : Nat, (k : Int) - 1 - r = j := ⟨k - 1 - r, by omega⟩
      rw [hjr]
      have hj1 : j < k := by omega
      refine ⟨in64 (by omega), fun _ W1 n1 _ => ⟨_, _, ek_bshr j (by omega) _ _ x, Ext.refl _, fun b1 W3 n3 k3 => ?_⟩⟩
      have hk3 := k3.1
      rw [wrap8] at hk3
      obtain ⟨p', c', g', W4, K3, hrun, hu, ho3, hg3⟩ := by_append (l := l ++ (xs.take i).flatMap (beK k) ++ (beK k x).take r) (m := [b8 (if j = 0 then x else x / 256)]) n3.sub hP2.by_ hk3.eq hk3.off (by simp only [List.length_cons, List.length_nil]; omega) 71
      have hown : ∀ b, g2 = some b → W.heap.size ≤ b ∨ (b = b0 ∨ g = some b) := fun b hb => by
        rcases hP2.own with h | h
        · exact .inr (.inr (h ▸ hb))
        · exact .inl (h b hb)
      refine ⟨p', _, c', W4, hrun, K3, hu.own hP2.by_ hown, in64 (by omega), fun _ => ⟨by omega, fun _ => ⟨by omega, fun _ => ?_⟩⟩⟩
      refine ⟨⟨g', r + 1, by omega, by omega, ?_, ?_, fun K0 h1 h2 => ?_, fun b o hb => ?_⟩, by simp only; omega⟩
      · rw [map0]
        have e1 : r + 1 = k - j := by omega
        have e2 : r = k - 1 - j := by omega
        rw [e1, beK_next hk x hj1, ← e2, ← List.append_assoc]
        exact ho3
      · rcases hg3 with h | h
        · rw [h]; exact hP2.own
        · exact .inr fun b hb => by rw [h] at hb; simp only [Option.some.injEq] at hb; have := n3.mod.size; omega
      · refine hu.keep n3.sub (hP2.keep K0 h1 h2) fun b hb => ?_
        rcases hP2.own with h | h
        · exact h2 b (h ▸ hb)
        · exact le_none h1 (old_none hH (h b hb))
      · rcases hu.dom b o hb with ⟨o', h⟩ | h
        · exact hP2.dom b o' h
        · have := n3.mod.size; omega
    · have hrk : r = k := by omega
      subst hrk
      refine ⟨in64 (by omega), fun _ => ⟨by omega, fun _ => ⟨by omega, fun _ => ⟨by omega, fun _ => ?_⟩⟩⟩⟩
      rw [show ((i : Int) + 1).toNat = i + 1 by omega]
      refine ⟨⟨g2, by omega, ?_⟩, by simp only; omega⟩
      rw [map0, hs, ← List.append_assoc]
      have : (beK r x).take r = beK r x := List.take_of_length_le (by rw [beK_len hk]; exact Nat.le_refl _)
      rw [this] at hP2
      exact hP2
  · have him : i = m := by omega
    subst him
    rw [List.take_of_length_le (by omega)] at hP
    exact fun W2 n2 k2 => ⟨p1, n1, c1, g1, K, rfl, k2.1.eq, n2.mod, n2.sub, hP⟩
/-- put, where the numbers stand in a known block -/
theorem Cl.put {W0 : World} {H : Hp} {kn : World → Prop} {Φ : Ending → World → World → Prop} {b1 b2 T2 off m d : Nat} {C2 : Array Value} {p : Option Loc} {n c : Nat} {l : List UInt8} {g : Option Nat} {xs : List Int} {k : Nat} (hk : k = 1 ∨ k = 2) (ho : By H p n c l g) (hg : ∀ b, g = some b → W0.heap.size ≤ b)
    (hkn : ∀ W, kn W → Kn W0 noM H W b1 (.cells #[vsl p n c] 91 (0, 0)) ∧ Kn W0 noM H W b2 (.cells C2 T2 (0, 0))) (hT : T2 ≠ 91) (hrow : Rows (addH noH b2 (.cells C2 T2 (0, 0))) (some ((b2 : Blk), off)) m 1 (xs.map irow)) (hsz : n + 2 * m ≤ 1000000)
    (hk2 : ∀ W W' p' n' c' g' H', By H' p' n' c' (l ++ xs.flatMap (beK k)) g' → (∀ b, g' = some b → W0.heap.size ≤ b) → (∀ K : Hp, K.le H → (∀ b, g = some b → K b = none) → K.le H') → (∀ K : Hp → Prop, K H' → Bt W0 noM H [(b1, .cells #[vsl p' n' c'] 91 (0, 0))] W W' K) → Φ (.returned (.tuple #[])) W W') :
    Cl Try.prog W0 noM H kn 53 #[.pointer (some ⟨b1, 0, none⟩), vi k, vsl (some ((b2 : Blk), off)) m d] Φ := fun W nW kW => by
  obtain ⟨k1, k2⟩ := hkn W kW
  have hne : b1 ≠ b2 := fun he => by
    have e := k1.eq
    rw [he, k2.eq] at e
    simp at e
    exact hT e.2
  have hlt2 := heap_lt k2.eq
  have hgb : ∀ b, g = some b → b ≠ b2 := fun b hb he => by
    obtain ⟨o, h⟩ := ho.held b hb
    rw [he, k2.off] at h; cases h
  have hH1 := addH_le nW.sub k2.eq
  refine (c_put (H := addH H b2 (.cells C2 T2 (0, 0))) (Hx := addH noH b2 (.cells C2 T2 (0, 0))) hk hH1 k1.eq (by unfold addH; rw [if_neg hne]; exact k1.off) (ho.mono fun b _ o h => le_addH k2.off b o h) (fun b o hb => ?_) (fun b hb => ?_) hrow hsz).mono fun z W' ⟨p', n', c', g', H', hz, h1, h2, h3, h4⟩ => ?_
  · unfold addH at hb ⊢
    split at hb
    · rename_i h; rw [if_pos h]; exact hb
    · cases hb
  · unfold addH
    rw [if_neg (hgb b hb)]
    rfl
  · subst hz
    have hg2 : g' ≠ some b2 := fun h => by
      rcases h4.own with h5 | h5
      · exact hgb b2 (h5 ▸ h) rfl
      · have := h5 b2 h; omega
    have s0 := setRow_heap W b1 _ #[vsl p' n' c'] _ _ k1.eq
    have o0 : ∀ b, b ≠ b1 → (W.setRow b1 #[vsl p' n' c']).heap[b]? = W.heap[b]? := fun b hb => setRow_other W b1 b _ hb
    refine hk2 W W' p' n' c' g' (less b2 H') (less_ow h4.by_ hg2) (fun b hb => ?_) (fun K hK hKg b o hb => ?_) (fun K hK => ⟨W.setRow b1 #[vsl p' n' c'], less b2 H', ⟨rfl, rfl, rfl, by simp, fun b _ hb => o0 b fun he => hb ⟨_, List.mem_singleton_self _, he.symm⟩⟩, fun q hq => ?_, ⟨⟨h2.os, h2.tape, h2.output, by simpa using h2.size, fun b hb hnb => ?_⟩, fun b o hb => ?_, fun b o hb => ?_⟩, hK⟩)
    · rcases h4.own with h5 | h5
      · exact hg b (h5 ▸ hb)
      · have := h5 b hb; have := nW.mod.size; omega
    · have hne2 : b ≠ b2 := fun he => by
        have := hK b o hb
        rw [he, k2.off] at this; cases this
      unfold less
      rw [if_neg hne2]
      exact h4.keep K (Hp.le_trans hK (le_addH k2.off)) hKg b o hb
    · simp only [List.mem_singleton] at hq
      subst hq
      exact s0
    · simp only [size_setRow] at hb
      by_cases he : b = b1
      · rw [he, h1]; exact s0.symm
      · rw [o0 b he, h2.blk b hb]
        rintro (h5 | h5)
        · exact he h5
        · exact hnb ⟨ho.held b h5, .inl (hg b h5)⟩
    · unfold less at hb
      split at hb
      · cases hb
      · exact h3 b o hb
    · unfold less at hb
      split at hb
      · cases hb
      · rename_i he
        rcases h4.dom b o hb with ⟨o', h5⟩ | h5
        · unfold addH at h5
          rw [if_neg he] at h5
          exact .inl ⟨o', h5⟩
        · exact .inr (by simpa using h5)
/-- numbers in a block -/
theorem rows_blk {b T off m : Nat} {C : Array Value} {xs : List Int} (hm : m = xs.length) (hc : (C.toList.drop off).take m = xs.map vi) : Rows (addH noH b (.cells C T (0, 0))) (some ((b : Blk), off)) m 1 (xs.map irow) :=
  Rows.block (addH_at ..) (by simp [hm]) (fun r hr => by obtain ⟨x, _, rfl⟩ := List.mem_map.1 hr; rfl) (by
    rw [Nat.mul_one, hc]
    clear hc hm
    induction xs with
    | nil => rfl
    | cons x xs ih => simp only [List.map_cons, List.flatten_cons, ← ih]; rfl)
end Go.Proofs.Ytoilhpkclabhoaa
namespace Go.Proofs.Ytoilhpkclabhoaa
open Go.RowKit

theorem By.len {K : Hp} {p : Option Loc} {n c : Nat} {l : List UInt8} {g : Option Nat} (h : By K p n c l g) : n = l.length := by simpa using h.1
theorem take_flat {α : Type} (e : α → List UInt8) {xs : List α} {i : Nat} {x : α} (h : xs[i]? = some x) : (xs.take (i + 1)).flatMap e = (xs.take i).flatMap e ++ e x := by
  rw [List.take_add_one, h]
  simp
theorem c_snapWrite {H : Hp} {p : Option Loc} {n c : Nat} {s : Sta} (hT : Tab H p n c s.table) : Gv Try.prog 23 #[s.val (vsl p n c)] H (.tuple #[.string (bs (sWrite s).1), vi (sWrite s).2]) := fun W hH => by
  have hlen := hT.len
  refine x_snapWrite _ _ _ _ _ _ p n c noM H W _ hH fun b0 => ?_
  refine Cl.same (c_stCheck hT) fun _ _ hx => ⟨_, rfl, hx, fun h0 => ?_, fun h0 => Rt.gv' (by unfold sWrite; rw [if_neg h0]; rfl)⟩
  have hw : sWrite s = (encT s, 0) := if_pos h0
  have hok := Sta.err_ok.1 h0
  have ht3 := hok.table.len
  rw [hw]
  intro b1 b2
  refine Cl.put (k := 1) (xs := [s.pos]) (l := []) (g := none) (p := none) (n := 0) (c := 0) (.inl rfl) (Ow.nil _ _ _ _) (fun b h => by cases h) (fun W k => ⟨k.1, k.2.1⟩) (by decide) (rows_blk rfl rfl) (by omega) ?_
  intro W1 W2 p1 n1 c1 g1 H1 y1 o1 k1 hB1
  have l1 := y1.len
  replace k1 : H.le H1 := k1 H (Hp.le_refl H) fun b h => by cases h
  refine ⟨p1, n1, c1, rfl, hB1 _ fun b3 => ?_⟩
  refine Cl.put (k := 2) (xs := [s.clock]) (.inr rfl) y1 o1 (fun W k => ⟨k.1, k.2.1⟩) (by decide) (rows_blk rfl rfl) (by rw [l1]; simp [beK]) ?_
  intro W3 W4 p2 n2 c2 g2 H2 y2 o2 k2 hB2
  have l2 := y2.len
  replace k2 : H.le H2 := k2 H k1 fun b h => old_none hH (o1 b h)
  refine ⟨p2, n2, c2, rfl, hB2 _ ?_⟩
  refine Cl.put (k := 2) (xs := [s.vals.a, s.vals.b, s.vals.c, s.vals.d]) (.inr rfl) y2 o2 (fun W k => ⟨k.1, k.2.1⟩) (by decide) (rows_blk rfl rfl) (by rw [l2]; simp [beK, be2]) ?_
  intro W5 W6 p3 n3 c3 g3 H3 y3 o3 k3 hB3
  have l3 := y3.len
  replace k3 : H.le H3 := k3 H k2 fun b h => old_none hH (o2 b h)
  refine ⟨p3, n3, c3, rfl, hB3 _ ⟨by omega, fun _ b4 => ?_⟩⟩
  refine Cl.put (k := 1) (xs := [(n : Int)]) (.inl rfl) y3 o3 (fun W k => ⟨k.1, k.2.1⟩) (by decide) (rows_blk rfl rfl) (by rw [l3]; simp [beK, be2]) ?_
  intro W7 W8 p4 n4 c4 g4 H4 y4 o4 k4 hB4
  replace k4 : H.le H4 := k4 H k3 fun b h => old_none hH (o3 b h)
  refine ⟨p4, n4, c4, rfl, hB4 _ ⟨by omega, fun _ => ⟨by omega, fun _ => ?_⟩⟩⟩
  generalize hh : [] ++ [s.pos].flatMap (beK 1) ++ [s.clock].flatMap (beK 2) ++ [s.vals.a, s.vals.b, s.vals.c, s.vals.d].flatMap (beK 2) ++ [(n : Int)].flatMap (beK 1) = hdr at y4
  have henc : encT s = hdr ++ s.table.flatMap encS := by
    rw [← hh, hlen]
    simp [encT, beK, be2]
  have hhl : hdr.length = 12 := by rw [← hh]; simp [beK, be2]
  have htl : ∀ i, ((s.table.take i).flatMap encS).length ≤ 42 := fun i => by
    have h1 := flat_len3 (e := encS) (m := 14) (xs := s.table.take i) (fun x hx => encS_len (hok.table.one x (List.mem_of_mem_take hx)))
    have h2 : (s.table.take i).length ≤ 3 := by rw [List.length_take]; omega
    omega
  refine ⟨fun v K => match v with | [.n i, .p p, .n n', .n c] => ∃ g, i ≤ n ∧ H.le K ∧ By K p n' c (hdr ++ (s.table.take i).flatMap encS) g ∧ (∀ b, g = some b → W.heap.size ≤ b) | _ => False, fun v => match v with | [.n i, _, _, _] => n - i | _ => 0,
    ⟨g4, by omega, k4, by rw [map0]; simpa using y4, o4⟩, fun K i p5 n5 c5 hI => ?_⟩
  obtain ⟨g5, hi, hle, y5, o5⟩ := hI
  rw [map0] at y5
  have l5 := y5.len
  refine ⟨fun hlt => ?_, fun hge => ?_⟩
  · obtain ⟨x, q, m, d, hs, hq, hat⟩ := hT.at (k := i) (by omega)
    have hat0 := ((hat (0 + (i : Int) * 4) (by omega)).1).mono hle
    have hxok := hok.table.one x (List.mem_of_getElem? hs)
    have hql := hq.len
    have hq3 := kept_len3 hxok
    obtain ⟨_, r2, _, hkr⟩ := Ses.err_ok hxok
    refine ⟨⟨by omega, hlt⟩, fun _ => ⟨hat0.isSome, fun _ => ⟨_, _, _, q, m, d, hat0, fun b5 b6 => ?_⟩⟩⟩
    have hil := htl i
    refine Cl.put (k := 1) (xs := [x.client, x.acked]) (.inl rfl) y5 o5 (fun W k => ⟨k.1, k.2.1⟩) (by decide) (rows_blk rfl rfl) (by rw [l5, List.length_append]; omega) ?_
    intro W9 W10 p6 n6 c6 g6 H6 y6 o6 k6 hB6
    have l6 := y6.len
    replace k6 : H.le H6 := k6 H hle fun b h => old_none hH (o5 b h)
    refine ⟨p6, n6, c6, rfl, hB6 _ fun b7 => ?_⟩
    refine Cl.put (k := 2) (xs := [x.seen]) (.inr rfl) y6 o6 (fun W k => ⟨k.1, k.2.1⟩) (by decide) (rows_blk rfl rfl) (by rw [l6, List.length_append, List.length_append, flatK_len (.inl rfl)]; simp only [List.length_cons, List.length_nil]; omega) ?_
    intro W11 W12 p7 n7 c7 g7 H7 y7 o7 k7 hB7
    have l7 := y7.len
    replace k7 : H.le H7 := k7 H k6 fun b h => old_none hH (o6 b h)
    refine ⟨p7, n7, c7, rfl, hB7 _ ⟨by omega, fun _ b8' => ?_⟩⟩
    refine Cl.put (k := 1) (xs := [(m : Int)]) (.inl rfl) y7 o7 (fun W k => ⟨k.1, k.2.1⟩) (by decide) (rows_blk rfl rfl) (by rw [l7, List.length_append, List.length_append, List.length_append, flatK_len (.inl rfl), flatK_len (.inr rfl)]; simp only [List.length_cons, List.length_nil]; omega) ?_
    intro W13 W14 p8 n8 c8 g8 H8 y8 o8 k8 hB8
    replace k8 : H.le H8 := k8 H k7 fun b h => old_none hH (o7 b h)
    refine ⟨p8, n8, c8, rfl, hB8 _ ⟨by omega, fun _ => ⟨by omega, fun _ => ?_⟩⟩⟩
    generalize hmm : hdr ++ (s.table.take i).flatMap encS ++ [x.client, x.acked].flatMap (beK 1) ++ [x.seen].flatMap (beK 2) ++ [(m : Int)].flatMap (beK 1) = mid at y8
    have hml : mid.length ≤ 59 := by
      rw [← hmm]
      simp only [List.length_append, flatK_len (.inl rfl), flatK_len (.inr rfl), List.length_cons, List.length_nil]
      omega
    have hmid : mid ++ x.kept.flatMap encR = hdr ++ (s.table.take (i + 1)).flatMap encS := by
      rw [take_flat encS hs, ← hmm, hql]
      simp [encS, beK, be2]
    have hkl : ∀ j, ((x.kept.take j).flatMap encR).length ≤ 9 := fun j => by
      have h1 := flat_len3 (e := encR) (m := 3) (xs := x.kept.take j) (fun y _ => by simp [encR, be2])
      have h2 : (x.kept.take j).length ≤ 3 := by rw [List.length_take]; omega
      omega
    refine ⟨fun v K => match v with | [.n j, .p p, .n n', .n c] => ∃ g, j ≤ m ∧ H.le K ∧ By K p n' c (mid ++ (x.kept.take j).flatMap encR) g ∧ (∀ b, g = some b → W.heap.size ≤ b) | _ => False, fun v => match v with | [.n j, _, _, _] => m - j | _ => 0,
      ⟨g8, by omega, k8, by rw [map0]; simpa using y8, o8⟩, fun K2 j p9 n9 c9 hI2 => ?_⟩
    obtain ⟨g9, hj, hle2, y9, o9⟩ := hI2
    rw [map0] at y9
    have l9 := y9.len
    have hjl := hkl j
    refine ⟨fun hlt2 => ?_, fun hge2 => ?_⟩
    · obtain ⟨r, hr, hatr⟩ := hq.at (k := j) (by omega)
      have hatr0 := ((hatr (0 + (j : Int) * 2) (by omega)).1).mono hle2
      obtain ⟨rr1, rr2⟩ := kept_range hkr (by omega) r (List.mem_of_getElem? hr)
      refine ⟨⟨by omega, hlt2⟩, fun _ => ⟨hatr0.isSome, fun _ => ⟨_, _, hatr0, fun b9 b10 => ?_⟩⟩⟩
      refine Cl.put (k := 1) (xs := [r.seq]) (.inl rfl) y9 o9 (fun W k => ⟨k.1, k.2.1⟩) (by decide) (rows_blk rfl rfl) (by rw [l9, List.length_append]; omega) ?_
      intro W15 W16 pa na ca ga Ha ya oa ka hBa
      have la := ya.len
      replace ka : H.le Ha := ka H hle2 fun b h => old_none hH (o9 b h)
      refine ⟨pa, na, ca, rfl, hBa _ ⟨in64 (by omega), fun _ b11 => ?_⟩⟩
      refine Cl.put (k := 2) (xs := [r.val + 1]) (.inr rfl) ya oa (fun W k => ⟨k.1, k.2.1⟩) (by decide) (rows_blk rfl rfl) (by rw [la, List.length_append, List.length_append, flatK_len (.inl rfl)]; simp only [List.length_cons, List.length_nil]; omega) ?_
      intro W17 W18 pb nb cb gb Hb yb ob kb hBb
      replace kb : H.le Hb := kb H ka fun b h => old_none hH (oa b h)
      refine ⟨pb, nb, cb, rfl, hBb _ ⟨in64 (by omega), fun _ => ⟨by omega, fun _ => ⟨by omega, fun _ => ⟨by omega, fun _ => ?_⟩⟩⟩⟩⟩
      rw [show ((j : Int) + 1).toNat = j + 1 by omega]
      refine ⟨⟨gb, by omega, kb, ?_, ob⟩, by simp only; omega⟩
      rw [map0, take_flat encR hr]
      have : mid ++ (x.kept.take j).flatMap encR ++ [r.seq].flatMap (beK 1) ++ [r.val + 1].flatMap (beK 2) = mid ++ ((x.kept.take j).flatMap encR ++ encR r) := by simp [encR, beK, be2]
      rw [← this]
      exact yb
    · have hjm : j = m := by omega
      subst hjm
      rw [List.take_of_length_le (by omega), hmid] at y9
      refine ⟨in64 (by omega), fun _ => ⟨by omega, fun _ => ⟨by omega, fun _ => ⟨by omega, fun _ => ?_⟩⟩⟩⟩
      rw [show ((i : Int) + 1).toNat = i + 1 by omega]
      exact ⟨⟨g9, by omega, hle2, by rw [map0]; exact y9, o9⟩, by simp only; omega⟩
  · have hin : i = n := by omega
    rw [List.take_of_length_le (by omega), ← henc] at y5
    intro Wz nz _
    exact ⟨_, _, ek_bytes_str y5.rows nz.sub, Ext.refl _, Rt.gv⟩
end Go.Proofs.Ytoilhpkclabhoaa
namespace Go.Proofs.Ytoilhpkclabhoaa
open Go.RowKit

theorem OldP.of {H : Hp} {W : World} (hH : H.le (hpOf W)) {q : Option Loc} {off : Int} {cs : List Value} (h : RowAt H q off cs) : OldP W noM q := by
  obtain ⟨b, o, h1, C, T, fz, h2, _⟩ := h
  exact ⟨b, o, h1, heap_lt (hH b _ h2), fun h => h⟩
theorem By.mono {H K : Hp} {p : Option Loc} {n c : Nat} {l : List UInt8} {g : Option Nat} (h : By H p n c l g) (hk : H.le K) : By K p n c l g := Ow.mono h fun b _ o ho => hk b o ho
end Go.Proofs.Ytoilhpkclabhoaa
namespace Go.Proofs.Ytoilhpkclabhoaa
open Go.RowKit

section
variable {H : Hp} {b0 : Nat} {l : List UInt8}
end
end Go.Proofs.Ytoilhpkclabhoaa
