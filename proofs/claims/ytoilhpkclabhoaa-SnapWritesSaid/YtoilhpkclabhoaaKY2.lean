/- Contracts: Write of a state. No conditions. Contracts: Write of a state, as a whole. No conditions. Contracts: what the document says of states as bytes. No conditions. Contracts: what the document reads out of bytes. No conditions. -/
import Derived.Test.YtoilhpkclabhoaaKY1
import Derived.Test.YtoilhpkclabhoaaKE4
import Derived.Test.YtoilhpkclabhoaaKS2
import Derived.Test.YtoilhpkclabhoaaKU1
import Derived.Test.YtoilhpkclabhoaaKI1
set_option linter.unusedVariables false
set_option linter.unusedSimpArgs false
namespace Go.Proofs.Ytoilhpkclabhoaa
open Go.RowKit

def beK (k : Nat) (x : Int) : List UInt8 := if k = 1 then [b8 x] else be2 x
theorem beK_len {k : Nat} (h : k = 1 ∨ k = 2) (x : Int) : (beK k x).length = k := by rcases h with rfl | rfl <;> rfl
/-- the bytes of a number, one after the other -/
theorem beK_next {k : Nat} (h : k = 1 ∨ k = 2) (x : Int) {j : Nat} (hj : j < k) : (beK k x).take (k - j) = (beK k x).take (k - 1 - j) ++ [b8 (if j = 0 then x else x / 256)] := by
  rcases h with rfl | rfl
  · have : j = 0 := by omega
    subst this
    rfl
  · have : j = 0 ∨ j = 1 := by omega
    rcases this with rfl | rfl <;> rfl
theorem flatK_len {k : Nat} (h : k = 1 ∨ k = 2) : ∀ xs : List Int, (xs.flatMap (beK k)).length = xs.length * k
  | [] => by simp
  | x :: xs => by rw [List.flatMap_cons, List.length_append, beK_len h, flatK_len h xs, List.length_cons, Nat.succ_mul]; omega
/-- what holds of the pen's array on the way -/
structure PenI (W : World) (H : Hp) (g : Option Nat) (K : Hp) (p : Option Loc) (n c : Nat) (l : List UInt8) (g1 : Option Nat) : Prop where
  by_ : By K p n c l g1
  own : g1 = g ∨ ∀ b, g1 = some b → W.heap.size ≤ b
  keep : ∀ K0 : Hp, K0.le H → (∀ b, g = some b → K0 b = none) → K0.le K
  dom : ∀ b o, K b = some o → (∃ o', H b = some o') ∨ W.heap.size ≤ b
theorem c_put {H Hx : Hp} {W : World} {b0 : Nat} {p q : Option Loc} {n c m d : Nat} {l : List UInt8} {g : Option Nat} {xs : List Int} {k : Nat} (hk : k = 1 ∨ k = 2) (hH : H.le (hpOf W)) (h0 : W.heap[b0]? = some (.cells #[vsl p n c] 91 (0, 0))) (hn : H b0 = none) (ho : By H p n c l g)
    (hx : Hx.le H) (hxg : ∀ b, g = some b → Hx b = none) (hI : Rows Hx q m 1 (xs.map irow)) (hsz : n + 2 * m ≤ 1000000) :
    Calls Try.prog 53 #[.pointer (some ⟨b0, 0, none⟩), vi k, vsl q m d] W fun z W' => ∃ p' n' c' g' H', z = .returned (.tuple #[]) ∧ W'.heap[b0]? = some (.cells #[vsl p' n' c'] 91 (0, 0)) ∧ Mod (fun b => b = b0 ∨ g = some b) W W' ∧ H'.le (hpOf W') ∧ PenI W H g H' p' n' c' (l ++ xs.flatMap (beK k)) g' := by
  have hm : m = xs.length := by simpa using hI.len
  have hnl : n = l.length := by simpa using ho.1
  refine x_put k q m d p n c b0 (fun b => b = b0 ∨ g = some b) H W _ hH ⟨h0, .inl rfl, hn⟩ ⟨by omega, fun _ => ⟨by omega, fun _ => ⟨by omega, fun _ => ?_⟩⟩⟩
  refine ⟨fun v K => match v with | [.n i, .p p, .n n, .n c] => ∃ g1, i ≤ m ∧ PenI W H g K p n c (l ++ (xs.take i).flatMap (beK k)) g1 | _ => False, fun v => match v with | [.n i, _, _, _] => m - i | _ => 0,
    ⟨g, by omega, ⟨by rw [map0]; simpa using ho, .inl rfl, fun K0 h _ => h, fun b o h => .inl ⟨o, h⟩⟩⟩, fun K i p1 n1 c1 hI1 => ?_⟩
  obtain ⟨g1, hi, hP⟩ := hI1
  rw [map0] at hP
  have hin := flatK_len hk (xs.take i)
  have hil : (xs.take i).length = i := by rw [List.length_take]; omega
  refine ⟨fun hlt => ?_, fun hge => ?_⟩
  · have hlt' : i < xs.length := by omega
    obtain ⟨row, hr1, _, hat⟩ := (hI.mono (hP.keep Hx hx hxg)).at (k := i) (by omega) (off := 0 + (i : Int) * 1) (by omega)
    rw [List.getElem?_map, Option.map_eq_some_iff] at hr1
    obtain ⟨x, hxi, rfl⟩ := hr1
    refine ⟨⟨by omega, hlt⟩, fun _ => ⟨hat.isSome, fun _ => ⟨x, hat, in64 (by omega), fun _ => ⟨by omega, fun _ => ⟨by omega, fun _ => ?_⟩⟩⟩⟩⟩
    have hs : (xs.take (i + 1)).flatMap (beK k) = (xs.take i).flatMap (beK k) ++ beK k x := by
      rw [List.take_add_one, hxi]
      simp
    refine ⟨fun v K => match v with | [.i j, .p p, .n n, .n c] => ∃ (g1 : Option Nat) (r : Nat), j = (k : Int) - 1 - r ∧ r ≤ k ∧ PenI W H g K p n c (l ++ (xs.take i).flatMap (beK k) ++ (beK k x).take r) g1 | _ => False, fun v => match v with | [.i j, _, _, _] => (j + 1).toNat | _ => 0,
      ⟨g1, 0, by omega, by omega, by rw [map0]; simpa using hP⟩, fun K2 j p2 n2 c2 hI2 => ?_⟩
    obtain ⟨g2, r, rfl, hr, hP2⟩ := hI2
    rw [map0] at hP2
    have hn2 : n2 = (l ++ (xs.take i).flatMap (beK k) ++ (beK k x).take r).length := by simpa using hP2.by_.1
    have hlen : n2 ≤ n + 2 * m := by
      have h1 : ((beK k x).take r).length ≤ k := by rw [List.length_take, beK_len hk]; omega
      simp only [List.length_append, hin, hil] at hn2
      have : (i + 1) * k ≤ m * 2 := by
        calc (i + 1) * k ≤ m * k := Nat.mul_le_mul_right _ (by omega)
          _ ≤ m * 2 := Nat.mul_le_mul_left _ (by omega)
      rw [Nat.succ_mul] at this
      omega
    refine ⟨fun hj => ?_, fun hj => ?_⟩
    · obtain ⟨j, hjr⟩ : ∃ j : Nat, (k : Int) - 1 - r = j := ⟨k - 1 - r, by omega⟩
      rw [hjr]
      have hj1 : j < k := by omega
      refine ⟨in64 (by omega), fun _ W1 n1 _ => ⟨_, _, ek_bshr j (by omega) _ _ x, Ext.refl _, fun b1 W3 n3 k3 => ?_⟩⟩
      have hk3 := k3.1
      rw [wrap8] at hk3
      obtain ⟨p', c', g', W4, K3, hrun, hu, ho3, hg3⟩ := by_append (l := l ++ (xs.take i).flatMap (beK k) ++ (beK k x).take r) (m := [b8 (if j = 0 then x else x / 256)]) n3.sub hP2.by_ hk3.eq hk3.off (by simp only [List.length_cons, List.length_nil]; omega) 71
      have hown : ∀ b, g2 = some b → W.heap.size ≤ b ∨ (b = b0 ∨ g = some b) := fun b hb => by
        rcases hP2.own with h | h
        · exact .inr (.inr (h ▸ hb))
        · exact .inl (h b hb)
      refine ⟨p', _, c', W4, hrun, K3, hu.own hP2.by_ hown, in64 (by omega), fun _ => ⟨by omega, fun _ => ⟨by omega, fun _ => ?_⟩⟩⟩
      refine ⟨⟨g', r + 1, by omega, by omega, ?_, ?_, fun K0 h1 h2 => ?_, fun b o hb => ?_⟩, by simp only; omega⟩
      · rw [map0]
        have e1 : r + 1 = k - j := by omega
        have e2 : r = k - 1 - j := by omega
        rw [e1, beK_next hk x hj1, ← e2, ← List.append_assoc]
        exact ho3
      · rcases hg3 with h | h
        · rw [h]; exact hP2.own
        · exact .inr fun b hb => by rw [h] at hb; simp only [Option.some.injEq] at hb; have := n3.mod.size; omega
      · refine hu.keep n3.sub (hP2.keep K0 h1 h2) fun b hb => ?_
        rcases hP2.own with h | h
        · exact h2 b (h ▸ hb)
        · exact le_none h1 (old_none hH (h b hb))
      · rcases hu.dom b o hb with ⟨o', h⟩ | h
        · exact hP2.dom b o' h
        · have := n3.mod.size; omega
    · have hrk : r = k := by omega
      subst hrk
      refine ⟨in64 (by omega), fun _ => ⟨by omega, fun _ => ⟨by omega, fun _ => ⟨by omega, fun _ => ?_⟩⟩⟩⟩
      rw [show ((i : Int) + 1).toNat = i + 1 by omega]
      refine ⟨⟨g2, by omega, ?_⟩, by simp only; omega⟩
      rw [map0, hs, ← List.append_assoc]
      have : (beK r x).take r = beK r x := List.take_of_length_le (by rw [beK_len hk]; exact Nat.le_refl _)
      rw [this] at hP2
      exact hP2
  · have him : i = m := by omega
    subst him
    rw [List.take_of_length_le (by omega)] at hP
    exact fun W2 n2 k2 => ⟨p1, n1, c1, g1, K, rfl, k2.1.eq, n2.mod, n2.sub, hP⟩
/-- put, where the numbers stand in a known block -/
theorem Cl.put {W0 : World} {H : Hp} {kn : World → Prop} {Φ : Ending → World → World → Prop} {b1 b2 T2 off m d : Nat} {C2 : Array Value} {p : Option Loc} {n c : Nat} {l : List UInt8} {g : Option Nat} {xs : List Int} {k : Nat} (hk : k = 1 ∨ k = 2) (ho : By H p n c l g) (hg : ∀ b, g = some b → W0.heap.size ≤ b)
    (hkn : ∀ W, kn W → Kn W0 noM H W b1 (.cells #[vsl p n c] 91 (0, 0)) ∧ Kn W0 noM H W b2 (.cells C2 T2 (0, 0))) (hT : T2 ≠ 91) (hrow : Rows (addH noH b2 (.cells C2 T2 (0, 0))) (some ((b2 : Blk), off)) m 1 (xs.map irow)) (hsz : n + 2 * m ≤ 1000000)
    (hk2 : ∀ W W' p' n' c' g' H', By H' p' n' c' (l ++ xs.flatMap (beK k)) g' → (∀ b, g' = some b → W0.heap.size ≤ b) → (∀ K : Hp, K.le H → (∀ b, g = some b → K b = none) → K.le H') → (∀ K : Hp → Prop, K H' → Bt W0 noM H [(b1, .cells #[vsl p' n' c'] 91 (0, 0))] W W' K) → Φ (.returned (.tuple #[])) W W') :
    Cl Try.prog W0 noM H kn 53 #[.pointer (some ⟨b1, 0, none⟩), vi k, vsl (some ((b2 : Blk), off)) m d] Φ := fun W nW kW => by
  obtain ⟨k1, k2⟩ := hkn W kW
  have hne : b1 ≠ b2 := fun he => by
    have e := k1.eq
    rw [he, k2.eq] at e
    simp at e
    exact hT e.2
  have hlt2 := heap_lt k2.eq
  have hgb : ∀ b, g = some b → b ≠ b2 := fun b hb he => by
    obtain ⟨o, h⟩ := ho.held b hb
    rw [he, k2.off] at h; cases h
  have hH1 := addH_le nW.sub k2.eq
  refine (c_put (H := addH H b2 (.cells C2 T2 (0, 0))) (Hx := addH noH b2 (.cells C2 T2 (0, 0))) hk hH1 k1.eq (by unfold addH; rw [if_neg hne]; exact k1.off) (ho.mono fun b _ o h => le_addH k2.off b o h) (fun b o hb => ?_) (fun b hb => ?_) hrow hsz).mono fun z W' ⟨p', n', c', g', H', hz, h1, h2, h3, h4⟩ => ?_
  · unfold addH at hb ⊢
    split at hb
    · rename_i h; rw [if_pos h]; exact hb
    · cases hb
  · unfold addH
    rw [if_neg (hgb b hb)]
    rfl
  · subst hz
    have hg2 : g' ≠ some b2 := fun h => by
      rcases h4.own with h5 | h5
      · exact hgb b2 (h5 ▸ h) rfl
      · have := h5 b2 h; omega
    have s0 := setRow_heap W b1 _ #[vsl p' n' c'] _ _ k1.eq
    have o0 : ∀ b, b ≠ b1 → (W.setRow b1 #[vsl p' n' c']).heap[b]? = W.heap[b]? := fun b hb => setRow_other W b1 b _ hb
    refine hk2 W W' p' n' c' g' (less b2 H') (less_ow h4.by_ hg2) (fun b hb => ?_) (fun K hK hKg b o hb => ?_) (fun K hK => ⟨W.setRow b1 #[vsl p' n' c'], less b2 H', ⟨rfl, rfl, rfl, by simp, fun b _ hb => o0 b fun he => hb ⟨_, List.mem_singleton_self _, he.symm⟩⟩, fun q hq => ?_, ⟨⟨h2.os, h2.tape, h2.output, by simpa using h2.size, fun b hb hnb => ?_⟩, fun b o hb => ?_, fun b o hb => ?_⟩, hK⟩)
    · rcases h4.own with h5 | h5
      · exact hg b (h5 ▸ hb)
      · have := h5 b hb; have := nW.mod.size; omega
    · have hne2 : b ≠ b2 := fun he => by
        have := hK b o hb
        rw [he, k2.off] at this; cases this
      unfold less
      rw [if_neg hne2]
      exact h4.keep K (Hp.le_trans hK (le_addH k2.off)) hKg b o hb
    · simp only [List.mem_singleton] at hq
      subst hq
      exact s0
    · simp only [size_setRow] at hb
      by_cases he : b = b1
      · rw [he, h1]; exact s0.symm
      · rw [o0 b he, h2.blk b hb]
        rintro (h5 | h5)
        · exact he h5
        · exact hnb ⟨ho.held b h5, .inl (hg b h5)⟩
    · unfold less at hb
      split at hb
      · cases hb
      · exact h3 b o hb
    · unfold less at hb
      split at hb
      · cases hb
      · rename_i he
        rcases h4.dom b o hb with ⟨o', h5⟩ | h5
        · unfold addH at h5
          rw [if_neg he] at h5
          exact .inl ⟨o', h5⟩
        · exact .inr (by simpa using h5)
/-- numbers in a block -/
theorem rows_blk {b T off m : Nat} {C : Array Value} {xs : List Int} (hm : m = xs.length) (hc : (C.toList.drop off).take m = xs.map vi) : Rows (addH noH b (.cells C T (0, 0))) (some ((b : Blk), off)) m 1 (xs.map irow) :=
  Rows.block (addH_at ..) (by simp [hm]) (fun r hr => by obtain ⟨x, _, rfl⟩ := List.mem_map.1 hr; rfl) (by
    rw [Nat.mul_one, hc]
    clear hc hm
    induction xs with
    | nil => rfl
    | cons x xs ih => simp only [List.map_cons, List.flatten_cons, ← ih]; rfl)
end Go.Proofs.Ytoilhpkclabhoaa
namespace Go.Proofs.Ytoilhpkclabhoaa
open Go.RowKit

theorem By.len {K : Hp} {p : Option Loc} {n c : Nat} {l : List UInt8} {g : Option Nat} (h : By K p n c l g) : n = l.length := by simpa using h.1
theorem take_flat {α : Type} (e : α → List UInt8) {xs : List α} {i : Nat} {x : α} (h : xs[i]? = some x) : (xs.take (i + 1)).flatMap e = (xs.take i).flatMap e ++ e x := by
  rw [List.take_add_one, h]
  simp
theorem c_snapWrite {H : Hp} {p : Option Loc} {n c : Nat} {s : Sta} (hT : Tab H p n c s.table) : Gv Try.prog 23 #[s.val (vsl p n c)] H (.tuple #[.string (bs (sWrite s).1), vi (sWrite s).2]) := fun W hH => by
  have hlen := hT.len
  refine x_snapWrite _ _ _ _ _ _ p n c noM H W _ hH fun b0 => ?_
  refine Cl.same (c_stCheck hT) fun _ _ hx => ⟨_, rfl, hx, fun h0 => ?_, fun h0 => Rt.gv' (by unfold sWrite; rw [if_neg h0]; rfl)⟩
  have hw : sWrite s = (encT s, 0) := if_pos h0
  have hok := Sta.err_ok.1 h0
  have ht3 := hok.table.len
  rw [hw]
  intro b1 b2
  refine Cl.put (k := 1) (xs := [s.pos]) (l := []) (g := none) (p := none) (n := 0) (c := 0) (.inl rfl) (Ow.nil _ _ _ _) (fun b h => by cases h) (fun W k => ⟨k.1, k.2.1⟩) (by decide) (rows_blk rfl rfl) (by omega) ?_
  intro W1 W2 p1 n1 c1 g1 H1 y1 o1 k1 hB1
  have l1 := y1.len
  replace k1 : H.le H1 := k1 H (Hp.le_refl H) fun b h => by cases h
  refine ⟨p1, n1, c1, rfl, hB1 _ fun b3 => ?_⟩
  refine Cl.put (k := 2) (xs := [s.clock]) (.inr rfl) y1 o1 (fun W k => ⟨k.1, k.2.1⟩) (by decide) (rows_blk rfl rfl) (by rw [l1]; simp [beK]) ?_
  intro W3 W4 p2 n2 c2 g2 H2 y2 o2 k2 hB2
  have l2 := y2.len
  replace k2 : H.le H2 := k2 H k1 fun b h => old_none hH (o1 b h)
  refine ⟨p2, n2, c2, rfl, hB2 _ ?_⟩
  refine Cl.put (k := 2) (xs := [s.vals.a, s.vals.b, s.vals.c, s.vals.d]) (.inr rfl) y2 o2 (fun W k => ⟨k.1, k.2.1⟩) (by decide) (rows_blk rfl rfl) (by rw [l2]; simp [beK, be2]) ?_
  intro W5 W6 p3 n3 c3 g3 H3 y3 o3 k3 hB3
  have l3 := y3.len
  replace k3 : H.le H3 := k3 H k2 fun b h => old_none hH (o2 b h)
  refine ⟨p3, n3, c3, rfl, hB3 _ ⟨by omega, fun _ b4 => ?_⟩⟩
  refine Cl.put (k := 1) (xs := [(n : Int)]) (.inl rfl) y3 o3 (fun W k => ⟨k.1, k.2.1⟩) (by decide) (rows_blk rfl rfl) (by rw [l3]; simp [beK, be2]) ?_
  intro W7 W8 p4 n4 c4 g4 H4 y4 o4 k4 hB4
  replace k4 : H.le H4 := k4 H k3 fun b h => old_none hH (o3 b h)
  refine ⟨p4, n4, c4, rfl, hB4 _ ⟨by omega, fun _ => ⟨by omega, fun _ => ?_⟩⟩⟩
  generalize hh : [] ++ [s.pos].flatMap (beK 1) ++ [s.clock].flatMap (beK 2) ++ [s.vals.a, s.vals.b, s.vals.c, s.vals.d].flatMap (beK 2) ++ [(n : Int)].flatMap (beK 1) = hdr at y4
  have henc : encT s = hdr ++ s.table.flatMap encS := by
    rw [← hh, hlen]
    simp [encT, beK, be2]
  have hhl : hdr.length = 12 := by rw [← hh]; simp [beK, be2]
  have htl : ∀ i, ((s.table.take i).flatMap encS).length ≤ 42 := fun i => by
    have h1 := flat_len3 (e := encS) (m := 14) (xs := s.table.take i) (fun x hx => encS_len (hok.table.one x (List.mem_of_mem_take hx)))
    have h2 : (s.table.take i).length ≤ 3 := by rw [List.length_take]; omega
    omega
  refine ⟨fun v K => match v with | [.n i, .p p, .n n', .n c] => ∃ g, i ≤ n ∧ H.le K ∧ By K p n' c (hdr ++ (s.table.take i).flatMap encS) g ∧ (∀ b, g = some b → W.heap.size ≤ b) | _ => False, fun v => match v with | [.n i, _, _, _] => n - i | _ => 0,
    ⟨g4, by omega, k4, by rw [map0]; simpa using y4, o4⟩, fun K i p5 n5 c5 hI => ?_⟩
  obtain ⟨g5, hi, hle, y5, o5⟩ := hI
  rw [map0] at y5
  have l5 := y5.len
  refine ⟨fun hlt => ?_, fun hge => ?_⟩
  · obtain ⟨x, q, m, d, hs, hq, hat⟩ := hT.at (k := i) (by omega)
    have hat0 := ((hat (0 + (i : Int) * 4) (by omega)).1).mono hle
    have hxok := hok.table.one x (List.mem_of_getElem? hs)
    have hql := hq.len
    have hq3 := kept_len3 hxok
    obtain ⟨_, r2, _, hkr⟩ := Ses.err_ok hxok
    refine ⟨⟨by omega, hlt⟩, fun _ => ⟨hat0.isSome, fun _ => ⟨_, _, _, q, m, d, hat0, fun b5 b6 => ?_⟩⟩⟩
    have hil := htl i
    refine Cl.put (k := 1) (xs := [x.client, x.acked]) (.inl rfl) y5 o5 (fun W k => ⟨k.1, k.2.1⟩) (by decide) (rows_blk rfl rfl) (by rw [l5, List.length_append]; omega) ?_
    intro W9 W10 p6 n6 c6 g6 H6 y6 o6 k6 hB6
    have l6 := y6.len
    replace k6 : H.le H6 := k6 H hle fun b h => old_none hH (o5 b h)
    refine ⟨p6, n6, c6, rfl, hB6 _ fun b7 => ?_⟩
    refine Cl.put (k := 2) (xs := [x.seen]) (.inr rfl) y6 o6 (fun W k => ⟨k.1, k.2.1⟩) (by decide) (rows_blk rfl rfl) (by rw [l6, List.length_append, List.length_append, flatK_len (.inl rfl)]; simp only [List.length_cons, List.length_nil]; omega) ?_
    intro W11 W12 p7 n7 c7 g7 H7 y7 o7 k7 hB7
    have l7 := y7.len
    replace k7 : H.le H7 := k7 H k6 fun b h => old_none hH (o6 b h)
    refine ⟨p7, n7, c7, rfl, hB7 _ ⟨by omega, fun _ b8' => ?_⟩⟩
    refine Cl.put (k := 1) (xs := [(m : Int)]) (.inl rfl) y7 o7 (fun W k => ⟨k.1, k.2.1⟩) (by decide) (rows_blk rfl rfl) (by rw [l7, List.length_append, List.length_append, List.length_append, flatK_len (.inl rfl), flatK_len (.inr rfl)]; simp only [List.length_cons, List.length_nil]; omega) ?_
    intro W13 W14 p8 n8 c8 g8 H8 y8 o8 k8 hB8
    replace k8 : H.le H8 := k8 H k7 fun b h => old_none hH (o7 b h)
    refine ⟨p8, n8, c8, rfl, hB8 _ ⟨by omega, fun _ => ⟨by omega, fun _ => ?_⟩⟩⟩
    generalize hmm : hdr ++ (s.table.take i).flatMap encS ++ [x.client, x.acked].flatMap (beK 1) ++ [x.seen].flatMap (beK 2) ++ [(m : Int)].flatMap (beK 1) = mid at y8
    have hml : mid.length ≤ 59 := by
      rw [← hmm]
      simp only [List.length_append, flatK_len (.inl rfl), flatK_len (.inr rfl), List.length_cons, List.length_nil]
      omega
    have hmid : mid ++ x.kept.flatMap encR = hdr ++ (s.table.take (i + 1)).flatMap encS := by
      rw [take_flat encS hs, ← hmm, hql]
      simp [encS, beK, be2]
    have hkl : ∀ j, ((x.kept.take j).flatMap encR).length ≤ 9 := fun j => by
      have h1 := flat_len3 (e := encR) (m := 3) (xs := x.kept.take j) (fun y _ => by simp [encR, be2])
      have h2 : (x.kept.take j).length ≤ 3 := by rw [List.length_take]; omega
      omega
    refine ⟨fun v K => match v with | [.n j, .p p, .n n', .n c] => ∃ g, j ≤ m ∧ H.le K ∧ By K p n' c (mid ++ (x.kept.take j).flatMap encR) g ∧ (∀ b, g = some b → W.heap.size ≤ b) | _ => False, fun v => match v with | [.n j, _, _, _] => m - j | _ => 0,
      ⟨g8, by omega, k8, by rw [map0]; simpa using y8, o8⟩, fun K2 j p9 n9 c9 hI2 => ?_⟩
    obtain ⟨g9, hj, hle2, y9, o9⟩ := hI2
    rw [map0] at y9
    have l9 := y9.len
    have hjl := hkl j
    refine ⟨fun hlt2 => ?_, fun hge2 => ?_⟩
    · obtain ⟨r, hr, hatr⟩ := hq.at (k := j) (by omega)
      have hatr0 := ((hatr (0 + (j : Int) * 2) (by omega)).1).mono hle2
      obtain ⟨rr1, rr2⟩ := kept_range hkr (by omega) r (List.mem_of_getElem? hr)
      refine ⟨⟨by omega, hlt2⟩, fun _ => ⟨hatr0.isSome, fun _ => ⟨_, _, hatr0, fun b9 b10 => ?_⟩⟩⟩
      refine Cl.put (k := 1) (xs := [r.seq]) (.inl rfl) y9 o9 (fun W k => ⟨k.1, k.2.1⟩) (by decide) (rows_blk rfl rfl) (by rw [l9, List.length_append]; omega) ?_
      intro W15 W16 pa na ca ga Ha ya oa ka hBa
      have la := ya.len
      replace ka : H.le Ha := ka H hle2 fun b h => old_none hH (o9 b h)
      refine ⟨pa, na, ca, rfl, hBa _ ⟨in64 (by omega), fun _ b11 => ?_⟩⟩
      refine Cl.put (k := 2) (xs := [r.val + 1]) (.inr rfl) ya oa (fun W k => ⟨k.1, k.2.1⟩) (by decide) (rows_blk rfl rfl) (by rw [la, List.length_append, List.length_append, flatK_len (.inl rfl)]; simp only [List.length_cons, List.length_nil]; omega) ?_
      intro W17 W18 pb nb cb gb Hb yb ob kb hBb
      replace kb : H.le Hb := kb H ka fun b h => old_none hH (oa b h)
      refine ⟨pb, nb, cb, rfl, hBb _ ⟨in64 (by omega), fun _ => ⟨by omega, fun _ => ⟨by omega, fun _ => ⟨by omega, fun _ => ?_⟩⟩⟩⟩⟩
      rw [show ((j : Int) + 1).toNat = j + 1 by omega]
      refine ⟨⟨gb, by omega, kb, ?_, ob⟩, by simp only; omega⟩
      rw [map0, take_flat encR hr]
      have : mid ++ (x.kept.take j).flatMap encR ++ [r.seq].flatMap (beK 1) ++ [r.val + 1].flatMap (beK 2) = mid ++ ((x.kept.take j).flatMap encR ++ encR r) := by simp [encR, beK, be2]
      rw [← this]
      exact yb
    · have hjm : j = m := by omega
      subst hjm
      rw [List.take_of_length_le (by omega), hmid] at y9
      refine ⟨in64 (by omega), fun _ => ⟨by omega, fun _ => ⟨by omega, fun _ => ⟨by omega, fun _ => ?_⟩⟩⟩⟩
      rw [show ((i : Int) + 1).toNat = i + 1 by omega]
      exact ⟨⟨g9, by omega, hle2, by rw [map0]; exact y9, o9⟩, by simp only; omega⟩
  · have hin : i = n := by omega
    rw [List.take_of_length_le (by omega), ← henc] at y5
    intro Wz nz _
    exact ⟨_, _, ek_bytes_str y5.rows nz.sub, Ext.refl _, Rt.gv⟩
end Go.Proofs.Ytoilhpkclabhoaa
namespace Go.Proofs.Ytoilhpkclabhoaa
open Go.RowKit

theorem c_twoBytes (n : Int) (h0 : 0 ≤ n) (h1 : n ≤ 65535) (H : Hp) : Gf Try.prog 46 #[vi n] H fun v D => ∃ p c, v = vsl p 2 c ∧ Bs D p 2 (be2 n) := fun W hH => by
  refine x_twoBytes n noM H W _ hH fun W1 n1 _ => ⟨_, _, ek_bquo _ _ n h0 (by omega), Ext.refl _, fun W2 n2 _ => ⟨_, _, ek_brem _ _ n h0, Ext.refl _, fun b0 W3 n3 k3 => ?_⟩⟩
  have hk := k3.1
  refine ⟨_, addH noH b0 (.cells #[.int .u8 (IntKind.wrap .u8 (n / 256)), .int .u8 (IntKind.wrap .u8 (n % 256))] 5 (0, 0)), rfl, n3.ext, addH_le (noH_le _) hk.eq, fun b o hb => ?_, some (b0, 0), 2, rfl, Rows.block (addH_at ..) rfl (fun r hr => (brows_wid _ r hr).1) ?_⟩
  · unfold addH at hb
    split at hb
    · rename_i h
      subst h
      exact hk.own.resolve_right (fun h => h)
    · cases hb
  · rw [flat_b, wrap8, wrap8, b8_mod (n % 256) n (by omega)]
    rfl
theorem OldP.of {H : Hp} {W : World} (hH : H.le (hpOf W)) {q : Option Loc} {off : Int} {cs : List Value} (h : RowAt H q off cs) : OldP W noM q := by
  obtain ⟨b, o, h1, C, T, fz, h2, _⟩ := h
  exact ⟨b, o, h1, heap_lt (hH b _ h2), fun h => h⟩
theorem grown_own {W W1 : World} {g g' : Option Nat} (hg : ∀ b, g = some b → W.heap.size ≤ b) (h : g' = g ∨ g' = some W1.heap.size) (hs : W.heap.size ≤ W1.heap.size) : ∀ b, g' = some b → W.heap.size ≤ b := fun b hb => by
  rcases h with h | h
  · exact hg b (h ▸ hb)
  · rw [h] at hb; simp only [Option.some.injEq] at hb; omega
theorem By.mono {H K : Hp} {p : Option Loc} {n c : Nat} {l : List UInt8} {g : Option Nat} (h : By H p n c l g) (hk : H.le K) : By K p n c l g := Ow.mono h fun b _ o ho => hk b o ho
set_option maxHeartbeats 1000000 in
theorem c_stateBytes {H : Hp} {p : Option Loc} {n c : Nat} {s : Sta} (hT : Tab H p n c s.table) (hok : StOk s) : Gv Try.prog 24 #[s.val (vsl p n c)] H (.string (bs (encT s))) := fun W hH => by
  have hlen := hT.len
  have ht3 := hok.table.len
  have hcl := hok.clock
  have hv := (V4.ok_iff _).1 hok.vals
  refine x_stateBytes _ _ _ _ _ _ p n c noM H W _ hH fun b0 => ?_
  refine Cl.fresh (c_twoBytes s.clock (by omega) (by omega) H) ?_
  rintro v W1 W2 D1 ⟨q1, d1, rfl, B1⟩ hx hD hf n1
  refine ⟨q1, 2, d1, rfl, hx, D1, hD, hf, fun H1 le1 hD1 b1 W3 n3 k3 => ?_⟩
  have hk3 := k3.1
  rw [wrap8] at hk3
  obtain ⟨p2, c2, g2, W4, H2, run2, hu2, y2, hg2⟩ := by_appendK (l := [b8 s.pos]) n3.sub hk3.eq hk3.off (B1.mono hD1) (c2 := d1) (by omega) (by simp) 71
  have o2 : ∀ b, g2 = some b → W.heap.size ≤ b := fun b hb => by rw [hg2] at hb; simp only [Option.some.injEq] at hb; have := n3.mod.size; omega
  have k2 : H.le H2 := hu2.keep n3.sub le1 fun b h => by cases h
  refine ⟨p2, _, c2, W4, run2, H2, hu2.turned (fun b hb => by cases hb), ?_⟩
  refine Cl.fresh (c_twoBytes s.vals.a (by omega) (by omega) H2) ?_
  rintro v W5 W6 D2 ⟨q2, d2, rfl, B2⟩ hx hD hf n5
  refine ⟨q2, 2, d2, rfl, hx, D2, hD, hf, fun H3 le3 hD3 W7 n7 _ => ?_⟩
  obtain ⟨p3, c3, g3, W8, H4, run3, hu3, y3, hg3⟩ := by_appendB n7.sub (y2.mono le3) (B2.mono hD3) (c2 := d2) (by simp) 71
  have o3 := grown_own o2 hg3 n7.mod.size
  have k3 : H.le H4 := hu3.keep n7.sub (Hp.le_trans k2 le3) fun b h => old_none hH (o2 b h)
  refine ⟨p3, _, c3, W8, run3, H4, hu3.own (y2.mono le3) (fun b hb => .inl (o2 b hb)), ?_⟩
  refine Cl.fresh (c_twoBytes s.vals.b (by omega) (by omega) H4) ?_
  rintro v W9 W10 D3 ⟨q3, d3, rfl, B3⟩ hx hD hf n9
  refine ⟨q3, 2, d3, rfl, hx, D3, hD, hf, fun H5 le5 hD5 W11 n11 _ => ?_⟩
  obtain ⟨p4, c4, g4, W12, H6, run4, hu4, y4, hg4⟩ := by_appendB n11.sub (y3.mono le5) (B3.mono hD5) (c2 := d3) (by simp) 71
  have o4 := grown_own o3 hg4 n11.mod.size
  have k4 : H.le H6 := hu4.keep n11.sub (Hp.le_trans k3 le5) fun b h => old_none hH (o3 b h)
  refine ⟨p4, _, c4, W12, run4, H6, hu4.own (y3.mono le5) (fun b hb => .inl (o3 b hb)), ?_⟩
  refine Cl.fresh (c_twoBytes s.vals.c (by omega) (by omega) H6) ?_
  rintro v W13 W14 D4 ⟨q4, d4, rfl, B4⟩ hx hD hf n13
  refine ⟨q4, 2, d4, rfl, hx, D4, hD, hf, fun H7 le7 hD7 W15 n15 _ => ?_⟩
  obtain ⟨p5, c5, g5, W16, H8, run5, hu5, y5, hg5⟩ := by_appendB n15.sub (y4.mono le7) (B4.mono hD7) (c2 := d4) (by simp) 71
  have o5 := grown_own o4 hg5 n15.mod.size
  have k5 : H.le H8 := hu5.keep n15.sub (Hp.le_trans k4 le7) fun b h => old_none hH (o4 b h)
  refine ⟨p5, _, c5, W16, run5, H8, hu5.own (y4.mono le7) (fun b hb => .inl (o4 b hb)), ?_⟩
  refine Cl.fresh (c_twoBytes s.vals.d (by omega) (by omega) H8) ?_
  rintro v W17 W18 D5 ⟨q5, d5, rfl, B5⟩ hx hD hf n17
  refine ⟨q5, 2, d5, rfl, hx, D5, hD, hf, fun H9 le9 hD9 W19 n19 _ => ?_⟩
  obtain ⟨p6, c6, g6, W20, H10, run6, hu6, y6, hg6⟩ := by_appendB n19.sub (y5.mono le9) (B5.mono hD9) (c2 := d5) (by simp) 71
  have o6 := grown_own o5 hg6 n19.mod.size
  have k6 : H.le H10 := hu6.keep n19.sub (Hp.le_trans k5 le9) fun b h => old_none hH (o5 b h)
  refine ⟨p6, _, c6, W20, run6, H10, hu6.own (y5.mono le9) (fun b hb => .inl (o5 b hb)), by omega, fun _ b2 W21 n21 k21 => ?_⟩
  have hk21 := k21.1
  rw [wrap8] at hk21
  obtain ⟨p7, c7, g7, W22, H11, run7, hu7, y7, hg7⟩ := by_append (m := [b8 (n : Int)]) n21.sub y6 hk21.eq hk21.off (by simp) 71
  have o7 := grown_own o6 hg7 n21.mod.size
  have k7 : H.le H11 := hu7.keep n21.sub k6 fun b h => old_none hH (o6 b h)
  refine ⟨p7, _, c7, W22, run7, H11, hu7.own y6 (fun b hb => .inl (o6 b hb)), by omega, fun _ => ⟨by omega, fun _ => ?_⟩⟩
  generalize hh : [b8 s.pos] ++ be2 s.clock ++ be2 s.vals.a ++ be2 s.vals.b ++ be2 s.vals.c ++ be2 s.vals.d ++ [b8 (n : Int)] = hdr at y7
  have henc : encT s = hdr ++ s.table.flatMap encS := by
    rw [← hh, hlen]
    rfl
  have hhl : hdr.length = 12 := by rw [← hh]; rfl
  have htl : ∀ i, ((s.table.take i).flatMap encS).length ≤ 42 := fun i => by
    have h1 := flat_len3 (e := encS) (m := 14) (xs := s.table.take i) (fun x hx => encS_len (hok.table.one x (List.mem_of_mem_take hx)))
    have h2 : (s.table.take i).length ≤ 3 := by rw [List.length_take]; omega
    omega
  refine ⟨fun v K => match v with | [.n i, .p p, .n n', .n c] => ∃ g, i ≤ n ∧ H.le K ∧ By K p n' c (hdr ++ (s.table.take i).flatMap encS) g ∧ (∀ b, g = some b → W.heap.size ≤ b) | _ => False, fun v => match v with | [.n i, _, _, _] => n - i | _ => 0,
    ⟨g7, by omega, k7, by rw [map0]; simpa using y7, o7⟩, fun K i pa na ca hI => ?_⟩
  obtain ⟨ga, hi, hle, ya, oa⟩ := hI
  rw [map0] at ya
  have la := ya.len
  refine ⟨fun hlt => ?_, fun hge => ?_⟩
  · obtain ⟨x, q, m, d, hs, hq, hat⟩ := hT.at (k := i) (by omega)
    have hat0 := ((hat (0 + (i : Int) * 4) (by omega)).1).mono hle
    have hxok := hok.table.one x (List.mem_of_getElem? hs)
    have hql := hq.len
    have hq3 := kept_len3 hxok
    obtain ⟨_, r2, r3, hkr⟩ := Ses.err_ok hxok
    have hil := htl i
    refine ⟨⟨by omega, hlt⟩, fun _ => ⟨hat0.isSome, fun _ => ⟨_, _, _, q, m, d, hat0, fun b3 => ⟨by omega, fun _ b4 Wa n' k' => ?_⟩⟩⟩⟩
    have hka := k'.1
    rw [wrap8, wrap8] at hka
    obtain ⟨pb, cb, gb, Wb, Hb, runb, hub, yb, hgb⟩ := by_append (m := [b8 x.client, b8 x.acked]) n'.sub ya hka.eq hka.off (by rw [la, List.length_append]; simp only [List.length_cons, List.length_nil]; omega) 71
    have lb := yb.len
    have ob := grown_own oa hgb n'.mod.size
    have kb : H.le Hb := hub.keep n'.sub hle fun b h => old_none hH (oa b h)
    refine ⟨pb, _, cb, Wb, runb, Hb, hub.own ya (fun b hb => .inl (oa b hb)), ?_⟩
    refine Cl.fresh (c_twoBytes x.seen (by omega) (by omega) Hb) ?_
    rintro v Wc Wd D6 ⟨q6, d6, rfl, B6⟩ hx hD hf nc
    refine ⟨q6, 2, d6, rfl, hx, D6, hD, hf, fun Hc lec hDc We ne _ => ?_⟩
    obtain ⟨pd, cd, gd, Wf, Hd, rund, hud, yd, hgd⟩ := by_appendB ne.sub (yb.mono lec) (B6.mono hDc) (c2 := d6) (by rw [lb, List.length_append, List.length_append]; simp only [List.length_cons, List.length_nil]; omega) 71
    have ld := yd.len
    have od := grown_own ob hgd ne.mod.size
    have kd : H.le Hd := hud.keep ne.sub (Hp.le_trans kb lec) fun b h => old_none hH (ob b h)
    refine ⟨pd, _, cd, Wf, rund, Hd, hud.own (yb.mono lec) (fun b hb => .inl (ob b hb)), fun b5 Wg ng kg => ?_⟩
    have hkg := kg.1
    rw [wrap8] at hkg
    obtain ⟨pe, ce, ge, Wh, He, rune, hue, ye, hge'⟩ := by_append (m := [b8 (m : Int)]) ng.sub yd hkg.eq hkg.off (by rw [ld, List.length_append, List.length_append, List.length_append]; simp only [be2, List.length_cons, List.length_nil]; omega) 71
    have oe := grown_own od hge' ng.mod.size
    have ke : H.le He := hue.keep ng.sub kd fun b h => old_none hH (od b h)
    refine ⟨pe, _, ce, Wh, rune, He, hue.own yd (fun b hb => .inl (od b hb)), by omega, fun _ => ⟨by omega, fun _ => ?_⟩⟩
    generalize hmm : hdr ++ (s.table.take i).flatMap encS ++ [b8 x.client, b8 x.acked] ++ be2 x.seen ++ [b8 (m : Int)] = mid at ye
    have hml : mid.length ≤ 59 := by
      rw [← hmm]
      simp only [List.length_append, be2, List.length_cons, List.length_nil]
      omega
    have hmid : mid ++ x.kept.flatMap encR = hdr ++ (s.table.take (i + 1)).flatMap encS := by
      rw [take_flat encS hs, ← hmm, hql]
      simp [encS, be2]
    have hkl : ∀ j, ((x.kept.take j).flatMap encR).length ≤ 9 := fun j => by
      have h1 := flat_len3 (e := encR) (m := 3) (xs := x.kept.take j) (fun y _ => by simp [encR, be2])
      have h2 : (x.kept.take j).length ≤ 3 := by rw [List.length_take]; omega
      omega
    refine ⟨fun v K => match v with | [.n j, .p p, .n n', .n c] => ∃ g, j ≤ m ∧ H.le K ∧ By K p n' c (mid ++ (x.kept.take j).flatMap encR) g ∧ (∀ b, g = some b → W.heap.size ≤ b) | _ => False, fun v => match v with | [.n j, _, _, _] => m - j | _ => 0,
      ⟨ge, by omega, ke, by rw [map0]; simpa using ye, oe⟩, fun K2 j p9 n9 c9 hI2 => ?_⟩
    obtain ⟨g9, hj, hle2, y9, o9⟩ := hI2
    rw [map0] at y9
    have l9 := y9.len
    have hjl := hkl j
    refine ⟨fun hlt2 => ?_, fun hge2 => ?_⟩
    · obtain ⟨r, hr, hatr⟩ := hq.at (k := j) (by omega)
      obtain ⟨ha0, ha1, ha2⟩ := hatr (0 + (j : Int) * 2) (by omega)
      have hold := OldP.of hH ha1
      obtain ⟨rr1, rr2⟩ := kept_range hkr (by omega) r (List.mem_of_getElem? hr)
      refine ⟨⟨by omega, hlt2⟩, fun _ => ⟨ha1.isSome, fun _ => ⟨_, ha1.mono hle2, by omega, fun _ => ⟨hold, _, ha2.mono hle2, in64 (by omega), fun _ b6 Wi ni ki => ?_⟩⟩⟩⟩
      have hki := ki.1
      rw [wrap8] at hki
      obtain ⟨pf, cf, gf, Wj, Hf, runf, huf, yf, hgf⟩ := by_append (m := [b8 r.seq]) ni.sub y9 hki.eq hki.off (by rw [l9, List.length_append]; simp only [List.length_cons, List.length_nil]; omega) 71
      have lf := yf.len
      have of_ := grown_own o9 hgf ni.mod.size
      have kf : H.le Hf := huf.keep ni.sub hle2 fun b h => old_none hH (o9 b h)
      refine ⟨pf, _, cf, Wj, runf, Hf, huf.own y9 (fun b hb => .inl (o9 b hb)), ?_⟩
      refine Cl.fresh (c_twoBytes (r.val + 1) (by omega) (by omega) Hf) ?_
      rintro v Wk Wl D7 ⟨q7, d7, rfl, B7⟩ hx hD hf nk
      refine ⟨q7, 2, d7, rfl, hx, D7, hD, hf, fun Hg leg hDg Wm nm _ => ?_⟩
      obtain ⟨ph, ch, gh, Wn, Hh, runh, huh, yh, hgh⟩ := by_appendB nm.sub (yf.mono leg) (B7.mono hDg) (c2 := d7) (by rw [lf, List.length_append, List.length_append]; simp only [List.length_cons, List.length_nil]; omega) 71
      have oh := grown_own of_ hgh nm.mod.size
      have kh : H.le Hh := huh.keep nm.sub (Hp.le_trans kf leg) fun b h => old_none hH (of_ b h)
      refine ⟨ph, _, ch, Wn, runh, Hh, huh.own (yf.mono leg) (fun b hb => .inl (of_ b hb)), in64 (by omega), fun _ => ⟨by omega, fun _ => ⟨by omega, fun _ => ⟨by omega, fun _ => ?_⟩⟩⟩⟩
      rw [show ((j : Int) + 1).toNat = j + 1 by omega]
      refine ⟨⟨gh, by omega, kh, ?_, oh⟩, by simp only; omega⟩
      rw [map0, take_flat encR hr]
      have : mid ++ (x.kept.take j).flatMap encR ++ [b8 r.seq] ++ be2 (r.val + 1) = mid ++ ((x.kept.take j).flatMap encR ++ encR r) := by simp [encR, be2]
      rw [← this]
      exact yh
    · have hjm : j = m := by omega
      subst hjm
      rw [List.take_of_length_le (by omega), hmid] at y9
      refine ⟨in64 (by omega), fun _ => ⟨by omega, fun _ => ⟨by omega, fun _ => ⟨by omega, fun _ => ?_⟩⟩⟩⟩
      rw [show ((i : Int) + 1).toNat = i + 1 by omega]
      exact ⟨⟨g9, by omega, hle2, by rw [map0]; exact y9, o9⟩, by simp only; omega⟩
  · have hin : i = n := by omega
    rw [List.take_of_length_le (by omega), ← henc] at ya
    intro Wz nz _
    exact ⟨_, _, ek_bytes_str ya.rows nz.sub, Ext.refl _, Rt.gv⟩
end Go.Proofs.Ytoilhpkclabhoaa
namespace Go.Proofs.Ytoilhpkclabhoaa
open Go.RowKit

theorem e1_rng (l : List UInt8) : 0 ≤ (e1 l).1 ∧ (e1 l).1 ≤ 255 := by
  cases l with
  | nil => simp [e1]
  | cons b l => have := b.toNat_lt; simp only [e1]; omega
theorem e2_rng (l : List UInt8) : 0 ≤ (e2 l).1 ∧ (e2 l).1 ≤ 65535 := by
  have h1 := e1_rng l
  have h2 := e1_rng (e1 l).2
  simp only [e2]
  omega
section
variable {H : Hp} {b0 : Nat} {l : List UInt8}
theorem c_e1 : Gg Try.prog 48 #[.pointer (some ⟨b0, 0, none⟩)] H b0 84 (gl l) (fun v C _ => C = gl (e1 l).2 ∧ v = vi (e1 l).1) False := fun W hH h0 hn => by
  refine x_earByte (bs l) b0 (fun b => b = b0) H W _ hH ⟨h0, rfl, hn⟩ fun W1 n1 _ => ⟨_, _, ek_str_eq _ _ l [], Ext.refl _, fun hz => ?_, fun hz => ?_⟩
  · have hl : l = [] := by simpa using hz
    subst hl
    exact Rt.gg (fun W k => k.1.eq) ⟨rfl, rfl⟩
  · cases l with
    | nil => simp at hz
    | cons b r =>
      have := b.toNat_lt
      refine fun W2 n2 _ => ⟨_, _, ek_idx0 b r, Ext.refl _, in64 (by omega), fun _ W3 n3 _ => ⟨_, _, ek_from (b :: r) 1 (by simp), Ext.refl _, Rt.gg (fun W k => k.1.eq) ⟨rfl, rfl⟩⟩⟩
theorem c_e2 : Gg Try.prog 49 #[.pointer (some ⟨b0, 0, none⟩)] H b0 84 (gl l) (fun v C _ => C = gl (e2 l).2 ∧ v = vi (e2 l).1) False := fun W hH h0 hn => by
  have r1 := e1_rng l
  have r2 := e1_rng (e1 l).2
  refine x_earTwo (bs l) b0 (fun b => b = b0) H W _ hH ⟨h0, rfl, hn⟩ ?_
  refine Cl.gg c_e1 (fun W k => k.1) ?_
  rintro v W1 W2 C D ⟨rfl, rfl⟩ hb n h1 h2
  refine ⟨_, _, rfl, hb.md ⟨in64 (by omega), fun _ => ?_⟩⟩
  refine Cl.gg c_e1 (fun W k => k.1) ?_
  rintro v W1 W2 C D ⟨rfl, rfl⟩ hb n h1 h2
  exact ⟨_, _, rfl, hb.md ⟨in64 (by omega), fun _ => Rt.gg (fun W k => k.1.eq) ⟨rfl, rfl⟩⟩⟩
end
theorem eN_more {α : Type} (p : List UInt8 → α × List UInt8) (n : Nat) (l : List UInt8) : eN p (n + 1) l = ((p l).1 :: (eN p n (p l).2).1, (eN p n (p l).2).2) := rfl
def postF (q : Sta × Bool) (v : Value) (D : Hp) : Prop := ∃ p n c, v = .tuple #[q.1.val (vsl p n c), vb q.2] ∧ Tab D p n c q.1.table
set_option maxHeartbeats 1000000 in
theorem c_stateFrom {H : Hp} {l : List UInt8} : Gf Try.prog 27 #[.string (bs l)] H (postF (sFrom l)) := fun W hH => by
  refine x_stateFrom (bs l) noM H W _ hH fun b0 b1 => ?_
  refine Cl.gg c_e1 (fun W k => k.1) ?_
  rintro v W1 W2 C D ⟨rfl, rfl⟩ hb n h1 h2
  refine ⟨_, _, rfl, hb.md fun b2 => ?_⟩
  refine Cl.gg c_e2 (fun W k => k.1) ?_
  rintro v W1 W2 C D ⟨rfl, rfl⟩ hb n h1 h2
  refine ⟨_, _, rfl, hb.md ?_⟩
  refine Cl.gg c_e2 (fun W k => k.1) ?_
  rintro v W1 W2 C D ⟨rfl, rfl⟩ hb n h1 h2
  refine ⟨_, _, rfl, hb.md ?_⟩
  refine Cl.gg c_e2 (fun W k => k.1) ?_
  rintro v W1 W2 C D ⟨rfl, rfl⟩ hb n h1 h2
  refine ⟨_, _, rfl, hb.md ?_⟩
  refine Cl.gg c_e2 (fun W k => k.1) ?_
  rintro v W1 W2 C D ⟨rfl, rfl⟩ hb n h1 h2
  refine ⟨_, _, rfl, hb.md ?_⟩
  refine Cl.gg c_e2 (fun W k => k.1) ?_
  rintro v W1 W2 C D ⟨rfl, rfl⟩ hb n h1 h2
  refine ⟨_, _, rfl, hb.md ?_⟩
  generalize hl6 : (e2 (e2 (e2 (e2 (e2 (e1 l).2).2).2).2).2).2 = l6
  have hr6 := e1_rng l6
  refine Cl.gg c_e1 (fun W k => k.1) ?_
  rintro v W1 W2 C D ⟨rfl, rfl⟩ hb n h1 h2
  refine ⟨_, _, rfl, hb.md ?_⟩
  generalize hN : (e1 l6).1 = N at hr6
  generalize hl7 : (e1 l6).2 = l7
  have hT : eT l = (⟨(e1 l).1, (e2 (e1 l).2).1, ⟨(e2 (e2 (e1 l).2).2).1, (e2 (e2 (e2 (e1 l).2).2).2).1, (e2 (e2 (e2 (e2 (e1 l).2).2).2).2).1, (e2 (e2 (e2 (e2 (e2 (e1 l).2).2).2).2).2).1⟩, (eN eS N.toNat l7).1⟩, (eN eS N.toNat l7).2) := by
    unfold eT eL
    simp only
    rw [hl6, hN, hl7]
  generalize (e1 l).1 = a0 at hT
  generalize (e2 (e1 l).2).1 = a1 at hT
  generalize (e2 (e2 (e1 l).2).2).1 = a2 at hT
  generalize (e2 (e2 (e2 (e1 l).2).2).2).1 = a3 at hT
  generalize (e2 (e2 (e2 (e2 (e1 l).2).2).2).2).1 = a4 at hT
  generalize (e2 (e2 (e2 (e2 (e2 (e1 l).2).2).2).2).2).1 = a5 at hT
  refine ⟨fun v K => match v with
      | [.i j, .s s, .i x0, .i x1, .i x2, .i x3, .i x4, .i x5, .p p, .n n, .n c] => ∃ (acc : List Ses) (rows : List (List Value)) (rest : List UInt8) (g : Option Nat), 0 ≤ j ∧ (n : Int) + j = N ∧ H.le K ∧ s = bs rest ∧ (x0 = a0 ∧ x1 = a1 ∧ x2 = a2 ∧ x3 = a3 ∧ x4 = a4 ∧ x5 = a5) ∧ Ow K 59 4 p n c rows g ∧ All2 (SesRow (Go.Proofs.Ytoilhpkclabhoaa.rest W g K)) rows acc ∧ (∀ b, g = some b → W.heap.size ≤ b) ∧ eN eS N.toNat l7 = (acc ++ (eN eS j.toNat rest).1, (eN eS j.toNat rest).2)
      | _ => False,
    fun v => match v with | .i j :: _ => j.toNat | _ => 0, ⟨[], [], l7, none, by omega, by omega, Hp.le_refl H, rfl, ⟨rfl, rfl, rfl, rfl, rfl, rfl⟩, Ow.nil _ _ _ _, .nil, fun b h => (by cases h), by simp⟩, fun K j s x0 x1 x2 x3 x4 x5 p n c hI => ?_⟩
  obtain ⟨acc, rows, rest, g, hj, hnj, hle, rfl, ⟨rfl, rfl, rfl, rfl, rfl, rfl⟩, ho, ha, hg, hf⟩ := hI
  rw [map0] at ho
  refine ⟨fun hlt => ?_, fun hge => ?_⟩
  · refine Cl.gg c_e1 (fun W k => k.1) ?_
    rintro v W1 W2 C D ⟨rfl, rfl⟩ hb n1 h1 h2
    refine ⟨_, _, rfl, hb.md fun b3 => ?_⟩
    refine Cl.gg c_e1 (fun W k => k.1) ?_
    rintro v W1 W2 C D ⟨rfl, rfl⟩ hb n1 h1 h2
    refine ⟨_, _, rfl, hb.md ?_⟩
    refine Cl.gg c_e2 (fun W k => k.1) ?_
    rintro v W1 W2 C D ⟨rfl, rfl⟩ hb n1 h1 h2
    refine ⟨_, _, rfl, hb.md ?_⟩
    generalize hl3 : (e2 (e1 (e1 rest).2).2).2 = l3
    have hr3 := e1_rng l3
    refine Cl.gg c_e1 (fun W k => k.1) ?_
    rintro v W1 W2 C D ⟨rfl, rfl⟩ hb n1 h1 h2
    refine ⟨_, _, rfl, hb.md ?_⟩
    generalize hN2 : (e1 l3).1 = N2 at hr3
    generalize hl4 : (e1 l3).2 = l4
    have hS : eS rest = (⟨(e1 rest).1, (e1 (e1 rest).2).1, (e2 (e1 (e1 rest).2).2).1, (eN eR N2.toNat l4).1⟩, (eN eR N2.toNat l4).2) := by
      unfold eS eK
      simp only
      rw [hl3, hN2, hl4]
    generalize (e1 rest).1 = y0 at hS
    generalize (e1 (e1 rest).2).1 = y1 at hS
    generalize (e2 (e1 (e1 rest).2).2).1 = y2 at hS
    refine ⟨fun v K2 => match v with
        | [.i i, .s s, .i z0, .i z1, .i z2, .p q, .n m, .n d] => ∃ (acc2 : List Rep) (rest2 : List UInt8) (g2 : Option Nat), 0 ≤ i ∧ (m : Int) + i = N2 ∧ K.le K2 ∧ s = bs rest2 ∧ (z0 = y0 ∧ z1 = y1 ∧ z2 = y2) ∧ Ow K2 67 2 q m d (acc2.map Rep.row) g2 ∧ (∀ b, g2 = some b → W.heap.size ≤ b ∧ K b = none) ∧ eN eR N2.toNat l4 = (acc2 ++ (eN eR i.toNat rest2).1, (eN eR i.toNat rest2).2)
        | _ => False,
      fun v => match v with | .i i :: _ => i.toNat | _ => 0, ⟨[], l4, none, by omega, by omega, Hp.le_refl K, rfl, ⟨rfl, rfl, rfl⟩, Ow.nil _ _ _ _, fun b h => (by cases h), by simp⟩, fun K2 i s z0 z1 z2 q m d hI2 => ?_⟩
    obtain ⟨acc2, rest2, g2, hi, hmi, hle2, rfl, ⟨rfl, rfl, rfl⟩, ho2, hg2, hf2⟩ := hI2
    rw [map0] at ho2
    refine ⟨fun hlt2 => ?_, fun hge2 => ?_⟩
    · obtain ⟨i', hi'⟩ : ∃ i' : Nat, i.toNat = i' + 1 := ⟨i.toNat - 1, by omega⟩
      rw [hi', eN_more] at hf2
      have hR : eR rest2 = (⟨(e1 rest2).1, (e2 (e1 rest2).2).1 - 1⟩, (e2 (e1 rest2).2).2) := rfl
      rw [hR] at hf2
      have hrr := e2_rng (e1 rest2).2
      refine Cl.gg c_e1 (fun W k => k.1) ?_
      rintro v W1 W2 C D ⟨rfl, rfl⟩ hb n1 h1 h2
      refine ⟨_, _, rfl, hb.md fun b4 => ?_⟩
      refine Cl.gg c_e2 (fun W k => k.1) ?_
      rintro v W1 W2 C D ⟨rfl, rfl⟩ hb n1 h1 h2
      refine ⟨_, _, rfl, hb.md ⟨in64 (by omega), fun _ b5 W5 n5 k5 => ?_⟩⟩
      generalize (e1 rest2).1 = w0 at hf2 k5
      generalize (e2 (e1 rest2).2).1 = w1 at hf2 k5
      obtain ⟨p', c', g', W6, K3, hrun, hu, ho3, hg3, _⟩ := run_append1 Try.underlying57 infoRep (by omega) n5.sub ho2 (row := (⟨w0, w1 - 1⟩ : Rep).row) k5.1.eq k5.1.off rfl (fun v hv => by simp only [Rep.row, List.mem_cons, List.not_mem_nil, or_false] at hv; rcases hv with rfl | rfl <;> rfl) (by simp only [maxLen]; omega) (by omega) 57
      refine ⟨_, _, _, _, hrun, K3, hu.own ho2 (fun b hb => .inl (hg2 b hb).1), in64 (by omega), fun _ => ⟨by omega, fun _ => ⟨by omega, fun _ => ?_⟩⟩⟩
      refine ⟨⟨acc2 ++ [⟨w0, w1 - 1⟩], _, g', by omega, by omega, hu.keep n5.sub hle2 (fun b hb => (hg2 b hb).2), rfl, ⟨rfl, rfl, rfl⟩, ?_, fun b hb => ?_, ?_⟩, by simp only; omega⟩
      · rw [map0, List.map_append]; exact ho3
      · rcases hg3 with h | h
        · exact hg2 b (h ▸ hb)
        · rw [h] at hb; simp only [Option.some.injEq] at hb
          have := n5.mod.size
          refine ⟨by omega, le_none hle2 ?_⟩
          cases hh : K2 b with
          | none => rfl
          | some o => have := heap_lt (n5.sub b o hh); omega
      · rw [show (i - 1).toNat = i' by omega, hf2]
        simp
    · have hi0 : i = 0 := by omega
      subst hi0
      simp only [Int.toNat_zero, eN, List.append_nil] at hf2
      rw [hf2] at hS
      intro b4 W5 n5 k5
      have hne : ∀ b, g2 = some b → g ≠ some b := fun b h h' => by
        obtain ⟨o, h3⟩ := ho.held b h'
        rw [(hg2 b h).2] at h3
        cases h3
      have hK1 : Kept (Go.Proofs.Ytoilhpkclabhoaa.rest W g K2) q m d acc2 := Kept.of_ow (Ow.mono ho2 fun b hb o h => by
        unfold Go.Proofs.Ytoilhpkclabhoaa.rest
        rw [if_pos ⟨(hg2 b hb).1, hne b hb⟩]
        exact h)
      have ho1 : Ow K2 59 4 p n c rows g := ho.mono fun b _ o h => hle2 b o h
      obtain ⟨j', hj'⟩ : ∃ j' : Nat, j.toNat = j' + 1 := ⟨j.toNat - 1, by omega⟩
      rw [hj', eN_more, hS] at hf
      obtain ⟨p', c', g', W6, K3, hrun, hu, ho3, hg3, _⟩ := run_append1 Try.underlying23 infoSes (by omega) n5.sub ho1 (row := [vi z0, vi z1, vi z2, vsl q m d]) k5.1.eq k5.1.off rfl (fun v hv => by simp only [List.mem_cons, List.not_mem_nil, or_false] at hv; rcases hv with rfl | rfl | rfl | rfl <;> rfl) (by simp only [maxLen]; omega) (by omega) 23
      refine ⟨_, _, _, _, hrun, K3, hu.own ho1 (fun b hb => .inl (hg b hb)), in64 (by omega), fun _ => ⟨by omega, fun _ => ⟨by omega, fun _ => ?_⟩⟩⟩
      have hst : (Go.Proofs.Ytoilhpkclabhoaa.rest W g K2).le (Go.Proofs.Ytoilhpkclabhoaa.rest W g' K3) := fun b o hb => by
        have h6 := rest_upd W hu n5.sub b o hb
        have hlt : b < W5.heap.size := heap_lt (n5.sub b o (rest_le _ _ _ b o hb))
        unfold Go.Proofs.Ytoilhpkclabhoaa.rest at h6 ⊢
        split at h6
        · rename_i h7
          have hne : g' ≠ some b := fun h8 => by
            rcases hg3 with h9 | h9
            · exact h7.2 (h9 ▸ h8)
            · rw [h9] at h8; simp only [Option.some.injEq] at h8; omega
          rw [if_pos ⟨h7.1, hne⟩]
          exact h6
        · cases h6
      refine ⟨⟨acc ++ [⟨z0, z1, z2, acc2⟩], rows ++ [[vi z0, vi z1, vi z2, vsl q m d]], rest2, g', by omega, by omega, hu.keep n5.sub (Hp.le_trans hle hle2) (fun b hb => old_none hH (hg b hb)), rfl, ⟨rfl, rfl, rfl, rfl, rfl, rfl⟩, ?_, ?_, fun b hb => ?_, ?_⟩, by simp only; omega⟩
      · rw [map0]; exact ho3
      · refine All2.append ((ha.mono fun _ _ h => h.mono (rest_mono W g hle2)).mono fun _ _ h => h.mono hst) (.one ⟨q, m, d, rfl, hK1.mono hst⟩)
      · rcases hg3 with h | h
        · exact hg b (h ▸ hb)
        · rw [h] at hb; simp only [Option.some.injEq] at hb; have := n5.mod.size; omega
      · rw [show (j - 1).toNat = j' by omega, hf]
        simp
  · have hj0 : j = 0 := by omega
    subst hj0
    simp only [Int.toNat_zero, eN, List.append_nil] at hf
    rw [hf] at hT
    simp only at hT
    have hTab : Tab K p n c acc := ⟨ho.2.2.1, ho.2.2.2.1, rows, ho.rows, ha.mono fun _ _ h => h.mono (rest_le W g K)⟩
    have hTabN : Tab (newer W K) p n c acc := ⟨ho.2.2.1, ho.2.2.2.1, rows, (ho.new hg).rows, ha.mono fun _ _ h => h.mono (rest_newer W g K)⟩
    have hs := sFrom_eq l
    rw [hT] at hs
    simp only at hs
    have bad : sFrom l = (Sta.zero, false) → Rt (RGf W (postF (sFrom l))) W noM K nK (Value.tuple #[Value.agg #[vi 0, vi 0, vi 0, vi 0, vi 0, vi 0, Value.slice none 0 0], vb false]) := fun h => by
      rw [h]
      exact Rt.gf (D := noH) (noH_le _) (fun b o h => by cases h) ⟨none, 0, 0, rfl, Nat.le_refl _, by simp [maxLen], [], Rows.nil _ _ _, .nil⟩
    refine Cl.same (c_stErr (s := ⟨x0, x1, ⟨x2, x3, x4, x5⟩, acc⟩) hTab) fun _ _ hx => ⟨_, rfl, hx, fun h4 => ?_, fun h4 => ?_⟩
    · rw [if_pos h4] at hs
      refine Cl.same (c_stateBytes (s := ⟨x0, x1, ⟨x2, x3, x4, x5⟩, acc⟩) hTab (Sta.err_ok.1 h4)) fun _ _ hx => ⟨_, rfl, hx, fun W5 n5 _ => ⟨_, _, ek_str_ne _ _ _ _, Ext.refl _, fun h5 => bad ?_, fun h5 => ?_⟩⟩
      · rw [hs, if_neg (by simpa using h5)]
      · rw [hs, if_pos (by simpa using h5)]
        exact Rt.gf (newer_le W K) (newer_new W K) ⟨p, n, c, rfl, hTabN⟩
    · exact bad (by rw [hs, if_neg h4])
end Go.Proofs.Ytoilhpkclabhoaa
