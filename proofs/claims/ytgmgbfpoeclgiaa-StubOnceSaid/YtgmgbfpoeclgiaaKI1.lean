/- Symbolic runs of functions: what each leaves to prove is enough for its call. Printed by a program of ours. No conditions. Lists of ints in memory: what it is, are they the same, a copy, where one lies. No conditions. -/
import Derived.Test.YtgmgbfpoeclgiaaKE3
import Derived.Test.YtgmgbfpoeclgiaaProg
import Derived.Test.YtgmgbfpoeclgiaaKE4
import Derived.Test.YtgmgbfpoeclgiaaKD1
set_option linter.unusedVariables false
set_option linter.unusedSimpArgs false
namespace Go.Proofs.Ytgmgbfpoeclgiaa
open Go.RowKit
set_option maxRecDepth 100000
set_option maxHeartbeats 4000000
def v_sameInts : VC :=
(.chk (.le (.k 0) (.v 1))
(.chk (.le (.k 0) (.v 4))
(.ite (.eq (.v 1) (.v 4))
(.loop [(6, .n)] [.n (.k 0)] [.n (.v 6)]
(.ite (.lt (.v 6) (.v 1))
(.chk (.idx (.v 6) (.v 1))
(.chk (.isp 0)
(.ld 0 (.add (.k 0) (.mul (.v 6) (.k 1))) [.int .i64 (.v 7)] [(7, .i)]
(.chk (.idx (.v 6) (.v 4))
(.chk (.isp 3)
(.ld 3 (.add (.k 0) (.mul (.v 6) (.k 1))) [.int .i64 (.v 8)] [(8, .i)]
(.ite (.eq (.v 7) (.v 8))
(.chk (.rng .i64 (.add (.v 6) (.k 1)))
(.chk (.le (.k 0) (.add (.v 6) (.k 1)))
(.back 0 [.n (.add (.v 6) (.k 1))])))
(.ret (.bool (.k false)) []))))))))
(.ret (.bool (.k true)) [])))
(.ret (.bool (.k false)) []))))
theorem x_sameInts (x0 : Option Loc) (x1 : Nat) (x2 : Nat) (x3 : Option Loc) (x4 : Nat) (x5 : Nat) (M : Nat → Prop) (H0 : Hp) (W0 : World) (R : Ending → World → Prop) (hH : H0.le (hpOf W0)) (h :
 (0 ≤ (x1 : Int) ∧ (0 ≤ (x1 : Int) →
 (0 ≤ (x4 : Int) ∧ (0 ≤ (x4 : Int) →
 (((x1 : Int) = (x4 : Int) →
  (∃ (I0 : List Dat → Hp → Prop) (μ0 : List Dat → Nat), I0 [.n 0] H0 ∧ ∀ H1 : Hp, ∀ x6 : Nat, I0 [.n x6] H1 →
   (((x6 : Int) < (x1 : Int) →
    (((0 : Int) ≤ (x6 : Int) ∧ (x6 : Int) < (x1 : Int)) ∧ (((0 : Int) ≤ (x6 : Int) ∧ (x6 : Int) < (x1 : Int)) →
    (x0.isSome = true ∧ (x0.isSome = true →
    (∃ x7 : Int, RowAt H1 x0 (0 + ((x6 : Int) * 1)) [vi x7] ∧
    (((0 : Int) ≤ (x6 : Int) ∧ (x6 : Int) < (x4 : Int)) ∧ (((0 : Int) ≤ (x6 : Int) ∧ (x6 : Int) < (x4 : Int)) →
    (x3.isSome = true ∧ (x3.isSome = true →
    (∃ x8 : Int, RowAt H1 x3 (0 + ((x6 : Int) * 1)) [vi x8] ∧
    ((x7 = x8 →
     (inKind .i64 ((x6 : Int) + 1) ∧ (inKind .i64 ((x6 : Int) + 1) →
     (0 ≤ ((x6 : Int) + 1) ∧ (0 ≤ ((x6 : Int) + 1) →
     (I0 [.n (((x6 : Int) + 1) : Int).toNat] H1 ∧ μ0 [.n (((x6 : Int) + 1) : Int).toNat] < μ0 [.n x6])))))) ∧
    (¬ (x7 = x8) →
     Rt R W0 M H1 nK (vb (false))))))))))))))) ∧
   (¬ ((x6 : Int) < (x1 : Int)) →
    Rt R W0 M H1 nK (vb (true)))))) ∧
 (¬ ((x1 : Int) = (x4 : Int)) →
  Rt R W0 M H0 nK (vb (false))))))))) :
  Calls Try.prog 62 #[vsl x0 x1 x2, vsl x3 x4 x5] W0 R :=
  calls_sxA (M := M) (V := v_sameInts) (hi := {loops := [(4, .inv [(5, .nat)] [])]}) (args := [.slO 0 (.k 0) (.v 1) (.v 2), .slO 3 (.k 0) (.v 4) (.v 5)]) (nv := 6) (e := (upd (upd (upd (upd (upd (upd (fun _ => .i 0) 0 (.p x0)) 1 (.n x1)) 2 (.n x2)) 3 (.p x3)) 4 (.n x4)) 5 (.n x5))) Try.func62 hH h (by kernel_rfl) (by kernel_rfl) (by kernel_rfl)
def v_cloneI : VC :=
(.esc (.bop .eql 60 (.tmp 3) (.const (Value.slice none 0 0))) [.slO 0 (.k 0) (.v 1) (.v 2), .c (Value.slice none 0 0)] [] [(3, .b)] (some (.bool (.v 3))) .same
(.ite (.v 3)
(.ret (.c (Value.slice none 0 0)) [])
(.all 0
(.esc (.bi .append #[60, 60] 60) [.slK 0 0 0 0, .slO 0 (.k 0) (.v 1) (.v 2)] [(0, ⟨[], 3⟩)] [(4, .p), (5, .n), (6, .n)] (some (.slO 4 (.k 0) (.v 5) (.v 6))) .turn
(.ret (.slO 4 (.k 0) (.v 5) (.v 6)) [])))))
theorem x_cloneI (x0 : Option Loc) (x1 : Nat) (x2 : Nat) (M : Nat → Prop) (H0 : Hp) (W0 : World) (R : Ending → World → Prop) (hH : H0.le (hpOf W0)) (h :
 (Es W0 M H0 nK fun W1 => ∃ x3 : Bool, Eo Try.prog (.bop .eql 60 (.tmp 3) (.const (Value.slice none 0 0))) [vsl x0 x1 x2, Value.slice none 0 0] W1 (.value (vb (x3))) fun W2 => Ext W1 W2 ∧
 ((x3 = true →
  Rt R W0 M H0 nK (Value.slice none 0 0)) ∧
 (¬ (x3 = true) →
  (∀ b0 : Nat,
  (Es W0 M H0 (fun W => Kn W0 M H0 W b0 (Obj.cells #[] 3 (0, 0)) ∧ True) fun W3 => ∃ x4 : Option Loc, ∃ x5 : Nat, ∃ x6 : Nat, Eo Try.prog (.bi .append #[60, 60] 60) [Value.slice (some ⟨b0, 0, none⟩) 0 0, vsl x0 x1 x2] W3 (.value (vsl x4 x5 x6)) fun W4 => Tn W0 M H0 W3 W4 fun H1 =>
  Rt R W0 M H1 nK (vsl x4 x5 x6))))))) :
  Calls Try.prog 56 #[vsl x0 x1 x2] W0 R :=
  calls_sxA (M := M) (V := v_cloneI) (hi := {}) (args := [.slO 0 (.k 0) (.v 1) (.v 2)]) (nv := 3) (e := (upd (upd (upd (fun _ => .i 0) 0 (.p x0)) 1 (.n x1)) 2 (.n x2))) Try.func56 hH h (by kernel_rfl) (by kernel_rfl) (by kernel_rfl)
def v_containsI : VC :=
(.call 79 [.slO 0 (.k 0) (.v 1) (.v 2), .int .i64 (.v 3)] [] [(4, .i)] (.int .i64 (.v 4)) .same
(.ret (.bool (.le (.k 0) (.v 4))) []))
theorem x_containsI (x0 : Option Loc) (x1 : Nat) (x2 : Nat) (x3 : Int) (M : Nat → Prop) (H0 : Hp) (W0 : World) (R : Ending → World → Prop) (hH : H0.le (hpOf W0)) (h :
 (Cl Try.prog W0 M H0 nK 79 #[vsl x0 x1 x2, vi x3] fun z W1 W2 => ∃ x4 : Int, z = .returned (vi x4) ∧ Ext W1 W2 ∧
 Rt R W0 M H0 nK (vb (decide (0 ≤ x4))))) :
  Calls Try.prog 57 #[vsl x0 x1 x2, vi x3] W0 R :=
  calls_sxA (M := M) (V := v_containsI) (hi := {}) (args := [.slO 0 (.k 0) (.v 1) (.v 2), .int .i64 (.v 3)]) (nv := 4) (e := (upd (upd (upd (upd (fun _ => .i 0) 0 (.p x0)) 1 (.n x1)) 2 (.n x2)) 3 (.i x3))) Try.func57 hH h (by kernel_rfl) (by kernel_rfl) (by kernel_rfl)
def v_indexI : VC :=
(.chk (.le (.k 0) (.v 1))
(.loop [(4, .i)] [.i (.k 0)] [.i (.v 4)]
(.ite (.lt (.v 4) (.v 1))
(.chk (.idx (.v 4) (.v 1))
(.chk (.isp 0)
(.ld 0 (.add (.k 0) (.mul (.v 4) (.k 1))) [.int .i64 (.v 5)] [(5, .i)]
(.ite (.eq (.v 3) (.v 5))
(.ret (.int .i64 (.v 4)) [])
(.chk (.rng .i64 (.add (.v 4) (.k 1)))
(.back 0 [.i (.add (.v 4) (.k 1))]))))))
(.ret (.int .i64 (.k (-1))) []))))
theorem x_indexI (x0 : Option Loc) (x1 : Nat) (x2 : Nat) (x3 : Int) (M : Nat → Prop) (H0 : Hp) (W0 : World) (R : Ending → World → Prop) (hH : H0.le (hpOf W0)) (h :
 (0 ≤ (x1 : Int) ∧ (0 ≤ (x1 : Int) →
 (∃ (I0 : List Dat → Hp → Prop) (μ0 : List Dat → Nat), I0 [.i 0] H0 ∧ ∀ H1 : Hp, ∀ x4 : Int, I0 [.i x4] H1 →
  ((x4 < (x1 : Int) →
   (((0 : Int) ≤ x4 ∧ x4 < (x1 : Int)) ∧ (((0 : Int) ≤ x4 ∧ x4 < (x1 : Int)) →
   (x0.isSome = true ∧ (x0.isSome = true →
   (∃ x5 : Int, RowAt H1 x0 (0 + (x4 * 1)) [vi x5] ∧
   ((x3 = x5 →
    Rt R W0 M H1 nK (vi x4)) ∧
   (¬ (x3 = x5) →
    (inKind .i64 (x4 + 1) ∧ (inKind .i64 (x4 + 1) →
    (I0 [.i (x4 + 1)] H1 ∧ μ0 [.i (x4 + 1)] < μ0 [.i x4]))))))))))) ∧
  (¬ (x4 < (x1 : Int)) →
   Rt R W0 M H1 nK (vi (-1)))))))) :
  Calls Try.prog 79 #[vsl x0 x1 x2, vi x3] W0 R :=
  calls_sxA (M := M) (V := v_indexI) (hi := {loops := [(2, .inv [(8, .pt (.int .i64))] [])]}) (args := [.slO 0 (.k 0) (.v 1) (.v 2), .int .i64 (.v 3)]) (nv := 4) (e := (upd (upd (upd (upd (fun _ => .i 0) 0 (.p x0)) 1 (.n x1)) 2 (.n x2)) 3 (.i x3))) Try.func79 hH h (by kernel_rfl) (by kernel_rfl) (by kernel_rfl)
end Go.Proofs.Ytgmgbfpoeclgiaa
namespace Go.Proofs.Ytgmgbfpoeclgiaa
open Go.RowKit
theorem infoInt : infoIs Try.prog 3 1 8 = true := by kernel_rfl
def irow (x : Int) : List Value := [vi x]
def Ints (H : Hp) (p : Option Loc) (n c : Nat) (l : List Int) : Prop := n ≤ c ∧ c ≤ maxLen ∧ Rows H p n 1 (l.map irow)
section
variable {H K : Hp} {p p' : Option Loc} {n c n' c' : Nat} {l m : List Int}
theorem Ints.mono (h : Ints H p n c l) (hk : H.le K) : Ints K p n c l := ⟨h.1, h.2.1, h.2.2.mono hk⟩
theorem Ints.len (h : Ints H p n c l) : n = l.length := by simpa using h.2.2.len
theorem Ints.lt63 (h : Ints H p n c l) : (n : Int) ≤ 9223372036854775807 := by have := h.1; have := h.2.1; simp only [maxLen] at this; omega
theorem Ints.nil (H : Hp) (p : Option Loc) : Ints H p 0 0 [] := ⟨Nat.le_refl _, by simp [maxLen], Rows.nil _ _ _⟩
theorem Ints.at (h : Ints H p n c l) {k : Nat} (hk : k < n) : ∃ x : Int, l[k]? = some x ∧ RowAt H p (0 + (k : Int) * 1) [vi x] := by
  obtain ⟨row, h1, _, h3⟩ := h.2.2.at hk (off := 0 + (k : Int) * 1) (by omega)
  rw [List.getElem?_map, Option.map_eq_some_iff] at h1
  obtain ⟨x, hx, rfl⟩ := h1
  exact ⟨x, hx, h3⟩
theorem ones_I (l : List Int) : ∀ r ∈ l.map irow, ∀ v ∈ r, v.oneCell' = true := fun r hr v hv => by
  obtain ⟨x, _, rfl⟩ := List.mem_map.1 hr
  simp only [irow, List.mem_singleton] at hv
  subst hv
  rfl
theorem Ints.of_ow {g : Option Nat} (h : Ow H 3 1 p n c (l.map irow) g) : Ints H p n c l := ⟨h.2.2.1, h.2.2.2.1, h.rows⟩
theorem c_sameInts (hk : Ints H p n c l) (hk' : Ints H p' n' c' m) : Gv Try.prog 62 #[vsl p n c, vsl p' n' c'] H (vb (decide (l = m))) := fun W hH => by
  have hn := hk.len
  have hn' := hk'.len
  have h63 := hk.lt63
  refine x_sameInts p n c p' n' c' noM H W _ hH ⟨by omega, fun _ => ⟨by omega, fun _ => ⟨fun h1 => ?_, fun h1 => Rt.gv' (by rw [decide_eq_false (fun h => h1 (by rw [hn, hn', h]))])⟩⟩⟩
  refine ⟨fun v K => match v with | [.n j] => j ≤ n ∧ H.le K ∧ (l.drop j = m.drop j ↔ l = m) | _ => False, fun v => match v with | [.n j] => n - j | _ => 0, ⟨by omega, Hp.le_refl H, by simp⟩, fun K j hI => ?_⟩
  obtain ⟨hj, hle, hf⟩ := hI
  have ht : ((j : Int) + 1).toNat = j + 1 := by omega
  refine ⟨fun hlt => ⟨⟨by omega, hlt⟩, fun _ => ?_⟩, fun hge => Rt.gv' ?_⟩
  · obtain ⟨r, hr, hat⟩ := (hk.mono hle).at (k := j) (by omega)
    obtain ⟨r', hr', hat'⟩ := (hk'.mono hle).at (k := j) (by omega)
    rw [drop_cons hr, drop_cons hr', List.cons.injEq] at hf
    refine ⟨hat.isSome, fun _ => ⟨_, hat, ⟨by omega, by omega⟩, fun _ => ⟨hat'.isSome, fun _ => ⟨_, hat', fun h0 => ⟨in64 (by omega), fun _ => ⟨by omega, fun _ => ?_⟩⟩, fun h0 => Rt.gv' ?_⟩⟩⟩⟩
    · rw [ht]
      refine ⟨⟨by omega, hle, ?_⟩, by simp only; omega⟩
      rw [← hf]
      exact ⟨fun h => ⟨h0, h⟩, fun h => h.2⟩
    · rw [decide_eq_false]
      exact fun hh => h0 (hf.2 hh).1
  · rw [decide_eq_true (hf.1 (by rw [List.drop_of_length_le (by omega), List.drop_of_length_le (by omega)]))]
theorem c_cloneI (hk : Ints H p n c l) (hb : n ≤ 1099511627776) : Gf Try.prog 56 #[vsl p n c] H fun v D => ∃ p' c' g, v = vsl p' n c' ∧ Ow D 3 1 p' n c' (l.map irow) g := fun W hH => by
  refine x_cloneI p n c noM H W _ hH ?_
  intro W1 n1 _
  refine ⟨_, _, ek_nil Try.underlying60 _ _ p n c W1, Ext.refl _, fun h => Rt.gfn ?_, fun h b0 => ?_⟩
  · have hp : p = none := by simpa using h
    subst hp
    have hn : n = 0 := by
      rcases Nat.eq_zero_or_pos n with h0 | h0
      · exact h0
      · obtain ⟨r, _, hat⟩ := hk.at h0
        have := hat.isSome
        cases this
    subst hn
    have hl : l = [] := List.length_eq_zero_iff.1 hk.len.symm
    subst hl
    exact ⟨none, 0, none, rfl, Ow.nil _ _ _ _⟩
  · intro W3 n3 _
    obtain ⟨p', c', g, W', H', h1, h2, h3, h4, h5⟩ := ek_clone (P := Try.prog) Try.underlying60 infoInt (by omega) n3 (some (b0, 0)) hk.2.2 (ones_I l) (by omega) (by simp only [maxLen]; omega) 60 (c := c)
    refine ⟨p', n, c', W', h1, H', h2, Rt.gfn ⟨p', c', g, rfl, h3.new (fun b hb => Nat.le_trans n3.mod.size (h4 b hb))⟩⟩
def ixI (x : Int) : Nat → List Int → Int
  | _, [] => -1
  | k, y :: t => if x = y then k else ixI x (k + 1) t
theorem ixI_mem (x : Int) : ∀ (l : List Int) (k : Nat), decide (0 ≤ ixI x k l) = decide (x ∈ l)
  | [], k => by simp [ixI]
  | y :: t, k => by
    unfold ixI
    split
    · rename_i h; simp [h]
    · rename_i h; rw [ixI_mem x t (k + 1)]; simp [h]
theorem c_indexI (hk : Ints H p n c l) (x : Int) : Gv Try.prog 79 #[vsl p n c, vi x] H (vi (ixI x 0 l)) := fun W hH => by
  have hn := hk.len
  have h63 := hk.lt63
  refine x_indexI p n c x noM H W _ hH ⟨by omega, fun _ => ⟨fun v K => match v with | [.i k] => ∃ j : Nat, k = j ∧ j ≤ n ∧ H.le K ∧ ixI x j (l.drop j) = ixI x 0 l | _ => False, fun v => match v with | [.i k] => n - k.toNat | _ => 0, ⟨0, rfl, by omega, Hp.le_refl H, by simp⟩, fun K k hI => ?_⟩⟩
  obtain ⟨j, rfl, hj, hle, hf⟩ := hI
  refine ⟨fun hlt => ⟨⟨by omega, hlt⟩, fun _ => ?_⟩, fun hge => Rt.gv' ?_⟩
  · obtain ⟨y, hy, hat⟩ := (hk.mono hle).at (k := j) (by omega)
    rw [drop_cons hy, ixI] at hf
    refine ⟨hat.isSome, fun _ => ⟨y, hat, fun h => Rt.gv' (by rw [← hf, if_pos h]), fun h => ⟨in64 (by omega), fun _ => ⟨⟨j + 1, by omega, by omega, hle, by rw [← hf, if_neg h]⟩, by simp only; omega⟩⟩⟩⟩
  · rw [← hf, List.drop_of_length_le (by omega)]; rfl
theorem c_containsI (hk : Ints H p n c l) (x : Int) : Gv Try.prog 57 #[vsl p n c, vi x] H (vb (decide (x ∈ l))) := fun W hH => by
  refine x_containsI p n c x noM H W _ hH ?_
  exact Cl.same (c_indexI hk x) fun _ _ hx => ⟨_, rfl, hx, Rt.gv' (by rw [ixI_mem])⟩
end
end Go.Proofs.Ytgmgbfpoeclgiaa
