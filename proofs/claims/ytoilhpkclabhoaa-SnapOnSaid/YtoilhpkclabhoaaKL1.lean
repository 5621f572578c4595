/- Symbolic runs of functions: what each leaves to prove is enough for its call. Printed by a program of ours. No conditions. What the laws make: entries, sessions, a state. No conditions. -/
import Derived.Test.YtoilhpkclabhoaaKE3
import Derived.Test.YtoilhpkclabhoaaProg
import Derived.Test.YtoilhpkclabhoaaKS4
import Derived.Test.YtoilhpkclabhoaaKT1
import Derived.Test.YtoilhpkclabhoaaKU1
set_option linter.unusedVariables false
set_option linter.unusedSimpArgs false
namespace Go.Proofs.Ytoilhpkclabhoaa
open Go.RowKit
set_option maxRecDepth 100000
set_option maxHeartbeats 4000000
def v_shop : VC :=
(.all 0
(.call 61 [.int .i64 (.k 2)] [] [(0, .i), (1, .i), (2, .i), (3, .p), (4, .n), (5, .n)] (.agg [.int .i64 (.v 0), .int .i64 (.v 1), .int .i64 (.v 2), .slO 3 (.k 0) (.v 4) (.v 5)]) .fresh
(.call 61 [.int .i64 (.k 4)] [] [(6, .i), (7, .i), (8, .i), (9, .p), (10, .n), (11, .n)] (.agg [.int .i64 (.v 6), .int .i64 (.v 7), .int .i64 (.v 8), .slO 9 (.k 0) (.v 10) (.v 11)]) .fresh
(.all 1
(.ret (.agg [.int .i64 (.k 6), .int .i64 (.k 10), .int .i64 (.k 7), .int .i64 (.k 0), .int .i64 (.k 0), .int .i64 (.k 1), .slK 1 0 2 2]) [(1, ⟨[.int .i64 (.v 0), .int .i64 (.v 1), .int .i64 (.v 2), .slO 3 (.k 0) (.v 4) (.v 5), .int .i64 (.v 6), .int .i64 (.v 7), .int .i64 (.v 8), .slO 9 (.k 0) (.v 10) (.v 11)], 59⟩)])))))
theorem x_shop (M : Nat → Prop) (H0 : Hp) (W0 : World) (R : Ending → World → Prop) (hH : H0.le (hpOf W0)) (h :
 (∀ b0 : Nat,
 (Cl Try.prog W0 M H0 nK 61 #[vi 2] fun z W1 W2 => ∃ x0 : Int, ∃ x1 : Int, ∃ x2 : Int, ∃ x3 : Option Loc, ∃ x4 : Nat, ∃ x5 : Nat, z = .returned (Value.agg #[vi x0, vi x1, vi x2, vsl x3 x4 x5]) ∧ Fr W1 W2 H0 fun H1 =>
 (Cl Try.prog W0 M H1 nK 61 #[vi 4] fun z W3 W4 => ∃ x6 : Int, ∃ x7 : Int, ∃ x8 : Int, ∃ x9 : Option Loc, ∃ x10 : Nat, ∃ x11 : Nat, z = .returned (Value.agg #[vi x6, vi x7, vi x8, vsl x9 x10 x11]) ∧ Fr W3 W4 H1 fun H2 =>
 (∀ b1 : Nat,
 Rt R W0 M H2 (fun W => Kn W0 M H2 W b1 (Obj.cells #[vi x0, vi x1, vi x2, vsl x3 x4 x5, vi x6, vi x7, vi x8, vsl x9 x10 x11] 59 (0, 0)) ∧ True) (Value.agg #[vi 6, vi 10, vi 7, vi 0, vi 0, vi 1, Value.slice (some ⟨b1, 0, none⟩) 2 2])))))) :
  Calls Try.prog 31 #[] W0 R :=
  calls_sxA (M := M) (V := v_shop) (hi := {}) (args := []) (nv := 0) (e := (fun _ => .i 0)) Try.func31 hH h (by kernel_rfl) (by kernel_rfl) (by kernel_rfl)
end Go.Proofs.Ytoilhpkclabhoaa
namespace Go.Proofs.Ytoilhpkclabhoaa
open Go.RowKit

def chooseI (c n : Int) : Int := Int.tmod (if c < 0 then 0 - (c + 1) else c) n
theorem choose_in (c n : Int) (hn : 0 < n) : 0 ≤ chooseI c n ∧ chooseI c n < n := by
  unfold chooseI
  have h0 : 0 ≤ (if c < 0 then 0 - (c + 1) else c) := by split <;> omega
  generalize (if c < 0 then 0 - (c + 1) else c) = d at h0
  rw [Int.tmod_eq_emod_of_nonneg h0]
  exact ⟨Int.emod_nonneg _ (by omega), Int.emod_lt_of_pos _ hn⟩
theorem ek_rem (x y : Operand) (a b : Int) (hb : b ≠ 0) (w : World) : (EK.sem (.bop .rem 3 x y) [vi a, vi b]).run Try.prog w = .ok (.value (vi (Int.tmod a b))) w := by
  simp [EK.sem, eqGuard, binOp, Op.intDiv, hb]
theorem c_choose (c n : Int) (hn : 0 < n) (hc : -9223372036854775808 ≤ c ∧ c ≤ 9223372036854775807) (H : Hp) : Gv Try.prog 22 #[vi c, vi n] H (vi (chooseI c n)) := fun W hH => by
  refine x_choose c n noM H W _ hH ⟨fun h => ⟨in64 (by omega), fun _ => ⟨in64 (by omega), fun _ => ?_⟩⟩, fun h => ?_⟩
  · unfold chooseI
    rw [if_pos h]
    exact fun W1 n1 _ => ⟨_, _, ek_rem _ _ _ _ (by omega) _, Ext.refl _, Rt.gv⟩
  · unfold chooseI
    rw [if_neg h]
    exact fun W1 n1 _ => ⟨_, _, ek_rem _ _ _ _ (by omega) _, Ext.refl _, Rt.gv⟩
def rowS (c : Int) : Ses := ⟨c, 2, 9, [⟨3, 7⟩, ⟨5, -1⟩]⟩
theorem Kept.nil (D : Hp) (p : Option Loc) : Kept D p 0 0 [] := ⟨Nat.le_refl _, by simp [maxLen], Rows.nil _ _ _⟩
theorem c_row (x : Int) (H : Hp) : Gf Try.prog 61 #[vi x] H fun v D => ∃ q m d, v = .agg #[vi x, vi 2, vi 9, vsl q m d] ∧ Kept D q m d [⟨3, 7⟩, ⟨5, -1⟩] := fun W hH => by
  refine x_row x noM H W _ hH fun b0 b1 W1 n1 k1 => ?_
  have hk := k1.1
  refine ⟨_, addH noH b1 (.cells #[vi 3, vi 7, vi 5, vi (-1)] 67 (0, 0)), rfl, n1.ext, addH_le (noH_le _) hk.eq, fun b o hb => ?_, some (b1, 0), 2, 2, rfl, by simp, by simp [maxLen], Rows.block (addH_at ..) rfl (fun r hr => ?_) rfl⟩
  · unfold addH at hb
    split at hb
    · rename_i h
      subst h
      exact hk.own.resolve_right (fun h => h)
    · cases hb
  · obtain ⟨y, _, rfl⟩ := List.mem_map.1 hr
    rfl
theorem Tab.two' {H : Hp} {b : Nat} {s s2 : Ses} {q q2 : Option Loc} {m d m2 d2 : Nat} (hb : H b = some (.cells #[vi s.client, vi s.acked, vi s.seen, vsl q m d, vi s2.client, vi s2.acked, vi s2.seen, vsl q2 m2 d2] 59 (0, 0))) (hk : Kept H q m d s.kept) (hk2 : Kept H q2 m2 d2 s2.kept) : Tab H (some (b, 0)) 2 2 [s, s2] :=
  ⟨Nat.le_refl _, by simp [maxLen], [[vi s.client, vi s.acked, vi s.seen, vsl q m d], [vi s2.client, vi s2.acked, vi s2.seen, vsl q2 m2 d2]], Rows.block hb rfl (fun r hr => by
    simp only [List.mem_cons, List.not_mem_nil, or_false] at hr
    rcases hr with rfl | rfl <;> rfl) rfl, .cons _ _ _ _ ⟨q, m, d, rfl, hk⟩ (.one ⟨q2, m2, d2, rfl, hk2⟩)⟩
def shopS : Sta := ⟨6, 10, ⟨7, 0, 0, 1⟩, [rowS 2, rowS 4]⟩
theorem c_shop (H : Hp) : Gf Try.prog 31 #[] H fun v D => ∃ p n c, v = .agg #[vi 6, vi 10, vi 7, vi 0, vi 0, vi 1, vsl p n c] ∧ Tab D p n c [rowS 2, rowS 4] := fun W hH => by
  refine x_shop noM H W _ hH fun b0 => ?_
  refine Cl.fresh (c_row 2 H) ?_
  rintro v W1 W2 D ⟨q2, m2, d2, rfl, k2⟩ hx hD hf n
  refine ⟨_, _, _, q2, m2, d2, rfl, hx, D, hD, hf, fun H1 le1 hD1 => ?_⟩
  replace k2 := k2.mono (le_newer hD1 (fun b o h => Nat.le_trans n.mod.size (hf b o h)))
  refine Cl.fresh (c_row 4 H1) ?_
  rintro v W3 W4 D2 ⟨q4, m4, d4, rfl, k4⟩ hx hD2 hf2 n2
  refine ⟨_, _, _, q4, m4, d4, rfl, hx, D2, hD2, hf2, fun H2 le2 hD3 b1 W5 n5 k5 => ?_⟩
  have hn : (newer W H1).le (newer W H2) := fun b o h => by
    unfold newer at h ⊢
    split at h
    · rename_i h1; rw [if_pos h1]; exact le2 b o h
    · cases h
  replace k2 := k2.mono hn
  replace k4 := k4.mono (le_newer hD3 (fun b o h => Nat.le_trans n2.mod.size (hf2 b o h)))
  have hk := k5.1
  have hb : newer W H2 b1 = none := by
    cases h : newer W H2 b1 with
    | none => rfl
    | some o => have := newer_le W H2 b1 o h; rw [hk.off] at this; cases this
  have hle := le_addH (o := .cells #[vi 2, vi 2, vi 9, vsl q2 m2 d2, vi 4, vi 2, vi 9, vsl q4 m4 d4] 59 (0, 0)) hb
  refine ⟨_, addH (newer W H2) b1 (.cells #[vi 2, vi 2, vi 9, vsl q2 m2 d2, vi 4, vi 2, vi 9, vsl q4 m4 d4] 59 (0, 0)), rfl, n5.ext, addH_le (Hp.le_trans (newer_le W H2) n5.sub) hk.eq, fun b o h => ?_, some (b1, 0), 2, 2, rfl, Tab.two' (s := rowS 2) (s2 := rowS 4) (addH_at ..) (k2.mono hle) (k4.mono hle)⟩
  unfold addH at h
  split at h
  · rename_i h1
    subst h1
    exact hk.own.resolve_right fun h => h
  · exact newer_new W H2 b o h
end Go.Proofs.Ytoilhpkclabhoaa
