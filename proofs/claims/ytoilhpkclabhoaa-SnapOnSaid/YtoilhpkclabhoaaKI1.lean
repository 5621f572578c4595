/- Symbolic runs of functions: what each leaves to prove is enough for its call. Printed by a program of ours. No conditions. Lists of ints in memory: what it is, are they the same, a copy, where one lies. No conditions. -/
import Derived.Test.YtoilhpkclabhoaaKE3
import Derived.Test.YtoilhpkclabhoaaProg
import Derived.Test.YtoilhpkclabhoaaKE4
import Derived.Test.YtoilhpkclabhoaaKD1
set_option linter.unusedVariables false
set_option linter.unusedSimpArgs false
namespace Go.Proofs.Ytoilhpkclabhoaa
open Go.RowKit
set_option maxRecDepth 100000
set_option maxHeartbeats 4000000
def v_sameInts : VC :=
(.chk (.le (.k 0) (.v 1))
(.chk (.le (.k 0) (.v 4))
(.ite (.eq (.v 1) (.v 4))
(.loop [(6, .n)] [.n (.k 0)] [.n (.v 6)]
(.ite (.lt (.v 6) (.v 1))
(.chk (.idx (.v 6) (.v 1))
(.chk (.isp 0)
(.ld 0 (.add (.k 0) (.mul (.v 6) (.k 1))) [.int .i64 (.v 7)] [(7, .i)]
(.chk (.idx (.v 6) (.v 4))
(.chk (.isp 3)
(.ld 3 (.add (.k 0) (.mul (.v 6) (.k 1))) [.int .i64 (.v 8)] [(8, .i)]
(.ite (.eq (.v 7) (.v 8))
(.chk (.rng .i64 (.add (.v 6) (.k 1)))
(.chk (.le (.k 0) (.add (.v 6) (.k 1)))
(.back 0 [.n (.add (.v 6) (.k 1))])))
(.ret (.bool (.k false)) []))))))))
(.ret (.bool (.k true)) [])))
(.ret (.bool (.k false)) []))))
theorem x_sameInts (x0 : Option Loc) (x1 : Nat) (x2 : Nat) (x3 : Option Loc) (x4 : Nat) (x5 : Nat) (M : Nat → Prop) (H0 : Hp) (W0 : World) (R : Ending → World → Prop) (hH : H0.le (hpOf W0)) (h :
 (0 ≤ (x1 : Int) ∧ (0 ≤ (x1 : Int) →
 (0 ≤ (x4 : Int) ∧ (0 ≤ (x4 : Int) →
 (((x1 : Int) = (x4 : Int) →
  (∃ (I0 : List Dat → Hp → Prop) (μ0 : List Dat → Nat), I0 [.n 0] H0 ∧ ∀ H1 : Hp, ∀ x6 : Nat, I0 [.n x6] H1 →
   (((x6 : Int) < (x1 : Int) →
    (((0 : Int) ≤ (x6 : Int) ∧ (x6 : Int) < (x1 : Int)) ∧ (((0 : Int) ≤ (x6 : Int) ∧ (x6 : Int) < (x1 : Int)) →
    (x0.isSome = true ∧ (x0.isSome = true →
    (∃ x7 : Int, RowAt H1 x0 (0 + ((x6 : Int) * 1)) [vi x7] ∧
    (((0 : Int) ≤ (x6 : Int) ∧ (x6 : Int) < (x4 : Int)) ∧ (((0 : Int) ≤ (x6 : Int) ∧ (x6 : Int) < (x4 : Int)) →
    (x3.isSome = true ∧ (x3.isSome = true →
    (∃ x8 : Int, RowAt H1 x3 (0 + ((x6 : Int) * 1)) [vi x8] ∧
    ((x7 = x8 →
     (inKind .i64 ((x6 : Int) + 1) ∧ (inKind .i64 ((x6 : Int) + 1) →
     (0 ≤ ((x6 : Int) + 1) ∧ (0 ≤ ((x6 : Int) + 1) →
     (I0 [.n (((x6 : Int) + 1) : Int).toNat] H1 ∧ μ0 [.n (((x6 : Int) + 1) : Int).toNat] < μ0 [.n x6])))))) ∧
    (¬ (x7 = x8) →
     Rt R W0 M H1 nK (vb (false))))))))))))))) ∧
   (¬ ((x6 : Int) < (x1 : Int)) →
    Rt R W0 M H1 nK (vb (true)))))) ∧
 (¬ ((x1 : Int) = (x4 : Int)) →
  Rt R W0 M H0 nK (vb (false))))))))) :
  Calls Try.prog 30 #[vsl x0 x1 x2, vsl x3 x4 x5] W0 R :=
  calls_sxA (M := M) (V := v_sameInts) (hi := {loops := [(4, .inv [(5, .nat)] [])]}) (args := [.slO 0 (.k 0) (.v 1) (.v 2), .slO 3 (.k 0) (.v 4) (.v 5)]) (nv := 6) (e := (upd (upd (upd (upd (upd (upd (fun _ => .i 0) 0 (.p x0)) 1 (.n x1)) 2 (.n x2)) 3 (.p x3)) 4 (.n x4)) 5 (.n x5))) Try.func30 hH h (by kernel_rfl) (by kernel_rfl) (by kernel_rfl)
end Go.Proofs.Ytoilhpkclabhoaa
namespace Go.Proofs.Ytoilhpkclabhoaa
open Go.RowKit
theorem infoInt : infoIs Try.prog 3 1 8 = true := by kernel_rfl
def irow (x : Int) : List Value := [vi x]
def Ints (H : Hp) (p : Option Loc) (n c : Nat) (l : List Int) : Prop := n ≤ c ∧ c ≤ maxLen ∧ Rows H p n 1 (l.map irow)
section
variable {H K : Hp} {p p' : Option Loc} {n c n' c' : Nat} {l m : List Int}
theorem Ints.mono (h : Ints H p n c l) (hk : H.le K) : Ints K p n c l := ⟨h.1, h.2.1, h.2.2.mono hk⟩
theorem Ints.len (h : Ints H p n c l) : n = l.length := by simpa using h.2.2.len
theorem Ints.lt63 (h : Ints H p n c l) : (n : Int) ≤ 9223372036854775807 := by have := h.1; have := h.2.1; simp only [maxLen] at this; omega
theorem Ints.nil (H : Hp) (p : Option Loc) : Ints H p 0 0 [] := ⟨Nat.le_refl _, by simp [maxLen], Rows.nil _ _ _⟩
theorem Ints.at (h : Ints H p n c l) {k : Nat} (hk : k < n) : ∃ x : Int, l[k]? = some x ∧ RowAt H p (0 + (k : Int) * 1) [vi x] := by
  obtain ⟨row, h1, _, h3⟩ := h.2.2.at hk (off := 0 + (k : Int) * 1) (by omega)
  rw [List.getElem?_map, Option.map_eq_some_iff] at h1
  obtain ⟨x, hx, rfl⟩ := h1
  exact ⟨x, hx, h3⟩
theorem ones_I (l : List Int) : ∀ r ∈ l.map irow, ∀ v ∈ r, v.oneCell' = true := fun r hr v hv => by
  obtain ⟨x, _, rfl⟩ := List.mem_map.1 hr
  simp only [irow, List.mem_singleton] at hv
  subst hv
  rfl
theorem Ints.of_ow {g : Option Nat} (h : Ow H 3 1 p n c (l.map irow) g) : Ints H p n c l := ⟨h.2.2.1, h.2.2.2.1, h.rows⟩
theorem c_sameInts (hk : Ints H p n c l) (hk' : Ints H p' n' c' m) : Gv Try.prog 30 #[vsl p n c, vsl p' n' c'] H (vb (decide (l = m))) := fun W hH => by
  have hn := hk.len
  have hn' := hk'.len
  have h63 := hk.lt63
  refine x_sameInts p n c p' n' c' noM H W _ hH ⟨by omega, fun _ => ⟨by omega, fun _ => ⟨fun h1 => ?_, fun h1 => Rt.gv' (by rw [decide_eq_false (fun h => h1 (by rw [hn, hn', h]))])⟩⟩⟩
  refine ⟨fun v K => match v with | [.n j] => j ≤ n ∧ H.le K ∧ (l.drop j = m.drop j ↔ l = m) | _ => False, fun v => match v with | [.n j] => n - j | _ => 0, ⟨by omega, Hp.le_refl H, by simp⟩, fun K j hI => ?_⟩
  obtain ⟨hj, hle, hf⟩ := hI
  have ht : ((j : Int) + 1).toNat = j + 1 := by omega
  refine ⟨fun hlt => ⟨⟨by omega, hlt⟩, fun _ => ?_⟩, fun hge => Rt.gv' ?_⟩
  · obtain ⟨r, hr, hat⟩ := (hk.mono hle).at (k := j) (by omega)
    obtain ⟨r', hr', hat'⟩ := (hk'.mono hle).at (k := j) (by omega)
    rw [drop_cons hr, drop_cons hr', List.cons.injEq] at hf
    refine ⟨hat.isSome, fun _ => ⟨_, hat, ⟨by omega, by omega⟩, fun _ => ⟨hat'.isSome, fun _ => ⟨_, hat', fun h0 => ⟨in64 (by omega), fun _ => ⟨by omega, fun _ => ?_⟩⟩, fun h0 => Rt.gv' ?_⟩⟩⟩⟩
    · rw [ht]
      refine ⟨⟨by omega, hle, ?_⟩, by simp only; omega⟩
      rw [← hf]
      exact ⟨fun h => ⟨h0, h⟩, fun h => h.2⟩
    · rw [decide_eq_false]
      exact fun hh => h0 (hf.2 hh).1
  · rw [decide_eq_true (hf.1 (by rw [List.drop_of_length_le (by omega), List.drop_of_length_le (by omega)]))]
end
end Go.Proofs.Ytoilhpkclabhoaa
