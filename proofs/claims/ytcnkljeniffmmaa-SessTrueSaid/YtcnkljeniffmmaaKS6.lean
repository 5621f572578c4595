/- What is put is found; what is fresh later is fresh now: plain laws of tables. No program in sight. No conditions. Symbolic runs of functions: what each leaves to prove is enough for its call. Printed by a program of ours. No conditions. The law SessTrue, as a run. No conditions. -/
import Derived.Test.YtcnkljeniffmmaaKS4
import Derived.Test.YtcnkljeniffmmaaKE3
import Derived.Test.YtcnkljeniffmmaaProg
import Derived.Test.YtcnkljeniffmmaaKS5
set_option linter.unusedVariables false
set_option linter.unusedSimpArgs false
namespace Go.Proofs.Ytcnkljeniffmmaa

theorem putT_ok {l : List Ses} {s : Ses} (h : sPut l s = (putT l s, 0)) (hl : tabErr l = 0) : TabOk (putT l s) := by
  have hk := tabErr_ok.1 hl
  unfold sPut at h
  rw [if_pos hl] at h
  split at h
  · rename_i he
    split at h
    · simp at h
    · rename_i h3
      refine ⟨by omega, fun x hx => ?_, ?_⟩
      · unfold putT at hx
        simp only [List.mem_append, List.mem_cons, List.mem_filter] at hx
        rcases hx with hx | rfl | hx
        · exact hk.one _ hx.1
        · exact he
        · exact hk.one _ hx.1
      · unfold putT
        rw [List.pairwise_append]
        refine ⟨hk.ord.filter _, ?_, ?_⟩
        · rw [List.pairwise_cons]
          refine ⟨fun a ha => ?_, hk.ord.filter _⟩
          simp only [List.mem_filter, decide_eq_true_eq] at ha
          exact ha.2
        · intro a ha b hb
          simp only [List.mem_filter, decide_eq_true_eq, List.mem_cons] at ha hb
          rcases hb with rfl | hb
          · exact ha.2
          · have := ha.2; have := hb.2; omega
  · simp at h; omega
theorem sPut_ok {l : List Ses} {s : Ses} (h : (sPut l s).2 = 0) : tabErr l = 0 ∧ s.err = 0 ∧ sPut l s = (putT l s, 0) ∧ TabOk (putT l s) := by
  have h0 := h
  unfold sPut at h
  split at h
  · rename_i hl
    split at h
    · rename_i he
      split at h
      · cases h
      · rename_i h3
        have e : sPut l s = (putT l s, 0) := by
          unfold sPut
          rw [if_pos hl, if_pos he, if_neg h3]
        exact ⟨hl, he, e, putT_ok e hl⟩
    · rename_i he; exact absurd h he
  · rename_i hl; exact absurd h hl
theorem find_put (l : List Ses) (s : Ses) : findT (putT l s) s.client = s ∧ hasT (putT l s) s.client = true := by
  unfold findT hasT putT
  have h1 : (l.filter fun x => decide (x.client < s.client)).find? (fun x => decide (x.client = s.client)) = none := by
    rw [List.find?_eq_none]
    intro x hx
    simp only [List.mem_filter, decide_eq_true_eq] at hx
    simp only [decide_eq_true_eq]
    omega
  rw [List.find?_append, h1]
  constructor
  · simp
  · simp
theorem find_other (l : List Ses) (s : Ses) (c : Int) (h : c ≠ s.client) : findT (putT l s) c = findT l c ∧ hasT (putT l s) c = hasT l c := by
  have e1 : ∀ m : List Ses, (m.find? fun x => decide (x.client = c)) = (m.filter fun x => decide (x.client = c)).head? := fun m => by simp
  have e2 : (putT l s).filter (fun x => decide (x.client = c)) = l.filter fun x => decide (x.client = c) := by
    unfold putT
    rw [List.filter_append, List.filter_cons_of_neg (by simp; omega), List.filter_filter, List.filter_filter]
    rcases Int.lt_or_lt_of_ne h with hl | hl
    · have a1 : (l.filter fun a => decide (a.client = c) && decide (s.client < a.client)) = [] := by
        rw [List.filter_eq_nil_iff]
        intro a _
        simp only [Bool.and_eq_true, decide_eq_true_eq]
        omega
      rw [a1, List.append_nil]
      refine List.filter_congr fun a _ => ?_
      by_cases ha : a.client = c
      · simp [ha, hl]
      · simp [ha]
    · have a1 : (l.filter fun a => decide (a.client = c) && decide (a.client < s.client)) = [] := by
        rw [List.filter_eq_nil_iff]
        intro a _
        simp only [Bool.and_eq_true, decide_eq_true_eq]
        omega
      rw [a1, List.nil_append]
      refine List.filter_congr fun a _ => ?_
      by_cases ha : a.client = c
      · simp [ha, hl]
      · simp [ha]
  have e3 : ∀ m : List Ses, (m.any fun x => decide (x.client = c)) = (m.filter fun x => decide (x.client = c)).isEmpty.not := fun m => by
    induction m with
    | nil => rfl
    | cons a m ih =>
      by_cases ha : a.client = c <;> simp [ha, ih]
  unfold findT hasT
  rw [e1, e1, e3, e3, e2]
  exact ⟨rfl, rfl⟩
theorem TabOk.filter {l : List Ses} (h : TabOk l) (f : Ses → Bool) : TabOk (l.filter f) :=
  ⟨Nat.le_trans (List.length_filter_le _ _) h.len, fun s hs => h.one s (List.mem_filter.1 hs).1, h.ord.filter f⟩
theorem has_drop (l : List Ses) (c : Int) : hasT (dropT l c) c = false := by
  unfold hasT dropT
  rw [List.any_eq_false]
  intro x hx
  simp only [List.mem_filter, decide_eq_true_eq] at hx
  simp [hx.2]
theorem fresh_fresh (l : List Ses) {m n : Int} (h : m ≤ n) : freshT (freshT l m) n = freshT l n := by
  unfold freshT
  rw [List.filter_filter]
  refine List.filter_congr fun a _ => ?_
  by_cases h1 : n - 20 ≤ a.seen
  · have : m - 20 ≤ a.seen := by omega
    simp [h1, this]
  · simp [h1]
end Go.Proofs.Ytcnkljeniffmmaa
namespace Go.Proofs.Ytcnkljeniffmmaa
open Go.RowKit
set_option maxRecDepth 100000
set_option maxHeartbeats 4000000
theorem x_sessTrue (x0 : Option Loc) (x1 : Nat) (x2 : Nat) (x3 : Int) (x4 : Int) (x5 : Int) (x6 : Option Loc) (x7 : Nat) (x8 : Nat) (x9 : Int) (x10 : Int) (x11 : Int) (M : Nat → Prop) (H0 : Hp) (W0 : World) (R : Ending → World → Prop) (hH : H0.le (hpOf W0)) (h :
 (∀ b0 : Nat,
 (Cl Try.prog W0 M H0 nK 26 #[vsl x0 x1 x2, Value.agg #[vi x3, vi x4, vi x5, vsl x6 x7 x8]] fun z W1 W2 => ∃ x12 : Option Loc, ∃ x13 : Nat, ∃ x14 : Nat, ∃ x15 : Int, z = .returned (Value.tuple #[vsl x12 x13 x14, vi x15]) ∧ Fr W1 W2 H0 fun H1 =>
 ((x15 = 0 →
  (Cl Try.prog W0 M H1 nK 20 #[vsl x12 x13 x14, vi x3] fun z W3 W4 => ∃ x16 : Int, ∃ x17 : Int, ∃ x18 : Int, ∃ x19 : Option Loc, ∃ x20 : Nat, ∃ x21 : Nat, ∃ x22 : Bool, ∃ x23 : Int, z = .returned (Value.tuple #[Value.agg #[vi x16, vi x17, vi x18, vsl x19 x20 x21], vb (x22), vi x23]) ∧ Fr W3 W4 H1 fun H2 =>
  (∀ b1 : Nat,
  (Cl Try.prog W0 M H2 nK 20 #[vsl x0 x1 x2, vi x9] fun z W5 W6 => ∃ x24 : Int, ∃ x25 : Int, ∃ x26 : Int, ∃ x27 : Option Loc, ∃ x28 : Nat, ∃ x29 : Nat, ∃ x30 : Bool, ∃ x31 : Int, z = .returned (Value.tuple #[Value.agg #[vi x24, vi x25, vi x26, vsl x27 x28 x29], vb (x30), vi x31]) ∧ Fr W5 W6 H2 fun H3 =>
  (∀ b2 : Nat,
  (Cl Try.prog W0 M H3 nK 20 #[vsl x12 x13 x14, vi x9] fun z W7 W8 => ∃ x32 : Int, ∃ x33 : Int, ∃ x34 : Int, ∃ x35 : Option Loc, ∃ x36 : Nat, ∃ x37 : Nat, ∃ x38 : Bool, ∃ x39 : Int, z = .returned (Value.tuple #[Value.agg #[vi x32, vi x33, vi x34, vsl x35 x36 x37], vb (x38), vi x39]) ∧ Fr W7 W8 H3 fun H4 =>
  (∀ b3 : Nat,
  ((x23 = 0 →
   ((x31 = 0 →
    ((x39 = 0 →
     ((x22 = true →
      (Cl Try.prog W0 M H4 nK 25 #[Value.agg #[vi x16, vi x17, vi x18, vsl x19 x20 x21], Value.agg #[vi x3, vi x4, vi x5, vsl x6 x7 x8]] fun z W9 W10 => ∃ x40 : Bool, z = .returned (vb (x40)) ∧ Ext W9 W10 ∧
      ((x40 = true →
       ((x9 = x3 →
        (Cl Try.prog W0 M H4 nK 27 #[vsl x12 x13 x14, vi x3] fun z W11 W12 => ∃ x41 : Option Loc, ∃ x42 : Nat, ∃ x43 : Nat, ∃ x44 : Int, z = .returned (Value.tuple #[vsl x41 x42 x43, vi x44]) ∧ Fr W11 W12 H4 fun H5 =>
        (Cl Try.prog W0 M H5 nK 20 #[vsl x41 x42 x43, vi x3] fun z W13 W14 => ∃ x45 : Int, ∃ x46 : Int, ∃ x47 : Int, ∃ x48 : Option Loc, ∃ x49 : Nat, ∃ x50 : Nat, ∃ x51 : Bool, ∃ x52 : Int, z = .returned (Value.tuple #[Value.agg #[vi x45, vi x46, vi x47, vsl x48 x49 x50], vb (x51), vi x52]) ∧ Fr W13 W14 H5 fun H6 =>
        (∀ b4 : Nat,
        ((x44 = 0 →
         ((x52 = 0 →
          ((x51 = true →
           Rt R W0 M H6 nK (vb (false))) ∧
          (¬ (x51 = true) →
           (Cl Try.prog W0 M H6 nK 33 #[vi x10, vi 1000] fun z W15 W16 => ∃ x53 : Int, z = .returned (vi x53) ∧ Ext W15 W16 ∧
           (Cl Try.prog W0 M H6 nK 33 #[vi x11, vi 1000] fun z W17 W18 => ∃ x54 : Int, z = .returned (vi x54) ∧ Ext W17 W18 ∧
           (Cl Try.prog W0 M H6 nK 31 #[vsl x12 x13 x14, vi (if x54 < x53 then x54 else x53)] fun z W19 W20 => ∃ x55 : Option Loc, ∃ x56 : Nat, ∃ x57 : Nat, ∃ x58 : Int, z = .returned (Value.tuple #[vsl x55 x56 x57, vi x58]) ∧ Fr W19 W20 H6 fun H7 =>
           (Cl Try.prog W0 M H7 nK 31 #[vsl x55 x56 x57, vi (if x53 < x54 then x54 else x53)] fun z W21 W22 => ∃ x59 : Option Loc, ∃ x60 : Nat, ∃ x61 : Nat, ∃ x62 : Int, z = .returned (Value.tuple #[vsl x59 x60 x61, vi x62]) ∧ Fr W21 W22 H7 fun H8 =>
           (Cl Try.prog W0 M H8 nK 31 #[vsl x12 x13 x14, vi (if x53 < x54 then x54 else x53)] fun z W23 W24 => ∃ x63 : Option Loc, ∃ x64 : Nat, ∃ x65 : Nat, ∃ x66 : Int, z = .returned (Value.tuple #[vsl x63 x64 x65, vi x66]) ∧ Fr W23 W24 H8 fun H9 =>
           (Cl Try.prog W0 M H9 nK 22 #[] fun z W25 W26 => ∃ x67 : Bool, z = .returned (vb (x67)) ∧ Ext W25 W26 ∧
           ((x67 = true →
            ((x58 = 0 →
             ((x62 = 0 →
              ((x66 = 0 →
               (Cl Try.prog W0 M H9 nK 30 #[vsl x59 x60 x61, vsl x63 x64 x65] fun z W27 W28 => ∃ x68 : Bool, z = .returned (vb (x68)) ∧ Ext W27 W28 ∧
               ((x68 = true →
                (Cl Try.prog W0 M H9 nK 23 #[vsl x59 x60 x61] fun z W29 W30 => ∃ x69 : Int, z = .returned (vi x69) ∧ Ext W29 W30 ∧
                Rt R W0 M H9 nK (vb (decide (x69 = 0))))) ∧
               (¬ (x68 = true) →
                Rt R W0 M H9 nK (vb (false)))))) ∧
              (¬ (x66 = 0) →
               Rt R W0 M H9 nK (vb (false))))) ∧
             (¬ (x62 = 0) →
              Rt R W0 M H9 nK (vb (false))))) ∧
            (¬ (x58 = 0) →
             Rt R W0 M H9 nK (vb (false))))) ∧
           (¬ (x67 = true) →
            Rt R W0 M H9 nK (vb (false))))))))))))) ∧
         (¬ (x52 = 0) →
          Rt R W0 M H6 nK (vb (false))))) ∧
        (¬ (x44 = 0) →
         Rt R W0 M H6 nK (vb (false)))))))) ∧
       (¬ (x9 = x3) →
        (Es W0 M H4 nK fun W11 => ∃ x41 : Bool, Eo Try.prog (.bop .neq 4 (.tmp 92) (.tmp 93)) [vb (x30), vb (x38)] W11 (.value (vb (x41))) fun W12 => Ext W11 W12 ∧
        ((x41 = true →
         Rt R W0 M H4 nK (vb (false))) ∧
        (¬ (x41 = true) →
         (Cl Try.prog W0 M H4 nK 25 #[Value.agg #[vi x24, vi x25, vi x26, vsl x27 x28 x29], Value.agg #[vi x32, vi x33, vi x34, vsl x35 x36 x37]] fun z W13 W14 => ∃ x42 : Bool, z = .returned (vb (x42)) ∧ Ext W13 W14 ∧
         ((x42 = true →
          (Cl Try.prog W0 M H4 nK 27 #[vsl x12 x13 x14, vi x3] fun z W15 W16 => ∃ x43 : Option Loc, ∃ x44 : Nat, ∃ x45 : Nat, ∃ x46 : Int, z = .returned (Value.tuple #[vsl x43 x44 x45, vi x46]) ∧ Fr W15 W16 H4 fun H5 =>
          (Cl Try.prog W0 M H5 nK 20 #[vsl x43 x44 x45, vi x3] fun z W17 W18 => ∃ x47 : Int, ∃ x48 : Int, ∃ x49 : Int, ∃ x50 : Option Loc, ∃ x51 : Nat, ∃ x52 : Nat, ∃ x53 : Bool, ∃ x54 : Int, z = .returned (Value.tuple #[Value.agg #[vi x47, vi x48, vi x49, vsl x50 x51 x52], vb (x53), vi x54]) ∧ Fr W17 W18 H5 fun H6 =>
          (∀ b4 : Nat,
          ((x46 = 0 →
           ((x54 = 0 →
            ((x53 = true →
             Rt R W0 M H6 nK (vb (false))) ∧
            (¬ (x53 = true) →
             (Cl Try.prog W0 M H6 nK 33 #[vi x10, vi 1000] fun z W19 W20 => ∃ x55 : Int, z = .returned (vi x55) ∧ Ext W19 W20 ∧
             (Cl Try.prog W0 M H6 nK 33 #[vi x11, vi 1000] fun z W21 W22 => ∃ x56 : Int, z = .returned (vi x56) ∧ Ext W21 W22 ∧
             (Cl Try.prog W0 M H6 nK 31 #[vsl x12 x13 x14, vi (if x56 < x55 then x56 else x55)] fun z W23 W24 => ∃ x57 : Option Loc, ∃ x58 : Nat, ∃ x59 : Nat, ∃ x60 : Int, z = .returned (Value.tuple #[vsl x57 x58 x59, vi x60]) ∧ Fr W23 W24 H6 fun H7 =>
             (Cl Try.prog W0 M H7 nK 31 #[vsl x57 x58 x59, vi (if x55 < x56 then x56 else x55)] fun z W25 W26 => ∃ x61 : Option Loc, ∃ x62 : Nat, ∃ x63 : Nat, ∃ x64 : Int, z = .returned (Value.tuple #[vsl x61 x62 x63, vi x64]) ∧ Fr W25 W26 H7 fun H8 =>
             (Cl Try.prog W0 M H8 nK 31 #[vsl x12 x13 x14, vi (if x55 < x56 then x56 else x55)] fun z W27 W28 => ∃ x65 : Option Loc, ∃ x66 : Nat, ∃ x67 : Nat, ∃ x68 : Int, z = .returned (Value.tuple #[vsl x65 x66 x67, vi x68]) ∧ Fr W27 W28 H8 fun H9 =>
             (Cl Try.prog W0 M H9 nK 22 #[] fun z W29 W30 => ∃ x69 : Bool, z = .returned (vb (x69)) ∧ Ext W29 W30 ∧
             ((x69 = true →
              ((x60 = 0 →
               ((x64 = 0 →
                ((x68 = 0 →
                 (Cl Try.prog W0 M H9 nK 30 #[vsl x61 x62 x63, vsl x65 x66 x67] fun z W31 W32 => ∃ x70 : Bool, z = .returned (vb (x70)) ∧ Ext W31 W32 ∧
                 ((x70 = true →
                  (Cl Try.prog W0 M H9 nK 23 #[vsl x61 x62 x63] fun z W33 W34 => ∃ x71 : Int, z = .returned (vi x71) ∧ Ext W33 W34 ∧
                  Rt R W0 M H9 nK (vb (decide (x71 = 0))))) ∧
                 (¬ (x70 = true) →
                  Rt R W0 M H9 nK (vb (false)))))) ∧
                (¬ (x68 = 0) →
                 Rt R W0 M H9 nK (vb (false))))) ∧
               (¬ (x64 = 0) →
                Rt R W0 M H9 nK (vb (false))))) ∧
              (¬ (x60 = 0) →
               Rt R W0 M H9 nK (vb (false))))) ∧
             (¬ (x69 = true) →
              Rt R W0 M H9 nK (vb (false))))))))))))) ∧
           (¬ (x54 = 0) →
            Rt R W0 M H6 nK (vb (false))))) ∧
          (¬ (x46 = 0) →
           Rt R W0 M H6 nK (vb (false)))))))) ∧
         (¬ (x42 = true) →
          Rt R W0 M H4 nK (vb (false))))))))))) ∧
      (¬ (x40 = true) →
       Rt R W0 M H4 nK (vb (false)))))) ∧
     (¬ (x22 = true) →
      Rt R W0 M H4 nK (vb (false))))) ∧
    (¬ (x39 = 0) →
     Rt R W0 M H4 nK (vb (false))))) ∧
   (¬ (x31 = 0) →
    Rt R W0 M H4 nK (vb (false))))) ∧
  (¬ (x23 = 0) →
   Rt R W0 M H4 nK (vb (false))))))))))) ∧
 (¬ (x15 = 0) →
  (Cl Try.prog W0 M H1 nK 22 #[] fun z W3 W4 => ∃ x16 : Bool, z = .returned (vb (x16)) ∧ Ext W3 W4 ∧
  Rt R W0 M H1 nK (vb (x16)))))))) :
  Calls Try.prog 9 #[vsl x0 x1 x2, Value.agg #[vi x3, vi x4, vi x5, vsl x6 x7 x8], vi x9, vi x10, vi x11] W0 R :=
  calls_sx (M := M) (args := [.slO 0 (.k 0) (.v 1) (.v 2), .agg [.int .i64 (.v 3), .int .i64 (.v 4), .int .i64 (.v 5), .slO 6 (.k 0) (.v 7) (.v 8)], .int .i64 (.v 9), .int .i64 (.v 10), .int .i64 (.v 11)]) (nv := 12) (e := (upd (upd (upd (upd (upd (upd (upd (upd (upd (upd (upd (upd (fun _ => .i 0) 0 (.p x0)) 1 (.n x1)) 2 (.n x2)) 3 (.i x3)) 4 (.i x4)) 5 (.i x5)) 6 (.p x6)) 7 (.n x7)) 8 (.n x8)) 9 (.i x9)) 10 (.i x10)) 11 (.i x11))) Try.func9 {} hH (vc_of h (by kernel_rfl))
end Go.Proofs.Ytcnkljeniffmmaa
namespace Go.Proofs.Ytcnkljeniffmmaa
open Go.RowKit

def chooseI (c n : Int) : Int := Int.tmod (if c < 0 then 0 - (c + 1) else c) n
theorem choose_in (c n : Int) (hn : 0 < n) : 0 ≤ chooseI c n ∧ chooseI c n < n := by
  unfold chooseI
  have h0 : 0 ≤ (if c < 0 then 0 - (c + 1) else c) := by split <;> omega
  generalize (if c < 0 then 0 - (c + 1) else c) = d at h0
  rw [Int.tmod_eq_emod_of_nonneg h0]
  exact ⟨Int.emod_nonneg _ (by omega), Int.emod_lt_of_pos _ hn⟩
theorem ek_rem (x y : Operand) (a b : Int) (hb : b ≠ 0) (w : World) : (EK.sem (.bop .rem 3 x y) [vi a, vi b]).run Try.prog w = .ok (.value (vi (Int.tmod a b))) w := by
  simp [EK.sem, eqGuard, binOp, Op.intDiv, hb]
theorem c_choose (c n : Int) (hn : 0 < n) (hc : -9223372036854775808 ≤ c ∧ c ≤ 9223372036854775807) (H : Hp) : Gv Try.prog 33 #[vi c, vi n] H (vi (chooseI c n)) := fun W hH => by
  refine x_choose c n noM H W _ hH ⟨fun h => ⟨in64 (by omega), fun _ => ⟨in64 (by omega), fun _ => ?_⟩⟩, fun h => ?_⟩
  · unfold chooseI
    rw [if_pos h]
    exact fun W1 n1 _ => ⟨_, _, ek_rem _ _ _ _ (by omega) _, Ext.refl _, Rt.gv⟩
  · unfold chooseI
    rw [if_neg h]
    exact fun W1 n1 _ => ⟨_, _, ek_rem _ _ _ _ (by omega) _, Ext.refl _, Rt.gv⟩
set_option maxHeartbeats 2000000 in
theorem c_sessTrue {H : Hp} {p : Option Loc} {n c : Nat} {l : List Ses} (hT : Tab H p n c l) {s : Ses} {q0 : Option Loc} {m0 d0 : Nat} (hk : Kept H q0 m0 d0 s.kept) (o a b : Int)
    (ha : -9223372036854775808 ≤ a ∧ a ≤ 9223372036854775807) (hb : -9223372036854775808 ≤ b ∧ b ≤ 9223372036854775807) :
    Gv Try.prog 9 #[vsl p n c, .agg #[vi s.client, vi s.acked, vi s.seen, vsl q0 m0 d0], vi o, vi a, vi b] H (vb true) := fun W hH => by
  refine x_sessTrue p n c _ _ _ q0 m0 d0 o a b noM H W _ hH ?_
  intro b0
  refine Cl.fresh (c_put hT hk) ?_
  rintro v W1 W2 D ⟨p1, n1, c1, rfl, tx⟩ hx hD hf n
  refine ⟨p1, n1, c1, _, rfl, hx, D, hD, hf, fun H1 le1 hD1 => ⟨fun hok => ?_, fun _ => ?_⟩⟩
  case refine_2 => exact Cl.same (c_sessBegun H1) fun _ _ hx => ⟨_, rfl, hx, Rt.gv⟩
  obtain ⟨hl0, hs0, hput, tok⟩ := sPut_ok hok
  rw [hput] at tx
  replace tx := tx.mono hD1
  replace hT := hT.mono le1
  replace hk := hk.mono le1
  have fd1 : sFind (putT l s) s.client = (s, true, 0) := by unfold sFind; rw [if_pos (tabErr_ok.2 tok), (find_put l s).1, (find_put l s).2]
  have fd2 : ∀ x, sFind l x = (findT l x, hasT l x, 0) := fun x => by unfold sFind; rw [if_pos hl0]
  have fd3 : ∀ x, sFind (putT l s) x = (findT (putT l s) x, hasT (putT l s) x, 0) := fun x => by unfold sFind; rw [if_pos (tabErr_ok.2 tok)]
  have dro : sDrop (putT l s) s.client = (dropT (putT l s) s.client, 0) := by unfold sDrop; rw [if_pos (tabErr_ok.2 tok), if_pos (find_put l s).2]
  have hdz : tabErr (dropT (putT l s) s.client) = 0 := tabErr_ok.2 (tok.filter _)
  have fdd : sFind (dropT (putT l s) s.client) s.client = (findT (dropT (putT l s) s.client) s.client, hasT (dropT (putT l s) s.client) s.client, 0) := by unfold sFind; rw [if_pos hdz]
  refine Cl.fresh (c_find tx s.client) ?_
  rintro v W1 W2 D ⟨q2, m2, d2, rfl, k2⟩ hx hD hf n
  rw [fd1] at k2 ⊢
  refine ⟨_, _, _, q2, m2, d2, _, _, rfl, hx, D, hD, hf, fun H2 le2 hD2 => ?_⟩
  replace k2 := k2.mono hD2
  replace tx := tx.mono le2
  replace hT := hT.mono le2
  replace hk := hk.mono le2
  intro b1
  refine Cl.fresh (c_find hT o) ?_
  rintro v W1 W2 D ⟨q3, m3, d3, rfl, k3⟩ hx hD hf n
  rw [fd2] at k3 ⊢
  refine ⟨_, _, _, q3, m3, d3, _, _, rfl, hx, D, hD, hf, fun H3 le3 hD3 => ?_⟩
  replace k2 := k2.mono le3
  replace k3 := k3.mono hD3
  replace tx := tx.mono le3
  replace hk := hk.mono le3
  intro b2
  refine Cl.fresh (c_find tx o) ?_
  rintro v W1 W2 D ⟨q4, m4, d4, rfl, k4⟩ hx hD hf n
  rw [fd3] at k4 ⊢
  refine ⟨_, _, _, q4, m4, d4, _, _, rfl, hx, D, hD, hf, fun H4 le4 hD4 => ?_⟩
  replace k2 := k2.mono le4
  replace k3 := k3.mono le4
  replace k4 := k4.mono hD4
  replace tx := tx.mono le4
  replace hk := hk.mono le4
  intro b3
  refine ⟨fun _ => ⟨fun _ => ⟨fun _ => ⟨fun _ => ?_, fun h => absurd rfl h⟩, fun h => absurd rfl h⟩, fun h => absurd rfl h⟩, fun h => absurd rfl h⟩
  refine Cl.same (c_sameSession k2 hk) fun _ _ hx => ⟨_, rfl, hx, fun _ => ⟨fun ho => ?_, fun ho => ?_⟩, fun h => absurd (by simp) h⟩
  · -- dropped
    refine Cl.fresh (c_drop tx s.client) ?_
    rintro v W1 W2 D ⟨p5, n5, c5, rfl, t5⟩ hx hD hf n
    rw [dro] at t5 ⊢
    refine ⟨p5, n5, c5, _, rfl, hx, D, hD, hf, fun H5 le5 hD5 => ?_⟩
    replace t5 := t5.mono hD5
    replace tx := tx.mono le5
    refine Cl.fresh (c_find t5 s.client) ?_
    rintro v W1 W2 D ⟨q6, m6, d6, rfl, k6⟩ hx hD hf n
    rw [fdd] at k6 ⊢
    refine ⟨_, _, _, q6, m6, d6, _, _, rfl, hx, D, hD, hf, fun H6 le6 hD6 => ?_⟩
    replace tx := tx.mono le6
    intro b4
    refine ⟨fun _ => ⟨fun _ => ⟨fun h => ?_, fun _ => ?_⟩, fun h => absurd rfl h⟩, fun h => absurd rfl h⟩
    · rw [has_drop] at h; cases h
    refine Cl.same (c_choose a 1000 (by omega) ha H6) fun _ _ hx => ⟨_, rfl, hx, ?_⟩
    refine Cl.same (c_choose b 1000 (by omega) hb H6) fun _ _ hx => ⟨_, rfl, hx, ?_⟩
    obtain ⟨ra1, ra2⟩ := choose_in a 1000 (by omega)
    obtain ⟨rb1, rb2⟩ := choose_in b 1000 (by omega)
    generalize chooseI a 1000 = ca at ra1 ra2 ⊢
    generalize chooseI b 1000 = cb at rb1 rb2 ⊢
    generalize hmn : (if cb < ca then cb else ca) = mn
    generalize hmx : (if ca < cb then cb else ca) = mx
    have hle : mn ≤ mx := by subst hmn hmx; split <;> split <;> omega
    have hm0 : 0 ≤ mn ∧ mx ≤ 999 := by subst hmn hmx; split <;> split <;> omega
    have f1 : sFresh (putT l s) mn = (freshT (putT l s) mn, 0) := by unfold sFresh; rw [if_pos (tabErr_ok.2 tok), if_neg (by omega)]
    have f2 : sFresh (freshT (putT l s) mn) mx = (freshT (putT l s) mx, 0) := by unfold sFresh; rw [if_pos (show tabErr (freshT (putT l s) mn) = 0 from tabErr_ok.2 (tok.filter _)), if_neg (by omega), fresh_fresh _ hle]
    have f3 : sFresh (putT l s) mx = (freshT (putT l s) mx, 0) := by unfold sFresh; rw [if_pos (tabErr_ok.2 tok), if_neg (by omega)]
    refine Cl.fresh (c_sfresh tx mn) ?_
    rintro v W1 W2 D ⟨p7, n7, c7, rfl, t7⟩ hx hD hf n
    rw [f1] at t7 ⊢
    refine ⟨p7, n7, c7, _, rfl, hx, D, hD, hf, fun H7 le7 hD7 => ?_⟩
    replace t7 := t7.mono hD7
    replace tx := tx.mono le7
    refine Cl.fresh (c_sfresh t7 mx) ?_
    rintro v W1 W2 D ⟨p8, n8, c8, rfl, t8⟩ hx hD hf n
    rw [f2] at t8 ⊢
    refine ⟨p8, n8, c8, _, rfl, hx, D, hD, hf, fun H8 le8 hD8 => ?_⟩
    replace t8 := t8.mono hD8
    replace tx := tx.mono le8
    refine Cl.fresh (c_sfresh tx mx) ?_
    rintro v W1 W2 D ⟨p9, n9, c9, rfl, t9⟩ hx hD hf n
    rw [f3] at t9 ⊢
    refine ⟨p9, n9, c9, _, rfl, hx, D, hD, hf, fun H9 le9 hD9 => ?_⟩
    replace t9 := t9.mono hD9
    replace t8 := t8.mono le9
    refine Cl.same (c_sessBegun H9) fun _ _ hx => ⟨_, rfl, hx, fun _ => ⟨fun _ => ⟨fun _ => ⟨fun _ => ?_, fun h => absurd rfl h⟩, fun h => absurd rfl h⟩, fun h => absurd rfl h⟩, fun h => absurd rfl h⟩
    refine Cl.same (c_sameT t8 t9) fun _ _ hx => ⟨_, rfl, hx, fun _ => ?_, fun h => absurd (by simp) h⟩
    refine Cl.same (c_check t8) fun _ _ hx => ⟨_, rfl, hx, ?_⟩
    have hz : tabErr (freshT (putT l s) mx) = 0 := tabErr_ok.2 (tok.filter _)
    rw [hz]
    exact Rt.gv' (by simp)
  · have ho' := find_other l s o ho
    intro W5 n5 _
    refine ⟨_, _, ek_ne_bool _ _ _ _ _, Ext.refl _, fun h => ?_, fun _ => ?_⟩
    · rw [ho'.2] at h; simp at h
    refine Cl.same (c_sameSession k3 k4) fun _ _ hx => ⟨_, rfl, hx, fun _ => ?_, fun h => absurd (by rw [ho'.1]; simp) h⟩
    -- dropped
    refine Cl.fresh (c_drop tx s.client) ?_
    rintro v W1 W2 D ⟨p5, n5, c5, rfl, t5⟩ hx hD hf n
    rw [dro] at t5 ⊢
    refine ⟨p5, n5, c5, _, rfl, hx, D, hD, hf, fun H5 le5 hD5 => ?_⟩
    replace t5 := t5.mono hD5
    replace tx := tx.mono le5
    refine Cl.fresh (c_find t5 s.client) ?_
    rintro v W1 W2 D ⟨q6, m6, d6, rfl, k6⟩ hx hD hf n
    rw [fdd] at k6 ⊢
    refine ⟨_, _, _, q6, m6, d6, _, _, rfl, hx, D, hD, hf, fun H6 le6 hD6 => ?_⟩
    replace tx := tx.mono le6
    intro b4
    refine ⟨fun _ => ⟨fun _ => ⟨fun h => ?_, fun _ => ?_⟩, fun h => absurd rfl h⟩, fun h => absurd rfl h⟩
    · rw [has_drop] at h; cases h
    refine Cl.same (c_choose a 1000 (by omega) ha H6) fun _ _ hx => ⟨_, rfl, hx, ?_⟩
    refine Cl.same (c_choose b 1000 (by omega) hb H6) fun _ _ hx => ⟨_, rfl, hx, ?_⟩
    obtain ⟨ra1, ra2⟩ := choose_in a 1000 (by omega)
    obtain ⟨rb1, rb2⟩ := choose_in b 1000 (by omega)
    generalize chooseI a 1000 = ca at ra1 ra2 ⊢
    generalize chooseI b 1000 = cb at rb1 rb2 ⊢
    generalize hmn : (if cb < ca then cb else ca) = mn
    generalize hmx : (if ca < cb then cb else ca) = mx
    have hle : mn ≤ mx := by subst hmn hmx; split <;> split <;> omega
    have hm0 : 0 ≤ mn ∧ mx ≤ 999 := by subst hmn hmx; split <;> split <;> omega
    have f1 : sFresh (putT l s) mn = (freshT (putT l s) mn, 0) := by unfold sFresh; rw [if_pos (tabErr_ok.2 tok), if_neg (by omega)]
    have f2 : sFresh (freshT (putT l s) mn) mx = (freshT (putT l s) mx, 0) := by unfold sFresh; rw [if_pos (show tabErr (freshT (putT l s) mn) = 0 from tabErr_ok.2 (tok.filter _)), if_neg (by omega), fresh_fresh _ hle]
    have f3 : sFresh (putT l s) mx = (freshT (putT l s) mx, 0) := by unfold sFresh; rw [if_pos (tabErr_ok.2 tok), if_neg (by omega)]
    refine Cl.fresh (c_sfresh tx mn) ?_
    rintro v W1 W2 D ⟨p7, n7, c7, rfl, t7⟩ hx hD hf n
    rw [f1] at t7 ⊢
    refine ⟨p7, n7, c7, _, rfl, hx, D, hD, hf, fun H7 le7 hD7 => ?_⟩
    replace t7 := t7.mono hD7
    replace tx := tx.mono le7
    refine Cl.fresh (c_sfresh t7 mx) ?_
    rintro v W1 W2 D ⟨p8, n8, c8, rfl, t8⟩ hx hD hf n
    rw [f2] at t8 ⊢
    refine ⟨p8, n8, c8, _, rfl, hx, D, hD, hf, fun H8 le8 hD8 => ?_⟩
    replace t8 := t8.mono hD8
    replace tx := tx.mono le8
    refine Cl.fresh (c_sfresh tx mx) ?_
    rintro v W1 W2 D ⟨p9, n9, c9, rfl, t9⟩ hx hD hf n
    rw [f3] at t9 ⊢
    refine ⟨p9, n9, c9, _, rfl, hx, D, hD, hf, fun H9 le9 hD9 => ?_⟩
    replace t9 := t9.mono hD9
    replace t8 := t8.mono le9
    refine Cl.same (c_sessBegun H9) fun _ _ hx => ⟨_, rfl, hx, fun _ => ⟨fun _ => ⟨fun _ => ⟨fun _ => ?_, fun h => absurd rfl h⟩, fun h => absurd rfl h⟩, fun h => absurd rfl h⟩, fun h => absurd rfl h⟩
    refine Cl.same (c_sameT t8 t9) fun _ _ hx => ⟨_, rfl, hx, fun _ => ?_, fun h => absurd (by simp) h⟩
    refine Cl.same (c_check t8) fun _ _ hx => ⟨_, rfl, hx, ?_⟩
    have hz : tabErr (freshT (putT l s) mx) = 0 := tabErr_ok.2 (tok.filter _)
    rw [hz]
    exact Rt.gv' (by simp)
end Go.Proofs.Ytcnkljeniffmmaa
