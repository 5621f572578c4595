/- States as plain data. No program in sight. No conditions. Symbolic runs of functions: what each leaves to prove is enough for its call. Printed by a program of ours. No conditions. Contracts: what checks a state, what compares two. No conditions. -/
import Derived.Test.YtfpmcmhihhnfgaaGreatKD1
import Derived.Test.YtfpmcmhihhnfgaaGreatKE3
import Derived.Test.YtfpmcmhihhnfgaaGreatProg
import Derived.Test.YtfpmcmhihhnfgaaGreatKS3
import Derived.Test.YtfpmcmhihhnfgaaGreatKO1
import Derived.Test.YtfpmcmhihhnfgaaGreatKO2
set_option linter.unusedVariables false
set_option linter.unusedSimpArgs false
namespace Go.Proofs.YtfpmcmhihhnfgaaGreat

structure Sta where
  pos : Int
  clock : Int
  vals : V4
  table : List Ses
  deriving DecidableEq
/-- seen too late, or too long ago -/
def late (clock : Int) (s : Ses) : Bool := decide (clock < s.seen ∨ s.seen < clock - 20)
def Sta.err (s : Sta) : Int :=
  if s.pos < 0 ∨ 50 < s.pos ∨ s.clock < 0 ∨ 999 < s.clock ∨ s.vals.ok = false then 3
  else if tabErr s.table = 0 then (if s.table.any (late s.clock) = true then 1 else 0) else tabErr s.table
def Sta.zero : Sta := ⟨0, 0, V4.zero, []⟩
theorem Sta.eq_iff (s t : Sta) : s = t ↔ s.pos = t.pos ∧ s.clock = t.clock ∧ s.vals = t.vals ∧ s.table = t.table := by cases s; cases t; simp
/-- a right state -/
structure StOk (s : Sta) : Prop where
  pos : 0 ≤ s.pos ∧ s.pos ≤ 50
  clock : 0 ≤ s.clock ∧ s.clock ≤ 999
  vals : s.vals.ok = true
  table : TabOk s.table
  seen : ∀ x ∈ s.table, s.clock - 20 ≤ x.seen ∧ x.seen ≤ s.clock
theorem Sta.err_ok {s : Sta} : s.err = 0 ↔ StOk s := by
  unfold Sta.err
  constructor
  · intro h
    split at h
    · cases h
    · rename_i h1
      split at h
      · rename_i h2
        split at h
        · cases h
        · rename_i h3
          refine ⟨by omega, by omega, by cases hv : s.vals.ok <;> simp_all, tabErr_ok.1 h2, fun x hx => ?_⟩
          simp only [List.any_eq_true, not_exists, not_and] at h3
          have := h3 x hx
          simp only [late, decide_eq_true_eq] at this
          omega
      · rename_i h2; exact absurd h h2
  · intro h
    have h1 := h.pos; have h2 := h.clock
    rw [if_neg (by rw [h.vals]; simp; omega), if_pos (tabErr_ok.2 h.table), if_neg]
    simp only [List.any_eq_true, not_exists, not_and]
    intro x hx
    have := h.seen x hx
    simp only [late, decide_eq_true_eq]
    omega
theorem st_range {s : Sta} (h : s.pos < 0 ∨ 50 < s.pos ∨ s.clock < 0 ∨ 999 < s.clock ∨ s.vals.ok = false) : s.err = 3 := by unfold Sta.err; rw [if_pos h]
theorem st_tab {s : Sta} (h : ¬ (s.pos < 0 ∨ 50 < s.pos ∨ s.clock < 0 ∨ 999 < s.clock ∨ s.vals.ok = false)) (h2 : ¬ tabErr s.table = 0) : s.err = tabErr s.table := by unfold Sta.err; rw [if_neg h, if_neg h2]
theorem st_late {s : Sta} (h : ¬ (s.pos < 0 ∨ 50 < s.pos ∨ s.clock < 0 ∨ 999 < s.clock ∨ s.vals.ok = false)) (h2 : tabErr s.table = 0) : s.err = if s.table.any (late s.clock) = true then 1 else 0 := by unfold Sta.err; rw [if_neg h, if_pos h2]
end Go.Proofs.YtfpmcmhihhnfgaaGreat
namespace Go.Proofs.YtfpmcmhihhnfgaaGreat
open Go.RowKit
set_option maxRecDepth 100000
set_option maxHeartbeats 4000000
def v_stCheck : VC :=
(.all 0
(.ite (.lt (.v 0) (.k 0))
(.ret (.int .i64 (.k 3)) [])
(.ite (.lt (.k 50) (.v 0))
(.ret (.int .i64 (.k 3)) [])
(.ite (.lt (.v 1) (.k 0))
(.ret (.int .i64 (.k 3)) [])
(.ite (.lt (.k 999) (.v 1))
(.ret (.int .i64 (.k 3)) [])
(.call 57 [.agg [vI 2, vI 3, vI 4, vI 5]] [] [(9, .b)] (.bool (.v 9)) .same
(.ite (.v 9)
(.call 58 [vS 6] [] [(10, .i)] (vI 10) .same
(.ite (.eq (.v 10) (.k 0))
(.call 59 [vS 6, .func 60 [] [.ptrK 0 0]] [(0, ⟨[vI 0, vI 1, vI 2, vI 3, vI 4, vI 5, vS 6], 25⟩)] [(11, .b)] (.bool (.v 11)) .same
(.ite (.v 11)
(.ret (.int .i64 (.k 1)) [])
(.ret (.int .i64 (.k 0)) [])))
(.ret (vI 10) [])))
(.ret (.int .i64 (.k 3)) []))))))))
theorem x_stCheck (x0 x1 x2 x3 x4 x5 : Int) (x6 : Option Loc) (x7 x8 : Nat) (M : Nat → Prop) (H0 : Hp) (W0 : World) (R : Ending → World → Prop) (hH : H0.le (hpOf W0)) (h :
 (∀ b0 : Nat,
 ((x0 < 0 →
  Rt R W0 M H0 nK (vi 3)) ∧
 (¬ (x0 < 0) →
  ((50 < x0 →
   Rt R W0 M H0 nK (vi 3)) ∧
  (¬ (50 < x0) →
   ((x1 < 0 →
    Rt R W0 M H0 nK (vi 3)) ∧
   (¬ (x1 < 0) →
    ((999 < x1 →
     Rt R W0 M H0 nK (vi 3)) ∧
    (¬ (999 < x1) →
     (Cl Tryz.prog W0 M H0 nK 57 #[Value.agg #[vi x2, vi x3, vi x4, vi x5]] fun z W1 W2 => ∃ x9 : Bool, z = .returned (vb (x9)) ∧ Ext W1 W2 ∧
     ((x9 = true →
      (Cl Tryz.prog W0 M H0 nK 58 #[vsl x6 x7 x8] fun z W3 W4 => ∃ x10 : Int, z = .returned (vi x10) ∧ Ext W3 W4 ∧
      ((x10 = 0 →
       (Cl Tryz.prog W0 M H0 (fun W => Kn W0 M H0 W b0 (Obj.cells #[vi x0, vi x1, vi x2, vi x3, vi x4, vi x5, vsl x6 x7 x8] 25 (0, 0)) ∧ True) 59 #[vsl x6 x7 x8, Value.func (.func 60) #[] #[Value.pointer (some ⟨b0, 0, none⟩)]] fun z W5 W6 => ∃ x11 : Bool, z = .returned (vb (x11)) ∧ Ext W5 W6 ∧
       ((x11 = true →
        Rt R W0 M H0 nK (vi 1)) ∧
       (¬ (x11 = true) →
        Rt R W0 M H0 nK (vi 0))))) ∧
      (¬ (x10 = 0) →
       Rt R W0 M H0 nK (vi x10))))) ∧
     (¬ (x9 = true) →
      Rt R W0 M H0 nK (vi 3)))))))))))))) :
  Calls Tryz.prog 41 #[Value.agg #[vi x0, vi x1, vi x2, vi x3, vi x4, vi x5, vsl x6 x7 x8]] W0 R :=
  calls_sxA (M := M) (V := v_stCheck) (hi := {}) (args := [.agg [vI 0, vI 1, vI 2, vI 3, vI 4, vI 5, vS 6]]) (nv := 9) (e := (upd (upd (upd (upd (upd (upd (upd (upd (upd (fun _ => .i 0) 0 (.i x0)) 1 (.i x1)) 2 (.i x2)) 3 (.i x3)) 4 (.i x4)) 5 (.i x5)) 6 (.p x6)) 7 (.n x7)) 8 (.n x8))) Tryz.func41 hH h (by kernel_rfl) (by kernel_rfl) (by kernel_rfl)
def v_chk1 : VC :=
(.all 0
(.chk (.isp 6)
(.ld 6 (.add (.k 0) (.k 1)) [vI 7] [(7, .i)]
(.ite (.lt (.v 7) (.v 2))
(.ret (.bool (.k true)) [])
(.ld 6 (.add (.k 0) (.k 1)) [vI 8] [(8, .i)]
(.chk (.rng .i64 (.sub (.v 8) (.k 20)))
(.ret (.bool (.lt (.v 2) (.sub (.v 8) (.k 20)))) [])))))))
theorem x_chk1 (x0 x1 x2 : Int) (x3 : Option Loc) (x4 x5 : Nat) (x6 : Option Loc) (M : Nat → Prop) (H0 : Hp) (W0 : World) (R : Ending → World → Prop) (hH : H0.le (hpOf W0)) (h :
 (∀ b0 : Nat,
 (x6.isSome = true ∧ (x6.isSome = true →
 (∃ x7 : Int, RowAt H0 x6 (0 + 1) [vi x7] ∧
 ((x7 < x2 →
  Rt R W0 M H0 nK (vb (true))) ∧
 (¬ (x7 < x2) →
  (∃ x8 : Int, RowAt H0 x6 (0 + 1) [vi x8] ∧
  (inKind .i64 (x8 - 20) ∧ (inKind .i64 (x8 - 20) →
  Rt R W0 M H0 nK (vb (decide (x2 < (x8 - 20)))))))))))))) :
  Calls Tryz.prog 60 #[Value.agg #[vi x0, vi x1, vi x2, vsl x3 x4 x5], Value.pointer (ptrAt x6 0)] W0 R :=
  calls_sxA (M := M) (V := v_chk1) (hi := {}) (args := [.agg [vI 0, vI 1, vI 2, vS 3], .ptrO 6 (.k 0)]) (nv := 7) (e := (upd (upd (upd (upd (upd (upd (upd (fun _ => .i 0) 0 (.i x0)) 1 (.i x1)) 2 (.i x2)) 3 (.p x3)) 4 (.n x4)) 5 (.n x5)) 6 (.p x6))) Tryz.func60 hH h (by kernel_rfl) (by kernel_rfl) (by kernel_rfl)
def v_indexC : VC :=
(.chk (.le (.k 0) (.v 1))
(.loop [(4, .i)] [.i (.k 0)] [.i (.v 4)]
(.ite (.lt (.v 4) (.v 1))
(.chk (.idx (.v 4) (.v 1))
(.chk (.isp 0)
(.ld 0 (.add (.k 0) (.mul (.v 4) (.k 4))) [vI 5, vI 6, vI 7, vS 8] [(5, .i), (6, .i), (7, .i), (8, .p), (9, .n), (10, .n)]
(.call 60 [.agg [vI 5, vI 6, vI 7, vS 8], .ptrO 3 (.k 0)] [] [(11, .b)] (.bool (.v 11)) .same
(.ite (.v 11)
(.ret (vI 4) [])
(.chk (.rng .i64 (.add (.v 4) (.k 1)))
(.back 0 [.i (.add (.v 4) (.k 1))])))))))
(.ret (.int .i64 (.k (-1))) []))))
theorem x_indexC (x0 : Option Loc) (x1 x2 : Nat) (x3 : Option Loc) (M : Nat → Prop) (H0 : Hp) (W0 : World) (R : Ending → World → Prop) (hH : H0.le (hpOf W0)) (h :
 (0 ≤ (x1 : Int) ∧ (0 ≤ (x1 : Int) →
 (∃ (I0 : List Dat → Hp → Prop) (μ0 : List Dat → Nat), I0 [.i 0] H0 ∧ ∀ H1 : Hp, ∀ x4 : Int, I0 [.i x4] H1 →
  ((x4 < (x1 : Int) →
   (((0 : Int) ≤ x4 ∧ x4 < (x1 : Int)) ∧ (((0 : Int) ≤ x4 ∧ x4 < (x1 : Int)) →
   (x0.isSome = true ∧ (x0.isSome = true →
   (∃ (x5 x6 x7 : Int) (x8 : Option Loc) (x9 x10 : Nat), RowAt H1 x0 (0 + (x4 * 4)) [vi x5, vi x6, vi x7, vsl x8 x9 x10] ∧
   (Cl Tryz.prog W0 M H1 nK 60 #[Value.agg #[vi x5, vi x6, vi x7, vsl x8 x9 x10], Value.pointer (ptrAt x3 0)] fun z W1 W2 => ∃ x11 : Bool, z = .returned (vb (x11)) ∧ Ext W1 W2 ∧
   ((x11 = true →
    Rt R W0 M H1 nK (vi x4)) ∧
   (¬ (x11 = true) →
    (inKind .i64 (x4 + 1) ∧ (inKind .i64 (x4 + 1) →
    (I0 [.i (x4 + 1)] H1 ∧ μ0 [.i (x4 + 1)] < μ0 [.i x4])))))))))))) ∧
  (¬ (x4 < (x1 : Int)) →
   Rt R W0 M H1 nK (vi (-1)))))))) :
  Calls Tryz.prog 77 #[vsl x0 x1 x2, Value.func (.func 60) #[] #[Value.pointer (ptrAt x3 0)]] W0 R :=
  calls_sxA (M := M) (V := v_indexC) (hi := {loops := [(2, .inv [(8, .pt (.int .i64))] [])]}) (args := [vS 0, .func 60 [] [.ptrO 3 (.k 0)]]) (nv := 4) (e := (upd (upd (upd (upd (fun _ => .i 0) 0 (.p x0)) 1 (.n x1)) 2 (.n x2)) 3 (.p x3))) Tryz.func77 hH h (by kernel_rfl) (by kernel_rfl) (by kernel_rfl)
def v_containsC : VC :=
(.call 77 [vS 0, .func 60 [] [.ptrO 3 (.k 0)]] [] [(4, .i)] (vI 4) .same
(.ret (.bool (.le (.k 0) (.v 4))) []))
theorem x_containsC (x0 : Option Loc) (x1 x2 : Nat) (x3 : Option Loc) (M : Nat → Prop) (H0 : Hp) (W0 : World) (R : Ending → World → Prop) (hH : H0.le (hpOf W0)) (h :
 (Cl Tryz.prog W0 M H0 nK 77 #[vsl x0 x1 x2, Value.func (.func 60) #[] #[Value.pointer (ptrAt x3 0)]] fun z W1 W2 => ∃ x4 : Int, z = .returned (vi x4) ∧ Ext W1 W2 ∧
 Rt R W0 M H0 nK (vb (decide (0 ≤ x4))))) :
  Calls Tryz.prog 59 #[vsl x0 x1 x2, Value.func (.func 60) #[] #[Value.pointer (ptrAt x3 0)]] W0 R :=
  calls_sxA (M := M) (V := v_containsC) (hi := {}) (args := [vS 0, .func 60 [] [.ptrO 3 (.k 0)]]) (nv := 4) (e := (upd (upd (upd (upd (fun _ => .i 0) 0 (.p x0)) 1 (.n x1)) 2 (.n x2)) 3 (.p x3))) Tryz.func59 hH h (by kernel_rfl) (by kernel_rfl) (by kernel_rfl)
def v_stErr : VC :=
(.all 0
(.call 33 [vI 0, .int .i64 (.k 0), .int .i64 (.k 50)] [] [(9, .b)] (.bool (.v 9)) .same
(.ite (.v 9)
(.call 33 [vI 1, .int .i64 (.k 0), .int .i64 (.k 999)] [] [(10, .b)] (.bool (.v 10)) .same
(.ite (.v 10)
(.call 38 [.agg [vI 2, vI 3, vI 4, vI 5]] [] [(11, .b)] (.bool (.v 11)) .same
(.ite (.v 11)
(.call 39 [vS 6] [] [(12, .i)] (vI 12) .same
(.ite (.eq (.v 12) (.k 0))
(.loop [(13, .n)] [.n (.k 0)] [.n (.v 13)]
(.chk (.le (.k 0) (.v 7))
(.ite (.lt (.v 13) (.v 7))
(.chk (.idx (.v 13) (.v 7))
(.chk (.isp 6)
(.chk (.le (.k 0) (.add (.k 0) (.mul (.v 13) (.k 4))))
(.ld 6 (.add (.add (.k 0) (.mul (.v 13) (.k 4))) (.k 2)) [vI 14] [(14, .i)]
(.chk (.rng .i64 (.sub (.v 1) (.k 20)))
(.call 33 [vI 14, .int .i64 (.sub (.v 1) (.k 20)), vI 1] [] [(15, .b)] (.bool (.v 15)) .same
(.ite (.v 15)
(.chk (.rng .i64 (.add (.v 13) (.k 1)))
(.chk (.le (.k 0) (.add (.v 13) (.k 1)))
(.back 0 [.n (.add (.v 13) (.k 1))])))
(.ret (.int .i64 (.k 1)) []))))))))
(.ret (.int .i64 (.k 0)) []))))
(.ret (vI 12) [])))
(.ret (.int .i64 (.k 3)) [])))
(.ret (.int .i64 (.k 3)) [])))
(.ret (.int .i64 (.k 3)) []))))
theorem x_stErr (x0 x1 x2 x3 x4 x5 : Int) (x6 : Option Loc) (x7 x8 : Nat) (M : Nat → Prop) (H0 : Hp) (W0 : World) (R : Ending → World → Prop) (hH : H0.le (hpOf W0)) (h :
 (∀ b0 : Nat,
 (Cl Tryz.prog W0 M H0 nK 33 #[vi x0, vi 0, vi 50] fun z W1 W2 => ∃ x9 : Bool, z = .returned (vb (x9)) ∧ Ext W1 W2 ∧
 ((x9 = true →
  (Cl Tryz.prog W0 M H0 nK 33 #[vi x1, vi 0, vi 999] fun z W3 W4 => ∃ x10 : Bool, z = .returned (vb (x10)) ∧ Ext W3 W4 ∧
  ((x10 = true →
   (Cl Tryz.prog W0 M H0 nK 38 #[Value.agg #[vi x2, vi x3, vi x4, vi x5]] fun z W5 W6 => ∃ x11 : Bool, z = .returned (vb (x11)) ∧ Ext W5 W6 ∧
   ((x11 = true →
    (Cl Tryz.prog W0 M H0 nK 39 #[vsl x6 x7 x8] fun z W7 W8 => ∃ x12 : Int, z = .returned (vi x12) ∧ Ext W7 W8 ∧
    ((x12 = 0 →
     (∃ (I0 : List Dat → Hp → Prop) (μ0 : List Dat → Nat), I0 [.n 0] H0 ∧ ∀ H1 : Hp, ∀ x13 : Nat, I0 [.n x13] H1 →
      (0 ≤ (x7 : Int) ∧ (0 ≤ (x7 : Int) →
      (((x13 : Int) < (x7 : Int) →
       (((0 : Int) ≤ (x13 : Int) ∧ (x13 : Int) < (x7 : Int)) ∧ (((0 : Int) ≤ (x13 : Int) ∧ (x13 : Int) < (x7 : Int)) →
       (x6.isSome = true ∧ (x6.isSome = true →
       (0 ≤ (0 + ((x13 : Int) * 4)) ∧ (0 ≤ (0 + ((x13 : Int) * 4)) →
       (∃ x14 : Int, RowAt H1 x6 ((0 + ((x13 : Int) * 4)) + 2) [vi x14] ∧
       (inKind .i64 (x1 - 20) ∧ (inKind .i64 (x1 - 20) →
       (Cl Tryz.prog W0 M H1 nK 33 #[vi x14, vi (x1 - 20), vi x1] fun z W9 W10 => ∃ x15 : Bool, z = .returned (vb (x15)) ∧ Ext W9 W10 ∧
       ((x15 = true →
        (inKind .i64 ((x13 : Int) + 1) ∧ (inKind .i64 ((x13 : Int) + 1) →
        (0 ≤ ((x13 : Int) + 1) ∧ (0 ≤ ((x13 : Int) + 1) →
        (I0 [.n (((x13 : Int) + 1) : Int).toNat] H1 ∧ μ0 [.n (((x13 : Int) + 1) : Int).toNat] < μ0 [.n x13])))))) ∧
       (¬ (x15 = true) →
        Rt R W0 M H1 nK (vi 1)))))))))))))) ∧
      (¬ ((x13 : Int) < (x7 : Int)) →
       Rt R W0 M H1 nK (vi 0))))))) ∧
    (¬ (x12 = 0) →
     Rt R W0 M H0 nK (vi x12))))) ∧
   (¬ (x11 = true) →
    Rt R W0 M H0 nK (vi 3))))) ∧
  (¬ (x10 = true) →
   Rt R W0 M H0 nK (vi 3))))) ∧
 (¬ (x9 = true) →
  Rt R W0 M H0 nK (vi 3)))))) :
  Calls Tryz.prog 17 #[Value.agg #[vi x0, vi x1, vi x2, vi x3, vi x4, vi x5, vsl x6 x7 x8]] W0 R :=
  calls_sxA (M := M) (V := v_stErr) (hi := {loops := [(7, .inv [(4, .nat)] [])]}) (args := [.agg [vI 0, vI 1, vI 2, vI 3, vI 4, vI 5, vS 6]]) (nv := 9) (e := (upd (upd (upd (upd (upd (upd (upd (upd (upd (fun _ => .i 0) 0 (.i x0)) 1 (.i x1)) 2 (.i x2)) 3 (.i x3)) 4 (.i x4)) 5 (.i x5)) 6 (.p x6)) 7 (.n x7)) 8 (.n x8))) Tryz.func17 hH h (by kernel_rfl) (by kernel_rfl) (by kernel_rfl)
def v_equalR : VC :=
(.chk (.le (.k 0) (.v 1))
(.chk (.le (.k 0) (.v 4))
(.ite (.eq (.v 1) (.v 4))
(.loop [(6, .i)] [.i (.k 0)] [.i (.v 6)]
(.ite (.lt (.v 6) (.v 1))
(.chk (.idx (.v 6) (.v 1))
(.chk (.isp 0)
(.ld 0 (.add (.k 0) (.mul (.v 6) (.k 2))) [vI 7, vI 8] [(7, .i), (8, .i)]
(.chk (.idx (.v 6) (.v 4))
(.chk (.isp 3)
(.ld 3 (.add (.k 0) (.mul (.v 6) (.k 2))) [vI 9, vI 10] [(9, .i), (10, .i)]
(.esc (.bop .neq 77 (.tmp 19) (.tmp 23)) [.agg [vI 7, vI 8], .agg [vI 9, vI 10]] [] [(11, .b)] (some (.bool (.v 11))) .same
(.ite (.v 11)
(.ret (.bool (.k false)) [])
(.chk (.rng .i64 (.add (.v 6) (.k 1)))
(.back 0 [.i (.add (.v 6) (.k 1))]))))))))))
(.ret (.bool (.k true)) [])))
(.ret (.bool (.k false)) []))))
theorem x_equalR (x0 : Option Loc) (x1 x2 : Nat) (x3 : Option Loc) (x4 x5 : Nat) (M : Nat → Prop) (H0 : Hp) (W0 : World) (R : Ending → World → Prop) (hH : H0.le (hpOf W0)) (h :
 (0 ≤ (x1 : Int) ∧ (0 ≤ (x1 : Int) →
 (0 ≤ (x4 : Int) ∧ (0 ≤ (x4 : Int) →
 (((x1 : Int) = (x4 : Int) →
  (∃ (I0 : List Dat → Hp → Prop) (μ0 : List Dat → Nat), I0 [.i 0] H0 ∧ ∀ H1 : Hp, ∀ x6 : Int, I0 [.i x6] H1 →
   ((x6 < (x1 : Int) →
    (((0 : Int) ≤ x6 ∧ x6 < (x1 : Int)) ∧ (((0 : Int) ≤ x6 ∧ x6 < (x1 : Int)) →
    (x0.isSome = true ∧ (x0.isSome = true →
    (∃ (x7 x8 : Int), RowAt H1 x0 (0 + (x6 * 2)) [vi x7, vi x8] ∧
    (((0 : Int) ≤ x6 ∧ x6 < (x4 : Int)) ∧ (((0 : Int) ≤ x6 ∧ x6 < (x4 : Int)) →
    (x3.isSome = true ∧ (x3.isSome = true →
    (∃ (x9 x10 : Int), RowAt H1 x3 (0 + (x6 * 2)) [vi x9, vi x10] ∧
    (Es W0 M H1 nK fun W1 => ∃ x11 : Bool, Eo Tryz.prog (.bop .neq 77 (.tmp 19) (.tmp 23)) [Value.agg #[vi x7, vi x8], Value.agg #[vi x9, vi x10]] W1 (.value (vb (x11))) fun W2 => Ext W1 W2 ∧
    ((x11 = true →
     Rt R W0 M H1 nK (vb (false))) ∧
    (¬ (x11 = true) →
     (inKind .i64 (x6 + 1) ∧ (inKind .i64 (x6 + 1) →
     (I0 [.i (x6 + 1)] H1 ∧ μ0 [.i (x6 + 1)] < μ0 [.i x6]))))))))))))))))) ∧
   (¬ (x6 < (x1 : Int)) →
    Rt R W0 M H1 nK (vb (true)))))) ∧
 (¬ ((x1 : Int) = (x4 : Int)) →
  Rt R W0 M H0 nK (vb (false))))))))) :
  Calls Tryz.prog 79 #[vsl x0 x1 x2, vsl x3 x4 x5] W0 R :=
  calls_sxA (M := M) (V := v_equalR) (hi := {loops := [(4, .inv [(13, .pt (.int .i64))] [])]}) (args := [vS 0, vS 3]) (nv := 6) (e := (upd (upd (upd (upd (upd (upd (fun _ => .i 0) 0 (.p x0)) 1 (.n x1)) 2 (.n x2)) 3 (.p x3)) 4 (.n x4)) 5 (.n x5))) Tryz.func79 hH h (by kernel_rfl) (by kernel_rfl) (by kernel_rfl)
def v_same1 : VC :=
(.all 0
(.all 1
(.ite (.eq (.v 0) (.v 6))
(.ite (.eq (.v 1) (.v 7))
(.ite (.eq (.v 2) (.v 8))
(.call 79 [vS 3, vS 9] [] [(12, .b)] (.bool (.v 12)) .same
(.ret (.bool (.v 12)) []))
(.ret (.bool (.k false)) []))
(.ret (.bool (.k false)) []))
(.ret (.bool (.k false)) []))))
theorem x_same1 (x0 x1 x2 : Int) (x3 : Option Loc) (x4 x5 : Nat) (x6 x7 x8 : Int) (x9 : Option Loc) (x10 x11 : Nat) (M : Nat → Prop) (H0 : Hp) (W0 : World) (R : Ending → World → Prop) (hH : H0.le (hpOf W0)) (h :
 (∀ b0 : Nat,
 (∀ b1 : Nat,
 ((x0 = x6 →
  ((x1 = x7 →
   ((x2 = x8 →
    (Cl Tryz.prog W0 M H0 nK 79 #[vsl x3 x4 x5, vsl x9 x10 x11] fun z W1 W2 => ∃ x12 : Bool, z = .returned (vb (x12)) ∧ Ext W1 W2 ∧
    Rt R W0 M H0 nK (vb (x12)))) ∧
   (¬ (x2 = x8) →
    Rt R W0 M H0 nK (vb (false))))) ∧
  (¬ (x1 = x7) →
   Rt R W0 M H0 nK (vb (false))))) ∧
 (¬ (x0 = x6) →
  Rt R W0 M H0 nK (vb (false))))))) :
  Calls Tryz.prog 78 #[Value.agg #[vi x0, vi x1, vi x2, vsl x3 x4 x5], Value.agg #[vi x6, vi x7, vi x8, vsl x9 x10 x11]] W0 R :=
  calls_sxA (M := M) (V := v_same1) (hi := {}) (args := [.agg [vI 0, vI 1, vI 2, vS 3], .agg [vI 6, vI 7, vI 8, vS 9]]) (nv := 12) (e := (upd (upd (upd (upd (upd (upd (upd (upd (upd (upd (upd (upd (fun _ => .i 0) 0 (.i x0)) 1 (.i x1)) 2 (.i x2)) 3 (.p x3)) 4 (.n x4)) 5 (.n x5)) 6 (.i x6)) 7 (.i x7)) 8 (.i x8)) 9 (.p x9)) 10 (.n x10)) 11 (.n x11))) Tryz.func78 hH h (by kernel_rfl) (by kernel_rfl) (by kernel_rfl)
def v_equalF : VC :=
(.chk (.le (.k 0) (.v 1))
(.chk (.le (.k 0) (.v 4))
(.ite (.eq (.v 1) (.v 4))
(.loop [(6, .i)] [.i (.k 0)] [.i (.v 6)]
(.ite (.lt (.v 6) (.v 1))
(.chk (.idx (.v 6) (.v 1))
(.chk (.isp 0)
(.ld 0 (.add (.k 0) (.mul (.v 6) (.k 4))) [vI 7, vI 8, vI 9, vS 10] [(7, .i), (8, .i), (9, .i), (10, .p), (11, .n), (12, .n)]
(.all 0
(.chk (.idx (.v 6) (.v 4))
(.chk (.isp 3)
(.ld 3 (.add (.k 0) (.mul (.v 6) (.k 4))) [vI 13, vI 14, vI 15, vS 16] [(13, .i), (14, .i), (15, .i), (16, .p), (17, .n), (18, .n)]
(.all 1
(.call 78 [.agg [vI 7, vI 8, vI 9, vS 10], .agg [vI 13, vI 14, vI 15, vS 16]] [] [(19, .b)] (.bool (.v 19)) .same
(.ite (.v 19)
(.chk (.rng .i64 (.add (.v 6) (.k 1)))
(.back 0 [.i (.add (.v 6) (.k 1))]))
(.ret (.bool (.k false)) [])))))))))))
(.ret (.bool (.k true)) [])))
(.ret (.bool (.k false)) []))))
theorem x_equalF (x0 : Option Loc) (x1 x2 : Nat) (x3 : Option Loc) (x4 x5 : Nat) (M : Nat → Prop) (H0 : Hp) (W0 : World) (R : Ending → World → Prop) (hH : H0.le (hpOf W0)) (h :
 (0 ≤ (x1 : Int) ∧ (0 ≤ (x1 : Int) →
 (0 ≤ (x4 : Int) ∧ (0 ≤ (x4 : Int) →
 (((x1 : Int) = (x4 : Int) →
  (∃ (I0 : List Dat → Hp → Prop) (μ0 : List Dat → Nat), I0 [.i 0] H0 ∧ ∀ H1 : Hp, ∀ x6 : Int, I0 [.i x6] H1 →
   ((x6 < (x1 : Int) →
    (((0 : Int) ≤ x6 ∧ x6 < (x1 : Int)) ∧ (((0 : Int) ≤ x6 ∧ x6 < (x1 : Int)) →
    (x0.isSome = true ∧ (x0.isSome = true →
    (∃ (x7 x8 x9 : Int) (x10 : Option Loc) (x11 x12 : Nat), RowAt H1 x0 (0 + (x6 * 4)) [vi x7, vi x8, vi x9, vsl x10 x11 x12] ∧
    (∀ b0 : Nat,
    (((0 : Int) ≤ x6 ∧ x6 < (x4 : Int)) ∧ (((0 : Int) ≤ x6 ∧ x6 < (x4 : Int)) →
    (x3.isSome = true ∧ (x3.isSome = true →
    (∃ (x13 x14 x15 : Int) (x16 : Option Loc) (x17 x18 : Nat), RowAt H1 x3 (0 + (x6 * 4)) [vi x13, vi x14, vi x15, vsl x16 x17 x18] ∧
    (∀ b1 : Nat,
    (Cl Tryz.prog W0 M H1 nK 78 #[Value.agg #[vi x7, vi x8, vi x9, vsl x10 x11 x12], Value.agg #[vi x13, vi x14, vi x15, vsl x16 x17 x18]] fun z W1 W2 => ∃ x19 : Bool, z = .returned (vb (x19)) ∧ Ext W1 W2 ∧
    ((x19 = true →
     (inKind .i64 (x6 + 1) ∧ (inKind .i64 (x6 + 1) →
     (I0 [.i (x6 + 1)] H1 ∧ μ0 [.i (x6 + 1)] < μ0 [.i x6])))) ∧
    (¬ (x19 = true) →
     Rt R W0 M H1 nK (vb (false)))))))))))))))))) ∧
   (¬ (x6 < (x1 : Int)) →
    Rt R W0 M H1 nK (vb (true)))))) ∧
 (¬ ((x1 : Int) = (x4 : Int)) →
  Rt R W0 M H0 nK (vb (false))))))))) :
  Calls Tryz.prog 80 #[vsl x0 x1 x2, vsl x3 x4 x5, Value.func (.func 78) #[] #[]] W0 R :=
  calls_sxA (M := M) (V := v_equalF) (hi := {loops := [(4, .inv [(17, .pt (.int .i64))] [])]}) (args := [vS 0, vS 3, .func 78 [] []]) (nv := 6) (e := (upd (upd (upd (upd (upd (upd (fun _ => .i 0) 0 (.p x0)) 1 (.n x1)) 2 (.n x2)) 3 (.p x3)) 4 (.n x4)) 5 (.n x5))) Tryz.func80 hH h (by kernel_rfl) (by kernel_rfl) (by kernel_rfl)
def v_stSame : VC :=
(.all 0
(.all 1
(.ite (.eq (.v 0) (.v 9))
(.ite (.eq (.v 1) (.v 10))
(.esc (.bop .eql 22 (.tmp 20) (.tmp 22)) [.agg [vI 2, vI 3, vI 4, vI 5], .agg [vI 11, vI 12, vI 13, vI 14]] [] [(18, .b)] (some (.bool (.v 18))) .same
(.ite (.v 18)
(.call 80 [vS 6, vS 15, .func 78 [] []] [] [(19, .b)] (.bool (.v 19)) .same
(.ret (.bool (.v 19)) []))
(.ret (.bool (.k false)) [])))
(.ret (.bool (.k false)) []))
(.ret (.bool (.k false)) []))))
theorem x_stSame (x0 x1 x2 x3 x4 x5 : Int) (x6 : Option Loc) (x7 x8 : Nat) (x9 x10 x11 x12 x13 x14 : Int) (x15 : Option Loc) (x16 x17 : Nat) (M : Nat → Prop) (H0 : Hp) (W0 : World) (R : Ending → World → Prop) (hH : H0.le (hpOf W0)) (h :
 (∀ b0 : Nat,
 (∀ b1 : Nat,
 ((x0 = x9 →
  ((x1 = x10 →
   (Es W0 M H0 nK fun W1 => ∃ x18 : Bool, Eo Tryz.prog (.bop .eql 22 (.tmp 20) (.tmp 22)) [Value.agg #[vi x2, vi x3, vi x4, vi x5], Value.agg #[vi x11, vi x12, vi x13, vi x14]] W1 (.value (vb (x18))) fun W2 => Ext W1 W2 ∧
   ((x18 = true →
    (Cl Tryz.prog W0 M H0 nK 80 #[vsl x6 x7 x8, vsl x15 x16 x17, Value.func (.func 78) #[] #[]] fun z W3 W4 => ∃ x19 : Bool, z = .returned (vb (x19)) ∧ Ext W3 W4 ∧
    Rt R W0 M H0 nK (vb (x19)))) ∧
   (¬ (x18 = true) →
    Rt R W0 M H0 nK (vb (false)))))) ∧
  (¬ (x1 = x10) →
   Rt R W0 M H0 nK (vb (false))))) ∧
 (¬ (x0 = x9) →
  Rt R W0 M H0 nK (vb (false))))))) :
  Calls Tryz.prog 61 #[Value.agg #[vi x0, vi x1, vi x2, vi x3, vi x4, vi x5, vsl x6 x7 x8], Value.agg #[vi x9, vi x10, vi x11, vi x12, vi x13, vi x14, vsl x15 x16 x17]] W0 R :=
  calls_sxA (M := M) (V := v_stSame) (hi := {}) (args := [.agg [vI 0, vI 1, vI 2, vI 3, vI 4, vI 5, vS 6], .agg [vI 9, vI 10, vI 11, vI 12, vI 13, vI 14, vS 15]]) (nv := 18) (e := (upd (upd (upd (upd (upd (upd (upd (upd (upd (upd (upd (upd (upd (upd (upd (upd (upd (upd (fun _ => .i 0) 0 (.i x0)) 1 (.i x1)) 2 (.i x2)) 3 (.i x3)) 4 (.i x4)) 5 (.i x5)) 6 (.p x6)) 7 (.n x7)) 8 (.n x8)) 9 (.i x9)) 10 (.i x10)) 11 (.i x11)) 12 (.i x12)) 13 (.i x13)) 14 (.i x14)) 15 (.p x15)) 16 (.n x16)) 17 (.n x17))) Tryz.func61 hH h (by kernel_rfl) (by kernel_rfl) (by kernel_rfl)
def v_sameOf : VC :=
(.all 0
(.all 1
(.ite (.eq (.v 0) (.v 9))
(.ite (.eq (.v 1) (.v 10))
(.esc (.bop .eql 22 (.tmp 19) (.tmp 21)) [.agg [vI 2, vI 3, vI 4, vI 5], .agg [vI 11, vI 12, vI 13, vI 14]] [] [(18, .b)] (some (.bool (.v 18))) .same
(.ite (.v 18)
(.call 53 [vS 6, vS 15] [] [(19, .b)] (.bool (.v 19)) .same
(.ret (.bool (.v 19)) []))
(.ret (.bool (.k false)) [])))
(.ret (.bool (.k false)) []))
(.ret (.bool (.k false)) []))))
theorem x_sameOf (x0 x1 x2 x3 x4 x5 : Int) (x6 : Option Loc) (x7 x8 : Nat) (x9 x10 x11 x12 x13 x14 : Int) (x15 : Option Loc) (x16 x17 : Nat) (M : Nat → Prop) (H0 : Hp) (W0 : World) (R : Ending → World → Prop) (hH : H0.le (hpOf W0)) (h :
 (∀ b0 : Nat,
 (∀ b1 : Nat,
 ((x0 = x9 →
  ((x1 = x10 →
   (Es W0 M H0 nK fun W1 => ∃ x18 : Bool, Eo Tryz.prog (.bop .eql 22 (.tmp 19) (.tmp 21)) [Value.agg #[vi x2, vi x3, vi x4, vi x5], Value.agg #[vi x11, vi x12, vi x13, vi x14]] W1 (.value (vb (x18))) fun W2 => Ext W1 W2 ∧
   ((x18 = true →
    (Cl Tryz.prog W0 M H0 nK 53 #[vsl x6 x7 x8, vsl x15 x16 x17] fun z W3 W4 => ∃ x19 : Bool, z = .returned (vb (x19)) ∧ Ext W3 W4 ∧
    Rt R W0 M H0 nK (vb (x19)))) ∧
   (¬ (x18 = true) →
    Rt R W0 M H0 nK (vb (false)))))) ∧
  (¬ (x1 = x10) →
   Rt R W0 M H0 nK (vb (false))))) ∧
 (¬ (x0 = x9) →
  Rt R W0 M H0 nK (vb (false))))))) :
  Calls Tryz.prog 35 #[Value.agg #[vi x0, vi x1, vi x2, vi x3, vi x4, vi x5, vsl x6 x7 x8], Value.agg #[vi x9, vi x10, vi x11, vi x12, vi x13, vi x14, vsl x15 x16 x17]] W0 R :=
  calls_sxA (M := M) (V := v_sameOf) (hi := {}) (args := [.agg [vI 0, vI 1, vI 2, vI 3, vI 4, vI 5, vS 6], .agg [vI 9, vI 10, vI 11, vI 12, vI 13, vI 14, vS 15]]) (nv := 18) (e := (upd (upd (upd (upd (upd (upd (upd (upd (upd (upd (upd (upd (upd (upd (upd (upd (upd (upd (fun _ => .i 0) 0 (.i x0)) 1 (.i x1)) 2 (.i x2)) 3 (.i x3)) 4 (.i x4)) 5 (.i x5)) 6 (.p x6)) 7 (.n x7)) 8 (.n x8)) 9 (.i x9)) 10 (.i x10)) 11 (.i x11)) 12 (.i x12)) 13 (.i x13)) 14 (.i x14)) 15 (.p x15)) 16 (.n x16)) 17 (.n x17))) Tryz.func35 hH h (by kernel_rfl) (by kernel_rfl) (by kernel_rfl)
end Go.Proofs.YtfpmcmhihhnfgaaGreat
namespace Go.Proofs.YtfpmcmhihhnfgaaGreat
open Go.RowKit

theorem c_vals (v : V4) (H : Hp) : Gv Tryz.prog 57 #[.agg #[vi v.a, vi v.b, vi v.c, vi v.d]] H (vb v.ok) := fun W _ => op_vals v.a v.b v.c v.d W
theorem c_valsFine (v : V4) (H : Hp) : Gv Tryz.prog 38 #[.agg #[vi v.a, vi v.b, vi v.c, vi v.d]] H (vb v.ok) := fun W _ => r_valsFine v.a v.b v.c v.d W
theorem ek_eq_v4 (x y : Operand) (v u : V4) (w : World) : (EK.sem (.bop .eql 22 x y) [Value.agg #[vi v.a, vi v.b, vi v.c, vi v.d], Value.agg #[vi u.a, vi u.b, vi u.c, vi u.d]]).run Tryz.prog w = .ok (.value (vb (decide (v = u)))) w := by
  have h := run_eql_v4 v.a v.b v.c v.d u.a u.b u.c u.d w
  have g := guard_v4
  simp [EK.sem, eqGuard, g, h, V4.eq_iff]
theorem c_chk1 {H : Hp} {q : Option Loc} {clock : Int} (hq : RowAt H q (0 + 1) [vi clock]) (h20 : 0 ≤ clock ∧ clock ≤ 999) (a b x : Int) (p : Option Loc) (n c : Nat) :
    Gv Tryz.prog 60 #[.agg #[vi a, vi b, vi x, vsl p n c], .pointer (ptrAt q 0)] H (vb (decide (clock < x ∨ x < clock - 20))) := fun W hH => by
  refine x_chk1 a b x p n c q noM H W _ hH fun b0 => ⟨hq.isSome, fun _ => ⟨clock, hq, fun h => Rt.gv' (by simp [h]), fun h => ⟨clock, hq, in64 (by omega), fun _ => Rt.gv' (by simp [h])⟩⟩⟩
theorem c_indexC {H : Hp} {q : Option Loc} {clock : Int} (hq : RowAt H q (0 + 1) [vi clock]) (h20 : 0 ≤ clock ∧ clock ≤ 999) {p : Option Loc} {n c : Nat} {l : List Ses} (hT : Tab H p n c l) :
    Gv Tryz.prog 77 #[vsl p n c, .func (.func 60) #[] #[.pointer (ptrAt q 0)]] H (vi (ixP (late clock) 0 l)) := fun W hH => by
  have hn := hT.len
  have h63 := hT.lt63
  refine x_indexC p n c q noM H W _ hH ⟨by omega, fun _ => ⟨fun v K => match v with | [.i k] => ∃ j : Nat, k = j ∧ j ≤ n ∧ H.le K ∧ ixP (late clock) j (l.drop j) = ixP (late clock) 0 l | _ => False, fun v => match v with | [.i k] => n - k.toNat | _ => 0, ⟨0, rfl, by omega, Hp.le_refl H, by simp⟩, fun K k hI => ?_⟩⟩
  obtain ⟨j, rfl, hj, hle, hf⟩ := hI
  refine ⟨fun hlt => ⟨⟨by omega, hlt⟩, fun _ => ?_⟩, fun hge => Rt.gv' ?_⟩
  · obtain ⟨s, p', m, d, hs, hq', hat⟩ := (hT.mono hle).at (k := j) (by omega)
    have hat0 := (hat (0 + (j : Int) * 4) (by omega)).1
    rw [drop_cons hs, ixP] at hf
    refine ⟨hat0.isSome, fun _ => ⟨_, _, _, p', m, d, hat0, ?_⟩⟩
    refine Cl.same (c_chk1 (hq.mono hle) h20 _ _ _ p' m d) fun _ _ hx => ⟨_, rfl, hx, fun h => Rt.gv' ?_, fun h => ⟨in64 (by omega), fun _ => ⟨⟨j + 1, by omega, by omega, hle, ?_⟩, by simp only; omega⟩⟩⟩
    · have h' : late clock s = true := h
      rw [← hf, if_pos h']
    · have h' : ¬ late clock s = true := h
      rw [← hf, if_neg h']
  · rw [← hf, List.drop_of_length_le (by omega)]; rfl
theorem ixP_any (f : Ses → Bool) (l : List Ses) : decide (0 ≤ ixP f 0 l) = l.any f := by
  rcases ixP_spec f l 0 with ⟨h1, h2⟩ | ⟨j, u, h1, h2, h3, _⟩
  · rw [h1]
    symm
    simp only [Int.reduceNeg, Int.reduceLE, decide_false, List.any_eq_false]
    exact fun x hx => by rw [h2 x hx]; simp
  · rw [h1, decide_eq_true (by omega)]
    symm
    exact List.any_eq_true.2 ⟨u, List.mem_of_getElem? h2, h3⟩
theorem c_containsC {H : Hp} {q : Option Loc} {clock : Int} (hq : RowAt H q (0 + 1) [vi clock]) (h20 : 0 ≤ clock ∧ clock ≤ 999) {p : Option Loc} {n c : Nat} {l : List Ses} (hT : Tab H p n c l) :
    Gv Tryz.prog 59 #[vsl p n c, .func (.func 60) #[] #[.pointer (ptrAt q 0)]] H (vb (l.any (late clock))) := fun W hH => by
  refine x_containsC p n c q noM H W _ hH ?_
  exact Cl.same (c_indexC hq h20 hT) fun _ _ hx => ⟨_, rfl, hx, Rt.gv' (by rw [ixP_any])⟩
theorem c_stCheck {H : Hp} {p : Option Loc} {n c : Nat} {s : Sta} (hT : Tab H p n c s.table) :
    Gv Tryz.prog 41 #[.agg #[vi s.pos, vi s.clock, vi s.vals.a, vi s.vals.b, vi s.vals.c, vi s.vals.d, vsl p n c]] H (vi s.err) := fun W hH => by
  refine x_stCheck _ _ _ _ _ _ p n c noM H W _ hH fun b0 => ?_
  refine ⟨fun h => Rt.gv' (by rw [st_range (by omega)]), fun h1 => ⟨fun h => Rt.gv' (by rw [st_range (by omega)]), fun h2 => ⟨fun h => Rt.gv' (by rw [st_range (by omega)]), fun h3 => ⟨fun h => Rt.gv' (by rw [st_range (by omega)]), fun h4 => ?_⟩⟩⟩⟩
  refine Cl.same (c_vals s.vals H) fun _ _ hx => ⟨_, rfl, hx, fun h5 => ?_, fun h => Rt.gv' (by rw [st_range (by simp only [Bool.not_eq_true] at h; simp [h])])⟩
  have hn : ¬ (s.pos < 0 ∨ 50 < s.pos ∨ s.clock < 0 ∨ 999 < s.clock ∨ s.vals.ok = false) := by rw [h5]; simp; omega
  refine Cl.same (c_check hT) fun _ _ hx => ⟨_, rfl, hx, fun h0 => ?_, fun h0 => Rt.gv' (by rw [st_tab hn h0])⟩
  refine Cl.sameK (v := vb (s.table.any (late s.clock))) (fun W1 n1 kk => ⟨_, addH_le n1.sub kk.1.eq, ?_⟩) fun _ _ hx => ⟨_, rfl, hx, fun h => Rt.gv' (by rw [st_late hn h0, if_pos h]), fun h => Rt.gv' (by rw [st_late hn h0, if_neg h])⟩
  have hle := le_addH (o := .cells #[vi s.pos, vi s.clock, vi s.vals.a, vi s.vals.b, vi s.vals.c, vi s.vals.d, vsl p n c] 25 (0, 0)) kk.1.off
  exact c_containsC (q := some (b0, 0)) (clock := s.clock) ⟨b0, 0, rfl, _, _, _, addH_at .., fun j hj => by
    have : j = 0 := by simpa using hj
    subst this; exact ⟨rfl, unfz0 _⟩⟩ (by omega) (hT.mono hle)
theorem c_stErr {H : Hp} {p : Option Loc} {n c : Nat} {s : Sta} (hT : Tab H p n c s.table) :
    Gv Tryz.prog 17 #[.agg #[vi s.pos, vi s.clock, vi s.vals.a, vi s.vals.b, vi s.vals.c, vi s.vals.d, vsl p n c]] H (vi s.err) := fun W hH => by
  have hlen := hT.len
  have h63 := hT.lt63
  refine x_stErr _ _ _ _ _ _ p n c noM H W _ hH fun b0 => ?_
  refine Cl.same (c_within s.pos 0 50 H) fun _ _ hx => ⟨_, rfl, hx, fun h1 => ?_, fun h => Rt.gv' (by simp only [Bool.not_eq_true, inR_not] at h; rw [st_range (by omega)])⟩
  refine Cl.same (c_within s.clock 0 999 H) fun _ _ hx => ⟨_, rfl, hx, fun h2 => ?_, fun h => Rt.gv' (by simp only [Bool.not_eq_true, inR_not] at h; rw [st_range (by omega)])⟩
  refine Cl.same (c_valsFine s.vals H) fun _ _ hx => ⟨_, rfl, hx, fun h5 => ?_, fun h => Rt.gv' (by rw [st_range (by simp only [Bool.not_eq_true] at h; simp [h])])⟩
  rw [inR_iff] at h1 h2
  have hn : ¬ (s.pos < 0 ∨ 50 < s.pos ∨ s.clock < 0 ∨ 999 < s.clock ∨ s.vals.ok = false) := by rw [h5]; simp; omega
  refine Cl.same (c_tabErr hT) fun _ _ hx => ⟨_, rfl, hx, fun h0 => ?_, fun h0 => Rt.gv' (by rw [st_tab hn h0])⟩
  refine ⟨fun v K => match v with | [.n j] => j ≤ n ∧ H.le K ∧ (s.table.drop j).any (late s.clock) = s.table.any (late s.clock) | _ => False, fun v => match v with | [.n j] => n - j | _ => 0, ⟨by omega, Hp.le_refl H, by simp⟩, fun K j hI => ⟨by omega, fun _ => ?_⟩⟩
  obtain ⟨hj, hle, hf⟩ := hI
  have ht : ((j : Int) + 1).toNat = j + 1 := by omega
  refine ⟨fun hlt => ⟨⟨by omega, hlt⟩, fun _ => ?_⟩, fun hge => Rt.gv' ?_⟩
  · obtain ⟨x, q, m, d, hs, hq, hat⟩ := (hT.mono hle).at (k := j) (by omega)
    obtain ⟨hat0, _, _, hat2, _⟩ := hat (0 + (j : Int) * 4) (by omega)
    rw [drop_cons hs, List.any_cons] at hf
    refine ⟨hat0.isSome, fun _ => ⟨by omega, fun _ => ⟨_, hat2, in64 (by omega), fun _ => ?_⟩⟩⟩
    refine Cl.same (c_within x.seen (s.clock - 20) s.clock K) fun _ _ hx => ⟨_, rfl, hx, fun h => ⟨in64 (by omega), fun _ => ⟨by omega, fun _ => ?_⟩⟩, fun h => Rt.gv' ?_⟩
    · rw [ht]
      rw [inR_iff] at h
      refine ⟨⟨by omega, hle, ?_⟩, by simp only; omega⟩
      rw [← hf, show late s.clock x = false from by simp [late]; omega, Bool.false_or]
    · simp only [Bool.not_eq_true, inR_not] at h
      rw [st_late hn h0, if_pos]
      rw [← hf, show late s.clock x = true from by simp [late]; omega, Bool.true_or]
  · rw [st_late hn h0, if_neg]
    rw [← hf, List.drop_of_length_le (by omega)]
    simp
abbrev Sta.val (s : Sta) (v : Value) : Value := .agg #[vi s.pos, vi s.clock, vi s.vals.a, vi s.vals.b, vi s.vals.c, vi s.vals.d, v]
theorem c_equalR {H : Hp} {p p' : Option Loc} {n c n' c' : Nat} {l m : List Rep} (hk : Kept H p n c l) (hk' : Kept H p' n' c' m) : Gv Tryz.prog 79 #[vsl p n c, vsl p' n' c'] H (vb (decide (l = m))) := fun W hH => by
  have hn := hk.len
  have hn' := hk'.len
  have h63 := hk.lt63
  refine x_equalR p n c p' n' c' noM H W _ hH ⟨by omega, fun _ => ⟨by omega, fun _ => ⟨fun h1 => ?_, fun h1 => Rt.gv' (by rw [decide_eq_false (fun h => h1 (by rw [hn, hn', h]))])⟩⟩⟩
  refine ⟨fun v K => match v with | [.i k] => ∃ j : Nat, k = j ∧ j ≤ n ∧ H.le K ∧ (l.drop j = m.drop j ↔ l = m) | _ => False, fun v => match v with | [.i j] => n - j.toNat | _ => 0, ⟨0, rfl, by omega, Hp.le_refl H, by simp⟩, fun K k hI => ?_⟩
  obtain ⟨j, rfl, hj, hle, hf⟩ := hI
  refine ⟨fun hlt => ⟨⟨by omega, hlt⟩, fun _ => ?_⟩, fun hge => Rt.gv' ?_⟩
  · obtain ⟨r, hr, hat, _⟩ := (hk.mono hle).at' (k := j) (by omega)
    obtain ⟨r', hr', hat', _⟩ := (hk'.mono hle).at' (k := j) (by omega)
    rw [drop_eq hr hr'] at hf
    refine ⟨hat.isSome, fun _ => ⟨_, _, hat, ⟨by omega, by omega⟩, fun _ => ⟨hat'.isSome, fun _ => ⟨_, _, hat', ?_⟩⟩⟩⟩
    intro W1 _ _
    refine ⟨_, _, ek_ne_rep .., Ext.refl _, fun h0 => Rt.gv' ?_, fun h0 => ⟨in64 (by omega), fun _ => ?_⟩⟩
    · simp only [Bool.not_eq_true', decide_eq_false_iff_not] at h0
      rw [decide_eq_false]
      exact fun hh => h0 (hf.2 hh).1
    · simp only [Bool.not_eq_true, Bool.not_eq_false', decide_eq_true_eq] at h0
      refine ⟨⟨j + 1, by omega, by omega, hle, ?_⟩, by simp only; omega⟩
      rw [← hf]
      exact ⟨fun h => ⟨h0, h⟩, fun h => h.2⟩
  · rw [decide_eq_true]
    exact hf.1 (by rw [List.drop_of_length_le (by omega), List.drop_of_length_le (by omega)])
theorem c_same1 {H : Hp} {p p' : Option Loc} {n c n' c' : Nat} {s t : Ses} (hk : Kept H p n c s.kept) (hk' : Kept H p' n' c' t.kept) :
    Gv Tryz.prog 78 #[.agg #[vi s.client, vi s.acked, vi s.seen, vsl p n c], .agg #[vi t.client, vi t.acked, vi t.seen, vsl p' n' c']] H (vb (decide (s = t))) := fun W hH => by
  have no : ¬ (s.client = t.client ∧ s.acked = t.acked ∧ s.seen = t.seen ∧ s.kept = t.kept) → vb false = vb (decide (s = t)) := fun h => by rw [decide_eq_false (by rw [Ses.eq_iff]; exact h)]
  refine x_same1 _ _ _ p n c _ _ _ p' n' c' noM H W _ hH fun b0 b1 => ⟨fun h1 => ⟨fun h2 => ⟨fun h3 => ?_, fun h => Rt.gv' (no (fun hh => h hh.2.2.1))⟩, fun h => Rt.gv' (no (fun hh => h hh.2.1))⟩, fun h => Rt.gv' (no (fun hh => h hh.1))⟩
  refine Cl.same (c_equalR hk hk') fun _ _ hx => ⟨_, rfl, hx, Rt.gv' ?_⟩
  simp only [Ses.eq_iff, h1, h2, h3, true_and]
theorem c_equalF {H : Hp} {p p' : Option Loc} {n c n' c' : Nat} {l m : List Ses} (hT : Tab H p n c l) (hT' : Tab H p' n' c' m) : Gv Tryz.prog 80 #[vsl p n c, vsl p' n' c', .func (.func 78) #[] #[]] H (vb (decide (l = m))) := fun W hH => by
  have hn := hT.len
  have hn' := hT'.len
  have h63 := hT.lt63
  refine x_equalF p n c p' n' c' noM H W _ hH ⟨by omega, fun _ => ⟨by omega, fun _ => ⟨fun h1 => ?_, fun h1 => Rt.gv' (by rw [decide_eq_false (fun h => h1 (by rw [hn, hn', h]))])⟩⟩⟩
  refine ⟨fun v K => match v with | [.i k] => ∃ j : Nat, k = j ∧ j ≤ n ∧ H.le K ∧ (l.drop j = m.drop j ↔ l = m) | _ => False, fun v => match v with | [.i j] => n - j.toNat | _ => 0, ⟨0, rfl, by omega, Hp.le_refl H, by simp⟩, fun K k hI => ?_⟩
  obtain ⟨j, rfl, hj, hle, hf⟩ := hI
  refine ⟨fun hlt => ⟨⟨by omega, hlt⟩, fun _ => ?_⟩, fun hge => Rt.gv' ?_⟩
  · obtain ⟨s, q, k, d, hs, hq, hat, _⟩ := (hT.mono hle).at' (k := j) (by omega)
    obtain ⟨s', q', k', d', hs', hq', hat', _⟩ := (hT'.mono hle).at' (k := j) (by omega)
    rw [drop_eq hs hs'] at hf
    refine ⟨hat.isSome, fun _ => ⟨_, _, _, _, _, _, hat, fun b0 => ⟨⟨by omega, by omega⟩, fun _ => ⟨hat'.isSome, fun _ => ⟨_, _, _, _, _, _, hat', fun b1 => ?_⟩⟩⟩⟩⟩
    refine Cl.same (c_same1 hq hq') fun _ _ hx => ⟨_, rfl, hx, fun h0 => ⟨in64 (by omega), fun _ => ?_⟩, fun h0 => Rt.gv' ?_⟩
    · refine ⟨⟨j + 1, by omega, by omega, hle, ?_⟩, by simp only; omega⟩
      rw [← hf]
      exact ⟨fun h => ⟨of_decide_eq_true h0, h⟩, fun h => h.2⟩
    · rw [decide_eq_false]
      exact fun h => h0 (decide_eq_true (hf.2 h).1)
  · rw [decide_eq_true (hf.1 (by rw [List.drop_of_length_le (by omega), List.drop_of_length_le (by omega)]))]
theorem c_stSame {H : Hp} {p p' : Option Loc} {n c n' c' : Nat} {s t : Sta} (hT : Tab H p n c s.table) (hT' : Tab H p' n' c' t.table) :
    Gv Tryz.prog 61 #[s.val (vsl p n c), t.val (vsl p' n' c')] H (vb (decide (s = t))) := fun W hH => by
  have no : ¬ (s.pos = t.pos ∧ s.clock = t.clock ∧ s.vals = t.vals ∧ s.table = t.table) → vb false = vb (decide (s = t)) := fun h => by rw [decide_eq_false (by rw [Sta.eq_iff]; exact h)]
  refine x_stSame _ _ _ _ _ _ p n c _ _ _ _ _ _ p' n' c' noM H W _ hH fun b0 b1 => ⟨fun h1 => ⟨fun h2 => fun W1 _ _ => ?_, fun h => Rt.gv' (no (fun hh => h hh.2.1))⟩, fun h => Rt.gv' (no (fun hh => h hh.1))⟩
  refine ⟨_, _, ek_eq_v4 .., Ext.refl _, fun h3 => ?_, fun h => Rt.gv' (no (fun hh => h (decide_eq_true hh.2.2.1)))⟩
  refine Cl.same (c_equalF hT hT') fun _ _ hx => ⟨_, rfl, hx, Rt.gv' ?_⟩
  simp only [Sta.eq_iff, h1, h2, of_decide_eq_true h3, true_and]
theorem c_sameOf {H : Hp} {p p' : Option Loc} {n c n' c' : Nat} {s t : Sta} (hT : Tab H p n c s.table) (hT' : Tab H p' n' c' t.table) :
    Gv Tryz.prog 35 #[s.val (vsl p n c), t.val (vsl p' n' c')] H (vb (decide (s = t))) := fun W hH => by
  have no : ¬ (s.pos = t.pos ∧ s.clock = t.clock ∧ s.vals = t.vals ∧ s.table = t.table) → vb false = vb (decide (s = t)) := fun h => by rw [decide_eq_false (by rw [Sta.eq_iff]; exact h)]
  refine x_sameOf _ _ _ _ _ _ p n c _ _ _ _ _ _ p' n' c' noM H W _ hH fun b0 b1 => ⟨fun h1 => ⟨fun h2 => fun W1 _ _ => ?_, fun h => Rt.gv' (no (fun hh => h hh.2.1))⟩, fun h => Rt.gv' (no (fun hh => h hh.1))⟩
  refine ⟨_, _, ek_eq_v4 .., Ext.refl _, fun h3 => ?_, fun h => Rt.gv' (no (fun hh => h (decide_eq_true hh.2.2.1)))⟩
  refine Cl.same (c_sameT hT hT') fun _ _ hx => ⟨_, rfl, hx, Rt.gv' ?_⟩
  simp only [Sta.eq_iff, h1, h2, of_decide_eq_true h3, true_and]
end Go.Proofs.YtfpmcmhihhnfgaaGreat
