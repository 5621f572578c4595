/- == and != on replies. No conditions. Symbolic runs of functions: what each leaves to prove is enough for its call. Printed by a program of ours. No conditions. Contracts: what checks a session, a table; what compares them. No conditions. Contracts: what checks a table, what finds in it, what compares. No conditions. -/
import Derived.Test.YtfpmcmhihhnfgaaGreatKD1
import Derived.Test.YtfpmcmhihhnfgaaGreatKE3
import Derived.Test.YtfpmcmhihhnfgaaGreatProg
import Derived.ChangeKeysEq
set_option linter.unusedVariables false
set_option linter.unusedSimpArgs false
namespace Go.Proofs.YtfpmcmhihhnfgaaGreat
open Go.RowKit
theorem partRep (a b : Value) : (∀ w, (part 3 #[a, b] 0).run Tryz.prog w = .ok a w) ∧ (∀ w, (part 3 #[a, b] 1).run Tryz.prog w = .ok b w) := ⟨fun _ => by kernel_rfl, fun _ => by kernel_rfl⟩
theorem stoodRep : Program.stoodInHeld Tryz.prog 77 = false := by kernel_rfl
theorem guardRep : Program.eqGuardType Tryz.prog Tryz.prog.depth 77 = false := by kernel_rfl
theorem equal_rep (a b a' b' : Int) (w : World) : (Op.equalIn 10000 77 (.agg #[vi a, vi b]) (.agg #[vi a', vi b'])).run Tryz.prog w = .ok (decide (Rep.mk a b = Rep.mk a' b')) w := by
  have hf : Tryz.prog.underlying 77 = some (.struct (Tryz.prog.fieldsOf 77)) := by simp only [Program.fieldsOf, Tryz.underlying77]
  rw [run_equalIn_struct (P := Tryz.prog) w 9999 _ _ _ hf stoodRep]
  have p0 : ∀ (x y : Value) (w : World), (part 3 #[x, y] 0).run Tryz.prog w = .ok x w := fun x y => (partRep x y).1
  have p1 : ∀ (x y : Value) (w : World), (part 3 #[x, y] 1).run Tryz.prog w = .ok y w := fun x y => (partRep x y).2
  have e : ∀ (x y : Int) (w : World), (Op.equalIn 9999 3 (vi x) (vi y)).run Tryz.prog w = .ok (x == y) w := fun x y w => run_equalIn_int w 9998 _ _ _ x y Tryz.underlying3
  simp only [Program.fieldsOf, Tryz.underlying77, Op.eqFields]
  by_cases h0 : a = a' <;> by_cases h1 : b = b' <;> simp [p0, p1, e, h0, h1]
theorem ek_ne_rep (x y : Operand) (a b a' b' : Int) (w : World) : (EK.sem (.bop .neq 77 x y) [Value.agg #[vi a, vi b], Value.agg #[vi a', vi b']]).run Tryz.prog w = .ok (.value (vb (!decide (Rep.mk a b = Rep.mk a' b')))) w := by
  simp [EK.sem, run_eqGuard_agg (P := Tryz.prog) w .neq 77 x y _ _ guardRep, run_neq_struct, equal_rep]
end Go.Proofs.YtfpmcmhihhnfgaaGreat
namespace Go.Proofs.YtfpmcmhihhnfgaaGreat
open Go.RowKit
set_option maxRecDepth 100000
set_option maxHeartbeats 4000000
def v_within : VC :=
(.ite (.le (.v 1) (.v 0))
(.ret (.bool (.le (.v 0) (.v 2))) [])
(.ret (.bool (.k false)) []))
theorem x_within (x0 x1 x2 : Int) (M : Nat → Prop) (H0 : Hp) (W0 : World) (R : Ending → World → Prop) (hH : H0.le (hpOf W0)) (h :
 ((x1 ≤ x0 →
  Rt R W0 M H0 nK (vb (decide (x0 ≤ x2)))) ∧
 (¬ (x1 ≤ x0) →
  Rt R W0 M H0 nK (vb (false))))) :
  Calls Tryz.prog 33 #[vi x0, vi x1, vi x2] W0 R :=
  calls_sxA (M := M) (V := v_within) (hi := {}) (args := [vI 0, vI 1, vI 2]) (nv := 3) (e := (upd (upd (upd (fun _ => .i 0) 0 (.i x0)) 1 (.i x1)) 2 (.i x2))) Tryz.func33 hH h (by kernel_rfl) (by kernel_rfl) (by kernel_rfl)
def v_one : VC :=
(.all 0
(.ite (.lt (.v 0) (.k 1))
(.ret (.int .i64 (.k 3)) [])
(.ite (.lt (.k 5) (.v 0))
(.ret (.int .i64 (.k 3)) [])
(.ite (.lt (.v 1) (.k 0))
(.ret (.int .i64 (.k 3)) [])
(.ite (.lt (.k 60) (.v 1))
(.ret (.int .i64 (.k 3)) [])
(.ite (.lt (.v 2) (.k 0))
(.ret (.int .i64 (.k 3)) [])
(.ite (.lt (.k 999) (.v 2))
(.ret (.int .i64 (.k 3)) [])
(.chk (.le (.k 0) (.v 4))
(.loop [(6, .i), (7, .i)] [.i (.k 0), .i (.v 1)] [.i (.v 6), .i (.v 7)]
(.ite (.lt (.v 6) (.v 4))
(.chk (.idx (.v 6) (.v 4))
(.chk (.isp 3)
(.ld 3 (.add (.k 0) (.mul (.v 6) (.k 2))) [vI 8, vI 9] [(8, .i), (9, .i)]
(.all 1
(.ite (.le (.v 8) (.v 7))
(.ret (.int .i64 (.k 1)) [])
(.chk (.rng .i64 (.add (.v 1) (.k 3)))
(.ite (.lt (.add (.v 1) (.k 3)) (.v 8))
(.ret (.int .i64 (.k 1)) [])
(.ite (.lt (.k 60) (.v 8))
(.ret (.int .i64 (.k 1)) [])
(.ite (.lt (.v 9) (.k (-1)))
(.ret (.int .i64 (.k 1)) [])
(.ite (.lt (.k 999) (.v 9))
(.ret (.int .i64 (.k 1)) [])
(.chk (.rng .i64 (.add (.v 6) (.k 1)))
(.back 0 [.i (.add (.v 6) (.k 1)), .i (.v 8)]))))))))))))
(.ret (.int .i64 (.k 0)) [])))))))))))
theorem x_one (x0 x1 x2 : Int) (x3 : Option Loc) (x4 x5 : Nat) (M : Nat → Prop) (H0 : Hp) (W0 : World) (R : Ending → World → Prop) (hH : H0.le (hpOf W0)) (h :
 (∀ b0 : Nat,
 ((x0 < 1 →
  Rt R W0 M H0 nK (vi 3)) ∧
 (¬ (x0 < 1) →
  ((5 < x0 →
   Rt R W0 M H0 nK (vi 3)) ∧
  (¬ (5 < x0) →
   ((x1 < 0 →
    Rt R W0 M H0 nK (vi 3)) ∧
   (¬ (x1 < 0) →
    ((60 < x1 →
     Rt R W0 M H0 nK (vi 3)) ∧
    (¬ (60 < x1) →
     ((x2 < 0 →
      Rt R W0 M H0 nK (vi 3)) ∧
     (¬ (x2 < 0) →
      ((999 < x2 →
       Rt R W0 M H0 nK (vi 3)) ∧
      (¬ (999 < x2) →
       (0 ≤ (x4 : Int) ∧ (0 ≤ (x4 : Int) →
       (∃ (I0 : List Dat → Hp → Prop) (μ0 : List Dat → Nat), I0 [.i 0, .i x1] H0 ∧ ∀ H1 : Hp, ∀ (x6 x7 : Int), I0 [.i x6, .i x7] H1 →
        ((x6 < (x4 : Int) →
         (((0 : Int) ≤ x6 ∧ x6 < (x4 : Int)) ∧ (((0 : Int) ≤ x6 ∧ x6 < (x4 : Int)) →
         (x3.isSome = true ∧ (x3.isSome = true →
         (∃ (x8 x9 : Int), RowAt H1 x3 (0 + (x6 * 2)) [vi x8, vi x9] ∧
         (∀ b1 : Nat,
         ((x8 ≤ x7 →
          Rt R W0 M H1 nK (vi 1)) ∧
         (¬ (x8 ≤ x7) →
          (inKind .i64 (x1 + 3) ∧ (inKind .i64 (x1 + 3) →
          (((x1 + 3) < x8 →
           Rt R W0 M H1 nK (vi 1)) ∧
          (¬ ((x1 + 3) < x8) →
           ((60 < x8 →
            Rt R W0 M H1 nK (vi 1)) ∧
           (¬ (60 < x8) →
            ((x9 < (-1) →
             Rt R W0 M H1 nK (vi 1)) ∧
            (¬ (x9 < (-1)) →
             ((999 < x9 →
              Rt R W0 M H1 nK (vi 1)) ∧
             (¬ (999 < x9) →
              (inKind .i64 (x6 + 1) ∧ (inKind .i64 (x6 + 1) →
              (I0 [.i (x6 + 1), .i x8] H1 ∧ μ0 [.i (x6 + 1), .i x8] < μ0 [.i x6, .i x7])))))))))))))))))))))) ∧
        (¬ (x6 < (x4 : Int)) →
         Rt R W0 M H1 nK (vi 0)))))))))))))))))))) :
  Calls Tryz.prog 76 #[Value.agg #[vi x0, vi x1, vi x2, vsl x3 x4 x5]] W0 R :=
  calls_sxA (M := M) (V := v_one) (hi := {loops := [(5, .inv [(39, .pt (.int .i64)), (3, .pt (.int .i64))] [])]}) (args := [.agg [vI 0, vI 1, vI 2, vS 3]]) (nv := 6) (e := (upd (upd (upd (upd (upd (upd (fun _ => .i 0) 0 (.i x0)) 1 (.i x1)) 2 (.i x2)) 3 (.p x3)) 4 (.n x4)) 5 (.n x5))) Tryz.func76 hH h (by kernel_rfl) (by kernel_rfl) (by kernel_rfl)
def v_oneErr : VC :=
(.all 0
(.call 33 [vI 0, .int .i64 (.k 1), .int .i64 (.k 5)] [] [(6, .b)] (.bool (.v 6)) .same
(.ite (.v 6)
(.call 33 [vI 1, .int .i64 (.k 0), .int .i64 (.k 60)] [] [(7, .b)] (.bool (.v 7)) .same
(.ite (.v 7)
(.call 33 [vI 2, .int .i64 (.k 0), .int .i64 (.k 999)] [] [(8, .b)] (.bool (.v 8)) .same
(.ite (.v 8)
(.loop [(9, .n)] [.n (.k 0)] [.n (.v 9)]
(.chk (.le (.k 0) (.v 4))
(.ite (.lt (.v 9) (.v 4))
(.chk (.idx (.v 9) (.v 4))
(.chk (.isp 3)
(.ld 3 (.add (.k 0) (.mul (.v 9) (.k 2))) [vI 10] [(10, .i)]
(.chk (.rng .i64 (.add (.v 1) (.k 1)))
(.chk (.rng .i64 (.add (.v 1) (.k 3)))
(.call 33 [vI 10, .int .i64 (.add (.v 1) (.k 1)), .int .i64 (.mn (.k 60) (.add (.v 1) (.k 3)))] [] [(11, .b)] (.bool (.v 11)) .same
(.ite (.v 11)
(.chk (.le (.k 0) (.add (.k 0) (.mul (.v 9) (.k 2))))
(.ld 3 (.add (.add (.k 0) (.mul (.v 9) (.k 2))) (.k 1)) [vI 12] [(12, .i)]
(.call 33 [vI 12, .int .i64 (.k (-1)), .int .i64 (.k 999)] [] [(13, .b)] (.bool (.v 13)) .same
(.ite (.v 13)
(.ite (.lt (.k 0) (.v 9))
(.chk (.rng .i64 (.sub (.v 9) (.k 1)))
(.chk (.idx (.sub (.v 9) (.k 1)) (.v 4))
(.ld 3 (.add (.k 0) (.mul (.sub (.v 9) (.k 1)) (.k 2))) [vI 14] [(14, .i)]
(.ld 3 (.add (.k 0) (.mul (.v 9) (.k 2))) [vI 15] [(15, .i)]
(.ite (.le (.v 15) (.v 14))
(.ret (.int .i64 (.k 1)) [])
(.chk (.rng .i64 (.add (.v 9) (.k 1)))
(.chk (.le (.k 0) (.add (.v 9) (.k 1)))
(.back 0 [.n (.add (.v 9) (.k 1))]))))))))
(.chk (.rng .i64 (.add (.v 9) (.k 1)))
(.chk (.le (.k 0) (.add (.v 9) (.k 1)))
(.back 0 [.n (.add (.v 9) (.k 1))]))))
(.ret (.int .i64 (.k 1)) [])))))
(.ret (.int .i64 (.k 1)) []))))))))
(.ret (.int .i64 (.k 0)) []))))
(.ret (.int .i64 (.k 3)) [])))
(.ret (.int .i64 (.k 3)) [])))
(.ret (.int .i64 (.k 3)) []))))
theorem x_oneErr (x0 x1 x2 : Int) (x3 : Option Loc) (x4 x5 : Nat) (M : Nat → Prop) (H0 : Hp) (W0 : World) (R : Ending → World → Prop) (hH : H0.le (hpOf W0)) (h :
 (∀ b0 : Nat,
 (Cl Tryz.prog W0 M H0 nK 33 #[vi x0, vi 1, vi 5] fun z W1 W2 => ∃ x6 : Bool, z = .returned (vb (x6)) ∧ Ext W1 W2 ∧
 ((x6 = true →
  (Cl Tryz.prog W0 M H0 nK 33 #[vi x1, vi 0, vi 60] fun z W3 W4 => ∃ x7 : Bool, z = .returned (vb (x7)) ∧ Ext W3 W4 ∧
  ((x7 = true →
   (Cl Tryz.prog W0 M H0 nK 33 #[vi x2, vi 0, vi 999] fun z W5 W6 => ∃ x8 : Bool, z = .returned (vb (x8)) ∧ Ext W5 W6 ∧
   ((x8 = true →
    (∃ (I0 : List Dat → Hp → Prop) (μ0 : List Dat → Nat), I0 [.n 0] H0 ∧ ∀ H1 : Hp, ∀ x9 : Nat, I0 [.n x9] H1 →
     (0 ≤ (x4 : Int) ∧ (0 ≤ (x4 : Int) →
     (((x9 : Int) < (x4 : Int) →
      (((0 : Int) ≤ (x9 : Int) ∧ (x9 : Int) < (x4 : Int)) ∧ (((0 : Int) ≤ (x9 : Int) ∧ (x9 : Int) < (x4 : Int)) →
      (x3.isSome = true ∧ (x3.isSome = true →
      (∃ x10 : Int, RowAt H1 x3 (0 + ((x9 : Int) * 2)) [vi x10] ∧
      (inKind .i64 (x1 + 1) ∧ (inKind .i64 (x1 + 1) →
      (inKind .i64 (x1 + 3) ∧ (inKind .i64 (x1 + 3) →
      (Cl Tryz.prog W0 M H1 nK 33 #[vi x10, vi (x1 + 1), vi (if (x1 + 3) < 60 then (x1 + 3) else 60)] fun z W7 W8 => ∃ x11 : Bool, z = .returned (vb (x11)) ∧ Ext W7 W8 ∧
      ((x11 = true →
       (0 ≤ (0 + ((x9 : Int) * 2)) ∧ (0 ≤ (0 + ((x9 : Int) * 2)) →
       (∃ x12 : Int, RowAt H1 x3 ((0 + ((x9 : Int) * 2)) + 1) [vi x12] ∧
       (Cl Tryz.prog W0 M H1 nK 33 #[vi x12, vi (-1), vi 999] fun z W9 W10 => ∃ x13 : Bool, z = .returned (vb (x13)) ∧ Ext W9 W10 ∧
       ((x13 = true →
        ((0 < (x9 : Int) →
         (inKind .i64 ((x9 : Int) - 1) ∧ (inKind .i64 ((x9 : Int) - 1) →
         (((0 : Int) ≤ ((x9 : Int) - 1) ∧ ((x9 : Int) - 1) < (x4 : Int)) ∧ (((0 : Int) ≤ ((x9 : Int) - 1) ∧ ((x9 : Int) - 1) < (x4 : Int)) →
         (∃ x14 : Int, RowAt H1 x3 (0 + (((x9 : Int) - 1) * 2)) [vi x14] ∧
         (∃ x15 : Int, RowAt H1 x3 (0 + ((x9 : Int) * 2)) [vi x15] ∧
         ((x15 ≤ x14 →
          Rt R W0 M H1 nK (vi 1)) ∧
         (¬ (x15 ≤ x14) →
          (inKind .i64 ((x9 : Int) + 1) ∧ (inKind .i64 ((x9 : Int) + 1) →
          (0 ≤ ((x9 : Int) + 1) ∧ (0 ≤ ((x9 : Int) + 1) →
          (I0 [.n (((x9 : Int) + 1) : Int).toNat] H1 ∧ μ0 [.n (((x9 : Int) + 1) : Int).toNat] < μ0 [.n x9])))))))))))))) ∧
        (¬ (0 < (x9 : Int)) →
         (inKind .i64 ((x9 : Int) + 1) ∧ (inKind .i64 ((x9 : Int) + 1) →
         (0 ≤ ((x9 : Int) + 1) ∧ (0 ≤ ((x9 : Int) + 1) →
         (I0 [.n (((x9 : Int) + 1) : Int).toNat] H1 ∧ μ0 [.n (((x9 : Int) + 1) : Int).toNat] < μ0 [.n x9])))))))) ∧
       (¬ (x13 = true) →
        Rt R W0 M H1 nK (vi 1)))))))) ∧
      (¬ (x11 = true) →
       Rt R W0 M H1 nK (vi 1)))))))))))))) ∧
     (¬ ((x9 : Int) < (x4 : Int)) →
      Rt R W0 M H1 nK (vi 0))))))) ∧
   (¬ (x8 = true) →
    Rt R W0 M H0 nK (vi 3))))) ∧
  (¬ (x7 = true) →
   Rt R W0 M H0 nK (vi 3))))) ∧
 (¬ (x6 = true) →
  Rt R W0 M H0 nK (vi 3)))))) :
  Calls Tryz.prog 55 #[Value.agg #[vi x0, vi x1, vi x2, vsl x3 x4 x5]] W0 R :=
  calls_sxA (M := M) (V := v_oneErr) (hi := {loops := [(4, .inv [(3, .nat)] [])]}) (args := [.agg [vI 0, vI 1, vI 2, vS 3]]) (nv := 6) (e := (upd (upd (upd (upd (upd (upd (fun _ => .i 0) 0 (.i x0)) 1 (.i x1)) 2 (.i x2)) 3 (.p x3)) 4 (.n x4)) 5 (.n x5))) Tryz.func55 hH h (by kernel_rfl) (by kernel_rfl) (by kernel_rfl)
def v_check : VC :=
(.chk (.le (.k 0) (.v 1))
(.ite (.lt (.k 3) (.v 1))
(.ret (.int .i64 (.k 2)) [])
(.loop [(3, .i)] [.i (.k 0)] [.i (.v 3)]
(.ite (.lt (.v 3) (.v 1))
(.chk (.idx (.v 3) (.v 1))
(.chk (.isp 0)
(.ld 0 (.add (.k 0) (.mul (.v 3) (.k 4))) [vI 4, vI 5, vI 6, vS 7] [(4, .i), (5, .i), (6, .i), (7, .p), (8, .n), (9, .n)]
(.all 0
(.call 76 [.agg [vI 4, vI 5, vI 6, vS 7]] [] [(10, .i)] (vI 10) .same
(.ite (.eq (.v 10) (.k 0))
(.chk (.rng .i64 (.add (.v 3) (.k 1)))
(.back 0 [.i (.add (.v 3) (.k 1))]))
(.ret (vI 10) [])))))))
(.loop [(4, .i), (5, .i)] [.i (.k 0), .i (.k 0)] [.i (.v 4), .i (.v 5)]
(.ite (.lt (.v 4) (.v 1))
(.chk (.idx (.v 4) (.v 1))
(.chk (.isp 0)
(.ld 0 (.add (.k 0) (.mul (.v 4) (.k 4))) [vI 6, vI 7, vI 8, vS 9] [(6, .i), (7, .i), (8, .i), (9, .p), (10, .n), (11, .n)]
(.all 0
(.ite (.le (.v 6) (.v 5))
(.ret (.int .i64 (.k 1)) [])
(.chk (.rng .i64 (.add (.v 4) (.k 1)))
(.back 0 [.i (.add (.v 4) (.k 1)), .i (.v 6)])))))))
(.ret (.int .i64 (.k 0)) [])))))))
theorem x_check (x0 : Option Loc) (x1 x2 : Nat) (M : Nat → Prop) (H0 : Hp) (W0 : World) (R : Ending → World → Prop) (hH : H0.le (hpOf W0)) (h :
 (0 ≤ (x1 : Int) ∧ (0 ≤ (x1 : Int) →
 ((3 < (x1 : Int) →
  Rt R W0 M H0 nK (vi 2)) ∧
 (¬ (3 < (x1 : Int)) →
  (∃ (I0 : List Dat → Hp → Prop) (μ0 : List Dat → Nat), I0 [.i 0] H0 ∧ ∀ H1 : Hp, ∀ x3 : Int, I0 [.i x3] H1 →
   ((x3 < (x1 : Int) →
    (((0 : Int) ≤ x3 ∧ x3 < (x1 : Int)) ∧ (((0 : Int) ≤ x3 ∧ x3 < (x1 : Int)) →
    (x0.isSome = true ∧ (x0.isSome = true →
    (∃ (x4 x5 x6 : Int) (x7 : Option Loc) (x8 x9 : Nat), RowAt H1 x0 (0 + (x3 * 4)) [vi x4, vi x5, vi x6, vsl x7 x8 x9] ∧
    (∀ b0 : Nat,
    (Cl Tryz.prog W0 M H1 nK 76 #[Value.agg #[vi x4, vi x5, vi x6, vsl x7 x8 x9]] fun z W1 W2 => ∃ x10 : Int, z = .returned (vi x10) ∧ Ext W1 W2 ∧
    ((x10 = 0 →
     (inKind .i64 (x3 + 1) ∧ (inKind .i64 (x3 + 1) →
     (I0 [.i (x3 + 1)] H1 ∧ μ0 [.i (x3 + 1)] < μ0 [.i x3])))) ∧
    (¬ (x10 = 0) →
     Rt R W0 M H1 nK (vi x10))))))))))) ∧
   (¬ (x3 < (x1 : Int)) →
    (∃ (I1 : List Dat → Hp → Prop) (μ1 : List Dat → Nat), I1 [.i 0, .i 0] H1 ∧ ∀ H2 : Hp, ∀ (x4 x5 : Int), I1 [.i x4, .i x5] H2 →
     ((x4 < (x1 : Int) →
      (((0 : Int) ≤ x4 ∧ x4 < (x1 : Int)) ∧ (((0 : Int) ≤ x4 ∧ x4 < (x1 : Int)) →
      (x0.isSome = true ∧ (x0.isSome = true →
      (∃ (x6 x7 x8 : Int) (x9 : Option Loc) (x10 x11 : Nat), RowAt H2 x0 (0 + (x4 * 4)) [vi x6, vi x7, vi x8, vsl x9 x10 x11] ∧
      (∀ b0 : Nat,
      ((x6 ≤ x5 →
       Rt R W0 M H2 nK (vi 1)) ∧
      (¬ (x6 ≤ x5) →
       (inKind .i64 (x4 + 1) ∧ (inKind .i64 (x4 + 1) →
       (I1 [.i (x4 + 1), .i x6] H2 ∧ μ1 [.i (x4 + 1), .i x6] < μ1 [.i x4, .i x5])))))))))))) ∧
     (¬ (x4 < (x1 : Int)) →
      Rt R W0 M H2 nK (vi 0)))))))))))) :
  Calls Tryz.prog 58 #[vsl x0 x1 x2] W0 R :=
  calls_sxA (M := M) (V := v_check) (hi := {loops := [(4, .inv [(14, .pt (.int .i64))] []), (12, .inv [(26, .pt (.int .i64)), (6, .pt (.int .i64))] [])]}) (args := [vS 0]) (nv := 3) (e := (upd (upd (upd (fun _ => .i 0) 0 (.p x0)) 1 (.n x1)) 2 (.n x2))) Tryz.func58 hH h (by kernel_rfl) (by kernel_rfl) (by kernel_rfl)
def v_tabErr : VC :=
(.chk (.le (.k 0) (.v 1))
(.ite (.lt (.k 3) (.v 1))
(.ret (.int .i64 (.k 2)) [])
(.loop [(3, .n)] [.n (.k 0)] [.n (.v 3)]
(.ite (.lt (.v 3) (.v 1))
(.chk (.idx (.v 3) (.v 1))
(.chk (.isp 0)
(.ld 0 (.add (.k 0) (.mul (.v 3) (.k 4))) [vI 4, vI 5, vI 6, vS 7] [(4, .i), (5, .i), (6, .i), (7, .p), (8, .n), (9, .n)]
(.call 55 [.agg [vI 4, vI 5, vI 6, vS 7]] [] [(10, .i)] (vI 10) .same
(.ite (.eq (.v 10) (.k 0))
(.chk (.rng .i64 (.add (.v 3) (.k 1)))
(.chk (.le (.k 0) (.add (.v 3) (.k 1)))
(.back 0 [.n (.add (.v 3) (.k 1))])))
(.ret (vI 10) []))))))
(.loop [(4, .n)] [.n (.k 1)] [.n (.v 4)]
(.ite (.lt (.v 4) (.v 1))
(.chk (.rng .i64 (.sub (.v 4) (.k 1)))
(.chk (.idx (.sub (.v 4) (.k 1)) (.v 1))
(.chk (.isp 0)
(.ld 0 (.add (.k 0) (.mul (.sub (.v 4) (.k 1)) (.k 4))) [vI 5] [(5, .i)]
(.chk (.idx (.v 4) (.v 1))
(.ld 0 (.add (.k 0) (.mul (.v 4) (.k 4))) [vI 6] [(6, .i)]
(.ite (.le (.v 6) (.v 5))
(.ret (.int .i64 (.k 1)) [])
(.chk (.rng .i64 (.add (.v 4) (.k 1)))
(.chk (.le (.k 0) (.add (.v 4) (.k 1)))
(.back 0 [.n (.add (.v 4) (.k 1))]))))))))))
(.ret (.int .i64 (.k 0)) [])))))))
theorem x_tabErr (x0 : Option Loc) (x1 x2 : Nat) (M : Nat → Prop) (H0 : Hp) (W0 : World) (R : Ending → World → Prop) (hH : H0.le (hpOf W0)) (h :
 (0 ≤ (x1 : Int) ∧ (0 ≤ (x1 : Int) →
 ((3 < (x1 : Int) →
  Rt R W0 M H0 nK (vi 2)) ∧
 (¬ (3 < (x1 : Int)) →
  (∃ (I0 : List Dat → Hp → Prop) (μ0 : List Dat → Nat), I0 [.n 0] H0 ∧ ∀ H1 : Hp, ∀ x3 : Nat, I0 [.n x3] H1 →
   (((x3 : Int) < (x1 : Int) →
    (((0 : Int) ≤ (x3 : Int) ∧ (x3 : Int) < (x1 : Int)) ∧ (((0 : Int) ≤ (x3 : Int) ∧ (x3 : Int) < (x1 : Int)) →
    (x0.isSome = true ∧ (x0.isSome = true →
    (∃ (x4 x5 x6 : Int) (x7 : Option Loc) (x8 x9 : Nat), RowAt H1 x0 (0 + ((x3 : Int) * 4)) [vi x4, vi x5, vi x6, vsl x7 x8 x9] ∧
    (Cl Tryz.prog W0 M H1 nK 55 #[Value.agg #[vi x4, vi x5, vi x6, vsl x7 x8 x9]] fun z W1 W2 => ∃ x10 : Int, z = .returned (vi x10) ∧ Ext W1 W2 ∧
    ((x10 = 0 →
     (inKind .i64 ((x3 : Int) + 1) ∧ (inKind .i64 ((x3 : Int) + 1) →
     (0 ≤ ((x3 : Int) + 1) ∧ (0 ≤ ((x3 : Int) + 1) →
     (I0 [.n (((x3 : Int) + 1) : Int).toNat] H1 ∧ μ0 [.n (((x3 : Int) + 1) : Int).toNat] < μ0 [.n x3])))))) ∧
    (¬ (x10 = 0) →
     Rt R W0 M H1 nK (vi x10)))))))))) ∧
   (¬ ((x3 : Int) < (x1 : Int)) →
    (∃ (I1 : List Dat → Hp → Prop) (μ1 : List Dat → Nat), I1 [.n 1] H1 ∧ ∀ H2 : Hp, ∀ x4 : Nat, I1 [.n x4] H2 →
     (((x4 : Int) < (x1 : Int) →
      (inKind .i64 ((x4 : Int) - 1) ∧ (inKind .i64 ((x4 : Int) - 1) →
      (((0 : Int) ≤ ((x4 : Int) - 1) ∧ ((x4 : Int) - 1) < (x1 : Int)) ∧ (((0 : Int) ≤ ((x4 : Int) - 1) ∧ ((x4 : Int) - 1) < (x1 : Int)) →
      (x0.isSome = true ∧ (x0.isSome = true →
      (∃ x5 : Int, RowAt H2 x0 (0 + (((x4 : Int) - 1) * 4)) [vi x5] ∧
      (((0 : Int) ≤ (x4 : Int) ∧ (x4 : Int) < (x1 : Int)) ∧ (((0 : Int) ≤ (x4 : Int) ∧ (x4 : Int) < (x1 : Int)) →
      (∃ x6 : Int, RowAt H2 x0 (0 + ((x4 : Int) * 4)) [vi x6] ∧
      ((x6 ≤ x5 →
       Rt R W0 M H2 nK (vi 1)) ∧
      (¬ (x6 ≤ x5) →
       (inKind .i64 ((x4 : Int) + 1) ∧ (inKind .i64 ((x4 : Int) + 1) →
       (0 ≤ ((x4 : Int) + 1) ∧ (0 ≤ ((x4 : Int) + 1) →
       (I1 [.n (((x4 : Int) + 1) : Int).toNat] H2 ∧ μ1 [.n (((x4 : Int) + 1) : Int).toNat] < μ1 [.n x4])))))))))))))))))) ∧
     (¬ ((x4 : Int) < (x1 : Int)) →
      Rt R W0 M H2 nK (vi 0)))))))))))) :
  Calls Tryz.prog 39 #[vsl x0 x1 x2] W0 R :=
  calls_sxA (M := M) (V := v_tabErr) (hi := {loops := [(4, .inv [(3, .nat)] []), (10, .inv [(5, .nat)] [])]}) (args := [vS 0]) (nv := 3) (e := (upd (upd (upd (fun _ => .i 0) 0 (.p x0)) 1 (.n x1)) 2 (.n x2))) Tryz.func39 hH h (by kernel_rfl) (by kernel_rfl) (by kernel_rfl)
def v_rfind : VC :=
(.loop [(4, .n)] [.n (.k 0)] [.n (.v 4)]
(.chk (.le (.k 0) (.v 1))
(.ite (.lt (.v 4) (.v 1))
(.chk (.idx (.v 4) (.v 1))
(.chk (.isp 0)
(.ld 0 (.add (.k 0) (.mul (.v 4) (.k 4))) [vI 5] [(5, .i)]
(.ite (.eq (.v 5) (.v 3))
(.ret (vI 4) [])
(.chk (.rng .i64 (.add (.v 4) (.k 1)))
(.chk (.le (.k 0) (.add (.v 4) (.k 1)))
(.back 0 [.n (.add (.v 4) (.k 1))])))))))
(.ret (.int .i64 (.k (-1))) []))))
theorem x_rfind (x0 : Option Loc) (x1 x2 : Nat) (x3 : Int) (M : Nat → Prop) (H0 : Hp) (W0 : World) (R : Ending → World → Prop) (hH : H0.le (hpOf W0)) (h :
 (∃ (I0 : List Dat → Hp → Prop) (μ0 : List Dat → Nat), I0 [.n 0] H0 ∧ ∀ H1 : Hp, ∀ x4 : Nat, I0 [.n x4] H1 →
  (0 ≤ (x1 : Int) ∧ (0 ≤ (x1 : Int) →
  (((x4 : Int) < (x1 : Int) →
   (((0 : Int) ≤ (x4 : Int) ∧ (x4 : Int) < (x1 : Int)) ∧ (((0 : Int) ≤ (x4 : Int) ∧ (x4 : Int) < (x1 : Int)) →
   (x0.isSome = true ∧ (x0.isSome = true →
   (∃ x5 : Int, RowAt H1 x0 (0 + ((x4 : Int) * 4)) [vi x5] ∧
   ((x5 = x3 →
    Rt R W0 M H1 nK (vi (x4 : Int))) ∧
   (¬ (x5 = x3) →
    (inKind .i64 ((x4 : Int) + 1) ∧ (inKind .i64 ((x4 : Int) + 1) →
    (0 ≤ ((x4 : Int) + 1) ∧ (0 ≤ ((x4 : Int) + 1) →
    (I0 [.n (((x4 : Int) + 1) : Int).toNat] H1 ∧ μ0 [.n (((x4 : Int) + 1) : Int).toNat] < μ0 [.n x4]))))))))))))) ∧
  (¬ ((x4 : Int) < (x1 : Int)) →
   Rt R W0 M H1 nK (vi (-1)))))))) :
  Calls Tryz.prog 70 #[vsl x0 x1 x2, vi x3] W0 R :=
  calls_sxA (M := M) (V := v_rfind) (hi := {loops := [(2, .inv [(5, .nat)] [])]}) (args := [vS 0, vI 3]) (nv := 4) (e := (upd (upd (upd (upd (fun _ => .i 0) 0 (.p x0)) 1 (.n x1)) 2 (.n x2)) 3 (.i x3))) Tryz.func70 hH h (by kernel_rfl) (by kernel_rfl) (by kernel_rfl)
def v_sameS : VC :=
(.all 0
(.all 1
(.ite (.eq (.v 0) (.v 6))
(.ite (.eq (.v 1) (.v 7))
(.ite (.eq (.v 2) (.v 8))
(.chk (.le (.k 0) (.v 4))
(.chk (.le (.k 0) (.v 10))
(.ite (.eq (.v 4) (.v 10))
(.loop [(12, .n)] [.n (.k 0)] [.n (.v 12)]
(.ite (.lt (.v 12) (.v 4))
(.chk (.idx (.v 12) (.v 4))
(.chk (.isp 3)
(.ld 3 (.add (.k 0) (.mul (.v 12) (.k 2))) [vI 13, vI 14] [(13, .i), (14, .i)]
(.chk (.idx (.v 12) (.v 10))
(.chk (.isp 9)
(.ld 9 (.add (.k 0) (.mul (.v 12) (.k 2))) [vI 15, vI 16] [(15, .i), (16, .i)]
(.esc (.bop .neq 77 (.tmp 45) (.tmp 50)) [.agg [vI 13, vI 14], .agg [vI 15, vI 16]] [] [(17, .b)] (some (.bool (.v 17))) .same
(.ite (.v 17)
(.ret (.bool (.k false)) [])
(.chk (.rng .i64 (.add (.v 12) (.k 1)))
(.chk (.le (.k 0) (.add (.v 12) (.k 1)))
(.back 0 [.n (.add (.v 12) (.k 1))])))))))))))
(.ret (.bool (.k true)) [])))
(.ret (.bool (.k false)) []))))
(.ret (.bool (.k false)) []))
(.ret (.bool (.k false)) []))
(.ret (.bool (.k false)) []))))
theorem x_sameS (x0 x1 x2 : Int) (x3 : Option Loc) (x4 x5 : Nat) (x6 x7 x8 : Int) (x9 : Option Loc) (x10 x11 : Nat) (M : Nat → Prop) (H0 : Hp) (W0 : World) (R : Ending → World → Prop) (hH : H0.le (hpOf W0)) (h :
 (∀ b0 : Nat,
 (∀ b1 : Nat,
 ((x0 = x6 →
  ((x1 = x7 →
   ((x2 = x8 →
    (0 ≤ (x4 : Int) ∧ (0 ≤ (x4 : Int) →
    (0 ≤ (x10 : Int) ∧ (0 ≤ (x10 : Int) →
    (((x4 : Int) = (x10 : Int) →
     (∃ (I0 : List Dat → Hp → Prop) (μ0 : List Dat → Nat), I0 [.n 0] H0 ∧ ∀ H1 : Hp, ∀ x12 : Nat, I0 [.n x12] H1 →
      (((x12 : Int) < (x4 : Int) →
       (((0 : Int) ≤ (x12 : Int) ∧ (x12 : Int) < (x4 : Int)) ∧ (((0 : Int) ≤ (x12 : Int) ∧ (x12 : Int) < (x4 : Int)) →
       (x3.isSome = true ∧ (x3.isSome = true →
       (∃ (x13 x14 : Int), RowAt H1 x3 (0 + ((x12 : Int) * 2)) [vi x13, vi x14] ∧
       (((0 : Int) ≤ (x12 : Int) ∧ (x12 : Int) < (x10 : Int)) ∧ (((0 : Int) ≤ (x12 : Int) ∧ (x12 : Int) < (x10 : Int)) →
       (x9.isSome = true ∧ (x9.isSome = true →
       (∃ (x15 x16 : Int), RowAt H1 x9 (0 + ((x12 : Int) * 2)) [vi x15, vi x16] ∧
       (Es W0 M H1 nK fun W1 => ∃ x17 : Bool, Eo Tryz.prog (.bop .neq 77 (.tmp 45) (.tmp 50)) [Value.agg #[vi x13, vi x14], Value.agg #[vi x15, vi x16]] W1 (.value (vb (x17))) fun W2 => Ext W1 W2 ∧
       ((x17 = true →
        Rt R W0 M H1 nK (vb (false))) ∧
       (¬ (x17 = true) →
        (inKind .i64 ((x12 : Int) + 1) ∧ (inKind .i64 ((x12 : Int) + 1) →
        (0 ≤ ((x12 : Int) + 1) ∧ (0 ≤ ((x12 : Int) + 1) →
        (I0 [.n (((x12 : Int) + 1) : Int).toNat] H1 ∧ μ0 [.n (((x12 : Int) + 1) : Int).toNat] < μ0 [.n x12]))))))))))))))))))) ∧
      (¬ ((x12 : Int) < (x4 : Int)) →
       Rt R W0 M H1 nK (vb (true)))))) ∧
    (¬ ((x4 : Int) = (x10 : Int)) →
     Rt R W0 M H0 nK (vb (false))))))))) ∧
   (¬ (x2 = x8) →
    Rt R W0 M H0 nK (vb (false))))) ∧
  (¬ (x1 = x7) →
   Rt R W0 M H0 nK (vb (false))))) ∧
 (¬ (x0 = x6) →
  Rt R W0 M H0 nK (vb (false))))))) :
  Calls Tryz.prog 68 #[Value.agg #[vi x0, vi x1, vi x2, vsl x3 x4 x5], Value.agg #[vi x6, vi x7, vi x8, vsl x9 x10 x11]] W0 R :=
  calls_sxA (M := M) (V := v_sameS) (hi := {loops := [(4, .inv [(5, .nat)] [])]}) (args := [.agg [vI 0, vI 1, vI 2, vS 3], .agg [vI 6, vI 7, vI 8, vS 9]]) (nv := 12) (e := (upd (upd (upd (upd (upd (upd (upd (upd (upd (upd (upd (upd (fun _ => .i 0) 0 (.i x0)) 1 (.i x1)) 2 (.i x2)) 3 (.p x3)) 4 (.n x4)) 5 (.n x5)) 6 (.i x6)) 7 (.i x7)) 8 (.i x8)) 9 (.p x9)) 10 (.n x10)) 11 (.n x11))) Tryz.func68 hH h (by kernel_rfl) (by kernel_rfl) (by kernel_rfl)
def v_sameT : VC :=
(.chk (.le (.k 0) (.v 1))
(.chk (.le (.k 0) (.v 4))
(.ite (.eq (.v 1) (.v 4))
(.loop [(6, .n)] [.n (.k 0)] [.n (.v 6)]
(.ite (.lt (.v 6) (.v 1))
(.chk (.idx (.v 6) (.v 1))
(.chk (.isp 0)
(.ld 0 (.add (.k 0) (.mul (.v 6) (.k 4))) [vI 7, vI 8, vI 9, vS 10] [(7, .i), (8, .i), (9, .i), (10, .p), (11, .n), (12, .n)]
(.chk (.idx (.v 6) (.v 4))
(.chk (.isp 3)
(.ld 3 (.add (.k 0) (.mul (.v 6) (.k 4))) [vI 13, vI 14, vI 15, vS 16] [(13, .i), (14, .i), (15, .i), (16, .p), (17, .n), (18, .n)]
(.call 68 [.agg [vI 7, vI 8, vI 9, vS 10], .agg [vI 13, vI 14, vI 15, vS 16]] [] [(19, .b)] (.bool (.v 19)) .same
(.ite (.v 19)
(.chk (.rng .i64 (.add (.v 6) (.k 1)))
(.chk (.le (.k 0) (.add (.v 6) (.k 1)))
(.back 0 [.n (.add (.v 6) (.k 1))])))
(.ret (.bool (.k false)) [])))))))))
(.ret (.bool (.k true)) [])))
(.ret (.bool (.k false)) []))))
theorem x_sameT (x0 : Option Loc) (x1 x2 : Nat) (x3 : Option Loc) (x4 x5 : Nat) (M : Nat → Prop) (H0 : Hp) (W0 : World) (R : Ending → World → Prop) (hH : H0.le (hpOf W0)) (h :
 (0 ≤ (x1 : Int) ∧ (0 ≤ (x1 : Int) →
 (0 ≤ (x4 : Int) ∧ (0 ≤ (x4 : Int) →
 (((x1 : Int) = (x4 : Int) →
  (∃ (I0 : List Dat → Hp → Prop) (μ0 : List Dat → Nat), I0 [.n 0] H0 ∧ ∀ H1 : Hp, ∀ x6 : Nat, I0 [.n x6] H1 →
   (((x6 : Int) < (x1 : Int) →
    (((0 : Int) ≤ (x6 : Int) ∧ (x6 : Int) < (x1 : Int)) ∧ (((0 : Int) ≤ (x6 : Int) ∧ (x6 : Int) < (x1 : Int)) →
    (x0.isSome = true ∧ (x0.isSome = true →
    (∃ (x7 x8 x9 : Int) (x10 : Option Loc) (x11 x12 : Nat), RowAt H1 x0 (0 + ((x6 : Int) * 4)) [vi x7, vi x8, vi x9, vsl x10 x11 x12] ∧
    (((0 : Int) ≤ (x6 : Int) ∧ (x6 : Int) < (x4 : Int)) ∧ (((0 : Int) ≤ (x6 : Int) ∧ (x6 : Int) < (x4 : Int)) →
    (x3.isSome = true ∧ (x3.isSome = true →
    (∃ (x13 x14 x15 : Int) (x16 : Option Loc) (x17 x18 : Nat), RowAt H1 x3 (0 + ((x6 : Int) * 4)) [vi x13, vi x14, vi x15, vsl x16 x17 x18] ∧
    (Cl Tryz.prog W0 M H1 nK 68 #[Value.agg #[vi x7, vi x8, vi x9, vsl x10 x11 x12], Value.agg #[vi x13, vi x14, vi x15, vsl x16 x17 x18]] fun z W1 W2 => ∃ x19 : Bool, z = .returned (vb (x19)) ∧ Ext W1 W2 ∧
    ((x19 = true →
     (inKind .i64 ((x6 : Int) + 1) ∧ (inKind .i64 ((x6 : Int) + 1) →
     (0 ≤ ((x6 : Int) + 1) ∧ (0 ≤ ((x6 : Int) + 1) →
     (I0 [.n (((x6 : Int) + 1) : Int).toNat] H1 ∧ μ0 [.n (((x6 : Int) + 1) : Int).toNat] < μ0 [.n x6])))))) ∧
    (¬ (x19 = true) →
     Rt R W0 M H1 nK (vb (false)))))))))))))))) ∧
   (¬ ((x6 : Int) < (x1 : Int)) →
    Rt R W0 M H1 nK (vb (true)))))) ∧
 (¬ ((x1 : Int) = (x4 : Int)) →
  Rt R W0 M H0 nK (vb (false))))))))) :
  Calls Tryz.prog 53 #[vsl x0 x1 x2, vsl x3 x4 x5] W0 R :=
  calls_sxA (M := M) (V := v_sameT) (hi := {loops := [(4, .inv [(5, .nat)] [])]}) (args := [vS 0, vS 3]) (nv := 6) (e := (upd (upd (upd (upd (upd (upd (fun _ => .i 0) 0 (.p x0)) 1 (.n x1)) 2 (.n x2)) 3 (.p x3)) 4 (.n x4)) 5 (.n x5))) Tryz.func53 hH h (by kernel_rfl) (by kernel_rfl) (by kernel_rfl)
end Go.Proofs.YtfpmcmhihhnfgaaGreat
namespace Go.Proofs.YtfpmcmhihhnfgaaGreat
open Go.RowKit

theorem keptOk_cons (a last : Int) (r : Rep) (t : List Rep) : keptOk a last (r :: t) = (decide (last < r.seq ∧ r.seq ≤ a + 3 ∧ r.seq ≤ 60 ∧ -1 ≤ r.val ∧ r.val ≤ 999) && keptOk a r.seq t) := rfl
theorem err_range {s : Ses} (h : s.client < 1 ∨ 5 < s.client ∨ s.acked < 0 ∨ 60 < s.acked ∨ s.seen < 0 ∨ 999 < s.seen) : vi 3 = vi s.err := by unfold Ses.err; rw [if_pos h]
theorem err_kept {s : Ses} (h : ¬ (s.client < 1 ∨ 5 < s.client ∨ s.acked < 0 ∨ 60 < s.acked ∨ s.seen < 0 ∨ 999 < s.seen)) (hk : keptOk s.acked s.acked s.kept = false) : vi 1 = vi s.err := by unfold Ses.err; rw [if_neg h, hk]; rfl
theorem err_none {s : Ses} (h : ¬ (s.client < 1 ∨ 5 < s.client ∨ s.acked < 0 ∨ 60 < s.acked ∨ s.seen < 0 ∨ 999 < s.seen)) (hk : keptOk s.acked s.acked s.kept = true) : vi 0 = vi s.err := by unfold Ses.err; rw [if_neg h, hk]; rfl
theorem Kept.at' {H : Hp} {p : Option Loc} {n c : Nat} {l : List Rep} (h : Kept H p n c l) {k : Nat} (hk : k < n) : ∃ r : Rep, l[k]? = some r ∧ RowAt H p (0 + (k : Int) * 2) [vi r.seq, vi r.val] ∧ RowAt H p (0 + (k : Int) * 2) [vi r.seq] ∧ RowAt H p (0 + (k : Int) * 2 + 1) [vi r.val] := by
  obtain ⟨r, h1, h2⟩ := h.at hk
  exact ⟨r, h1, h2 _ (by omega)⟩

theorem c_within (a lo hi : Int) (H : Hp) : Gv Tryz.prog 33 #[vi a, vi lo, vi hi] H (vb (inR a lo hi)) := fun W hH =>
  x_within a lo hi noM H W _ hH ⟨fun h => Rt.gv' (by simp [inR, h]), fun h => Rt.gv' (by simp [inR, h])⟩

theorem c_one {H : Hp} {p : Option Loc} {n c : Nat} {s : Ses} (hk : Kept H p n c s.kept) : Gv Tryz.prog 76 #[.agg #[vi s.client, vi s.acked, vi s.seen, vsl p n c]] H (vi s.err) := fun W hH => by
  refine x_one _ _ _ p n c noM H W _ hH ?_
  intro b0
  refine ⟨fun h => Rt.gv' (err_range (by omega)), fun h1 => ⟨fun h => Rt.gv' (err_range (by omega)), fun h2 => ⟨fun h => Rt.gv' (err_range (by omega)), fun h3 => ⟨fun h => Rt.gv' (err_range (by omega)), fun h4 => ⟨fun h => Rt.gv' (err_range (by omega)), fun h5 => ⟨fun h => Rt.gv' (err_range (by omega)), fun h6 => ?_⟩⟩⟩⟩⟩⟩
  have hr : ¬ (s.client < 1 ∨ 5 < s.client ∨ s.acked < 0 ∨ 60 < s.acked ∨ s.seen < 0 ∨ 999 < s.seen) := by omega
  refine ⟨by omega, fun _ => ⟨fun l K => match l with | [.i k, .i last] => ∃ j : Nat, k = j ∧ j ≤ n ∧ H.le K ∧ keptOk s.acked last (s.kept.drop j) = keptOk s.acked s.acked s.kept | _ => False,
    fun l => match l with | [.i k, _] => n - k.toNat | _ => 0, ⟨0, rfl, by omega, Hp.le_refl H, by simp⟩, fun K k last hI => ?_⟩⟩
  obtain ⟨j, rfl, hj, hle, hok⟩ := hI
  have hl63 := hk.lt63
  refine ⟨fun hlt => ⟨⟨by omega, hlt⟩, fun _ => ?_⟩, fun hge => ?_⟩
  · obtain ⟨r, hr1, hr2, _⟩ := (hk.mono hle).at' (k := j) (by omega)
    refine ⟨hr2.isSome, fun _ => ⟨r.seq, r.val, hr2, fun b1 => ?_⟩⟩
    rw [drop_cons hr1, keptOk_cons] at hok
    have no : ¬ (last < r.seq ∧ r.seq ≤ s.acked + 3 ∧ r.seq ≤ 60 ∧ -1 ≤ r.val ∧ r.val ≤ 999) → vi 1 = vi s.err := fun h => err_kept hr (by rw [← hok]; simp only [decide_eq_false h, Bool.false_and])
    refine ⟨fun h => Rt.gv' (no (by omega)), fun g1 => ⟨in64 (by omega), fun _ => ⟨fun h => Rt.gv' (no (by omega)), fun g2 => ⟨fun h => Rt.gv' (no (by omega)), fun g3 => ⟨fun h => Rt.gv' (no (by omega)), fun g4 => ⟨fun h => Rt.gv' (no (by omega)), fun g5 => ⟨in64 (by omega), fun _ => ?_⟩⟩⟩⟩⟩⟩⟩
    refine ⟨⟨j + 1, by omega, by omega, hle, ?_⟩, by simp only; omega⟩
    rw [← hok, decide_eq_true (by omega), Bool.true_and]
  · refine Rt.gv' (err_none hr ?_)
    rw [← hok, List.drop_of_length_le (by have := hk.len; omega)]
    rfl

/-- the number before the reply at j -/
def lastAt (s : Ses) (j : Nat) : Int := if j = 0 then s.acked else ((s.kept[j - 1]?).map Rep.seq).getD 0
theorem c_oneErr {H : Hp} {p : Option Loc} {n c : Nat} {s : Ses} (hk : Kept H p n c s.kept) : Gv Tryz.prog 55 #[.agg #[vi s.client, vi s.acked, vi s.seen, vsl p n c]] H (vi s.err) := fun W hH => by
  refine x_oneErr _ _ _ p n c noM H W _ hH ?_
  intro b0
  refine Cl.same (c_within _ _ _ _) fun _ _ hx => ⟨_, rfl, hx, fun h1 => ?_, fun h => Rt.gv' (err_range (by rw [inR_iff] at h; omega))⟩
  refine Cl.same (c_within _ _ _ _) fun _ _ hx => ⟨_, rfl, hx, fun h2 => ?_, fun h => Rt.gv' (err_range (by rw [inR_iff] at h; omega))⟩
  refine Cl.same (c_within _ _ _ _) fun _ _ hx => ⟨_, rfl, hx, fun h3 => ?_, fun h => Rt.gv' (err_range (by rw [inR_iff] at h; omega))⟩
  rw [inR_iff] at h1 h2 h3
  have hr : ¬ (s.client < 1 ∨ 5 < s.client ∨ s.acked < 0 ∨ 60 < s.acked ∨ s.seen < 0 ∨ 999 < s.seen) := by omega
  refine ⟨fun l K => match l with | [.n j] => j ≤ n ∧ H.le K ∧ s.acked ≤ lastAt s j ∧ keptOk s.acked (lastAt s j) (s.kept.drop j) = keptOk s.acked s.acked s.kept | _ => False,
    fun l => match l with | [.n j] => n - j | _ => 0, ⟨by omega, Hp.le_refl H, by simp [lastAt], by simp [lastAt]⟩, fun K j hI => ?_⟩
  obtain ⟨hj, hle, hla, hok⟩ := hI
  have hl63 := hk.lt63
  refine ⟨by omega, fun _ => ⟨fun hlt => ⟨⟨by omega, hlt⟩, fun _ => ?_⟩, fun hge => ?_⟩⟩
  · obtain ⟨r, hr1, _, hr2, hr3⟩ := (hk.mono hle).at' (k := j) (by omega)
    refine ⟨hr2.isSome, fun _ => ⟨r.seq, hr2, in64 (by omega), fun _ => ⟨in64 (by omega), fun _ => ?_⟩⟩⟩
    rw [drop_cons hr1, keptOk_cons] at hok
    have no : ¬ (lastAt s j < r.seq ∧ r.seq ≤ s.acked + 3 ∧ r.seq ≤ 60 ∧ -1 ≤ r.val ∧ r.val ≤ 999) → vi 1 = vi s.err := fun h => err_kept hr (by rw [← hok]; simp only [decide_eq_false h, Bool.false_and])
    have hl1 : lastAt s (j + 1) = r.seq := by rw [lastAt, if_neg (by omega), Nat.add_sub_cancel, hr1]; rfl
    have ht : ((j : Int) + 1).toNat = j + 1 := by omega
    refine Cl.same (c_within _ _ _ _) fun _ _ hx => ⟨_, rfl, hx, fun g1 => ?_, fun h => Rt.gv' (no (fun hh => h (by rw [inR_iff]; split <;> omega)))⟩
    rw [inR_iff] at g1
    refine ⟨by omega, fun _ => ⟨r.val, hr3, ?_⟩⟩
    refine Cl.same (c_within _ _ _ _) fun _ _ hx => ⟨_, rfl, hx, fun g2 => ?_, fun h => Rt.gv' (no (by rw [inR_iff] at h; omega))⟩
    rw [inR_iff] at g2
    have g1' : s.acked < r.seq ∧ r.seq ≤ s.acked + 3 ∧ r.seq ≤ 60 := by split at g1 <;> omega
    have hnext : lastAt s j < r.seq → keptOk s.acked (lastAt s (j + 1)) (s.kept.drop (j + 1)) = keptOk s.acked s.acked s.kept := fun h => by rw [hl1, ← hok, decide_eq_true (by omega), Bool.true_and]
    refine ⟨fun hj0 => ⟨in64 (by omega), fun _ => ⟨⟨by omega, by omega⟩, fun _ => ?_⟩⟩, fun hj0 => ?_⟩
    · obtain ⟨q, hq1, hq2⟩ := (hk.mono hle).at (k := j - 1) (by omega)
      have hq3 := (hq2 (0 + ((j : Int) - 1) * 2) (by omega)).2.1
      have hl : lastAt s j = q.seq := by rw [lastAt, if_neg (by omega), hq1]; rfl
      refine ⟨q.seq, hq3, r.seq, hr2, fun h => Rt.gv' (no (by omega)), fun h => ⟨in64 (by omega), fun _ => ⟨by omega, fun _ => ?_⟩⟩⟩
      rw [ht]
      exact ⟨⟨by omega, hle, by omega, hnext (by omega)⟩, by simp only; omega⟩
    · have hl : lastAt s j = s.acked := by rw [lastAt, if_pos (by omega)]
      refine ⟨in64 (by omega), fun _ => ⟨by omega, fun _ => ?_⟩⟩
      rw [ht]
      exact ⟨⟨by omega, hle, by omega, hnext (by omega)⟩, by simp only; omega⟩
  · refine Rt.gv' (err_none hr ?_)
    rw [← hok, List.drop_of_length_le (by have := hk.len; omega)]
    rfl
end Go.Proofs.YtfpmcmhihhnfgaaGreat
namespace Go.Proofs.YtfpmcmhihhnfgaaGreat
open Go.RowKit

theorem Tab.at' {H : Hp} {p : Option Loc} {n c : Nat} {l : List Ses} (h : Tab H p n c l) {k : Nat} (hk : k < n) : ∃ (s : Ses) (q : Option Loc) (m d : Nat), l[k]? = some s ∧ Kept H q m d s.kept ∧
    RowAt H p (0 + (k : Int) * 4) [vi s.client, vi s.acked, vi s.seen, vsl q m d] ∧ RowAt H p (0 + (k : Int) * 4) [vi s.client] := by
  obtain ⟨s, q, m, d, h1, h2, h3⟩ := h.at hk
  exact ⟨s, q, m, d, h1, h2, (h3 _ (by omega)).1, (h3 _ (by omega)).2.1⟩
theorem te_many {l : List Ses} (h : 3 < l.length) : vi 2 = vi (tabErr l) := by unfold tabErr; rw [if_pos h]
theorem te_first {l : List Ses} (h : ¬ 3 < l.length) {e : Int} (he : e ≠ 0) (hf : firstErr l = e) : vi e = vi (tabErr l) := by unfold tabErr; rw [if_neg h, hf, if_neg he]
theorem te_form {l : List Ses} (h : ¬ 3 < l.length) (hf : firstErr l = 0) (ho : ordered 0 l = false) : vi 1 = vi (tabErr l) := by unfold tabErr; rw [if_neg h, hf, if_pos rfl, ho]; rfl
theorem te_ok {l : List Ses} (h : ¬ 3 < l.length) (hf : firstErr l = 0) (ho : ordered 0 l = true) : vi 0 = vi (tabErr l) := by unfold tabErr; rw [if_neg h, hf, if_pos rfl, ho]; rfl

theorem c_check {H : Hp} {p : Option Loc} {n c : Nat} {l : List Ses} (hT : Tab H p n c l) : Gv Tryz.prog 58 #[vsl p n c] H (vi (tabErr l)) := fun W hH => by
  have hn := hT.len
  refine x_check p n c noM H W _ hH ⟨by omega, fun _ => ⟨fun h => Rt.gv' (te_many (by omega)), fun h3 => ?_⟩⟩
  have hl : ¬ 3 < l.length := by omega
  refine ⟨fun v K => match v with | [.i k] => ∃ j : Nat, k = j ∧ j ≤ n ∧ H.le K ∧ firstErr (l.drop j) = firstErr l | _ => False, fun v => match v with | [.i k] => n - k.toNat | _ => 0, ⟨0, rfl, by omega, Hp.le_refl H, by simp⟩, fun K k hI => ?_⟩
  obtain ⟨j, rfl, hj, hle, hf⟩ := hI
  refine ⟨fun hlt => ⟨⟨by omega, hlt⟩, fun _ => ?_⟩, fun hge => ?_⟩
  · obtain ⟨s, q, m, d, hs, hq, hat, _⟩ := (hT.mono hle).at' (k := j) (by omega)
    rw [drop_cons hs, firstErr] at hf
    refine ⟨hat.isSome, fun _ => ⟨_, _, _, q, m, d, hat, fun b0 => ?_⟩⟩
    refine Cl.same (c_one hq) fun _ _ hx => ⟨_, rfl, hx, fun h0 => ⟨in64 (by omega), fun _ => ⟨⟨j + 1, by omega, by omega, hle, ?_⟩, by simp only; omega⟩⟩, fun h0 => Rt.gv' (te_first hl h0 ?_)⟩
    · rw [← hf, if_pos h0]
    · rw [← hf, if_neg h0]
  · have hf0 : firstErr l = 0 := by rw [← hf, List.drop_of_length_le (by omega)]; rfl
    refine ⟨fun v K => match v with | [.i k, .i last] => ∃ j : Nat, k = j ∧ j ≤ n ∧ H.le K ∧ ordered last (l.drop j) = ordered 0 l | _ => False, fun v => match v with | [.i k, _] => n - k.toNat | _ => 0, ⟨0, rfl, by omega, hle, by simp⟩, fun K' k last hI => ?_⟩
    obtain ⟨i, rfl, hi, hle', ho⟩ := hI
    refine ⟨fun hlt => ⟨⟨by omega, hlt⟩, fun _ => ?_⟩, fun hge => ?_⟩
    · obtain ⟨s, q, m, d, hs, hq, hat, _⟩ := (hT.mono hle').at' (k := i) (by omega)
      rw [drop_cons hs, ordered] at ho
      refine ⟨hat.isSome, fun _ => ⟨_, _, _, q, m, d, hat, fun b0 => ⟨fun h0 => Rt.gv' (te_form hl hf0 ?_), fun h0 => ⟨in64 (by omega), fun _ => ⟨⟨i + 1, by omega, by omega, hle', ?_⟩, by simp only; omega⟩⟩⟩⟩⟩
      · rw [← ho, decide_eq_false (by omega), Bool.false_and]
      · rw [← ho, decide_eq_true (by omega), Bool.true_and]
    · refine Rt.gv' (te_ok hl hf0 ?_)
      rw [← ho, List.drop_of_length_le (by omega)]
      rfl
def clientAt (l : List Ses) (i : Nat) : Int := ((l[i]?).map Ses.client).getD 0
theorem c_tabErr {H : Hp} {p : Option Loc} {n c : Nat} {l : List Ses} (hT : Tab H p n c l) : Gv Tryz.prog 39 #[vsl p n c] H (vi (tabErr l)) := fun W hH => by
  have hn := hT.len
  refine x_tabErr p n c noM H W _ hH ⟨by omega, fun _ => ⟨fun h => Rt.gv' (te_many (by omega)), fun h3 => ?_⟩⟩
  have hl : ¬ 3 < l.length := by omega
  refine ⟨fun v K => match v with | [.n j] => j ≤ n ∧ H.le K ∧ firstErr (l.drop j) = firstErr l | _ => False, fun v => match v with | [.n j] => n - j | _ => 0, ⟨by omega, Hp.le_refl H, by simp⟩, fun K j hI => ?_⟩
  obtain ⟨hj, hle, hf⟩ := hI
  have ht : ((j : Int) + 1).toNat = j + 1 := by omega
  refine ⟨fun hlt => ⟨⟨by omega, hlt⟩, fun _ => ?_⟩, fun hge => ?_⟩
  · obtain ⟨s, q, m, d, hs, hq, hat, _⟩ := (hT.mono hle).at' (k := j) (by omega)
    rw [drop_cons hs, firstErr] at hf
    refine ⟨hat.isSome, fun _ => ⟨_, _, _, q, m, d, hat, ?_⟩⟩
    refine Cl.same (c_oneErr hq) fun _ _ hx => ⟨_, rfl, hx, fun h0 => ⟨in64 (by omega), fun _ => ⟨by omega, fun _ => ?_⟩⟩, fun h0 => Rt.gv' (te_first hl h0 ?_)⟩
    · rw [ht]
      refine ⟨⟨by omega, hle, ?_⟩, by simp only; omega⟩
      rw [← hf, if_pos h0]
    · rw [← hf, if_neg h0]
  · have hf0 : firstErr l = 0 := by rw [← hf, List.drop_of_length_le (by omega)]; rfl
    have hone := firstErr_ok.1 hf0
    refine ⟨fun v K => match v with | [.n j] => 1 ≤ j ∧ (j ≤ n ∨ j = 1) ∧ H.le K ∧ ordered (clientAt l (j - 1)) (l.drop j) = ordered 0 l | _ => False, fun v => match v with | [.n j] => n - j | _ => 0, ⟨by omega, by omega, hle, ?_⟩, fun K' i hI => ?_⟩
    · cases l with
      | nil => rfl
      | cons s t =>
        have := (Ses.err_ok (hone s (List.mem_cons_self ..))).1
        simp only [ordered]
        rw [decide_eq_true (by omega), Bool.true_and]
        rfl
    obtain ⟨hi1, hi, hle', ho⟩ := hI
    have ht : ((i : Int) + 1).toNat = i + 1 := by omega
    refine ⟨fun hlt => ⟨in64 (by omega), fun _ => ⟨⟨by omega, by omega⟩, fun _ => ?_⟩⟩, fun hge => ?_⟩
    · obtain ⟨s, q, m, d, hs, hq, hat, hat2⟩ := (hT.mono hle').at' (k := i) (by omega)
      obtain ⟨s', q', m', d', hs', hq', hat'⟩ := (hT.mono hle').at (k := i - 1) (by omega)
      have h4 := (hat' (0 + ((i : Int) - 1) * 4) (by omega)).2.1
      have hc : clientAt l (i - 1) = s'.client := by simp only [clientAt, hs', Option.map_some, Option.getD_some]
      have hc2 : clientAt l (i + 1 - 1) = s.client := by simp only [clientAt, Nat.add_sub_cancel, hs, Option.map_some, Option.getD_some]
      rw [drop_cons hs, ordered, hc] at ho
      refine ⟨hat.isSome, fun _ => ⟨_, h4, ⟨by omega, hlt⟩, fun _ => ⟨_, hat2, fun h0 => Rt.gv' (te_form hl hf0 ?_), fun h0 => ⟨in64 (by omega), fun _ => ⟨by omega, fun _ => ?_⟩⟩⟩⟩⟩
      · rw [← ho, decide_eq_false (by omega), Bool.false_and]
      · rw [ht]
        refine ⟨⟨by omega, by omega, hle', ?_⟩, by simp only; omega⟩
        rw [hc2, ← ho, decide_eq_true (by omega), Bool.true_and]
    · refine Rt.gv' (te_ok hl hf0 ?_)
      rw [← ho, List.drop_of_length_le (by omega)]
      rfl
/-- where a client's session is; -1: nowhere -/
def ixFrom (c : Int) : Nat → List Ses → Int
  | _, [] => -1
  | k, s :: t => if s.client = c then k else ixFrom c (k + 1) t
theorem c_rfind {H : Hp} {p : Option Loc} {n c : Nat} {l : List Ses} (hT : Tab H p n c l) (x : Int) : Gv Tryz.prog 70 #[vsl p n c, vi x] H (vi (ixFrom x 0 l)) := fun W hH => by
  have hn := hT.len
  have h63 := hT.lt63
  refine x_rfind p n c x noM H W _ hH ⟨fun v K => match v with | [.n j] => j ≤ n ∧ H.le K ∧ ixFrom x j (l.drop j) = ixFrom x 0 l | _ => False, fun v => match v with | [.n j] => n - j | _ => 0, ⟨by omega, Hp.le_refl H, by simp⟩, fun K j hI => ?_⟩
  obtain ⟨hj, hle, hf⟩ := hI
  have ht : ((j : Int) + 1).toNat = j + 1 := by omega
  refine ⟨by omega, fun _ => ⟨fun hlt => ⟨⟨by omega, hlt⟩, fun _ => ?_⟩, fun hge => ?_⟩⟩
  · obtain ⟨s, q, m, d, hs, hq, _, hat⟩ := (hT.mono hle).at' (k := j) (by omega)
    rw [drop_cons hs, ixFrom] at hf
    refine ⟨hat.isSome, fun _ => ⟨_, hat, fun h0 => Rt.gv' (by rw [← hf, if_pos h0]), fun h0 => ⟨in64 (by omega), fun _ => ⟨by omega, fun _ => ?_⟩⟩⟩⟩
    rw [ht]
    exact ⟨⟨by omega, hle, by rw [← hf, if_neg h0]⟩, by simp only; omega⟩
  · refine Rt.gv' ?_
    rw [← hf, List.drop_of_length_le (by omega)]
    rfl
theorem Ses.eq_iff (s t : Ses) : s = t ↔ s.client = t.client ∧ s.acked = t.acked ∧ s.seen = t.seen ∧ s.kept = t.kept := by cases s; cases t; simp
theorem drop_eq {α : Type} [DecidableEq α] {l m : List α} {k : Nat} {x y : α} (hx : l[k]? = some x) (hy : m[k]? = some y) : (l.drop k = m.drop k) ↔ (x = y ∧ l.drop (k + 1) = m.drop (k + 1)) := by
  rw [drop_cons hx, drop_cons hy, List.cons.injEq]
theorem c_sameS {H : Hp} {p p' : Option Loc} {n c n' c' : Nat} {s t : Ses} (hk : Kept H p n c s.kept) (hk' : Kept H p' n' c' t.kept) :
    Gv Tryz.prog 68 #[.agg #[vi s.client, vi s.acked, vi s.seen, vsl p n c], .agg #[vi t.client, vi t.acked, vi t.seen, vsl p' n' c']] H (vb (decide (s = t))) := fun W hH => by
  have no : ¬ (s.client = t.client ∧ s.acked = t.acked ∧ s.seen = t.seen ∧ s.kept = t.kept) → vb false = vb (decide (s = t)) := fun h => by rw [decide_eq_false (by rw [Ses.eq_iff]; exact h)]
  have hn := hk.len
  have hn' := hk'.len
  have h63 := hk.lt63
  refine x_sameS _ _ _ p n c _ _ _ p' n' c' noM H W _ hH ?_
  intro b0 b1
  refine ⟨fun h1 => ⟨fun h2 => ⟨fun h3 => ⟨by omega, fun _ => ⟨by omega, fun _ => ⟨fun h4 => ?_, fun h4 => Rt.gv' (no (fun h => h4 (by rw [hn, hn', h.2.2.2])))⟩⟩⟩, fun h => Rt.gv' (no (fun hh => h hh.2.2.1))⟩, fun h => Rt.gv' (no (fun hh => h hh.2.1))⟩, fun h => Rt.gv' (no (fun hh => h hh.1))⟩
  refine ⟨fun v K => match v with | [.n j] => j ≤ n ∧ H.le K ∧ (s.kept.drop j = t.kept.drop j ↔ s.kept = t.kept) | _ => False, fun v => match v with | [.n j] => n - j | _ => 0, ⟨by omega, Hp.le_refl H, by simp⟩, fun K j hI => ?_⟩
  obtain ⟨hj, hle, hf⟩ := hI
  have ht : ((j : Int) + 1).toNat = j + 1 := by omega
  refine ⟨fun hlt => ⟨⟨by omega, hlt⟩, fun _ => ?_⟩, fun hge => Rt.gv' ?_⟩
  · obtain ⟨r, hr, hat, _⟩ := (hk.mono hle).at' (k := j) (by omega)
    obtain ⟨r', hr', hat', _⟩ := (hk'.mono hle).at' (k := j) (by omega)
    rw [drop_eq hr hr'] at hf
    refine ⟨hat.isSome, fun _ => ⟨_, _, hat, ⟨by omega, by omega⟩, fun _ => ⟨hat'.isSome, fun _ => ⟨_, _, hat', ?_⟩⟩⟩⟩
    intro W1 _ _
    refine ⟨_, _, ek_ne_rep .., Ext.refl _, fun h0 => Rt.gv' (no (fun hh => ?_)), fun h0 => ⟨in64 (by omega), fun _ => ⟨by omega, fun _ => ?_⟩⟩⟩
    · simp only [Bool.not_eq_true', decide_eq_false_iff_not] at h0
      exact h0 (hf.2 hh.2.2.2).1
    · simp only [Bool.not_eq_true, Bool.not_eq_false', decide_eq_true_eq] at h0
      rw [ht]
      refine ⟨⟨by omega, hle, ?_⟩, by simp only; omega⟩
      rw [← hf]
      exact ⟨fun h => ⟨h0, h⟩, fun h => h.2⟩
  · rw [decide_eq_true]
    rw [Ses.eq_iff]
    exact ⟨h1, h2, h3, hf.1 (by rw [List.drop_of_length_le (by omega), List.drop_of_length_le (by omega)])⟩
theorem c_sameT {H : Hp} {p p' : Option Loc} {n c n' c' : Nat} {l m : List Ses} (hT : Tab H p n c l) (hT' : Tab H p' n' c' m) : Gv Tryz.prog 53 #[vsl p n c, vsl p' n' c'] H (vb (decide (l = m))) := fun W hH => by
  have hn := hT.len
  have hn' := hT'.len
  have h63 := hT.lt63
  refine x_sameT p n c p' n' c' noM H W _ hH ⟨by omega, fun _ => ⟨by omega, fun _ => ⟨fun h1 => ?_, fun h1 => Rt.gv' (by rw [decide_eq_false (fun h => h1 (by rw [hn, hn', h]))])⟩⟩⟩
  refine ⟨fun v K => match v with | [.n j] => j ≤ n ∧ H.le K ∧ (l.drop j = m.drop j ↔ l = m) | _ => False, fun v => match v with | [.n j] => n - j | _ => 0, ⟨by omega, Hp.le_refl H, by simp⟩, fun K j hI => ?_⟩
  obtain ⟨hj, hle, hf⟩ := hI
  have ht : ((j : Int) + 1).toNat = j + 1 := by omega
  refine ⟨fun hlt => ⟨⟨by omega, hlt⟩, fun _ => ?_⟩, fun hge => Rt.gv' ?_⟩
  · obtain ⟨s, q, k, d, hs, hq, hat, _⟩ := (hT.mono hle).at' (k := j) (by omega)
    obtain ⟨s', q', k', d', hs', hq', hat', _⟩ := (hT'.mono hle).at' (k := j) (by omega)
    rw [drop_eq hs hs'] at hf
    refine ⟨hat.isSome, fun _ => ⟨_, _, _, _, _, _, hat, ⟨by omega, by omega⟩, fun _ => ⟨hat'.isSome, fun _ => ⟨_, _, _, _, _, _, hat', ?_⟩⟩⟩⟩
    refine Cl.same (c_sameS hq hq') fun _ _ hx => ⟨_, rfl, hx, fun h0 => ⟨in64 (by omega), fun _ => ⟨by omega, fun _ => ?_⟩⟩, fun h0 => Rt.gv' ?_⟩
    · rw [ht]
      refine ⟨⟨by omega, hle, ?_⟩, by simp only; omega⟩
      rw [← hf]
      exact ⟨fun h => ⟨of_decide_eq_true h0, h⟩, fun h => h.2⟩
    · rw [decide_eq_false]
      exact fun h => h0 (decide_eq_true (hf.2 h).1)
  · rw [decide_eq_true (hf.1 (by rw [List.drop_of_length_le (by omega), List.drop_of_length_le (by omega)]))]
end Go.Proofs.YtfpmcmhihhnfgaaGreat
