/- Symbolic runs of functions: what each leaves to prove is enough for its call. Printed by a program of ours. No conditions. -/
import Derived.Test.YtcnkljeniffmmaaSxP
import Derived.Test.YtcnkljeniffmmaaProg
namespace Go.Proofs.Ytcnkljeniffmmaa
open Go.RowKit
set_option maxRecDepth 100000
set_option maxHeartbeats 4000000
theorem x_opTrue (x0 : Int) (x1 : Int) (x2 : Int) (x3 : Int) (x4 : Int) (x5 : Int) (x6 : Int) (x7 : Int) (H0 : Hp) (W0 : World) (R : Ending → World → Prop) (hH : H0.le (hpOf W0)) (h :
 (∀ b0 : Nat,
 (∀ b1 : Nat,
 (∀ W1 : World, Now W0 noM H0 W1 → True → Calls Try.prog 10 #[Value.agg #[Value.int .i64 x0, Value.int .i64 x1, Value.int .i64 x2, Value.int .i64 x3], Value.agg #[Value.int .i64 x4, Value.int .i64 x5, Value.int .i64 x6, Value.int .i64 x7]] W1 fun z W2 => ∃ x8 : Int, ∃ x9 : Int, ∃ x10 : Int, ∃ x11 : Int, ∃ x12 : Int, ∃ x13 : Int, z = .returned (Value.tuple #[Value.agg #[Value.int .i64 x8, Value.int .i64 x9, Value.int .i64 x10, Value.int .i64 x11], Value.int .i64 x12, Value.int .i64 x13]) ∧ Ext W1 W2 ∧
 (∀ b2 : Nat,
 ((x13 = 0 →
  ((x5 < 0 →
   (∀ W3 : World, Now W0 noM H0 W3 → True → Calls Try.prog 12 #[] W3 fun z W4 => ∃ x14 : Bool, z = .returned (Value.bool (x14)) ∧ Ext W3 W4 ∧
   ((x14 = true →
    (∀ W5 : World, Now W0 noM H0 W5 → True → R (.returned (Value.bool ((!decide (x13 = 0))))) W5)) ∧
   (¬ (x14 = true) →
    (∀ W5 : World, Now W0 noM H0 W5 → True → R (.returned (Value.bool (false))) W5))))) ∧
  (¬ (x5 < 0) →
   ((4 ≤ x5 →
    (∀ W3 : World, Now W0 noM H0 W3 → True → Calls Try.prog 12 #[] W3 fun z W4 => ∃ x14 : Bool, z = .returned (Value.bool (x14)) ∧ Ext W3 W4 ∧
    ((x14 = true →
     (∀ W5 : World, Now W0 noM H0 W5 → True → R (.returned (Value.bool ((!decide (x13 = 0))))) W5)) ∧
    (¬ (x14 = true) →
     (∀ W5 : World, Now W0 noM H0 W5 → True → R (.returned (Value.bool (false))) W5))))) ∧
   (¬ (4 ≤ x5) →
    (∃ (I0 : List Dat → Hp → Prop) (μ0 : List Dat → Nat), I0 [.i 0, .i 0, .n 0] H0 ∧ ∀ H1 : Hp, ∀ x14 : Int, ∀ x15 : Int, ∀ x16 : Nat, I0 [.i x14, .i x15, .n x16] H1 →
     (((x16 : Int) < 4 →
      (((0 : Int) ≤ (x16 : Int) ∧ (x16 : Int) < 4) ∧ (((0 : Int) ≤ (x16 : Int) ∧ (x16 : Int) < 4) →
      (((x16 : Int) = 0 →
       (inKind .i64 (x14 + x0) ∧ (inKind .i64 (x14 + x0) →
       (inKind .i64 (x15 + x8) ∧ (inKind .i64 (x15 + x8) →
       ((x8 < 0 →
        (∀ W3 : World, Now W0 noM H1 W3 → True → R (.returned (Value.bool (false))) W3)) ∧
       (¬ (x8 < 0) →
        ((999 < x8 →
         (∀ W3 : World, Now W0 noM H1 W3 → True → R (.returned (Value.bool (false))) W3)) ∧
        (¬ (999 < x8) →
         ((x8 = x0 →
          (inKind .i64 ((x16 : Int) + 1) ∧ (inKind .i64 ((x16 : Int) + 1) →
          (0 ≤ ((x16 : Int) + 1) ∧ (0 ≤ ((x16 : Int) + 1) →
          (I0 [.i (x14 + x0), .i (x15 + x8), .n (((x16 : Int) + 1) : Int).toNat] H1 ∧ μ0 [.i (x14 + x0), .i (x15 + x8), .n (((x16 : Int) + 1) : Int).toNat] < μ0 [.i x14, .i x15, .n x16])))))) ∧
         (¬ (x8 = x0) →
          (((x16 : Int) = x5 →
           (inKind .i64 ((x16 : Int) + 1) ∧ (inKind .i64 ((x16 : Int) + 1) →
           (0 ≤ ((x16 : Int) + 1) ∧ (0 ≤ ((x16 : Int) + 1) →
           (I0 [.i (x14 + x0), .i (x15 + x8), .n (((x16 : Int) + 1) : Int).toNat] H1 ∧ μ0 [.i (x14 + x0), .i (x15 + x8), .n (((x16 : Int) + 1) : Int).toNat] < μ0 [.i x14, .i x15, .n x16])))))) ∧
          (¬ ((x16 : Int) = x5) →
           ((x4 = 3 →
            (((x16 : Int) = x6 →
             (inKind .i64 ((x16 : Int) + 1) ∧ (inKind .i64 ((x16 : Int) + 1) →
             (0 ≤ ((x16 : Int) + 1) ∧ (0 ≤ ((x16 : Int) + 1) →
             (I0 [.i (x14 + x0), .i (x15 + x8), .n (((x16 : Int) + 1) : Int).toNat] H1 ∧ μ0 [.i (x14 + x0), .i (x15 + x8), .n (((x16 : Int) + 1) : Int).toNat] < μ0 [.i x14, .i x15, .n x16])))))) ∧
            (¬ ((x16 : Int) = x6) →
             (∀ W3 : World, Now W0 noM H1 W3 → True → R (.returned (Value.bool (false))) W3)))) ∧
           (¬ (x4 = 3) →
            (∀ W3 : World, Now W0 noM H1 W3 → True → R (.returned (Value.bool (false))) W3)))))))))))))))) ∧
      (((x16 : Int) = 1 →
       (inKind .i64 (x14 + x1) ∧ (inKind .i64 (x14 + x1) →
       (inKind .i64 (x15 + x9) ∧ (inKind .i64 (x15 + x9) →
       ((x9 < 0 →
        (∀ W3 : World, Now W0 noM H1 W3 → True → R (.returned (Value.bool (false))) W3)) ∧
       (¬ (x9 < 0) →
        ((999 < x9 →
         (∀ W3 : World, Now W0 noM H1 W3 → True → R (.returned (Value.bool (false))) W3)) ∧
        (¬ (999 < x9) →
         ((x9 = x1 →
          (inKind .i64 ((x16 : Int) + 1) ∧ (inKind .i64 ((x16 : Int) + 1) →
          (0 ≤ ((x16 : Int) + 1) ∧ (0 ≤ ((x16 : Int) + 1) →
          (I0 [.i (x14 + x1), .i (x15 + x9), .n (((x16 : Int) + 1) : Int).toNat] H1 ∧ μ0 [.i (x14 + x1), .i (x15 + x9), .n (((x16 : Int) + 1) : Int).toNat] < μ0 [.i x14, .i x15, .n x16])))))) ∧
         (¬ (x9 = x1) →
          (((x16 : Int) = x5 →
           (inKind .i64 ((x16 : Int) + 1) ∧ (inKind .i64 ((x16 : Int) + 1) →
           (0 ≤ ((x16 : Int) + 1) ∧ (0 ≤ ((x16 : Int) + 1) →
           (I0 [.i (x14 + x1), .i (x15 + x9), .n (((x16 : Int) + 1) : Int).toNat] H1 ∧ μ0 [.i (x14 + x1), .i (x15 + x9), .n (((x16 : Int) + 1) : Int).toNat] < μ0 [.i x14, .i x15, .n x16])))))) ∧
          (¬ ((x16 : Int) = x5) →
           ((x4 = 3 →
            (((x16 : Int) = x6 →
             (inKind .i64 ((x16 : Int) + 1) ∧ (inKind .i64 ((x16 : Int) + 1) →
             (0 ≤ ((x16 : Int) + 1) ∧ (0 ≤ ((x16 : Int) + 1) →
             (I0 [.i (x14 + x1), .i (x15 + x9), .n (((x16 : Int) + 1) : Int).toNat] H1 ∧ μ0 [.i (x14 + x1), .i (x15 + x9), .n (((x16 : Int) + 1) : Int).toNat] < μ0 [.i x14, .i x15, .n x16])))))) ∧
            (¬ ((x16 : Int) = x6) →
             (∀ W3 : World, Now W0 noM H1 W3 → True → R (.returned (Value.bool (false))) W3)))) ∧
           (¬ (x4 = 3) →
            (∀ W3 : World, Now W0 noM H1 W3 → True → R (.returned (Value.bool (false))) W3)))))))))))))))) ∧
      (((x16 : Int) = 2 →
       (inKind .i64 (x14 + x2) ∧ (inKind .i64 (x14 + x2) →
       (inKind .i64 (x15 + x10) ∧ (inKind .i64 (x15 + x10) →
       ((x10 < 0 →
        (∀ W3 : World, Now W0 noM H1 W3 → True → R (.returned (Value.bool (false))) W3)) ∧
       (¬ (x10 < 0) →
        ((999 < x10 →
         (∀ W3 : World, Now W0 noM H1 W3 → True → R (.returned (Value.bool (false))) W3)) ∧
        (¬ (999 < x10) →
         ((x10 = x2 →
          (inKind .i64 ((x16 : Int) + 1) ∧ (inKind .i64 ((x16 : Int) + 1) →
          (0 ≤ ((x16 : Int) + 1) ∧ (0 ≤ ((x16 : Int) + 1) →
          (I0 [.i (x14 + x2), .i (x15 + x10), .n (((x16 : Int) + 1) : Int).toNat] H1 ∧ μ0 [.i (x14 + x2), .i (x15 + x10), .n (((x16 : Int) + 1) : Int).toNat] < μ0 [.i x14, .i x15, .n x16])))))) ∧
         (¬ (x10 = x2) →
          (((x16 : Int) = x5 →
           (inKind .i64 ((x16 : Int) + 1) ∧ (inKind .i64 ((x16 : Int) + 1) →
           (0 ≤ ((x16 : Int) + 1) ∧ (0 ≤ ((x16 : Int) + 1) →
           (I0 [.i (x14 + x2), .i (x15 + x10), .n (((x16 : Int) + 1) : Int).toNat] H1 ∧ μ0 [.i (x14 + x2), .i (x15 + x10), .n (((x16 : Int) + 1) : Int).toNat] < μ0 [.i x14, .i x15, .n x16])))))) ∧
          (¬ ((x16 : Int) = x5) →
           ((x4 = 3 →
            (((x16 : Int) = x6 →
             (inKind .i64 ((x16 : Int) + 1) ∧ (inKind .i64 ((x16 : Int) + 1) →
             (0 ≤ ((x16 : Int) + 1) ∧ (0 ≤ ((x16 : Int) + 1) →
             (I0 [.i (x14 + x2), .i (x15 + x10), .n (((x16 : Int) + 1) : Int).toNat] H1 ∧ μ0 [.i (x14 + x2), .i (x15 + x10), .n (((x16 : Int) + 1) : Int).toNat] < μ0 [.i x14, .i x15, .n x16])))))) ∧
            (¬ ((x16 : Int) = x6) →
             (∀ W3 : World, Now W0 noM H1 W3 → True → R (.returned (Value.bool (false))) W3)))) ∧
           (¬ (x4 = 3) →
            (∀ W3 : World, Now W0 noM H1 W3 → True → R (.returned (Value.bool (false))) W3)))))))))))))))) ∧
      (((x16 : Int) = 3 →
       (inKind .i64 (x14 + x3) ∧ (inKind .i64 (x14 + x3) →
       (inKind .i64 (x15 + x11) ∧ (inKind .i64 (x15 + x11) →
       ((x11 < 0 →
        (∀ W3 : World, Now W0 noM H1 W3 → True → R (.returned (Value.bool (false))) W3)) ∧
       (¬ (x11 < 0) →
        ((999 < x11 →
         (∀ W3 : World, Now W0 noM H1 W3 → True → R (.returned (Value.bool (false))) W3)) ∧
        (¬ (999 < x11) →
         ((x11 = x3 →
          (inKind .i64 ((x16 : Int) + 1) ∧ (inKind .i64 ((x16 : Int) + 1) →
          (0 ≤ ((x16 : Int) + 1) ∧ (0 ≤ ((x16 : Int) + 1) →
          (I0 [.i (x14 + x3), .i (x15 + x11), .n (((x16 : Int) + 1) : Int).toNat] H1 ∧ μ0 [.i (x14 + x3), .i (x15 + x11), .n (((x16 : Int) + 1) : Int).toNat] < μ0 [.i x14, .i x15, .n x16])))))) ∧
         (¬ (x11 = x3) →
          (((x16 : Int) = x5 →
           (inKind .i64 ((x16 : Int) + 1) ∧ (inKind .i64 ((x16 : Int) + 1) →
           (0 ≤ ((x16 : Int) + 1) ∧ (0 ≤ ((x16 : Int) + 1) →
           (I0 [.i (x14 + x3), .i (x15 + x11), .n (((x16 : Int) + 1) : Int).toNat] H1 ∧ μ0 [.i (x14 + x3), .i (x15 + x11), .n (((x16 : Int) + 1) : Int).toNat] < μ0 [.i x14, .i x15, .n x16])))))) ∧
          (¬ ((x16 : Int) = x5) →
           ((x4 = 3 →
            (((x16 : Int) = x6 →
             (inKind .i64 ((x16 : Int) + 1) ∧ (inKind .i64 ((x16 : Int) + 1) →
             (0 ≤ ((x16 : Int) + 1) ∧ (0 ≤ ((x16 : Int) + 1) →
             (I0 [.i (x14 + x3), .i (x15 + x11), .n (((x16 : Int) + 1) : Int).toNat] H1 ∧ μ0 [.i (x14 + x3), .i (x15 + x11), .n (((x16 : Int) + 1) : Int).toNat] < μ0 [.i x14, .i x15, .n x16])))))) ∧
            (¬ ((x16 : Int) = x6) →
             (∀ W3 : World, Now W0 noM H1 W3 → True → R (.returned (Value.bool (false))) W3)))) ∧
           (¬ (x4 = 3) →
            (∀ W3 : World, Now W0 noM H1 W3 → True → R (.returned (Value.bool (false))) W3)))))))))))))))) ∧
      True))))))) ∧
     (¬ ((x16 : Int) < 4) →
      ((x12 = (-1) →
       (∀ W3 : World, Now W0 noM H1 W3 → True → Calls Try.prog 12 #[] W3 fun z W4 => ∃ x17 : Bool, z = .returned (Value.bool (x17)) ∧ Ext W3 W4 ∧
       ((x17 = true →
        (∀ W5 : World, Now W0 noM H1 W5 → True → ∃ x18 : Bool, ∃ W6 : World, (EK.sem (.bop .eql 22 (.tmp 89) (.tmp 90)) [Value.agg #[Value.int .i64 x8, Value.int .i64 x9, Value.int .i64 x10, Value.int .i64 x11], Value.agg #[Value.int .i64 x0, Value.int .i64 x1, Value.int .i64 x2, Value.int .i64 x3]]).run Try.prog W5 = .ok (.value (Value.bool (x18))) W6 ∧ Ext W5 W6 ∧
        (∀ W7 : World, Now W0 noM H1 W7 → True → R (.returned (Value.bool (x18))) W7))) ∧
       (¬ (x17 = true) →
        (∀ W5 : World, Now W0 noM H1 W5 → True → R (.returned (Value.bool (false))) W5))))) ∧
      (¬ (x12 = (-1)) →
       (∀ W3 : World, Now W0 noM H1 W3 → True → Calls Try.prog 12 #[] W3 fun z W4 => ∃ x17 : Bool, z = .returned (Value.bool (x17)) ∧ Ext W3 W4 ∧
       ((x17 = true →
        (((0 : Int) ≤ x5 ∧ x5 < 4) ∧ (((0 : Int) ≤ x5 ∧ x5 < 4) →
        ((x5 = 0 →
         ((x12 = x8 →
          ((x4 = 3 →
           ((x14 = x15 →
            (∀ W5 : World, Now W0 noM H1 W5 → True → R (.returned (Value.bool (true))) W5)) ∧
           (¬ (x14 = x15) →
            (∀ W5 : World, Now W0 noM H1 W5 → True → R (.returned (Value.bool (false))) W5)))) ∧
          (¬ (x4 = 3) →
           ((x4 = 4 →
            ((x14 = x15 →
             (∀ W5 : World, Now W0 noM H1 W5 → True → ∃ x18 : Bool, ∃ W6 : World, (EK.sem (.bop .eql 22 (.tmp 122) (.tmp 123)) [Value.agg #[Value.int .i64 x8, Value.int .i64 x9, Value.int .i64 x10, Value.int .i64 x11], Value.agg #[Value.int .i64 x0, Value.int .i64 x1, Value.int .i64 x2, Value.int .i64 x3]]).run Try.prog W5 = .ok (.value (Value.bool (x18))) W6 ∧ Ext W5 W6 ∧
             (∀ W7 : World, Now W0 noM H1 W7 → True → R (.returned (Value.bool (x18))) W7))) ∧
            (¬ (x14 = x15) →
             (∀ W5 : World, Now W0 noM H1 W5 → True → R (.returned (Value.bool (false))) W5)))) ∧
           (¬ (x4 = 4) →
            (∀ W5 : World, Now W0 noM H1 W5 → True → R (.returned (Value.bool (true))) W5)))))) ∧
         (¬ (x12 = x8) →
          (∀ W5 : World, Now W0 noM H1 W5 → True → R (.returned (Value.bool (false))) W5)))) ∧
        ((x5 = 1 →
         ((x12 = x9 →
          ((x4 = 3 →
           ((x14 = x15 →
            (∀ W5 : World, Now W0 noM H1 W5 → True → R (.returned (Value.bool (true))) W5)) ∧
           (¬ (x14 = x15) →
            (∀ W5 : World, Now W0 noM H1 W5 → True → R (.returned (Value.bool (false))) W5)))) ∧
          (¬ (x4 = 3) →
           ((x4 = 4 →
            ((x14 = x15 →
             (∀ W5 : World, Now W0 noM H1 W5 → True → ∃ x18 : Bool, ∃ W6 : World, (EK.sem (.bop .eql 22 (.tmp 122) (.tmp 123)) [Value.agg #[Value.int .i64 x8, Value.int .i64 x9, Value.int .i64 x10, Value.int .i64 x11], Value.agg #[Value.int .i64 x0, Value.int .i64 x1, Value.int .i64 x2, Value.int .i64 x3]]).run Try.prog W5 = .ok (.value (Value.bool (x18))) W6 ∧ Ext W5 W6 ∧
             (∀ W7 : World, Now W0 noM H1 W7 → True → R (.returned (Value.bool (x18))) W7))) ∧
            (¬ (x14 = x15) →
             (∀ W5 : World, Now W0 noM H1 W5 → True → R (.returned (Value.bool (false))) W5)))) ∧
           (¬ (x4 = 4) →
            (∀ W5 : World, Now W0 noM H1 W5 → True → R (.returned (Value.bool (true))) W5)))))) ∧
         (¬ (x12 = x9) →
          (∀ W5 : World, Now W0 noM H1 W5 → True → R (.returned (Value.bool (false))) W5)))) ∧
        ((x5 = 2 →
         ((x12 = x10 →
          ((x4 = 3 →
           ((x14 = x15 →
            (∀ W5 : World, Now W0 noM H1 W5 → True → R (.returned (Value.bool (true))) W5)) ∧
           (¬ (x14 = x15) →
            (∀ W5 : World, Now W0 noM H1 W5 → True → R (.returned (Value.bool (false))) W5)))) ∧
          (¬ (x4 = 3) →
           ((x4 = 4 →
            ((x14 = x15 →
             (∀ W5 : World, Now W0 noM H1 W5 → True → ∃ x18 : Bool, ∃ W6 : World, (EK.sem (.bop .eql 22 (.tmp 122) (.tmp 123)) [Value.agg #[Value.int .i64 x8, Value.int .i64 x9, Value.int .i64 x10, Value.int .i64 x11], Value.agg #[Value.int .i64 x0, Value.int .i64 x1, Value.int .i64 x2, Value.int .i64 x3]]).run Try.prog W5 = .ok (.value (Value.bool (x18))) W6 ∧ Ext W5 W6 ∧
             (∀ W7 : World, Now W0 noM H1 W7 → True → R (.returned (Value.bool (x18))) W7))) ∧
            (¬ (x14 = x15) →
             (∀ W5 : World, Now W0 noM H1 W5 → True → R (.returned (Value.bool (false))) W5)))) ∧
           (¬ (x4 = 4) →
            (∀ W5 : World, Now W0 noM H1 W5 → True → R (.returned (Value.bool (true))) W5)))))) ∧
         (¬ (x12 = x10) →
          (∀ W5 : World, Now W0 noM H1 W5 → True → R (.returned (Value.bool (false))) W5)))) ∧
        ((x5 = 3 →
         ((x12 = x11 →
          ((x4 = 3 →
           ((x14 = x15 →
            (∀ W5 : World, Now W0 noM H1 W5 → True → R (.returned (Value.bool (true))) W5)) ∧
           (¬ (x14 = x15) →
            (∀ W5 : World, Now W0 noM H1 W5 → True → R (.returned (Value.bool (false))) W5)))) ∧
          (¬ (x4 = 3) →
           ((x4 = 4 →
            ((x14 = x15 →
             (∀ W5 : World, Now W0 noM H1 W5 → True → ∃ x18 : Bool, ∃ W6 : World, (EK.sem (.bop .eql 22 (.tmp 122) (.tmp 123)) [Value.agg #[Value.int .i64 x8, Value.int .i64 x9, Value.int .i64 x10, Value.int .i64 x11], Value.agg #[Value.int .i64 x0, Value.int .i64 x1, Value.int .i64 x2, Value.int .i64 x3]]).run Try.prog W5 = .ok (.value (Value.bool (x18))) W6 ∧ Ext W5 W6 ∧
             (∀ W7 : World, Now W0 noM H1 W7 → True → R (.returned (Value.bool (x18))) W7))) ∧
            (¬ (x14 = x15) →
             (∀ W5 : World, Now W0 noM H1 W5 → True → R (.returned (Value.bool (false))) W5)))) ∧
           (¬ (x4 = 4) →
            (∀ W5 : World, Now W0 noM H1 W5 → True → R (.returned (Value.bool (true))) W5)))))) ∧
         (¬ (x12 = x11) →
          (∀ W5 : World, Now W0 noM H1 W5 → True → R (.returned (Value.bool (false))) W5)))) ∧
        True))))))) ∧
       (¬ (x17 = true) →
        (∀ W5 : World, Now W0 noM H1 W5 → True → R (.returned (Value.bool (false))) W5)))))))))))))) ∧
 (¬ (x13 = 0) →
  (∀ W3 : World, Now W0 noM H0 W3 → True → Calls Try.prog 12 #[] W3 fun z W4 => ∃ x14 : Bool, z = .returned (Value.bool (x14)) ∧ Ext W3 W4 ∧
  ((x14 = true →
   (∀ W5 : World, Now W0 noM H0 W5 → True → R (.returned (Value.bool ((!decide (x13 = 0))))) W5)) ∧
  (¬ (x14 = true) →
   (∀ W5 : World, Now W0 noM H0 W5 → True → R (.returned (Value.bool (false))) W5))))))))))) :
  Calls Try.prog 4 #[Value.agg #[Value.int .i64 x0, Value.int .i64 x1, Value.int .i64 x2, Value.int .i64 x3], Value.agg #[Value.int .i64 x4, Value.int .i64 x5, Value.int .i64 x6, Value.int .i64 x7]] W0 R :=
  calls_sx (args := [.agg [.int .i64 (.v 0), .int .i64 (.v 1), .int .i64 (.v 2), .int .i64 (.v 3)], .agg [.int .i64 (.v 4), .int .i64 (.v 5), .int .i64 (.v 6), .int .i64 (.v 7)]]) (nv := 8) (e := (upd (upd (upd (upd (upd (upd (upd (upd (fun _ => .i 0) 0 (.i x0)) 1 (.i x1)) 2 (.i x2)) 3 (.i x3)) 4 (.i x4)) 5 (.i x5)) 6 (.i x6)) 7 (.i x7))) Try.func4 {loops := [(6, .inv [(8, .pt (.int .i64)), (9, .pt (.int .i64)), (10, .nat)] [])]} hH (vc_of h (by kernel_rfl))
end Go.Proofs.Ytcnkljeniffmmaa
