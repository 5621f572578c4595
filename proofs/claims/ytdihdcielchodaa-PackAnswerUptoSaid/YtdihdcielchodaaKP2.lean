/- Symbolic runs of functions: what each leaves to prove is enough for its call. Printed by a program of ours. No conditions. The laws of package pack: what each answers. No conditions. -/
import Derived.Test.YtdihdcielchodaaKE3
import Derived.Test.YtdihdcielchodaaProg
import Derived.Test.YtdihdcielchodaaKP1
set_option linter.unusedVariables false
set_option linter.unusedSimpArgs false
namespace Go.Proofs.Ytdihdcielchodaa
open Go.RowKit
set_option maxRecDepth 100000
set_option maxHeartbeats 4000000
def v_packBegun : VC :=
(.call 48 [] [] [(0, .p), (1, .n), (2, .n)] (.slO 0 (.k 0) (.v 1) (.v 2)) .fresh
(.all 0
(.call 34 [.agg [.int .i64 (.k 0), .int .i64 (.k 0), .int .i64 (.k 0), .int .i64 (.k 0), .int .i64 (.k 0), .int .i64 (.k 0), .c (Value.slice none 0 0), .slO 0 (.k 0) (.v 1) (.v 2)]] [] [(3, .i), (4, .i), (5, .i), (6, .i), (7, .i), (8, .i), (9, .p), (10, .n), (11, .n), (12, .i)] (.tup [.agg [.int .i64 (.v 3), .int .i64 (.v 4), .int .i64 (.v 5), .int .i64 (.v 6), .int .i64 (.v 7), .int .i64 (.v 8), .slO 9 (.k 0) (.v 10) (.v 11)], .int .i64 (.v 12)]) .fresh
(.all 1
(.call 39 [.agg [.int .i64 (.k 0), .int .i64 (.k 0), .int .i64 (.k 0), .int .i64 (.k 0), .int .i64 (.k 0), .int .i64 (.k 0), .c (Value.slice none 0 0), .slO 0 (.k 0) (.v 1) (.v 2)], .int .i64 (.k 6)] [] [(13, .i), (14, .i), (15, .i), (16, .i), (17, .i), (18, .i), (19, .p), (20, .n), (21, .n), (22, .p), (23, .n), (24, .n), (25, .i)] (.tup [.agg [.int .i64 (.v 13), .int .i64 (.v 14), .int .i64 (.v 15), .int .i64 (.v 16), .int .i64 (.v 17), .int .i64 (.v 18), .slO 19 (.k 0) (.v 20) (.v 21), .slO 22 (.k 0) (.v 23) (.v 24)], .int .i64 (.v 25)]) .fresh
(.all 2
(.call 58 [.int .i64 (.k 1)] [] [(26, .i), (27, .i), (28, .i), (29, .i)] (.agg [.int .i64 (.v 26), .int .i64 (.v 27), .int .i64 (.v 28), .int .i64 (.v 29)]) .same
(.call 63 [.int .i64 (.k 43), .int .i64 (.k 1), .int .i64 (.k 2), .int .i64 (.k 1), .agg [.int .i64 (.v 26), .int .i64 (.v 27), .int .i64 (.v 28), .int .i64 (.v 29)]] [] [(30, .i), (31, .i), (32, .i), (33, .i), (34, .i), (35, .i), (36, .i), (37, .i), (38, .i)] (.agg [.int .i64 (.v 30), .int .i64 (.v 31), .int .i64 (.v 32), .int .i64 (.v 33), .int .i64 (.v 34), .int .i64 (.v 35), .int .i64 (.v 36), .int .i64 (.v 37), .int .i64 (.v 38)]) .same
(.call 42 [.agg [.int .i64 (.v 13), .int .i64 (.v 14), .int .i64 (.v 15), .int .i64 (.v 16), .int .i64 (.v 17), .int .i64 (.v 18), .slO 19 (.k 0) (.v 20) (.v 21), .slO 22 (.k 0) (.v 23) (.v 24)], .agg [.int .i64 (.v 30), .int .i64 (.v 31), .int .i64 (.v 32), .int .i64 (.v 33), .int .i64 (.v 34), .int .i64 (.v 35), .int .i64 (.v 36), .int .i64 (.v 37), .int .i64 (.v 38)]] [] [(39, .i), (40, .i), (41, .i), (42, .i), (43, .i), (44, .i), (45, .p), (46, .n), (47, .n), (48, .p), (49, .n), (50, .n), (51, .i), (52, .i)] (.tup [.agg [.int .i64 (.v 39), .int .i64 (.v 40), .int .i64 (.v 41), .int .i64 (.v 42), .int .i64 (.v 43), .int .i64 (.v 44), .slO 45 (.k 0) (.v 46) (.v 47), .slO 48 (.k 0) (.v 49) (.v 50)], .int .i64 (.v 51), .int .i64 (.v 52)]) .fresh
(.all 3
(.call 39 [.agg [.int .i64 (.k 0), .int .i64 (.k 0), .int .i64 (.k 0), .int .i64 (.k 0), .int .i64 (.k 0), .int .i64 (.k 0), .c (Value.slice none 0 0), .slO 0 (.k 0) (.v 1) (.v 2)], .int .i64 (.k 11)] [] [(53, .i), (54, .i), (55, .i), (56, .i), (57, .i), (58, .i), (59, .p), (60, .n), (61, .n), (62, .p), (63, .n), (64, .n), (65, .i)] (.tup [.agg [.int .i64 (.v 53), .int .i64 (.v 54), .int .i64 (.v 55), .int .i64 (.v 56), .int .i64 (.v 57), .int .i64 (.v 58), .slO 59 (.k 0) (.v 60) (.v 61), .slO 62 (.k 0) (.v 63) (.v 64)], .int .i64 (.v 65)]) .fresh
(.all 4
(.call 48 [] [] [(66, .p), (67, .n), (68, .n)] (.slO 66 (.k 0) (.v 67) (.v 68)) .fresh
(.call 34 [.agg [.int .i64 (.k 45), .int .i64 (.k 0), .int .i64 (.k 0), .int .i64 (.k 0), .int .i64 (.k 0), .int .i64 (.k 0), .c (Value.slice none 0 0), .slO 66 (.k 0) (.v 67) (.v 68)]] [] [(69, .i), (70, .i), (71, .i), (72, .i), (73, .i), (74, .i), (75, .p), (76, .n), (77, .n), (78, .i)] (.tup [.agg [.int .i64 (.v 69), .int .i64 (.v 70), .int .i64 (.v 71), .int .i64 (.v 72), .int .i64 (.v 73), .int .i64 (.v 74), .slO 75 (.k 0) (.v 76) (.v 77)], .int .i64 (.v 78)]) .fresh
(.all 5
(.ite (.eq (.v 12) (.k 0))
(.ite (.eq (.v 25) (.k 0))
(.ite (.eq (.v 52) (.k 0))
(.ite (.eq (.v 65) (.k 3))
(.ite (.eq (.v 78) (.k 2))
(.ite (.eq (.v 3) (.k 10))
(.ite (.eq (.v 13) (.k 6))
(.chk (.le (.k 0) (.v 23))
(.ite (.eq (.v 23) (.k 4))
(.chk (.le (.k 0) (.v 49))
(.ite (.eq (.v 49) (.k 5))
(.ite (.eq (.v 51) (.k 13))
(.call 37 [.agg [.int .i64 (.k 0), .int .i64 (.k 0), .int .i64 (.k 0), .int .i64 (.k 0), .int .i64 (.k 0), .int .i64 (.k 0), .c (Value.slice none 0 0), .slO 0 (.k 0) (.v 1) (.v 2)]] [] [(79, .i)] (.int .i64 (.v 79)) .same
(.ret (.bool (.eq (.v 79) (.k 0))) []))
(.ret (.bool (.k false)) []))
(.ret (.bool (.k false)) [])))
(.ret (.bool (.k false)) [])))
(.ret (.bool (.k false)) []))
(.ret (.bool (.k false)) []))
(.ret (.bool (.k false)) []))
(.ret (.bool (.k false)) []))
(.ret (.bool (.k false)) []))
(.ret (.bool (.k false)) []))
(.ret (.bool (.k false)) [])))))))))))))))))
theorem x_packBegun (M : Nat → Prop) (H0 : Hp) (W0 : World) (R : Ending → World → Prop) (hH : H0.le (hpOf W0)) (h :
 (Cl Try.prog W0 M H0 nK 48 #[] fun z W1 W2 => ∃ x0 : Option Loc, ∃ x1 : Nat, ∃ x2 : Nat, z = .returned (vsl x0 x1 x2) ∧ Fr W1 W2 H0 fun H1 =>
 (∀ b0 : Nat,
 (Cl Try.prog W0 M H1 nK 34 #[Value.agg #[vi 0, vi 0, vi 0, vi 0, vi 0, vi 0, Value.slice none 0 0, vsl x0 x1 x2]] fun z W3 W4 => ∃ x3 : Int, ∃ x4 : Int, ∃ x5 : Int, ∃ x6 : Int, ∃ x7 : Int, ∃ x8 : Int, ∃ x9 : Option Loc, ∃ x10 : Nat, ∃ x11 : Nat, ∃ x12 : Int, z = .returned (Value.tuple #[Value.agg #[vi x3, vi x4, vi x5, vi x6, vi x7, vi x8, vsl x9 x10 x11], vi x12]) ∧ Fr W3 W4 H1 fun H2 =>
 (∀ b1 : Nat,
 (Cl Try.prog W0 M H2 nK 39 #[Value.agg #[vi 0, vi 0, vi 0, vi 0, vi 0, vi 0, Value.slice none 0 0, vsl x0 x1 x2], vi 6] fun z W5 W6 => ∃ x13 : Int, ∃ x14 : Int, ∃ x15 : Int, ∃ x16 : Int, ∃ x17 : Int, ∃ x18 : Int, ∃ x19 : Option Loc, ∃ x20 : Nat, ∃ x21 : Nat, ∃ x22 : Option Loc, ∃ x23 : Nat, ∃ x24 : Nat, ∃ x25 : Int, z = .returned (Value.tuple #[Value.agg #[vi x13, vi x14, vi x15, vi x16, vi x17, vi x18, vsl x19 x20 x21, vsl x22 x23 x24], vi x25]) ∧ Fr W5 W6 H2 fun H3 =>
 (∀ b2 : Nat,
 (Cl Try.prog W0 M H3 nK 58 #[vi 1] fun z W7 W8 => ∃ x26 : Int, ∃ x27 : Int, ∃ x28 : Int, ∃ x29 : Int, z = .returned (Value.agg #[vi x26, vi x27, vi x28, vi x29]) ∧ Ext W7 W8 ∧
 (Cl Try.prog W0 M H3 nK 63 #[vi 43, vi 1, vi 2, vi 1, Value.agg #[vi x26, vi x27, vi x28, vi x29]] fun z W9 W10 => ∃ x30 : Int, ∃ x31 : Int, ∃ x32 : Int, ∃ x33 : Int, ∃ x34 : Int, ∃ x35 : Int, ∃ x36 : Int, ∃ x37 : Int, ∃ x38 : Int, z = .returned (Value.agg #[vi x30, vi x31, vi x32, vi x33, vi x34, vi x35, vi x36, vi x37, vi x38]) ∧ Ext W9 W10 ∧
 (Cl Try.prog W0 M H3 nK 42 #[Value.agg #[vi x13, vi x14, vi x15, vi x16, vi x17, vi x18, vsl x19 x20 x21, vsl x22 x23 x24], Value.agg #[vi x30, vi x31, vi x32, vi x33, vi x34, vi x35, vi x36, vi x37, vi x38]] fun z W11 W12 => ∃ x39 : Int, ∃ x40 : Int, ∃ x41 : Int, ∃ x42 : Int, ∃ x43 : Int, ∃ x44 : Int, ∃ x45 : Option Loc, ∃ x46 : Nat, ∃ x47 : Nat, ∃ x48 : Option Loc, ∃ x49 : Nat, ∃ x50 : Nat, ∃ x51 : Int, ∃ x52 : Int, z = .returned (Value.tuple #[Value.agg #[vi x39, vi x40, vi x41, vi x42, vi x43, vi x44, vsl x45 x46 x47, vsl x48 x49 x50], vi x51, vi x52]) ∧ Fr W11 W12 H3 fun H4 =>
 (∀ b3 : Nat,
 (Cl Try.prog W0 M H4 nK 39 #[Value.agg #[vi 0, vi 0, vi 0, vi 0, vi 0, vi 0, Value.slice none 0 0, vsl x0 x1 x2], vi 11] fun z W13 W14 => ∃ x53 : Int, ∃ x54 : Int, ∃ x55 : Int, ∃ x56 : Int, ∃ x57 : Int, ∃ x58 : Int, ∃ x59 : Option Loc, ∃ x60 : Nat, ∃ x61 : Nat, ∃ x62 : Option Loc, ∃ x63 : Nat, ∃ x64 : Nat, ∃ x65 : Int, z = .returned (Value.tuple #[Value.agg #[vi x53, vi x54, vi x55, vi x56, vi x57, vi x58, vsl x59 x60 x61, vsl x62 x63 x64], vi x65]) ∧ Fr W13 W14 H4 fun H5 =>
 (∀ b4 : Nat,
 (Cl Try.prog W0 M H5 nK 48 #[] fun z W15 W16 => ∃ x66 : Option Loc, ∃ x67 : Nat, ∃ x68 : Nat, z = .returned (vsl x66 x67 x68) ∧ Fr W15 W16 H5 fun H6 =>
 (Cl Try.prog W0 M H6 nK 34 #[Value.agg #[vi 45, vi 0, vi 0, vi 0, vi 0, vi 0, Value.slice none 0 0, vsl x66 x67 x68]] fun z W17 W18 => ∃ x69 : Int, ∃ x70 : Int, ∃ x71 : Int, ∃ x72 : Int, ∃ x73 : Int, ∃ x74 : Int, ∃ x75 : Option Loc, ∃ x76 : Nat, ∃ x77 : Nat, ∃ x78 : Int, z = .returned (Value.tuple #[Value.agg #[vi x69, vi x70, vi x71, vi x72, vi x73, vi x74, vsl x75 x76 x77], vi x78]) ∧ Fr W17 W18 H6 fun H7 =>
 (∀ b5 : Nat,
 ((x12 = 0 →
  ((x25 = 0 →
   ((x52 = 0 →
    ((x65 = 3 →
     ((x78 = 2 →
      ((x3 = 10 →
       ((x13 = 6 →
        (0 ≤ (x23 : Int) ∧ (0 ≤ (x23 : Int) →
        (((x23 : Int) = 4 →
         (0 ≤ (x49 : Int) ∧ (0 ≤ (x49 : Int) →
         (((x49 : Int) = 5 →
          ((x51 = 13 →
           (Cl Try.prog W0 M H7 nK 37 #[Value.agg #[vi 0, vi 0, vi 0, vi 0, vi 0, vi 0, Value.slice none 0 0, vsl x0 x1 x2]] fun z W19 W20 => ∃ x79 : Int, z = .returned (vi x79) ∧ Ext W19 W20 ∧
           Rt R W0 M H7 nK (vb (decide (x79 = 0))))) ∧
          (¬ (x51 = 13) →
           Rt R W0 M H7 nK (vb (false))))) ∧
         (¬ ((x49 : Int) = 5) →
          Rt R W0 M H7 nK (vb (false))))))) ∧
        (¬ ((x23 : Int) = 4) →
         Rt R W0 M H7 nK (vb (false))))))) ∧
       (¬ (x13 = 6) →
        Rt R W0 M H7 nK (vb (false))))) ∧
      (¬ (x3 = 10) →
       Rt R W0 M H7 nK (vb (false))))) ∧
     (¬ (x78 = 2) →
      Rt R W0 M H7 nK (vb (false))))) ∧
    (¬ (x65 = 3) →
     Rt R W0 M H7 nK (vb (false))))) ∧
   (¬ (x52 = 0) →
    Rt R W0 M H7 nK (vb (false))))) ∧
  (¬ (x25 = 0) →
   Rt R W0 M H7 nK (vb (false))))) ∧
 (¬ (x12 = 0) →
  Rt R W0 M H7 nK (vb (false)))))))))))))))))))) :
  Calls Try.prog 36 #[] W0 R :=
  calls_sxA (M := M) (V := v_packBegun) (hi := {}) (args := []) (nv := 0) (e := (fun _ => .i 0)) Try.func36 hH h (by kernel_rfl) (by kernel_rfl) (by kernel_rfl)
def v_packTells : VC :=
(.all 0
(.call 34 [.agg [.int .i64 (.v 0), .int .i64 (.v 1), .int .i64 (.v 2), .int .i64 (.v 3), .int .i64 (.v 4), .int .i64 (.v 5), .slO 6 (.k 0) (.v 7) (.v 8), .slO 9 (.k 0) (.v 10) (.v 11)]] [] [(12, .i), (13, .i), (14, .i), (15, .i), (16, .i), (17, .i), (18, .p), (19, .n), (20, .n), (21, .i)] (.tup [.agg [.int .i64 (.v 12), .int .i64 (.v 13), .int .i64 (.v 14), .int .i64 (.v 15), .int .i64 (.v 16), .int .i64 (.v 17), .slO 18 (.k 0) (.v 19) (.v 20)], .int .i64 (.v 21)]) .fresh
(.all 1
(.call 35 [.agg [.int .i64 (.v 0), .int .i64 (.v 1), .int .i64 (.v 2), .int .i64 (.v 3), .int .i64 (.v 4), .int .i64 (.v 5), .slO 6 (.k 0) (.v 7) (.v 8), .slO 9 (.k 0) (.v 10) (.v 11)]] [] [(22, .i), (23, .i), (24, .i), (25, .i), (26, .i), (27, .i), (28, .p), (29, .n), (30, .n), (31, .i)] (.tup [.agg [.int .i64 (.v 22), .int .i64 (.v 23), .int .i64 (.v 24), .int .i64 (.v 25), .int .i64 (.v 26), .int .i64 (.v 27), .slO 28 (.k 0) (.v 29) (.v 30)], .int .i64 (.v 31)]) .fresh
(.all 2
(.call 36 [] [] [(32, .b)] (.bool (.v 32)) .same
(.ite (.v 32)
(.call 37 [.agg [.int .i64 (.v 0), .int .i64 (.v 1), .int .i64 (.v 2), .int .i64 (.v 3), .int .i64 (.v 4), .int .i64 (.v 5), .slO 6 (.k 0) (.v 7) (.v 8), .slO 9 (.k 0) (.v 10) (.v 11)]] [] [(33, .i)] (.int .i64 (.v 33)) .same
(.call 38 [.agg [.int .i64 (.v 0), .int .i64 (.v 1), .int .i64 (.v 2), .int .i64 (.v 3), .int .i64 (.v 4), .int .i64 (.v 5), .slO 6 (.k 0) (.v 7) (.v 8), .slO 9 (.k 0) (.v 10) (.v 11)]] [] [(34, .i)] (.int .i64 (.v 34)) .same
(.ite (.eq (.v 33) (.v 34))
(.call 19 [.agg [.int .i64 (.v 12), .int .i64 (.v 13), .int .i64 (.v 14), .int .i64 (.v 15), .int .i64 (.v 16), .int .i64 (.v 17), .slO 18 (.k 0) (.v 19) (.v 20)], .agg [.int .i64 (.v 22), .int .i64 (.v 23), .int .i64 (.v 24), .int .i64 (.v 25), .int .i64 (.v 26), .int .i64 (.v 27), .slO 28 (.k 0) (.v 29) (.v 30)]] [] [(35, .b)] (.bool (.v 35)) .same
(.ite (.v 35)
(.ret (.bool (.eq (.v 21) (.v 31))) [])
(.ret (.bool (.k false)) [])))
(.ret (.bool (.k false)) []))))
(.ret (.bool (.k false)) []))))))))
theorem x_packTells (x0 : Int) (x1 : Int) (x2 : Int) (x3 : Int) (x4 : Int) (x5 : Int) (x6 : Option Loc) (x7 : Nat) (x8 : Nat) (x9 : Option Loc) (x10 : Nat) (x11 : Nat) (M : Nat → Prop) (H0 : Hp) (W0 : World) (R : Ending → World → Prop) (hH : H0.le (hpOf W0)) (h :
 (∀ b0 : Nat,
 (Cl Try.prog W0 M H0 nK 34 #[Value.agg #[vi x0, vi x1, vi x2, vi x3, vi x4, vi x5, vsl x6 x7 x8, vsl x9 x10 x11]] fun z W1 W2 => ∃ x12 : Int, ∃ x13 : Int, ∃ x14 : Int, ∃ x15 : Int, ∃ x16 : Int, ∃ x17 : Int, ∃ x18 : Option Loc, ∃ x19 : Nat, ∃ x20 : Nat, ∃ x21 : Int, z = .returned (Value.tuple #[Value.agg #[vi x12, vi x13, vi x14, vi x15, vi x16, vi x17, vsl x18 x19 x20], vi x21]) ∧ Fr W1 W2 H0 fun H1 =>
 (∀ b1 : Nat,
 (Cl Try.prog W0 M H1 nK 35 #[Value.agg #[vi x0, vi x1, vi x2, vi x3, vi x4, vi x5, vsl x6 x7 x8, vsl x9 x10 x11]] fun z W3 W4 => ∃ x22 : Int, ∃ x23 : Int, ∃ x24 : Int, ∃ x25 : Int, ∃ x26 : Int, ∃ x27 : Int, ∃ x28 : Option Loc, ∃ x29 : Nat, ∃ x30 : Nat, ∃ x31 : Int, z = .returned (Value.tuple #[Value.agg #[vi x22, vi x23, vi x24, vi x25, vi x26, vi x27, vsl x28 x29 x30], vi x31]) ∧ Fr W3 W4 H1 fun H2 =>
 (∀ b2 : Nat,
 (Cl Try.prog W0 M H2 nK 36 #[] fun z W5 W6 => ∃ x32 : Bool, z = .returned (vb (x32)) ∧ Ext W5 W6 ∧
 ((x32 = true →
  (Cl Try.prog W0 M H2 nK 37 #[Value.agg #[vi x0, vi x1, vi x2, vi x3, vi x4, vi x5, vsl x6 x7 x8, vsl x9 x10 x11]] fun z W7 W8 => ∃ x33 : Int, z = .returned (vi x33) ∧ Ext W7 W8 ∧
  (Cl Try.prog W0 M H2 nK 38 #[Value.agg #[vi x0, vi x1, vi x2, vi x3, vi x4, vi x5, vsl x6 x7 x8, vsl x9 x10 x11]] fun z W9 W10 => ∃ x34 : Int, z = .returned (vi x34) ∧ Ext W9 W10 ∧
  ((x33 = x34 →
   (Cl Try.prog W0 M H2 nK 19 #[Value.agg #[vi x12, vi x13, vi x14, vi x15, vi x16, vi x17, vsl x18 x19 x20], Value.agg #[vi x22, vi x23, vi x24, vi x25, vi x26, vi x27, vsl x28 x29 x30]] fun z W11 W12 => ∃ x35 : Bool, z = .returned (vb (x35)) ∧ Ext W11 W12 ∧
   ((x35 = true →
    Rt R W0 M H2 nK (vb (decide (x21 = x31)))) ∧
   (¬ (x35 = true) →
    Rt R W0 M H2 nK (vb (false)))))) ∧
  (¬ (x33 = x34) →
   Rt R W0 M H2 nK (vb (false))))))) ∧
 (¬ (x32 = true) →
  Rt R W0 M H2 nK (vb (false))))))))))) :
  Calls Try.prog 9 #[Value.agg #[vi x0, vi x1, vi x2, vi x3, vi x4, vi x5, vsl x6 x7 x8, vsl x9 x10 x11]] W0 R :=
  calls_sxA (M := M) (V := v_packTells) (hi := {}) (args := [.agg [.int .i64 (.v 0), .int .i64 (.v 1), .int .i64 (.v 2), .int .i64 (.v 3), .int .i64 (.v 4), .int .i64 (.v 5), .slO 6 (.k 0) (.v 7) (.v 8), .slO 9 (.k 0) (.v 10) (.v 11)]]) (nv := 12) (e := (upd (upd (upd (upd (upd (upd (upd (upd (upd (upd (upd (upd (fun _ => .i 0) 0 (.i x0)) 1 (.i x1)) 2 (.i x2)) 3 (.i x3)) 4 (.i x4)) 5 (.i x5)) 6 (.p x6)) 7 (.n x7)) 8 (.n x8)) 9 (.p x9)) 10 (.n x10)) 11 (.n x11))) Try.func9 hH h (by kernel_rfl) (by kernel_rfl) (by kernel_rfl)
def v_packCuts : VC :=
(.all 0
(.call 39 [.agg [.int .i64 (.v 0), .int .i64 (.v 1), .int .i64 (.v 2), .int .i64 (.v 3), .int .i64 (.v 4), .int .i64 (.v 5), .slO 6 (.k 0) (.v 7) (.v 8), .slO 9 (.k 0) (.v 10) (.v 11)], .int .i64 (.v 12)] [] [(13, .i), (14, .i), (15, .i), (16, .i), (17, .i), (18, .i), (19, .p), (20, .n), (21, .n), (22, .p), (23, .n), (24, .n), (25, .i)] (.tup [.agg [.int .i64 (.v 13), .int .i64 (.v 14), .int .i64 (.v 15), .int .i64 (.v 16), .int .i64 (.v 17), .int .i64 (.v 18), .slO 19 (.k 0) (.v 20) (.v 21), .slO 22 (.k 0) (.v 23) (.v 24)], .int .i64 (.v 25)]) .fresh
(.all 1
(.call 40 [.agg [.int .i64 (.v 0), .int .i64 (.v 1), .int .i64 (.v 2), .int .i64 (.v 3), .int .i64 (.v 4), .int .i64 (.v 5), .slO 6 (.k 0) (.v 7) (.v 8), .slO 9 (.k 0) (.v 10) (.v 11)], .int .i64 (.v 12)] [] [(26, .i), (27, .i), (28, .i), (29, .i), (30, .i), (31, .i), (32, .p), (33, .n), (34, .n), (35, .p), (36, .n), (37, .n), (38, .i)] (.tup [.agg [.int .i64 (.v 26), .int .i64 (.v 27), .int .i64 (.v 28), .int .i64 (.v 29), .int .i64 (.v 30), .int .i64 (.v 31), .slO 32 (.k 0) (.v 33) (.v 34), .slO 35 (.k 0) (.v 36) (.v 37)], .int .i64 (.v 38)]) .fresh
(.all 2
(.call 36 [] [] [(39, .b)] (.bool (.v 39)) .same
(.ite (.v 39)
(.call 41 [.agg [.int .i64 (.v 13), .int .i64 (.v 14), .int .i64 (.v 15), .int .i64 (.v 16), .int .i64 (.v 17), .int .i64 (.v 18), .slO 19 (.k 0) (.v 20) (.v 21), .slO 22 (.k 0) (.v 23) (.v 24)], .agg [.int .i64 (.v 26), .int .i64 (.v 27), .int .i64 (.v 28), .int .i64 (.v 29), .int .i64 (.v 30), .int .i64 (.v 31), .slO 32 (.k 0) (.v 33) (.v 34), .slO 35 (.k 0) (.v 36) (.v 37)]] [] [(40, .b)] (.bool (.v 40)) .same
(.ite (.v 40)
(.ret (.bool (.eq (.v 25) (.v 38))) [])
(.ret (.bool (.k false)) [])))
(.ret (.bool (.k false)) []))))))))
theorem x_packCuts (x0 : Int) (x1 : Int) (x2 : Int) (x3 : Int) (x4 : Int) (x5 : Int) (x6 : Option Loc) (x7 : Nat) (x8 : Nat) (x9 : Option Loc) (x10 : Nat) (x11 : Nat) (x12 : Int) (M : Nat → Prop) (H0 : Hp) (W0 : World) (R : Ending → World → Prop) (hH : H0.le (hpOf W0)) (h :
 (∀ b0 : Nat,
 (Cl Try.prog W0 M H0 nK 39 #[Value.agg #[vi x0, vi x1, vi x2, vi x3, vi x4, vi x5, vsl x6 x7 x8, vsl x9 x10 x11], vi x12] fun z W1 W2 => ∃ x13 : Int, ∃ x14 : Int, ∃ x15 : Int, ∃ x16 : Int, ∃ x17 : Int, ∃ x18 : Int, ∃ x19 : Option Loc, ∃ x20 : Nat, ∃ x21 : Nat, ∃ x22 : Option Loc, ∃ x23 : Nat, ∃ x24 : Nat, ∃ x25 : Int, z = .returned (Value.tuple #[Value.agg #[vi x13, vi x14, vi x15, vi x16, vi x17, vi x18, vsl x19 x20 x21, vsl x22 x23 x24], vi x25]) ∧ Fr W1 W2 H0 fun H1 =>
 (∀ b1 : Nat,
 (Cl Try.prog W0 M H1 nK 40 #[Value.agg #[vi x0, vi x1, vi x2, vi x3, vi x4, vi x5, vsl x6 x7 x8, vsl x9 x10 x11], vi x12] fun z W3 W4 => ∃ x26 : Int, ∃ x27 : Int, ∃ x28 : Int, ∃ x29 : Int, ∃ x30 : Int, ∃ x31 : Int, ∃ x32 : Option Loc, ∃ x33 : Nat, ∃ x34 : Nat, ∃ x35 : Option Loc, ∃ x36 : Nat, ∃ x37 : Nat, ∃ x38 : Int, z = .returned (Value.tuple #[Value.agg #[vi x26, vi x27, vi x28, vi x29, vi x30, vi x31, vsl x32 x33 x34, vsl x35 x36 x37], vi x38]) ∧ Fr W3 W4 H1 fun H2 =>
 (∀ b2 : Nat,
 (Cl Try.prog W0 M H2 nK 36 #[] fun z W5 W6 => ∃ x39 : Bool, z = .returned (vb (x39)) ∧ Ext W5 W6 ∧
 ((x39 = true →
  (Cl Try.prog W0 M H2 nK 41 #[Value.agg #[vi x13, vi x14, vi x15, vi x16, vi x17, vi x18, vsl x19 x20 x21, vsl x22 x23 x24], Value.agg #[vi x26, vi x27, vi x28, vi x29, vi x30, vi x31, vsl x32 x33 x34, vsl x35 x36 x37]] fun z W7 W8 => ∃ x40 : Bool, z = .returned (vb (x40)) ∧ Ext W7 W8 ∧
  ((x40 = true →
   Rt R W0 M H2 nK (vb (decide (x25 = x38)))) ∧
  (¬ (x40 = true) →
   Rt R W0 M H2 nK (vb (false)))))) ∧
 (¬ (x39 = true) →
  Rt R W0 M H2 nK (vb (false))))))))))) :
  Calls Try.prog 10 #[Value.agg #[vi x0, vi x1, vi x2, vi x3, vi x4, vi x5, vsl x6 x7 x8, vsl x9 x10 x11], vi x12] W0 R :=
  calls_sxA (M := M) (V := v_packCuts) (hi := {}) (args := [.agg [.int .i64 (.v 0), .int .i64 (.v 1), .int .i64 (.v 2), .int .i64 (.v 3), .int .i64 (.v 4), .int .i64 (.v 5), .slO 6 (.k 0) (.v 7) (.v 8), .slO 9 (.k 0) (.v 10) (.v 11)], .int .i64 (.v 12)]) (nv := 13) (e := (upd (upd (upd (upd (upd (upd (upd (upd (upd (upd (upd (upd (upd (fun _ => .i 0) 0 (.i x0)) 1 (.i x1)) 2 (.i x2)) 3 (.i x3)) 4 (.i x4)) 5 (.i x5)) 6 (.p x6)) 7 (.n x7)) 8 (.n x8)) 9 (.p x9)) 10 (.n x10)) 11 (.n x11)) 12 (.i x12))) Try.func10 hH h (by kernel_rfl) (by kernel_rfl) (by kernel_rfl)
def v_packPuts : VC :=
(.all 0
(.all 1
(.call 42 [.agg [.int .i64 (.v 0), .int .i64 (.v 1), .int .i64 (.v 2), .int .i64 (.v 3), .int .i64 (.v 4), .int .i64 (.v 5), .slO 6 (.k 0) (.v 7) (.v 8), .slO 9 (.k 0) (.v 10) (.v 11)], .agg [.int .i64 (.v 12), .int .i64 (.v 13), .int .i64 (.v 14), .int .i64 (.v 15), .int .i64 (.v 16), .int .i64 (.v 17), .int .i64 (.v 18), .int .i64 (.v 19), .int .i64 (.v 20)]] [] [(21, .i), (22, .i), (23, .i), (24, .i), (25, .i), (26, .i), (27, .p), (28, .n), (29, .n), (30, .p), (31, .n), (32, .n), (33, .i), (34, .i)] (.tup [.agg [.int .i64 (.v 21), .int .i64 (.v 22), .int .i64 (.v 23), .int .i64 (.v 24), .int .i64 (.v 25), .int .i64 (.v 26), .slO 27 (.k 0) (.v 28) (.v 29), .slO 30 (.k 0) (.v 31) (.v 32)], .int .i64 (.v 33), .int .i64 (.v 34)]) .fresh
(.all 2
(.call 43 [.agg [.int .i64 (.v 0), .int .i64 (.v 1), .int .i64 (.v 2), .int .i64 (.v 3), .int .i64 (.v 4), .int .i64 (.v 5), .slO 6 (.k 0) (.v 7) (.v 8), .slO 9 (.k 0) (.v 10) (.v 11)], .agg [.int .i64 (.v 12), .int .i64 (.v 13), .int .i64 (.v 14), .int .i64 (.v 15), .int .i64 (.v 16), .int .i64 (.v 17), .int .i64 (.v 18), .int .i64 (.v 19), .int .i64 (.v 20)]] [] [(35, .i), (36, .i), (37, .i), (38, .i), (39, .i), (40, .i), (41, .p), (42, .n), (43, .n), (44, .p), (45, .n), (46, .n), (47, .i), (48, .i)] (.tup [.agg [.int .i64 (.v 35), .int .i64 (.v 36), .int .i64 (.v 37), .int .i64 (.v 38), .int .i64 (.v 39), .int .i64 (.v 40), .slO 41 (.k 0) (.v 42) (.v 43), .slO 44 (.k 0) (.v 45) (.v 46)], .int .i64 (.v 47), .int .i64 (.v 48)]) .fresh
(.all 3
(.call 36 [] [] [(49, .b)] (.bool (.v 49)) .same
(.ite (.v 49)
(.call 41 [.agg [.int .i64 (.v 21), .int .i64 (.v 22), .int .i64 (.v 23), .int .i64 (.v 24), .int .i64 (.v 25), .int .i64 (.v 26), .slO 27 (.k 0) (.v 28) (.v 29), .slO 30 (.k 0) (.v 31) (.v 32)], .agg [.int .i64 (.v 35), .int .i64 (.v 36), .int .i64 (.v 37), .int .i64 (.v 38), .int .i64 (.v 39), .int .i64 (.v 40), .slO 41 (.k 0) (.v 42) (.v 43), .slO 44 (.k 0) (.v 45) (.v 46)]] [] [(50, .b)] (.bool (.v 50)) .same
(.ite (.v 50)
(.ite (.eq (.v 33) (.v 47))
(.ret (.bool (.eq (.v 34) (.v 48))) [])
(.ret (.bool (.k false)) []))
(.ret (.bool (.k false)) [])))
(.ret (.bool (.k false)) [])))))))))
theorem x_packPuts (x0 : Int) (x1 : Int) (x2 : Int) (x3 : Int) (x4 : Int) (x5 : Int) (x6 : Option Loc) (x7 : Nat) (x8 : Nat) (x9 : Option Loc) (x10 : Nat) (x11 : Nat) (x12 : Int) (x13 : Int) (x14 : Int) (x15 : Int) (x16 : Int) (x17 : Int) (x18 : Int) (x19 : Int) (x20 : Int) (M : Nat → Prop) (H0 : Hp) (W0 : World) (R : Ending → World → Prop) (hH : H0.le (hpOf W0)) (h :
 (∀ b0 : Nat,
 (∀ b1 : Nat,
 (Cl Try.prog W0 M H0 nK 42 #[Value.agg #[vi x0, vi x1, vi x2, vi x3, vi x4, vi x5, vsl x6 x7 x8, vsl x9 x10 x11], Value.agg #[vi x12, vi x13, vi x14, vi x15, vi x16, vi x17, vi x18, vi x19, vi x20]] fun z W1 W2 => ∃ x21 : Int, ∃ x22 : Int, ∃ x23 : Int, ∃ x24 : Int, ∃ x25 : Int, ∃ x26 : Int, ∃ x27 : Option Loc, ∃ x28 : Nat, ∃ x29 : Nat, ∃ x30 : Option Loc, ∃ x31 : Nat, ∃ x32 : Nat, ∃ x33 : Int, ∃ x34 : Int, z = .returned (Value.tuple #[Value.agg #[vi x21, vi x22, vi x23, vi x24, vi x25, vi x26, vsl x27 x28 x29, vsl x30 x31 x32], vi x33, vi x34]) ∧ Fr W1 W2 H0 fun H1 =>
 (∀ b2 : Nat,
 (Cl Try.prog W0 M H1 nK 43 #[Value.agg #[vi x0, vi x1, vi x2, vi x3, vi x4, vi x5, vsl x6 x7 x8, vsl x9 x10 x11], Value.agg #[vi x12, vi x13, vi x14, vi x15, vi x16, vi x17, vi x18, vi x19, vi x20]] fun z W3 W4 => ∃ x35 : Int, ∃ x36 : Int, ∃ x37 : Int, ∃ x38 : Int, ∃ x39 : Int, ∃ x40 : Int, ∃ x41 : Option Loc, ∃ x42 : Nat, ∃ x43 : Nat, ∃ x44 : Option Loc, ∃ x45 : Nat, ∃ x46 : Nat, ∃ x47 : Int, ∃ x48 : Int, z = .returned (Value.tuple #[Value.agg #[vi x35, vi x36, vi x37, vi x38, vi x39, vi x40, vsl x41 x42 x43, vsl x44 x45 x46], vi x47, vi x48]) ∧ Fr W3 W4 H1 fun H2 =>
 (∀ b3 : Nat,
 (Cl Try.prog W0 M H2 nK 36 #[] fun z W5 W6 => ∃ x49 : Bool, z = .returned (vb (x49)) ∧ Ext W5 W6 ∧
 ((x49 = true →
  (Cl Try.prog W0 M H2 nK 41 #[Value.agg #[vi x21, vi x22, vi x23, vi x24, vi x25, vi x26, vsl x27 x28 x29, vsl x30 x31 x32], Value.agg #[vi x35, vi x36, vi x37, vi x38, vi x39, vi x40, vsl x41 x42 x43, vsl x44 x45 x46]] fun z W7 W8 => ∃ x50 : Bool, z = .returned (vb (x50)) ∧ Ext W7 W8 ∧
  ((x50 = true →
   ((x33 = x47 →
    Rt R W0 M H2 nK (vb (decide (x34 = x48)))) ∧
   (¬ (x33 = x47) →
    Rt R W0 M H2 nK (vb (false))))) ∧
  (¬ (x50 = true) →
   Rt R W0 M H2 nK (vb (false)))))) ∧
 (¬ (x49 = true) →
  Rt R W0 M H2 nK (vb (false)))))))))))) :
  Calls Try.prog 11 #[Value.agg #[vi x0, vi x1, vi x2, vi x3, vi x4, vi x5, vsl x6 x7 x8, vsl x9 x10 x11], Value.agg #[vi x12, vi x13, vi x14, vi x15, vi x16, vi x17, vi x18, vi x19, vi x20]] W0 R :=
  calls_sxA (M := M) (V := v_packPuts) (hi := {}) (args := [.agg [.int .i64 (.v 0), .int .i64 (.v 1), .int .i64 (.v 2), .int .i64 (.v 3), .int .i64 (.v 4), .int .i64 (.v 5), .slO 6 (.k 0) (.v 7) (.v 8), .slO 9 (.k 0) (.v 10) (.v 11)], .agg [.int .i64 (.v 12), .int .i64 (.v 13), .int .i64 (.v 14), .int .i64 (.v 15), .int .i64 (.v 16), .int .i64 (.v 17), .int .i64 (.v 18), .int .i64 (.v 19), .int .i64 (.v 20)]]) (nv := 21) (e := (upd (upd (upd (upd (upd (upd (upd (upd (upd (upd (upd (upd (upd (upd (upd (upd (upd (upd (upd (upd (upd (fun _ => .i 0) 0 (.i x0)) 1 (.i x1)) 2 (.i x2)) 3 (.i x3)) 4 (.i x4)) 5 (.i x5)) 6 (.p x6)) 7 (.n x7)) 8 (.n x8)) 9 (.p x9)) 10 (.n x10)) 11 (.n x11)) 12 (.i x12)) 13 (.i x13)) 14 (.i x14)) 15 (.i x15)) 16 (.i x16)) 17 (.i x17)) 18 (.i x18)) 19 (.i x19)) 20 (.i x20))) Try.func11 hH h (by kernel_rfl) (by kernel_rfl) (by kernel_rfl)
def v_packTrue : VC :=
(.all 0
(.all 1
(.call 34 [.agg [.int .i64 (.v 0), .int .i64 (.v 1), .int .i64 (.v 2), .int .i64 (.v 3), .int .i64 (.v 4), .int .i64 (.v 5), .slO 6 (.k 0) (.v 7) (.v 8), .slO 9 (.k 0) (.v 10) (.v 11)]] [] [(23, .i), (24, .i), (25, .i), (26, .i), (27, .i), (28, .i), (29, .p), (30, .n), (31, .n), (32, .i)] (.tup [.agg [.int .i64 (.v 23), .int .i64 (.v 24), .int .i64 (.v 25), .int .i64 (.v 26), .int .i64 (.v 27), .int .i64 (.v 28), .slO 29 (.k 0) (.v 30) (.v 31)], .int .i64 (.v 32)]) .fresh
(.all 2
(.ite (.eq (.v 32) (.k 0))
(.chk (.le (.k 0) (.v 10))
(.chk (.rng .i64 (.add (.v 10) (.k 1)))
(.call 21 [.int .i64 (.v 12), .int .i64 (.add (.v 10) (.k 1))] [] [(33, .i)] (.int .i64 (.v 33)) .same
(.chk (.rng .i64 (.sub (.v 10) (.v 33)))
(.chk (.rng .i64 (.add (.sub (.v 10) (.v 33)) (.k 1)))
(.call 21 [.int .i64 (.v 13), .int .i64 (.add (.sub (.v 10) (.v 33)) (.k 1))] [] [(34, .i)] (.int .i64 (.v 34)) .same
(.call 39 [.agg [.int .i64 (.v 0), .int .i64 (.v 1), .int .i64 (.v 2), .int .i64 (.v 3), .int .i64 (.v 4), .int .i64 (.v 5), .slO 6 (.k 0) (.v 7) (.v 8), .slO 9 (.k 0) (.v 10) (.v 11)], .int .i64 (.v 33)] [] [(35, .i), (36, .i), (37, .i), (38, .i), (39, .i), (40, .i), (41, .p), (42, .n), (43, .n), (44, .p), (45, .n), (46, .n), (47, .i)] (.tup [.agg [.int .i64 (.v 35), .int .i64 (.v 36), .int .i64 (.v 37), .int .i64 (.v 38), .int .i64 (.v 39), .int .i64 (.v 40), .slO 41 (.k 0) (.v 42) (.v 43), .slO 44 (.k 0) (.v 45) (.v 46)], .int .i64 (.v 47)]) .fresh
(.all 3
(.call 39 [.agg [.int .i64 (.v 35), .int .i64 (.v 36), .int .i64 (.v 37), .int .i64 (.v 38), .int .i64 (.v 39), .int .i64 (.v 40), .slO 41 (.k 0) (.v 42) (.v 43), .slO 44 (.k 0) (.v 45) (.v 46)], .int .i64 (.v 34)] [] [(48, .i), (49, .i), (50, .i), (51, .i), (52, .i), (53, .i), (54, .p), (55, .n), (56, .n), (57, .p), (58, .n), (59, .n), (60, .i)] (.tup [.agg [.int .i64 (.v 48), .int .i64 (.v 49), .int .i64 (.v 50), .int .i64 (.v 51), .int .i64 (.v 52), .int .i64 (.v 53), .slO 54 (.k 0) (.v 55) (.v 56), .slO 57 (.k 0) (.v 58) (.v 59)], .int .i64 (.v 60)]) .fresh
(.all 4
(.chk (.rng .i64 (.add (.v 33) (.v 34)))
(.call 39 [.agg [.int .i64 (.v 0), .int .i64 (.v 1), .int .i64 (.v 2), .int .i64 (.v 3), .int .i64 (.v 4), .int .i64 (.v 5), .slO 6 (.k 0) (.v 7) (.v 8), .slO 9 (.k 0) (.v 10) (.v 11)], .int .i64 (.add (.v 33) (.v 34))] [] [(61, .i), (62, .i), (63, .i), (64, .i), (65, .i), (66, .i), (67, .p), (68, .n), (69, .n), (70, .p), (71, .n), (72, .n), (73, .i)] (.tup [.agg [.int .i64 (.v 61), .int .i64 (.v 62), .int .i64 (.v 63), .int .i64 (.v 64), .int .i64 (.v 65), .int .i64 (.v 66), .slO 67 (.k 0) (.v 68) (.v 69), .slO 70 (.k 0) (.v 71) (.v 72)], .int .i64 (.v 73)]) .fresh
(.all 5
(.call 34 [.agg [.int .i64 (.v 35), .int .i64 (.v 36), .int .i64 (.v 37), .int .i64 (.v 38), .int .i64 (.v 39), .int .i64 (.v 40), .slO 41 (.k 0) (.v 42) (.v 43), .slO 44 (.k 0) (.v 45) (.v 46)]] [] [(74, .i), (75, .i), (76, .i), (77, .i), (78, .i), (79, .i), (80, .p), (81, .n), (82, .n), (83, .i)] (.tup [.agg [.int .i64 (.v 74), .int .i64 (.v 75), .int .i64 (.v 76), .int .i64 (.v 77), .int .i64 (.v 78), .int .i64 (.v 79), .slO 80 (.k 0) (.v 81) (.v 82)], .int .i64 (.v 83)]) .fresh
(.all 6
(.ite (.eq (.v 47) (.k 0))
(.ite (.eq (.v 60) (.k 0))
(.ite (.eq (.v 73) (.k 0))
(.ite (.eq (.v 83) (.k 0))
(.call 19 [.agg [.int .i64 (.v 23), .int .i64 (.v 24), .int .i64 (.v 25), .int .i64 (.v 26), .int .i64 (.v 27), .int .i64 (.v 28), .slO 29 (.k 0) (.v 30) (.v 31)], .agg [.int .i64 (.v 74), .int .i64 (.v 75), .int .i64 (.v 76), .int .i64 (.v 77), .int .i64 (.v 78), .int .i64 (.v 79), .slO 80 (.k 0) (.v 81) (.v 82)]] [] [(84, .b)] (.bool (.v 84)) .same
(.ite (.v 84)
(.call 41 [.agg [.int .i64 (.v 48), .int .i64 (.v 49), .int .i64 (.v 50), .int .i64 (.v 51), .int .i64 (.v 52), .int .i64 (.v 53), .slO 54 (.k 0) (.v 55) (.v 56), .slO 57 (.k 0) (.v 58) (.v 59)], .agg [.int .i64 (.v 61), .int .i64 (.v 62), .int .i64 (.v 63), .int .i64 (.v 64), .int .i64 (.v 65), .int .i64 (.v 66), .slO 67 (.k 0) (.v 68) (.v 69), .slO 70 (.k 0) (.v 71) (.v 72)]] [] [(85, .b)] (.bool (.v 85)) .same
(.ite (.v 85)
(.call 37 [.agg [.int .i64 (.v 35), .int .i64 (.v 36), .int .i64 (.v 37), .int .i64 (.v 38), .int .i64 (.v 39), .int .i64 (.v 40), .slO 41 (.k 0) (.v 42) (.v 43), .slO 44 (.k 0) (.v 45) (.v 46)]] [] [(86, .i)] (.int .i64 (.v 86)) .same
(.ite (.eq (.v 86) (.k 0))
(.call 42 [.agg [.int .i64 (.v 0), .int .i64 (.v 1), .int .i64 (.v 2), .int .i64 (.v 3), .int .i64 (.v 4), .int .i64 (.v 5), .slO 6 (.k 0) (.v 7) (.v 8), .slO 9 (.k 0) (.v 10) (.v 11)], .agg [.int .i64 (.v 14), .int .i64 (.v 15), .int .i64 (.v 16), .int .i64 (.v 17), .int .i64 (.v 18), .int .i64 (.v 19), .int .i64 (.v 20), .int .i64 (.v 21), .int .i64 (.v 22)]] [] [(87, .i), (88, .i), (89, .i), (90, .i), (91, .i), (92, .i), (93, .p), (94, .n), (95, .n), (96, .p), (97, .n), (98, .n), (99, .i), (100, .i)] (.tup [.agg [.int .i64 (.v 87), .int .i64 (.v 88), .int .i64 (.v 89), .int .i64 (.v 90), .int .i64 (.v 91), .int .i64 (.v 92), .slO 93 (.k 0) (.v 94) (.v 95), .slO 96 (.k 0) (.v 97) (.v 98)], .int .i64 (.v 99), .int .i64 (.v 100)]) .fresh
(.all 7
(.call 42 [.agg [.int .i64 (.v 35), .int .i64 (.v 36), .int .i64 (.v 37), .int .i64 (.v 38), .int .i64 (.v 39), .int .i64 (.v 40), .slO 41 (.k 0) (.v 42) (.v 43), .slO 44 (.k 0) (.v 45) (.v 46)], .agg [.int .i64 (.v 14), .int .i64 (.v 15), .int .i64 (.v 16), .int .i64 (.v 17), .int .i64 (.v 18), .int .i64 (.v 19), .int .i64 (.v 20), .int .i64 (.v 21), .int .i64 (.v 22)]] [] [(101, .i), (102, .i), (103, .i), (104, .i), (105, .i), (106, .i), (107, .p), (108, .n), (109, .n), (110, .p), (111, .n), (112, .n), (113, .i), (114, .i)] (.tup [.agg [.int .i64 (.v 101), .int .i64 (.v 102), .int .i64 (.v 103), .int .i64 (.v 104), .int .i64 (.v 105), .int .i64 (.v 106), .slO 107 (.k 0) (.v 108) (.v 109), .slO 110 (.k 0) (.v 111) (.v 112)], .int .i64 (.v 113), .int .i64 (.v 114)]) .fresh
(.all 8
(.call 36 [] [] [(115, .b)] (.bool (.v 115)) .same
(.ite (.v 115)
(.ite (.eq (.v 100) (.v 114))
(.ret (.bool (.eq (.v 99) (.v 113))) [])
(.ret (.bool (.k false)) []))
(.ret (.bool (.k false)) [])))))))
(.ret (.bool (.k false)) [])))
(.ret (.bool (.k false)) [])))
(.ret (.bool (.k false)) [])))
(.ret (.bool (.k false)) []))
(.ret (.bool (.k false)) []))
(.ret (.bool (.k false)) []))
(.ret (.bool (.k false)) [])))))))))))))))))
(.call 36 [] [] [(33, .b)] (.bool (.v 33)) .same
(.ret (.bool (.v 33)) [])))))))
theorem x_packTrue (x0 : Int) (x1 : Int) (x2 : Int) (x3 : Int) (x4 : Int) (x5 : Int) (x6 : Option Loc) (x7 : Nat) (x8 : Nat) (x9 : Option Loc) (x10 : Nat) (x11 : Nat) (x12 : Int) (x13 : Int) (x14 : Int) (x15 : Int) (x16 : Int) (x17 : Int) (x18 : Int) (x19 : Int) (x20 : Int) (x21 : Int) (x22 : Int) (M : Nat → Prop) (H0 : Hp) (W0 : World) (R : Ending → World → Prop) (hH : H0.le (hpOf W0)) (h :
 (∀ b0 : Nat,
 (∀ b1 : Nat,
 (Cl Try.prog W0 M H0 nK 34 #[Value.agg #[vi x0, vi x1, vi x2, vi x3, vi x4, vi x5, vsl x6 x7 x8, vsl x9 x10 x11]] fun z W1 W2 => ∃ x23 : Int, ∃ x24 : Int, ∃ x25 : Int, ∃ x26 : Int, ∃ x27 : Int, ∃ x28 : Int, ∃ x29 : Option Loc, ∃ x30 : Nat, ∃ x31 : Nat, ∃ x32 : Int, z = .returned (Value.tuple #[Value.agg #[vi x23, vi x24, vi x25, vi x26, vi x27, vi x28, vsl x29 x30 x31], vi x32]) ∧ Fr W1 W2 H0 fun H1 =>
 (∀ b2 : Nat,
 ((x32 = 0 →
  (0 ≤ (x10 : Int) ∧ (0 ≤ (x10 : Int) →
  (inKind .i64 ((x10 : Int) + 1) ∧ (inKind .i64 ((x10 : Int) + 1) →
  (Cl Try.prog W0 M H1 nK 21 #[vi x12, vi ((x10 : Int) + 1)] fun z W3 W4 => ∃ x33 : Int, z = .returned (vi x33) ∧ Ext W3 W4 ∧
  (inKind .i64 ((x10 : Int) - x33) ∧ (inKind .i64 ((x10 : Int) - x33) →
  (inKind .i64 (((x10 : Int) - x33) + 1) ∧ (inKind .i64 (((x10 : Int) - x33) + 1) →
  (Cl Try.prog W0 M H1 nK 21 #[vi x13, vi (((x10 : Int) - x33) + 1)] fun z W5 W6 => ∃ x34 : Int, z = .returned (vi x34) ∧ Ext W5 W6 ∧
  (Cl Try.prog W0 M H1 nK 39 #[Value.agg #[vi x0, vi x1, vi x2, vi x3, vi x4, vi x5, vsl x6 x7 x8, vsl x9 x10 x11], vi x33] fun z W7 W8 => ∃ x35 : Int, ∃ x36 : Int, ∃ x37 : Int, ∃ x38 : Int, ∃ x39 : Int, ∃ x40 : Int, ∃ x41 : Option Loc, ∃ x42 : Nat, ∃ x43 : Nat, ∃ x44 : Option Loc, ∃ x45 : Nat, ∃ x46 : Nat, ∃ x47 : Int, z = .returned (Value.tuple #[Value.agg #[vi x35, vi x36, vi x37, vi x38, vi x39, vi x40, vsl x41 x42 x43, vsl x44 x45 x46], vi x47]) ∧ Fr W7 W8 H1 fun H2 =>
  (∀ b3 : Nat,
  (Cl Try.prog W0 M H2 nK 39 #[Value.agg #[vi x35, vi x36, vi x37, vi x38, vi x39, vi x40, vsl x41 x42 x43, vsl x44 x45 x46], vi x34] fun z W9 W10 => ∃ x48 : Int, ∃ x49 : Int, ∃ x50 : Int, ∃ x51 : Int, ∃ x52 : Int, ∃ x53 : Int, ∃ x54 : Option Loc, ∃ x55 : Nat, ∃ x56 : Nat, ∃ x57 : Option Loc, ∃ x58 : Nat, ∃ x59 : Nat, ∃ x60 : Int, z = .returned (Value.tuple #[Value.agg #[vi x48, vi x49, vi x50, vi x51, vi x52, vi x53, vsl x54 x55 x56, vsl x57 x58 x59], vi x60]) ∧ Fr W9 W10 H2 fun H3 =>
  (∀ b4 : Nat,
  (inKind .i64 (x33 + x34) ∧ (inKind .i64 (x33 + x34) →
  (Cl Try.prog W0 M H3 nK 39 #[Value.agg #[vi x0, vi x1, vi x2, vi x3, vi x4, vi x5, vsl x6 x7 x8, vsl x9 x10 x11], vi (x33 + x34)] fun z W11 W12 => ∃ x61 : Int, ∃ x62 : Int, ∃ x63 : Int, ∃ x64 : Int, ∃ x65 : Int, ∃ x66 : Int, ∃ x67 : Option Loc, ∃ x68 : Nat, ∃ x69 : Nat, ∃ x70 : Option Loc, ∃ x71 : Nat, ∃ x72 : Nat, ∃ x73 : Int, z = .returned (Value.tuple #[Value.agg #[vi x61, vi x62, vi x63, vi x64, vi x65, vi x66, vsl x67 x68 x69, vsl x70 x71 x72], vi x73]) ∧ Fr W11 W12 H3 fun H4 =>
  (∀ b5 : Nat,
  (Cl Try.prog W0 M H4 nK 34 #[Value.agg #[vi x35, vi x36, vi x37, vi x38, vi x39, vi x40, vsl x41 x42 x43, vsl x44 x45 x46]] fun z W13 W14 => ∃ x74 : Int, ∃ x75 : Int, ∃ x76 : Int, ∃ x77 : Int, ∃ x78 : Int, ∃ x79 : Int, ∃ x80 : Option Loc, ∃ x81 : Nat, ∃ x82 : Nat, ∃ x83 : Int, z = .returned (Value.tuple #[Value.agg #[vi x74, vi x75, vi x76, vi x77, vi x78, vi x79, vsl x80 x81 x82], vi x83]) ∧ Fr W13 W14 H4 fun H5 =>
  (∀ b6 : Nat,
  ((x47 = 0 →
   ((x60 = 0 →
    ((x73 = 0 →
     ((x83 = 0 →
      (Cl Try.prog W0 M H5 nK 19 #[Value.agg #[vi x23, vi x24, vi x25, vi x26, vi x27, vi x28, vsl x29 x30 x31], Value.agg #[vi x74, vi x75, vi x76, vi x77, vi x78, vi x79, vsl x80 x81 x82]] fun z W15 W16 => ∃ x84 : Bool, z = .returned (vb (x84)) ∧ Ext W15 W16 ∧
      ((x84 = true →
       (Cl Try.prog W0 M H5 nK 41 #[Value.agg #[vi x48, vi x49, vi x50, vi x51, vi x52, vi x53, vsl x54 x55 x56, vsl x57 x58 x59], Value.agg #[vi x61, vi x62, vi x63, vi x64, vi x65, vi x66, vsl x67 x68 x69, vsl x70 x71 x72]] fun z W17 W18 => ∃ x85 : Bool, z = .returned (vb (x85)) ∧ Ext W17 W18 ∧
       ((x85 = true →
        (Cl Try.prog W0 M H5 nK 37 #[Value.agg #[vi x35, vi x36, vi x37, vi x38, vi x39, vi x40, vsl x41 x42 x43, vsl x44 x45 x46]] fun z W19 W20 => ∃ x86 : Int, z = .returned (vi x86) ∧ Ext W19 W20 ∧
        ((x86 = 0 →
         (Cl Try.prog W0 M H5 nK 42 #[Value.agg #[vi x0, vi x1, vi x2, vi x3, vi x4, vi x5, vsl x6 x7 x8, vsl x9 x10 x11], Value.agg #[vi x14, vi x15, vi x16, vi x17, vi x18, vi x19, vi x20, vi x21, vi x22]] fun z W21 W22 => ∃ x87 : Int, ∃ x88 : Int, ∃ x89 : Int, ∃ x90 : Int, ∃ x91 : Int, ∃ x92 : Int, ∃ x93 : Option Loc, ∃ x94 : Nat, ∃ x95 : Nat, ∃ x96 : Option Loc, ∃ x97 : Nat, ∃ x98 : Nat, ∃ x99 : Int, ∃ x100 : Int, z = .returned (Value.tuple #[Value.agg #[vi x87, vi x88, vi x89, vi x90, vi x91, vi x92, vsl x93 x94 x95, vsl x96 x97 x98], vi x99, vi x100]) ∧ Fr W21 W22 H5 fun H6 =>
         (∀ b7 : Nat,
         (Cl Try.prog W0 M H6 nK 42 #[Value.agg #[vi x35, vi x36, vi x37, vi x38, vi x39, vi x40, vsl x41 x42 x43, vsl x44 x45 x46], Value.agg #[vi x14, vi x15, vi x16, vi x17, vi x18, vi x19, vi x20, vi x21, vi x22]] fun z W23 W24 => ∃ x101 : Int, ∃ x102 : Int, ∃ x103 : Int, ∃ x104 : Int, ∃ x105 : Int, ∃ x106 : Int, ∃ x107 : Option Loc, ∃ x108 : Nat, ∃ x109 : Nat, ∃ x110 : Option Loc, ∃ x111 : Nat, ∃ x112 : Nat, ∃ x113 : Int, ∃ x114 : Int, z = .returned (Value.tuple #[Value.agg #[vi x101, vi x102, vi x103, vi x104, vi x105, vi x106, vsl x107 x108 x109, vsl x110 x111 x112], vi x113, vi x114]) ∧ Fr W23 W24 H6 fun H7 =>
         (∀ b8 : Nat,
         (Cl Try.prog W0 M H7 nK 36 #[] fun z W25 W26 => ∃ x115 : Bool, z = .returned (vb (x115)) ∧ Ext W25 W26 ∧
         ((x115 = true →
          ((x100 = x114 →
           Rt R W0 M H7 nK (vb (decide (x99 = x113)))) ∧
          (¬ (x100 = x114) →
           Rt R W0 M H7 nK (vb (false))))) ∧
         (¬ (x115 = true) →
          Rt R W0 M H7 nK (vb (false)))))))))) ∧
        (¬ (x86 = 0) →
         Rt R W0 M H5 nK (vb (false)))))) ∧
       (¬ (x85 = true) →
        Rt R W0 M H5 nK (vb (false)))))) ∧
      (¬ (x84 = true) →
       Rt R W0 M H5 nK (vb (false)))))) ∧
     (¬ (x83 = 0) →
      Rt R W0 M H5 nK (vb (false))))) ∧
    (¬ (x73 = 0) →
     Rt R W0 M H5 nK (vb (false))))) ∧
   (¬ (x60 = 0) →
    Rt R W0 M H5 nK (vb (false))))) ∧
  (¬ (x47 = 0) →
   Rt R W0 M H5 nK (vb (false))))))))))))))))))))))))) ∧
 (¬ (x32 = 0) →
  (Cl Try.prog W0 M H1 nK 36 #[] fun z W3 W4 => ∃ x33 : Bool, z = .returned (vb (x33)) ∧ Ext W3 W4 ∧
  Rt R W0 M H1 nK (vb (x33)))))))))) :
  Calls Try.prog 12 #[Value.agg #[vi x0, vi x1, vi x2, vi x3, vi x4, vi x5, vsl x6 x7 x8, vsl x9 x10 x11], vi x12, vi x13, Value.agg #[vi x14, vi x15, vi x16, vi x17, vi x18, vi x19, vi x20, vi x21, vi x22]] W0 R :=
  calls_sxA (M := M) (V := v_packTrue) (hi := {}) (args := [.agg [.int .i64 (.v 0), .int .i64 (.v 1), .int .i64 (.v 2), .int .i64 (.v 3), .int .i64 (.v 4), .int .i64 (.v 5), .slO 6 (.k 0) (.v 7) (.v 8), .slO 9 (.k 0) (.v 10) (.v 11)], .int .i64 (.v 12), .int .i64 (.v 13), .agg [.int .i64 (.v 14), .int .i64 (.v 15), .int .i64 (.v 16), .int .i64 (.v 17), .int .i64 (.v 18), .int .i64 (.v 19), .int .i64 (.v 20), .int .i64 (.v 21), .int .i64 (.v 22)]]) (nv := 23) (e := (upd (upd (upd (upd (upd (upd (upd (upd (upd (upd (upd (upd (upd (upd (upd (upd (upd (upd (upd (upd (upd (upd (upd (fun _ => .i 0) 0 (.i x0)) 1 (.i x1)) 2 (.i x2)) 3 (.i x3)) 4 (.i x4)) 5 (.i x5)) 6 (.p x6)) 7 (.n x7)) 8 (.n x8)) 9 (.p x9)) 10 (.n x10)) 11 (.n x11)) 12 (.i x12)) 13 (.i x13)) 14 (.i x14)) 15 (.i x15)) 16 (.i x16)) 17 (.i x17)) 18 (.i x18)) 19 (.i x19)) 20 (.i x20)) 21 (.i x21)) 22 (.i x22))) Try.func12 hH h (by kernel_rfl) (by kernel_rfl) (by kernel_rfl)
def v_packAnswer : VC :=
(.all 0
(.call 32 [] [] [(13, .i), (14, .i), (15, .i), (16, .i), (17, .i), (18, .i), (19, .p), (20, .n), (21, .n)] (.agg [.int .i64 (.v 13), .int .i64 (.v 14), .int .i64 (.v 15), .int .i64 (.v 16), .int .i64 (.v 17), .int .i64 (.v 18), .slO 19 (.k 0) (.v 20) (.v 21)]) .fresh
(.all 1
(.esc (.bi .append #[26, 26] 26) [.slK 1 0 0 0, .slO 0 (.k 0) (.v 1) (.v 2)] [(1, ⟨[], 54⟩)] [(22, .p), (23, .n), (24, .n)] (some (.slO 22 (.k 0) (.v 23) (.v 24))) .turn
(.all 2
(.esc (.bi .append #[26, 26] 26) [.slO 22 (.k 0) (.v 23) (.v 24), .slK 2 0 1 1] [(2, ⟨[.int .i64 (.v 4), .int .i64 (.v 5), .int .i64 (.v 6), .int .i64 (.v 7), .int .i64 (.v 8), .int .i64 (.v 9), .int .i64 (.v 10), .int .i64 (.v 11), .int .i64 (.v 12)], 54⟩)] [(25, .p), (26, .n), (27, .n)] (some (.slO 25 (.k 0) (.v 26) (.v 27))) .turn
(.call 14 [.agg [.int .i64 (.v 13), .int .i64 (.v 14), .int .i64 (.v 15), .int .i64 (.v 16), .int .i64 (.v 17), .int .i64 (.v 18), .slO 19 (.k 0) (.v 20) (.v 21)], .slO 25 (.k 0) (.v 26) (.v 27)] [] [(28, .i), (29, .i), (30, .i), (31, .i), (32, .i), (33, .i), (34, .p), (35, .n), (36, .n), (37, .p), (38, .n), (39, .n), (40, .i)] (.tup [.agg [.int .i64 (.v 28), .int .i64 (.v 29), .int .i64 (.v 30), .int .i64 (.v 31), .int .i64 (.v 32), .int .i64 (.v 33), .slO 34 (.k 0) (.v 35) (.v 36)], .slO 37 (.k 0) (.v 38) (.v 39), .int .i64 (.v 40)]) .fresh
(.all 3
(.ite (.eq (.v 40) (.k 0))
(.chk (.le (.k 0) (.v 38))
(.chk (.le (.k 0) (.v 1))
(.chk (.rng .i64 (.add (.v 1) (.k 1)))
(.ite (.eq (.v 38) (.add (.v 1) (.k 1)))
(.call 21 [.int .i64 (.v 3), .int .i64 (.add (.v 1) (.k 1))] [] [(41, .i)] (.int .i64 (.v 41)) .same
(.call 39 [.agg [.int .i64 (.k 0), .int .i64 (.k 0), .int .i64 (.k 0), .int .i64 (.k 0), .int .i64 (.k 0), .int .i64 (.k 0), .c (Value.slice none 0 0), .slO 0 (.k 0) (.v 1) (.v 2)], .int .i64 (.v 41)] [] [(42, .i), (43, .i), (44, .i), (45, .i), (46, .i), (47, .i), (48, .p), (49, .n), (50, .n), (51, .p), (52, .n), (53, .n), (54, .i)] (.tup [.agg [.int .i64 (.v 42), .int .i64 (.v 43), .int .i64 (.v 44), .int .i64 (.v 45), .int .i64 (.v 46), .int .i64 (.v 47), .slO 48 (.k 0) (.v 49) (.v 50), .slO 51 (.k 0) (.v 52) (.v 53)], .int .i64 (.v 54)]) .fresh
(.all 4
(.call 42 [.agg [.int .i64 (.v 42), .int .i64 (.v 43), .int .i64 (.v 44), .int .i64 (.v 45), .int .i64 (.v 46), .int .i64 (.v 47), .slO 48 (.k 0) (.v 49) (.v 50), .slO 51 (.k 0) (.v 52) (.v 53)], .agg [.int .i64 (.v 4), .int .i64 (.v 5), .int .i64 (.v 6), .int .i64 (.v 7), .int .i64 (.v 8), .int .i64 (.v 9), .int .i64 (.v 10), .int .i64 (.v 11), .int .i64 (.v 12)]] [] [(55, .i), (56, .i), (57, .i), (58, .i), (59, .i), (60, .i), (61, .p), (62, .n), (63, .n), (64, .p), (65, .n), (66, .n), (67, .i), (68, .i)] (.tup [.agg [.int .i64 (.v 55), .int .i64 (.v 56), .int .i64 (.v 57), .int .i64 (.v 58), .int .i64 (.v 59), .int .i64 (.v 60), .slO 61 (.k 0) (.v 62) (.v 63), .slO 64 (.k 0) (.v 65) (.v 66)], .int .i64 (.v 67), .int .i64 (.v 68)]) .fresh
(.all 5
(.call 36 [] [] [(69, .b)] (.bool (.v 69)) .same
(.ite (.v 69)
(.ite (.eq (.v 54) (.k 0))
(.ite (.eq (.v 68) (.k 0))
(.chk (.idx (.v 1) (.v 38))
(.chk (.isp 37)
(.ld 37 (.add (.k 0) (.mul (.v 1) (.k 1))) [.int .i64 (.v 70)] [(70, .i)]
(.ret (.bool (.eq (.v 67) (.v 70))) []))))
(.ret (.bool (.k false)) []))
(.ret (.bool (.k false)) []))
(.ret (.bool (.k false)) []))))))))
(.call 36 [] [] [(41, .b)] (.bool (.v 41)) .same
(.ite (.v 41)
(.ret (.bool (.not (.eq (.v 40) (.k 0)))) [])
(.ret (.bool (.k false)) [])))))))
(.call 36 [] [] [(41, .b)] (.bool (.v 41)) .same
(.ite (.v 41)
(.ret (.bool (.not (.eq (.v 40) (.k 0)))) [])
(.ret (.bool (.k false)) []))))))))))))
theorem x_packAnswer (x0 : Option Loc) (x1 : Nat) (x2 : Nat) (x3 : Int) (x4 : Int) (x5 : Int) (x6 : Int) (x7 : Int) (x8 : Int) (x9 : Int) (x10 : Int) (x11 : Int) (x12 : Int) (M : Nat → Prop) (H0 : Hp) (W0 : World) (R : Ending → World → Prop) (hH : H0.le (hpOf W0)) (h :
 (∀ b0 : Nat,
 (Cl Try.prog W0 M H0 nK 32 #[] fun z W1 W2 => ∃ x13 : Int, ∃ x14 : Int, ∃ x15 : Int, ∃ x16 : Int, ∃ x17 : Int, ∃ x18 : Int, ∃ x19 : Option Loc, ∃ x20 : Nat, ∃ x21 : Nat, z = .returned (Value.agg #[vi x13, vi x14, vi x15, vi x16, vi x17, vi x18, vsl x19 x20 x21]) ∧ Fr W1 W2 H0 fun H1 =>
 (∀ b1 : Nat,
 (Es W0 M H1 (fun W => Kn W0 M H1 W b1 (Obj.cells #[] 54 (0, 0)) ∧ True) fun W3 => ∃ x22 : Option Loc, ∃ x23 : Nat, ∃ x24 : Nat, Eo Try.prog (.bi .append #[26, 26] 26) [Value.slice (some ⟨b1, 0, none⟩) 0 0, vsl x0 x1 x2] W3 (.value (vsl x22 x23 x24)) fun W4 => Tn W0 M H1 W3 W4 fun H2 =>
 (∀ b2 : Nat,
 (Es W0 M H2 (fun W => Kn W0 M H2 W b2 (Obj.cells #[vi x4, vi x5, vi x6, vi x7, vi x8, vi x9, vi x10, vi x11, vi x12] 54 (0, 0)) ∧ True) fun W5 => ∃ x25 : Option Loc, ∃ x26 : Nat, ∃ x27 : Nat, Eo Try.prog (.bi .append #[26, 26] 26) [vsl x22 x23 x24, Value.slice (some ⟨b2, 0, none⟩) 1 1] W5 (.value (vsl x25 x26 x27)) fun W6 => Tn W0 M H2 W5 W6 fun H3 =>
 (Cl Try.prog W0 M H3 nK 14 #[Value.agg #[vi x13, vi x14, vi x15, vi x16, vi x17, vi x18, vsl x19 x20 x21], vsl x25 x26 x27] fun z W7 W8 => ∃ x28 : Int, ∃ x29 : Int, ∃ x30 : Int, ∃ x31 : Int, ∃ x32 : Int, ∃ x33 : Int, ∃ x34 : Option Loc, ∃ x35 : Nat, ∃ x36 : Nat, ∃ x37 : Option Loc, ∃ x38 : Nat, ∃ x39 : Nat, ∃ x40 : Int, z = .returned (Value.tuple #[Value.agg #[vi x28, vi x29, vi x30, vi x31, vi x32, vi x33, vsl x34 x35 x36], vsl x37 x38 x39, vi x40]) ∧ Fr W7 W8 H3 fun H4 =>
 (∀ b3 : Nat,
 ((x40 = 0 →
  (0 ≤ (x38 : Int) ∧ (0 ≤ (x38 : Int) →
  (0 ≤ (x1 : Int) ∧ (0 ≤ (x1 : Int) →
  (inKind .i64 ((x1 : Int) + 1) ∧ (inKind .i64 ((x1 : Int) + 1) →
  (((x38 : Int) = ((x1 : Int) + 1) →
   (Cl Try.prog W0 M H4 nK 21 #[vi x3, vi ((x1 : Int) + 1)] fun z W9 W10 => ∃ x41 : Int, z = .returned (vi x41) ∧ Ext W9 W10 ∧
   (Cl Try.prog W0 M H4 nK 39 #[Value.agg #[vi 0, vi 0, vi 0, vi 0, vi 0, vi 0, Value.slice none 0 0, vsl x0 x1 x2], vi x41] fun z W11 W12 => ∃ x42 : Int, ∃ x43 : Int, ∃ x44 : Int, ∃ x45 : Int, ∃ x46 : Int, ∃ x47 : Int, ∃ x48 : Option Loc, ∃ x49 : Nat, ∃ x50 : Nat, ∃ x51 : Option Loc, ∃ x52 : Nat, ∃ x53 : Nat, ∃ x54 : Int, z = .returned (Value.tuple #[Value.agg #[vi x42, vi x43, vi x44, vi x45, vi x46, vi x47, vsl x48 x49 x50, vsl x51 x52 x53], vi x54]) ∧ Fr W11 W12 H4 fun H5 =>
   (∀ b4 : Nat,
   (Cl Try.prog W0 M H5 nK 42 #[Value.agg #[vi x42, vi x43, vi x44, vi x45, vi x46, vi x47, vsl x48 x49 x50, vsl x51 x52 x53], Value.agg #[vi x4, vi x5, vi x6, vi x7, vi x8, vi x9, vi x10, vi x11, vi x12]] fun z W13 W14 => ∃ x55 : Int, ∃ x56 : Int, ∃ x57 : Int, ∃ x58 : Int, ∃ x59 : Int, ∃ x60 : Int, ∃ x61 : Option Loc, ∃ x62 : Nat, ∃ x63 : Nat, ∃ x64 : Option Loc, ∃ x65 : Nat, ∃ x66 : Nat, ∃ x67 : Int, ∃ x68 : Int, z = .returned (Value.tuple #[Value.agg #[vi x55, vi x56, vi x57, vi x58, vi x59, vi x60, vsl x61 x62 x63, vsl x64 x65 x66], vi x67, vi x68]) ∧ Fr W13 W14 H5 fun H6 =>
   (∀ b5 : Nat,
   (Cl Try.prog W0 M H6 nK 36 #[] fun z W15 W16 => ∃ x69 : Bool, z = .returned (vb (x69)) ∧ Ext W15 W16 ∧
   ((x69 = true →
    ((x54 = 0 →
     ((x68 = 0 →
      (((0 : Int) ≤ (x1 : Int) ∧ (x1 : Int) < (x38 : Int)) ∧ (((0 : Int) ≤ (x1 : Int) ∧ (x1 : Int) < (x38 : Int)) →
      (x37.isSome = true ∧ (x37.isSome = true →
      (∃ x70 : Int, RowAt H6 x37 (0 + ((x1 : Int) * 1)) [vi x70] ∧
      Rt R W0 M H6 nK (vb (decide (x67 = x70))))))))) ∧
     (¬ (x68 = 0) →
      Rt R W0 M H6 nK (vb (false))))) ∧
    (¬ (x54 = 0) →
     Rt R W0 M H6 nK (vb (false))))) ∧
   (¬ (x69 = true) →
    Rt R W0 M H6 nK (vb (false))))))))))) ∧
  (¬ ((x38 : Int) = ((x1 : Int) + 1)) →
   (Cl Try.prog W0 M H4 nK 36 #[] fun z W9 W10 => ∃ x41 : Bool, z = .returned (vb (x41)) ∧ Ext W9 W10 ∧
   ((x41 = true →
    Rt R W0 M H4 nK (vb ((!decide (x40 = 0))))) ∧
   (¬ (x41 = true) →
    Rt R W0 M H4 nK (vb (false)))))))))))))) ∧
 (¬ (x40 = 0) →
  (Cl Try.prog W0 M H4 nK 36 #[] fun z W9 W10 => ∃ x41 : Bool, z = .returned (vb (x41)) ∧ Ext W9 W10 ∧
  ((x41 = true →
   Rt R W0 M H4 nK (vb ((!decide (x40 = 0))))) ∧
  (¬ (x41 = true) →
   Rt R W0 M H4 nK (vb (false)))))))))))))))) :
  Calls Try.prog 13 #[vsl x0 x1 x2, vi x3, Value.agg #[vi x4, vi x5, vi x6, vi x7, vi x8, vi x9, vi x10, vi x11, vi x12]] W0 R :=
  calls_sxA (M := M) (V := v_packAnswer) (hi := {}) (args := [.slO 0 (.k 0) (.v 1) (.v 2), .int .i64 (.v 3), .agg [.int .i64 (.v 4), .int .i64 (.v 5), .int .i64 (.v 6), .int .i64 (.v 7), .int .i64 (.v 8), .int .i64 (.v 9), .int .i64 (.v 10), .int .i64 (.v 11), .int .i64 (.v 12)]]) (nv := 13) (e := (upd (upd (upd (upd (upd (upd (upd (upd (upd (upd (upd (upd (upd (fun _ => .i 0) 0 (.p x0)) 1 (.n x1)) 2 (.n x2)) 3 (.i x3)) 4 (.i x4)) 5 (.i x5)) 6 (.i x6)) 7 (.i x7)) 8 (.i x8)) 9 (.i x9)) 10 (.i x10)) 11 (.i x11)) 12 (.i x12))) Try.func13 hH h (by kernel_rfl) (by kernel_rfl) (by kernel_rfl)
end Go.Proofs.Ytdihdcielchodaa
namespace Go.Proofs.Ytdihdcielchodaa
open Go.RowKit
set_option maxRecDepth 100000
def e43 : Ent := ⟨2, 43, 1, 2, 1, ⟨2, 0, 0, 1⟩⟩
theorem pk1 : (lEnd Sta.zero someL).1.pos = 10 ∧ (lEnd Sta.zero someL).2 = 0 ∧ (lCut Sta.zero someL 6).1.pos = 6 ∧ (lCut Sta.zero someL 6).2.1.length = 4 ∧ (lCut Sta.zero someL 6).2.2 = 0 ∧ (lCut Sta.zero someL 11).2.2 = 3 ∧ logErr Sta.zero someL = 0 := by decide +kernel
theorem pk2 : (lPut (lCut Sta.zero someL 6).1 (lCut Sta.zero someL 6).2.1 e43).2.1.length = 5 ∧ (lPut (lCut Sta.zero someL 6).1 (lCut Sta.zero someL 6).2.1 e43).2.2.1 = 13 ∧ (lPut (lCut Sta.zero someL 6).1 (lCut Sta.zero someL 6).2.1 e43).2.2.2 = 0 := by decide +kernel
def st45 : Sta := ⟨45, 0, ⟨0, 0, 0, 0⟩, []⟩
theorem pk3 : (lEnd st45 someL).2 = 2 := by decide +kernel
theorem c_packBegun (H : Hp) : Gv Try.prog 36 #[] H (vb true) := fun W hH => by
  obtain ⟨a1, a2, a3, a4, a5, a6, a7⟩ := pk1
  obtain ⟨a8, a9, a10⟩ := pk2
  have a11 := pk3
  have k1 : ∀ {p : Option Loc} {H : Hp}, Ents H p 10 10 someL → Gf Try.prog 34 #[logV Sta.zero (vsl none 0 0) (vsl p 10 10)] H (EndPost (lEnd Sta.zero someL)) := fun hE => c_packEnd (Tab.nil _ none) hE
  have k2 : ∀ {p : Option Loc} {H : Hp}, Ents H p 10 10 someL → Gf Try.prog 39 #[logV Sta.zero (vsl none 0 0) (vsl p 10 10), vi 6] H (LogPost (lCut Sta.zero someL 6)) := fun hE => c_packCut (Tab.nil _ none) hE 6
  have k3 : ∀ {p : Option Loc} {H : Hp}, Ents H p 10 10 someL → Gf Try.prog 39 #[logV Sta.zero (vsl none 0 0) (vsl p 10 10), vi 11] H (LogPost (lCut Sta.zero someL 11)) := fun hE => c_packCut (Tab.nil _ none) hE 11
  have k4 : ∀ {p : Option Loc} {H : Hp}, Ents H p 10 10 someL → Gf Try.prog 34 #[logV st45 (vsl none 0 0) (vsl p 10 10)] H (EndPost (lEnd st45 someL)) := fun hE => c_packEnd (s := st45) (Tab.nil _ none) hE
  have k5 : ∀ {p : Option Loc} {H : Hp}, Ents H p 10 10 someL → Gv Try.prog 37 #[logV Sta.zero (vsl none 0 0) (vsl p 10 10)] H (vi (logErr Sta.zero someL)) := fun hE => c_packCheck (Tab.nil _ none) hE
  rw [a7] at k5
  generalize lEnd Sta.zero someL = e1 at *
  generalize lCut Sta.zero someL 6 = e2 at *
  generalize lCut Sta.zero someL 11 = e3 at *
  generalize lEnd st45 someL = e4 at *
  have k6 : ∀ {p q : Option Loc} {n c m d : Nat} {H : Hp}, Tab H p n c e2.1.table → Ents H q m d e2.2.1 → Gf Try.prog 42 #[logV e2.1 (vsl p n c) (vsl q m d), .agg #[vi 2, vi 43, vi 1, vi 2, vi 1, vi 2, vi 0, vi 0, vi 1]] H (PutPost (lPut e2.1 e2.2.1 e43)) := fun hT hE => c_packPut hT hE (e := e43) (by decide)
  generalize lPut e2.1 e2.2.1 e43 = e5 at *
  refine x_packBegun noM H W _ hH ?_
  refine Cl.fresh (c_lsome H) ?_
  rintro v W1 W2 D ⟨p, rfl, hE⟩ hx hD hf nn
  refine ⟨p, 10, 10, rfl, hx, D, hD, hf, fun H1 h1 hd1 b0 => ?_⟩
  have hE1 := hE.mono hd1
  refine Cl.fresh (k1 hE1) ?_
  rintro v W1 W2 D ⟨p1, n1, c1, rfl, _⟩ hx hD hf nn
  refine ⟨_, _, _, _, _, _, p1, n1, c1, _, rfl, hx, D, hD, hf, fun H2 h2 hd2 b1 => ?_⟩
  have hE2 := hE1.mono h2
  refine Cl.fresh (k2 hE2) ?_
  rintro v W1 W2 D ⟨p2, n2, c2, q2, m2, d2, rfl, hT2, hE6⟩ hx hD hf nn
  refine ⟨_, _, _, _, _, _, p2, n2, c2, q2, m2, d2, _, rfl, hx, D, hD, hf, fun H3 h3 hd3 b2 => ?_⟩
  refine Cl.same (c_ladd 1 H3) fun _ _ hx => ⟨_, _, _, _, rfl, hx, ?_⟩
  refine Cl.same (c_lcall 43 1 2 1 ⟨2, 0, 0, 1⟩ H3) fun _ _ hx => ⟨_, _, _, _, _, _, _, _, _, rfl, hx, ?_⟩
  refine Cl.fresh (k6 (hT2.mono hd3) (hE6.mono hd3)) ?_
  rintro v W1 W2 D ⟨p4, n4, c4, q4, m4, d4, rfl, _, hE7⟩ hx hD hf nn
  refine ⟨_, _, _, _, _, _, p4, n4, c4, q4, m4, d4, _, _, rfl, hx, D, hD, hf, fun H4 h4 hd4 b3 => ?_⟩
  have hE4 := (hE2.mono h3).mono h4
  refine Cl.fresh (k3 hE4) ?_
  rintro v W1 W2 D ⟨p5, n5, c5, q5, m5, d5, rfl, _, _⟩ hx hD hf nn
  refine ⟨_, _, _, _, _, _, p5, n5, c5, q5, m5, d5, _, rfl, hx, D, hD, hf, fun H5 h5 hd5 b4 => ?_⟩
  refine Cl.fresh (c_lsome H5) ?_
  rintro v W1 W2 D ⟨p', rfl, hE'⟩ hx hD hf nn
  refine ⟨p', 10, 10, rfl, hx, D, hD, hf, fun H6 h6 hd6 => ?_⟩
  refine Cl.fresh (k4 (hE'.mono hd6)) ?_
  rintro v W1 W2 D ⟨p6, n6, c6, rfl, _⟩ hx hD hf nn
  refine ⟨_, _, _, _, _, _, p6, n6, c6, _, rfl, hx, D, hD, hf, fun H7 h7 hd7 b5 => ?_⟩
  refine ⟨fun _ => ⟨fun _ => ⟨fun _ => ⟨fun _ => ⟨fun _ => ⟨fun _ => ⟨fun _ => ⟨by omega, fun _ => ⟨fun _ => ⟨by omega, fun _ => ⟨fun _ => ⟨fun _ => ?_, fun h => absurd a9 h⟩, fun h => absurd ?_ h⟩⟩, fun h => absurd ?_ h⟩⟩, fun h => absurd a3 h⟩, fun h => absurd a1 h⟩, fun h => absurd a11 h⟩, fun h => absurd a6 h⟩, fun h => absurd a10 h⟩, fun h => absurd a5 h⟩, fun h => absurd a2 h⟩
  · exact Cl.same (k5 (((hE4.mono h5).mono h6).mono h7)) fun _ _ hx => ⟨_, rfl, hx, Rt.gv' rfl⟩
  · rw [hE7.len, a8]; rfl
  · rw [hE6.len, a4]; rfl
section
variable {H : Hp} {p q : Option Loc} {n c m d : Nat} {s : Sta} {l : List Ent}
theorem c_packTells (hT : Tab H p n c s.table) (hE : Ents H q m d l) : Gv Try.prog 9 #[logV s (vsl p n c) (vsl q m d)] H (vb true) := fun W hH => by
  refine x_packTells _ _ _ _ _ _ p n c q m d noM H W _ hH fun b0 => ?_
  refine Cl.fresh (c_packEnd hT hE) ?_
  rintro v W1 W2 D ⟨p1, n1, c1, rfl, hT1⟩ hx hD hf nn
  refine ⟨_, _, _, _, _, _, p1, n1, c1, _, rfl, hx, D, hD, hf, fun H1 h1 hd1 b1 => ?_⟩
  refine Cl.fresh (c_endOf (hT.mono h1) (hE.mono h1)) ?_
  rintro v W1 W2 D2 ⟨p2, n2, c2, rfl, hT2⟩ hx hD hf nn
  refine ⟨_, _, _, _, _, _, p2, n2, c2, _, rfl, hx, D2, hD, hf, fun H2 h2 hd2 b2 => ?_⟩
  refine Cl.same (c_packBegun H2) fun _ _ hx => ⟨_, rfl, hx, fun _ => ?_, fun h => absurd rfl h⟩
  refine Cl.same (c_packCheck ((hT.mono h1).mono h2) ((hE.mono h1).mono h2)) fun _ _ hx => ⟨_, rfl, hx, ?_⟩
  refine Cl.same (c_logErr ((hT.mono h1).mono h2) ((hE.mono h1).mono h2)) fun _ _ hx => ⟨_, rfl, hx, fun _ => ?_, fun h => absurd rfl h⟩
  exact Cl.same (c_sameOf ((hT1.mono hd1).mono h2) (hT2.mono hd2)) fun _ _ hx => ⟨_, rfl, hx, fun _ => Rt.gv' (by simp), fun h => absurd (decide_eq_true rfl) h⟩
theorem c_packCuts (hT : Tab H p n c s.table) (hE : Ents H q m d l) (x : Int) : Gv Try.prog 10 #[logV s (vsl p n c) (vsl q m d), vi x] H (vb true) := fun W hH => by
  refine x_packCuts _ _ _ _ _ _ p n c q m d x noM H W _ hH fun b0 => ?_
  refine Cl.fresh (c_packCut hT hE x) ?_
  rintro v W1 W2 D ⟨p1, n1, c1, q1, m1, d1, rfl, hT1, hE1⟩ hx hD hf nn
  refine ⟨_, _, _, _, _, _, p1, n1, c1, q1, m1, d1, _, rfl, hx, D, hD, hf, fun H1 h1 hd1 b1 => ?_⟩
  refine Cl.fresh (c_cutOf (hT.mono h1) (hE.mono h1) x) ?_
  rintro v W1 W2 D2 ⟨p2, n2, c2, q2, m2, d2, rfl, hT2, hE2⟩ hx hD hf nn
  refine ⟨_, _, _, _, _, _, p2, n2, c2, q2, m2, d2, _, rfl, hx, D2, hD, hf, fun H2 h2 hd2 b2 => ?_⟩
  refine Cl.same (c_packBegun H2) fun _ _ hx => ⟨_, rfl, hx, fun _ => ?_, fun h => absurd rfl h⟩
  exact Cl.same (c_sameLogs ((hT1.mono hd1).mono h2) ((hE1.mono hd1).mono h2) (hT2.mono hd2) (hE2.mono hd2)) fun _ _ hx => ⟨_, rfl, hx, fun _ => Rt.gv' (by simp), fun h => absurd (decide_eq_true ⟨rfl, rfl⟩) h⟩
theorem c_packPuts (hT : Tab H p n c s.table) (hE : Ents H q m d l) (e : Ent) (he : e.in64) : Gv Try.prog 11 #[logV s (vsl p n c) (vsl q m d), e.val] H (vb true) := fun W hH => by
  refine x_packPuts _ _ _ _ _ _ p n c q m d _ _ _ _ _ _ _ _ _ noM H W _ hH fun b0 b1 => ?_
  refine Cl.fresh (c_packPut hT hE he) ?_
  rintro v W1 W2 D ⟨p1, n1, c1, q1, m1, d1, rfl, hT1, hE1⟩ hx hD hf nn
  refine ⟨_, _, _, _, _, _, p1, n1, c1, q1, m1, d1, _, _, rfl, hx, D, hD, hf, fun H1 h1 hd1 b2 => ?_⟩
  refine Cl.fresh (c_rPackPut (hT.mono h1) (hE.mono h1) he) ?_
  rintro v W1 W2 D2 ⟨p2, n2, c2, q2, m2, d2, rfl, hT2, hE2⟩ hx hD hf nn
  refine ⟨_, _, _, _, _, _, p2, n2, c2, q2, m2, d2, _, _, rfl, hx, D2, hD, hf, fun H2 h2 hd2 b3 => ?_⟩
  refine Cl.same (c_packBegun H2) fun _ _ hx => ⟨_, rfl, hx, fun _ => ?_, fun h => absurd rfl h⟩
  exact Cl.same (c_sameLogs ((hT1.mono hd1).mono h2) ((hE1.mono hd1).mono h2) (hT2.mono hd2) (hE2.mono hd2)) fun _ _ hx => ⟨_, rfl, hx, fun _ => ⟨fun _ => Rt.gv' (by simp), fun h => absurd rfl h⟩, fun h => absurd (decide_eq_true ⟨rfl, rfl⟩) h⟩
/-- cut once, cut twice, put behind -/
theorem lCut_at (h : LogOk s l) {k : Nat} (hk : k ≤ l.length) : lCut s l k = (foldS s (l.take k), l.drop k, 0) := by
  rw [lCut_ok (logErr_ok.2 h) (by omega), Int.toNat_natCast]
theorem lEnd_at (h : LogOk s l) : lEnd s l = (foldS s l, 0) := lEnd_ok (logErr_ok.2 h)
theorem lCut_twice (h : LogOk s l) {k j : Nat} (hk : k + j ≤ l.length) : lCut (foldS s (l.take k)) (l.drop k) j = (foldS s (l.take (k + j)), l.drop (k + j), 0) := by
  obtain ⟨h1, _, _⟩ := h.cut (k := k) (by omega)
  rw [lCut_at h1 (by rw [List.length_drop]; omega), ← foldS_append, ← List.take_add, List.drop_drop]
theorem lPut_same (h : LogOk s l) {k : Nat} (hk : k ≤ l.length) (e : Ent) : (lPut (foldS s (l.take k)) (l.drop k) e).2.2 = (lPut s l e).2.2 := by
  obtain ⟨h1, h2, h3⟩ := h.cut hk
  have e0 := logErr_ok.2 h
  have e1 := logErr_ok.2 h1
  by_cases g1 : e.err = 0
  · by_cases g2 : s.pos + (l.length : Int) = 50
    · rw [lPut_many e0 g1 g2, lPut_many e1 g1 (by rw [h2, List.length_drop]; omega)]
    · rw [lPut_ok e0 g1 g2, lPut_ok e1 g1 (by rw [h2, List.length_drop]; omega), h3]
  · rw [lPut_ent e0 g1, lPut_ent e1 g1]
theorem c_packTrue (hT : Tab H p n c s.table) (hE : Ents H q m d l) (x y : Int) (hx : -9223372036854775808 ≤ x ∧ x ≤ 9223372036854775807) (hy : -9223372036854775808 ≤ y ∧ y ≤ 9223372036854775807) (e : Ent) (he : e.in64) :
    Gv Try.prog 12 #[logV s (vsl p n c) (vsl q m d), vi x, vi y, e.val] H (vb true) := fun W hH => by
  have hm := hE.len
  refine x_packTrue _ _ _ _ _ _ p n c q m d x y _ _ _ _ _ _ _ _ _ noM H W _ hH fun b0 b1 => ?_
  refine Cl.fresh (c_packEnd hT hE) ?_
  rintro v W1 W2 D ⟨p1, n1, c1, rfl, hT1⟩ hx1 hD hf nn
  refine ⟨_, _, _, _, _, _, p1, n1, c1, _, rfl, hx1, D, hD, hf, fun H1 h1 hd1 b2 => ⟨fun h0 => ?_, fun h0 => ?_⟩⟩
  · have ho : LogOk s l := by
      apply logErr_ok.1
      by_cases hh : logErr s l = 0
      · exact hh
      · rw [lEnd_bad hh] at h0; exact h0
    have hlow := ho.low
    refine ⟨by omega, fun _ => ⟨in64 (by omega), fun _ => ?_⟩⟩
    obtain ⟨k1, k2⟩ := choose_in x ((m : Int) + 1) (by omega)
    refine Cl.same (c_choose x ((m : Int) + 1) (by omega) hx H1) fun _ _ hx => ⟨_, rfl, hx, ?_⟩
    obtain ⟨k, hk⟩ : ∃ k : Nat, chooseI x ((m : Int) + 1) = k := ⟨(chooseI x ((m : Int) + 1)).toNat, by omega⟩
    rw [hk] at k1 k2 ⊢
    refine ⟨in64 (by omega), fun _ => ⟨in64 (by omega), fun _ => ?_⟩⟩
    obtain ⟨j1, j2⟩ := choose_in y ((m : Int) - (k : Int) + 1) (by omega)
    refine Cl.same (c_choose y ((m : Int) - (k : Int) + 1) (by omega) hy H1) fun _ _ hx => ⟨_, rfl, hx, ?_⟩
    obtain ⟨j, hj⟩ : ∃ j : Nat, chooseI y ((m : Int) - (k : Int) + 1) = j := ⟨(chooseI y ((m : Int) - (k : Int) + 1)).toNat, by omega⟩
    rw [hj] at j1 j2 ⊢
    obtain ⟨o1, _, o3⟩ := ho.cut (k := k) (by omega)
    have hT' := hT.mono h1
    have hE' := hE.mono h1
    refine Cl.fresh (c_packCut hT' hE' k) ?_
    rw [lCut_at ho (by omega)]
    rintro v W1 W2 D2 ⟨p2, n2, c2, q2, m2, d2, rfl, hT2, hE2⟩ hx hD2 hf2 nn2
    refine ⟨_, _, _, _, _, _, p2, n2, c2, q2, m2, d2, _, rfl, hx, D2, hD2, hf2, fun H2 h2 hd2 b3 => ?_⟩
    refine Cl.fresh (c_packCut (hT2.mono hd2) (hE2.mono hd2) j) ?_
    rw [lCut_twice ho (by omega)]
    rintro v W1 W2 D3 ⟨p3, n3, c3, q3, m3, d3, rfl, hT3, hE3⟩ hx hD3 hf3 nn3
    refine ⟨_, _, _, _, _, _, p3, n3, c3, q3, m3, d3, _, rfl, hx, D3, hD3, hf3, fun H3 h3 hd3 b4 => ⟨in64 (by omega), fun _ => ?_⟩⟩
    rw [show ((k : Int) + (j : Int)) = ((k + j : Nat) : Int) by omega]
    refine Cl.fresh (c_packCut ((hT'.mono h2).mono h3) ((hE'.mono h2).mono h3) ((k + j : Nat) : Int)) ?_
    rw [lCut_at ho (by omega)]
    rintro v W1 W2 D4 ⟨p4, n4, c4, q4, m4, d4, rfl, hT4, hE4⟩ hx hD4 hf4 nn4
    refine ⟨_, _, _, _, _, _, p4, n4, c4, q4, m4, d4, _, rfl, hx, D4, hD4, hf4, fun H4 h4 hd4 b5 => ?_⟩
    refine Cl.fresh (c_packEnd (((hT2.mono hd2).mono h3).mono h4) (((hE2.mono hd2).mono h3).mono h4)) ?_
    rw [lEnd_at o1, o3]
    rintro v W1 W2 D5 ⟨p5, n5, c5, rfl, hT5⟩ hx hD5 hf5 nn5
    refine ⟨_, _, _, _, _, _, p5, n5, c5, _, rfl, hx, D5, hD5, hf5, fun H5 h5 hd5 b6 => ?_⟩
    rw [lEnd_at ho] at hT1 ⊢
    refine ⟨fun _ => ⟨fun _ => ⟨fun _ => ⟨fun _ => ?_, fun h => absurd rfl h⟩, fun h => absurd rfl h⟩, fun h => absurd rfl h⟩, fun h => absurd rfl h⟩
    refine Cl.same (c_sameOf (((((hT1.mono hd1).mono h2).mono h3).mono h4).mono h5) (hT5.mono hd5)) fun _ _ hx => ⟨_, rfl, hx, fun _ => ?_, fun h => absurd (decide_eq_true rfl) h⟩
    refine Cl.same (c_sameLogs (((hT3.mono hd3).mono h4).mono h5) (((hE3.mono hd3).mono h4).mono h5) ((hT4.mono hd4).mono h5) ((hE4.mono hd4).mono h5)) fun _ _ hx => ⟨_, rfl, hx, fun _ => ?_, fun h => absurd (decide_eq_true ⟨rfl, rfl⟩) h⟩
    have hT2' := (((hT2.mono hd2).mono h3).mono h4).mono h5
    have hE2' := (((hE2.mono hd2).mono h3).mono h4).mono h5
    refine Cl.same (c_packCheck hT2' hE2') fun _ _ hx => ⟨_, rfl, hx, fun _ => ?_, fun h => absurd (logErr_ok.2 o1) h⟩
    refine Cl.fresh (c_packPut ((((hT'.mono h2).mono h3).mono h4).mono h5) ((((hE'.mono h2).mono h3).mono h4).mono h5) he) ?_
    rintro v W1 W2 D6 ⟨p6, n6, c6, q6, m6, d6, rfl, _, _⟩ hx hD6 hf6 nn6
    refine ⟨_, _, _, _, _, _, p6, n6, c6, q6, m6, d6, _, _, rfl, hx, D6, hD6, hf6, fun H6 h6 hd6 b7 => ?_⟩
    refine Cl.fresh (c_packPut (hT2'.mono h6) (hE2'.mono h6) he) ?_
    rintro v W1 W2 D7 ⟨p7, n7, c7, q7, m7, d7, rfl, _, _⟩ hx hD7 hf7 nn7
    refine ⟨_, _, _, _, _, _, p7, n7, c7, q7, m7, d7, _, _, rfl, hx, D7, hD7, hf7, fun H7 h7 hd7 b8 => ?_⟩
    rw [lPut_same ho (by omega)]
    exact Cl.same (c_packBegun H7) fun _ _ hx => ⟨_, rfl, hx, fun _ => ⟨fun _ => Rt.gv' (by simp), fun h => absurd rfl h⟩, fun h => absurd rfl h⟩
  · exact Cl.same (c_packBegun H1) fun _ _ hx => ⟨_, rfl, hx, Rt.gv⟩
theorem c_packAnswer (hE : Ents H q m d l) (hm20 : m ≤ 1048576) (x : Int) (hx : -9223372036854775808 ≤ x ∧ x ≤ 9223372036854775807) (e : Ent) (he : e.in64) :
    Gv Try.prog 13 #[vsl q m d, vi x, e.val] H (vb true) := fun W hH => by
  have hm := hE.len
  refine x_packAnswer q m d x _ _ _ _ _ _ _ _ _ noM H W _ hH fun b0 => ?_
  refine Cl.same (c_begin H) fun _ _ hx0 => ⟨_, _, _, _, _, _, none, 0, 0, rfl, Fr.none hx0 fun H1 h1 b1 => ?_⟩
  intro W1 n1 _
  have hE1 := hE.mono h1
  obtain ⟨p1, c1, g1, W2, H2, r1, t1, o1, g1n, h12⟩ := ek_clone (P := Try.prog) Try.underlying26 infoEnt (by omega) n1 (some (b1, 0)) hE1.2.2.1 (ones_E _) (by omega) (by simp only [maxLen]; omega) 26 (c := d)
  refine ⟨p1, m, c1, W2, r1, H2, t1, fun b2 => ?_⟩
  have hg1 : ∀ b, g1 = some b → W.heap.size ≤ b := fun b hb => Nat.le_trans n1.mod.size (g1n b hb)
  intro W3 n3 k3
  obtain ⟨p2, c2, g2, W4, H3, r2, u2, o2, hg2, _⟩ := run_append1 (P := Try.prog) Try.underlying26 infoEnt (by omega) n3.sub o1 (row := e.row) k3.1.eq k3.1.off rfl (ones_e e) (by simp only [maxLen]; omega) (by omega) 26
  have h13 : H1.le H3 := u2.keep n3.sub h12 (fun b hb => old_none n1.sub (g1n b hb))
  rw [show l.map Ent.row ++ [e.row] = (l ++ [e]).map Ent.row by simp] at o2
  have h64 : ∀ x ∈ l ++ [e], x.in64 := fun x hx => by
    rcases List.mem_append.1 hx with hx | hx
    · exact hE.2.2.2 x hx
    · simp only [List.mem_singleton] at hx; subst hx; exact he
  have hE2 := Ents.of_ow o2 h64
  have hll : (l ++ [e]).length = m + 1 := by simp; omega
  refine ⟨p2, m + 1, c2, W4, r2, H3, u2.own o1 (fun b hb => .inl (hg1 b hb)), ?_⟩
  refine Cl.fresh (c_foldAll (s := Sta.zero) (Tab.nil _ none) hE2) ?_
  rintro v W5 W6 D ⟨p3, n3, c3, pa, na, ca, ga, rfl, _, hO⟩ hx3 hD hf nn
  refine ⟨_, _, _, _, _, _, p3, n3, c3, pa, na, ca, _, rfl, hx3, D, hD, hf, fun H4 h4 hd4 b3 => ⟨fun h0 => ?_, fun h0 => ?_⟩⟩
  · obtain ⟨hs, hl, hp, heq⟩ := sAll_done h0
    have hI := (Ints.of_ow hO).mono hd4
    have hna := hI.len
    rw [heq, foldA_len, hll] at hna
    rw [hll] at hp
    have hp0 : Sta.zero.pos = 0 := rfl
    rw [hp0] at hp
    have hol : LogOk Sta.zero l := ⟨hs, fun x hx => hl x (List.mem_append_left _ hx), by rw [hp0]; omega⟩
    refine ⟨by omega, fun _ => ⟨by omega, fun _ => ⟨in64 (by omega), fun _ => ⟨fun _ => ?_, fun h => absurd (by omega) h⟩⟩⟩⟩
    obtain ⟨k1, k2⟩ := choose_in x ((m : Int) + 1) (by omega)
    refine Cl.same (c_choose x ((m : Int) + 1) (by omega) hx H4) fun _ _ hx => ⟨_, rfl, hx, ?_⟩
    obtain ⟨k, hk⟩ : ∃ k : Nat, chooseI x ((m : Int) + 1) = k := ⟨(chooseI x ((m : Int) + 1)).toNat, by omega⟩
    rw [hk] at k1 k2 ⊢
    obtain ⟨q1, q2, q3⟩ := hol.cut (k := k) (by omega)
    refine Cl.fresh (c_packCut (s := Sta.zero) (Tab.nil _ none) ((hE1.mono h13).mono h4) k) ?_
    rw [lCut_at hol (by omega)]
    rintro v W5 W6 D2 ⟨p4, n4, c4, q4, m4, d4, rfl, hT4, hE4⟩ hx4 hD2 hf2 nn2
    refine ⟨_, _, _, _, _, _, p4, n4, c4, q4, m4, d4, _, rfl, hx4, D2, hD2, hf2, fun H5 h5 hd5 b4 => ?_⟩
    refine Cl.fresh (c_packPut (hT4.mono hd5) (hE4.mono hd5) he) ?_
    rintro v W5 W6 D3 ⟨p5, n5, c5, q5, m5, d5, rfl, _, _⟩ hx5 hD3 hf3 nn3
    refine ⟨_, _, _, _, _, _, p5, n5, c5, q5, m5, d5, _, _, rfl, hx5, D3, hD3, hf3, fun H6 h6 hd6 b5 => ?_⟩
    rw [lPut_same hol (by omega), lPut_ok (logErr_ok.2 hol) (Ent.err_ok.2 (hl e (by simp))) (by rw [hp0]; omega)]
    refine Cl.same (c_packBegun H6) fun _ _ hx => ⟨_, rfl, hx, fun _ => ⟨fun _ => ⟨fun _ => ⟨⟨by omega, by omega⟩, fun _ => ?_⟩, fun h => absurd rfl h⟩, fun h => absurd rfl h⟩, fun h => absurd rfl h⟩
    obtain ⟨y, hy, hat⟩ := ((hI.mono h5).mono h6).at (k := m) (by omega)
    rw [heq] at hy
    simp only at hy
    rw [foldA_append, List.getElem?_append_right (by rw [foldA_len]; omega), foldA_len, hm, Nat.sub_self] at hy
    simp only [foldA, List.getElem?_cons_zero, Option.some.injEq] at hy
    subst hy
    exact ⟨hat.isSome, fun _ => ⟨_, hat, Rt.gv' (by simp)⟩⟩
  · exact Cl.same (c_packBegun H4) fun _ _ hx => ⟨_, rfl, hx, fun _ => Rt.gv' (by simp [h0]), fun h => absurd rfl h⟩
end
end Go.Proofs.Ytdihdcielchodaa
