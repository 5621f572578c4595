/- Symbolic runs of functions: what each leaves to prove is enough for its call. Printed by a program of ours. No conditions. The laws of package node: what each answers. No conditions. -/
import Derived.Test.YtgmgbfpoeclgiaaKE3
import Derived.Test.YtgmgbfpoeclgiaaProg
import Derived.Test.YtgmgbfpoeclgiaaKN1
set_option linter.unusedVariables false
set_option linter.unusedSimpArgs false
namespace Go.Proofs.Ytgmgbfpoeclgiaa
open Go.RowKit
set_option maxRecDepth 100000
set_option maxHeartbeats 4000000
def v_nodeBegun : VC :=
(.call 40 [] [] [(0, .p), (1, .n), (2, .n)] (.slO 0 (.k 0) (.v 1) (.v 2)) .fresh
(.call 39 [.agg [.int .i64 (.k 0), .int .i64 (.k 0), .int .i64 (.k 0), .int .i64 (.k 0), .int .i64 (.k 0), .int .i64 (.k 0), .c (Value.slice none 0 0), .slO 0 (.k 0) (.v 1) (.v 2)], .int .i64 (.k 6)] [] [(3, .i), (4, .i), (5, .i), (6, .i), (7, .i), (8, .i), (9, .p), (10, .n), (11, .n), (12, .p), (13, .n), (14, .n), (15, .i)] (.tup [.agg [.int .i64 (.v 3), .int .i64 (.v 4), .int .i64 (.v 5), .int .i64 (.v 6), .int .i64 (.v 7), .int .i64 (.v 8), .slO 9 (.k 0) (.v 10) (.v 11), .slO 12 (.k 0) (.v 13) (.v 14)], .int .i64 (.v 15)]) .fresh
(.all 0
(.call 28 [] [] [(16, .i), (17, .i), (18, .i), (19, .i), (20, .i), (21, .i), (22, .p), (23, .n), (24, .n)] (.agg [.int .i64 (.v 16), .int .i64 (.v 17), .int .i64 (.v 18), .int .i64 (.v 19), .int .i64 (.v 20), .int .i64 (.v 21), .slO 22 (.k 0) (.v 23) (.v 24)]) .fresh
(.call 9 [.agg [.int .i64 (.v 3), .int .i64 (.v 4), .int .i64 (.v 5), .int .i64 (.v 6), .int .i64 (.v 7), .int .i64 (.v 8), .slO 9 (.k 0) (.v 10) (.v 11), .slO 12 (.k 0) (.v 13) (.v 14)], .agg [.int .i64 (.v 16), .int .i64 (.v 17), .int .i64 (.v 18), .int .i64 (.v 19), .int .i64 (.v 20), .int .i64 (.v 21), .slO 22 (.k 0) (.v 23) (.v 24)]] [] [(25, .b), (26, .i)] (.tup [.bool (.v 25), .int .i64 (.v 26)]) .same
(.call 41 [] [] [(27, .i), (28, .i), (29, .i), (30, .i), (31, .i), (32, .i), (33, .p), (34, .n), (35, .n)] (.agg [.int .i64 (.v 27), .int .i64 (.v 28), .int .i64 (.v 29), .int .i64 (.v 30), .int .i64 (.v 31), .int .i64 (.v 32), .slO 33 (.k 0) (.v 34) (.v 35)]) .fresh
(.call 9 [.agg [.int .i64 (.v 3), .int .i64 (.v 4), .int .i64 (.v 5), .int .i64 (.v 6), .int .i64 (.v 7), .int .i64 (.v 8), .slO 9 (.k 0) (.v 10) (.v 11), .slO 12 (.k 0) (.v 13) (.v 14)], .agg [.int .i64 (.v 27), .int .i64 (.v 28), .int .i64 (.v 29), .int .i64 (.v 30), .int .i64 (.v 31), .int .i64 (.v 32), .slO 33 (.k 0) (.v 34) (.v 35)]] [] [(36, .b), (37, .i)] (.tup [.bool (.v 36), .int .i64 (.v 37)]) .same
(.call 28 [] [] [(38, .i), (39, .i), (40, .i), (41, .i), (42, .i), (43, .i), (44, .p), (45, .n), (46, .n)] (.agg [.int .i64 (.v 38), .int .i64 (.v 39), .int .i64 (.v 40), .int .i64 (.v 41), .int .i64 (.v 42), .int .i64 (.v 43), .slO 44 (.k 0) (.v 45) (.v 46)]) .fresh
(.call 10 [.agg [.int .i64 (.v 3), .int .i64 (.v 4), .int .i64 (.v 5), .int .i64 (.v 6), .int .i64 (.v 7), .int .i64 (.v 8), .slO 9 (.k 0) (.v 10) (.v 11), .slO 12 (.k 0) (.v 13) (.v 14)], .agg [.int .i64 (.v 38), .int .i64 (.v 39), .int .i64 (.v 40), .int .i64 (.v 41), .int .i64 (.v 42), .int .i64 (.v 43), .slO 44 (.k 0) (.v 45) (.v 46)], .int .i64 (.k 2)] [] [(47, .i), (48, .i), (49, .i), (50, .i), (51, .i), (52, .i), (53, .p), (54, .n), (55, .n), (56, .i), (57, .i)] (.tup [.agg [.int .i64 (.v 47), .int .i64 (.v 48), .int .i64 (.v 49), .int .i64 (.v 50), .int .i64 (.v 51), .int .i64 (.v 52), .slO 53 (.k 0) (.v 54) (.v 55)], .int .i64 (.v 56), .int .i64 (.v 57)]) .fresh
(.all 1
(.call 41 [] [] [(58, .i), (59, .i), (60, .i), (61, .i), (62, .i), (63, .i), (64, .p), (65, .n), (66, .n)] (.agg [.int .i64 (.v 58), .int .i64 (.v 59), .int .i64 (.v 60), .int .i64 (.v 61), .int .i64 (.v 62), .int .i64 (.v 63), .slO 64 (.k 0) (.v 65) (.v 66)]) .fresh
(.call 10 [.agg [.int .i64 (.v 3), .int .i64 (.v 4), .int .i64 (.v 5), .int .i64 (.v 6), .int .i64 (.v 7), .int .i64 (.v 8), .slO 9 (.k 0) (.v 10) (.v 11), .slO 12 (.k 0) (.v 13) (.v 14)], .agg [.int .i64 (.v 58), .int .i64 (.v 59), .int .i64 (.v 60), .int .i64 (.v 61), .int .i64 (.v 62), .int .i64 (.v 63), .slO 64 (.k 0) (.v 65) (.v 66)], .int .i64 (.k 2)] [] [(67, .i), (68, .i), (69, .i), (70, .i), (71, .i), (72, .i), (73, .p), (74, .n), (75, .n), (76, .i), (77, .i)] (.tup [.agg [.int .i64 (.v 67), .int .i64 (.v 68), .int .i64 (.v 69), .int .i64 (.v 70), .int .i64 (.v 71), .int .i64 (.v 72), .slO 73 (.k 0) (.v 74) (.v 75)], .int .i64 (.v 76), .int .i64 (.v 77)]) .fresh
(.all 2
(.call 10 [.agg [.int .i64 (.v 3), .int .i64 (.v 4), .int .i64 (.v 5), .int .i64 (.v 6), .int .i64 (.v 7), .int .i64 (.v 8), .slO 9 (.k 0) (.v 10) (.v 11), .slO 12 (.k 0) (.v 13) (.v 14)], .agg [.int .i64 (.v 47), .int .i64 (.v 48), .int .i64 (.v 49), .int .i64 (.v 50), .int .i64 (.v 51), .int .i64 (.v 52), .slO 53 (.k 0) (.v 54) (.v 55)], .int .i64 (.k 50)] [] [(78, .i), (79, .i), (80, .i), (81, .i), (82, .i), (83, .i), (84, .p), (85, .n), (86, .n), (87, .i), (88, .i)] (.tup [.agg [.int .i64 (.v 78), .int .i64 (.v 79), .int .i64 (.v 80), .int .i64 (.v 81), .int .i64 (.v 82), .int .i64 (.v 83), .slO 84 (.k 0) (.v 85) (.v 86)], .int .i64 (.v 87), .int .i64 (.v 88)]) .fresh
(.all 3
(.ite (.eq (.v 26) (.k 0))
(.ite (.eq (.v 37) (.k 0))
(.ite (.eq (.v 57) (.k 0))
(.ite (.eq (.v 77) (.k 1))
(.ite (.eq (.v 88) (.k 0))
(.ite (.v 25)
(.ite (.v 36)
(.ret (.bool (.k false)) [])
(.ite (.eq (.v 56) (.k 2))
(.ite (.eq (.v 47) (.k 8))
(.ite (.eq (.v 87) (.k 2))
(.ite (.eq (.v 78) (.k 10))
(.ret (.bool (.eq (.v 80) (.k 12))) [])
(.ret (.bool (.k false)) []))
(.ret (.bool (.k false)) []))
(.ret (.bool (.k false)) []))
(.ret (.bool (.k false)) [])))
(.ret (.bool (.k false)) []))
(.ret (.bool (.k false)) []))
(.ret (.bool (.k false)) []))
(.ret (.bool (.k false)) []))
(.ret (.bool (.k false)) []))
(.ret (.bool (.k false)) [])))))))))))))))))
theorem x_nodeBegun (M : Nat → Prop) (H0 : Hp) (W0 : World) (R : Ending → World → Prop) (hH : H0.le (hpOf W0)) (h :
 (Cl Try.prog W0 M H0 nK 40 #[] fun z W1 W2 => ∃ x0 : Option Loc, ∃ x1 : Nat, ∃ x2 : Nat, z = .returned (vsl x0 x1 x2) ∧ Fr W1 W2 H0 fun H1 =>
 (Cl Try.prog W0 M H1 nK 39 #[Value.agg #[vi 0, vi 0, vi 0, vi 0, vi 0, vi 0, Value.slice none 0 0, vsl x0 x1 x2], vi 6] fun z W3 W4 => ∃ x3 : Int, ∃ x4 : Int, ∃ x5 : Int, ∃ x6 : Int, ∃ x7 : Int, ∃ x8 : Int, ∃ x9 : Option Loc, ∃ x10 : Nat, ∃ x11 : Nat, ∃ x12 : Option Loc, ∃ x13 : Nat, ∃ x14 : Nat, ∃ x15 : Int, z = .returned (Value.tuple #[Value.agg #[vi x3, vi x4, vi x5, vi x6, vi x7, vi x8, vsl x9 x10 x11, vsl x12 x13 x14], vi x15]) ∧ Fr W3 W4 H1 fun H2 =>
 (∀ b0 : Nat,
 (Cl Try.prog W0 M H2 nK 28 #[] fun z W5 W6 => ∃ x16 : Int, ∃ x17 : Int, ∃ x18 : Int, ∃ x19 : Int, ∃ x20 : Int, ∃ x21 : Int, ∃ x22 : Option Loc, ∃ x23 : Nat, ∃ x24 : Nat, z = .returned (Value.agg #[vi x16, vi x17, vi x18, vi x19, vi x20, vi x21, vsl x22 x23 x24]) ∧ Fr W5 W6 H2 fun H3 =>
 (Cl Try.prog W0 M H3 nK 9 #[Value.agg #[vi x3, vi x4, vi x5, vi x6, vi x7, vi x8, vsl x9 x10 x11, vsl x12 x13 x14], Value.agg #[vi x16, vi x17, vi x18, vi x19, vi x20, vi x21, vsl x22 x23 x24]] fun z W7 W8 => ∃ x25 : Bool, ∃ x26 : Int, z = .returned (Value.tuple #[vb (x25), vi x26]) ∧ Ext W7 W8 ∧
 (Cl Try.prog W0 M H3 nK 41 #[] fun z W9 W10 => ∃ x27 : Int, ∃ x28 : Int, ∃ x29 : Int, ∃ x30 : Int, ∃ x31 : Int, ∃ x32 : Int, ∃ x33 : Option Loc, ∃ x34 : Nat, ∃ x35 : Nat, z = .returned (Value.agg #[vi x27, vi x28, vi x29, vi x30, vi x31, vi x32, vsl x33 x34 x35]) ∧ Fr W9 W10 H3 fun H4 =>
 (Cl Try.prog W0 M H4 nK 9 #[Value.agg #[vi x3, vi x4, vi x5, vi x6, vi x7, vi x8, vsl x9 x10 x11, vsl x12 x13 x14], Value.agg #[vi x27, vi x28, vi x29, vi x30, vi x31, vi x32, vsl x33 x34 x35]] fun z W11 W12 => ∃ x36 : Bool, ∃ x37 : Int, z = .returned (Value.tuple #[vb (x36), vi x37]) ∧ Ext W11 W12 ∧
 (Cl Try.prog W0 M H4 nK 28 #[] fun z W13 W14 => ∃ x38 : Int, ∃ x39 : Int, ∃ x40 : Int, ∃ x41 : Int, ∃ x42 : Int, ∃ x43 : Int, ∃ x44 : Option Loc, ∃ x45 : Nat, ∃ x46 : Nat, z = .returned (Value.agg #[vi x38, vi x39, vi x40, vi x41, vi x42, vi x43, vsl x44 x45 x46]) ∧ Fr W13 W14 H4 fun H5 =>
 (Cl Try.prog W0 M H5 nK 10 #[Value.agg #[vi x3, vi x4, vi x5, vi x6, vi x7, vi x8, vsl x9 x10 x11, vsl x12 x13 x14], Value.agg #[vi x38, vi x39, vi x40, vi x41, vi x42, vi x43, vsl x44 x45 x46], vi 2] fun z W15 W16 => ∃ x47 : Int, ∃ x48 : Int, ∃ x49 : Int, ∃ x50 : Int, ∃ x51 : Int, ∃ x52 : Int, ∃ x53 : Option Loc, ∃ x54 : Nat, ∃ x55 : Nat, ∃ x56 : Int, ∃ x57 : Int, z = .returned (Value.tuple #[Value.agg #[vi x47, vi x48, vi x49, vi x50, vi x51, vi x52, vsl x53 x54 x55], vi x56, vi x57]) ∧ Fr W15 W16 H5 fun H6 =>
 (∀ b1 : Nat,
 (Cl Try.prog W0 M H6 nK 41 #[] fun z W17 W18 => ∃ x58 : Int, ∃ x59 : Int, ∃ x60 : Int, ∃ x61 : Int, ∃ x62 : Int, ∃ x63 : Int, ∃ x64 : Option Loc, ∃ x65 : Nat, ∃ x66 : Nat, z = .returned (Value.agg #[vi x58, vi x59, vi x60, vi x61, vi x62, vi x63, vsl x64 x65 x66]) ∧ Fr W17 W18 H6 fun H7 =>
 (Cl Try.prog W0 M H7 nK 10 #[Value.agg #[vi x3, vi x4, vi x5, vi x6, vi x7, vi x8, vsl x9 x10 x11, vsl x12 x13 x14], Value.agg #[vi x58, vi x59, vi x60, vi x61, vi x62, vi x63, vsl x64 x65 x66], vi 2] fun z W19 W20 => ∃ x67 : Int, ∃ x68 : Int, ∃ x69 : Int, ∃ x70 : Int, ∃ x71 : Int, ∃ x72 : Int, ∃ x73 : Option Loc, ∃ x74 : Nat, ∃ x75 : Nat, ∃ x76 : Int, ∃ x77 : Int, z = .returned (Value.tuple #[Value.agg #[vi x67, vi x68, vi x69, vi x70, vi x71, vi x72, vsl x73 x74 x75], vi x76, vi x77]) ∧ Fr W19 W20 H7 fun H8 =>
 (∀ b2 : Nat,
 (Cl Try.prog W0 M H8 nK 10 #[Value.agg #[vi x3, vi x4, vi x5, vi x6, vi x7, vi x8, vsl x9 x10 x11, vsl x12 x13 x14], Value.agg #[vi x47, vi x48, vi x49, vi x50, vi x51, vi x52, vsl x53 x54 x55], vi 50] fun z W21 W22 => ∃ x78 : Int, ∃ x79 : Int, ∃ x80 : Int, ∃ x81 : Int, ∃ x82 : Int, ∃ x83 : Int, ∃ x84 : Option Loc, ∃ x85 : Nat, ∃ x86 : Nat, ∃ x87 : Int, ∃ x88 : Int, z = .returned (Value.tuple #[Value.agg #[vi x78, vi x79, vi x80, vi x81, vi x82, vi x83, vsl x84 x85 x86], vi x87, vi x88]) ∧ Fr W21 W22 H8 fun H9 =>
 (∀ b3 : Nat,
 ((x26 = 0 →
  ((x37 = 0 →
   ((x57 = 0 →
    ((x77 = 1 →
     ((x88 = 0 →
      ((x25 = true →
       ((x36 = true →
        Rt R W0 M H9 nK (vb (false))) ∧
       (¬ (x36 = true) →
        ((x56 = 2 →
         ((x47 = 8 →
          ((x87 = 2 →
           ((x78 = 10 →
            Rt R W0 M H9 nK (vb (decide (x80 = 12)))) ∧
           (¬ (x78 = 10) →
            Rt R W0 M H9 nK (vb (false))))) ∧
          (¬ (x87 = 2) →
           Rt R W0 M H9 nK (vb (false))))) ∧
         (¬ (x47 = 8) →
          Rt R W0 M H9 nK (vb (false))))) ∧
        (¬ (x56 = 2) →
         Rt R W0 M H9 nK (vb (false))))))) ∧
      (¬ (x25 = true) →
       Rt R W0 M H9 nK (vb (false))))) ∧
     (¬ (x88 = 0) →
      Rt R W0 M H9 nK (vb (false))))) ∧
    (¬ (x77 = 1) →
     Rt R W0 M H9 nK (vb (false))))) ∧
   (¬ (x57 = 0) →
    Rt R W0 M H9 nK (vb (false))))) ∧
  (¬ (x37 = 0) →
   Rt R W0 M H9 nK (vb (false))))) ∧
 (¬ (x26 = 0) →
  Rt R W0 M H9 nK (vb (false)))))))))))))))))))) :
  Calls Try.prog 13 #[] W0 R :=
  calls_sxA (M := M) (V := v_nodeBegun) (hi := {}) (args := []) (nv := 0) (e := (fun _ => .i 0)) Try.func13 hH h (by kernel_rfl) (by kernel_rfl) (by kernel_rfl)
def v_nodeTells : VC :=
(.all 0
(.all 1
(.call 9 [.agg [.int .i64 (.v 0), .int .i64 (.v 1), .int .i64 (.v 2), .int .i64 (.v 3), .int .i64 (.v 4), .int .i64 (.v 5), .slO 6 (.k 0) (.v 7) (.v 8), .slO 9 (.k 0) (.v 10) (.v 11)], .agg [.int .i64 (.v 12), .int .i64 (.v 13), .int .i64 (.v 14), .int .i64 (.v 15), .int .i64 (.v 16), .int .i64 (.v 17), .slO 18 (.k 0) (.v 19) (.v 20)]] [] [(22, .b), (23, .i)] (.tup [.bool (.v 22), .int .i64 (.v 23)]) .same
(.call 10 [.agg [.int .i64 (.v 0), .int .i64 (.v 1), .int .i64 (.v 2), .int .i64 (.v 3), .int .i64 (.v 4), .int .i64 (.v 5), .slO 6 (.k 0) (.v 7) (.v 8), .slO 9 (.k 0) (.v 10) (.v 11)], .agg [.int .i64 (.v 12), .int .i64 (.v 13), .int .i64 (.v 14), .int .i64 (.v 15), .int .i64 (.v 16), .int .i64 (.v 17), .slO 18 (.k 0) (.v 19) (.v 20)], .int .i64 (.v 21)] [] [(24, .i), (25, .i), (26, .i), (27, .i), (28, .i), (29, .i), (30, .p), (31, .n), (32, .n), (33, .i), (34, .i)] (.tup [.agg [.int .i64 (.v 24), .int .i64 (.v 25), .int .i64 (.v 26), .int .i64 (.v 27), .int .i64 (.v 28), .int .i64 (.v 29), .slO 30 (.k 0) (.v 31) (.v 32)], .int .i64 (.v 33), .int .i64 (.v 34)]) .fresh
(.all 2
(.call 11 [.agg [.int .i64 (.v 0), .int .i64 (.v 1), .int .i64 (.v 2), .int .i64 (.v 3), .int .i64 (.v 4), .int .i64 (.v 5), .slO 6 (.k 0) (.v 7) (.v 8), .slO 9 (.k 0) (.v 10) (.v 11)], .agg [.int .i64 (.v 12), .int .i64 (.v 13), .int .i64 (.v 14), .int .i64 (.v 15), .int .i64 (.v 16), .int .i64 (.v 17), .slO 18 (.k 0) (.v 19) (.v 20)]] [] [(35, .b), (36, .i)] (.tup [.bool (.v 35), .int .i64 (.v 36)]) .same
(.call 12 [.agg [.int .i64 (.v 0), .int .i64 (.v 1), .int .i64 (.v 2), .int .i64 (.v 3), .int .i64 (.v 4), .int .i64 (.v 5), .slO 6 (.k 0) (.v 7) (.v 8), .slO 9 (.k 0) (.v 10) (.v 11)], .agg [.int .i64 (.v 12), .int .i64 (.v 13), .int .i64 (.v 14), .int .i64 (.v 15), .int .i64 (.v 16), .int .i64 (.v 17), .slO 18 (.k 0) (.v 19) (.v 20)], .int .i64 (.v 21)] [] [(37, .i), (38, .i), (39, .i), (40, .i), (41, .i), (42, .i), (43, .p), (44, .n), (45, .n), (46, .i), (47, .i)] (.tup [.agg [.int .i64 (.v 37), .int .i64 (.v 38), .int .i64 (.v 39), .int .i64 (.v 40), .int .i64 (.v 41), .int .i64 (.v 42), .slO 43 (.k 0) (.v 44) (.v 45)], .int .i64 (.v 46), .int .i64 (.v 47)]) .fresh
(.all 3
(.call 13 [] [] [(48, .b)] (.bool (.v 48)) .same
(.ite (.v 48)
(.esc (.bop .eql 4 (.tmp 47) (.tmp 48)) [.bool (.v 22), .bool (.v 35)] [] [(49, .b)] (some (.bool (.v 49))) .same
(.ite (.v 49)
(.ite (.eq (.v 23) (.v 36))
(.call 14 [.agg [.int .i64 (.v 24), .int .i64 (.v 25), .int .i64 (.v 26), .int .i64 (.v 27), .int .i64 (.v 28), .int .i64 (.v 29), .slO 30 (.k 0) (.v 31) (.v 32)], .agg [.int .i64 (.v 37), .int .i64 (.v 38), .int .i64 (.v 39), .int .i64 (.v 40), .int .i64 (.v 41), .int .i64 (.v 42), .slO 43 (.k 0) (.v 44) (.v 45)]] [] [(50, .b)] (.bool (.v 50)) .same
(.ite (.v 50)
(.ite (.eq (.v 33) (.v 46))
(.ret (.bool (.eq (.v 34) (.v 47))) [])
(.ret (.bool (.k false)) []))
(.ret (.bool (.k false)) [])))
(.ret (.bool (.k false)) []))
(.ret (.bool (.k false)) [])))
(.ret (.bool (.k false)) [])))))))))))
theorem x_nodeTells (x0 : Int) (x1 : Int) (x2 : Int) (x3 : Int) (x4 : Int) (x5 : Int) (x6 : Option Loc) (x7 : Nat) (x8 : Nat) (x9 : Option Loc) (x10 : Nat) (x11 : Nat) (x12 : Int) (x13 : Int) (x14 : Int) (x15 : Int) (x16 : Int) (x17 : Int) (x18 : Option Loc) (x19 : Nat) (x20 : Nat) (x21 : Int) (M : Nat → Prop) (H0 : Hp) (W0 : World) (R : Ending → World → Prop) (hH : H0.le (hpOf W0)) (h :
 (∀ b0 : Nat,
 (∀ b1 : Nat,
 (Cl Try.prog W0 M H0 nK 9 #[Value.agg #[vi x0, vi x1, vi x2, vi x3, vi x4, vi x5, vsl x6 x7 x8, vsl x9 x10 x11], Value.agg #[vi x12, vi x13, vi x14, vi x15, vi x16, vi x17, vsl x18 x19 x20]] fun z W1 W2 => ∃ x22 : Bool, ∃ x23 : Int, z = .returned (Value.tuple #[vb (x22), vi x23]) ∧ Ext W1 W2 ∧
 (Cl Try.prog W0 M H0 nK 10 #[Value.agg #[vi x0, vi x1, vi x2, vi x3, vi x4, vi x5, vsl x6 x7 x8, vsl x9 x10 x11], Value.agg #[vi x12, vi x13, vi x14, vi x15, vi x16, vi x17, vsl x18 x19 x20], vi x21] fun z W3 W4 => ∃ x24 : Int, ∃ x25 : Int, ∃ x26 : Int, ∃ x27 : Int, ∃ x28 : Int, ∃ x29 : Int, ∃ x30 : Option Loc, ∃ x31 : Nat, ∃ x32 : Nat, ∃ x33 : Int, ∃ x34 : Int, z = .returned (Value.tuple #[Value.agg #[vi x24, vi x25, vi x26, vi x27, vi x28, vi x29, vsl x30 x31 x32], vi x33, vi x34]) ∧ Fr W3 W4 H0 fun H1 =>
 (∀ b2 : Nat,
 (Cl Try.prog W0 M H1 nK 11 #[Value.agg #[vi x0, vi x1, vi x2, vi x3, vi x4, vi x5, vsl x6 x7 x8, vsl x9 x10 x11], Value.agg #[vi x12, vi x13, vi x14, vi x15, vi x16, vi x17, vsl x18 x19 x20]] fun z W5 W6 => ∃ x35 : Bool, ∃ x36 : Int, z = .returned (Value.tuple #[vb (x35), vi x36]) ∧ Ext W5 W6 ∧
 (Cl Try.prog W0 M H1 nK 12 #[Value.agg #[vi x0, vi x1, vi x2, vi x3, vi x4, vi x5, vsl x6 x7 x8, vsl x9 x10 x11], Value.agg #[vi x12, vi x13, vi x14, vi x15, vi x16, vi x17, vsl x18 x19 x20], vi x21] fun z W7 W8 => ∃ x37 : Int, ∃ x38 : Int, ∃ x39 : Int, ∃ x40 : Int, ∃ x41 : Int, ∃ x42 : Int, ∃ x43 : Option Loc, ∃ x44 : Nat, ∃ x45 : Nat, ∃ x46 : Int, ∃ x47 : Int, z = .returned (Value.tuple #[Value.agg #[vi x37, vi x38, vi x39, vi x40, vi x41, vi x42, vsl x43 x44 x45], vi x46, vi x47]) ∧ Fr W7 W8 H1 fun H2 =>
 (∀ b3 : Nat,
 (Cl Try.prog W0 M H2 nK 13 #[] fun z W9 W10 => ∃ x48 : Bool, z = .returned (vb (x48)) ∧ Ext W9 W10 ∧
 ((x48 = true →
  (Es W0 M H2 nK fun W11 => ∃ x49 : Bool, Eo Try.prog (.bop .eql 4 (.tmp 47) (.tmp 48)) [vb (x22), vb (x35)] W11 (.value (vb (x49))) fun W12 => Ext W11 W12 ∧
  ((x49 = true →
   ((x23 = x36 →
    (Cl Try.prog W0 M H2 nK 14 #[Value.agg #[vi x24, vi x25, vi x26, vi x27, vi x28, vi x29, vsl x30 x31 x32], Value.agg #[vi x37, vi x38, vi x39, vi x40, vi x41, vi x42, vsl x43 x44 x45]] fun z W13 W14 => ∃ x50 : Bool, z = .returned (vb (x50)) ∧ Ext W13 W14 ∧
    ((x50 = true →
     ((x33 = x46 →
      Rt R W0 M H2 nK (vb (decide (x34 = x47)))) ∧
     (¬ (x33 = x46) →
      Rt R W0 M H2 nK (vb (false))))) ∧
    (¬ (x50 = true) →
     Rt R W0 M H2 nK (vb (false)))))) ∧
   (¬ (x23 = x36) →
    Rt R W0 M H2 nK (vb (false))))) ∧
  (¬ (x49 = true) →
   Rt R W0 M H2 nK (vb (false)))))) ∧
 (¬ (x48 = true) →
  Rt R W0 M H2 nK (vb (false)))))))))))))) :
  Calls Try.prog 3 #[Value.agg #[vi x0, vi x1, vi x2, vi x3, vi x4, vi x5, vsl x6 x7 x8, vsl x9 x10 x11], Value.agg #[vi x12, vi x13, vi x14, vi x15, vi x16, vi x17, vsl x18 x19 x20], vi x21] W0 R :=
  calls_sxA (M := M) (V := v_nodeTells) (hi := {}) (args := [.agg [.int .i64 (.v 0), .int .i64 (.v 1), .int .i64 (.v 2), .int .i64 (.v 3), .int .i64 (.v 4), .int .i64 (.v 5), .slO 6 (.k 0) (.v 7) (.v 8), .slO 9 (.k 0) (.v 10) (.v 11)], .agg [.int .i64 (.v 12), .int .i64 (.v 13), .int .i64 (.v 14), .int .i64 (.v 15), .int .i64 (.v 16), .int .i64 (.v 17), .slO 18 (.k 0) (.v 19) (.v 20)], .int .i64 (.v 21)]) (nv := 22) (e := (upd (upd (upd (upd (upd (upd (upd (upd (upd (upd (upd (upd (upd (upd (upd (upd (upd (upd (upd (upd (upd (upd (fun _ => .i 0) 0 (.i x0)) 1 (.i x1)) 2 (.i x2)) 3 (.i x3)) 4 (.i x4)) 5 (.i x5)) 6 (.p x6)) 7 (.n x7)) 8 (.n x8)) 9 (.p x9)) 10 (.n x10)) 11 (.n x11)) 12 (.i x12)) 13 (.i x13)) 14 (.i x14)) 15 (.i x15)) 16 (.i x16)) 17 (.i x17)) 18 (.p x18)) 19 (.n x19)) 20 (.n x20)) 21 (.i x21))) Try.func3 hH h (by kernel_rfl) (by kernel_rfl) (by kernel_rfl)
def v_nodeTrue : VC :=
(.all 0
(.all 1
(.call 9 [.agg [.int .i64 (.v 0), .int .i64 (.v 1), .int .i64 (.v 2), .int .i64 (.v 3), .int .i64 (.v 4), .int .i64 (.v 5), .slO 6 (.k 0) (.v 7) (.v 8), .slO 9 (.k 0) (.v 10) (.v 11)], .agg [.int .i64 (.v 12), .int .i64 (.v 13), .int .i64 (.v 14), .int .i64 (.v 15), .int .i64 (.v 16), .int .i64 (.v 17), .slO 18 (.k 0) (.v 19) (.v 20)]] [] [(22, .b), (23, .i)] (.tup [.bool (.v 22), .int .i64 (.v 23)]) .same
(.call 15 [.agg [.int .i64 (.v 0), .int .i64 (.v 1), .int .i64 (.v 2), .int .i64 (.v 3), .int .i64 (.v 4), .int .i64 (.v 5), .slO 6 (.k 0) (.v 7) (.v 8), .slO 9 (.k 0) (.v 10) (.v 11)]] [] [(24, .i), (25, .i), (26, .i), (27, .i), (28, .i), (29, .i), (30, .p), (31, .n), (32, .n), (33, .i)] (.tup [.agg [.int .i64 (.v 24), .int .i64 (.v 25), .int .i64 (.v 26), .int .i64 (.v 27), .int .i64 (.v 28), .int .i64 (.v 29), .slO 30 (.k 0) (.v 31) (.v 32)], .int .i64 (.v 33)]) .fresh
(.all 2
(.ite (.eq (.v 23) (.k 0))
(.ite (.eq (.v 33) (.k 0))
(.ite (.v 22)
(.call 16 [.int .i64 (.v 21), .int .i64 (.k 51)] [] [(34, .i)] (.int .i64 (.v 34)) .same
(.call 10 [.agg [.int .i64 (.v 0), .int .i64 (.v 1), .int .i64 (.v 2), .int .i64 (.v 3), .int .i64 (.v 4), .int .i64 (.v 5), .slO 6 (.k 0) (.v 7) (.v 8), .slO 9 (.k 0) (.v 10) (.v 11)], .agg [.int .i64 (.v 12), .int .i64 (.v 13), .int .i64 (.v 14), .int .i64 (.v 15), .int .i64 (.v 16), .int .i64 (.v 17), .slO 18 (.k 0) (.v 19) (.v 20)], .int .i64 (.v 34)] [] [(35, .i), (36, .i), (37, .i), (38, .i), (39, .i), (40, .i), (41, .p), (42, .n), (43, .n), (44, .i), (45, .i)] (.tup [.agg [.int .i64 (.v 35), .int .i64 (.v 36), .int .i64 (.v 37), .int .i64 (.v 38), .int .i64 (.v 39), .int .i64 (.v 40), .slO 41 (.k 0) (.v 42) (.v 43)], .int .i64 (.v 44), .int .i64 (.v 45)]) .fresh
(.all 3
(.call 9 [.agg [.int .i64 (.v 0), .int .i64 (.v 1), .int .i64 (.v 2), .int .i64 (.v 3), .int .i64 (.v 4), .int .i64 (.v 5), .slO 6 (.k 0) (.v 7) (.v 8), .slO 9 (.k 0) (.v 10) (.v 11)], .agg [.int .i64 (.v 35), .int .i64 (.v 36), .int .i64 (.v 37), .int .i64 (.v 38), .int .i64 (.v 39), .int .i64 (.v 40), .slO 41 (.k 0) (.v 42) (.v 43)]] [] [(46, .b), (47, .i)] (.tup [.bool (.v 46), .int .i64 (.v 47)]) .same
(.call 10 [.agg [.int .i64 (.v 0), .int .i64 (.v 1), .int .i64 (.v 2), .int .i64 (.v 3), .int .i64 (.v 4), .int .i64 (.v 5), .slO 6 (.k 0) (.v 7) (.v 8), .slO 9 (.k 0) (.v 10) (.v 11)], .agg [.int .i64 (.v 35), .int .i64 (.v 36), .int .i64 (.v 37), .int .i64 (.v 38), .int .i64 (.v 39), .int .i64 (.v 40), .slO 41 (.k 0) (.v 42) (.v 43)], .int .i64 (.k 50)] [] [(48, .i), (49, .i), (50, .i), (51, .i), (52, .i), (53, .i), (54, .p), (55, .n), (56, .n), (57, .i), (58, .i)] (.tup [.agg [.int .i64 (.v 48), .int .i64 (.v 49), .int .i64 (.v 50), .int .i64 (.v 51), .int .i64 (.v 52), .int .i64 (.v 53), .slO 54 (.k 0) (.v 55) (.v 56)], .int .i64 (.v 57), .int .i64 (.v 58)]) .fresh
(.all 4
(.call 10 [.agg [.int .i64 (.v 0), .int .i64 (.v 1), .int .i64 (.v 2), .int .i64 (.v 3), .int .i64 (.v 4), .int .i64 (.v 5), .slO 6 (.k 0) (.v 7) (.v 8), .slO 9 (.k 0) (.v 10) (.v 11)], .agg [.int .i64 (.v 12), .int .i64 (.v 13), .int .i64 (.v 14), .int .i64 (.v 15), .int .i64 (.v 16), .int .i64 (.v 17), .slO 18 (.k 0) (.v 19) (.v 20)], .int .i64 (.k 50)] [] [(59, .i), (60, .i), (61, .i), (62, .i), (63, .i), (64, .i), (65, .p), (66, .n), (67, .n), (68, .i), (69, .i)] (.tup [.agg [.int .i64 (.v 59), .int .i64 (.v 60), .int .i64 (.v 61), .int .i64 (.v 62), .int .i64 (.v 63), .int .i64 (.v 64), .slO 65 (.k 0) (.v 66) (.v 67)], .int .i64 (.v 68), .int .i64 (.v 69)]) .fresh
(.all 5
(.call 13 [] [] [(70, .b)] (.bool (.v 70)) .same
(.ite (.v 70)
(.ite (.eq (.v 45) (.k 0))
(.ite (.eq (.v 47) (.k 0))
(.ite (.eq (.v 58) (.k 0))
(.ite (.eq (.v 69) (.k 0))
(.ite (.v 46)
(.call 14 [.agg [.int .i64 (.v 48), .int .i64 (.v 49), .int .i64 (.v 50), .int .i64 (.v 51), .int .i64 (.v 52), .int .i64 (.v 53), .slO 54 (.k 0) (.v 55) (.v 56)], .agg [.int .i64 (.v 24), .int .i64 (.v 25), .int .i64 (.v 26), .int .i64 (.v 27), .int .i64 (.v 28), .int .i64 (.v 29), .slO 30 (.k 0) (.v 31) (.v 32)]] [] [(71, .b)] (.bool (.v 71)) .same
(.ite (.v 71)
(.call 14 [.agg [.int .i64 (.v 59), .int .i64 (.v 60), .int .i64 (.v 61), .int .i64 (.v 62), .int .i64 (.v 63), .int .i64 (.v 64), .slO 65 (.k 0) (.v 66) (.v 67)], .agg [.int .i64 (.v 24), .int .i64 (.v 25), .int .i64 (.v 26), .int .i64 (.v 27), .int .i64 (.v 28), .int .i64 (.v 29), .slO 30 (.k 0) (.v 31) (.v 32)]] [] [(72, .b)] (.bool (.v 72)) .same
(.ite (.v 72)
(.chk (.rng .i64 (.add (.v 44) (.v 57)))
(.ret (.bool (.eq (.add (.v 44) (.v 57)) (.v 68))) []))
(.ret (.bool (.k false)) [])))
(.ret (.bool (.k false)) [])))
(.ret (.bool (.k false)) []))
(.ret (.bool (.k false)) []))
(.ret (.bool (.k false)) []))
(.ret (.bool (.k false)) []))
(.ret (.bool (.k false)) []))
(.ret (.bool (.k false)) [])))))))))))
(.call 13 [] [] [(34, .b)] (.bool (.v 34)) .same
(.ret (.bool (.v 34)) [])))
(.call 13 [] [] [(34, .b)] (.bool (.v 34)) .same
(.ret (.bool (.v 34)) [])))
(.call 13 [] [] [(34, .b)] (.bool (.v 34)) .same
(.ret (.bool (.v 34)) []))))))))
theorem x_nodeTrue (x0 : Int) (x1 : Int) (x2 : Int) (x3 : Int) (x4 : Int) (x5 : Int) (x6 : Option Loc) (x7 : Nat) (x8 : Nat) (x9 : Option Loc) (x10 : Nat) (x11 : Nat) (x12 : Int) (x13 : Int) (x14 : Int) (x15 : Int) (x16 : Int) (x17 : Int) (x18 : Option Loc) (x19 : Nat) (x20 : Nat) (x21 : Int) (M : Nat → Prop) (H0 : Hp) (W0 : World) (R : Ending → World → Prop) (hH : H0.le (hpOf W0)) (h :
 (∀ b0 : Nat,
 (∀ b1 : Nat,
 (Cl Try.prog W0 M H0 nK 9 #[Value.agg #[vi x0, vi x1, vi x2, vi x3, vi x4, vi x5, vsl x6 x7 x8, vsl x9 x10 x11], Value.agg #[vi x12, vi x13, vi x14, vi x15, vi x16, vi x17, vsl x18 x19 x20]] fun z W1 W2 => ∃ x22 : Bool, ∃ x23 : Int, z = .returned (Value.tuple #[vb (x22), vi x23]) ∧ Ext W1 W2 ∧
 (Cl Try.prog W0 M H0 nK 15 #[Value.agg #[vi x0, vi x1, vi x2, vi x3, vi x4, vi x5, vsl x6 x7 x8, vsl x9 x10 x11]] fun z W3 W4 => ∃ x24 : Int, ∃ x25 : Int, ∃ x26 : Int, ∃ x27 : Int, ∃ x28 : Int, ∃ x29 : Int, ∃ x30 : Option Loc, ∃ x31 : Nat, ∃ x32 : Nat, ∃ x33 : Int, z = .returned (Value.tuple #[Value.agg #[vi x24, vi x25, vi x26, vi x27, vi x28, vi x29, vsl x30 x31 x32], vi x33]) ∧ Fr W3 W4 H0 fun H1 =>
 (∀ b2 : Nat,
 ((x23 = 0 →
  ((x33 = 0 →
   ((x22 = true →
    (Cl Try.prog W0 M H1 nK 16 #[vi x21, vi 51] fun z W5 W6 => ∃ x34 : Int, z = .returned (vi x34) ∧ Ext W5 W6 ∧
    (Cl Try.prog W0 M H1 nK 10 #[Value.agg #[vi x0, vi x1, vi x2, vi x3, vi x4, vi x5, vsl x6 x7 x8, vsl x9 x10 x11], Value.agg #[vi x12, vi x13, vi x14, vi x15, vi x16, vi x17, vsl x18 x19 x20], vi x34] fun z W7 W8 => ∃ x35 : Int, ∃ x36 : Int, ∃ x37 : Int, ∃ x38 : Int, ∃ x39 : Int, ∃ x40 : Int, ∃ x41 : Option Loc, ∃ x42 : Nat, ∃ x43 : Nat, ∃ x44 : Int, ∃ x45 : Int, z = .returned (Value.tuple #[Value.agg #[vi x35, vi x36, vi x37, vi x38, vi x39, vi x40, vsl x41 x42 x43], vi x44, vi x45]) ∧ Fr W7 W8 H1 fun H2 =>
    (∀ b3 : Nat,
    (Cl Try.prog W0 M H2 nK 9 #[Value.agg #[vi x0, vi x1, vi x2, vi x3, vi x4, vi x5, vsl x6 x7 x8, vsl x9 x10 x11], Value.agg #[vi x35, vi x36, vi x37, vi x38, vi x39, vi x40, vsl x41 x42 x43]] fun z W9 W10 => ∃ x46 : Bool, ∃ x47 : Int, z = .returned (Value.tuple #[vb (x46), vi x47]) ∧ Ext W9 W10 ∧
    (Cl Try.prog W0 M H2 nK 10 #[Value.agg #[vi x0, vi x1, vi x2, vi x3, vi x4, vi x5, vsl x6 x7 x8, vsl x9 x10 x11], Value.agg #[vi x35, vi x36, vi x37, vi x38, vi x39, vi x40, vsl x41 x42 x43], vi 50] fun z W11 W12 => ∃ x48 : Int, ∃ x49 : Int, ∃ x50 : Int, ∃ x51 : Int, ∃ x52 : Int, ∃ x53 : Int, ∃ x54 : Option Loc, ∃ x55 : Nat, ∃ x56 : Nat, ∃ x57 : Int, ∃ x58 : Int, z = .returned (Value.tuple #[Value.agg #[vi x48, vi x49, vi x50, vi x51, vi x52, vi x53, vsl x54 x55 x56], vi x57, vi x58]) ∧ Fr W11 W12 H2 fun H3 =>
    (∀ b4 : Nat,
    (Cl Try.prog W0 M H3 nK 10 #[Value.agg #[vi x0, vi x1, vi x2, vi x3, vi x4, vi x5, vsl x6 x7 x8, vsl x9 x10 x11], Value.agg #[vi x12, vi x13, vi x14, vi x15, vi x16, vi x17, vsl x18 x19 x20], vi 50] fun z W13 W14 => ∃ x59 : Int, ∃ x60 : Int, ∃ x61 : Int, ∃ x62 : Int, ∃ x63 : Int, ∃ x64 : Int, ∃ x65 : Option Loc, ∃ x66 : Nat, ∃ x67 : Nat, ∃ x68 : Int, ∃ x69 : Int, z = .returned (Value.tuple #[Value.agg #[vi x59, vi x60, vi x61, vi x62, vi x63, vi x64, vsl x65 x66 x67], vi x68, vi x69]) ∧ Fr W13 W14 H3 fun H4 =>
    (∀ b5 : Nat,
    (Cl Try.prog W0 M H4 nK 13 #[] fun z W15 W16 => ∃ x70 : Bool, z = .returned (vb (x70)) ∧ Ext W15 W16 ∧
    ((x70 = true →
     ((x45 = 0 →
      ((x47 = 0 →
       ((x58 = 0 →
        ((x69 = 0 →
         ((x46 = true →
          (Cl Try.prog W0 M H4 nK 14 #[Value.agg #[vi x48, vi x49, vi x50, vi x51, vi x52, vi x53, vsl x54 x55 x56], Value.agg #[vi x24, vi x25, vi x26, vi x27, vi x28, vi x29, vsl x30 x31 x32]] fun z W17 W18 => ∃ x71 : Bool, z = .returned (vb (x71)) ∧ Ext W17 W18 ∧
          ((x71 = true →
           (Cl Try.prog W0 M H4 nK 14 #[Value.agg #[vi x59, vi x60, vi x61, vi x62, vi x63, vi x64, vsl x65 x66 x67], Value.agg #[vi x24, vi x25, vi x26, vi x27, vi x28, vi x29, vsl x30 x31 x32]] fun z W19 W20 => ∃ x72 : Bool, z = .returned (vb (x72)) ∧ Ext W19 W20 ∧
           ((x72 = true →
            (inKind .i64 (x44 + x57) ∧ (inKind .i64 (x44 + x57) →
            Rt R W0 M H4 nK (vb (decide ((x44 + x57) = x68)))))) ∧
           (¬ (x72 = true) →
            Rt R W0 M H4 nK (vb (false)))))) ∧
          (¬ (x71 = true) →
           Rt R W0 M H4 nK (vb (false)))))) ∧
         (¬ (x46 = true) →
          Rt R W0 M H4 nK (vb (false))))) ∧
        (¬ (x69 = 0) →
         Rt R W0 M H4 nK (vb (false))))) ∧
       (¬ (x58 = 0) →
        Rt R W0 M H4 nK (vb (false))))) ∧
      (¬ (x47 = 0) →
       Rt R W0 M H4 nK (vb (false))))) ∧
     (¬ (x45 = 0) →
      Rt R W0 M H4 nK (vb (false))))) ∧
    (¬ (x70 = true) →
     Rt R W0 M H4 nK (vb (false)))))))))))))) ∧
   (¬ (x22 = true) →
    (Cl Try.prog W0 M H1 nK 13 #[] fun z W5 W6 => ∃ x34 : Bool, z = .returned (vb (x34)) ∧ Ext W5 W6 ∧
    Rt R W0 M H1 nK (vb (x34)))))) ∧
  (¬ (x33 = 0) →
   (Cl Try.prog W0 M H1 nK 13 #[] fun z W5 W6 => ∃ x34 : Bool, z = .returned (vb (x34)) ∧ Ext W5 W6 ∧
   Rt R W0 M H1 nK (vb (x34)))))) ∧
 (¬ (x23 = 0) →
  (Cl Try.prog W0 M H1 nK 13 #[] fun z W5 W6 => ∃ x34 : Bool, z = .returned (vb (x34)) ∧ Ext W5 W6 ∧
  Rt R W0 M H1 nK (vb (x34))))))))))) :
  Calls Try.prog 4 #[Value.agg #[vi x0, vi x1, vi x2, vi x3, vi x4, vi x5, vsl x6 x7 x8, vsl x9 x10 x11], Value.agg #[vi x12, vi x13, vi x14, vi x15, vi x16, vi x17, vsl x18 x19 x20], vi x21] W0 R :=
  calls_sxA (M := M) (V := v_nodeTrue) (hi := {}) (args := [.agg [.int .i64 (.v 0), .int .i64 (.v 1), .int .i64 (.v 2), .int .i64 (.v 3), .int .i64 (.v 4), .int .i64 (.v 5), .slO 6 (.k 0) (.v 7) (.v 8), .slO 9 (.k 0) (.v 10) (.v 11)], .agg [.int .i64 (.v 12), .int .i64 (.v 13), .int .i64 (.v 14), .int .i64 (.v 15), .int .i64 (.v 16), .int .i64 (.v 17), .slO 18 (.k 0) (.v 19) (.v 20)], .int .i64 (.v 21)]) (nv := 22) (e := (upd (upd (upd (upd (upd (upd (upd (upd (upd (upd (upd (upd (upd (upd (upd (upd (upd (upd (upd (upd (upd (upd (fun _ => .i 0) 0 (.i x0)) 1 (.i x1)) 2 (.i x2)) 3 (.i x3)) 4 (.i x4)) 5 (.i x5)) 6 (.p x6)) 7 (.n x7)) 8 (.n x8)) 9 (.p x9)) 10 (.n x10)) 11 (.n x11)) 12 (.i x12)) 13 (.i x13)) 14 (.i x14)) 15 (.i x15)) 16 (.i x16)) 17 (.i x17)) 18 (.p x18)) 19 (.n x19)) 20 (.n x20)) 21 (.i x21))) Try.func4 hH h (by kernel_rfl) (by kernel_rfl) (by kernel_rfl)
def v_nodeOld : VC :=
(.all 0
(.all 1
(.all 2
(.call 9 [.agg [.int .i64 (.v 0), .int .i64 (.v 1), .int .i64 (.v 2), .int .i64 (.v 3), .int .i64 (.v 4), .int .i64 (.v 5), .slO 6 (.k 0) (.v 7) (.v 8), .slO 9 (.k 0) (.v 10) (.v 11)], .agg [.int .i64 (.v 12), .int .i64 (.v 13), .int .i64 (.v 14), .int .i64 (.v 15), .int .i64 (.v 16), .int .i64 (.v 17), .slO 18 (.k 0) (.v 19) (.v 20)]] [] [(31, .b), (32, .i)] (.tup [.bool (.v 31), .int .i64 (.v 32)]) .same
(.ite (.eq (.v 32) (.k 0))
(.ite (.v 31)
(.chk (.le (.k 0) (.v 10))
(.chk (.rng .i64 (.add (.v 10) (.k 1)))
(.call 16 [.int .i64 (.v 21), .int .i64 (.add (.v 10) (.k 1))] [] [(33, .i)] (.int .i64 (.v 33)) .same
(.call 17 [.agg [.int .i64 (.v 0), .int .i64 (.v 1), .int .i64 (.v 2), .int .i64 (.v 3), .int .i64 (.v 4), .int .i64 (.v 5), .slO 6 (.k 0) (.v 7) (.v 8), .slO 9 (.k 0) (.v 10) (.v 11)], .int .i64 (.v 33)] [] [(34, .i), (35, .i), (36, .i), (37, .i), (38, .i), (39, .i), (40, .p), (41, .n), (42, .n), (43, .p), (44, .n), (45, .n), (46, .i)] (.tup [.agg [.int .i64 (.v 34), .int .i64 (.v 35), .int .i64 (.v 36), .int .i64 (.v 37), .int .i64 (.v 38), .int .i64 (.v 39), .slO 40 (.k 0) (.v 41) (.v 42), .slO 43 (.k 0) (.v 44) (.v 45)], .int .i64 (.v 46)]) .fresh
(.all 3
(.call 9 [.agg [.int .i64 (.v 34), .int .i64 (.v 35), .int .i64 (.v 36), .int .i64 (.v 37), .int .i64 (.v 38), .int .i64 (.v 39), .slO 40 (.k 0) (.v 41) (.v 42), .slO 43 (.k 0) (.v 44) (.v 45)], .agg [.int .i64 (.v 12), .int .i64 (.v 13), .int .i64 (.v 14), .int .i64 (.v 15), .int .i64 (.v 16), .int .i64 (.v 17), .slO 18 (.k 0) (.v 19) (.v 20)]] [] [(47, .b), (48, .i)] (.tup [.bool (.v 47), .int .i64 (.v 48)]) .same
(.call 18 [.agg [.int .i64 (.v 0), .int .i64 (.v 1), .int .i64 (.v 2), .int .i64 (.v 3), .int .i64 (.v 4), .int .i64 (.v 5), .slO 6 (.k 0) (.v 7) (.v 8), .slO 9 (.k 0) (.v 10) (.v 11)], .agg [.int .i64 (.v 22), .int .i64 (.v 23), .int .i64 (.v 24), .int .i64 (.v 25), .int .i64 (.v 26), .int .i64 (.v 27), .int .i64 (.v 28), .int .i64 (.v 29), .int .i64 (.v 30)]] [] [(49, .i), (50, .i), (51, .i), (52, .i), (53, .i), (54, .i), (55, .p), (56, .n), (57, .n), (58, .p), (59, .n), (60, .n), (61, .i), (62, .i)] (.tup [.agg [.int .i64 (.v 49), .int .i64 (.v 50), .int .i64 (.v 51), .int .i64 (.v 52), .int .i64 (.v 53), .int .i64 (.v 54), .slO 55 (.k 0) (.v 56) (.v 57), .slO 58 (.k 0) (.v 59) (.v 60)], .int .i64 (.v 61), .int .i64 (.v 62)]) .fresh
(.all 4
(.ite (.eq (.v 46) (.k 0))
(.ite (.eq (.v 48) (.k 0))
(.ite (.v 47)
(.ite (.eq (.v 62) (.k 0))
(.call 9 [.agg [.int .i64 (.v 49), .int .i64 (.v 50), .int .i64 (.v 51), .int .i64 (.v 52), .int .i64 (.v 53), .int .i64 (.v 54), .slO 55 (.k 0) (.v 56) (.v 57), .slO 58 (.k 0) (.v 59) (.v 60)], .agg [.int .i64 (.v 12), .int .i64 (.v 13), .int .i64 (.v 14), .int .i64 (.v 15), .int .i64 (.v 16), .int .i64 (.v 17), .slO 18 (.k 0) (.v 19) (.v 20)]] [] [(63, .b), (64, .i)] (.tup [.bool (.v 63), .int .i64 (.v 64)]) .same
(.call 13 [] [] [(65, .b)] (.bool (.v 65)) .same
(.ite (.v 65)
(.ite (.eq (.v 64) (.k 0))
(.ret (.bool (.v 63)) [])
(.ret (.bool (.k false)) []))
(.ret (.bool (.k false)) []))))
(.call 13 [] [] [(63, .b)] (.bool (.v 63)) .same
(.ret (.bool (.v 63)) [])))
(.ret (.bool (.k false)) []))
(.ret (.bool (.k false)) []))
(.ret (.bool (.k false)) []))))))))))
(.call 13 [] [] [(33, .b)] (.bool (.v 33)) .same
(.ret (.bool (.v 33)) [])))
(.call 13 [] [] [(33, .b)] (.bool (.v 33)) .same
(.ret (.bool (.v 33)) [])))))))
theorem x_nodeOld (x0 : Int) (x1 : Int) (x2 : Int) (x3 : Int) (x4 : Int) (x5 : Int) (x6 : Option Loc) (x7 : Nat) (x8 : Nat) (x9 : Option Loc) (x10 : Nat) (x11 : Nat) (x12 : Int) (x13 : Int) (x14 : Int) (x15 : Int) (x16 : Int) (x17 : Int) (x18 : Option Loc) (x19 : Nat) (x20 : Nat) (x21 : Int) (x22 : Int) (x23 : Int) (x24 : Int) (x25 : Int) (x26 : Int) (x27 : Int) (x28 : Int) (x29 : Int) (x30 : Int) (M : Nat → Prop) (H0 : Hp) (W0 : World) (R : Ending → World → Prop) (hH : H0.le (hpOf W0)) (h :
 (∀ b0 : Nat,
 (∀ b1 : Nat,
 (∀ b2 : Nat,
 (Cl Try.prog W0 M H0 nK 9 #[Value.agg #[vi x0, vi x1, vi x2, vi x3, vi x4, vi x5, vsl x6 x7 x8, vsl x9 x10 x11], Value.agg #[vi x12, vi x13, vi x14, vi x15, vi x16, vi x17, vsl x18 x19 x20]] fun z W1 W2 => ∃ x31 : Bool, ∃ x32 : Int, z = .returned (Value.tuple #[vb (x31), vi x32]) ∧ Ext W1 W2 ∧
 ((x32 = 0 →
  ((x31 = true →
   (0 ≤ (x10 : Int) ∧ (0 ≤ (x10 : Int) →
   (inKind .i64 ((x10 : Int) + 1) ∧ (inKind .i64 ((x10 : Int) + 1) →
   (Cl Try.prog W0 M H0 nK 16 #[vi x21, vi ((x10 : Int) + 1)] fun z W3 W4 => ∃ x33 : Int, z = .returned (vi x33) ∧ Ext W3 W4 ∧
   (Cl Try.prog W0 M H0 nK 17 #[Value.agg #[vi x0, vi x1, vi x2, vi x3, vi x4, vi x5, vsl x6 x7 x8, vsl x9 x10 x11], vi x33] fun z W5 W6 => ∃ x34 : Int, ∃ x35 : Int, ∃ x36 : Int, ∃ x37 : Int, ∃ x38 : Int, ∃ x39 : Int, ∃ x40 : Option Loc, ∃ x41 : Nat, ∃ x42 : Nat, ∃ x43 : Option Loc, ∃ x44 : Nat, ∃ x45 : Nat, ∃ x46 : Int, z = .returned (Value.tuple #[Value.agg #[vi x34, vi x35, vi x36, vi x37, vi x38, vi x39, vsl x40 x41 x42, vsl x43 x44 x45], vi x46]) ∧ Fr W5 W6 H0 fun H1 =>
   (∀ b3 : Nat,
   (Cl Try.prog W0 M H1 nK 9 #[Value.agg #[vi x34, vi x35, vi x36, vi x37, vi x38, vi x39, vsl x40 x41 x42, vsl x43 x44 x45], Value.agg #[vi x12, vi x13, vi x14, vi x15, vi x16, vi x17, vsl x18 x19 x20]] fun z W7 W8 => ∃ x47 : Bool, ∃ x48 : Int, z = .returned (Value.tuple #[vb (x47), vi x48]) ∧ Ext W7 W8 ∧
   (Cl Try.prog W0 M H1 nK 18 #[Value.agg #[vi x0, vi x1, vi x2, vi x3, vi x4, vi x5, vsl x6 x7 x8, vsl x9 x10 x11], Value.agg #[vi x22, vi x23, vi x24, vi x25, vi x26, vi x27, vi x28, vi x29, vi x30]] fun z W9 W10 => ∃ x49 : Int, ∃ x50 : Int, ∃ x51 : Int, ∃ x52 : Int, ∃ x53 : Int, ∃ x54 : Int, ∃ x55 : Option Loc, ∃ x56 : Nat, ∃ x57 : Nat, ∃ x58 : Option Loc, ∃ x59 : Nat, ∃ x60 : Nat, ∃ x61 : Int, ∃ x62 : Int, z = .returned (Value.tuple #[Value.agg #[vi x49, vi x50, vi x51, vi x52, vi x53, vi x54, vsl x55 x56 x57, vsl x58 x59 x60], vi x61, vi x62]) ∧ Fr W9 W10 H1 fun H2 =>
   (∀ b4 : Nat,
   ((x46 = 0 →
    ((x48 = 0 →
     ((x47 = true →
      ((x62 = 0 →
       (Cl Try.prog W0 M H2 nK 9 #[Value.agg #[vi x49, vi x50, vi x51, vi x52, vi x53, vi x54, vsl x55 x56 x57, vsl x58 x59 x60], Value.agg #[vi x12, vi x13, vi x14, vi x15, vi x16, vi x17, vsl x18 x19 x20]] fun z W11 W12 => ∃ x63 : Bool, ∃ x64 : Int, z = .returned (Value.tuple #[vb (x63), vi x64]) ∧ Ext W11 W12 ∧
       (Cl Try.prog W0 M H2 nK 13 #[] fun z W13 W14 => ∃ x65 : Bool, z = .returned (vb (x65)) ∧ Ext W13 W14 ∧
       ((x65 = true →
        ((x64 = 0 →
         Rt R W0 M H2 nK (vb (x63))) ∧
        (¬ (x64 = 0) →
         Rt R W0 M H2 nK (vb (false))))) ∧
       (¬ (x65 = true) →
        Rt R W0 M H2 nK (vb (false))))))) ∧
      (¬ (x62 = 0) →
       (Cl Try.prog W0 M H2 nK 13 #[] fun z W11 W12 => ∃ x63 : Bool, z = .returned (vb (x63)) ∧ Ext W11 W12 ∧
       Rt R W0 M H2 nK (vb (x63)))))) ∧
     (¬ (x47 = true) →
      Rt R W0 M H2 nK (vb (false))))) ∧
    (¬ (x48 = 0) →
     Rt R W0 M H2 nK (vb (false))))) ∧
   (¬ (x46 = 0) →
    Rt R W0 M H2 nK (vb (false))))))))))))))) ∧
  (¬ (x31 = true) →
   (Cl Try.prog W0 M H0 nK 13 #[] fun z W3 W4 => ∃ x33 : Bool, z = .returned (vb (x33)) ∧ Ext W3 W4 ∧
   Rt R W0 M H0 nK (vb (x33)))))) ∧
 (¬ (x32 = 0) →
  (Cl Try.prog W0 M H0 nK 13 #[] fun z W3 W4 => ∃ x33 : Bool, z = .returned (vb (x33)) ∧ Ext W3 W4 ∧
  Rt R W0 M H0 nK (vb (x33)))))))))) :
  Calls Try.prog 5 #[Value.agg #[vi x0, vi x1, vi x2, vi x3, vi x4, vi x5, vsl x6 x7 x8, vsl x9 x10 x11], Value.agg #[vi x12, vi x13, vi x14, vi x15, vi x16, vi x17, vsl x18 x19 x20], vi x21, Value.agg #[vi x22, vi x23, vi x24, vi x25, vi x26, vi x27, vi x28, vi x29, vi x30]] W0 R :=
  calls_sxA (M := M) (V := v_nodeOld) (hi := {}) (args := [.agg [.int .i64 (.v 0), .int .i64 (.v 1), .int .i64 (.v 2), .int .i64 (.v 3), .int .i64 (.v 4), .int .i64 (.v 5), .slO 6 (.k 0) (.v 7) (.v 8), .slO 9 (.k 0) (.v 10) (.v 11)], .agg [.int .i64 (.v 12), .int .i64 (.v 13), .int .i64 (.v 14), .int .i64 (.v 15), .int .i64 (.v 16), .int .i64 (.v 17), .slO 18 (.k 0) (.v 19) (.v 20)], .int .i64 (.v 21), .agg [.int .i64 (.v 22), .int .i64 (.v 23), .int .i64 (.v 24), .int .i64 (.v 25), .int .i64 (.v 26), .int .i64 (.v 27), .int .i64 (.v 28), .int .i64 (.v 29), .int .i64 (.v 30)]]) (nv := 31) (e := (upd (upd (upd (upd (upd (upd (upd (upd (upd (upd (upd (upd (upd (upd (upd (upd (upd (upd (upd (upd (upd (upd (upd (upd (upd (upd (upd (upd (upd (upd (upd (fun _ => .i 0) 0 (.i x0)) 1 (.i x1)) 2 (.i x2)) 3 (.i x3)) 4 (.i x4)) 5 (.i x5)) 6 (.p x6)) 7 (.n x7)) 8 (.n x8)) 9 (.p x9)) 10 (.n x10)) 11 (.n x11)) 12 (.i x12)) 13 (.i x13)) 14 (.i x14)) 15 (.i x15)) 16 (.i x16)) 17 (.i x17)) 18 (.p x18)) 19 (.n x19)) 20 (.n x20)) 21 (.i x21)) 22 (.i x22)) 23 (.i x23)) 24 (.i x24)) 25 (.i x25)) 26 (.i x26)) 27 (.i x27)) 28 (.i x28)) 29 (.i x29)) 30 (.i x30))) Try.func5 hH h (by kernel_rfl) (by kernel_rfl) (by kernel_rfl)
end Go.Proofs.Ytgmgbfpoeclgiaa
namespace Go.Proofs.Ytgmgbfpoeclgiaa
open Go.RowKit
set_option maxRecDepth 100000
theorem nd1 : nFit (lCut Sta.zero someL 6).1 (lCut Sta.zero someL 6).2.1 Sta.zero = (true, 0) ∧ nFit (lCut Sta.zero someL 6).1 (lCut Sta.zero someL 6).2.1 ⟨6, 10, ⟨7, 0, 0, 1⟩, [rowS 2, rowS 4]⟩ = (false, 0) ∧
    (nRun (lCut Sta.zero someL 6).1 (lCut Sta.zero someL 6).2.1 ⟨6, 10, ⟨7, 0, 0, 1⟩, [rowS 2, rowS 4]⟩ 2).2.2 = 1 := by decide +kernel
theorem nd2 : (nRun (lCut Sta.zero someL 6).1 (lCut Sta.zero someL 6).2.1 Sta.zero 2).1.pos = 8 ∧ (nRun (lCut Sta.zero someL 6).1 (lCut Sta.zero someL 6).2.1 Sta.zero 2).2.1 = 2 ∧ (nRun (lCut Sta.zero someL 6).1 (lCut Sta.zero someL 6).2.1 Sta.zero 2).2.2 = 0 := by decide +kernel
theorem nd3 : (nRun (lCut Sta.zero someL 6).1 (lCut Sta.zero someL 6).2.1 (nRun (lCut Sta.zero someL 6).1 (lCut Sta.zero someL 6).2.1 Sta.zero 2).1 50).1.pos = 10 ∧ (nRun (lCut Sta.zero someL 6).1 (lCut Sta.zero someL 6).2.1 (nRun (lCut Sta.zero someL 6).1 (lCut Sta.zero someL 6).2.1 Sta.zero 2).1 50).1.vals.a = 12 ∧
    (nRun (lCut Sta.zero someL 6).1 (lCut Sta.zero someL 6).2.1 (nRun (lCut Sta.zero someL 6).1 (lCut Sta.zero someL 6).2.1 Sta.zero 2).1 50).2.1 = 2 ∧ (nRun (lCut Sta.zero someL 6).1 (lCut Sta.zero someL 6).2.1 (nRun (lCut Sta.zero someL 6).1 (lCut Sta.zero someL 6).2.1 Sta.zero 2).1 50).2.2 = 0 := by decide +kernel
theorem c_nodeBegun (H : Hp) : Gv Try.prog 13 #[] H (vb true) := fun W hH => by
  obtain ⟨a1, a2, a3⟩ := nd1
  obtain ⟨a4, a5, a6⟩ := nd2
  obtain ⟨a7, a8, a9, a10⟩ := nd3
  have k1 : ∀ {p : Option Loc} {H : Hp}, Ents H p 10 10 someL → Gf Try.prog 39 #[logV Sta.zero (vsl none 0 0) (vsl p 10 10), vi 6] H (LogPost (lCut Sta.zero someL 6)) := fun hE => c_cutOf (Tab.nil _ none) hE 6
  generalize lCut Sta.zero someL 6 = C at *
  have k2 : ∀ {p q : Option Loc} {n c m d : Nat} {H : Hp}, Tab H p n c C.1.table → Ents H q m d C.2.1 → Gf Try.prog 10 #[logV C.1 (vsl p n c) (vsl q m d), Sta.zero.val (vsl none 0 0), vi 2] H (RunPost (nRun C.1 C.2.1 Sta.zero 2)) := fun hT hE => c_nodeRun hT hE (Tab.nil _ none) 2
  generalize nRun C.1 C.2.1 Sta.zero 2 = r2 at *
  refine x_nodeBegun noM H W _ hH ?_
  refine Cl.fresh (c_lsome H) ?_
  rintro v W1 W2 D ⟨p, rfl, hE⟩ hx hD hf nn
  refine ⟨p, 10, 10, rfl, hx, D, hD, hf, fun H1 h1 hd1 => ?_⟩
  refine Cl.fresh (k1 (hE.mono hd1)) ?_
  rintro v W1 W2 D ⟨p2, n2, c2, q2, m2, d2, rfl, hT2, hE2⟩ hx hD hf nn
  refine ⟨_, _, _, _, _, _, p2, n2, c2, q2, m2, d2, _, rfl, hx, D, hD, hf, fun H2 h2 hd2 b0 => ?_⟩
  replace hT2 := hT2.mono hd2
  replace hE2 := hE2.mono hd2
  refine Cl.same (c_begin H2) fun _ _ hx => ⟨_, _, _, _, _, _, none, 0, 0, rfl, Fr.none hx fun H3 h3 => ?_⟩
  replace hT2 := hT2.mono h3
  replace hE2 := hE2.mono h3
  refine Cl.same (c_nodeFits hT2 hE2 (s := Sta.zero) (Tab.nil _ none)) fun _ _ hx => ⟨_, _, rfl, hx, ?_⟩
  refine Cl.fresh (c_shop H3) ?_
  rintro v W1 W2 D ⟨p4, n4, c4, rfl, hT4⟩ hx hD hf nn
  refine ⟨_, _, _, _, _, _, p4, n4, c4, rfl, hx, D, hD, hf, fun H4 h4 hd4 => ?_⟩
  replace hT2 := hT2.mono h4
  replace hE2 := hE2.mono h4
  refine Cl.same (c_nodeFits hT2 hE2 (s := ⟨6, 10, ⟨7, 0, 0, 1⟩, [rowS 2, rowS 4]⟩) (hT4.mono hd4)) fun _ _ hx => ⟨_, _, rfl, hx, ?_⟩
  refine Cl.same (c_begin H4) fun _ _ hx => ⟨_, _, _, _, _, _, none, 0, 0, rfl, Fr.none hx fun H5 h5 => ?_⟩
  replace hT2 := hT2.mono h5
  replace hE2 := hE2.mono h5
  refine Cl.fresh (k2 hT2 hE2) ?_
  rintro v W1 W2 D ⟨p6, n6, c6, rfl, hT6⟩ hx hD hf nn
  refine ⟨_, _, _, _, _, _, p6, n6, c6, _, _, rfl, hx, D, hD, hf, fun H6 h6 hd6 b1 => ?_⟩
  replace hT2 := hT2.mono h6
  replace hE2 := hE2.mono h6
  replace hT6 := hT6.mono hd6
  refine Cl.fresh (c_shop H6) ?_
  rintro v W1 W2 D ⟨p7, n7, c7, rfl, hT7⟩ hx hD hf nn
  refine ⟨_, _, _, _, _, _, p7, n7, c7, rfl, hx, D, hD, hf, fun H7 h7 hd7 => ?_⟩
  refine Cl.fresh (c_nodeRun (hT2.mono h7) (hE2.mono h7) (s := ⟨6, 10, ⟨7, 0, 0, 1⟩, [rowS 2, rowS 4]⟩) (hT7.mono hd7) 2) ?_
  rintro v W1 W2 D ⟨p8, n8, c8, rfl, _⟩ hx hD hf nn
  refine ⟨_, _, _, _, _, _, p8, n8, c8, _, _, rfl, hx, D, hD, hf, fun H8 h8 hd8 b2 => ?_⟩
  refine Cl.fresh (c_nodeRun ((hT2.mono h7).mono h8) ((hE2.mono h7).mono h8) ((hT6.mono h7).mono h8) 50) ?_
  rintro v W1 W2 D ⟨p9, n9, c9, rfl, _⟩ hx hD hf nn
  refine ⟨_, _, _, _, _, _, p9, n9, c9, _, _, rfl, hx, D, hD, hf, fun H9 h9 hd9 b3 => ?_⟩
  refine ⟨fun _ => ⟨fun _ => ⟨fun _ => ⟨fun _ => ⟨fun _ => ⟨fun _ => ⟨fun h => ?_, fun _ => ⟨fun _ => ⟨fun _ => ⟨fun _ => ⟨fun _ => Rt.gv' (by rw [a8]; rfl), fun h => absurd a7 h⟩, fun h => absurd a9 h⟩, fun h => absurd a4 h⟩, fun h => absurd a5 h⟩⟩, fun h => absurd (by rw [a1]) h⟩, fun h => absurd a10 h⟩, fun h => absurd a3 h⟩, fun h => absurd a6 h⟩, fun h => absurd (by rw [a2]) h⟩, fun h => absurd (by rw [a1]) h⟩
  rw [a2] at h; cases h
section
variable {H : Hp} {p q r : Option Loc} {n c m d k e : Nat} {b s : Sta} {l : List Ent}
theorem c_nodeTells (hT : Tab H p n c b.table) (hE : Ents H q m d l) (hS : Tab H r k e s.table) (x : Int) :
    Gv Try.prog 3 #[logV b (vsl p n c) (vsl q m d), s.val (vsl r k e), vi x] H (vb true) := fun W hH => by
  refine x_nodeTells _ _ _ _ _ _ p n c q m d _ _ _ _ _ _ r k e x noM H W _ hH fun b0 b1 => ?_
  refine Cl.same (c_nodeFits hT hE hS) fun _ _ hx => ⟨_, _, rfl, hx, ?_⟩
  refine Cl.fresh (c_nodeRun hT hE hS x) ?_
  rintro v W1 W2 D ⟨p1, n1, c1, rfl, hT1⟩ hx hD hf nn
  refine ⟨_, _, _, _, _, _, p1, n1, c1, _, _, rfl, hx, D, hD, hf, fun H1 h1 hd1 b2 => ?_⟩
  refine Cl.same (c_fitsOf (hT.mono h1) (hE.mono h1) (hS.mono h1)) fun _ _ hx => ⟨_, _, rfl, hx, ?_⟩
  refine Cl.fresh (c_runOf (hT.mono h1) (hE.mono h1) (hS.mono h1) x) ?_
  rintro v W1 W2 D2 ⟨p2, n2, c2, rfl, hT2⟩ hx hD hf nn
  refine ⟨_, _, _, _, _, _, p2, n2, c2, _, _, rfl, hx, D2, hD, hf, fun H2 h2 hd2 b3 => ?_⟩
  refine Cl.same (c_nodeBegun H2) fun _ _ hx => ⟨_, rfl, hx, fun _ W3 _ _ => ?_, fun h => absurd rfl h⟩
  refine ⟨_, _, ek_eq_bool _ _ _ _ _, Ext.refl _, fun _ => ⟨fun _ => ?_, fun h => absurd rfl h⟩, fun h => absurd (by simp) h⟩
  exact Cl.same (c_sameOf ((hT1.mono hd1).mono h2) (hT2.mono hd2)) fun _ _ hx => ⟨_, rfl, hx, fun _ => ⟨fun _ => Rt.gv' (by simp), fun h => absurd rfl h⟩, fun h => absurd (decide_eq_true rfl) h⟩
theorem lEnd_log (h : (lEnd b l).2 = 0) : LogOk b l ∧ lEnd b l = (foldS b l, 0) := by
  by_cases h0 : logErr b l = 0
  · exact ⟨logErr_ok.1 h0, lEnd_ok h0⟩
  · rw [lEnd_bad h0] at h; exact absurd h h0
theorem nFit_is (h : (nFit b l s).2 = 0) (h1 : (nFit b l s).1 = true) : LogOk b l ∧ StOk s ∧ nFits b l s = true := by
  by_cases h0 : nErr b l s = 0
  · rw [nFit_ok h0] at h1
    obtain ⟨a1, a2⟩ := nErr_ok.1 h0
    exact ⟨a1, a2, h1⟩
  · rw [nFit_bad h0] at h; exact absurd h h0
theorem nFit_of (h1 : LogOk b l) (h2 : StOk s) (h3 : nFits b l s = true) : nFit b l s = (true, 0) := by rw [nFit_ok (nErr_ok.2 ⟨h1, h2⟩), h3]
theorem c_nodeTrue (hT : Tab H p n c b.table) (hE : Ents H q m d l) (hS : Tab H r k e s.table) (x : Int) (hx : -9223372036854775808 ≤ x ∧ x ≤ 9223372036854775807) :
    Gv Try.prog 4 #[logV b (vsl p n c) (vsl q m d), s.val (vsl r k e), vi x] H (vb true) := fun W hH => by
  refine x_nodeTrue _ _ _ _ _ _ p n c q m d _ _ _ _ _ _ r k e x noM H W _ hH fun b0 b1 => ?_
  refine Cl.same (c_nodeFits hT hE hS) fun _ _ hx0 => ⟨_, _, rfl, hx0, ?_⟩
  refine Cl.fresh (c_packEnd hT hE) ?_
  rintro v W1 W2 D ⟨p1, n1, c1, rfl, hT1⟩ hx1 hD hf nn
  refine ⟨_, _, _, _, _, _, p1, n1, c1, _, rfl, hx1, D, hD, hf, fun H1 h1 hd1 b2 => ?_⟩
  have beg : ∀ {K : Hp}, Cl Try.prog W noM K nK 13 #[] fun z W3 W4 => ∃ x31 : Bool, z = .returned (vb (x31)) ∧ Ext W3 W4 ∧ Rt (fun z W' => z = .returned (vb true) ∧ Ext W W') W noM K nK (vb (x31)) := fun {K} => Cl.same (c_nodeBegun K) fun _ _ hx => ⟨_, rfl, hx, Rt.gv⟩
  refine ⟨fun e0 => ⟨fun e1 => ⟨fun e2 => ?_, fun _ => beg⟩, fun _ => beg⟩, fun _ => beg⟩
  obtain ⟨ho, hs, hfit⟩ := nFit_is e0 e2
  obtain ⟨_, hend⟩ := lEnd_log e1
  rw [hend] at hT1
  obtain ⟨z1, z2⟩ := choose_in x 51 (by omega)
  refine Cl.same (c_choose x 51 (by omega) hx H1) fun _ _ hx => ⟨_, rfl, hx, ?_⟩
  generalize chooseI x 51 = y at z1 z2 ⊢
  replace hT := hT.mono h1
  replace hE := hE.mono h1
  replace hS := hS.mono h1
  replace hT1 := hT1.mono hd1
  have hr : ¬ (y < 0 ∨ 50 < y) := by omega
  obtain ⟨j1, run1⟩ := nRun_fold ho hs hr hfit
  have c1 := c_nodeRun hT hE hS y
  rw [run1] at c1
  refine Cl.fresh c1 ?_
  rintro v W1 W2 D ⟨p2, n2, c2, rfl, hT2⟩ hx2 hD hf nn
  refine ⟨_, _, _, _, _, _, p2, n2, c2, _, _, rfl, hx2, D, hD, hf, fun H2 h2 hd2 b3 => ?_⟩
  replace hT2 := hT2.mono hd2
  have ok2 := node_ok ho j1
  have fit2 := nFits_fold ho j1
  obtain ⟨_, of2⟩ := nAt_of ho j1
  refine Cl.same (c_nodeFits (hT.mono h2) (hE.mono h2) hT2) fun _ _ hx => ⟨_, _, rfl, hx, ?_⟩
  rw [nFit_of ho ok2 fit2]
  obtain ⟨j2, run2⟩ := nRun_fold ho ok2 (n := 50) (by omega) fit2
  rw [nTo_end ho fit2, List.take_length, of2] at run2
  have c2 := c_nodeRun (hT.mono h2) (hE.mono h2) hT2 50
  rw [run2] at c2
  refine Cl.fresh c2 ?_
  rintro v W1 W2 D ⟨p3, n3, c3, rfl, hT3⟩ hx3 hD hf nn
  refine ⟨_, _, _, _, _, _, p3, n3, c3, _, _, rfl, hx3, D, hD, hf, fun H3 h3 hd3 b4 => ?_⟩
  replace hT3 := hT3.mono hd3
  obtain ⟨j3, run3⟩ := nRun_fold ho hs (n := 50) (by omega) hfit
  rw [nTo_end ho hfit, List.take_length] at run3
  have c3 := c_nodeRun ((hT.mono h2).mono h3) ((hE.mono h2).mono h3) ((hS.mono h2).mono h3) 50
  rw [run3] at c3
  refine Cl.fresh c3 ?_
  rintro v W1 W2 D ⟨p4, n4, c4, rfl, hT4⟩ hx4 hD hf nn
  refine ⟨_, _, _, _, _, _, p4, n4, c4, _, _, rfl, hx4, D, hD, hf, fun H4 h4 hd4 b5 => ?_⟩
  replace hT4 := hT4.mono hd4
  refine Cl.same (c_nodeBegun H4) fun _ _ hx => ⟨_, rfl, hx, fun _ => ⟨fun _ => ⟨fun _ => ⟨fun _ => ⟨fun _ => ⟨fun _ => ?_, fun h => absurd rfl h⟩, fun h => absurd rfl h⟩, fun h => absurd rfl h⟩, fun h => absurd rfl h⟩, fun h => absurd rfl h⟩, fun h => absurd rfl h⟩
  rw [hend]
  have hT1' := ((hT1.mono h2).mono h3).mono h4
  refine Cl.same (c_sameOf (hT3.mono h4) hT1') fun _ _ hx => ⟨_, rfl, hx, fun _ => ?_, fun h => absurd (decide_eq_true rfl) h⟩
  have hlow := ho.low
  have hb1 := (nAt_fold ho hfit).1
  refine Cl.same (c_sameOf hT4 hT1') fun _ _ hx => ⟨_, rfl, hx, fun _ => ⟨in64 (by dsimp only; omega), fun _ => Rt.gv' ?_⟩, fun h => absurd (decide_eq_true rfl) h⟩
  rw [decide_eq_true (by dsimp only; omega)]
theorem c_nodeOld (hT : Tab H p n c b.table) (hE : Ents H q m d l) (hS : Tab H r k e s.table) (x : Int) (hx : -9223372036854775808 ≤ x ∧ x ≤ 9223372036854775807) (y : Ent) (hy : y.in64) :
    Gv Try.prog 5 #[logV b (vsl p n c) (vsl q m d), s.val (vsl r k e), vi x, y.val] H (vb true) := fun W hH => by
  have hm := hE.len
  refine x_nodeOld _ _ _ _ _ _ p n c q m d _ _ _ _ _ _ r k e x _ _ _ _ _ _ _ _ _ noM H W _ hH fun b0 b1 b2 => ?_
  have beg : ∀ {K : Hp}, Cl Try.prog W noM K nK 13 #[] fun z W3 W4 => ∃ x31 : Bool, z = .returned (vb (x31)) ∧ Ext W3 W4 ∧ Rt (fun z W' => z = .returned (vb true) ∧ Ext W W') W noM K nK (vb (x31)) := fun {K} => Cl.same (c_nodeBegun K) fun _ _ hx => ⟨_, rfl, hx, Rt.gv⟩
  refine Cl.same (c_nodeFits hT hE hS) fun _ _ hx1 => ⟨_, _, rfl, hx1, fun e0 => ⟨fun e2 => ?_, fun _ => beg⟩, fun _ => beg⟩
  obtain ⟨ho, hs, hfit⟩ := nFit_is e0 e2
  have hlow := ho.low
  refine ⟨by omega, fun _ => ⟨in64 (by omega), fun _ => ?_⟩⟩
  obtain ⟨k1, k2⟩ := choose_in x ((m : Int) + 1) (by omega)
  refine Cl.same (c_choose x ((m : Int) + 1) (by omega) hx H) fun _ _ hx => ⟨_, rfl, hx, ?_⟩
  obtain ⟨j, hj⟩ : ∃ j : Nat, chooseI x ((m : Int) + 1) = j := ⟨(chooseI x ((m : Int) + 1)).toNat, by omega⟩
  rw [hj] at k1 k2 ⊢
  have cut := lCut_ok (logErr_ok.2 ho) (n := (j : Int)) (by omega)
  rw [Int.toNat_natCast] at cut
  have c1 := c_packCut hT hE (j : Int)
  rw [cut] at c1
  refine Cl.fresh c1 ?_
  rintro v W1 W2 D ⟨p2, n2, c2, q2, m2, d2, rfl, hT2, hE2⟩ hx2 hD hf nn
  refine ⟨_, _, _, _, _, _, p2, n2, c2, q2, m2, d2, _, rfl, hx2, D, hD, hf, fun H1 h1 hd1 b3 => ?_⟩
  refine Cl.same (c_nodeFits (hT2.mono hd1) (hE2.mono hd1) (hS.mono h1)) fun _ _ hx => ⟨_, _, rfl, hx, ?_⟩
  rw [nFit_of (ho.cut (k := j) (by omega)).1 hs (nFits_cut ho (by omega) hfit)]
  refine Cl.fresh (c_packPut (hT.mono h1) (hE.mono h1) hy) ?_
  rintro v W1 W2 D ⟨p4, n4, c4, q4, m4, d4, rfl, hT4, hE4⟩ hx4 hD hf nn
  refine ⟨_, _, _, _, _, _, p4, n4, c4, q4, m4, d4, _, _, rfl, hx4, D, hD, hf, fun H2 h2 hd2 b4 => ?_⟩
  refine ⟨fun _ => ⟨fun _ => ⟨fun _ => ⟨fun e3 => ?_, fun _ => beg⟩, fun h => absurd rfl h⟩, fun h => absurd rfl h⟩, fun h => absurd rfl h⟩
  have l0 := logErr_ok.2 ho
  have put : lPut b l y = (b, l ++ [y], ((foldS b l).apply y).2.1, 0) ∧ y.err = 0 ∧ ¬ b.pos + (l.length : Int) = 50 := by
    by_cases g1 : y.err = 0
    · by_cases g2 : b.pos + (l.length : Int) = 50
      · rw [lPut_many l0 g1 g2] at e3; cases e3
      · exact ⟨lPut_ok l0 g1 g2, g1, g2⟩
    · rw [lPut_ent l0 g1] at e3; exact absurd e3 g1
  obtain ⟨put, g1, g2⟩ := put
  rw [put] at hT4 hE4 ⊢
  refine Cl.same (c_nodeFits (hT4.mono hd2) (hE4.mono hd2) ((hS.mono h1).mono h2)) fun _ _ hx => ⟨_, _, rfl, hx, ?_⟩
  rw [nFit_of (ho.put (Ent.err_ok.1 g1) g2) hs (nFits_put hfit y)]
  exact Cl.same (c_nodeBegun H2) fun _ _ hx => ⟨_, rfl, hx, fun _ => ⟨fun _ => Rt.gv' rfl, fun h => absurd rfl h⟩, fun h => absurd rfl h⟩
end
end Go.Proofs.Ytgmgbfpoeclgiaa
