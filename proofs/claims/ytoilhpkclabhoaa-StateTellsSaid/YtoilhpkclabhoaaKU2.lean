/- Symbolic runs of functions: what each leaves to prove is enough for its call. Printed by a program of ours. No conditions. The law StateTells, as a run. No conditions. -/
import Derived.Test.YtoilhpkclabhoaaKE3
import Derived.Test.YtoilhpkclabhoaaProg
import Derived.Test.YtoilhpkclabhoaaKL1
import Derived.Test.YtoilhpkclabhoaaKU1
import Derived.Test.YtoilhpkclabhoaaKE4
import Derived.Test.YtoilhpkclabhoaaKS2
set_option linter.unusedVariables false
set_option linter.unusedSimpArgs false
namespace Go.Proofs.Ytoilhpkclabhoaa
open Go.RowKit
set_option maxRecDepth 100000
set_option maxHeartbeats 4000000
def v_stateBegun : VC :=
(.call 31 [] [] [(0, .i), (1, .i), (2, .i), (3, .i), (4, .i), (5, .i), (6, .p), (7, .n), (8, .n)] (.agg [.int .i64 (.v 0), .int .i64 (.v 1), .int .i64 (.v 2), .int .i64 (.v 3), .int .i64 (.v 4), .int .i64 (.v 5), .slO 6 (.k 0) (.v 7) (.v 8)]) .fresh
(.all 0
(.call 31 [] [] [(9, .i), (10, .i), (11, .i), (12, .i), (13, .i), (14, .i), (15, .p), (16, .n), (17, .n)] (.agg [.int .i64 (.v 9), .int .i64 (.v 10), .int .i64 (.v 11), .int .i64 (.v 12), .int .i64 (.v 13), .int .i64 (.v 14), .slO 15 (.k 0) (.v 16) (.v 17)]) .fresh
(.all 1
(.call 31 [] [] [(18, .i), (19, .i), (20, .i), (21, .i), (22, .i), (23, .i), (24, .p), (25, .n), (26, .n)] (.agg [.int .i64 (.v 18), .int .i64 (.v 19), .int .i64 (.v 20), .int .i64 (.v 21), .int .i64 (.v 22), .int .i64 (.v 23), .slO 24 (.k 0) (.v 25) (.v 26)]) .fresh
(.all 2
(.chk (.idx (.k 0) (.v 25))
(.chk (.isp 24)
(.chk (.le (.k 0) (.add (.k 0) (.mul (.k 0) (.k 4))))
(.esc (.storeO 57) [.ptrO 24 (.add (.add (.k 0) (.mul (.k 0) (.k 4))) (.k 3)), .c (Value.slice none 0 0)] [] [] none .turn
(.call 29 [] [] [(27, .i), (28, .i), (29, .i), (30, .i), (31, .i), (32, .i), (33, .p), (34, .n), (35, .n)] (.agg [.int .i64 (.v 27), .int .i64 (.v 28), .int .i64 (.v 29), .int .i64 (.v 30), .int .i64 (.v 31), .int .i64 (.v 32), .slO 33 (.k 0) (.v 34) (.v 35)]) .fresh
(.call 11 [.agg [.int .i64 (.v 27), .int .i64 (.v 28), .int .i64 (.v 29), .int .i64 (.v 30), .int .i64 (.v 31), .int .i64 (.v 32), .slO 33 (.k 0) (.v 34) (.v 35)]] [] [(36, .i)] (.int .i64 (.v 36)) .same
(.ite (.eq (.v 36) (.k 0))
(.call 31 [] [] [(37, .i), (38, .i), (39, .i), (40, .i), (41, .i), (42, .i), (43, .p), (44, .n), (45, .n)] (.agg [.int .i64 (.v 37), .int .i64 (.v 38), .int .i64 (.v 39), .int .i64 (.v 40), .int .i64 (.v 41), .int .i64 (.v 42), .slO 43 (.k 0) (.v 44) (.v 45)]) .fresh
(.call 11 [.agg [.int .i64 (.v 37), .int .i64 (.v 38), .int .i64 (.v 39), .int .i64 (.v 40), .int .i64 (.v 41), .int .i64 (.v 42), .slO 43 (.k 0) (.v 44) (.v 45)]] [] [(46, .i)] (.int .i64 (.v 46)) .same
(.ite (.eq (.v 46) (.k 0))
(.call 11 [.agg [.int .i64 (.v 0), .int .i64 (.k 8), .int .i64 (.v 2), .int .i64 (.v 3), .int .i64 (.v 4), .int .i64 (.v 5), .slO 6 (.k 0) (.v 7) (.v 8)]] [] [(47, .i)] (.int .i64 (.v 47)) .same
(.ite (.eq (.v 47) (.k 1))
(.call 11 [.agg [.int .i64 (.v 9), .int .i64 (.k 30), .int .i64 (.v 11), .int .i64 (.v 12), .int .i64 (.v 13), .int .i64 (.v 14), .slO 15 (.k 0) (.v 16) (.v 17)]] [] [(48, .i)] (.int .i64 (.v 48)) .same
(.ite (.eq (.v 48) (.k 1))
(.call 11 [.agg [.int .i64 (.k 51), .int .i64 (.k 0), .int .i64 (.k 0), .int .i64 (.k 0), .int .i64 (.k 0), .int .i64 (.k 0), .c (Value.slice none 0 0)]] [] [(49, .i)] (.int .i64 (.v 49)) .same
(.ite (.eq (.v 49) (.k 3))
(.call 31 [] [] [(50, .i), (51, .i), (52, .i), (53, .i), (54, .i), (55, .i), (56, .p), (57, .n), (58, .n)] (.agg [.int .i64 (.v 50), .int .i64 (.v 51), .int .i64 (.v 52), .int .i64 (.v 53), .int .i64 (.v 54), .int .i64 (.v 55), .slO 56 (.k 0) (.v 57) (.v 58)]) .fresh
(.call 31 [] [] [(59, .i), (60, .i), (61, .i), (62, .i), (63, .i), (64, .i), (65, .p), (66, .n), (67, .n)] (.agg [.int .i64 (.v 59), .int .i64 (.v 60), .int .i64 (.v 61), .int .i64 (.v 62), .int .i64 (.v 63), .int .i64 (.v 64), .slO 65 (.k 0) (.v 66) (.v 67)]) .fresh
(.call 13 [.agg [.int .i64 (.v 50), .int .i64 (.v 51), .int .i64 (.v 52), .int .i64 (.v 53), .int .i64 (.v 54), .int .i64 (.v 55), .slO 56 (.k 0) (.v 57) (.v 58)], .agg [.int .i64 (.v 59), .int .i64 (.v 60), .int .i64 (.v 61), .int .i64 (.v 62), .int .i64 (.v 63), .int .i64 (.v 64), .slO 65 (.k 0) (.v 66) (.v 67)]] [] [(68, .b)] (.bool (.v 68)) .same
(.ite (.v 68)
(.call 31 [] [] [(69, .i), (70, .i), (71, .i), (72, .i), (73, .i), (74, .i), (75, .p), (76, .n), (77, .n)] (.agg [.int .i64 (.v 69), .int .i64 (.v 70), .int .i64 (.v 71), .int .i64 (.v 72), .int .i64 (.v 73), .int .i64 (.v 74), .slO 75 (.k 0) (.v 76) (.v 77)]) .fresh
(.call 13 [.agg [.int .i64 (.v 69), .int .i64 (.v 70), .int .i64 (.v 71), .int .i64 (.v 72), .int .i64 (.v 73), .int .i64 (.v 74), .slO 75 (.k 0) (.v 76) (.v 77)], .agg [.int .i64 (.v 18), .int .i64 (.v 19), .int .i64 (.v 20), .int .i64 (.v 21), .int .i64 (.v 22), .int .i64 (.v 23), .slO 24 (.k 0) (.v 25) (.v 26)]] [] [(78, .b)] (.bool (.v 78)) .same
(.ite (.v 78)
(.ret (.bool (.k false)) [])
(.call 29 [] [] [(79, .i), (80, .i), (81, .i), (82, .i), (83, .i), (84, .i), (85, .p), (86, .n), (87, .n)] (.agg [.int .i64 (.v 79), .int .i64 (.v 80), .int .i64 (.v 81), .int .i64 (.v 82), .int .i64 (.v 83), .int .i64 (.v 84), .slO 85 (.k 0) (.v 86) (.v 87)]) .fresh
(.call 14 [.agg [.int .i64 (.v 79), .int .i64 (.v 80), .int .i64 (.v 81), .int .i64 (.v 82), .int .i64 (.v 83), .int .i64 (.v 84), .slO 85 (.k 0) (.v 86) (.v 87)], .agg [.int .i64 (.k 0), .int .i64 (.k 0), .int .i64 (.k 0), .int .i64 (.k 0), .int .i64 (.k 0), .int .i64 (.k 0), .c (Value.slice none 0 0)]] [] [(88, .b)] (.bool (.v 88)) .same
(.ite (.v 88)
(.all 3
(.all 4
(.all 5
(.call 13 [.agg [.int .i64 (.k 0), .int .i64 (.k 0), .int .i64 (.k 0), .int .i64 (.k 0), .int .i64 (.k 0), .int .i64 (.k 0), .slK 4 0 1 1], .agg [.int .i64 (.k 0), .int .i64 (.k 0), .int .i64 (.k 0), .int .i64 (.k 0), .int .i64 (.k 0), .int .i64 (.k 0), .slK 5 0 1 1]] [(4, ⟨[.int .i64 (.k 1), .int .i64 (.k 0), .int .i64 (.k 0), .slK 3 0 0 0], 59⟩), (3, ⟨[], 67⟩), (5, ⟨[.int .i64 (.k 1), .int .i64 (.k 0), .int .i64 (.k 0), .c (Value.slice none 0 0)], 59⟩)] [(89, .b)] (.bool (.v 89)) .same
(.ret (.bool (.v 89)) [])))))
(.ret (.bool (.k false)) [])))))))
(.ret (.bool (.k false)) [])))))
(.ret (.bool (.k false)) [])))
(.ret (.bool (.k false)) [])))
(.ret (.bool (.k false)) [])))
(.ret (.bool (.k false)) []))))
(.ret (.bool (.k false)) []))))))))))))))
theorem x_stateBegun (M : Nat → Prop) (H0 : Hp) (W0 : World) (R : Ending → World → Prop) (hH : H0.le (hpOf W0)) (h :
 (Cl Try.prog W0 M H0 nK 31 #[] fun z W1 W2 => ∃ x0 : Int, ∃ x1 : Int, ∃ x2 : Int, ∃ x3 : Int, ∃ x4 : Int, ∃ x5 : Int, ∃ x6 : Option Loc, ∃ x7 : Nat, ∃ x8 : Nat, z = .returned (Value.agg #[vi x0, vi x1, vi x2, vi x3, vi x4, vi x5, vsl x6 x7 x8]) ∧ Fr W1 W2 H0 fun H1 =>
 (∀ b0 : Nat,
 (Cl Try.prog W0 M H1 nK 31 #[] fun z W3 W4 => ∃ x9 : Int, ∃ x10 : Int, ∃ x11 : Int, ∃ x12 : Int, ∃ x13 : Int, ∃ x14 : Int, ∃ x15 : Option Loc, ∃ x16 : Nat, ∃ x17 : Nat, z = .returned (Value.agg #[vi x9, vi x10, vi x11, vi x12, vi x13, vi x14, vsl x15 x16 x17]) ∧ Fr W3 W4 H1 fun H2 =>
 (∀ b1 : Nat,
 (Cl Try.prog W0 M H2 nK 31 #[] fun z W5 W6 => ∃ x18 : Int, ∃ x19 : Int, ∃ x20 : Int, ∃ x21 : Int, ∃ x22 : Int, ∃ x23 : Int, ∃ x24 : Option Loc, ∃ x25 : Nat, ∃ x26 : Nat, z = .returned (Value.agg #[vi x18, vi x19, vi x20, vi x21, vi x22, vi x23, vsl x24 x25 x26]) ∧ Fr W5 W6 H2 fun H3 =>
 (∀ b2 : Nat,
 (((0 : Int) ≤ 0 ∧ 0 < (x25 : Int)) ∧ (((0 : Int) ≤ 0 ∧ 0 < (x25 : Int)) →
 (x24.isSome = true ∧ (x24.isSome = true →
 ((0 : Int) ≤ (0 + (0 * 4)) ∧ ((0 : Int) ≤ (0 + (0 * 4)) →
 (Es W0 M H3 nK fun W7 => Eo Try.prog (.storeO 57) [Value.pointer (ptrAt x24 ((0 + (0 * 4)) + 3)), Value.slice none 0 0] W7 (.skip) fun W8 => Tn W0 M H3 W7 W8 fun H4 =>
 (Cl Try.prog W0 M H4 nK 29 #[] fun z W9 W10 => ∃ x27 : Int, ∃ x28 : Int, ∃ x29 : Int, ∃ x30 : Int, ∃ x31 : Int, ∃ x32 : Int, ∃ x33 : Option Loc, ∃ x34 : Nat, ∃ x35 : Nat, z = .returned (Value.agg #[vi x27, vi x28, vi x29, vi x30, vi x31, vi x32, vsl x33 x34 x35]) ∧ Fr W9 W10 H4 fun H5 =>
 (Cl Try.prog W0 M H5 nK 11 #[Value.agg #[vi x27, vi x28, vi x29, vi x30, vi x31, vi x32, vsl x33 x34 x35]] fun z W11 W12 => ∃ x36 : Int, z = .returned (vi x36) ∧ Ext W11 W12 ∧
 ((x36 = 0 →
  (Cl Try.prog W0 M H5 nK 31 #[] fun z W13 W14 => ∃ x37 : Int, ∃ x38 : Int, ∃ x39 : Int, ∃ x40 : Int, ∃ x41 : Int, ∃ x42 : Int, ∃ x43 : Option Loc, ∃ x44 : Nat, ∃ x45 : Nat, z = .returned (Value.agg #[vi x37, vi x38, vi x39, vi x40, vi x41, vi x42, vsl x43 x44 x45]) ∧ Fr W13 W14 H5 fun H6 =>
  (Cl Try.prog W0 M H6 nK 11 #[Value.agg #[vi x37, vi x38, vi x39, vi x40, vi x41, vi x42, vsl x43 x44 x45]] fun z W15 W16 => ∃ x46 : Int, z = .returned (vi x46) ∧ Ext W15 W16 ∧
  ((x46 = 0 →
   (Cl Try.prog W0 M H6 nK 11 #[Value.agg #[vi x0, vi 8, vi x2, vi x3, vi x4, vi x5, vsl x6 x7 x8]] fun z W17 W18 => ∃ x47 : Int, z = .returned (vi x47) ∧ Ext W17 W18 ∧
   ((x47 = 1 →
    (Cl Try.prog W0 M H6 nK 11 #[Value.agg #[vi x9, vi 30, vi x11, vi x12, vi x13, vi x14, vsl x15 x16 x17]] fun z W19 W20 => ∃ x48 : Int, z = .returned (vi x48) ∧ Ext W19 W20 ∧
    ((x48 = 1 →
     (Cl Try.prog W0 M H6 nK 11 #[Value.agg #[vi 51, vi 0, vi 0, vi 0, vi 0, vi 0, Value.slice none 0 0]] fun z W21 W22 => ∃ x49 : Int, z = .returned (vi x49) ∧ Ext W21 W22 ∧
     ((x49 = 3 →
      (Cl Try.prog W0 M H6 nK 31 #[] fun z W23 W24 => ∃ x50 : Int, ∃ x51 : Int, ∃ x52 : Int, ∃ x53 : Int, ∃ x54 : Int, ∃ x55 : Int, ∃ x56 : Option Loc, ∃ x57 : Nat, ∃ x58 : Nat, z = .returned (Value.agg #[vi x50, vi x51, vi x52, vi x53, vi x54, vi x55, vsl x56 x57 x58]) ∧ Fr W23 W24 H6 fun H7 =>
      (Cl Try.prog W0 M H7 nK 31 #[] fun z W25 W26 => ∃ x59 : Int, ∃ x60 : Int, ∃ x61 : Int, ∃ x62 : Int, ∃ x63 : Int, ∃ x64 : Int, ∃ x65 : Option Loc, ∃ x66 : Nat, ∃ x67 : Nat, z = .returned (Value.agg #[vi x59, vi x60, vi x61, vi x62, vi x63, vi x64, vsl x65 x66 x67]) ∧ Fr W25 W26 H7 fun H8 =>
      (Cl Try.prog W0 M H8 nK 13 #[Value.agg #[vi x50, vi x51, vi x52, vi x53, vi x54, vi x55, vsl x56 x57 x58], Value.agg #[vi x59, vi x60, vi x61, vi x62, vi x63, vi x64, vsl x65 x66 x67]] fun z W27 W28 => ∃ x68 : Bool, z = .returned (vb (x68)) ∧ Ext W27 W28 ∧
      ((x68 = true →
       (Cl Try.prog W0 M H8 nK 31 #[] fun z W29 W30 => ∃ x69 : Int, ∃ x70 : Int, ∃ x71 : Int, ∃ x72 : Int, ∃ x73 : Int, ∃ x74 : Int, ∃ x75 : Option Loc, ∃ x76 : Nat, ∃ x77 : Nat, z = .returned (Value.agg #[vi x69, vi x70, vi x71, vi x72, vi x73, vi x74, vsl x75 x76 x77]) ∧ Fr W29 W30 H8 fun H9 =>
       (Cl Try.prog W0 M H9 nK 13 #[Value.agg #[vi x69, vi x70, vi x71, vi x72, vi x73, vi x74, vsl x75 x76 x77], Value.agg #[vi x18, vi x19, vi x20, vi x21, vi x22, vi x23, vsl x24 x25 x26]] fun z W31 W32 => ∃ x78 : Bool, z = .returned (vb (x78)) ∧ Ext W31 W32 ∧
       ((x78 = true →
        Rt R W0 M H9 nK (vb (false))) ∧
       (¬ (x78 = true) →
        (Cl Try.prog W0 M H9 nK 29 #[] fun z W33 W34 => ∃ x79 : Int, ∃ x80 : Int, ∃ x81 : Int, ∃ x82 : Int, ∃ x83 : Int, ∃ x84 : Int, ∃ x85 : Option Loc, ∃ x86 : Nat, ∃ x87 : Nat, z = .returned (Value.agg #[vi x79, vi x80, vi x81, vi x82, vi x83, vi x84, vsl x85 x86 x87]) ∧ Fr W33 W34 H9 fun H10 =>
        (Cl Try.prog W0 M H10 nK 14 #[Value.agg #[vi x79, vi x80, vi x81, vi x82, vi x83, vi x84, vsl x85 x86 x87], Value.agg #[vi 0, vi 0, vi 0, vi 0, vi 0, vi 0, Value.slice none 0 0]] fun z W35 W36 => ∃ x88 : Bool, z = .returned (vb (x88)) ∧ Ext W35 W36 ∧
        ((x88 = true →
         (∀ b3 : Nat,
         (∀ b4 : Nat,
         (∀ b5 : Nat,
         (Cl Try.prog W0 M H10 (fun W => Kn W0 M H10 W b4 (Obj.cells #[vi 1, vi 0, vi 0, Value.slice (some ⟨b3, 0, none⟩) 0 0] 59 (0, 0)) ∧ Kn W0 M H10 W b3 (Obj.cells #[] 67 (0, 0)) ∧ Kn W0 M H10 W b5 (Obj.cells #[vi 1, vi 0, vi 0, Value.slice none 0 0] 59 (0, 0)) ∧ True) 13 #[Value.agg #[vi 0, vi 0, vi 0, vi 0, vi 0, vi 0, Value.slice (some ⟨b4, 0, none⟩) 1 1], Value.agg #[vi 0, vi 0, vi 0, vi 0, vi 0, vi 0, Value.slice (some ⟨b5, 0, none⟩) 1 1]] fun z W37 W38 => ∃ x89 : Bool, z = .returned (vb (x89)) ∧ Ext W37 W38 ∧
         Rt R W0 M H10 nK (vb (x89))))))) ∧
        (¬ (x88 = true) →
         Rt R W0 M H10 nK (vb (false))))))))))) ∧
      (¬ (x68 = true) →
       Rt R W0 M H8 nK (vb (false)))))))) ∧
     (¬ (x49 = 3) →
      Rt R W0 M H6 nK (vb (false)))))) ∧
    (¬ (x48 = 1) →
     Rt R W0 M H6 nK (vb (false)))))) ∧
   (¬ (x47 = 1) →
    Rt R W0 M H6 nK (vb (false)))))) ∧
  (¬ (x46 = 0) →
   Rt R W0 M H6 nK (vb (false))))))) ∧
 (¬ (x36 = 0) →
  Rt R W0 M H5 nK (vb (false)))))))))))))))))))) :
  Calls Try.prog 10 #[] W0 R :=
  calls_sxA (M := M) (V := v_stateBegun) (hi := {}) (args := []) (nv := 0) (e := (fun _ => .i 0)) Try.func10 hH h (by kernel_rfl) (by kernel_rfl) (by kernel_rfl)
def v_stateTells : VC :=
(.all 0
(.all 1
(.call 10 [] [] [(18, .b)] (.bool (.v 18)) .same
(.ite (.v 18)
(.call 11 [.agg [.int .i64 (.v 0), .int .i64 (.v 1), .int .i64 (.v 2), .int .i64 (.v 3), .int .i64 (.v 4), .int .i64 (.v 5), .slO 6 (.k 0) (.v 7) (.v 8)]] [] [(19, .i)] (.int .i64 (.v 19)) .same
(.call 12 [.agg [.int .i64 (.v 0), .int .i64 (.v 1), .int .i64 (.v 2), .int .i64 (.v 3), .int .i64 (.v 4), .int .i64 (.v 5), .slO 6 (.k 0) (.v 7) (.v 8)]] [] [(20, .i)] (.int .i64 (.v 20)) .same
(.ite (.eq (.v 19) (.v 20))
(.call 13 [.agg [.int .i64 (.v 0), .int .i64 (.v 1), .int .i64 (.v 2), .int .i64 (.v 3), .int .i64 (.v 4), .int .i64 (.v 5), .slO 6 (.k 0) (.v 7) (.v 8)], .agg [.int .i64 (.v 9), .int .i64 (.v 10), .int .i64 (.v 11), .int .i64 (.v 12), .int .i64 (.v 13), .int .i64 (.v 14), .slO 15 (.k 0) (.v 16) (.v 17)]] [] [(21, .b)] (.bool (.v 21)) .same
(.call 14 [.agg [.int .i64 (.v 0), .int .i64 (.v 1), .int .i64 (.v 2), .int .i64 (.v 3), .int .i64 (.v 4), .int .i64 (.v 5), .slO 6 (.k 0) (.v 7) (.v 8)], .agg [.int .i64 (.v 9), .int .i64 (.v 10), .int .i64 (.v 11), .int .i64 (.v 12), .int .i64 (.v 13), .int .i64 (.v 14), .slO 15 (.k 0) (.v 16) (.v 17)]] [] [(22, .b)] (.bool (.v 22)) .same
(.esc (.bop .eql 4 (.tmp 16) (.tmp 19)) [.bool (.v 21), .bool (.v 22)] [] [(23, .b)] (some (.bool (.v 23))) .same
(.ret (.bool (.v 23)) []))))
(.ret (.bool (.k false)) []))))
(.ret (.bool (.k false)) [])))))
theorem x_stateTells (x0 : Int) (x1 : Int) (x2 : Int) (x3 : Int) (x4 : Int) (x5 : Int) (x6 : Option Loc) (x7 : Nat) (x8 : Nat) (x9 : Int) (x10 : Int) (x11 : Int) (x12 : Int) (x13 : Int) (x14 : Int) (x15 : Option Loc) (x16 : Nat) (x17 : Nat) (M : Nat → Prop) (H0 : Hp) (W0 : World) (R : Ending → World → Prop) (hH : H0.le (hpOf W0)) (h :
 (∀ b0 : Nat,
 (∀ b1 : Nat,
 (Cl Try.prog W0 M H0 nK 10 #[] fun z W1 W2 => ∃ x18 : Bool, z = .returned (vb (x18)) ∧ Ext W1 W2 ∧
 ((x18 = true →
  (Cl Try.prog W0 M H0 nK 11 #[Value.agg #[vi x0, vi x1, vi x2, vi x3, vi x4, vi x5, vsl x6 x7 x8]] fun z W3 W4 => ∃ x19 : Int, z = .returned (vi x19) ∧ Ext W3 W4 ∧
  (Cl Try.prog W0 M H0 nK 12 #[Value.agg #[vi x0, vi x1, vi x2, vi x3, vi x4, vi x5, vsl x6 x7 x8]] fun z W5 W6 => ∃ x20 : Int, z = .returned (vi x20) ∧ Ext W5 W6 ∧
  ((x19 = x20 →
   (Cl Try.prog W0 M H0 nK 13 #[Value.agg #[vi x0, vi x1, vi x2, vi x3, vi x4, vi x5, vsl x6 x7 x8], Value.agg #[vi x9, vi x10, vi x11, vi x12, vi x13, vi x14, vsl x15 x16 x17]] fun z W7 W8 => ∃ x21 : Bool, z = .returned (vb (x21)) ∧ Ext W7 W8 ∧
   (Cl Try.prog W0 M H0 nK 14 #[Value.agg #[vi x0, vi x1, vi x2, vi x3, vi x4, vi x5, vsl x6 x7 x8], Value.agg #[vi x9, vi x10, vi x11, vi x12, vi x13, vi x14, vsl x15 x16 x17]] fun z W9 W10 => ∃ x22 : Bool, z = .returned (vb (x22)) ∧ Ext W9 W10 ∧
   (Es W0 M H0 nK fun W11 => ∃ x23 : Bool, Eo Try.prog (.bop .eql 4 (.tmp 16) (.tmp 19)) [vb (x21), vb (x22)] W11 (.value (vb (x23))) fun W12 => Ext W11 W12 ∧
   Rt R W0 M H0 nK (vb (x23)))))) ∧
  (¬ (x19 = x20) →
   Rt R W0 M H0 nK (vb (false))))))) ∧
 (¬ (x18 = true) →
  Rt R W0 M H0 nK (vb (false)))))))) :
  Calls Try.prog 3 #[Value.agg #[vi x0, vi x1, vi x2, vi x3, vi x4, vi x5, vsl x6 x7 x8], Value.agg #[vi x9, vi x10, vi x11, vi x12, vi x13, vi x14, vsl x15 x16 x17]] W0 R :=
  calls_sxA (M := M) (V := v_stateTells) (hi := {}) (args := [.agg [.int .i64 (.v 0), .int .i64 (.v 1), .int .i64 (.v 2), .int .i64 (.v 3), .int .i64 (.v 4), .int .i64 (.v 5), .slO 6 (.k 0) (.v 7) (.v 8)], .agg [.int .i64 (.v 9), .int .i64 (.v 10), .int .i64 (.v 11), .int .i64 (.v 12), .int .i64 (.v 13), .int .i64 (.v 14), .slO 15 (.k 0) (.v 16) (.v 17)]]) (nv := 18) (e := (upd (upd (upd (upd (upd (upd (upd (upd (upd (upd (upd (upd (upd (upd (upd (upd (upd (upd (fun _ => .i 0) 0 (.i x0)) 1 (.i x1)) 2 (.i x2)) 3 (.i x3)) 4 (.i x4)) 5 (.i x5)) 6 (.p x6)) 7 (.n x7)) 8 (.n x8)) 9 (.i x9)) 10 (.i x10)) 11 (.i x11)) 12 (.i x12)) 13 (.i x13)) 14 (.i x14)) 15 (.p x15)) 16 (.n x16)) 17 (.n x17))) Try.func3 hH h (by kernel_rfl) (by kernel_rfl) (by kernel_rfl)
end Go.Proofs.Ytoilhpkclabhoaa
namespace Go.Proofs.Ytoilhpkclabhoaa
open Go.RowKit
set_option maxRecDepth 100000

theorem Gf.of_gv {P : Program} {f : Nat} {args : Array Value} {H : Hp} {v : Value} (h : Gv P f args H v) : Gf P f args H (fun u _ => u = v) := fun W hH => (h W hH).mono fun z W' ⟨hz, hx⟩ => ⟨v, noH, hz, hx, noH_le _, fun b o h => (by cases h), rfl⟩
def shopC (q2 q4 : Option Loc) (m2 d2 m4 d4 : Nat) : Obj := .cells #[vi 2, vi 2, vi 9, vsl q2 m2 d2, vi 4, vi 2, vi 9, vsl q4 m4 d4] 59 (0, 0)
/-- a shop, whose table is an array of its own -/
theorem c_shopO (H : Hp) : Gf Try.prog 31 #[] H fun v D => ∃ (b : Nat) (q2 : Option Loc) (m2 d2 : Nat) (q4 : Option Loc) (m4 d4 : Nat) (E : Hp), v = .agg #[vi 6, vi 10, vi 7, vi 0, vi 0, vi 1, vsl (some ((b : Blk), 0)) 2 2] ∧ D = addH E b (shopC q2 q4 m2 d2 m4 d4) ∧ E b = none ∧ Kept E q2 m2 d2 (rowS 2).kept ∧ Kept E q4 m4 d4 (rowS 4).kept := fun W hH => by
  refine x_shop noM H W _ hH fun b0 => ?_
  refine Cl.fresh (c_row 2 H) ?_
  rintro v W1 W2 D ⟨q2, m2, d2, rfl, k2⟩ hx hD hf n
  refine ⟨_, _, _, q2, m2, d2, rfl, hx, D, hD, hf, fun H1 le1 hD1 => ?_⟩
  replace k2 := k2.mono (le_newer hD1 (fun b o h => Nat.le_trans n.mod.size (hf b o h)))
  refine Cl.fresh (c_row 4 H1) ?_
  rintro v W3 W4 D2 ⟨q4, m4, d4, rfl, k4⟩ hx hD2 hf2 n2
  refine ⟨_, _, _, q4, m4, d4, rfl, hx, D2, hD2, hf2, fun H2 le2 hD3 b1 W5 n5 k5 => ?_⟩
  have hn : (newer W H1).le (newer W H2) := fun b o h => by
    unfold newer at h ⊢
    split at h
    · rename_i h1; rw [if_pos h1]; exact le2 b o h
    · cases h
  replace k2 := k2.mono hn
  replace k4 := k4.mono (le_newer hD3 (fun b o h => Nat.le_trans n2.mod.size (hf2 b o h)))
  have hk := k5.1
  have hb : newer W H2 b1 = none := by
    cases h : newer W H2 b1 with
    | none => rfl
    | some o => have := newer_le W H2 b1 o h; rw [hk.off] at this; cases this
  refine ⟨_, addH (newer W H2) b1 (shopC q2 q4 m2 d2 m4 d4), rfl, n5.ext, addH_le (Hp.le_trans (newer_le W H2) n5.sub) hk.eq, fun b o h => ?_, b1, q2, m2, d2, q4, m4, d4, _, rfl, rfl, hb, k2, k4⟩
  unfold addH at h
  split at h
  · rename_i h1
    subst h1
    exact hk.own.resolve_right fun h => h
  · exact newer_new W H2 b o h
def zT : List Ses := [⟨2, 2, 9, []⟩, rowS 4]
theorem shop_ne : ¬ (shopS = { shopS with table := zT }) := by decide
theorem c_stateBegun (H : Hp) : Gv Try.prog 10 #[] H (vb true) := fun W hH => by
  refine x_stateBegun noM H W _ hH ?_
  refine Cl.fresh (c_shop H) ?_
  rintro v W1 W2 D ⟨p1, n1, c1, rfl, t1⟩ hx hD hf n
  refine ⟨_, _, _, _, _, _, p1, n1, c1, rfl, hx, D, hD, hf, fun H1 le1 hD1 b0 => ?_⟩
  refine Cl.fresh (c_shop H1) ?_
  rintro v W3 W4 D2 ⟨p2, n2, c2, rfl, t2⟩ hx hD2 hf2 nn
  refine ⟨_, _, _, _, _, _, p2, n2, c2, rfl, hx, D2, hD2, hf2, fun H2 le2 hD3 b1 => ?_⟩
  refine Cl.fresh (c_shopO H2) ?_
  rintro v W5 W6 D3 ⟨b, q2, m2, d2, q4, m4, d4, E, rfl, rfl, hE, k2, k4⟩ hx hD4 hf4 n4
  refine ⟨_, _, _, _, _, _, some ((b : Blk), 0), 2, 2, rfl, hx, _, hD4, hf4, fun H3 le3 hD5 b2 => ?_⟩
  have hbW : W5.heap.size ≤ b := hf4 _ _ (addH_at ..)
  have hb2 : H2 b = none := old_none n4.sub hbW
  refine ⟨by omega, fun _ => ⟨rfl, fun _ => ⟨by omega, fun _ W7 n7 _ => ?_⟩⟩⟩
  obtain ⟨ti, z, i1, i2, i3, _⟩ := info_of (show infoIs Try.prog 57 1 24 = true by kernel_rfl)
  have hb3 : H3 b = some (shopC q2 q4 m2 d2 m4 d4) := hD5 _ _ (addH_at ..)
  have ho : Ow H3 59 4 (some ((b : Blk), 0)) 2 2 [[vi 2, vi 2, vi 9, vsl q2 m2 d2], [vi 4, vi 2, vi 9, vsl q4 m4 d4]] (some b) :=
    ⟨rfl, fun r hr => by
      simp only [List.mem_cons, List.not_mem_nil, or_false] at hr
      rcases hr with rfl | rfl
      · exact ⟨rfl, fun v hv => by simp only [List.mem_cons, List.not_mem_nil, or_false] at hv; rcases hv with rfl | rfl | rfl | rfl <;> rfl⟩
      · exact ⟨rfl, fun v hv => by simp only [List.mem_cons, List.not_mem_nil, or_false] at hv; rcases hv with rfl | rfl | rfl | rfl <;> rfl⟩, Nat.le_refl _, by simp [maxLen], .inr ⟨b, _, rfl, rfl, hb3, rfl, rfl⟩⟩
  obtain ⟨W8, H4, hrun, hu, ho4⟩ := ek_store (P := Try.prog) (t := 57) i1 n7.sub ho (i := 0) (j := 3) (vs := [.slice none 0 0]) (v := .slice none 0 0) rfl rfl i3 (by simp) (by simp) (fun u hu => by simp only [List.mem_singleton] at hu; subst hu; rfl) (off := 0 + 0 * 4 + 3) (by omega)
  refine ⟨W8, hrun, H4, hu.own ho (fun b' hb' => .inl (by simp only [Option.some.injEq] at hb'; subst hb'; exact Nat.le_trans n4.mod.size hbW)), ?_⟩
  have hEg : ∀ K : Hp, K.le H2 → K.le H4 := fun K hK => hu.keep n7.sub (Hp.le_trans hK le3) (fun b' hb' => by
    simp only [Option.some.injEq] at hb'; subst hb'
    cases hh : K b with
    | none => rfl
    | some o => rw [hK b o hh] at hb2; cases hb2)
  have t1' : Tab H4 p1 n1 c1 [rowS 2, rowS 4] := t1.mono (hEg D (Hp.le_trans hD1 le2))
  have t2' : Tab H4 p2 n2 c2 [rowS 2, rowS 4] := t2.mono (hEg D2 hD3)
  have hE3 : E.le H3 := Hp.le_trans (le_addH hE) hD5
  have hE4 : E.le H4 := hu.keep n7.sub hE3 (fun b' hb' => by simp only [Option.some.injEq] at hb'; subst hb'; exact hE)
  have tz : Tab H4 (some ((b : Blk), 0)) 2 2 zT :=
    ⟨Nat.le_refl _, by simp [maxLen], _, ho4.rows, .cons _ _ _ _ ⟨none, 0, 0, rfl, Kept.nil _ _⟩ (.one ⟨q4, m4, d4, rfl, k4.mono hE4⟩)⟩
  have hB := c_begin H4
  refine Cl.fresh (Gf.of_gv hB) ?_
  rintro v W9 W10 D5 rfl hx hD6 hf6 n6
  refine ⟨_, _, _, _, _, _, none, 0, 0, rfl, hx, D5, hD6, hf6, fun H5 le5 hD7 => ?_⟩
  have stz : ∀ {K : Hp}, Tab K none 0 0 Sta.zero.table := fun {K} => ⟨Nat.le_refl _, by simp [maxLen], [], Rows.nil _ _ _, .nil⟩
  refine Cl.same (c_stCheck (s := Sta.zero) stz) fun _ _ hx => ⟨_, rfl, hx, fun _ => ?_, fun h => absurd (by decide) h⟩
  refine Cl.fresh (c_shop H5) ?_
  rintro v W11 W12 D6 ⟨p3, n3, c3, rfl, t3⟩ hx hD8 hf8 n8
  refine ⟨_, _, _, _, _, _, p3, n3, c3, rfl, hx, D6, hD8, hf8, fun H6 le6 hD9 => ?_⟩
  replace t1' := (t1'.mono le5).mono le6
  replace t2' := (t2'.mono le5).mono le6
  replace tz := (tz.mono le5).mono le6
  replace t3 := t3.mono hD9
  refine Cl.same (c_stCheck (s := shopS) t3) fun _ _ hx => ⟨_, rfl, hx, fun _ => ?_, fun h => absurd (by decide) h⟩
  refine Cl.same (c_stCheck (s := { shopS with clock := 8 }) t1') fun _ _ hx => ⟨_, rfl, hx, fun _ => ?_, fun h => absurd (by decide) h⟩
  refine Cl.same (c_stCheck (s := { shopS with clock := 30 }) t2') fun _ _ hx => ⟨_, rfl, hx, fun _ => ?_, fun h => absurd (by decide) h⟩
  have h51 : Gv Try.prog 11 #[Value.agg #[vi 51, vi 0, vi 0, vi 0, vi 0, vi 0, Value.slice none 0 0]] H6 (vi 3) := by
    have h := c_stCheck (H := H6) (p := none) (n := 0) (c := 0) (s := ⟨51, 0, V4.zero, []⟩) ⟨Nat.le_refl _, by simp [maxLen], [], Rows.nil _ _ _, .nil⟩
    rw [show Sta.err ⟨51, 0, V4.zero, []⟩ = 3 from by decide] at h
    exact h
  refine Cl.same h51 fun _ _ hx => ⟨_, rfl, hx, fun _ => ?_, fun h => absurd rfl h⟩
  refine Cl.fresh (c_shop H6) ?_
  rintro v W13 W14 D7 ⟨p4, n4', c4, rfl, t4⟩ hx hD10 hf10 n10
  refine ⟨_, _, _, _, _, _, p4, n4', c4, rfl, hx, D7, hD10, hf10, fun H7 le7 hD11 => ?_⟩
  refine Cl.fresh (c_shop H7) ?_
  rintro v W15 W16 D8 ⟨p5, n5, c5, rfl, t5⟩ hx hD12 hf12 n12
  refine ⟨_, _, _, _, _, _, p5, n5, c5, rfl, hx, D8, hD12, hf12, fun H8 le8 hD13 => ?_⟩
  have hs1 := c_stSame (s := shopS) (t := shopS) ((t4.mono hD11).mono le8) (t5.mono hD13)
  rw [decide_eq_true rfl] at hs1
  refine Cl.same hs1 fun _ _ hx => ⟨_, rfl, hx, fun _ => ?_, fun h => absurd rfl h⟩
  replace tz := (tz.mono le7).mono le8
  refine Cl.fresh (c_shop H8) ?_
  rintro v W17 W18 D9 ⟨p6, n6', c6, rfl, t6⟩ hx hD14 hf14 n14
  refine ⟨_, _, _, _, _, _, p6, n6', c6, rfl, hx, D9, hD14, hf14, fun H9 le9 hD15 => ?_⟩
  have hs2 := c_stSame (s := shopS) (t := { shopS with table := zT }) (t6.mono hD15) (tz.mono le9)
  rw [decide_eq_false shop_ne] at hs2
  refine Cl.same hs2 fun _ _ hx => ⟨_, rfl, hx, fun h => (by cases h), fun _ => ?_⟩
  refine Cl.fresh (Gf.of_gv (c_begin H9)) ?_
  rintro v W19 W20 D10 rfl hx hD16 hf16 n16
  refine ⟨_, _, _, _, _, _, none, 0, 0, rfl, hx, D10, hD16, hf16, fun H10 le10 hD17 => ?_⟩
  have hs3 := c_sameOf (s := Sta.zero) (t := Sta.zero) (stz (K := H10)) stz
  rw [decide_eq_true rfl] at hs3
  refine Cl.same hs3 fun _ _ hx => ⟨_, rfl, hx, fun _ b3 b4 b5 => ?_, fun h => absurd rfl h⟩
  refine Cl.sameK (v := vb true) (fun W1 n1 kk => ?_) fun _ _ hx => ⟨_, rfl, hx, Rt.gv⟩
  obtain ⟨k4', k3', k5', _⟩ := kk
  refine ⟨_, addH_le (addH_le n1.sub k4'.eq) k5'.eq, ?_⟩
  by_cases h45 : b5 = b4
  · have e1 := k4'.eq
    rw [← h45, k5'.eq] at e1
    simp at e1
  have g4 : addH (addH H10 b4 (Obj.cells #[vi 1, vi 0, vi 0, Value.slice (some ⟨b3, 0, none⟩) 0 0] 59 (0, 0))) b5 (Obj.cells #[vi 1, vi 0, vi 0, Value.slice none 0 0] 59 (0, 0)) b4 = some (.cells #[vi 1, vi 0, vi 0, Value.slice (some ⟨b3, 0, none⟩) 0 0] 59 (0, 0)) := by
    unfold addH
    rw [if_neg (fun h => h45 h.symm), if_pos rfl]
  have := c_stSame (s := ⟨0, 0, V4.zero, [⟨1, 0, 0, []⟩]⟩) (t := ⟨0, 0, V4.zero, [⟨1, 0, 0, []⟩]⟩)
    (Tab.one' (s := ⟨1, 0, 0, []⟩) (q := some ((b3 : Blk), 0)) (m := 0) (d := 0) g4 (Kept.nil _ _))
    (Tab.one' (s := ⟨1, 0, 0, []⟩) (q := none) (m := 0) (d := 0) (addH_at ..) (Kept.nil _ _))
  rw [decide_eq_true rfl] at this
  exact this
theorem c_stateTells {H : Hp} {p p' : Option Loc} {n c n' c' : Nat} {s t : Sta} (hT : Tab H p n c s.table) (hT' : Tab H p' n' c' t.table) : Gv Try.prog 3 #[s.val (vsl p n c), t.val (vsl p' n' c')] H (vb true) := fun W hH => by
  refine x_stateTells _ _ _ _ _ _ p n c _ _ _ _ _ _ p' n' c' noM H W _ hH fun b0 b1 => ?_
  refine Cl.same (c_stateBegun H) fun _ _ hx => ⟨_, rfl, hx, fun _ => ?_, fun h => absurd rfl h⟩
  refine Cl.same (c_stCheck hT) fun _ _ hx => ⟨_, rfl, hx, ?_⟩
  refine Cl.same (c_stErr hT) fun _ _ hx => ⟨_, rfl, hx, fun _ => ?_, fun h => absurd rfl h⟩
  refine Cl.same (c_stSame hT hT') fun _ _ hx => ⟨_, rfl, hx, ?_⟩
  refine Cl.same (c_sameOf hT hT') fun _ _ hx => ⟨_, rfl, hx, fun W3 _ _ => ⟨_, _, ek_eq_bool _ _ _ _ _, Ext.refl _, Rt.gv' (by simp)⟩⟩
end Go.Proofs.Ytoilhpkclabhoaa
