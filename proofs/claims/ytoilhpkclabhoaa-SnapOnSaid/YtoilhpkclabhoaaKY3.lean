/- Symbolic runs of functions: what each leaves to prove is enough for its call. Printed by a program of ours. No conditions. Contracts: the laws of states as bytes. No conditions. -/
import Derived.Test.YtoilhpkclabhoaaKE3
import Derived.Test.YtoilhpkclabhoaaProg
import Derived.Test.YtoilhpkclabhoaaKY2
import Derived.Test.YtoilhpkclabhoaaKL1
import Derived.Laws.Concat
set_option linter.unusedVariables false
set_option linter.unusedSimpArgs false
namespace Go.Proofs.Ytoilhpkclabhoaa
open Go.RowKit
set_option maxRecDepth 100000
set_option maxHeartbeats 4000000
def v_snapBegun : VC :=
(.call 31 [] [] [(0, .i), (1, .i), (2, .i), (3, .i), (4, .i), (5, .i), (6, .p), (7, .n), (8, .n)] (.agg [.int .i64 (.v 0), .int .i64 (.v 1), .int .i64 (.v 2), .int .i64 (.v 3), .int .i64 (.v 4), .int .i64 (.v 5), .slO 6 (.k 0) (.v 7) (.v 8)]) .fresh
(.call 23 [.agg [.int .i64 (.v 0), .int .i64 (.v 1), .int .i64 (.v 2), .int .i64 (.v 3), .int .i64 (.v 4), .int .i64 (.v 5), .slO 6 (.k 0) (.v 7) (.v 8)]] [] [(9, .s), (10, .i)] (.tup [.str 9, .int .i64 (.v 10)]) .same
(.call 25 [.str 9] [] [(11, .i), (12, .i), (13, .i), (14, .i), (15, .i), (16, .i), (17, .p), (18, .n), (19, .n), (20, .i)] (.tup [.agg [.int .i64 (.v 11), .int .i64 (.v 12), .int .i64 (.v 13), .int .i64 (.v 14), .int .i64 (.v 15), .int .i64 (.v 16), .slO 17 (.k 0) (.v 18) (.v 19)], .int .i64 (.v 20)]) .fresh
(.all 0
(.esc (.bop .add 9 (.tmp 20) (.const (Value.string ⟨#[120]⟩))) [.str 9, .c (Value.string ⟨#[120]⟩)] [] [(21, .s)] (some (.str 21)) .same
(.call 25 [.str 21] [] [(22, .i), (23, .i), (24, .i), (25, .i), (26, .i), (27, .i), (28, .p), (29, .n), (30, .n), (31, .i)] (.tup [.agg [.int .i64 (.v 22), .int .i64 (.v 23), .int .i64 (.v 24), .int .i64 (.v 25), .int .i64 (.v 26), .int .i64 (.v 27), .slO 28 (.k 0) (.v 29) (.v 30)], .int .i64 (.v 31)]) .fresh
(.all 1
(.call 23 [.agg [.int .i64 (.k (-1)), .int .i64 (.k 0), .int .i64 (.k 0), .int .i64 (.k 0), .int .i64 (.k 0), .int .i64 (.k 0), .c (Value.slice none 0 0)]] [] [(32, .s), (33, .i)] (.tup [.str 32, .int .i64 (.v 33)]) .same
(.ite (.eq (.v 10) (.k 0))
(.ite (.eq (.v 20) (.k 0))
(.ite (.eq (.v 31) (.k 1))
(.ite (.eq (.v 33) (.k 3))
(.ite (.eq (.slen 9) (.k 34))
(.call 31 [] [] [(34, .i), (35, .i), (36, .i), (37, .i), (38, .i), (39, .i), (40, .p), (41, .n), (42, .n)] (.agg [.int .i64 (.v 34), .int .i64 (.v 35), .int .i64 (.v 36), .int .i64 (.v 37), .int .i64 (.v 38), .int .i64 (.v 39), .slO 40 (.k 0) (.v 41) (.v 42)]) .fresh
(.call 14 [.agg [.int .i64 (.v 11), .int .i64 (.v 12), .int .i64 (.v 13), .int .i64 (.v 14), .int .i64 (.v 15), .int .i64 (.v 16), .slO 17 (.k 0) (.v 18) (.v 19)], .agg [.int .i64 (.v 34), .int .i64 (.v 35), .int .i64 (.v 36), .int .i64 (.v 37), .int .i64 (.v 38), .int .i64 (.v 39), .slO 40 (.k 0) (.v 41) (.v 42)]] [] [(43, .b)] (.bool (.v 43)) .same
(.ret (.bool (.v 43)) [])))
(.ret (.bool (.k false)) []))
(.ret (.bool (.k false)) []))
(.ret (.bool (.k false)) []))
(.ret (.bool (.k false)) []))
(.ret (.bool (.k false)) []))))))))))
theorem x_snapBegun (M : Nat → Prop) (H0 : Hp) (W0 : World) (R : Ending → World → Prop) (hH : H0.le (hpOf W0)) (h :
 (Cl Try.prog W0 M H0 nK 31 #[] fun z W1 W2 => ∃ x0 : Int, ∃ x1 : Int, ∃ x2 : Int, ∃ x3 : Int, ∃ x4 : Int, ∃ x5 : Int, ∃ x6 : Option Loc, ∃ x7 : Nat, ∃ x8 : Nat, z = .returned (Value.agg #[vi x0, vi x1, vi x2, vi x3, vi x4, vi x5, vsl x6 x7 x8]) ∧ Fr W1 W2 H0 fun H1 =>
 (Cl Try.prog W0 M H1 nK 23 #[Value.agg #[vi x0, vi x1, vi x2, vi x3, vi x4, vi x5, vsl x6 x7 x8]] fun z W3 W4 => ∃ x9 : ByteArray, ∃ x10 : Int, z = .returned (Value.tuple #[Value.string x9, vi x10]) ∧ Ext W3 W4 ∧
 (Cl Try.prog W0 M H1 nK 25 #[Value.string x9] fun z W5 W6 => ∃ x11 : Int, ∃ x12 : Int, ∃ x13 : Int, ∃ x14 : Int, ∃ x15 : Int, ∃ x16 : Int, ∃ x17 : Option Loc, ∃ x18 : Nat, ∃ x19 : Nat, ∃ x20 : Int, z = .returned (Value.tuple #[Value.agg #[vi x11, vi x12, vi x13, vi x14, vi x15, vi x16, vsl x17 x18 x19], vi x20]) ∧ Fr W5 W6 H1 fun H2 =>
 (∀ b0 : Nat,
 (Es W0 M H2 nK fun W7 => ∃ x21 : ByteArray, Eo Try.prog (.bop .add 9 (.tmp 20) (.const (Value.string ⟨#[120]⟩))) [Value.string x9, Value.string ⟨#[120]⟩] W7 (.value (Value.string x21)) fun W8 => Ext W7 W8 ∧
 (Cl Try.prog W0 M H2 nK 25 #[Value.string x21] fun z W9 W10 => ∃ x22 : Int, ∃ x23 : Int, ∃ x24 : Int, ∃ x25 : Int, ∃ x26 : Int, ∃ x27 : Int, ∃ x28 : Option Loc, ∃ x29 : Nat, ∃ x30 : Nat, ∃ x31 : Int, z = .returned (Value.tuple #[Value.agg #[vi x22, vi x23, vi x24, vi x25, vi x26, vi x27, vsl x28 x29 x30], vi x31]) ∧ Fr W9 W10 H2 fun H3 =>
 (∀ b1 : Nat,
 (Cl Try.prog W0 M H3 nK 23 #[Value.agg #[vi (-1), vi 0, vi 0, vi 0, vi 0, vi 0, Value.slice none 0 0]] fun z W11 W12 => ∃ x32 : ByteArray, ∃ x33 : Int, z = .returned (Value.tuple #[Value.string x32, vi x33]) ∧ Ext W11 W12 ∧
 ((x10 = 0 →
  ((x20 = 0 →
   ((x31 = 1 →
    ((x33 = 3 →
     (((x9.size : Int) = 34 →
      (Cl Try.prog W0 M H3 nK 31 #[] fun z W13 W14 => ∃ x34 : Int, ∃ x35 : Int, ∃ x36 : Int, ∃ x37 : Int, ∃ x38 : Int, ∃ x39 : Int, ∃ x40 : Option Loc, ∃ x41 : Nat, ∃ x42 : Nat, z = .returned (Value.agg #[vi x34, vi x35, vi x36, vi x37, vi x38, vi x39, vsl x40 x41 x42]) ∧ Fr W13 W14 H3 fun H4 =>
      (Cl Try.prog W0 M H4 nK 14 #[Value.agg #[vi x11, vi x12, vi x13, vi x14, vi x15, vi x16, vsl x17 x18 x19], Value.agg #[vi x34, vi x35, vi x36, vi x37, vi x38, vi x39, vsl x40 x41 x42]] fun z W15 W16 => ∃ x43 : Bool, z = .returned (vb (x43)) ∧ Ext W15 W16 ∧
      Rt R W0 M H4 nK (vb (x43))))) ∧
     (¬ ((x9.size : Int) = 34) →
      Rt R W0 M H3 nK (vb (false))))) ∧
    (¬ (x33 = 3) →
     Rt R W0 M H3 nK (vb (false))))) ∧
   (¬ (x31 = 1) →
    Rt R W0 M H3 nK (vb (false))))) ∧
  (¬ (x20 = 0) →
   Rt R W0 M H3 nK (vb (false))))) ∧
 (¬ (x10 = 0) →
  Rt R W0 M H3 nK (vb (false))))))))))))) :
  Calls Try.prog 26 #[] W0 R :=
  calls_sxA (M := M) (V := v_snapBegun) (hi := {}) (args := []) (nv := 0) (e := (fun _ => .i 0)) Try.func26 hH h (by kernel_rfl) (by kernel_rfl) (by kernel_rfl)
def v_snapOn : VC :=
(.call 29 [] [] [(4, .i), (5, .i), (6, .i), (7, .i), (8, .i), (9, .i), (10, .p), (11, .n), (12, .n)] (.agg [.int .i64 (.v 4), .int .i64 (.v 5), .int .i64 (.v 6), .int .i64 (.v 7), .int .i64 (.v 8), .int .i64 (.v 9), .slO 10 (.k 0) (.v 11) (.v 12)]) .fresh
(.call 28 [.agg [.int .i64 (.v 4), .int .i64 (.v 5), .int .i64 (.v 6), .int .i64 (.v 7), .int .i64 (.v 8), .int .i64 (.v 9), .slO 10 (.k 0) (.v 11) (.v 12)], .slO 0 (.k 0) (.v 1) (.v 2)] [] [(13, .i), (14, .i), (15, .i), (16, .i), (17, .i), (18, .i), (19, .p), (20, .n), (21, .n), (22, .p), (23, .n), (24, .n), (25, .i)] (.tup [.agg [.int .i64 (.v 13), .int .i64 (.v 14), .int .i64 (.v 15), .int .i64 (.v 16), .int .i64 (.v 17), .int .i64 (.v 18), .slO 19 (.k 0) (.v 20) (.v 21)], .slO 22 (.k 0) (.v 23) (.v 24), .int .i64 (.v 25)]) .fresh
(.all 0
(.ite (.eq (.v 25) (.k 0))
(.chk (.le (.k 0) (.v 1))
(.chk (.rng .i64 (.add (.v 1) (.k 1)))
(.call 22 [.int .i64 (.v 3), .int .i64 (.add (.v 1) (.k 1))] [] [(26, .i)] (.int .i64 (.v 26)) .same
(.chk (.le (.k 0) (.v 26))
(.chk (.le (.v 26) (.v 2))
(.call 29 [] [] [(27, .i), (28, .i), (29, .i), (30, .i), (31, .i), (32, .i), (33, .p), (34, .n), (35, .n)] (.agg [.int .i64 (.v 27), .int .i64 (.v 28), .int .i64 (.v 29), .int .i64 (.v 30), .int .i64 (.v 31), .int .i64 (.v 32), .slO 33 (.k 0) (.v 34) (.v 35)]) .fresh
(.call 28 [.agg [.int .i64 (.v 27), .int .i64 (.v 28), .int .i64 (.v 29), .int .i64 (.v 30), .int .i64 (.v 31), .int .i64 (.v 32), .slO 33 (.k 0) (.v 34) (.v 35)], .slO 0 (.k 0) (.v 26) (.v 2)] [] [(36, .i), (37, .i), (38, .i), (39, .i), (40, .i), (41, .i), (42, .p), (43, .n), (44, .n), (45, .p), (46, .n), (47, .n), (48, .i)] (.tup [.agg [.int .i64 (.v 36), .int .i64 (.v 37), .int .i64 (.v 38), .int .i64 (.v 39), .int .i64 (.v 40), .int .i64 (.v 41), .slO 42 (.k 0) (.v 43) (.v 44)], .slO 45 (.k 0) (.v 46) (.v 47), .int .i64 (.v 48)]) .fresh
(.all 1
(.call 23 [.agg [.int .i64 (.v 36), .int .i64 (.v 37), .int .i64 (.v 38), .int .i64 (.v 39), .int .i64 (.v 40), .int .i64 (.v 41), .slO 42 (.k 0) (.v 43) (.v 44)]] [] [(49, .s), (50, .i)] (.tup [.str 49, .int .i64 (.v 50)]) .same
(.call 25 [.str 49] [] [(51, .i), (52, .i), (53, .i), (54, .i), (55, .i), (56, .i), (57, .p), (58, .n), (59, .n), (60, .i)] (.tup [.agg [.int .i64 (.v 51), .int .i64 (.v 52), .int .i64 (.v 53), .int .i64 (.v 54), .int .i64 (.v 55), .int .i64 (.v 56), .slO 57 (.k 0) (.v 58) (.v 59)], .int .i64 (.v 60)]) .fresh
(.all 2
(.chk (.le (.v 26) (.v 1))
(.chk (.le (.v 1) (.v 2))
(.call 28 [.agg [.int .i64 (.v 51), .int .i64 (.v 52), .int .i64 (.v 53), .int .i64 (.v 54), .int .i64 (.v 55), .int .i64 (.v 56), .slO 57 (.k 0) (.v 58) (.v 59)], .slO 0 (.add (.k 0) (.skip (.v 2) (.v 26) 9)) (.sub (.v 1) (.v 26)) (.sub (.v 2) (.v 26))] [] [(61, .i), (62, .i), (63, .i), (64, .i), (65, .i), (66, .i), (67, .p), (68, .n), (69, .n), (70, .p), (71, .n), (72, .n), (73, .i)] (.tup [.agg [.int .i64 (.v 61), .int .i64 (.v 62), .int .i64 (.v 63), .int .i64 (.v 64), .int .i64 (.v 65), .int .i64 (.v 66), .slO 67 (.k 0) (.v 68) (.v 69)], .slO 70 (.k 0) (.v 71) (.v 72), .int .i64 (.v 73)]) .fresh
(.all 3
(.call 26 [] [] [(74, .b)] (.bool (.v 74)) .same
(.ite (.v 74)
(.ite (.eq (.v 48) (.k 0))
(.ite (.eq (.v 50) (.k 0))
(.ite (.eq (.v 60) (.k 0))
(.ite (.eq (.v 73) (.k 0))
(.call 14 [.agg [.int .i64 (.v 13), .int .i64 (.v 14), .int .i64 (.v 15), .int .i64 (.v 16), .int .i64 (.v 17), .int .i64 (.v 18), .slO 19 (.k 0) (.v 20) (.v 21)], .agg [.int .i64 (.v 61), .int .i64 (.v 62), .int .i64 (.v 63), .int .i64 (.v 64), .int .i64 (.v 65), .int .i64 (.v 66), .slO 67 (.k 0) (.v 68) (.v 69)]] [] [(75, .b)] (.bool (.v 75)) .same
(.ite (.v 75)
(.all 4
(.esc (.bi .append #[43, 43] 43) [.slK 4 0 0 0, .slO 45 (.k 0) (.v 46) (.v 47)] [(4, ⟨[], 3⟩)] [(76, .p), (77, .n), (78, .n)] (some (.slO 76 (.k 0) (.v 77) (.v 78))) .turn
(.esc (.bi .append #[43, 43] 43) [.slO 76 (.k 0) (.v 77) (.v 78), .slO 70 (.k 0) (.v 71) (.v 72)] [] [(79, .p), (80, .n), (81, .n)] (some (.slO 79 (.k 0) (.v 80) (.v 81))) .turn
(.call 30 [.slO 22 (.k 0) (.v 23) (.v 24), .slO 79 (.k 0) (.v 80) (.v 81)] [] [(82, .b)] (.bool (.v 82)) .same
(.ret (.bool (.v 82)) [])))))
(.ret (.bool (.k false)) [])))
(.ret (.bool (.k false)) []))
(.ret (.bool (.k false)) []))
(.ret (.bool (.k false)) []))
(.ret (.bool (.k false)) []))
(.ret (.bool (.k false)) []))))))))))))))))))
(.call 26 [] [] [(26, .b)] (.bool (.v 26)) .same
(.ret (.bool (.v 26)) []))))))
theorem x_snapOn (x0 : Option Loc) (x1 : Nat) (x2 : Nat) (x3 : Int) (M : Nat → Prop) (H0 : Hp) (W0 : World) (R : Ending → World → Prop) (hH : H0.le (hpOf W0)) (h :
 (Cl Try.prog W0 M H0 nK 29 #[] fun z W1 W2 => ∃ x4 : Int, ∃ x5 : Int, ∃ x6 : Int, ∃ x7 : Int, ∃ x8 : Int, ∃ x9 : Int, ∃ x10 : Option Loc, ∃ x11 : Nat, ∃ x12 : Nat, z = .returned (Value.agg #[vi x4, vi x5, vi x6, vi x7, vi x8, vi x9, vsl x10 x11 x12]) ∧ Fr W1 W2 H0 fun H1 =>
 (Cl Try.prog W0 M H1 nK 28 #[Value.agg #[vi x4, vi x5, vi x6, vi x7, vi x8, vi x9, vsl x10 x11 x12], vsl x0 x1 x2] fun z W3 W4 => ∃ x13 : Int, ∃ x14 : Int, ∃ x15 : Int, ∃ x16 : Int, ∃ x17 : Int, ∃ x18 : Int, ∃ x19 : Option Loc, ∃ x20 : Nat, ∃ x21 : Nat, ∃ x22 : Option Loc, ∃ x23 : Nat, ∃ x24 : Nat, ∃ x25 : Int, z = .returned (Value.tuple #[Value.agg #[vi x13, vi x14, vi x15, vi x16, vi x17, vi x18, vsl x19 x20 x21], vsl x22 x23 x24, vi x25]) ∧ Fr W3 W4 H1 fun H2 =>
 (∀ b0 : Nat,
 ((x25 = 0 →
  (0 ≤ (x1 : Int) ∧ (0 ≤ (x1 : Int) →
  (inKind .i64 ((x1 : Int) + 1) ∧ (inKind .i64 ((x1 : Int) + 1) →
  (Cl Try.prog W0 M H2 nK 22 #[vi x3, vi ((x1 : Int) + 1)] fun z W5 W6 => ∃ x26 : Int, z = .returned (vi x26) ∧ Ext W5 W6 ∧
  (0 ≤ x26 ∧ (0 ≤ x26 →
  (x26 ≤ (x2 : Int) ∧ (x26 ≤ (x2 : Int) →
  (Cl Try.prog W0 M H2 nK 29 #[] fun z W7 W8 => ∃ x27 : Int, ∃ x28 : Int, ∃ x29 : Int, ∃ x30 : Int, ∃ x31 : Int, ∃ x32 : Int, ∃ x33 : Option Loc, ∃ x34 : Nat, ∃ x35 : Nat, z = .returned (Value.agg #[vi x27, vi x28, vi x29, vi x30, vi x31, vi x32, vsl x33 x34 x35]) ∧ Fr W7 W8 H2 fun H3 =>
  (Cl Try.prog W0 M H3 nK 28 #[Value.agg #[vi x27, vi x28, vi x29, vi x30, vi x31, vi x32, vsl x33 x34 x35], vsl x0 (x26).toNat x2] fun z W9 W10 => ∃ x36 : Int, ∃ x37 : Int, ∃ x38 : Int, ∃ x39 : Int, ∃ x40 : Int, ∃ x41 : Int, ∃ x42 : Option Loc, ∃ x43 : Nat, ∃ x44 : Nat, ∃ x45 : Option Loc, ∃ x46 : Nat, ∃ x47 : Nat, ∃ x48 : Int, z = .returned (Value.tuple #[Value.agg #[vi x36, vi x37, vi x38, vi x39, vi x40, vi x41, vsl x42 x43 x44], vsl x45 x46 x47, vi x48]) ∧ Fr W9 W10 H3 fun H4 =>
  (∀ b1 : Nat,
  (Cl Try.prog W0 M H4 nK 23 #[Value.agg #[vi x36, vi x37, vi x38, vi x39, vi x40, vi x41, vsl x42 x43 x44]] fun z W11 W12 => ∃ x49 : ByteArray, ∃ x50 : Int, z = .returned (Value.tuple #[Value.string x49, vi x50]) ∧ Ext W11 W12 ∧
  (Cl Try.prog W0 M H4 nK 25 #[Value.string x49] fun z W13 W14 => ∃ x51 : Int, ∃ x52 : Int, ∃ x53 : Int, ∃ x54 : Int, ∃ x55 : Int, ∃ x56 : Int, ∃ x57 : Option Loc, ∃ x58 : Nat, ∃ x59 : Nat, ∃ x60 : Int, z = .returned (Value.tuple #[Value.agg #[vi x51, vi x52, vi x53, vi x54, vi x55, vi x56, vsl x57 x58 x59], vi x60]) ∧ Fr W13 W14 H4 fun H5 =>
  (∀ b2 : Nat,
  (x26 ≤ (x1 : Int) ∧ (x26 ≤ (x1 : Int) →
  ((x1 : Int) ≤ (x2 : Int) ∧ ((x1 : Int) ≤ (x2 : Int) →
  (Cl Try.prog W0 M H5 nK 28 #[Value.agg #[vi x51, vi x52, vi x53, vi x54, vi x55, vi x56, vsl x57 x58 x59], Value.slice (ptrAt x0 (0 + (if (x2 : Int) = x26 then 0 else x26 * ((9 : Nat) : Int)))) (((x1 : Int) - x26) : Int).toNat (((x2 : Int) - x26) : Int).toNat] fun z W15 W16 => ∃ x61 : Int, ∃ x62 : Int, ∃ x63 : Int, ∃ x64 : Int, ∃ x65 : Int, ∃ x66 : Int, ∃ x67 : Option Loc, ∃ x68 : Nat, ∃ x69 : Nat, ∃ x70 : Option Loc, ∃ x71 : Nat, ∃ x72 : Nat, ∃ x73 : Int, z = .returned (Value.tuple #[Value.agg #[vi x61, vi x62, vi x63, vi x64, vi x65, vi x66, vsl x67 x68 x69], vsl x70 x71 x72, vi x73]) ∧ Fr W15 W16 H5 fun H6 =>
  (∀ b3 : Nat,
  (Cl Try.prog W0 M H6 nK 26 #[] fun z W17 W18 => ∃ x74 : Bool, z = .returned (vb (x74)) ∧ Ext W17 W18 ∧
  ((x74 = true →
   ((x48 = 0 →
    ((x50 = 0 →
     ((x60 = 0 →
      ((x73 = 0 →
       (Cl Try.prog W0 M H6 nK 14 #[Value.agg #[vi x13, vi x14, vi x15, vi x16, vi x17, vi x18, vsl x19 x20 x21], Value.agg #[vi x61, vi x62, vi x63, vi x64, vi x65, vi x66, vsl x67 x68 x69]] fun z W19 W20 => ∃ x75 : Bool, z = .returned (vb (x75)) ∧ Ext W19 W20 ∧
       ((x75 = true →
        (∀ b4 : Nat,
        (Es W0 M H6 (fun W => Kn W0 M H6 W b4 (Obj.cells #[] 3 (0, 0)) ∧ True) fun W21 => ∃ x76 : Option Loc, ∃ x77 : Nat, ∃ x78 : Nat, Eo Try.prog (.bi .append #[43, 43] 43) [Value.slice (some ⟨b4, 0, none⟩) 0 0, vsl x45 x46 x47] W21 (.value (vsl x76 x77 x78)) fun W22 => Tn W0 M H6 W21 W22 fun H7 =>
        (Es W0 M H7 nK fun W23 => ∃ x79 : Option Loc, ∃ x80 : Nat, ∃ x81 : Nat, Eo Try.prog (.bi .append #[43, 43] 43) [vsl x76 x77 x78, vsl x70 x71 x72] W23 (.value (vsl x79 x80 x81)) fun W24 => Tn W0 M H7 W23 W24 fun H8 =>
        (Cl Try.prog W0 M H8 nK 30 #[vsl x22 x23 x24, vsl x79 x80 x81] fun z W25 W26 => ∃ x82 : Bool, z = .returned (vb (x82)) ∧ Ext W25 W26 ∧
        Rt R W0 M H8 nK (vb (x82))))))) ∧
       (¬ (x75 = true) →
        Rt R W0 M H6 nK (vb (false)))))) ∧
      (¬ (x73 = 0) →
       Rt R W0 M H6 nK (vb (false))))) ∧
     (¬ (x60 = 0) →
      Rt R W0 M H6 nK (vb (false))))) ∧
    (¬ (x50 = 0) →
     Rt R W0 M H6 nK (vb (false))))) ∧
   (¬ (x48 = 0) →
    Rt R W0 M H6 nK (vb (false))))) ∧
  (¬ (x74 = true) →
   Rt R W0 M H6 nK (vb (false))))))))))))))))))))))))))) ∧
 (¬ (x25 = 0) →
  (Cl Try.prog W0 M H2 nK 26 #[] fun z W5 W6 => ∃ x26 : Bool, z = .returned (vb (x26)) ∧ Ext W5 W6 ∧
  Rt R W0 M H2 nK (vb (x26))))))))) :
  Calls Try.prog 9 #[vsl x0 x1 x2, vi x3] W0 R :=
  calls_sxA (M := M) (V := v_snapOn) (hi := {}) (args := [.slO 0 (.k 0) (.v 1) (.v 2), .int .i64 (.v 3)]) (nv := 4) (e := (upd (upd (upd (upd (fun _ => .i 0) 0 (.p x0)) 1 (.n x1)) 2 (.n x2)) 3 (.i x3))) Try.func9 hH h (by kernel_rfl) (by kernel_rfl) (by kernel_rfl)
end Go.Proofs.Ytoilhpkclabhoaa
namespace Go.Proofs.Ytoilhpkclabhoaa
open Go.RowKit

theorem ek_str_add {W : World} (x y : Operand) (a b : List UInt8) (ha : a.length ≤ 1000000) (hb : b.length ≤ 1000000) : (EK.sem (.bop .add 9 x y) [.string (bs a), .string (bs b)]).run Try.prog W = .ok (.value (.string (bs (a ++ b)))) W := by
  have h := run_string_add_lists (P := Try.prog) W a b (by omega) (by omega)
  simp only [EK.sem, eqGuard, List.getD_cons_zero, List.getD_cons_succ, binOp_string_add, Sem.run_bind, Sem.run_pure]
  have h' : (Op.stringOp .add (bs a) (bs b)).run Try.prog W = .ok (.string (bs (a ++ b))) W := h
  simp [h', Result.andThen_ok, Sem.run_pure]
theorem tab0 (D : Hp) (p : Option Loc) : Tab D p 0 0 [] := ⟨Nat.le_refl _, by simp [maxLen], [], Rows.nil _ _ _, .nil⟩
theorem sRead_enc {s : Sta} (h : StOk s) : sRead (encT s) = (s, 0) := by
  unfold sRead
  have := encT_len h
  rw [if_neg (by omega), unT_iff.2 ⟨Sta.err_ok.2 h, rfl⟩]
theorem sWrite_ok {s : Sta} (h : StOk s) : sWrite s = (encT s, 0) := if_pos (Sta.err_ok.2 h)
theorem shop_len : (encT shopS).length = 34 := by decide +kernel
theorem shop_write : sWrite shopS = (encT shopS, 0) := by decide +kernel
theorem shop_read : sRead (encT shopS) = (shopS, 0) := sRead_enc (Sta.err_ok.1 (by decide +kernel))
theorem shop_more : (sRead (encT shopS ++ [120])).2 = 1 := by decide +kernel
theorem bad_write : (sWrite ⟨-1, 0, ⟨0, 0, 0, 0⟩, []⟩).2 = 3 := by decide +kernel
theorem c_snapBegun (H : Hp) : Gv Try.prog 26 #[] H (vb true) := fun W hH => by
  refine x_snapBegun noM H W _ hH ?_
  refine Cl.fresh (c_shop H) ?_
  rintro v W1 W2 D ⟨p, n, c, rfl, hT⟩ hx hD hf nn
  refine ⟨_, _, _, _, _, _, p, n, c, rfl, hx, D, hD, hf, fun H1 h1 hd1 => ?_⟩
  refine Cl.same (c_snapWrite (s := shopS) (hT.mono hd1)) fun _ _ hx => ⟨_, _, rfl, hx, ?_⟩
  rw [shop_write]
  refine Cl.fresh (c_snapRead (l := encT shopS)) ?_
  rw [shop_read]
  rintro v W1 W2 D ⟨p1, n1, c1, rfl, hT1⟩ hx hD hf nn
  refine ⟨_, _, _, _, _, _, p1, n1, c1, _, rfl, hx, D, hD, hf, fun H2 h2 hd2 b0 W3 n3 _ => ?_⟩
  refine ⟨_, _, ek_str_add _ _ (encT shopS) [120] (by rw [shop_len]; omega) (by simp), Ext.refl _, ?_⟩
  refine Cl.fresh (c_snapRead (l := encT shopS ++ [120])) ?_
  rintro v W1 W2 D ⟨p2, n2, c2, rfl, _⟩ hx hD hf nn
  refine ⟨_, _, _, _, _, _, p2, n2, c2, _, rfl, hx, D, hD, hf, fun H3 h3 hd3 b1 => ?_⟩
  refine Cl.same (c_snapWrite (s := ⟨-1, 0, ⟨0, 0, 0, 0⟩, []⟩) (p := none) (n := 0) (c := 0) (tab0 _ _)) fun _ _ hx => ⟨_, _, rfl, hx, fun _ => ⟨fun _ => ⟨fun _ => ⟨fun _ => ⟨fun _ => ?_, fun h => absurd ?_ h⟩, fun h => absurd bad_write h⟩, fun h => absurd shop_more h⟩, fun h => absurd rfl h⟩, fun h => absurd rfl h⟩
  · refine Cl.fresh (c_shop H3) ?_
    rintro v W1 W2 D ⟨p4, n4, c4, rfl, hT4⟩ hx hD hf nn
    refine ⟨_, _, _, _, _, _, p4, n4, c4, rfl, hx, D, hD, hf, fun H4 h4 hd4 => ?_⟩
    refine Cl.same (c_sameOf (s := shopS) (t := shopS) (((hT1.mono hd2).mono h3).mono h4) (hT4.mono hd4)) fun _ _ hx => ⟨_, rfl, hx, Rt.gv' (by rw [decide_eq_true rfl])⟩
  · rw [bs_size, shop_len]; rfl
end Go.Proofs.Ytoilhpkclabhoaa
