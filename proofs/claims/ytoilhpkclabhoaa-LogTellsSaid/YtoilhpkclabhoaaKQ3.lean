/- Symbolic runs of functions: what each leaves to prove is enough for its call. Printed by a program of ours. No conditions. Contracts: the laws of entries as bytes. No conditions. -/
import Derived.Test.YtoilhpkclabhoaaKE3
import Derived.Test.YtoilhpkclabhoaaProg
import Derived.Test.YtoilhpkclabhoaaKQ2
import Derived.Test.YtoilhpkclabhoaaKP1
import Derived.Test.YtoilhpkclabhoaaKY3
set_option linter.unusedVariables false
set_option linter.unusedSimpArgs false
namespace Go.Proofs.Ytoilhpkclabhoaa
open Go.RowKit
set_option maxRecDepth 100000
set_option maxHeartbeats 4000000
def v_logBegun : VC :=
(.call 50 [.int .i64 (.k 300), .int .i64 (.k 1)] [] [(0, .i), (1, .i), (2, .i), (3, .i), (4, .i), (5, .i), (6, .i), (7, .i), (8, .i)] (.agg [.int .i64 (.v 0), .int .i64 (.v 1), .int .i64 (.v 2), .int .i64 (.v 3), .int .i64 (.v 4), .int .i64 (.v 5), .int .i64 (.v 6), .int .i64 (.v 7), .int .i64 (.v 8)]) .same
(.call 15 [.agg [.int .i64 (.v 0), .int .i64 (.v 1), .int .i64 (.v 2), .int .i64 (.v 3), .int .i64 (.v 4), .int .i64 (.v 5), .int .i64 (.v 6), .int .i64 (.v 7), .int .i64 (.v 8)]] [] [(9, .s), (10, .i)] (.tup [.str 9, .int .i64 (.v 10)]) .same
(.call 52 [.int .i64 (.k (-5))] [] [(11, .i), (12, .i), (13, .i), (14, .i)] (.agg [.int .i64 (.v 11), .int .i64 (.v 12), .int .i64 (.v 13), .int .i64 (.v 14)]) .same
(.call 51 [.int .i64 (.k 2), .int .i64 (.k 1), .int .i64 (.k 1), .int .i64 (.k 0), .agg [.int .i64 (.v 11), .int .i64 (.v 12), .int .i64 (.v 13), .int .i64 (.v 14)]] [] [(15, .i), (16, .i), (17, .i), (18, .i), (19, .i), (20, .i), (21, .i), (22, .i), (23, .i)] (.agg [.int .i64 (.v 15), .int .i64 (.v 16), .int .i64 (.v 17), .int .i64 (.v 18), .int .i64 (.v 19), .int .i64 (.v 20), .int .i64 (.v 21), .int .i64 (.v 22), .int .i64 (.v 23)]) .same
(.call 15 [.agg [.int .i64 (.v 15), .int .i64 (.v 16), .int .i64 (.v 17), .int .i64 (.v 18), .int .i64 (.v 19), .int .i64 (.v 20), .int .i64 (.v 21), .int .i64 (.v 22), .int .i64 (.v 23)]] [] [(24, .s), (25, .i)] (.tup [.str 24, .int .i64 (.v 25)]) .same
(.esc (.bop .add 9 (.tmp 25) (.tmp 26)) [.str 9, .str 24] [] [(26, .s)] (some (.str 26)) .same
(.esc (.bop .add 9 (.tmp 27) (.const (Value.string ⟨#[1]⟩))) [.str 26, .c (Value.string ⟨#[1]⟩)] [] [(27, .s)] (some (.str 27)) .same
(.call 18 [.str 27] [] [(28, .p), (29, .n), (30, .n), (31, .i), (32, .i)] (.tup [.slO 28 (.k 0) (.v 29) (.v 30), .int .i64 (.v 31), .int .i64 (.v 32)]) .fresh
(.call 15 [.agg [.int .i64 (.k 0), .int .i64 (.k 0), .int .i64 (.k 0), .int .i64 (.k 0), .int .i64 (.k 0), .int .i64 (.k 0), .int .i64 (.k 0), .int .i64 (.k 0), .int .i64 (.k 0)]] [] [(33, .s), (34, .i)] (.tup [.str 33, .int .i64 (.v 34)]) .same
(.esc (.mkSlice 71) [.int .i64 (.k 4097), .int .i64 (.k 4097)] [] [(35, .p), (36, .n), (37, .n)] (some (.slO 35 (.k 0) (.v 36) (.v 37))) .fresh
(.esc (.conv 71 9) [.slO 35 (.k 0) (.v 36) (.v 37)] [] [(38, .s)] (some (.str 38)) .same
(.call 18 [.str 38] [] [(39, .p), (40, .n), (41, .n), (42, .i), (43, .i)] (.tup [.slO 39 (.k 0) (.v 40) (.v 41), .int .i64 (.v 42), .int .i64 (.v 43)]) .fresh
(.ite (.eq (.v 10) (.k 0))
(.ite (.eq (.v 25) (.k 0))
(.ite (.eq (.v 32) (.k 0))
(.ite (.eq (.v 34) (.k 4))
(.ite (.eq (.v 43) (.k 2))
(.esc (.bop .eql 9 (.tmp 64) (.const (Value.string ⟨#[1, 1, 44, 1]⟩))) [.str 9, .c (Value.string ⟨#[1, 1, 44, 1]⟩)] [] [(44, .b)] (some (.bool (.v 44))) .same
(.ite (.v 44)
(.ite (.eq (.slen 24) (.k 11))
(.ite (.eq (.v 31) (.k 15))
(.call 50 [.int .i64 (.k 300), .int .i64 (.k 1)] [] [(45, .i), (46, .i), (47, .i), (48, .i), (49, .i), (50, .i), (51, .i), (52, .i), (53, .i)] (.agg [.int .i64 (.v 45), .int .i64 (.v 46), .int .i64 (.v 47), .int .i64 (.v 48), .int .i64 (.v 49), .int .i64 (.v 50), .int .i64 (.v 51), .int .i64 (.v 52), .int .i64 (.v 53)]) .same
(.call 52 [.int .i64 (.k (-5))] [] [(54, .i), (55, .i), (56, .i), (57, .i)] (.agg [.int .i64 (.v 54), .int .i64 (.v 55), .int .i64 (.v 56), .int .i64 (.v 57)]) .same
(.call 51 [.int .i64 (.k 2), .int .i64 (.k 1), .int .i64 (.k 1), .int .i64 (.k 0), .agg [.int .i64 (.v 54), .int .i64 (.v 55), .int .i64 (.v 56), .int .i64 (.v 57)]] [] [(58, .i), (59, .i), (60, .i), (61, .i), (62, .i), (63, .i), (64, .i), (65, .i), (66, .i)] (.agg [.int .i64 (.v 58), .int .i64 (.v 59), .int .i64 (.v 60), .int .i64 (.v 61), .int .i64 (.v 62), .int .i64 (.v 63), .int .i64 (.v 64), .int .i64 (.v 65), .int .i64 (.v 66)]) .same
(.all 0
(.call 21 [.slO 28 (.k 0) (.v 29) (.v 30), .slK 0 0 2 2] [(0, ⟨[.int .i64 (.v 45), .int .i64 (.v 46), .int .i64 (.v 47), .int .i64 (.v 48), .int .i64 (.v 49), .int .i64 (.v 50), .int .i64 (.v 51), .int .i64 (.v 52), .int .i64 (.v 53), .int .i64 (.v 58), .int .i64 (.v 59), .int .i64 (.v 60), .int .i64 (.v 61), .int .i64 (.v 62), .int .i64 (.v 63), .int .i64 (.v 64), .int .i64 (.v 65), .int .i64 (.v 66)], 33⟩)] [(67, .b)] (.bool (.v 67)) .same
(.ret (.bool (.v 67)) []))))))
(.ret (.bool (.k false)) []))
(.ret (.bool (.k false)) []))
(.ret (.bool (.k false)) [])))
(.ret (.bool (.k false)) []))
(.ret (.bool (.k false)) []))
(.ret (.bool (.k false)) []))
(.ret (.bool (.k false)) []))
(.ret (.bool (.k false)) []))))))))))))))
theorem x_logBegun (M : Nat → Prop) (H0 : Hp) (W0 : World) (R : Ending → World → Prop) (hH : H0.le (hpOf W0)) (h :
 (Cl Try.prog W0 M H0 nK 50 #[vi 300, vi 1] fun z W1 W2 => ∃ x0 : Int, ∃ x1 : Int, ∃ x2 : Int, ∃ x3 : Int, ∃ x4 : Int, ∃ x5 : Int, ∃ x6 : Int, ∃ x7 : Int, ∃ x8 : Int, z = .returned (Value.agg #[vi x0, vi x1, vi x2, vi x3, vi x4, vi x5, vi x6, vi x7, vi x8]) ∧ Ext W1 W2 ∧
 (Cl Try.prog W0 M H0 nK 15 #[Value.agg #[vi x0, vi x1, vi x2, vi x3, vi x4, vi x5, vi x6, vi x7, vi x8]] fun z W3 W4 => ∃ x9 : ByteArray, ∃ x10 : Int, z = .returned (Value.tuple #[Value.string x9, vi x10]) ∧ Ext W3 W4 ∧
 (Cl Try.prog W0 M H0 nK 52 #[vi (-5)] fun z W5 W6 => ∃ x11 : Int, ∃ x12 : Int, ∃ x13 : Int, ∃ x14 : Int, z = .returned (Value.agg #[vi x11, vi x12, vi x13, vi x14]) ∧ Ext W5 W6 ∧
 (Cl Try.prog W0 M H0 nK 51 #[vi 2, vi 1, vi 1, vi 0, Value.agg #[vi x11, vi x12, vi x13, vi x14]] fun z W7 W8 => ∃ x15 : Int, ∃ x16 : Int, ∃ x17 : Int, ∃ x18 : Int, ∃ x19 : Int, ∃ x20 : Int, ∃ x21 : Int, ∃ x22 : Int, ∃ x23 : Int, z = .returned (Value.agg #[vi x15, vi x16, vi x17, vi x18, vi x19, vi x20, vi x21, vi x22, vi x23]) ∧ Ext W7 W8 ∧
 (Cl Try.prog W0 M H0 nK 15 #[Value.agg #[vi x15, vi x16, vi x17, vi x18, vi x19, vi x20, vi x21, vi x22, vi x23]] fun z W9 W10 => ∃ x24 : ByteArray, ∃ x25 : Int, z = .returned (Value.tuple #[Value.string x24, vi x25]) ∧ Ext W9 W10 ∧
 (Es W0 M H0 nK fun W11 => ∃ x26 : ByteArray, Eo Try.prog (.bop .add 9 (.tmp 25) (.tmp 26)) [Value.string x9, Value.string x24] W11 (.value (Value.string x26)) fun W12 => Ext W11 W12 ∧
 (Es W0 M H0 nK fun W13 => ∃ x27 : ByteArray, Eo Try.prog (.bop .add 9 (.tmp 27) (.const (Value.string ⟨#[1]⟩))) [Value.string x26, Value.string ⟨#[1]⟩] W13 (.value (Value.string x27)) fun W14 => Ext W13 W14 ∧
 (Cl Try.prog W0 M H0 nK 18 #[Value.string x27] fun z W15 W16 => ∃ x28 : Option Loc, ∃ x29 : Nat, ∃ x30 : Nat, ∃ x31 : Int, ∃ x32 : Int, z = .returned (Value.tuple #[vsl x28 x29 x30, vi x31, vi x32]) ∧ Fr W15 W16 H0 fun H1 =>
 (Cl Try.prog W0 M H1 nK 15 #[Value.agg #[vi 0, vi 0, vi 0, vi 0, vi 0, vi 0, vi 0, vi 0, vi 0]] fun z W17 W18 => ∃ x33 : ByteArray, ∃ x34 : Int, z = .returned (Value.tuple #[Value.string x33, vi x34]) ∧ Ext W17 W18 ∧
 (Es W0 M H1 nK fun W19 => ∃ x35 : Option Loc, ∃ x36 : Nat, ∃ x37 : Nat, Eo Try.prog (.mkSlice 71) [vi 4097, vi 4097] W19 (.value (vsl x35 x36 x37)) fun W20 => Fr W19 W20 H1 fun H2 =>
 (Es W0 M H2 nK fun W21 => ∃ x38 : ByteArray, Eo Try.prog (.conv 71 9) [vsl x35 x36 x37] W21 (.value (Value.string x38)) fun W22 => Ext W21 W22 ∧
 (Cl Try.prog W0 M H2 nK 18 #[Value.string x38] fun z W23 W24 => ∃ x39 : Option Loc, ∃ x40 : Nat, ∃ x41 : Nat, ∃ x42 : Int, ∃ x43 : Int, z = .returned (Value.tuple #[vsl x39 x40 x41, vi x42, vi x43]) ∧ Fr W23 W24 H2 fun H3 =>
 ((x10 = 0 →
  ((x25 = 0 →
   ((x32 = 0 →
    ((x34 = 4 →
     ((x43 = 2 →
      (Es W0 M H3 nK fun W25 => ∃ x44 : Bool, Eo Try.prog (.bop .eql 9 (.tmp 64) (.const (Value.string ⟨#[1, 1, 44, 1]⟩))) [Value.string x9, Value.string ⟨#[1, 1, 44, 1]⟩] W25 (.value (vb (x44))) fun W26 => Ext W25 W26 ∧
      ((x44 = true →
       (((x24.size : Int) = 11 →
        ((x31 = 15 →
         (Cl Try.prog W0 M H3 nK 50 #[vi 300, vi 1] fun z W27 W28 => ∃ x45 : Int, ∃ x46 : Int, ∃ x47 : Int, ∃ x48 : Int, ∃ x49 : Int, ∃ x50 : Int, ∃ x51 : Int, ∃ x52 : Int, ∃ x53 : Int, z = .returned (Value.agg #[vi x45, vi x46, vi x47, vi x48, vi x49, vi x50, vi x51, vi x52, vi x53]) ∧ Ext W27 W28 ∧
         (Cl Try.prog W0 M H3 nK 52 #[vi (-5)] fun z W29 W30 => ∃ x54 : Int, ∃ x55 : Int, ∃ x56 : Int, ∃ x57 : Int, z = .returned (Value.agg #[vi x54, vi x55, vi x56, vi x57]) ∧ Ext W29 W30 ∧
         (Cl Try.prog W0 M H3 nK 51 #[vi 2, vi 1, vi 1, vi 0, Value.agg #[vi x54, vi x55, vi x56, vi x57]] fun z W31 W32 => ∃ x58 : Int, ∃ x59 : Int, ∃ x60 : Int, ∃ x61 : Int, ∃ x62 : Int, ∃ x63 : Int, ∃ x64 : Int, ∃ x65 : Int, ∃ x66 : Int, z = .returned (Value.agg #[vi x58, vi x59, vi x60, vi x61, vi x62, vi x63, vi x64, vi x65, vi x66]) ∧ Ext W31 W32 ∧
         (∀ b0 : Nat,
         (Cl Try.prog W0 M H3 (fun W => Kn W0 M H3 W b0 (Obj.cells #[vi x45, vi x46, vi x47, vi x48, vi x49, vi x50, vi x51, vi x52, vi x53, vi x58, vi x59, vi x60, vi x61, vi x62, vi x63, vi x64, vi x65, vi x66] 33 (0, 0)) ∧ True) 21 #[vsl x28 x29 x30, Value.slice (some ⟨b0, 0, none⟩) 2 2] fun z W33 W34 => ∃ x67 : Bool, z = .returned (vb (x67)) ∧ Ext W33 W34 ∧
         Rt R W0 M H3 nK (vb (x67)))))))) ∧
        (¬ (x31 = 15) →
         Rt R W0 M H3 nK (vb (false))))) ∧
       (¬ ((x24.size : Int) = 11) →
        Rt R W0 M H3 nK (vb (false))))) ∧
      (¬ (x44 = true) →
       Rt R W0 M H3 nK (vb (false)))))) ∧
     (¬ (x43 = 2) →
      Rt R W0 M H3 nK (vb (false))))) ∧
    (¬ (x34 = 4) →
     Rt R W0 M H3 nK (vb (false))))) ∧
   (¬ (x32 = 0) →
    Rt R W0 M H3 nK (vb (false))))) ∧
  (¬ (x25 = 0) →
   Rt R W0 M H3 nK (vb (false))))) ∧
 (¬ (x10 = 0) →
  Rt R W0 M H3 nK (vb (false))))))))))))))))) :
  Calls Try.prog 20 #[] W0 R :=
  calls_sxA (M := M) (V := v_logBegun) (hi := {}) (args := []) (nv := 0) (e := (fun _ => .i 0)) Try.func20 hH h (by kernel_rfl) (by kernel_rfl) (by kernel_rfl)
def v_logTells : VC :=
(.all 0
(.call 15 [.agg [.int .i64 (.v 0), .int .i64 (.v 1), .int .i64 (.v 2), .int .i64 (.v 3), .int .i64 (.v 4), .int .i64 (.v 5), .int .i64 (.v 6), .int .i64 (.v 7), .int .i64 (.v 8)]] [] [(10, .s), (11, .i)] (.tup [.str 10, .int .i64 (.v 11)]) .same
(.call 16 [.agg [.int .i64 (.v 0), .int .i64 (.v 1), .int .i64 (.v 2), .int .i64 (.v 3), .int .i64 (.v 4), .int .i64 (.v 5), .int .i64 (.v 6), .int .i64 (.v 7), .int .i64 (.v 8)]] [] [(12, .i)] (.int .i64 (.v 12)) .same
(.ite (.eq (.v 12) (.k 0))
(.call 17 [.agg [.int .i64 (.v 0), .int .i64 (.v 1), .int .i64 (.v 2), .int .i64 (.v 3), .int .i64 (.v 4), .int .i64 (.v 5), .int .i64 (.v 6), .int .i64 (.v 7), .int .i64 (.v 8)]] [] [(13, .s)] (.str 13) .same
(.call 18 [.str 9] [] [(14, .p), (15, .n), (16, .n), (17, .i), (18, .i)] (.tup [.slO 14 (.k 0) (.v 15) (.v 16), .int .i64 (.v 17), .int .i64 (.v 18)]) .fresh
(.call 19 [.str 9] [] [(19, .p), (20, .n), (21, .n), (22, .i), (23, .i)] (.tup [.slO 19 (.k 0) (.v 20) (.v 21), .int .i64 (.v 22), .int .i64 (.v 23)]) .fresh
(.call 20 [] [] [(24, .b)] (.bool (.v 24)) .same
(.ite (.v 24)
(.esc (.bop .eql 9 (.tmp 40) (.tmp 41)) [.str 10, .str 13] [] [(25, .b)] (some (.bool (.v 25))) .same
(.ite (.v 25)
(.ite (.eq (.v 11) (.v 12))
(.call 21 [.slO 14 (.k 0) (.v 15) (.v 16), .slO 19 (.k 0) (.v 20) (.v 21)] [] [(26, .b)] (.bool (.v 26)) .same
(.ite (.v 26)
(.ite (.eq (.v 17) (.v 22))
(.ret (.bool (.eq (.v 18) (.v 23))) [])
(.ret (.bool (.k false)) []))
(.ret (.bool (.k false)) [])))
(.ret (.bool (.k false)) []))
(.ret (.bool (.k false)) [])))
(.ret (.bool (.k false)) []))))))
(.call 18 [.str 9] [] [(13, .p), (14, .n), (15, .n), (16, .i), (17, .i)] (.tup [.slO 13 (.k 0) (.v 14) (.v 15), .int .i64 (.v 16), .int .i64 (.v 17)]) .fresh
(.call 19 [.str 9] [] [(18, .p), (19, .n), (20, .n), (21, .i), (22, .i)] (.tup [.slO 18 (.k 0) (.v 19) (.v 20), .int .i64 (.v 21), .int .i64 (.v 22)]) .fresh
(.call 20 [] [] [(23, .b)] (.bool (.v 23)) .same
(.ite (.v 23)
(.esc (.bop .eql 9 (.tmp 40) (.tmp 41)) [.str 10, .c (Value.string ⟨#[]⟩)] [] [(24, .b)] (some (.bool (.v 24))) .same
(.ite (.v 24)
(.ite (.eq (.v 11) (.v 12))
(.call 21 [.slO 13 (.k 0) (.v 14) (.v 15), .slO 18 (.k 0) (.v 19) (.v 20)] [] [(25, .b)] (.bool (.v 25)) .same
(.ite (.v 25)
(.ite (.eq (.v 16) (.v 21))
(.ret (.bool (.eq (.v 17) (.v 22))) [])
(.ret (.bool (.k false)) []))
(.ret (.bool (.k false)) [])))
(.ret (.bool (.k false)) []))
(.ret (.bool (.k false)) [])))
(.ret (.bool (.k false)) [])))))))))
theorem x_logTells (x0 : Int) (x1 : Int) (x2 : Int) (x3 : Int) (x4 : Int) (x5 : Int) (x6 : Int) (x7 : Int) (x8 : Int) (x9 : ByteArray) (M : Nat → Prop) (H0 : Hp) (W0 : World) (R : Ending → World → Prop) (hH : H0.le (hpOf W0)) (h :
 (∀ b0 : Nat,
 (Cl Try.prog W0 M H0 nK 15 #[Value.agg #[vi x0, vi x1, vi x2, vi x3, vi x4, vi x5, vi x6, vi x7, vi x8]] fun z W1 W2 => ∃ x10 : ByteArray, ∃ x11 : Int, z = .returned (Value.tuple #[Value.string x10, vi x11]) ∧ Ext W1 W2 ∧
 (Cl Try.prog W0 M H0 nK 16 #[Value.agg #[vi x0, vi x1, vi x2, vi x3, vi x4, vi x5, vi x6, vi x7, vi x8]] fun z W3 W4 => ∃ x12 : Int, z = .returned (vi x12) ∧ Ext W3 W4 ∧
 ((x12 = 0 →
  (Cl Try.prog W0 M H0 nK 17 #[Value.agg #[vi x0, vi x1, vi x2, vi x3, vi x4, vi x5, vi x6, vi x7, vi x8]] fun z W5 W6 => ∃ x13 : ByteArray, z = .returned (Value.string x13) ∧ Ext W5 W6 ∧
  (Cl Try.prog W0 M H0 nK 18 #[Value.string x9] fun z W7 W8 => ∃ x14 : Option Loc, ∃ x15 : Nat, ∃ x16 : Nat, ∃ x17 : Int, ∃ x18 : Int, z = .returned (Value.tuple #[vsl x14 x15 x16, vi x17, vi x18]) ∧ Fr W7 W8 H0 fun H1 =>
  (Cl Try.prog W0 M H1 nK 19 #[Value.string x9] fun z W9 W10 => ∃ x19 : Option Loc, ∃ x20 : Nat, ∃ x21 : Nat, ∃ x22 : Int, ∃ x23 : Int, z = .returned (Value.tuple #[vsl x19 x20 x21, vi x22, vi x23]) ∧ Fr W9 W10 H1 fun H2 =>
  (Cl Try.prog W0 M H2 nK 20 #[] fun z W11 W12 => ∃ x24 : Bool, z = .returned (vb (x24)) ∧ Ext W11 W12 ∧
  ((x24 = true →
   (Es W0 M H2 nK fun W13 => ∃ x25 : Bool, Eo Try.prog (.bop .eql 9 (.tmp 40) (.tmp 41)) [Value.string x10, Value.string x13] W13 (.value (vb (x25))) fun W14 => Ext W13 W14 ∧
   ((x25 = true →
    ((x11 = x12 →
     (Cl Try.prog W0 M H2 nK 21 #[vsl x14 x15 x16, vsl x19 x20 x21] fun z W15 W16 => ∃ x26 : Bool, z = .returned (vb (x26)) ∧ Ext W15 W16 ∧
     ((x26 = true →
      ((x17 = x22 →
       Rt R W0 M H2 nK (vb (decide (x18 = x23)))) ∧
      (¬ (x17 = x22) →
       Rt R W0 M H2 nK (vb (false))))) ∧
     (¬ (x26 = true) →
      Rt R W0 M H2 nK (vb (false)))))) ∧
    (¬ (x11 = x12) →
     Rt R W0 M H2 nK (vb (false))))) ∧
   (¬ (x25 = true) →
    Rt R W0 M H2 nK (vb (false)))))) ∧
  (¬ (x24 = true) →
   Rt R W0 M H2 nK (vb (false))))))))) ∧
 (¬ (x12 = 0) →
  (Cl Try.prog W0 M H0 nK 18 #[Value.string x9] fun z W5 W6 => ∃ x13 : Option Loc, ∃ x14 : Nat, ∃ x15 : Nat, ∃ x16 : Int, ∃ x17 : Int, z = .returned (Value.tuple #[vsl x13 x14 x15, vi x16, vi x17]) ∧ Fr W5 W6 H0 fun H1 =>
  (Cl Try.prog W0 M H1 nK 19 #[Value.string x9] fun z W7 W8 => ∃ x18 : Option Loc, ∃ x19 : Nat, ∃ x20 : Nat, ∃ x21 : Int, ∃ x22 : Int, z = .returned (Value.tuple #[vsl x18 x19 x20, vi x21, vi x22]) ∧ Fr W7 W8 H1 fun H2 =>
  (Cl Try.prog W0 M H2 nK 20 #[] fun z W9 W10 => ∃ x23 : Bool, z = .returned (vb (x23)) ∧ Ext W9 W10 ∧
  ((x23 = true →
   (Es W0 M H2 nK fun W11 => ∃ x24 : Bool, Eo Try.prog (.bop .eql 9 (.tmp 40) (.tmp 41)) [Value.string x10, Value.string ⟨#[]⟩] W11 (.value (vb (x24))) fun W12 => Ext W11 W12 ∧
   ((x24 = true →
    ((x11 = x12 →
     (Cl Try.prog W0 M H2 nK 21 #[vsl x13 x14 x15, vsl x18 x19 x20] fun z W13 W14 => ∃ x25 : Bool, z = .returned (vb (x25)) ∧ Ext W13 W14 ∧
     ((x25 = true →
      ((x16 = x21 →
       Rt R W0 M H2 nK (vb (decide (x17 = x22)))) ∧
      (¬ (x16 = x21) →
       Rt R W0 M H2 nK (vb (false))))) ∧
     (¬ (x25 = true) →
      Rt R W0 M H2 nK (vb (false)))))) ∧
    (¬ (x11 = x12) →
     Rt R W0 M H2 nK (vb (false))))) ∧
   (¬ (x24 = true) →
    Rt R W0 M H2 nK (vb (false)))))) ∧
  (¬ (x23 = true) →
   Rt R W0 M H2 nK (vb (false))))))))))))) :
  Calls Try.prog 4 #[Value.agg #[vi x0, vi x1, vi x2, vi x3, vi x4, vi x5, vi x6, vi x7, vi x8], Value.string x9] W0 R :=
  calls_sxA (M := M) (V := v_logTells) (hi := {}) (args := [.agg [.int .i64 (.v 0), .int .i64 (.v 1), .int .i64 (.v 2), .int .i64 (.v 3), .int .i64 (.v 4), .int .i64 (.v 5), .int .i64 (.v 6), .int .i64 (.v 7), .int .i64 (.v 8)], .str 9]) (nv := 10) (e := (upd (upd (upd (upd (upd (upd (upd (upd (upd (upd (fun _ => .i 0) 0 (.i x0)) 1 (.i x1)) 2 (.i x2)) 3 (.i x3)) 4 (.i x4)) 5 (.i x5)) 6 (.i x6)) 7 (.i x7)) 8 (.i x8)) 9 (.s x9))) Try.func4 hH h (by kernel_rfl) (by kernel_rfl) (by kernel_rfl)
end Go.Proofs.Ytoilhpkclabhoaa
namespace Go.Proofs.Ytoilhpkclabhoaa
open Go.RowKit

def eA : Ent := ⟨1, 300, 1, 0, 0, ⟨0, 0, 0, 0⟩⟩
def eB : Ent := ⟨2, 2, 1, 1, 0, ⟨2, 0, 0, -5⟩⟩
theorem two_read : lRep (encE eA ++ encE eB ++ [1]) = ([eA, eB], 15, 0) := by decide +kernel
theorem wA : lWrite eA = (encE eA, 0) := by decide +kernel
theorem wB : lWrite eB = (encE eB, 0) := by decide +kernel
theorem wZ : (lWrite ⟨0, 0, 0, 0, 0, ⟨0, 0, 0, 0⟩⟩).2 = 4 := by decide +kernel
theorem encA : encE eA = [1, 1, 44, 1] := by decide +kernel
theorem encB : (encE eB).length = 11 := by decide +kernel
theorem two64 : ∀ e ∈ [eA, eB], e.in64 := by decide +kernel
theorem ents2 {W0 W : World} {H : Hp} {b : Nat} {C : Array Value} {T : Nat} {p : Option Loc} {n c : Nat} (hE : Ents H p n c [eA, eB]) (hC : C.toList = ([eA, eB].map Ent.row).flatten) (nn : Now W0 noM H W) (k : Kn W0 noM H W b (.cells C T (0, 0))) :
    ∃ H1 : Hp, H1.le (hpOf W) ∧ Gv Try.prog 21 #[vsl p n c, vsl (some (b, 0)) 2 2] H1 (vb true) :=
  ⟨_, addH_le nn.sub k.eq, decide_eq_true (rfl : [eA, eB] = [eA, eB]) ▸ c_sameEnts (hE.mono (le_addH k.off)) (ents_blk (l := [eA, eB]) (addH_at ..) rfl (by simp [maxLen]) two64 (by rw [hC]; rfl))⟩
theorem zcells_byte : zcells Try.prog 5 = some [.int .u8 0] := by kernel_rfl
theorem bytes0 {D : Hp} {p : Option Loc} {n c : Nat} {g : Option Nat} (h : Ow D 5 1 p n c (List.replicate n [.int .u8 0]) g) : Bs D p n (List.replicate n 0) := by
  have : (List.replicate n (0 : UInt8)).map yrow = List.replicate n [Value.int .u8 0] := by rw [List.map_replicate]; rfl
  unfold Bs
  rw [this]
  exact h.rows
theorem c_logBegun (H : Hp) : Gv Try.prog 20 #[] H (vb true) := fun W hH => by
  refine x_logBegun noM H W _ hH ?_
  refine Cl.same (c_lopen 300 1 H) fun _ _ hx => ⟨_, _, _, _, _, _, _, _, _, rfl, hx, ?_⟩
  refine Cl.same (c_logWrite eA H) fun _ _ hx => ⟨_, _, rfl, hx, ?_⟩
  rw [wA]
  refine Cl.same (c_ladd (-5) H) fun _ _ hx => ⟨_, _, _, _, rfl, hx, ?_⟩
  refine Cl.same (c_lcall 2 1 1 0 ⟨2, 0, 0, -5⟩ H) fun _ _ hx => ⟨_, _, _, _, _, _, _, _, _, rfl, hx, ?_⟩
  refine Cl.same (c_logWrite eB H) fun _ _ hx => ⟨_, _, rfl, hx, ?_⟩
  rw [wB]
  refine fun W1 n1 _ => ⟨_, _, ek_str_add _ _ (encE eA) (encE eB) (by rw [encA]; simp) (by rw [encB]; omega), Ext.refl _, fun W2 n2 _ => ⟨_, _, ek_str_add _ _ (encE eA ++ encE eB) [1] (by rw [List.length_append, encA, encB]; simp) (by simp), Ext.refl _, ?_⟩⟩
  refine Cl.fresh (c_logReplay (encE eA ++ encE eB ++ [1]) H) ?_
  rw [two_read]
  rintro v Wa Wb D ⟨p1, m1, c1, rfl, hE1⟩ hx hD hf nn
  refine ⟨p1, m1, c1, _, _, rfl, hx, D, hD, hf, fun H1 le1 hD1 => ?_⟩
  refine Cl.same (c_logWrite ⟨0, 0, 0, 0, 0, ⟨0, 0, 0, 0⟩⟩ H1) fun _ _ hx => ⟨_, _, rfl, hx, fun W3 n3 _ => ?_⟩
  obtain ⟨bi, bz, b1, b2, b3, b4, b5, _⟩ := info_of infoByte
  obtain ⟨W4, hrun, hx4, D4, hD4, hf4, g4, ho4, _⟩ := ek_make1 (P := Try.prog) (t := 71) (e := 5) Try.underlying71 zcells_byte b1 (by omega) rfl (n := 4097) (by omega) W3
  refine ⟨_, _, _, W4, hrun, Fr.of hx4 hD4 hf4 fun H2 le2 hD2 W5 n5 _ => ⟨_, _, ek_bytes_str ((bytes0 ho4).mono hD2) n5.sub, Ext.refl _, ?_⟩⟩
  refine Cl.fresh (c_logReplay (List.replicate 4097 0) H2) ?_
  rw [show lRep (List.replicate 4097 0) = ([], 0, 2) from if_pos (by rw [List.length_replicate]; omega)]
  rintro v Wa Wb D5 ⟨p5, m5, c5, rfl, _⟩ hx hD5 hf5 nn
  refine ⟨p5, m5, c5, _, _, rfl, hx, D5, hD5, hf5, fun H3 le3 hD3 => ⟨fun _ => ⟨fun _ => ⟨fun _ => ⟨fun _ => ⟨fun _ => ?_, fun h => absurd rfl h⟩, fun h => absurd wZ h⟩, fun h => absurd rfl h⟩, fun h => absurd rfl h⟩, fun h => absurd rfl h⟩⟩
  refine fun W6 n6 _ => ⟨_, _, ek_str_eq _ _ (encE eA) [1, 1, 44, 1], Ext.refl _, fun _ => ⟨fun _ => ⟨fun _ => ?_, fun h => absurd rfl h⟩, fun h => absurd (by rw [bs_size, encB]; rfl) h⟩, fun h => absurd (by rw [encA]; rfl) h⟩
  refine Cl.same (c_lopen 300 1 H3) fun _ _ hx => ⟨_, _, _, _, _, _, _, _, _, rfl, hx, ?_⟩
  refine Cl.same (c_ladd (-5) H3) fun _ _ hx => ⟨_, _, _, _, rfl, hx, ?_⟩
  refine Cl.same (c_lcall 2 1 1 0 ⟨2, 0, 0, -5⟩ H3) fun _ _ hx => ⟨_, _, _, _, _, _, _, _, _, rfl, hx, fun b0 => ?_⟩
  exact Cl.sameK (fun W n k => ents2 (((hE1.mono hD1).mono le2).mono le3) rfl n k.1) fun _ _ hx => ⟨_, rfl, hx, Rt.gv⟩
theorem c_logTells (e : Ent) (hs : e.in64) (l : List UInt8) (H : Hp) : Gv Try.prog 4 #[e.val, .string (bs l)] H (vb true) := fun W hH => by
  refine x_logTells _ _ _ _ _ _ _ _ _ (bs l) noM H W _ hH fun b0 => ?_
  refine Cl.same (c_logWrite e H) fun _ _ hx => ⟨_, _, rfl, hx, ?_⟩
  refine Cl.same (c_entErr e hs H) fun _ _ hx => ⟨_, rfl, hx, fun h0 => ?_, fun h0 => ?_⟩
  · have hw : lWrite e = (encE e, 0) := if_pos h0
    refine Cl.same (c_entryBytes e h0 H) fun _ _ hx => ⟨_, rfl, hx, ?_⟩
    rw [hw]
    refine Cl.fresh (c_logReplay l H) ?_
    rintro v Wa Wb D ⟨p1, m1, c1, rfl, hE1⟩ hx hD hf nn
    refine ⟨p1, m1, c1, _, _, rfl, hx, D, hD, hf, fun H1 le1 hD1 => ?_⟩
    refine Cl.fresh (c_replayOf l H1) ?_
    rintro v Wa Wb D2 ⟨p2, m2, c2, rfl, hE2⟩ hx hD2 hf2 nn
    refine ⟨p2, m2, c2, _, _, rfl, hx, D2, hD2, hf2, fun H2 le2 hD2' => ?_⟩
    refine Cl.same (c_logBegun H2) fun _ _ hx => ⟨_, rfl, hx, fun _ W3 n3 _ => ⟨_, _, ek_str_eq _ _ _ _, Ext.refl _, fun _ => ⟨fun _ => ?_, fun h => absurd h0.symm h⟩, fun h => absurd (by simp) h⟩, fun h => absurd rfl h⟩
    refine Cl.same (c_sameEnts ((hE1.mono hD1).mono le2) (hE2.mono hD2')) fun _ _ hx => ⟨_, rfl, hx, fun _ => ⟨fun _ => Rt.gv' (by rw [decide_eq_true rfl]), fun h => absurd rfl h⟩, fun h => absurd (decide_eq_true rfl) h⟩
  · have hw : lWrite e = ([], e.err) := if_neg h0
    rw [hw]
    refine Cl.fresh (c_logReplay l H) ?_
    rintro v Wa Wb D ⟨p1, m1, c1, rfl, hE1⟩ hx hD hf nn
    refine ⟨p1, m1, c1, _, _, rfl, hx, D, hD, hf, fun H1 le1 hD1 => ?_⟩
    refine Cl.fresh (c_replayOf l H1) ?_
    rintro v Wa Wb D2 ⟨p2, m2, c2, rfl, hE2⟩ hx hD2 hf2 nn
    refine ⟨p2, m2, c2, _, _, rfl, hx, D2, hD2, hf2, fun H2 le2 hD2' => ?_⟩
    refine Cl.same (c_logBegun H2) fun _ _ hx => ⟨_, rfl, hx, fun _ W3 n3 _ => ⟨_, _, ek_str_eq _ _ [] [], Ext.refl _, fun _ => ⟨fun _ => ?_, fun h => absurd rfl h⟩, fun h => absurd (by simp) h⟩, fun h => absurd rfl h⟩
    refine Cl.same (c_sameEnts ((hE1.mono hD1).mono le2) (hE2.mono hD2')) fun _ _ hx => ⟨_, rfl, hx, fun _ => ⟨fun _ => Rt.gv' (by rw [decide_eq_true rfl]), fun h => absurd rfl h⟩, fun h => absurd (decide_eq_true rfl) h⟩
end Go.Proofs.Ytoilhpkclabhoaa
