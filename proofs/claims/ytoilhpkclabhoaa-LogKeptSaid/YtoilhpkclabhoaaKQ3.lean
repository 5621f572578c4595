/- Symbolic runs of functions: what each leaves to prove is enough for its call. Printed by a program of ours. No conditions. Contracts: the laws of entries as bytes. No conditions. -/
import Derived.Test.YtoilhpkclabhoaaKE3
import Derived.Test.YtoilhpkclabhoaaProg
import Derived.Test.YtoilhpkclabhoaaKQ2
import Derived.Test.YtoilhpkclabhoaaKP1
import Derived.Test.YtoilhpkclabhoaaKY3
set_option linter.unusedVariables false
set_option linter.unusedSimpArgs false
namespace Go.Proofs.Ytoilhpkclabhoaa
open Go.RowKit
set_option maxRecDepth 100000
set_option maxHeartbeats 4000000
def v_logBegun : VC :=
(.call 50 [.int .i64 (.k 300), .int .i64 (.k 1)] [] [(0, .i), (1, .i), (2, .i), (3, .i), (4, .i), (5, .i), (6, .i), (7, .i), (8, .i)] (.agg [.int .i64 (.v 0), .int .i64 (.v 1), .int .i64 (.v 2), .int .i64 (.v 3), .int .i64 (.v 4), .int .i64 (.v 5), .int .i64 (.v 6), .int .i64 (.v 7), .int .i64 (.v 8)]) .same
(.call 15 [.agg [.int .i64 (.v 0), .int .i64 (.v 1), .int .i64 (.v 2), .int .i64 (.v 3), .int .i64 (.v 4), .int .i64 (.v 5), .int .i64 (.v 6), .int .i64 (.v 7), .int .i64 (.v 8)]] [] [(9, .s), (10, .i)] (.tup [.str 9, .int .i64 (.v 10)]) .same
(.call 52 [.int .i64 (.k (-5))] [] [(11, .i), (12, .i), (13, .i), (14, .i)] (.agg [.int .i64 (.v 11), .int .i64 (.v 12), .int .i64 (.v 13), .int .i64 (.v 14)]) .same
(.call 51 [.int .i64 (.k 2), .int .i64 (.k 1), .int .i64 (.k 1), .int .i64 (.k 0), .agg [.int .i64 (.v 11), .int .i64 (.v 12), .int .i64 (.v 13), .int .i64 (.v 14)]] [] [(15, .i), (16, .i), (17, .i), (18, .i), (19, .i), (20, .i), (21, .i), (22, .i), (23, .i)] (.agg [.int .i64 (.v 15), .int .i64 (.v 16), .int .i64 (.v 17), .int .i64 (.v 18), .int .i64 (.v 19), .int .i64 (.v 20), .int .i64 (.v 21), .int .i64 (.v 22), .int .i64 (.v 23)]) .same
(.call 15 [.agg [.int .i64 (.v 15), .int .i64 (.v 16), .int .i64 (.v 17), .int .i64 (.v 18), .int .i64 (.v 19), .int .i64 (.v 20), .int .i64 (.v 21), .int .i64 (.v 22), .int .i64 (.v 23)]] [] [(24, .s), (25, .i)] (.tup [.str 24, .int .i64 (.v 25)]) .same
(.esc (.bop .add 9 (.tmp 25) (.tmp 26)) [.str 9, .str 24] [] [(26, .s)] (some (.str 26)) .same
(.esc (.bop .add 9 (.tmp 27) (.const (Value.string ⟨#[1]⟩))) [.str 26, .c (Value.string ⟨#[1]⟩)] [] [(27, .s)] (some (.str 27)) .same
(.call 18 [.str 27] [] [(28, .p), (29, .n), (30, .n), (31, .i), (32, .i)] (.tup [.slO 28 (.k 0) (.v 29) (.v 30), .int .i64 (.v 31), .int .i64 (.v 32)]) .fresh
(.call 15 [.agg [.int .i64 (.k 0), .int .i64 (.k 0), .int .i64 (.k 0), .int .i64 (.k 0), .int .i64 (.k 0), .int .i64 (.k 0), .int .i64 (.k 0), .int .i64 (.k 0), .int .i64 (.k 0)]] [] [(33, .s), (34, .i)] (.tup [.str 33, .int .i64 (.v 34)]) .same
(.esc (.mkSlice 71) [.int .i64 (.k 4097), .int .i64 (.k 4097)] [] [(35, .p), (36, .n), (37, .n)] (some (.slO 35 (.k 0) (.v 36) (.v 37))) .fresh
(.esc (.conv 71 9) [.slO 35 (.k 0) (.v 36) (.v 37)] [] [(38, .s)] (some (.str 38)) .same
(.call 18 [.str 38] [] [(39, .p), (40, .n), (41, .n), (42, .i), (43, .i)] (.tup [.slO 39 (.k 0) (.v 40) (.v 41), .int .i64 (.v 42), .int .i64 (.v 43)]) .fresh
(.ite (.eq (.v 10) (.k 0))
(.ite (.eq (.v 25) (.k 0))
(.ite (.eq (.v 32) (.k 0))
(.ite (.eq (.v 34) (.k 4))
(.ite (.eq (.v 43) (.k 2))
(.esc (.bop .eql 9 (.tmp 64) (.const (Value.string ⟨#[1, 1, 44, 1]⟩))) [.str 9, .c (Value.string ⟨#[1, 1, 44, 1]⟩)] [] [(44, .b)] (some (.bool (.v 44))) .same
(.ite (.v 44)
(.ite (.eq (.slen 24) (.k 11))
(.ite (.eq (.v 31) (.k 15))
(.call 50 [.int .i64 (.k 300), .int .i64 (.k 1)] [] [(45, .i), (46, .i), (47, .i), (48, .i), (49, .i), (50, .i), (51, .i), (52, .i), (53, .i)] (.agg [.int .i64 (.v 45), .int .i64 (.v 46), .int .i64 (.v 47), .int .i64 (.v 48), .int .i64 (.v 49), .int .i64 (.v 50), .int .i64 (.v 51), .int .i64 (.v 52), .int .i64 (.v 53)]) .same
(.call 52 [.int .i64 (.k (-5))] [] [(54, .i), (55, .i), (56, .i), (57, .i)] (.agg [.int .i64 (.v 54), .int .i64 (.v 55), .int .i64 (.v 56), .int .i64 (.v 57)]) .same
(.call 51 [.int .i64 (.k 2), .int .i64 (.k 1), .int .i64 (.k 1), .int .i64 (.k 0), .agg [.int .i64 (.v 54), .int .i64 (.v 55), .int .i64 (.v 56), .int .i64 (.v 57)]] [] [(58, .i), (59, .i), (60, .i), (61, .i), (62, .i), (63, .i), (64, .i), (65, .i), (66, .i)] (.agg [.int .i64 (.v 58), .int .i64 (.v 59), .int .i64 (.v 60), .int .i64 (.v 61), .int .i64 (.v 62), .int .i64 (.v 63), .int .i64 (.v 64), .int .i64 (.v 65), .int .i64 (.v 66)]) .same
(.all 0
(.call 21 [.slO 28 (.k 0) (.v 29) (.v 30), .slK 0 0 2 2] [(0, ⟨[.int .i64 (.v 45), .int .i64 (.v 46), .int .i64 (.v 47), .int .i64 (.v 48), .int .i64 (.v 49), .int .i64 (.v 50), .int .i64 (.v 51), .int .i64 (.v 52), .int .i64 (.v 53), .int .i64 (.v 58), .int .i64 (.v 59), .int .i64 (.v 60), .int .i64 (.v 61), .int .i64 (.v 62), .int .i64 (.v 63), .int .i64 (.v 64), .int .i64 (.v 65), .int .i64 (.v 66)], 33⟩)] [(67, .b)] (.bool (.v 67)) .same
(.ret (.bool (.v 67)) []))))))
(.ret (.bool (.k false)) []))
(.ret (.bool (.k false)) []))
(.ret (.bool (.k false)) [])))
(.ret (.bool (.k false)) []))
(.ret (.bool (.k false)) []))
(.ret (.bool (.k false)) []))
(.ret (.bool (.k false)) []))
(.ret (.bool (.k false)) []))))))))))))))
theorem x_logBegun (M : Nat → Prop) (H0 : Hp) (W0 : World) (R : Ending → World → Prop) (hH : H0.le (hpOf W0)) (h :
 (Cl Try.prog W0 M H0 nK 50 #[vi 300, vi 1] fun z W1 W2 => ∃ x0 : Int, ∃ x1 : Int, ∃ x2 : Int, ∃ x3 : Int, ∃ x4 : Int, ∃ x5 : Int, ∃ x6 : Int, ∃ x7 : Int, ∃ x8 : Int, z = .returned (Value.agg #[vi x0, vi x1, vi x2, vi x3, vi x4, vi x5, vi x6, vi x7, vi x8]) ∧ Ext W1 W2 ∧
 (Cl Try.prog W0 M H0 nK 15 #[Value.agg #[vi x0, vi x1, vi x2, vi x3, vi x4, vi x5, vi x6, vi x7, vi x8]] fun z W3 W4 => ∃ x9 : ByteArray, ∃ x10 : Int, z = .returned (Value.tuple #[Value.string x9, vi x10]) ∧ Ext W3 W4 ∧
 (Cl Try.prog W0 M H0 nK 52 #[vi (-5)] fun z W5 W6 => ∃ x11 : Int, ∃ x12 : Int, ∃ x13 : Int, ∃ x14 : Int, z = .returned (Value.agg #[vi x11, vi x12, vi x13, vi x14]) ∧ Ext W5 W6 ∧
 (Cl Try.prog W0 M H0 nK 51 #[vi 2, vi 1, vi 1, vi 0, Value.agg #[vi x11, vi x12, vi x13, vi x14]] fun z W7 W8 => ∃ x15 : Int, ∃ x16 : Int, ∃ x17 : Int, ∃ x18 : Int, ∃ x19 : Int, ∃ x20 : Int, ∃ x21 : Int, ∃ x22 : Int, ∃ x23 : Int, z = .returned (Value.agg #[vi x15, vi x16, vi x17, vi x18, vi x19, vi x20, vi x21, vi x22, vi x23]) ∧ Ext W7 W8 ∧
 (Cl Try.prog W0 M H0 nK 15 #[Value.agg #[vi x15, vi x16, vi x17, vi x18, vi x19, vi x20, vi x21, vi x22, vi x23]] fun z W9 W10 => ∃ x24 : ByteArray, ∃ x25 : Int, z = .returned (Value.tuple #[Value.string x24, vi x25]) ∧ Ext W9 W10 ∧
 (Es W0 M H0 nK fun W11 => ∃ x26 : ByteArray, Eo Try.prog (.bop .add 9 (.tmp 25) (.tmp 26)) [Value.string x9, Value.string x24] W11 (.value (Value.string x26)) fun W12 => Ext W11 W12 ∧
 (Es W0 M H0 nK fun W13 => ∃ x27 : ByteArray, Eo Try.prog (.bop .add 9 (.tmp 27) (.const (Value.string ⟨#[1]⟩))) [Value.string x26, Value.string ⟨#[1]⟩] W13 (.value (Value.string x27)) fun W14 => Ext W13 W14 ∧
 (Cl Try.prog W0 M H0 nK 18 #[Value.string x27] fun z W15 W16 => ∃ x28 : Option Loc, ∃ x29 : Nat, ∃ x30 : Nat, ∃ x31 : Int, ∃ x32 : Int, z = .returned (Value.tuple #[vsl x28 x29 x30, vi x31, vi x32]) ∧ Fr W15 W16 H0 fun H1 =>
 (Cl Try.prog W0 M H1 nK 15 #[Value.agg #[vi 0, vi 0, vi 0, vi 0, vi 0, vi 0, vi 0, vi 0, vi 0]] fun z W17 W18 => ∃ x33 : ByteArray, ∃ x34 : Int, z = .returned (Value.tuple #[Value.string x33, vi x34]) ∧ Ext W17 W18 ∧
 (Es W0 M H1 nK fun W19 => ∃ x35 : Option Loc, ∃ x36 : Nat, ∃ x37 : Nat, Eo Try.prog (.mkSlice 71) [vi 4097, vi 4097] W19 (.value (vsl x35 x36 x37)) fun W20 => Fr W19 W20 H1 fun H2 =>
 (Es W0 M H2 nK fun W21 => ∃ x38 : ByteArray, Eo Try.prog (.conv 71 9) [vsl x35 x36 x37] W21 (.value (Value.string x38)) fun W22 => Ext W21 W22 ∧
 (Cl Try.prog W0 M H2 nK 18 #[Value.string x38] fun z W23 W24 => ∃ x39 : Option Loc, ∃ x40 : Nat, ∃ x41 : Nat, ∃ x42 : Int, ∃ x43 : Int, z = .returned (Value.tuple #[vsl x39 x40 x41, vi x42, vi x43]) ∧ Fr W23 W24 H2 fun H3 =>
 ((x10 = 0 →
  ((x25 = 0 →
   ((x32 = 0 →
    ((x34 = 4 →
     ((x43 = 2 →
      (Es W0 M H3 nK fun W25 => ∃ x44 : Bool, Eo Try.prog (.bop .eql 9 (.tmp 64) (.const (Value.string ⟨#[1, 1, 44, 1]⟩))) [Value.string x9, Value.string ⟨#[1, 1, 44, 1]⟩] W25 (.value (vb (x44))) fun W26 => Ext W25 W26 ∧
      ((x44 = true →
       (((x24.size : Int) = 11 →
        ((x31 = 15 →
         (Cl Try.prog W0 M H3 nK 50 #[vi 300, vi 1] fun z W27 W28 => ∃ x45 : Int, ∃ x46 : Int, ∃ x47 : Int, ∃ x48 : Int, ∃ x49 : Int, ∃ x50 : Int, ∃ x51 : Int, ∃ x52 : Int, ∃ x53 : Int, z = .returned (Value.agg #[vi x45, vi x46, vi x47, vi x48, vi x49, vi x50, vi x51, vi x52, vi x53]) ∧ Ext W27 W28 ∧
         (Cl Try.prog W0 M H3 nK 52 #[vi (-5)] fun z W29 W30 => ∃ x54 : Int, ∃ x55 : Int, ∃ x56 : Int, ∃ x57 : Int, z = .returned (Value.agg #[vi x54, vi x55, vi x56, vi x57]) ∧ Ext W29 W30 ∧
         (Cl Try.prog W0 M H3 nK 51 #[vi 2, vi 1, vi 1, vi 0, Value.agg #[vi x54, vi x55, vi x56, vi x57]] fun z W31 W32 => ∃ x58 : Int, ∃ x59 : Int, ∃ x60 : Int, ∃ x61 : Int, ∃ x62 : Int, ∃ x63 : Int, ∃ x64 : Int, ∃ x65 : Int, ∃ x66 : Int, z = .returned (Value.agg #[vi x58, vi x59, vi x60, vi x61, vi x62, vi x63, vi x64, vi x65, vi x66]) ∧ Ext W31 W32 ∧
         (∀ b0 : Nat,
         (Cl Try.prog W0 M H3 (fun W => Kn W0 M H3 W b0 (Obj.cells #[vi x45, vi x46, vi x47, vi x48, vi x49, vi x50, vi x51, vi x52, vi x53, vi x58, vi x59, vi x60, vi x61, vi x62, vi x63, vi x64, vi x65, vi x66] 33 (0, 0)) ∧ True) 21 #[vsl x28 x29 x30, Value.slice (some ⟨b0, 0, none⟩) 2 2] fun z W33 W34 => ∃ x67 : Bool, z = .returned (vb (x67)) ∧ Ext W33 W34 ∧
         Rt R W0 M H3 nK (vb (x67)))))))) ∧
        (¬ (x31 = 15) →
         Rt R W0 M H3 nK (vb (false))))) ∧
       (¬ ((x24.size : Int) = 11) →
        Rt R W0 M H3 nK (vb (false))))) ∧
      (¬ (x44 = true) →
       Rt R W0 M H3 nK (vb (false)))))) ∧
     (¬ (x43 = 2) →
      Rt R W0 M H3 nK (vb (false))))) ∧
    (¬ (x34 = 4) →
     Rt R W0 M H3 nK (vb (false))))) ∧
   (¬ (x32 = 0) →
    Rt R W0 M H3 nK (vb (false))))) ∧
  (¬ (x25 = 0) →
   Rt R W0 M H3 nK (vb (false))))) ∧
 (¬ (x10 = 0) →
  Rt R W0 M H3 nK (vb (false))))))))))))))))) :
  Calls Try.prog 20 #[] W0 R :=
  calls_sxA (M := M) (V := v_logBegun) (hi := {}) (args := []) (nv := 0) (e := (fun _ => .i 0)) Try.func20 hH h (by kernel_rfl) (by kernel_rfl) (by kernel_rfl)
def v_logKept : VC :=
(.chk (.le (.k 0) (.v 1))
(.ite (.lt (.k 50) (.v 1))
(.call 20 [] [] [(4, .b)] (.bool (.v 4)) .same
(.ret (.bool (.v 4)) []))
(.loop [(4, .n), (5, .s), (6, .p), (7, .n), (8, .n)] [.n (.k 0), .sc ⟨#[]⟩, .pn, .n (.k 0), .n (.k 0)] [.n (.v 4), .s 5, .p 6 (.k 0), .n (.v 7), .n (.v 8)]
(.ite (.lt (.v 4) (.v 1))
(.chk (.idx (.v 4) (.v 1))
(.chk (.isp 0)
(.ld 0 (.add (.k 0) (.mul (.v 4) (.k 9))) [.int .i64 (.v 9), .int .i64 (.v 10), .int .i64 (.v 11), .int .i64 (.v 12), .int .i64 (.v 13), .int .i64 (.v 14), .int .i64 (.v 15), .int .i64 (.v 16), .int .i64 (.v 17)] [(9, .i), (10, .i), (11, .i), (12, .i), (13, .i), (14, .i), (15, .i), (16, .i), (17, .i)]
(.call 15 [.agg [.int .i64 (.v 9), .int .i64 (.v 10), .int .i64 (.v 11), .int .i64 (.v 12), .int .i64 (.v 13), .int .i64 (.v 14), .int .i64 (.v 15), .int .i64 (.v 16), .int .i64 (.v 17)]] [] [(18, .s), (19, .i)] (.tup [.str 18, .int .i64 (.v 19)]) .same
(.ite (.eq (.v 19) (.k 0))
(.esc (.bop .add 9 (.tmp 37) (.tmp 38)) [.str 5, .str 18] [] [(20, .s)] (some (.str 20)) .same
(.all 0
(.esc (.bi .append #[43, 43] 43) [.slO 6 (.k 0) (.v 7) (.v 8), .slK 0 0 1 1] [(0, ⟨[.int .i64 (.slen 20)], 3⟩)] [(21, .p), (22, .n), (23, .n)] (some (.slO 21 (.k 0) (.v 22) (.v 23))) .turn
(.chk (.rng .i64 (.add (.v 4) (.k 1)))
(.chk (.le (.k 0) (.add (.v 4) (.k 1)))
(.chk (.le (.k 0) (.v 22))
(.chk (.le (.k 0) (.v 23))
(.back 0 [.n (.add (.v 4) (.k 1)), .s 20, .p 21 (.k 0), .n (.v 22), .n (.v 23)]))))))))
(.call 20 [] [] [(20, .b)] (.bool (.v 20)) .same
(.ret (.bool (.v 20)) [])))))))
(.chk (.rng .i64 (.add (.slen 5) (.k 1)))
(.call 22 [.int .i64 (.v 3), .int .i64 (.add (.slen 5) (.k 1))] [] [(9, .i)] (.int .i64 (.v 9)) .same
(.loop [(10, .n), (11, .i)] [.n (.k 0), .i (.k 0)] [.n (.v 10), .i (.v 11)]
(.chk (.le (.k 0) (.v 7))
(.ite (.lt (.v 10) (.v 7))
(.chk (.idx (.v 10) (.v 7))
(.chk (.isp 6)
(.ld 6 (.add (.k 0) (.mul (.v 10) (.k 1))) [.int .i64 (.v 12)] [(12, .i)]
(.ite (.le (.v 12) (.v 9))
(.ld 6 (.add (.k 0) (.mul (.v 10) (.k 1))) [.int .i64 (.v 13)] [(13, .i)]
(.chk (.rng .i64 (.add (.v 10) (.k 1)))
(.chk (.le (.k 0) (.add (.v 10) (.k 1)))
(.back 0 [.n (.add (.v 10) (.k 1)), .i (.v 13)]))))
(.esc (.slice 9 false true false) [.str 5, .int .i64 (.v 9)] [] [(13, .s)] (some (.str 13)) .same
(.call 18 [.str 13] [] [(14, .p), (15, .n), (16, .n), (17, .i), (18, .i)] (.tup [.slO 14 (.k 0) (.v 15) (.v 16), .int .i64 (.v 17), .int .i64 (.v 18)]) .fresh
(.call 20 [] [] [(19, .b)] (.bool (.v 19)) .same
(.ite (.v 19)
(.ite (.eq (.v 18) (.k 0))
(.ite (.eq (.v 17) (.v 11))
(.chk (.le (.k 0) (.v 10))
(.chk (.le (.v 10) (.v 2))
(.call 21 [.slO 14 (.k 0) (.v 15) (.v 16), .slO 0 (.k 0) (.v 10) (.v 2)] [] [(20, .b)] (.bool (.v 20)) .same
(.ret (.bool (.v 20)) []))))
(.ret (.bool (.k false)) []))
(.ret (.bool (.k false)) []))
(.ret (.bool (.k false)) [])))))))))
(.esc (.slice 9 false true false) [.str 5, .int .i64 (.v 9)] [] [(12, .s)] (some (.str 12)) .same
(.call 18 [.str 12] [] [(13, .p), (14, .n), (15, .n), (16, .i), (17, .i)] (.tup [.slO 13 (.k 0) (.v 14) (.v 15), .int .i64 (.v 16), .int .i64 (.v 17)]) .fresh
(.call 20 [] [] [(18, .b)] (.bool (.v 18)) .same
(.ite (.v 18)
(.ite (.eq (.v 17) (.k 0))
(.ite (.eq (.v 16) (.v 11))
(.chk (.le (.k 0) (.v 10))
(.chk (.le (.v 10) (.v 2))
(.call 21 [.slO 13 (.k 0) (.v 14) (.v 15), .slO 0 (.k 0) (.v 10) (.v 2)] [] [(19, .b)] (.bool (.v 19)) .same
(.ret (.bool (.v 19)) []))))
(.ret (.bool (.k false)) []))
(.ret (.bool (.k false)) []))
(.ret (.bool (.k false)) []))))))))))))))
theorem x_logKept (x0 : Option Loc) (x1 : Nat) (x2 : Nat) (x3 : Int) (M : Nat → Prop) (H0 : Hp) (W0 : World) (R : Ending → World → Prop) (hH : H0.le (hpOf W0)) (h :
 (0 ≤ (x1 : Int) ∧ (0 ≤ (x1 : Int) →
 ((50 < (x1 : Int) →
  (Cl Try.prog W0 M H0 nK 20 #[] fun z W1 W2 => ∃ x4 : Bool, z = .returned (vb (x4)) ∧ Ext W1 W2 ∧
  Rt R W0 M H0 nK (vb (x4)))) ∧
 (¬ (50 < (x1 : Int)) →
  (∃ (I0 : List Dat → Hp → Prop) (μ0 : List Dat → Nat), I0 [.n 0, .s ⟨#[]⟩, .p none, .n 0, .n 0] H0 ∧ ∀ H1 : Hp, ∀ x4 : Nat, ∀ x5 : ByteArray, ∀ x6 : Option Loc, ∀ x7 : Nat, ∀ x8 : Nat, I0 [.n x4, .s x5, .p (x6.map fun a => a.shift 0), .n x7, .n x8] H1 →
   (((x4 : Int) < (x1 : Int) →
    (((0 : Int) ≤ (x4 : Int) ∧ (x4 : Int) < (x1 : Int)) ∧ (((0 : Int) ≤ (x4 : Int) ∧ (x4 : Int) < (x1 : Int)) →
    (x0.isSome = true ∧ (x0.isSome = true →
    (∃ x9 : Int, ∃ x10 : Int, ∃ x11 : Int, ∃ x12 : Int, ∃ x13 : Int, ∃ x14 : Int, ∃ x15 : Int, ∃ x16 : Int, ∃ x17 : Int, RowAt H1 x0 (0 + ((x4 : Int) * 9)) [vi x9, vi x10, vi x11, vi x12, vi x13, vi x14, vi x15, vi x16, vi x17] ∧
    (Cl Try.prog W0 M H1 nK 15 #[Value.agg #[vi x9, vi x10, vi x11, vi x12, vi x13, vi x14, vi x15, vi x16, vi x17]] fun z W1 W2 => ∃ x18 : ByteArray, ∃ x19 : Int, z = .returned (Value.tuple #[Value.string x18, vi x19]) ∧ Ext W1 W2 ∧
    ((x19 = 0 →
     (Es W0 M H1 nK fun W3 => ∃ x20 : ByteArray, Eo Try.prog (.bop .add 9 (.tmp 37) (.tmp 38)) [Value.string x5, Value.string x18] W3 (.value (Value.string x20)) fun W4 => Ext W3 W4 ∧
     (∀ b0 : Nat,
     (Es W0 M H1 (fun W => Kn W0 M H1 W b0 (Obj.cells #[vi (x20.size : Int)] 3 (0, 0)) ∧ True) fun W5 => ∃ x21 : Option Loc, ∃ x22 : Nat, ∃ x23 : Nat, Eo Try.prog (.bi .append #[43, 43] 43) [vsl x6 x7 x8, Value.slice (some ⟨b0, 0, none⟩) 1 1] W5 (.value (vsl x21 x22 x23)) fun W6 => Tn W0 M H1 W5 W6 fun H2 =>
     (inKind .i64 ((x4 : Int) + 1) ∧ (inKind .i64 ((x4 : Int) + 1) →
     (0 ≤ ((x4 : Int) + 1) ∧ (0 ≤ ((x4 : Int) + 1) →
     (0 ≤ (x22 : Int) ∧ (0 ≤ (x22 : Int) →
     (0 ≤ (x23 : Int) ∧ (0 ≤ (x23 : Int) →
     (I0 [.n (((x4 : Int) + 1) : Int).toNat, .s x20, .p (x21.map fun a => a.shift 0), .n x22, .n x23] H2 ∧ μ0 [.n (((x4 : Int) + 1) : Int).toNat, .s x20, .p (x21.map fun a => a.shift 0), .n x22, .n x23] < μ0 [.n x4, .s x5, .p (x6.map fun a => a.shift 0), .n x7, .n x8]))))))))))))) ∧
    (¬ (x19 = 0) →
     (Cl Try.prog W0 M H1 nK 20 #[] fun z W3 W4 => ∃ x20 : Bool, z = .returned (vb (x20)) ∧ Ext W3 W4 ∧
     Rt R W0 M H1 nK (vb (x20)))))))))))) ∧
   (¬ ((x4 : Int) < (x1 : Int)) →
    (inKind .i64 ((x5.size : Int) + 1) ∧ (inKind .i64 ((x5.size : Int) + 1) →
    (Cl Try.prog W0 M H1 nK 22 #[vi x3, vi ((x5.size : Int) + 1)] fun z W1 W2 => ∃ x9 : Int, z = .returned (vi x9) ∧ Ext W1 W2 ∧
    (∃ (I1 : List Dat → Hp → Prop) (μ1 : List Dat → Nat), I1 [.n 0, .i 0] H1 ∧ ∀ H2 : Hp, ∀ x10 : Nat, ∀ x11 : Int, I1 [.n x10, .i x11] H2 →
     (0 ≤ (x7 : Int) ∧ (0 ≤ (x7 : Int) →
     (((x10 : Int) < (x7 : Int) →
      (((0 : Int) ≤ (x10 : Int) ∧ (x10 : Int) < (x7 : Int)) ∧ (((0 : Int) ≤ (x10 : Int) ∧ (x10 : Int) < (x7 : Int)) →
      (x6.isSome = true ∧ (x6.isSome = true →
      (∃ x12 : Int, RowAt H2 x6 (0 + ((x10 : Int) * 1)) [vi x12] ∧
      ((x12 ≤ x9 →
       (∃ x13 : Int, RowAt H2 x6 (0 + ((x10 : Int) * 1)) [vi x13] ∧
       (inKind .i64 ((x10 : Int) + 1) ∧ (inKind .i64 ((x10 : Int) + 1) →
       (0 ≤ ((x10 : Int) + 1) ∧ (0 ≤ ((x10 : Int) + 1) →
       (I1 [.n (((x10 : Int) + 1) : Int).toNat, .i x13] H2 ∧ μ1 [.n (((x10 : Int) + 1) : Int).toNat, .i x13] < μ1 [.n x10, .i x11]))))))) ∧
      (¬ (x12 ≤ x9) →
       (Es W0 M H2 nK fun W3 => ∃ x13 : ByteArray, Eo Try.prog (.slice 9 false true false) [Value.string x5, vi x9] W3 (.value (Value.string x13)) fun W4 => Ext W3 W4 ∧
       (Cl Try.prog W0 M H2 nK 18 #[Value.string x13] fun z W5 W6 => ∃ x14 : Option Loc, ∃ x15 : Nat, ∃ x16 : Nat, ∃ x17 : Int, ∃ x18 : Int, z = .returned (Value.tuple #[vsl x14 x15 x16, vi x17, vi x18]) ∧ Fr W5 W6 H2 fun H3 =>
       (Cl Try.prog W0 M H3 nK 20 #[] fun z W7 W8 => ∃ x19 : Bool, z = .returned (vb (x19)) ∧ Ext W7 W8 ∧
       ((x19 = true →
        ((x18 = 0 →
         ((x17 = x11 →
          (0 ≤ (x10 : Int) ∧ (0 ≤ (x10 : Int) →
          ((x10 : Int) ≤ (x2 : Int) ∧ ((x10 : Int) ≤ (x2 : Int) →
          (Cl Try.prog W0 M H3 nK 21 #[vsl x14 x15 x16, vsl x0 x10 x2] fun z W9 W10 => ∃ x20 : Bool, z = .returned (vb (x20)) ∧ Ext W9 W10 ∧
          Rt R W0 M H3 nK (vb (x20)))))))) ∧
         (¬ (x17 = x11) →
          Rt R W0 M H3 nK (vb (false))))) ∧
        (¬ (x18 = 0) →
         Rt R W0 M H3 nK (vb (false))))) ∧
       (¬ (x19 = true) →
        Rt R W0 M H3 nK (vb (false))))))))))))))) ∧
     (¬ ((x10 : Int) < (x7 : Int)) →
      (Es W0 M H2 nK fun W3 => ∃ x12 : ByteArray, Eo Try.prog (.slice 9 false true false) [Value.string x5, vi x9] W3 (.value (Value.string x12)) fun W4 => Ext W3 W4 ∧
      (Cl Try.prog W0 M H2 nK 18 #[Value.string x12] fun z W5 W6 => ∃ x13 : Option Loc, ∃ x14 : Nat, ∃ x15 : Nat, ∃ x16 : Int, ∃ x17 : Int, z = .returned (Value.tuple #[vsl x13 x14 x15, vi x16, vi x17]) ∧ Fr W5 W6 H2 fun H3 =>
      (Cl Try.prog W0 M H3 nK 20 #[] fun z W7 W8 => ∃ x18 : Bool, z = .returned (vb (x18)) ∧ Ext W7 W8 ∧
      ((x18 = true →
       ((x17 = 0 →
        ((x16 = x11 →
         (0 ≤ (x10 : Int) ∧ (0 ≤ (x10 : Int) →
         ((x10 : Int) ≤ (x2 : Int) ∧ ((x10 : Int) ≤ (x2 : Int) →
         (Cl Try.prog W0 M H3 nK 21 #[vsl x13 x14 x15, vsl x0 x10 x2] fun z W9 W10 => ∃ x19 : Bool, z = .returned (vb (x19)) ∧ Ext W9 W10 ∧
         Rt R W0 M H3 nK (vb (x19)))))))) ∧
        (¬ (x16 = x11) →
         Rt R W0 M H3 nK (vb (false))))) ∧
       (¬ (x17 = 0) →
        Rt R W0 M H3 nK (vb (false))))) ∧
      (¬ (x18 = true) →
       Rt R W0 M H3 nK (vb (false))))))))))))))))))))))) :
  Calls Try.prog 5 #[vsl x0 x1 x2, vi x3] W0 R :=
  calls_sxA (M := M) (V := v_logKept) (hi := {loops := [(6, .inv [(7, .nat), (5, .pt .str), (6, .pt .sl)] []), (15, .inv [(11, .nat), (12, .pt (.int .i64))] [])]}) (args := [.slO 0 (.k 0) (.v 1) (.v 2), .int .i64 (.v 3)]) (nv := 4) (e := (upd (upd (upd (upd (fun _ => .i 0) 0 (.p x0)) 1 (.n x1)) 2 (.n x2)) 3 (.i x3))) Try.func5 hH h (by kernel_rfl) (by kernel_rfl) (by kernel_rfl)
end Go.Proofs.Ytoilhpkclabhoaa
namespace Go.Proofs.Ytoilhpkclabhoaa
open Go.RowKit

def eA : Ent := ⟨1, 300, 1, 0, 0, ⟨0, 0, 0, 0⟩⟩
def eB : Ent := ⟨2, 2, 1, 1, 0, ⟨2, 0, 0, -5⟩⟩
theorem two_read : lRep (encE eA ++ encE eB ++ [1]) = ([eA, eB], 15, 0) := by decide +kernel
theorem wA : lWrite eA = (encE eA, 0) := by decide +kernel
theorem wB : lWrite eB = (encE eB, 0) := by decide +kernel
theorem wZ : (lWrite ⟨0, 0, 0, 0, 0, ⟨0, 0, 0, 0⟩⟩).2 = 4 := by decide +kernel
theorem encA : encE eA = [1, 1, 44, 1] := by decide +kernel
theorem encB : (encE eB).length = 11 := by decide +kernel
theorem two64 : ∀ e ∈ [eA, eB], e.in64 := by decide +kernel
theorem ents2 {W0 W : World} {H : Hp} {b : Nat} {C : Array Value} {T : Nat} {p : Option Loc} {n c : Nat} (hE : Ents H p n c [eA, eB]) (hC : C.toList = ([eA, eB].map Ent.row).flatten) (nn : Now W0 noM H W) (k : Kn W0 noM H W b (.cells C T (0, 0))) :
    ∃ H1 : Hp, H1.le (hpOf W) ∧ Gv Try.prog 21 #[vsl p n c, vsl (some (b, 0)) 2 2] H1 (vb true) :=
  ⟨_, addH_le nn.sub k.eq, decide_eq_true (rfl : [eA, eB] = [eA, eB]) ▸ c_sameEnts (hE.mono (le_addH k.off)) (ents_blk (l := [eA, eB]) (addH_at ..) rfl (by simp [maxLen]) two64 (by rw [hC]; rfl))⟩
theorem zcells_byte : zcells Try.prog 5 = some [.int .u8 0] := by kernel_rfl
theorem bytes0 {D : Hp} {p : Option Loc} {n c : Nat} {g : Option Nat} (h : Ow D 5 1 p n c (List.replicate n [.int .u8 0]) g) : Bs D p n (List.replicate n 0) := by
  have : (List.replicate n (0 : UInt8)).map yrow = List.replicate n [Value.int .u8 0] := by rw [List.map_replicate]; rfl
  unfold Bs
  rw [this]
  exact h.rows
theorem c_logBegun (H : Hp) : Gv Try.prog 20 #[] H (vb true) := fun W hH => by
  refine x_logBegun noM H W _ hH ?_
  refine Cl.same (c_lopen 300 1 H) fun _ _ hx => ⟨_, _, _, _, _, _, _, _, _, rfl, hx, ?_⟩
  refine Cl.same (c_logWrite eA H) fun _ _ hx => ⟨_, _, rfl, hx, ?_⟩
  rw [wA]
  refine Cl.same (c_ladd (-5) H) fun _ _ hx => ⟨_, _, _, _, rfl, hx, ?_⟩
  refine Cl.same (c_lcall 2 1 1 0 ⟨2, 0, 0, -5⟩ H) fun _ _ hx => ⟨_, _, _, _, _, _, _, _, _, rfl, hx, ?_⟩
  refine Cl.same (c_logWrite eB H) fun _ _ hx => ⟨_, _, rfl, hx, ?_⟩
  rw [wB]
  refine fun W1 n1 _ => ⟨_, _, ek_str_add _ _ (encE eA) (encE eB) (by rw [encA]; simp) (by rw [encB]; omega), Ext.refl _, fun W2 n2 _ => ⟨_, _, ek_str_add _ _ (encE eA ++ encE eB) [1] (by rw [List.length_append, encA, encB]; simp) (by simp), Ext.refl _, ?_⟩⟩
  refine Cl.fresh (c_logReplay (encE eA ++ encE eB ++ [1]) H) ?_
  rw [two_read]
  rintro v Wa Wb D ⟨p1, m1, c1, rfl, hE1⟩ hx hD hf nn
  refine ⟨p1, m1, c1, _, _, rfl, hx, D, hD, hf, fun H1 le1 hD1 => ?_⟩
  refine Cl.same (c_logWrite ⟨0, 0, 0, 0, 0, ⟨0, 0, 0, 0⟩⟩ H1) fun _ _ hx => ⟨_, _, rfl, hx, fun W3 n3 _ => ?_⟩
  obtain ⟨bi, bz, b1, b2, b3, b4, b5, _⟩ := info_of infoByte
  obtain ⟨W4, hrun, hx4, D4, hD4, hf4, g4, ho4, _⟩ := ek_make1 (P := Try.prog) (t := 71) (e := 5) Try.underlying71 zcells_byte b1 (by omega) rfl (n := 4097) (by omega) W3
  refine ⟨_, _, _, W4, hrun, Fr.of hx4 hD4 hf4 fun H2 le2 hD2 W5 n5 _ => ⟨_, _, ek_bytes_str ((bytes0 ho4).mono hD2) n5.sub, Ext.refl _, ?_⟩⟩
  refine Cl.fresh (c_logReplay (List.replicate 4097 0) H2) ?_
  rw [show lRep (List.replicate 4097 0) = ([], 0, 2) from if_pos (by rw [List.length_replicate]; omega)]
  rintro v Wa Wb D5 ⟨p5, m5, c5, rfl, _⟩ hx hD5 hf5 nn
  refine ⟨p5, m5, c5, _, _, rfl, hx, D5, hD5, hf5, fun H3 le3 hD3 => ⟨fun _ => ⟨fun _ => ⟨fun _ => ⟨fun _ => ⟨fun _ => ?_, fun h => absurd rfl h⟩, fun h => absurd wZ h⟩, fun h => absurd rfl h⟩, fun h => absurd rfl h⟩, fun h => absurd rfl h⟩⟩
  refine fun W6 n6 _ => ⟨_, _, ek_str_eq _ _ (encE eA) [1, 1, 44, 1], Ext.refl _, fun _ => ⟨fun _ => ⟨fun _ => ?_, fun h => absurd rfl h⟩, fun h => absurd (by rw [bs_size, encB]; rfl) h⟩, fun h => absurd (by rw [encA]; rfl) h⟩
  refine Cl.same (c_lopen 300 1 H3) fun _ _ hx => ⟨_, _, _, _, _, _, _, _, _, rfl, hx, ?_⟩
  refine Cl.same (c_ladd (-5) H3) fun _ _ hx => ⟨_, _, _, _, rfl, hx, ?_⟩
  refine Cl.same (c_lcall 2 1 1 0 ⟨2, 0, 0, -5⟩ H3) fun _ _ hx => ⟨_, _, _, _, _, _, _, _, _, rfl, hx, fun b0 => ?_⟩
  exact Cl.sameK (fun W n k => ents2 (((hE1.mono hD1).mono le2).mono le3) rfl n k.1) fun _ _ hx => ⟨_, rfl, hx, Rt.gv⟩
end Go.Proofs.Ytoilhpkclabhoaa
