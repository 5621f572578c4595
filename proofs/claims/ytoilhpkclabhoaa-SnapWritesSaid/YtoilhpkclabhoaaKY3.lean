/- Symbolic runs of functions: what each leaves to prove is enough for its call. Printed by a program of ours. No conditions. Contracts: the laws of states as bytes. No conditions. -/
import Derived.Test.YtoilhpkclabhoaaKE3
import Derived.Test.YtoilhpkclabhoaaProg
import Derived.Test.YtoilhpkclabhoaaKY2
import Derived.Test.YtoilhpkclabhoaaKL1
import Derived.Laws.Concat
set_option linter.unusedVariables false
set_option linter.unusedSimpArgs false
namespace Go.Proofs.Ytoilhpkclabhoaa
open Go.RowKit
set_option maxRecDepth 100000
set_option maxHeartbeats 4000000
def v_snapBegun : VC :=
(.call 31 [] [] [(0, .i), (1, .i), (2, .i), (3, .i), (4, .i), (5, .i), (6, .p), (7, .n), (8, .n)] (.agg [.int .i64 (.v 0), .int .i64 (.v 1), .int .i64 (.v 2), .int .i64 (.v 3), .int .i64 (.v 4), .int .i64 (.v 5), .slO 6 (.k 0) (.v 7) (.v 8)]) .fresh
(.call 23 [.agg [.int .i64 (.v 0), .int .i64 (.v 1), .int .i64 (.v 2), .int .i64 (.v 3), .int .i64 (.v 4), .int .i64 (.v 5), .slO 6 (.k 0) (.v 7) (.v 8)]] [] [(9, .s), (10, .i)] (.tup [.str 9, .int .i64 (.v 10)]) .same
(.call 25 [.str 9] [] [(11, .i), (12, .i), (13, .i), (14, .i), (15, .i), (16, .i), (17, .p), (18, .n), (19, .n), (20, .i)] (.tup [.agg [.int .i64 (.v 11), .int .i64 (.v 12), .int .i64 (.v 13), .int .i64 (.v 14), .int .i64 (.v 15), .int .i64 (.v 16), .slO 17 (.k 0) (.v 18) (.v 19)], .int .i64 (.v 20)]) .fresh
(.all 0
(.esc (.bop .add 9 (.tmp 20) (.const (Value.string ⟨#[120]⟩))) [.str 9, .c (Value.string ⟨#[120]⟩)] [] [(21, .s)] (some (.str 21)) .same
(.call 25 [.str 21] [] [(22, .i), (23, .i), (24, .i), (25, .i), (26, .i), (27, .i), (28, .p), (29, .n), (30, .n), (31, .i)] (.tup [.agg [.int .i64 (.v 22), .int .i64 (.v 23), .int .i64 (.v 24), .int .i64 (.v 25), .int .i64 (.v 26), .int .i64 (.v 27), .slO 28 (.k 0) (.v 29) (.v 30)], .int .i64 (.v 31)]) .fresh
(.all 1
(.call 23 [.agg [.int .i64 (.k (-1)), .int .i64 (.k 0), .int .i64 (.k 0), .int .i64 (.k 0), .int .i64 (.k 0), .int .i64 (.k 0), .c (Value.slice none 0 0)]] [] [(32, .s), (33, .i)] (.tup [.str 32, .int .i64 (.v 33)]) .same
(.ite (.eq (.v 10) (.k 0))
(.ite (.eq (.v 20) (.k 0))
(.ite (.eq (.v 31) (.k 1))
(.ite (.eq (.v 33) (.k 3))
(.ite (.eq (.slen 9) (.k 34))
(.call 31 [] [] [(34, .i), (35, .i), (36, .i), (37, .i), (38, .i), (39, .i), (40, .p), (41, .n), (42, .n)] (.agg [.int .i64 (.v 34), .int .i64 (.v 35), .int .i64 (.v 36), .int .i64 (.v 37), .int .i64 (.v 38), .int .i64 (.v 39), .slO 40 (.k 0) (.v 41) (.v 42)]) .fresh
(.call 14 [.agg [.int .i64 (.v 11), .int .i64 (.v 12), .int .i64 (.v 13), .int .i64 (.v 14), .int .i64 (.v 15), .int .i64 (.v 16), .slO 17 (.k 0) (.v 18) (.v 19)], .agg [.int .i64 (.v 34), .int .i64 (.v 35), .int .i64 (.v 36), .int .i64 (.v 37), .int .i64 (.v 38), .int .i64 (.v 39), .slO 40 (.k 0) (.v 41) (.v 42)]] [] [(43, .b)] (.bool (.v 43)) .same
(.ret (.bool (.v 43)) [])))
(.ret (.bool (.k false)) []))
(.ret (.bool (.k false)) []))
(.ret (.bool (.k false)) []))
(.ret (.bool (.k false)) []))
(.ret (.bool (.k false)) []))))))))))
theorem x_snapBegun (M : Nat → Prop) (H0 : Hp) (W0 : World) (R : Ending → World → Prop) (hH : H0.le (hpOf W0)) (h :
 (Cl Try.prog W0 M H0 nK 31 #[] fun z W1 W2 => ∃ x0 : Int, ∃ x1 : Int, ∃ x2 : Int, ∃ x3 : Int, ∃ x4 : Int, ∃ x5 : Int, ∃ x6 : Option Loc, ∃ x7 : Nat, ∃ x8 : Nat, z = .returned (Value.agg #[vi x0, vi x1, vi x2, vi x3, vi x4, vi x5, vsl x6 x7 x8]) ∧ Fr W1 W2 H0 fun H1 =>
 (Cl Try.prog W0 M H1 nK 23 #[Value.agg #[vi x0, vi x1, vi x2, vi x3, vi x4, vi x5, vsl x6 x7 x8]] fun z W3 W4 => ∃ x9 : ByteArray, ∃ x10 : Int, z = .returned (Value.tuple #[Value.string x9, vi x10]) ∧ Ext W3 W4 ∧
 (Cl Try.prog W0 M H1 nK 25 #[Value.string x9] fun z W5 W6 => ∃ x11 : Int, ∃ x12 : Int, ∃ x13 : Int, ∃ x14 : Int, ∃ x15 : Int, ∃ x16 : Int, ∃ x17 : Option Loc, ∃ x18 : Nat, ∃ x19 : Nat, ∃ x20 : Int, z = .returned (Value.tuple #[Value.agg #[vi x11, vi x12, vi x13, vi x14, vi x15, vi x16, vsl x17 x18 x19], vi x20]) ∧ Fr W5 W6 H1 fun H2 =>
 (∀ b0 : Nat,
 (Es W0 M H2 nK fun W7 => ∃ x21 : ByteArray, Eo Try.prog (.bop .add 9 (.tmp 20) (.const (Value.string ⟨#[120]⟩))) [Value.string x9, Value.string ⟨#[120]⟩] W7 (.value (Value.string x21)) fun W8 => Ext W7 W8 ∧
 (Cl Try.prog W0 M H2 nK 25 #[Value.string x21] fun z W9 W10 => ∃ x22 : Int, ∃ x23 : Int, ∃ x24 : Int, ∃ x25 : Int, ∃ x26 : Int, ∃ x27 : Int, ∃ x28 : Option Loc, ∃ x29 : Nat, ∃ x30 : Nat, ∃ x31 : Int, z = .returned (Value.tuple #[Value.agg #[vi x22, vi x23, vi x24, vi x25, vi x26, vi x27, vsl x28 x29 x30], vi x31]) ∧ Fr W9 W10 H2 fun H3 =>
 (∀ b1 : Nat,
 (Cl Try.prog W0 M H3 nK 23 #[Value.agg #[vi (-1), vi 0, vi 0, vi 0, vi 0, vi 0, Value.slice none 0 0]] fun z W11 W12 => ∃ x32 : ByteArray, ∃ x33 : Int, z = .returned (Value.tuple #[Value.string x32, vi x33]) ∧ Ext W11 W12 ∧
 ((x10 = 0 →
  ((x20 = 0 →
   ((x31 = 1 →
    ((x33 = 3 →
     (((x9.size : Int) = 34 →
      (Cl Try.prog W0 M H3 nK 31 #[] fun z W13 W14 => ∃ x34 : Int, ∃ x35 : Int, ∃ x36 : Int, ∃ x37 : Int, ∃ x38 : Int, ∃ x39 : Int, ∃ x40 : Option Loc, ∃ x41 : Nat, ∃ x42 : Nat, z = .returned (Value.agg #[vi x34, vi x35, vi x36, vi x37, vi x38, vi x39, vsl x40 x41 x42]) ∧ Fr W13 W14 H3 fun H4 =>
      (Cl Try.prog W0 M H4 nK 14 #[Value.agg #[vi x11, vi x12, vi x13, vi x14, vi x15, vi x16, vsl x17 x18 x19], Value.agg #[vi x34, vi x35, vi x36, vi x37, vi x38, vi x39, vsl x40 x41 x42]] fun z W15 W16 => ∃ x43 : Bool, z = .returned (vb (x43)) ∧ Ext W15 W16 ∧
      Rt R W0 M H4 nK (vb (x43))))) ∧
     (¬ ((x9.size : Int) = 34) →
      Rt R W0 M H3 nK (vb (false))))) ∧
    (¬ (x33 = 3) →
     Rt R W0 M H3 nK (vb (false))))) ∧
   (¬ (x31 = 1) →
    Rt R W0 M H3 nK (vb (false))))) ∧
  (¬ (x20 = 0) →
   Rt R W0 M H3 nK (vb (false))))) ∧
 (¬ (x10 = 0) →
  Rt R W0 M H3 nK (vb (false))))))))))))) :
  Calls Try.prog 26 #[] W0 R :=
  calls_sxA (M := M) (V := v_snapBegun) (hi := {}) (args := []) (nv := 0) (e := (fun _ => .i 0)) Try.func26 hH h (by kernel_rfl) (by kernel_rfl) (by kernel_rfl)
def v_snapWrites : VC :=
(.all 0
(.call 23 [.agg [.int .i64 (.v 0), .int .i64 (.v 1), .int .i64 (.v 2), .int .i64 (.v 3), .int .i64 (.v 4), .int .i64 (.v 5), .slO 6 (.k 0) (.v 7) (.v 8)]] [] [(10, .s), (11, .i)] (.tup [.str 10, .int .i64 (.v 11)]) .same
(.call 12 [.agg [.int .i64 (.v 0), .int .i64 (.v 1), .int .i64 (.v 2), .int .i64 (.v 3), .int .i64 (.v 4), .int .i64 (.v 5), .slO 6 (.k 0) (.v 7) (.v 8)]] [] [(12, .i)] (.int .i64 (.v 12)) .same
(.ite (.eq (.v 12) (.k 0))
(.call 24 [.agg [.int .i64 (.v 0), .int .i64 (.v 1), .int .i64 (.v 2), .int .i64 (.v 3), .int .i64 (.v 4), .int .i64 (.v 5), .slO 6 (.k 0) (.v 7) (.v 8)]] [] [(13, .s)] (.str 13) .same
(.call 25 [.str 9] [] [(14, .i), (15, .i), (16, .i), (17, .i), (18, .i), (19, .i), (20, .p), (21, .n), (22, .n), (23, .i)] (.tup [.agg [.int .i64 (.v 14), .int .i64 (.v 15), .int .i64 (.v 16), .int .i64 (.v 17), .int .i64 (.v 18), .int .i64 (.v 19), .slO 20 (.k 0) (.v 21) (.v 22)], .int .i64 (.v 23)]) .fresh
(.all 1
(.ite (.lt (.k 4096) (.slen 9))
(.call 26 [] [] [(24, .b)] (.bool (.v 24)) .same
(.ite (.v 24)
(.esc (.bop .eql 9 (.tmp 35) (.tmp 36)) [.str 10, .str 13] [] [(25, .b)] (some (.bool (.v 25))) .same
(.ite (.v 25)
(.ite (.eq (.v 11) (.v 12))
(.ite (.eq (.v 23) (.k 2))
(.call 14 [.agg [.int .i64 (.v 14), .int .i64 (.v 15), .int .i64 (.v 16), .int .i64 (.v 17), .int .i64 (.v 18), .int .i64 (.v 19), .slO 20 (.k 0) (.v 21) (.v 22)], .agg [.int .i64 (.k 0), .int .i64 (.k 0), .int .i64 (.k 0), .int .i64 (.k 0), .int .i64 (.k 0), .int .i64 (.k 0), .c (Value.slice none 0 0)]] [] [(26, .b)] (.bool (.v 26)) .same
(.ret (.bool (.v 26)) []))
(.ret (.bool (.k false)) []))
(.ret (.bool (.k false)) []))
(.ret (.bool (.k false)) [])))
(.ret (.bool (.k false)) [])))
(.call 27 [.str 9] [] [(24, .i), (25, .i), (26, .i), (27, .i), (28, .i), (29, .i), (30, .p), (31, .n), (32, .n), (33, .b)] (.tup [.agg [.int .i64 (.v 24), .int .i64 (.v 25), .int .i64 (.v 26), .int .i64 (.v 27), .int .i64 (.v 28), .int .i64 (.v 29), .slO 30 (.k 0) (.v 31) (.v 32)], .bool (.v 33)]) .fresh
(.all 2
(.ite (.v 33)
(.call 26 [] [] [(34, .b)] (.bool (.v 34)) .same
(.ite (.v 34)
(.esc (.bop .eql 9 (.tmp 62) (.tmp 63)) [.str 10, .str 13] [] [(35, .b)] (some (.bool (.v 35))) .same
(.ite (.v 35)
(.ite (.eq (.v 11) (.v 12))
(.ite (.eq (.v 23) (.k 0))
(.call 14 [.agg [.int .i64 (.v 14), .int .i64 (.v 15), .int .i64 (.v 16), .int .i64 (.v 17), .int .i64 (.v 18), .int .i64 (.v 19), .slO 20 (.k 0) (.v 21) (.v 22)], .agg [.int .i64 (.v 24), .int .i64 (.v 25), .int .i64 (.v 26), .int .i64 (.v 27), .int .i64 (.v 28), .int .i64 (.v 29), .slO 30 (.k 0) (.v 31) (.v 32)]] [] [(36, .b)] (.bool (.v 36)) .same
(.ret (.bool (.v 36)) []))
(.ret (.bool (.k false)) []))
(.ret (.bool (.k false)) []))
(.ret (.bool (.k false)) [])))
(.ret (.bool (.k false)) [])))
(.call 26 [] [] [(34, .b)] (.bool (.v 34)) .same
(.ite (.v 34)
(.esc (.bop .eql 9 (.tmp 62) (.tmp 63)) [.str 10, .str 13] [] [(35, .b)] (some (.bool (.v 35))) .same
(.ite (.v 35)
(.ite (.eq (.v 11) (.v 12))
(.ite (.eq (.v 23) (.k 1))
(.call 14 [.agg [.int .i64 (.v 14), .int .i64 (.v 15), .int .i64 (.v 16), .int .i64 (.v 17), .int .i64 (.v 18), .int .i64 (.v 19), .slO 20 (.k 0) (.v 21) (.v 22)], .agg [.int .i64 (.v 24), .int .i64 (.v 25), .int .i64 (.v 26), .int .i64 (.v 27), .int .i64 (.v 28), .int .i64 (.v 29), .slO 30 (.k 0) (.v 31) (.v 32)]] [] [(36, .b)] (.bool (.v 36)) .same
(.ret (.bool (.v 36)) []))
(.ret (.bool (.k false)) []))
(.ret (.bool (.k false)) []))
(.ret (.bool (.k false)) [])))
(.ret (.bool (.k false)) []))))))))))
(.call 25 [.str 9] [] [(13, .i), (14, .i), (15, .i), (16, .i), (17, .i), (18, .i), (19, .p), (20, .n), (21, .n), (22, .i)] (.tup [.agg [.int .i64 (.v 13), .int .i64 (.v 14), .int .i64 (.v 15), .int .i64 (.v 16), .int .i64 (.v 17), .int .i64 (.v 18), .slO 19 (.k 0) (.v 20) (.v 21)], .int .i64 (.v 22)]) .fresh
(.all 1
(.ite (.lt (.k 4096) (.slen 9))
(.call 26 [] [] [(23, .b)] (.bool (.v 23)) .same
(.ite (.v 23)
(.esc (.bop .eql 9 (.tmp 35) (.tmp 36)) [.str 10, .c (Value.string ⟨#[]⟩)] [] [(24, .b)] (some (.bool (.v 24))) .same
(.ite (.v 24)
(.ite (.eq (.v 11) (.v 12))
(.ite (.eq (.v 22) (.k 2))
(.call 14 [.agg [.int .i64 (.v 13), .int .i64 (.v 14), .int .i64 (.v 15), .int .i64 (.v 16), .int .i64 (.v 17), .int .i64 (.v 18), .slO 19 (.k 0) (.v 20) (.v 21)], .agg [.int .i64 (.k 0), .int .i64 (.k 0), .int .i64 (.k 0), .int .i64 (.k 0), .int .i64 (.k 0), .int .i64 (.k 0), .c (Value.slice none 0 0)]] [] [(25, .b)] (.bool (.v 25)) .same
(.ret (.bool (.v 25)) []))
(.ret (.bool (.k false)) []))
(.ret (.bool (.k false)) []))
(.ret (.bool (.k false)) [])))
(.ret (.bool (.k false)) [])))
(.call 27 [.str 9] [] [(23, .i), (24, .i), (25, .i), (26, .i), (27, .i), (28, .i), (29, .p), (30, .n), (31, .n), (32, .b)] (.tup [.agg [.int .i64 (.v 23), .int .i64 (.v 24), .int .i64 (.v 25), .int .i64 (.v 26), .int .i64 (.v 27), .int .i64 (.v 28), .slO 29 (.k 0) (.v 30) (.v 31)], .bool (.v 32)]) .fresh
(.all 2
(.ite (.v 32)
(.call 26 [] [] [(33, .b)] (.bool (.v 33)) .same
(.ite (.v 33)
(.esc (.bop .eql 9 (.tmp 62) (.tmp 63)) [.str 10, .c (Value.string ⟨#[]⟩)] [] [(34, .b)] (some (.bool (.v 34))) .same
(.ite (.v 34)
(.ite (.eq (.v 11) (.v 12))
(.ite (.eq (.v 22) (.k 0))
(.call 14 [.agg [.int .i64 (.v 13), .int .i64 (.v 14), .int .i64 (.v 15), .int .i64 (.v 16), .int .i64 (.v 17), .int .i64 (.v 18), .slO 19 (.k 0) (.v 20) (.v 21)], .agg [.int .i64 (.v 23), .int .i64 (.v 24), .int .i64 (.v 25), .int .i64 (.v 26), .int .i64 (.v 27), .int .i64 (.v 28), .slO 29 (.k 0) (.v 30) (.v 31)]] [] [(35, .b)] (.bool (.v 35)) .same
(.ret (.bool (.v 35)) []))
(.ret (.bool (.k false)) []))
(.ret (.bool (.k false)) []))
(.ret (.bool (.k false)) [])))
(.ret (.bool (.k false)) [])))
(.call 26 [] [] [(33, .b)] (.bool (.v 33)) .same
(.ite (.v 33)
(.esc (.bop .eql 9 (.tmp 62) (.tmp 63)) [.str 10, .c (Value.string ⟨#[]⟩)] [] [(34, .b)] (some (.bool (.v 34))) .same
(.ite (.v 34)
(.ite (.eq (.v 11) (.v 12))
(.ite (.eq (.v 22) (.k 1))
(.call 14 [.agg [.int .i64 (.v 13), .int .i64 (.v 14), .int .i64 (.v 15), .int .i64 (.v 16), .int .i64 (.v 17), .int .i64 (.v 18), .slO 19 (.k 0) (.v 20) (.v 21)], .agg [.int .i64 (.v 23), .int .i64 (.v 24), .int .i64 (.v 25), .int .i64 (.v 26), .int .i64 (.v 27), .int .i64 (.v 28), .slO 29 (.k 0) (.v 30) (.v 31)]] [] [(35, .b)] (.bool (.v 35)) .same
(.ret (.bool (.v 35)) []))
(.ret (.bool (.k false)) []))
(.ret (.bool (.k false)) []))
(.ret (.bool (.k false)) [])))
(.ret (.bool (.k false)) [])))))))))))))
theorem x_snapWrites (x0 : Int) (x1 : Int) (x2 : Int) (x3 : Int) (x4 : Int) (x5 : Int) (x6 : Option Loc) (x7 : Nat) (x8 : Nat) (x9 : ByteArray) (M : Nat → Prop) (H0 : Hp) (W0 : World) (R : Ending → World → Prop) (hH : H0.le (hpOf W0)) (h :
 (∀ b0 : Nat,
 (Cl Try.prog W0 M H0 nK 23 #[Value.agg #[vi x0, vi x1, vi x2, vi x3, vi x4, vi x5, vsl x6 x7 x8]] fun z W1 W2 => ∃ x10 : ByteArray, ∃ x11 : Int, z = .returned (Value.tuple #[Value.string x10, vi x11]) ∧ Ext W1 W2 ∧
 (Cl Try.prog W0 M H0 nK 12 #[Value.agg #[vi x0, vi x1, vi x2, vi x3, vi x4, vi x5, vsl x6 x7 x8]] fun z W3 W4 => ∃ x12 : Int, z = .returned (vi x12) ∧ Ext W3 W4 ∧
 ((x12 = 0 →
  (Cl Try.prog W0 M H0 nK 24 #[Value.agg #[vi x0, vi x1, vi x2, vi x3, vi x4, vi x5, vsl x6 x7 x8]] fun z W5 W6 => ∃ x13 : ByteArray, z = .returned (Value.string x13) ∧ Ext W5 W6 ∧
  (Cl Try.prog W0 M H0 nK 25 #[Value.string x9] fun z W7 W8 => ∃ x14 : Int, ∃ x15 : Int, ∃ x16 : Int, ∃ x17 : Int, ∃ x18 : Int, ∃ x19 : Int, ∃ x20 : Option Loc, ∃ x21 : Nat, ∃ x22 : Nat, ∃ x23 : Int, z = .returned (Value.tuple #[Value.agg #[vi x14, vi x15, vi x16, vi x17, vi x18, vi x19, vsl x20 x21 x22], vi x23]) ∧ Fr W7 W8 H0 fun H1 =>
  (∀ b1 : Nat,
  ((4096 < (x9.size : Int) →
   (Cl Try.prog W0 M H1 nK 26 #[] fun z W9 W10 => ∃ x24 : Bool, z = .returned (vb (x24)) ∧ Ext W9 W10 ∧
   ((x24 = true →
    (Es W0 M H1 nK fun W11 => ∃ x25 : Bool, Eo Try.prog (.bop .eql 9 (.tmp 35) (.tmp 36)) [Value.string x10, Value.string x13] W11 (.value (vb (x25))) fun W12 => Ext W11 W12 ∧
    ((x25 = true →
     ((x11 = x12 →
      ((x23 = 2 →
       (Cl Try.prog W0 M H1 nK 14 #[Value.agg #[vi x14, vi x15, vi x16, vi x17, vi x18, vi x19, vsl x20 x21 x22], Value.agg #[vi 0, vi 0, vi 0, vi 0, vi 0, vi 0, Value.slice none 0 0]] fun z W13 W14 => ∃ x26 : Bool, z = .returned (vb (x26)) ∧ Ext W13 W14 ∧
       Rt R W0 M H1 nK (vb (x26)))) ∧
      (¬ (x23 = 2) →
       Rt R W0 M H1 nK (vb (false))))) ∧
     (¬ (x11 = x12) →
      Rt R W0 M H1 nK (vb (false))))) ∧
    (¬ (x25 = true) →
     Rt R W0 M H1 nK (vb (false)))))) ∧
   (¬ (x24 = true) →
    Rt R W0 M H1 nK (vb (false)))))) ∧
  (¬ (4096 < (x9.size : Int)) →
   (Cl Try.prog W0 M H1 nK 27 #[Value.string x9] fun z W9 W10 => ∃ x24 : Int, ∃ x25 : Int, ∃ x26 : Int, ∃ x27 : Int, ∃ x28 : Int, ∃ x29 : Int, ∃ x30 : Option Loc, ∃ x31 : Nat, ∃ x32 : Nat, ∃ x33 : Bool, z = .returned (Value.tuple #[Value.agg #[vi x24, vi x25, vi x26, vi x27, vi x28, vi x29, vsl x30 x31 x32], vb (x33)]) ∧ Fr W9 W10 H1 fun H2 =>
   (∀ b2 : Nat,
   ((x33 = true →
    (Cl Try.prog W0 M H2 nK 26 #[] fun z W11 W12 => ∃ x34 : Bool, z = .returned (vb (x34)) ∧ Ext W11 W12 ∧
    ((x34 = true →
     (Es W0 M H2 nK fun W13 => ∃ x35 : Bool, Eo Try.prog (.bop .eql 9 (.tmp 62) (.tmp 63)) [Value.string x10, Value.string x13] W13 (.value (vb (x35))) fun W14 => Ext W13 W14 ∧
     ((x35 = true →
      ((x11 = x12 →
       ((x23 = 0 →
        (Cl Try.prog W0 M H2 nK 14 #[Value.agg #[vi x14, vi x15, vi x16, vi x17, vi x18, vi x19, vsl x20 x21 x22], Value.agg #[vi x24, vi x25, vi x26, vi x27, vi x28, vi x29, vsl x30 x31 x32]] fun z W15 W16 => ∃ x36 : Bool, z = .returned (vb (x36)) ∧ Ext W15 W16 ∧
        Rt R W0 M H2 nK (vb (x36)))) ∧
       (¬ (x23 = 0) →
        Rt R W0 M H2 nK (vb (false))))) ∧
      (¬ (x11 = x12) →
       Rt R W0 M H2 nK (vb (false))))) ∧
     (¬ (x35 = true) →
      Rt R W0 M H2 nK (vb (false)))))) ∧
    (¬ (x34 = true) →
     Rt R W0 M H2 nK (vb (false)))))) ∧
   (¬ (x33 = true) →
    (Cl Try.prog W0 M H2 nK 26 #[] fun z W11 W12 => ∃ x34 : Bool, z = .returned (vb (x34)) ∧ Ext W11 W12 ∧
    ((x34 = true →
     (Es W0 M H2 nK fun W13 => ∃ x35 : Bool, Eo Try.prog (.bop .eql 9 (.tmp 62) (.tmp 63)) [Value.string x10, Value.string x13] W13 (.value (vb (x35))) fun W14 => Ext W13 W14 ∧
     ((x35 = true →
      ((x11 = x12 →
       ((x23 = 1 →
        (Cl Try.prog W0 M H2 nK 14 #[Value.agg #[vi x14, vi x15, vi x16, vi x17, vi x18, vi x19, vsl x20 x21 x22], Value.agg #[vi x24, vi x25, vi x26, vi x27, vi x28, vi x29, vsl x30 x31 x32]] fun z W15 W16 => ∃ x36 : Bool, z = .returned (vb (x36)) ∧ Ext W15 W16 ∧
        Rt R W0 M H2 nK (vb (x36)))) ∧
       (¬ (x23 = 1) →
        Rt R W0 M H2 nK (vb (false))))) ∧
      (¬ (x11 = x12) →
       Rt R W0 M H2 nK (vb (false))))) ∧
     (¬ (x35 = true) →
      Rt R W0 M H2 nK (vb (false)))))) ∧
    (¬ (x34 = true) →
     Rt R W0 M H2 nK (vb (false))))))))))))))) ∧
 (¬ (x12 = 0) →
  (Cl Try.prog W0 M H0 nK 25 #[Value.string x9] fun z W5 W6 => ∃ x13 : Int, ∃ x14 : Int, ∃ x15 : Int, ∃ x16 : Int, ∃ x17 : Int, ∃ x18 : Int, ∃ x19 : Option Loc, ∃ x20 : Nat, ∃ x21 : Nat, ∃ x22 : Int, z = .returned (Value.tuple #[Value.agg #[vi x13, vi x14, vi x15, vi x16, vi x17, vi x18, vsl x19 x20 x21], vi x22]) ∧ Fr W5 W6 H0 fun H1 =>
  (∀ b1 : Nat,
  ((4096 < (x9.size : Int) →
   (Cl Try.prog W0 M H1 nK 26 #[] fun z W7 W8 => ∃ x23 : Bool, z = .returned (vb (x23)) ∧ Ext W7 W8 ∧
   ((x23 = true →
    (Es W0 M H1 nK fun W9 => ∃ x24 : Bool, Eo Try.prog (.bop .eql 9 (.tmp 35) (.tmp 36)) [Value.string x10, Value.string ⟨#[]⟩] W9 (.value (vb (x24))) fun W10 => Ext W9 W10 ∧
    ((x24 = true →
     ((x11 = x12 →
      ((x22 = 2 →
       (Cl Try.prog W0 M H1 nK 14 #[Value.agg #[vi x13, vi x14, vi x15, vi x16, vi x17, vi x18, vsl x19 x20 x21], Value.agg #[vi 0, vi 0, vi 0, vi 0, vi 0, vi 0, Value.slice none 0 0]] fun z W11 W12 => ∃ x25 : Bool, z = .returned (vb (x25)) ∧ Ext W11 W12 ∧
       Rt R W0 M H1 nK (vb (x25)))) ∧
      (¬ (x22 = 2) →
       Rt R W0 M H1 nK (vb (false))))) ∧
     (¬ (x11 = x12) →
      Rt R W0 M H1 nK (vb (false))))) ∧
    (¬ (x24 = true) →
     Rt R W0 M H1 nK (vb (false)))))) ∧
   (¬ (x23 = true) →
    Rt R W0 M H1 nK (vb (false)))))) ∧
  (¬ (4096 < (x9.size : Int)) →
   (Cl Try.prog W0 M H1 nK 27 #[Value.string x9] fun z W7 W8 => ∃ x23 : Int, ∃ x24 : Int, ∃ x25 : Int, ∃ x26 : Int, ∃ x27 : Int, ∃ x28 : Int, ∃ x29 : Option Loc, ∃ x30 : Nat, ∃ x31 : Nat, ∃ x32 : Bool, z = .returned (Value.tuple #[Value.agg #[vi x23, vi x24, vi x25, vi x26, vi x27, vi x28, vsl x29 x30 x31], vb (x32)]) ∧ Fr W7 W8 H1 fun H2 =>
   (∀ b2 : Nat,
   ((x32 = true →
    (Cl Try.prog W0 M H2 nK 26 #[] fun z W9 W10 => ∃ x33 : Bool, z = .returned (vb (x33)) ∧ Ext W9 W10 ∧
    ((x33 = true →
     (Es W0 M H2 nK fun W11 => ∃ x34 : Bool, Eo Try.prog (.bop .eql 9 (.tmp 62) (.tmp 63)) [Value.string x10, Value.string ⟨#[]⟩] W11 (.value (vb (x34))) fun W12 => Ext W11 W12 ∧
     ((x34 = true →
      ((x11 = x12 →
       ((x22 = 0 →
        (Cl Try.prog W0 M H2 nK 14 #[Value.agg #[vi x13, vi x14, vi x15, vi x16, vi x17, vi x18, vsl x19 x20 x21], Value.agg #[vi x23, vi x24, vi x25, vi x26, vi x27, vi x28, vsl x29 x30 x31]] fun z W13 W14 => ∃ x35 : Bool, z = .returned (vb (x35)) ∧ Ext W13 W14 ∧
        Rt R W0 M H2 nK (vb (x35)))) ∧
       (¬ (x22 = 0) →
        Rt R W0 M H2 nK (vb (false))))) ∧
      (¬ (x11 = x12) →
       Rt R W0 M H2 nK (vb (false))))) ∧
     (¬ (x34 = true) →
      Rt R W0 M H2 nK (vb (false)))))) ∧
    (¬ (x33 = true) →
     Rt R W0 M H2 nK (vb (false)))))) ∧
   (¬ (x32 = true) →
    (Cl Try.prog W0 M H2 nK 26 #[] fun z W9 W10 => ∃ x33 : Bool, z = .returned (vb (x33)) ∧ Ext W9 W10 ∧
    ((x33 = true →
     (Es W0 M H2 nK fun W11 => ∃ x34 : Bool, Eo Try.prog (.bop .eql 9 (.tmp 62) (.tmp 63)) [Value.string x10, Value.string ⟨#[]⟩] W11 (.value (vb (x34))) fun W12 => Ext W11 W12 ∧
     ((x34 = true →
      ((x11 = x12 →
       ((x22 = 1 →
        (Cl Try.prog W0 M H2 nK 14 #[Value.agg #[vi x13, vi x14, vi x15, vi x16, vi x17, vi x18, vsl x19 x20 x21], Value.agg #[vi x23, vi x24, vi x25, vi x26, vi x27, vi x28, vsl x29 x30 x31]] fun z W13 W14 => ∃ x35 : Bool, z = .returned (vb (x35)) ∧ Ext W13 W14 ∧
        Rt R W0 M H2 nK (vb (x35)))) ∧
       (¬ (x22 = 1) →
        Rt R W0 M H2 nK (vb (false))))) ∧
      (¬ (x11 = x12) →
       Rt R W0 M H2 nK (vb (false))))) ∧
     (¬ (x34 = true) →
      Rt R W0 M H2 nK (vb (false)))))) ∧
    (¬ (x33 = true) →
     Rt R W0 M H2 nK (vb (false))))))))))))))))))) :
  Calls Try.prog 6 #[Value.agg #[vi x0, vi x1, vi x2, vi x3, vi x4, vi x5, vsl x6 x7 x8], Value.string x9] W0 R :=
  calls_sxA (M := M) (V := v_snapWrites) (hi := {}) (args := [.agg [.int .i64 (.v 0), .int .i64 (.v 1), .int .i64 (.v 2), .int .i64 (.v 3), .int .i64 (.v 4), .int .i64 (.v 5), .slO 6 (.k 0) (.v 7) (.v 8)], .str 9]) (nv := 10) (e := (upd (upd (upd (upd (upd (upd (upd (upd (upd (upd (fun _ => .i 0) 0 (.i x0)) 1 (.i x1)) 2 (.i x2)) 3 (.i x3)) 4 (.i x4)) 5 (.i x5)) 6 (.p x6)) 7 (.n x7)) 8 (.n x8)) 9 (.s x9))) Try.func6 hH h (by kernel_rfl) (by kernel_rfl) (by kernel_rfl)
end Go.Proofs.Ytoilhpkclabhoaa
namespace Go.Proofs.Ytoilhpkclabhoaa
open Go.RowKit

theorem ek_str_add {W : World} (x y : Operand) (a b : List UInt8) (ha : a.length ≤ 1000000) (hb : b.length ≤ 1000000) : (EK.sem (.bop .add 9 x y) [.string (bs a), .string (bs b)]).run Try.prog W = .ok (.value (.string (bs (a ++ b)))) W := by
  have h := run_string_add_lists (P := Try.prog) W a b (by omega) (by omega)
  simp only [EK.sem, eqGuard, List.getD_cons_zero, List.getD_cons_succ, binOp_string_add, Sem.run_bind, Sem.run_pure]
  have h' : (Op.stringOp .add (bs a) (bs b)).run Try.prog W = .ok (.string (bs (a ++ b))) W := h
  simp [h', Result.andThen_ok, Sem.run_pure]
theorem tab0 (D : Hp) (p : Option Loc) : Tab D p 0 0 [] := ⟨Nat.le_refl _, by simp [maxLen], [], Rows.nil _ _ _, .nil⟩
theorem sRead_enc {s : Sta} (h : StOk s) : sRead (encT s) = (s, 0) := by
  unfold sRead
  have := encT_len h
  rw [if_neg (by omega), unT_iff.2 ⟨Sta.err_ok.2 h, rfl⟩]
theorem sRead_from {l : List UInt8} (h : ¬ 4096 < l.length) : (sRead l).1 = (sFrom l).1 ∧ (sRead l).2 = if (sFrom l).2 = true then 0 else 1 := by
  unfold sRead sFrom
  rw [if_neg h]
  cases unT l <;> exact ⟨rfl, rfl⟩
theorem sRead_long {l : List UInt8} (h : 4096 < l.length) : sRead l = (Sta.zero, 2) := if_pos h
theorem shop_len : (encT shopS).length = 34 := by decide +kernel
theorem shop_write : sWrite shopS = (encT shopS, 0) := by decide +kernel
theorem shop_read : sRead (encT shopS) = (shopS, 0) := sRead_enc (Sta.err_ok.1 (by decide +kernel))
theorem shop_more : (sRead (encT shopS ++ [120])).2 = 1 := by decide +kernel
theorem bad_write : (sWrite ⟨-1, 0, ⟨0, 0, 0, 0⟩, []⟩).2 = 3 := by decide +kernel
theorem c_snapBegun (H : Hp) : Gv Try.prog 26 #[] H (vb true) := fun W hH => by
  refine x_snapBegun noM H W _ hH ?_
  refine Cl.fresh (c_shop H) ?_
  rintro v W1 W2 D ⟨p, n, c, rfl, hT⟩ hx hD hf nn
  refine ⟨_, _, _, _, _, _, p, n, c, rfl, hx, D, hD, hf, fun H1 h1 hd1 => ?_⟩
  refine Cl.same (c_snapWrite (s := shopS) (hT.mono hd1)) fun _ _ hx => ⟨_, _, rfl, hx, ?_⟩
  rw [shop_write]
  refine Cl.fresh (c_snapRead (l := encT shopS)) ?_
  rw [shop_read]
  rintro v W1 W2 D ⟨p1, n1, c1, rfl, hT1⟩ hx hD hf nn
  refine ⟨_, _, _, _, _, _, p1, n1, c1, _, rfl, hx, D, hD, hf, fun H2 h2 hd2 b0 W3 n3 _ => ?_⟩
  refine ⟨_, _, ek_str_add _ _ (encT shopS) [120] (by rw [shop_len]; omega) (by simp), Ext.refl _, ?_⟩
  refine Cl.fresh (c_snapRead (l := encT shopS ++ [120])) ?_
  rintro v W1 W2 D ⟨p2, n2, c2, rfl, _⟩ hx hD hf nn
  refine ⟨_, _, _, _, _, _, p2, n2, c2, _, rfl, hx, D, hD, hf, fun H3 h3 hd3 b1 => ?_⟩
  refine Cl.same (c_snapWrite (s := ⟨-1, 0, ⟨0, 0, 0, 0⟩, []⟩) (p := none) (n := 0) (c := 0) (tab0 _ _)) fun _ _ hx => ⟨_, _, rfl, hx, fun _ => ⟨fun _ => ⟨fun _ => ⟨fun _ => ⟨fun _ => ?_, fun h => absurd ?_ h⟩, fun h => absurd bad_write h⟩, fun h => absurd shop_more h⟩, fun h => absurd rfl h⟩, fun h => absurd rfl h⟩
  · refine Cl.fresh (c_shop H3) ?_
    rintro v W1 W2 D ⟨p4, n4, c4, rfl, hT4⟩ hx hD hf nn
    refine ⟨_, _, _, _, _, _, p4, n4, c4, rfl, hx, D, hD, hf, fun H4 h4 hd4 => ?_⟩
    refine Cl.same (c_sameOf (s := shopS) (t := shopS) (((hT1.mono hd2).mono h3).mono h4) (hT4.mono hd4)) fun _ _ hx => ⟨_, rfl, hx, Rt.gv' (by rw [decide_eq_true rfl])⟩
  · rw [bs_size, shop_len]; rfl
theorem c_snapWrites {H : Hp} {p : Option Loc} {n c : Nat} {s : Sta} (hT : Tab H p n c s.table) (l : List UInt8) : Gv Try.prog 6 #[s.val (vsl p n c), .string (bs l)] H (vb true) := fun W hH => by
  refine x_snapWrites _ _ _ _ _ _ p n c (bs l) noM H W _ hH fun b0 => ?_
  refine Cl.same (c_snapWrite hT) fun _ _ hx => ⟨_, _, rfl, hx, ?_⟩
  refine Cl.same (c_stErr hT) fun _ _ hx => ⟨_, rfl, hx, fun h0 => ?_, fun h0 => ?_⟩
  · have hw : sWrite s = (encT s, 0) := if_pos h0
    refine Cl.same (c_stateBytes hT (Sta.err_ok.1 h0)) fun _ _ hx => ⟨_, rfl, hx, ?_⟩
    rw [hw]
    refine Cl.fresh (c_snapRead (l := l)) ?_
    rintro v W1 W2 D ⟨p1, n1, c1, rfl, hT1⟩ hx hD hf nn
    refine ⟨_, _, _, _, _, _, p1, n1, c1, _, rfl, hx, D, hD, hf, fun H1 h1 hd1 b1 => ⟨fun hl => ?_, fun hl => ?_⟩⟩
    · rw [bs_size] at hl
      have hr := sRead_long (l := l) (by omega)
      refine Cl.same (c_snapBegun H1) fun _ _ hx => ⟨_, rfl, hx, fun _ W3 n3 _ => ⟨_, _, ek_str_eq _ _ _ _, Ext.refl _, fun _ => ⟨fun _ => ⟨fun _ => ?_, fun h => absurd (by rw [hr]) h⟩, fun h => absurd h0.symm h⟩, fun h => absurd (by simp) h⟩, fun h => absurd rfl h⟩
      refine Cl.same (c_sameOf (s := (sRead l).1) (t := Sta.zero) (p' := none) (n' := 0) (c' := 0) (hT1.mono hd1) (tab0 _ _)) fun _ _ hx => ⟨_, rfl, hx, Rt.gv' (by rw [hr, decide_eq_true rfl])⟩
    · rw [bs_size] at hl
      obtain ⟨r1, r2⟩ := sRead_from (l := l) (by omega)
      refine Cl.fresh (c_stateFrom (l := l)) ?_
      rintro v W1 W2 D ⟨p2, n2, c2, rfl, hT2⟩ hx hD hf nn
      refine ⟨_, _, _, _, _, _, p2, n2, c2, _, rfl, hx, D, hD, hf, fun H2 h2 hd2 b2 => ⟨fun hb => ?_, fun hb => ?_⟩⟩
      · rw [if_pos hb] at r2
        refine Cl.same (c_snapBegun H2) fun _ _ hx => ⟨_, rfl, hx, fun _ W3 n3 _ => ⟨_, _, ek_str_eq _ _ _ _, Ext.refl _, fun _ => ⟨fun _ => ⟨fun _ => ?_, fun h => absurd r2 h⟩, fun h => absurd h0.symm h⟩, fun h => absurd (by simp) h⟩, fun h => absurd rfl h⟩
        refine Cl.same (c_sameOf (s := (sRead l).1) (t := (sFrom l).1) ((hT1.mono hd1).mono h2) (hT2.mono hd2)) fun _ _ hx => ⟨_, rfl, hx, Rt.gv' (by rw [r1, decide_eq_true rfl])⟩
      · rw [if_neg hb] at r2
        refine Cl.same (c_snapBegun H2) fun _ _ hx => ⟨_, rfl, hx, fun _ W3 n3 _ => ⟨_, _, ek_str_eq _ _ _ _, Ext.refl _, fun _ => ⟨fun _ => ⟨fun _ => ?_, fun h => absurd r2 h⟩, fun h => absurd h0.symm h⟩, fun h => absurd (by simp) h⟩, fun h => absurd rfl h⟩
        refine Cl.same (c_sameOf (s := (sRead l).1) (t := (sFrom l).1) ((hT1.mono hd1).mono h2) (hT2.mono hd2)) fun _ _ hx => ⟨_, rfl, hx, Rt.gv' (by rw [r1, decide_eq_true rfl])⟩
  · have hw : sWrite s = ([], s.err) := if_neg h0
    rw [hw]
    refine Cl.fresh (c_snapRead (l := l)) ?_
    rintro v W1 W2 D ⟨p1, n1, c1, rfl, hT1⟩ hx hD hf nn
    refine ⟨_, _, _, _, _, _, p1, n1, c1, _, rfl, hx, D, hD, hf, fun H1 h1 hd1 b1 => ⟨fun hl => ?_, fun hl => ?_⟩⟩
    · rw [bs_size] at hl
      have hr := sRead_long (l := l) (by omega)
      refine Cl.same (c_snapBegun H1) fun _ _ hx => ⟨_, rfl, hx, fun _ W3 n3 _ => ⟨_, _, ek_str_eq _ _ [] [], Ext.refl _, fun _ => ⟨fun _ => ⟨fun _ => ?_, fun h => absurd (by rw [hr]) h⟩, fun h => absurd rfl h⟩, fun h => absurd (by simp) h⟩, fun h => absurd rfl h⟩
      refine Cl.same (c_sameOf (s := (sRead l).1) (t := Sta.zero) (p' := none) (n' := 0) (c' := 0) (hT1.mono hd1) (tab0 _ _)) fun _ _ hx => ⟨_, rfl, hx, Rt.gv' (by rw [hr, decide_eq_true rfl])⟩
    · rw [bs_size] at hl
      obtain ⟨r1, r2⟩ := sRead_from (l := l) (by omega)
      refine Cl.fresh (c_stateFrom (l := l)) ?_
      rintro v W1 W2 D ⟨p2, n2, c2, rfl, hT2⟩ hx hD hf nn
      refine ⟨_, _, _, _, _, _, p2, n2, c2, _, rfl, hx, D, hD, hf, fun H2 h2 hd2 b2 => ⟨fun hb => ?_, fun hb => ?_⟩⟩
      · rw [if_pos hb] at r2
        refine Cl.same (c_snapBegun H2) fun _ _ hx => ⟨_, rfl, hx, fun _ W3 n3 _ => ⟨_, _, ek_str_eq _ _ [] [], Ext.refl _, fun _ => ⟨fun _ => ⟨fun _ => ?_, fun h => absurd r2 h⟩, fun h => absurd rfl h⟩, fun h => absurd (by simp) h⟩, fun h => absurd rfl h⟩
        refine Cl.same (c_sameOf (s := (sRead l).1) (t := (sFrom l).1) ((hT1.mono hd1).mono h2) (hT2.mono hd2)) fun _ _ hx => ⟨_, rfl, hx, Rt.gv' (by rw [r1, decide_eq_true rfl])⟩
      · rw [if_neg hb] at r2
        refine Cl.same (c_snapBegun H2) fun _ _ hx => ⟨_, rfl, hx, fun _ W3 n3 _ => ⟨_, _, ek_str_eq _ _ [] [], Ext.refl _, fun _ => ⟨fun _ => ⟨fun _ => ?_, fun h => absurd r2 h⟩, fun h => absurd rfl h⟩, fun h => absurd (by simp) h⟩, fun h => absurd rfl h⟩
        refine Cl.same (c_sameOf (s := (sRead l).1) (t := (sFrom l).1) ((hT1.mono hd1).mono h2) (hT2.mono hd2)) fun _ _ hx => ⟨_, rfl, hx, Rt.gv' (by rw [r1, decide_eq_true rfl])⟩
end Go.Proofs.Ytoilhpkclabhoaa
