/- Symbolic runs of functions: what each leaves to prove is enough for its call. Printed by a program of ours. No conditions. The laws of package trace: what each answers. No conditions. -/
import Derived.Test.YtdihdcielchodaaKE3
import Derived.Test.YtdihdcielchodaaProg
import Derived.Test.YtdihdcielchodaaKX1
import Derived.Test.YtdihdcielchodaaKF3
import Derived.Test.YtdihdcielchodaaKO2
set_option linter.unusedVariables false
set_option linter.unusedSimpArgs false
namespace Go.Proofs.Ytdihdcielchodaa
open Go.RowKit
set_option maxRecDepth 100000
set_option maxHeartbeats 4000000
def v_traceBegun : VC :=
(.call 48 [] [] [(0, .p), (1, .n), (2, .n)] (.slO 0 (.k 0) (.v 1) (.v 2)) .fresh
(.call 23 [.slO 0 (.k 0) (.v 1) (.v 2)] [] [(3, .p), (4, .n), (5, .n), (6, .i)] (.tup [.slO 3 (.k 0) (.v 4) (.v 5), .int .i64 (.v 6)]) .fresh
(.call 48 [] [] [(7, .p), (8, .n), (9, .n)] (.slO 7 (.k 0) (.v 8) (.v 9)) .fresh
(.call 24 [.slO 7 (.k 0) (.v 8) (.v 9)] [] [(10, .p), (11, .n), (12, .n), (13, .i)] (.tup [.slO 10 (.k 0) (.v 11) (.v 12), .int .i64 (.v 13)]) .fresh
(.call 48 [] [] [(14, .p), (15, .n), (16, .n)] (.slO 14 (.k 0) (.v 15) (.v 16)) .fresh
(.call 30 [.slO 14 (.k 0) (.v 15) (.v 16), .int .i64 (.k 1), .int .i64 (.k 1)] [] [(17, .i), (18, .i)] (.tup [.int .i64 (.v 17), .int .i64 (.v 18)]) .same
(.call 48 [] [] [(19, .p), (20, .n), (21, .n)] (.slO 19 (.k 0) (.v 20) (.v 21)) .fresh
(.call 30 [.slO 19 (.k 0) (.v 20) (.v 21), .int .i64 (.k 2), .int .i64 (.k 1)] [] [(22, .i), (23, .i)] (.tup [.int .i64 (.v 22), .int .i64 (.v 23)]) .same
(.call 48 [] [] [(24, .p), (25, .n), (26, .n)] (.slO 24 (.k 0) (.v 25) (.v 26)) .fresh
(.call 30 [.slO 24 (.k 0) (.v 25) (.v 26), .int .i64 (.k 6), .int .i64 (.k 1)] [] [(27, .i), (28, .i)] (.tup [.int .i64 (.v 27), .int .i64 (.v 28)]) .same
(.ite (.eq (.v 6) (.k 0))
(.ite (.eq (.v 13) (.k 0))
(.ite (.eq (.v 18) (.k 0))
(.ite (.eq (.v 23) (.k 0))
(.ite (.eq (.v 28) (.k 3))
(.all 0
(.call 28 [.slO 3 (.k 0) (.v 4) (.v 5), .slK 0 0 10 10] [(0, ⟨[.bool (.k false), .bool (.k true), .bool (.k false), .bool (.k false), .bool (.k false), .bool (.k true), .bool (.k false), .bool (.k false), .bool (.k false), .bool (.k true)], 4⟩)] [(29, .b)] (.bool (.v 29)) .same
(.ite (.v 29)
(.call 58 [.int .i64 (.k 5)] [] [(30, .i), (31, .i), (32, .i), (33, .i)] (.agg [.int .i64 (.v 30), .int .i64 (.v 31), .int .i64 (.v 32), .int .i64 (.v 33)]) .same
(.call 58 [.int .i64 (.k 9)] [] [(34, .i), (35, .i), (36, .i), (37, .i)] (.agg [.int .i64 (.v 34), .int .i64 (.v 35), .int .i64 (.v 36), .int .i64 (.v 37)]) .same
(.all 1
(.call 29 [.slO 10 (.k 0) (.v 11) (.v 12), .slK 1 0 3 3] [(1, ⟨[.int .i64 (.v 30), .int .i64 (.v 31), .int .i64 (.v 32), .int .i64 (.v 33), .int .i64 (.k 3), .int .i64 (.k 0), .int .i64 (.k 1), .int .i64 (.k 2), .int .i64 (.v 34), .int .i64 (.v 35), .int .i64 (.v 36), .int .i64 (.v 37)], 52⟩)] [(38, .b)] (.bool (.v 38)) .same
(.ite (.v 38)
(.ite (.eq (.v 17) (.k 2))
(.ret (.bool (.eq (.v 22) (.k 0))) [])
(.ret (.bool (.k false)) []))
(.ret (.bool (.k false)) []))))))
(.ret (.bool (.k false)) []))))
(.ret (.bool (.k false)) []))
(.ret (.bool (.k false)) []))
(.ret (.bool (.k false)) []))
(.ret (.bool (.k false)) []))
(.ret (.bool (.k false)) []))))))))))))
theorem x_traceBegun (M : Nat → Prop) (H0 : Hp) (W0 : World) (R : Ending → World → Prop) (hH : H0.le (hpOf W0)) (h :
 (Cl Try.prog W0 M H0 nK 48 #[] fun z W1 W2 => ∃ x0 : Option Loc, ∃ x1 : Nat, ∃ x2 : Nat, z = .returned (vsl x0 x1 x2) ∧ Fr W1 W2 H0 fun H1 =>
 (Cl Try.prog W0 M H1 nK 23 #[vsl x0 x1 x2] fun z W3 W4 => ∃ x3 : Option Loc, ∃ x4 : Nat, ∃ x5 : Nat, ∃ x6 : Int, z = .returned (Value.tuple #[vsl x3 x4 x5, vi x6]) ∧ Fr W3 W4 H1 fun H2 =>
 (Cl Try.prog W0 M H2 nK 48 #[] fun z W5 W6 => ∃ x7 : Option Loc, ∃ x8 : Nat, ∃ x9 : Nat, z = .returned (vsl x7 x8 x9) ∧ Fr W5 W6 H2 fun H3 =>
 (Cl Try.prog W0 M H3 nK 24 #[vsl x7 x8 x9] fun z W7 W8 => ∃ x10 : Option Loc, ∃ x11 : Nat, ∃ x12 : Nat, ∃ x13 : Int, z = .returned (Value.tuple #[vsl x10 x11 x12, vi x13]) ∧ Fr W7 W8 H3 fun H4 =>
 (Cl Try.prog W0 M H4 nK 48 #[] fun z W9 W10 => ∃ x14 : Option Loc, ∃ x15 : Nat, ∃ x16 : Nat, z = .returned (vsl x14 x15 x16) ∧ Fr W9 W10 H4 fun H5 =>
 (Cl Try.prog W0 M H5 nK 30 #[vsl x14 x15 x16, vi 1, vi 1] fun z W11 W12 => ∃ x17 : Int, ∃ x18 : Int, z = .returned (Value.tuple #[vi x17, vi x18]) ∧ Ext W11 W12 ∧
 (Cl Try.prog W0 M H5 nK 48 #[] fun z W13 W14 => ∃ x19 : Option Loc, ∃ x20 : Nat, ∃ x21 : Nat, z = .returned (vsl x19 x20 x21) ∧ Fr W13 W14 H5 fun H6 =>
 (Cl Try.prog W0 M H6 nK 30 #[vsl x19 x20 x21, vi 2, vi 1] fun z W15 W16 => ∃ x22 : Int, ∃ x23 : Int, z = .returned (Value.tuple #[vi x22, vi x23]) ∧ Ext W15 W16 ∧
 (Cl Try.prog W0 M H6 nK 48 #[] fun z W17 W18 => ∃ x24 : Option Loc, ∃ x25 : Nat, ∃ x26 : Nat, z = .returned (vsl x24 x25 x26) ∧ Fr W17 W18 H6 fun H7 =>
 (Cl Try.prog W0 M H7 nK 30 #[vsl x24 x25 x26, vi 6, vi 1] fun z W19 W20 => ∃ x27 : Int, ∃ x28 : Int, z = .returned (Value.tuple #[vi x27, vi x28]) ∧ Ext W19 W20 ∧
 ((x6 = 0 →
  ((x13 = 0 →
   ((x18 = 0 →
    ((x23 = 0 →
     ((x28 = 3 →
      (∀ b0 : Nat,
      (Cl Try.prog W0 M H7 (fun W => Kn W0 M H7 W b0 (Obj.cells #[vb (false), vb (true), vb (false), vb (false), vb (false), vb (true), vb (false), vb (false), vb (false), vb (true)] 4 (0, 0)) ∧ True) 28 #[vsl x3 x4 x5, Value.slice (some ⟨b0, 0, none⟩) 10 10] fun z W21 W22 => ∃ x29 : Bool, z = .returned (vb (x29)) ∧ Ext W21 W22 ∧
      ((x29 = true →
       (Cl Try.prog W0 M H7 nK 58 #[vi 5] fun z W23 W24 => ∃ x30 : Int, ∃ x31 : Int, ∃ x32 : Int, ∃ x33 : Int, z = .returned (Value.agg #[vi x30, vi x31, vi x32, vi x33]) ∧ Ext W23 W24 ∧
       (Cl Try.prog W0 M H7 nK 58 #[vi 9] fun z W25 W26 => ∃ x34 : Int, ∃ x35 : Int, ∃ x36 : Int, ∃ x37 : Int, z = .returned (Value.agg #[vi x34, vi x35, vi x36, vi x37]) ∧ Ext W25 W26 ∧
       (∀ b1 : Nat,
       (Cl Try.prog W0 M H7 (fun W => Kn W0 M H7 W b1 (Obj.cells #[vi x30, vi x31, vi x32, vi x33, vi 3, vi 0, vi 1, vi 2, vi x34, vi x35, vi x36, vi x37] 52 (0, 0)) ∧ True) 29 #[vsl x10 x11 x12, Value.slice (some ⟨b1, 0, none⟩) 3 3] fun z W27 W28 => ∃ x38 : Bool, z = .returned (vb (x38)) ∧ Ext W27 W28 ∧
       ((x38 = true →
        ((x17 = 2 →
         Rt R W0 M H7 nK (vb (decide (x22 = 0)))) ∧
        (¬ (x17 = 2) →
         Rt R W0 M H7 nK (vb (false))))) ∧
       (¬ (x38 = true) →
        Rt R W0 M H7 nK (vb (false))))))))) ∧
      (¬ (x29 = true) →
       Rt R W0 M H7 nK (vb (false))))))) ∧
     (¬ (x28 = 3) →
      Rt R W0 M H7 nK (vb (false))))) ∧
    (¬ (x23 = 0) →
     Rt R W0 M H7 nK (vb (false))))) ∧
   (¬ (x18 = 0) →
    Rt R W0 M H7 nK (vb (false))))) ∧
  (¬ (x13 = 0) →
   Rt R W0 M H7 nK (vb (false))))) ∧
 (¬ (x6 = 0) →
  Rt R W0 M H7 nK (vb (false))))))))))))))) :
  Calls Try.prog 27 #[] W0 R :=
  calls_sxA (M := M) (V := v_traceBegun) (hi := {}) (args := []) (nv := 0) (e := (fun _ => .i 0)) Try.func27 hH h (by kernel_rfl) (by kernel_rfl) (by kernel_rfl)
def v_traceTells : VC :=
(.call 23 [.slO 0 (.k 0) (.v 1) (.v 2)] [] [(3, .p), (4, .n), (5, .n), (6, .i)] (.tup [.slO 3 (.k 0) (.v 4) (.v 5), .int .i64 (.v 6)]) .fresh
(.call 24 [.slO 0 (.k 0) (.v 1) (.v 2)] [] [(7, .p), (8, .n), (9, .n), (10, .i)] (.tup [.slO 7 (.k 0) (.v 8) (.v 9), .int .i64 (.v 10)]) .fresh
(.call 25 [.slO 0 (.k 0) (.v 1) (.v 2)] [] [(11, .p), (12, .n), (13, .n), (14, .i)] (.tup [.slO 11 (.k 0) (.v 12) (.v 13), .int .i64 (.v 14)]) .fresh
(.call 26 [.slO 0 (.k 0) (.v 1) (.v 2)] [] [(15, .p), (16, .n), (17, .n), (18, .i)] (.tup [.slO 15 (.k 0) (.v 16) (.v 17), .int .i64 (.v 18)]) .fresh
(.call 27 [] [] [(19, .b)] (.bool (.v 19)) .same
(.ite (.v 19)
(.call 28 [.slO 3 (.k 0) (.v 4) (.v 5), .slO 11 (.k 0) (.v 12) (.v 13)] [] [(20, .b)] (.bool (.v 20)) .same
(.ite (.v 20)
(.ite (.eq (.v 6) (.v 14))
(.call 29 [.slO 7 (.k 0) (.v 8) (.v 9), .slO 15 (.k 0) (.v 16) (.v 17)] [] [(21, .b)] (.bool (.v 21)) .same
(.ite (.v 21)
(.ret (.bool (.eq (.v 10) (.v 18))) [])
(.ret (.bool (.k false)) [])))
(.ret (.bool (.k false)) []))
(.ret (.bool (.k false)) [])))
(.ret (.bool (.k false)) [])))))))
theorem x_traceTells (x0 : Option Loc) (x1 : Nat) (x2 : Nat) (M : Nat → Prop) (H0 : Hp) (W0 : World) (R : Ending → World → Prop) (hH : H0.le (hpOf W0)) (h :
 (Cl Try.prog W0 M H0 nK 23 #[vsl x0 x1 x2] fun z W1 W2 => ∃ x3 : Option Loc, ∃ x4 : Nat, ∃ x5 : Nat, ∃ x6 : Int, z = .returned (Value.tuple #[vsl x3 x4 x5, vi x6]) ∧ Fr W1 W2 H0 fun H1 =>
 (Cl Try.prog W0 M H1 nK 24 #[vsl x0 x1 x2] fun z W3 W4 => ∃ x7 : Option Loc, ∃ x8 : Nat, ∃ x9 : Nat, ∃ x10 : Int, z = .returned (Value.tuple #[vsl x7 x8 x9, vi x10]) ∧ Fr W3 W4 H1 fun H2 =>
 (Cl Try.prog W0 M H2 nK 25 #[vsl x0 x1 x2] fun z W5 W6 => ∃ x11 : Option Loc, ∃ x12 : Nat, ∃ x13 : Nat, ∃ x14 : Int, z = .returned (Value.tuple #[vsl x11 x12 x13, vi x14]) ∧ Fr W5 W6 H2 fun H3 =>
 (Cl Try.prog W0 M H3 nK 26 #[vsl x0 x1 x2] fun z W7 W8 => ∃ x15 : Option Loc, ∃ x16 : Nat, ∃ x17 : Nat, ∃ x18 : Int, z = .returned (Value.tuple #[vsl x15 x16 x17, vi x18]) ∧ Fr W7 W8 H3 fun H4 =>
 (Cl Try.prog W0 M H4 nK 27 #[] fun z W9 W10 => ∃ x19 : Bool, z = .returned (vb (x19)) ∧ Ext W9 W10 ∧
 ((x19 = true →
  (Cl Try.prog W0 M H4 nK 28 #[vsl x3 x4 x5, vsl x11 x12 x13] fun z W11 W12 => ∃ x20 : Bool, z = .returned (vb (x20)) ∧ Ext W11 W12 ∧
  ((x20 = true →
   ((x6 = x14 →
    (Cl Try.prog W0 M H4 nK 29 #[vsl x7 x8 x9, vsl x15 x16 x17] fun z W13 W14 => ∃ x21 : Bool, z = .returned (vb (x21)) ∧ Ext W13 W14 ∧
    ((x21 = true →
     Rt R W0 M H4 nK (vb (decide (x10 = x18)))) ∧
    (¬ (x21 = true) →
     Rt R W0 M H4 nK (vb (false)))))) ∧
   (¬ (x6 = x14) →
    Rt R W0 M H4 nK (vb (false))))) ∧
  (¬ (x20 = true) →
   Rt R W0 M H4 nK (vb (false)))))) ∧
 (¬ (x19 = true) →
  Rt R W0 M H4 nK (vb (false)))))))))) :
  Calls Try.prog 5 #[vsl x0 x1 x2] W0 R :=
  calls_sxA (M := M) (V := v_traceTells) (hi := {}) (args := [.slO 0 (.k 0) (.v 1) (.v 2)]) (nv := 3) (e := (upd (upd (upd (fun _ => .i 0) 0 (.p x0)) 1 (.n x1)) 2 (.n x2))) Try.func5 hH h (by kernel_rfl) (by kernel_rfl) (by kernel_rfl)
def v_traceOnceL : VC :=
(.call 30 [.slO 0 (.k 0) (.v 1) (.v 2), .int .i64 (.v 3), .int .i64 (.v 4)] [] [(5, .i), (6, .i)] (.tup [.int .i64 (.v 5), .int .i64 (.v 6)]) .same
(.call 31 [.slO 0 (.k 0) (.v 1) (.v 2), .int .i64 (.v 3), .int .i64 (.v 4)] [] [(7, .i), (8, .i)] (.tup [.int .i64 (.v 7), .int .i64 (.v 8)]) .same
(.call 27 [] [] [(9, .b)] (.bool (.v 9)) .same
(.ite (.v 9)
(.ite (.eq (.v 5) (.v 7))
(.ret (.bool (.eq (.v 6) (.v 8))) [])
(.ret (.bool (.k false)) []))
(.ret (.bool (.k false)) [])))))
theorem x_traceOnceL (x0 : Option Loc) (x1 : Nat) (x2 : Nat) (x3 : Int) (x4 : Int) (M : Nat → Prop) (H0 : Hp) (W0 : World) (R : Ending → World → Prop) (hH : H0.le (hpOf W0)) (h :
 (Cl Try.prog W0 M H0 nK 30 #[vsl x0 x1 x2, vi x3, vi x4] fun z W1 W2 => ∃ x5 : Int, ∃ x6 : Int, z = .returned (Value.tuple #[vi x5, vi x6]) ∧ Ext W1 W2 ∧
 (Cl Try.prog W0 M H0 nK 31 #[vsl x0 x1 x2, vi x3, vi x4] fun z W3 W4 => ∃ x7 : Int, ∃ x8 : Int, z = .returned (Value.tuple #[vi x7, vi x8]) ∧ Ext W3 W4 ∧
 (Cl Try.prog W0 M H0 nK 27 #[] fun z W5 W6 => ∃ x9 : Bool, z = .returned (vb (x9)) ∧ Ext W5 W6 ∧
 ((x9 = true →
  ((x5 = x7 →
   Rt R W0 M H0 nK (vb (decide (x6 = x8)))) ∧
  (¬ (x5 = x7) →
   Rt R W0 M H0 nK (vb (false))))) ∧
 (¬ (x9 = true) →
  Rt R W0 M H0 nK (vb (false)))))))) :
  Calls Try.prog 6 #[vsl x0 x1 x2, vi x3, vi x4] W0 R :=
  calls_sxA (M := M) (V := v_traceOnceL) (hi := {}) (args := [.slO 0 (.k 0) (.v 1) (.v 2), .int .i64 (.v 3), .int .i64 (.v 4)]) (nv := 5) (e := (upd (upd (upd (upd (upd (fun _ => .i 0) 0 (.p x0)) 1 (.n x1)) 2 (.n x2)) 3 (.i x3)) 4 (.i x4))) Try.func6 hH h (by kernel_rfl) (by kernel_rfl) (by kernel_rfl)
def v_traceVals : VC :=
(.call 32 [] [] [(3, .i), (4, .i), (5, .i), (6, .i), (7, .i), (8, .i), (9, .p), (10, .n), (11, .n)] (.agg [.int .i64 (.v 3), .int .i64 (.v 4), .int .i64 (.v 5), .int .i64 (.v 6), .int .i64 (.v 7), .int .i64 (.v 8), .slO 9 (.k 0) (.v 10) (.v 11)]) .fresh
(.call 14 [.agg [.int .i64 (.v 3), .int .i64 (.v 4), .int .i64 (.v 5), .int .i64 (.v 6), .int .i64 (.v 7), .int .i64 (.v 8), .slO 9 (.k 0) (.v 10) (.v 11)], .slO 0 (.k 0) (.v 1) (.v 2)] [] [(12, .i), (13, .i), (14, .i), (15, .i), (16, .i), (17, .i), (18, .p), (19, .n), (20, .n), (21, .p), (22, .n), (23, .n), (24, .i)] (.tup [.agg [.int .i64 (.v 12), .int .i64 (.v 13), .int .i64 (.v 14), .int .i64 (.v 15), .int .i64 (.v 16), .int .i64 (.v 17), .slO 18 (.k 0) (.v 19) (.v 20)], .slO 21 (.k 0) (.v 22) (.v 23), .int .i64 (.v 24)]) .fresh
(.all 0
(.call 24 [.slO 0 (.k 0) (.v 1) (.v 2)] [] [(25, .p), (26, .n), (27, .n), (28, .i)] (.tup [.slO 25 (.k 0) (.v 26) (.v 27), .int .i64 (.v 28)]) .fresh
(.ite (.eq (.v 24) (.k 0))
(.ite (.eq (.v 28) (.k 0))
(.all 1
(.loop [(29, .n), (30, .i), (31, .i), (32, .i), (33, .i)] [.n (.k 0), .i (.k 0), .i (.k 0), .i (.k 0), .i (.k 0)] [.n (.v 29), .i (.v 30), .i (.v 31), .i (.v 32), .i (.v 33)]
(.chk (.le (.k 0) (.v 26))
(.ite (.lt (.v 29) (.v 26))
(.chk (.idx (.v 29) (.v 26))
(.chk (.isp 25)
(.ld 25 (.add (.k 0) (.mul (.v 29) (.k 4))) [.int .i64 (.v 34), .int .i64 (.v 35), .int .i64 (.v 36), .int .i64 (.v 37)] [(34, .i), (35, .i), (36, .i), (37, .i)]
(.call 33 [.agg [.int .i64 (.v 30), .int .i64 (.v 31), .int .i64 (.v 32), .int .i64 (.v 33)], .agg [.int .i64 (.v 34), .int .i64 (.v 35), .int .i64 (.v 36), .int .i64 (.v 37)]] [] [(38, .i), (39, .i), (40, .i), (41, .i), (42, .i), (43, .i)] (.tup [.agg [.int .i64 (.v 38), .int .i64 (.v 39), .int .i64 (.v 40), .int .i64 (.v 41)], .int .i64 (.v 42), .int .i64 (.v 43)]) .same
(.all 2
(.ite (.eq (.v 43) (.k 0))
(.chk (.rng .i64 (.add (.v 29) (.k 1)))
(.chk (.le (.k 0) (.add (.v 29) (.k 1)))
(.back 0 [.n (.add (.v 29) (.k 1)), .i (.v 38), .i (.v 39), .i (.v 40), .i (.v 41)])))
(.ret (.bool (.k false)) [])))))))
(.call 27 [] [] [(34, .b)] (.bool (.v 34)) .same
(.ite (.v 34)
(.esc (.bop .eql 22 (.tmp 58) (.tmp 60)) [.agg [.int .i64 (.v 30), .int .i64 (.v 31), .int .i64 (.v 32), .int .i64 (.v 33)], .agg [.int .i64 (.v 14), .int .i64 (.v 15), .int .i64 (.v 16), .int .i64 (.v 17)]] [] [(35, .b)] (some (.bool (.v 35))) .same
(.ret (.bool (.v 35)) []))
(.ret (.bool (.k false)) [])))))))
(.call 27 [] [] [(29, .b)] (.bool (.v 29)) .same
(.ite (.v 29)
(.ret (.bool (.eq (.v 24) (.v 28))) [])
(.ret (.bool (.k false)) []))))
(.call 27 [] [] [(29, .b)] (.bool (.v 29)) .same
(.ite (.v 29)
(.ret (.bool (.eq (.v 24) (.v 28))) [])
(.ret (.bool (.k false)) []))))))))
theorem x_traceVals (x0 : Option Loc) (x1 : Nat) (x2 : Nat) (M : Nat → Prop) (H0 : Hp) (W0 : World) (R : Ending → World → Prop) (hH : H0.le (hpOf W0)) (h :
 (Cl Try.prog W0 M H0 nK 32 #[] fun z W1 W2 => ∃ x3 : Int, ∃ x4 : Int, ∃ x5 : Int, ∃ x6 : Int, ∃ x7 : Int, ∃ x8 : Int, ∃ x9 : Option Loc, ∃ x10 : Nat, ∃ x11 : Nat, z = .returned (Value.agg #[vi x3, vi x4, vi x5, vi x6, vi x7, vi x8, vsl x9 x10 x11]) ∧ Fr W1 W2 H0 fun H1 =>
 (Cl Try.prog W0 M H1 nK 14 #[Value.agg #[vi x3, vi x4, vi x5, vi x6, vi x7, vi x8, vsl x9 x10 x11], vsl x0 x1 x2] fun z W3 W4 => ∃ x12 : Int, ∃ x13 : Int, ∃ x14 : Int, ∃ x15 : Int, ∃ x16 : Int, ∃ x17 : Int, ∃ x18 : Option Loc, ∃ x19 : Nat, ∃ x20 : Nat, ∃ x21 : Option Loc, ∃ x22 : Nat, ∃ x23 : Nat, ∃ x24 : Int, z = .returned (Value.tuple #[Value.agg #[vi x12, vi x13, vi x14, vi x15, vi x16, vi x17, vsl x18 x19 x20], vsl x21 x22 x23, vi x24]) ∧ Fr W3 W4 H1 fun H2 =>
 (∀ b0 : Nat,
 (Cl Try.prog W0 M H2 nK 24 #[vsl x0 x1 x2] fun z W5 W6 => ∃ x25 : Option Loc, ∃ x26 : Nat, ∃ x27 : Nat, ∃ x28 : Int, z = .returned (Value.tuple #[vsl x25 x26 x27, vi x28]) ∧ Fr W5 W6 H2 fun H3 =>
 ((x24 = 0 →
  ((x28 = 0 →
   (∀ b1 : Nat,
   (∃ (I0 : List Dat → Hp → Prop) (μ0 : List Dat → Nat), I0 [.n 0, .i 0, .i 0, .i 0, .i 0] H3 ∧ ∀ H4 : Hp, ∀ x29 : Nat, ∀ x30 : Int, ∀ x31 : Int, ∀ x32 : Int, ∀ x33 : Int, I0 [.n x29, .i x30, .i x31, .i x32, .i x33] H4 →
    (0 ≤ (x26 : Int) ∧ (0 ≤ (x26 : Int) →
    (((x29 : Int) < (x26 : Int) →
     (((0 : Int) ≤ (x29 : Int) ∧ (x29 : Int) < (x26 : Int)) ∧ (((0 : Int) ≤ (x29 : Int) ∧ (x29 : Int) < (x26 : Int)) →
     (x25.isSome = true ∧ (x25.isSome = true →
     (∃ x34 : Int, ∃ x35 : Int, ∃ x36 : Int, ∃ x37 : Int, RowAt H4 x25 (0 + ((x29 : Int) * 4)) [vi x34, vi x35, vi x36, vi x37] ∧
     (Cl Try.prog W0 M H4 nK 33 #[Value.agg #[vi x30, vi x31, vi x32, vi x33], Value.agg #[vi x34, vi x35, vi x36, vi x37]] fun z W7 W8 => ∃ x38 : Int, ∃ x39 : Int, ∃ x40 : Int, ∃ x41 : Int, ∃ x42 : Int, ∃ x43 : Int, z = .returned (Value.tuple #[Value.agg #[vi x38, vi x39, vi x40, vi x41], vi x42, vi x43]) ∧ Ext W7 W8 ∧
     (∀ b2 : Nat,
     ((x43 = 0 →
      (inKind .i64 ((x29 : Int) + 1) ∧ (inKind .i64 ((x29 : Int) + 1) →
      (0 ≤ ((x29 : Int) + 1) ∧ (0 ≤ ((x29 : Int) + 1) →
      (I0 [.n (((x29 : Int) + 1) : Int).toNat, .i x38, .i x39, .i x40, .i x41] H4 ∧ μ0 [.n (((x29 : Int) + 1) : Int).toNat, .i x38, .i x39, .i x40, .i x41] < μ0 [.n x29, .i x30, .i x31, .i x32, .i x33])))))) ∧
     (¬ (x43 = 0) →
      Rt R W0 M H4 nK (vb (false)))))))))))) ∧
    (¬ ((x29 : Int) < (x26 : Int)) →
     (Cl Try.prog W0 M H4 nK 27 #[] fun z W7 W8 => ∃ x34 : Bool, z = .returned (vb (x34)) ∧ Ext W7 W8 ∧
     ((x34 = true →
      (Es W0 M H4 nK fun W9 => ∃ x35 : Bool, Eo Try.prog (.bop .eql 22 (.tmp 58) (.tmp 60)) [Value.agg #[vi x30, vi x31, vi x32, vi x33], Value.agg #[vi x14, vi x15, vi x16, vi x17]] W9 (.value (vb (x35))) fun W10 => Ext W9 W10 ∧
      Rt R W0 M H4 nK (vb (x35)))) ∧
     (¬ (x34 = true) →
      Rt R W0 M H4 nK (vb (false)))))))))))) ∧
  (¬ (x28 = 0) →
   (Cl Try.prog W0 M H3 nK 27 #[] fun z W7 W8 => ∃ x29 : Bool, z = .returned (vb (x29)) ∧ Ext W7 W8 ∧
   ((x29 = true →
    Rt R W0 M H3 nK (vb (decide (x24 = x28)))) ∧
   (¬ (x29 = true) →
    Rt R W0 M H3 nK (vb (false)))))))) ∧
 (¬ (x24 = 0) →
  (Cl Try.prog W0 M H3 nK 27 #[] fun z W7 W8 => ∃ x29 : Bool, z = .returned (vb (x29)) ∧ Ext W7 W8 ∧
  ((x29 = true →
   Rt R W0 M H3 nK (vb (decide (x24 = x28)))) ∧
  (¬ (x29 = true) →
   Rt R W0 M H3 nK (vb (false)))))))))))) :
  Calls Try.prog 8 #[vsl x0 x1 x2] W0 R :=
  calls_sxA (M := M) (V := v_traceVals) (hi := {loops := [(7, .inv [(9, .nat)] [(8, [.pt (.int .i64), .pt (.int .i64), .pt (.int .i64), .pt (.int .i64)])])]}) (args := [.slO 0 (.k 0) (.v 1) (.v 2)]) (nv := 3) (e := (upd (upd (upd (fun _ => .i 0) 0 (.p x0)) 1 (.n x1)) 2 (.n x2))) Try.func8 hH h (by kernel_rfl) (by kernel_rfl) (by kernel_rfl)
def v_traceLife : VC :=
(.call 23 [.slO 0 (.k 0) (.v 1) (.v 2)] [] [(5, .p), (6, .n), (7, .n), (8, .i)] (.tup [.slO 5 (.k 0) (.v 6) (.v 7), .int .i64 (.v 8)]) .fresh
(.ite (.eq (.v 8) (.k 0))
(.chk (.le (.k 0) (.v 1))
(.ite (.eq (.v 1) (.k 0))
(.call 27 [] [] [(9, .b)] (.bool (.v 9)) .same
(.ret (.bool (.v 9)) []))
(.chk (.le (.k 0) (.v 6))
(.ite (.eq (.v 6) (.v 1))
(.call 21 [.int .i64 (.v 3), .int .i64 (.v 1)] [] [(9, .i)] (.int .i64 (.v 9)) .same
(.call 21 [.int .i64 (.v 4), .int .i64 (.v 1)] [] [(10, .i)] (.int .i64 (.v 10)) .same
(.ite (.le (.v 10) (.v 9))
(.call 27 [] [] [(11, .b)] (.bool (.v 11)) .same
(.ret (.bool (.v 11)) []))
(.chk (.idx (.v 9) (.v 6))
(.chk (.isp 5)
(.ld 5 (.add (.k 0) (.mul (.v 9) (.k 1))) [.bool (.v 11)] [(11, .b)]
(.ite (.v 11)
(.chk (.idx (.v 10) (.v 6))
(.ld 5 (.add (.k 0) (.mul (.v 10) (.k 1))) [.bool (.v 12)] [(12, .b)]
(.ite (.v 12)
(.chk (.idx (.v 9) (.v 1))
(.chk (.isp 0)
(.chk (.le (.k 0) (.add (.k 0) (.mul (.v 9) (.k 9))))
(.ld 0 (.add (.add (.k 0) (.mul (.v 9) (.k 9))) (.k 2)) [.int .i64 (.v 13)] [(13, .i)]
(.chk (.idx (.v 10) (.v 1))
(.chk (.le (.k 0) (.add (.k 0) (.mul (.v 10) (.k 9))))
(.ld 0 (.add (.add (.k 0) (.mul (.v 10) (.k 9))) (.k 2)) [.int .i64 (.v 14)] [(14, .i)]
(.ite (.eq (.v 13) (.v 14))
(.ld 0 (.add (.add (.k 0) (.mul (.v 9) (.k 9))) (.k 3)) [.int .i64 (.v 15)] [(15, .i)]
(.ld 0 (.add (.add (.k 0) (.mul (.v 10) (.k 9))) (.k 3)) [.int .i64 (.v 16)] [(16, .i)]
(.ite (.eq (.v 15) (.v 16))
(.chk (.rng .i64 (.add (.v 9) (.k 1)))
(.chk (.le (.k 0) (.add (.v 9) (.k 1)))
(.loop [(17, .n), (18, .b)] [.n (.add (.v 9) (.k 1)), .b (.k false)] [.n (.v 17), .b (.v 18)]
(.ite (.lt (.v 17) (.v 10))
(.ite (.v 18)
(.chk (.rng .i64 (.add (.v 17) (.k 1)))
(.chk (.le (.k 0) (.add (.v 17) (.k 1)))
(.back 0 [.n (.add (.v 17) (.k 1)), .b (.k true)])))
(.chk (.idx (.v 17) (.v 1))
(.ld 0 (.add (.k 0) (.mul (.v 17) (.k 9))) [.int .i64 (.v 19)] [(19, .i)]
(.ite (.eq (.v 19) (.k 1))
(.chk (.le (.k 0) (.add (.k 0) (.mul (.v 17) (.k 9))))
(.ld 0 (.add (.add (.k 0) (.mul (.v 17) (.k 9))) (.k 2)) [.int .i64 (.v 20)] [(20, .i)]
(.ld 0 (.add (.add (.k 0) (.mul (.v 10) (.k 9))) (.k 2)) [.int .i64 (.v 21)] [(21, .i)]
(.chk (.rng .i64 (.add (.v 17) (.k 1)))
(.chk (.le (.k 0) (.add (.v 17) (.k 1)))
(.back 0 [.n (.add (.v 17) (.k 1)), .b (.eq (.v 20) (.v 21))]))))))
(.chk (.rng .i64 (.add (.v 17) (.k 1)))
(.chk (.le (.k 0) (.add (.v 17) (.k 1)))
(.back 0 [.n (.add (.v 17) (.k 1)), .b (.k false)])))))))
(.call 27 [] [] [(19, .b)] (.bool (.v 19)) .same
(.ite (.v 19)
(.ret (.bool (.v 18)) [])
(.ret (.bool (.k false)) [])))))))
(.call 27 [] [] [(17, .b)] (.bool (.v 17)) .same
(.ret (.bool (.v 17)) [])))))
(.call 27 [] [] [(15, .b)] (.bool (.v 15)) .same
(.ret (.bool (.v 15)) []))))))))))
(.call 27 [] [] [(13, .b)] (.bool (.v 13)) .same
(.ret (.bool (.v 13)) [])))))
(.call 27 [] [] [(12, .b)] (.bool (.v 12)) .same
(.ret (.bool (.v 12)) [])))))))))
(.ret (.bool (.k false)) [])))))
(.call 27 [] [] [(9, .b)] (.bool (.v 9)) .same
(.ret (.bool (.v 9)) []))))
theorem x_traceLife (x0 : Option Loc) (x1 : Nat) (x2 : Nat) (x3 : Int) (x4 : Int) (M : Nat → Prop) (H0 : Hp) (W0 : World) (R : Ending → World → Prop) (hH : H0.le (hpOf W0)) (h :
 (Cl Try.prog W0 M H0 nK 23 #[vsl x0 x1 x2] fun z W1 W2 => ∃ x5 : Option Loc, ∃ x6 : Nat, ∃ x7 : Nat, ∃ x8 : Int, z = .returned (Value.tuple #[vsl x5 x6 x7, vi x8]) ∧ Fr W1 W2 H0 fun H1 =>
 ((x8 = 0 →
  (0 ≤ (x1 : Int) ∧ (0 ≤ (x1 : Int) →
  (((x1 : Int) = 0 →
   (Cl Try.prog W0 M H1 nK 27 #[] fun z W3 W4 => ∃ x9 : Bool, z = .returned (vb (x9)) ∧ Ext W3 W4 ∧
   Rt R W0 M H1 nK (vb (x9)))) ∧
  (¬ ((x1 : Int) = 0) →
   (0 ≤ (x6 : Int) ∧ (0 ≤ (x6 : Int) →
   (((x6 : Int) = (x1 : Int) →
    (Cl Try.prog W0 M H1 nK 21 #[vi x3, vi (x1 : Int)] fun z W3 W4 => ∃ x9 : Int, z = .returned (vi x9) ∧ Ext W3 W4 ∧
    (Cl Try.prog W0 M H1 nK 21 #[vi x4, vi (x1 : Int)] fun z W5 W6 => ∃ x10 : Int, z = .returned (vi x10) ∧ Ext W5 W6 ∧
    ((x10 ≤ x9 →
     (Cl Try.prog W0 M H1 nK 27 #[] fun z W7 W8 => ∃ x11 : Bool, z = .returned (vb (x11)) ∧ Ext W7 W8 ∧
     Rt R W0 M H1 nK (vb (x11)))) ∧
    (¬ (x10 ≤ x9) →
     (((0 : Int) ≤ x9 ∧ x9 < (x6 : Int)) ∧ (((0 : Int) ≤ x9 ∧ x9 < (x6 : Int)) →
     (x5.isSome = true ∧ (x5.isSome = true →
     (∃ x11 : Bool, RowAt H1 x5 (0 + (x9 * 1)) [vb (x11)] ∧
     ((x11 = true →
      (((0 : Int) ≤ x10 ∧ x10 < (x6 : Int)) ∧ (((0 : Int) ≤ x10 ∧ x10 < (x6 : Int)) →
      (∃ x12 : Bool, RowAt H1 x5 (0 + (x10 * 1)) [vb (x12)] ∧
      ((x12 = true →
       (((0 : Int) ≤ x9 ∧ x9 < (x1 : Int)) ∧ (((0 : Int) ≤ x9 ∧ x9 < (x1 : Int)) →
       (x0.isSome = true ∧ (x0.isSome = true →
       (0 ≤ (0 + (x9 * 9)) ∧ (0 ≤ (0 + (x9 * 9)) →
       (∃ x13 : Int, RowAt H1 x0 ((0 + (x9 * 9)) + 2) [vi x13] ∧
       (((0 : Int) ≤ x10 ∧ x10 < (x1 : Int)) ∧ (((0 : Int) ≤ x10 ∧ x10 < (x1 : Int)) →
       (0 ≤ (0 + (x10 * 9)) ∧ (0 ≤ (0 + (x10 * 9)) →
       (∃ x14 : Int, RowAt H1 x0 ((0 + (x10 * 9)) + 2) [vi x14] ∧
       ((x13 = x14 →
        (∃ x15 : Int, RowAt H1 x0 ((0 + (x9 * 9)) + 3) [vi x15] ∧
        (∃ x16 : Int, RowAt H1 x0 ((0 + (x10 * 9)) + 3) [vi x16] ∧
        ((x15 = x16 →
         (inKind .i64 (x9 + 1) ∧ (inKind .i64 (x9 + 1) →
         (0 ≤ (x9 + 1) ∧ (0 ≤ (x9 + 1) →
         (∃ (I0 : List Dat → Hp → Prop) (μ0 : List Dat → Nat), I0 [.n ((x9 + 1) : Int).toNat, .b (false)] H1 ∧ ∀ H2 : Hp, ∀ x17 : Nat, ∀ x18 : Bool, I0 [.n x17, .b (x18)] H2 →
          (((x17 : Int) < x10 →
           ((x18 = true →
            (inKind .i64 ((x17 : Int) + 1) ∧ (inKind .i64 ((x17 : Int) + 1) →
            (0 ≤ ((x17 : Int) + 1) ∧ (0 ≤ ((x17 : Int) + 1) →
            (I0 [.n (((x17 : Int) + 1) : Int).toNat, .b (true)] H2 ∧ μ0 [.n (((x17 : Int) + 1) : Int).toNat, .b (true)] < μ0 [.n x17, .b (x18)])))))) ∧
           (¬ (x18 = true) →
            (((0 : Int) ≤ (x17 : Int) ∧ (x17 : Int) < (x1 : Int)) ∧ (((0 : Int) ≤ (x17 : Int) ∧ (x17 : Int) < (x1 : Int)) →
            (∃ x19 : Int, RowAt H2 x0 (0 + ((x17 : Int) * 9)) [vi x19] ∧
            ((x19 = 1 →
             (0 ≤ (0 + ((x17 : Int) * 9)) ∧ (0 ≤ (0 + ((x17 : Int) * 9)) →
             (∃ x20 : Int, RowAt H2 x0 ((0 + ((x17 : Int) * 9)) + 2) [vi x20] ∧
             (∃ x21 : Int, RowAt H2 x0 ((0 + (x10 * 9)) + 2) [vi x21] ∧
             (inKind .i64 ((x17 : Int) + 1) ∧ (inKind .i64 ((x17 : Int) + 1) →
             (0 ≤ ((x17 : Int) + 1) ∧ (0 ≤ ((x17 : Int) + 1) →
             (I0 [.n (((x17 : Int) + 1) : Int).toNat, .b (decide (x20 = x21))] H2 ∧ μ0 [.n (((x17 : Int) + 1) : Int).toNat, .b (decide (x20 = x21))] < μ0 [.n x17, .b (x18)])))))))))) ∧
            (¬ (x19 = 1) →
             (inKind .i64 ((x17 : Int) + 1) ∧ (inKind .i64 ((x17 : Int) + 1) →
             (0 ≤ ((x17 : Int) + 1) ∧ (0 ≤ ((x17 : Int) + 1) →
             (I0 [.n (((x17 : Int) + 1) : Int).toNat, .b (false)] H2 ∧ μ0 [.n (((x17 : Int) + 1) : Int).toNat, .b (false)] < μ0 [.n x17, .b (x18)]))))))))))))) ∧
          (¬ ((x17 : Int) < x10) →
           (Cl Try.prog W0 M H2 nK 27 #[] fun z W7 W8 => ∃ x19 : Bool, z = .returned (vb (x19)) ∧ Ext W7 W8 ∧
           ((x19 = true →
            Rt R W0 M H2 nK (vb (x18))) ∧
           (¬ (x19 = true) →
            Rt R W0 M H2 nK (vb (false))))))))))))) ∧
        (¬ (x15 = x16) →
         (Cl Try.prog W0 M H1 nK 27 #[] fun z W7 W8 => ∃ x17 : Bool, z = .returned (vb (x17)) ∧ Ext W7 W8 ∧
         Rt R W0 M H1 nK (vb (x17)))))))) ∧
       (¬ (x13 = x14) →
        (Cl Try.prog W0 M H1 nK 27 #[] fun z W7 W8 => ∃ x15 : Bool, z = .returned (vb (x15)) ∧ Ext W7 W8 ∧
        Rt R W0 M H1 nK (vb (x15)))))))))))))))))) ∧
      (¬ (x12 = true) →
       (Cl Try.prog W0 M H1 nK 27 #[] fun z W7 W8 => ∃ x13 : Bool, z = .returned (vb (x13)) ∧ Ext W7 W8 ∧
       Rt R W0 M H1 nK (vb (x13))))))))) ∧
     (¬ (x11 = true) →
      (Cl Try.prog W0 M H1 nK 27 #[] fun z W7 W8 => ∃ x12 : Bool, z = .returned (vb (x12)) ∧ Ext W7 W8 ∧
      Rt R W0 M H1 nK (vb (x12))))))))))))))) ∧
   (¬ ((x6 : Int) = (x1 : Int)) →
    Rt R W0 M H1 nK (vb (false))))))))))) ∧
 (¬ (x8 = 0) →
  (Cl Try.prog W0 M H1 nK 27 #[] fun z W3 W4 => ∃ x9 : Bool, z = .returned (vb (x9)) ∧ Ext W3 W4 ∧
  Rt R W0 M H1 nK (vb (x9))))))) :
  Calls Try.prog 7 #[vsl x0 x1 x2, vi x3, vi x4] W0 R :=
  calls_sxA (M := M) (V := v_traceLife) (hi := {loops := [(11, .inv [(12, .nat), (11, .pt .bool)] [])]}) (args := [.slO 0 (.k 0) (.v 1) (.v 2), .int .i64 (.v 3), .int .i64 (.v 4)]) (nv := 5) (e := (upd (upd (upd (upd (upd (fun _ => .i 0) 0 (.p x0)) 1 (.n x1)) 2 (.n x2)) 3 (.i x3)) 4 (.i x4))) Try.func7 hH h (by kernel_rfl) (by kernel_rfl) (by kernel_rfl)
end Go.Proofs.Ytdihdcielchodaa
namespace Go.Proofs.Ytdihdcielchodaa
open Go.RowKit
set_option maxRecDepth 100000
theorem c_opDo (x : POp) (v : V4) (H : Hp) : Gv Try.prog 33 #[.agg #[vi v.a, vi v.b, vi v.c, vi v.d], x.vals] H (.tuple #[.agg #[vi (x.does v).1.a, vi (x.does v).1.b, vi (x.does v).1.c, vi (x.does v).1.d], vi (x.does v).2.1, vi (x.does v).2.2]) := fun W _ => op_do v.a v.b v.c v.d x.kind x.key x.to x.n W
def tB : List Bool := [false, true, false, false, false, true, false, false, false, true]
def tO : List POp := [⟨2, 0, 0, 5⟩, ⟨3, 0, 1, 2⟩, ⟨2, 0, 0, 9⟩]
theorem tr1 : tDone someL = (tB, 0) ∧ tOps someL = (tO, 0) ∧ tOnce someL 1 1 = (2, 0) ∧ tOnce someL 2 1 = (0, 0) ∧ tOnce someL 6 1 = (0, 3) := by decide +kernel
theorem bools_same {W0 W : World} {H : Hp} {b : Nat} {C : Array Value} {T m : Nat} {p : Option Loc} {n c : Nat} {l : List Bool} (hI : Bools H p n c l) (hC : C.toList = (l.map brow).flatten) (hm : m = l.length) (hx : m ≤ maxLen) (nn : Now W0 noM H W) (k : Kn W0 noM H W b (.cells C T (0, 0))) :
    ∃ H1 : Hp, H1.le (hpOf W) ∧ Gv Try.prog 28 #[vsl p n c, vsl (some (b, 0)) m m] H1 (vb true) :=
  ⟨_, addH_le nn.sub k.eq, decide_eq_true (rfl : l = l) ▸ c_sameBools (hI.mono (le_addH k.off)) (b' := l) ⟨Nat.le_refl _, hx, Rows.block (addH_at ..) (by simpa using hm) (fun r hr => by obtain ⟨y, _, rfl⟩ := List.mem_map.1 hr; rfl) (by
    rw [hC, List.drop_zero, List.take_of_length_le]
    rw [flat_len (w := 1) (fun r hr => by obtain ⟨y, _, rfl⟩ := List.mem_map.1 hr; rfl), List.length_map, hm]
    exact Nat.le_refl _)⟩⟩
theorem ops_same {W0 W : World} {H : Hp} {b : Nat} {C : Array Value} {T m : Nat} {p : Option Loc} {n c : Nat} {l : List POp} (hI : Ops H p n c l) (hC : C.toList = (l.map orow).flatten) (hm : m = l.length) (hx : m ≤ maxLen) (nn : Now W0 noM H W) (k : Kn W0 noM H W b (.cells C T (0, 0))) :
    ∃ H1 : Hp, H1.le (hpOf W) ∧ Gv Try.prog 29 #[vsl p n c, vsl (some (b, 0)) m m] H1 (vb true) :=
  ⟨_, addH_le nn.sub k.eq, decide_eq_true (rfl : l = l) ▸ c_sameOps (hI.mono (le_addH k.off)) (b' := l) ⟨Nat.le_refl _, hx, Rows.block (addH_at ..) (by simpa using hm) (fun r hr => by obtain ⟨y, _, rfl⟩ := List.mem_map.1 hr; rfl) (by
    rw [hC, List.drop_zero, List.take_of_length_le]
    rw [flat_len (w := 4) (fun r hr => by obtain ⟨y, _, rfl⟩ := List.mem_map.1 hr; rfl), List.length_map, hm]
    exact Nat.le_refl _)⟩⟩
theorem c_traceBegun (H : Hp) : Gv Try.prog 27 #[] H (vb true) := fun W hH => by
  obtain ⟨a1, a2, a3, a4, a5⟩ := tr1
  have k1 : ∀ {p : Option Loc} {H : Hp}, Ents H p 10 10 someL → Gf Try.prog 23 #[vsl p 10 10] H (DonePost (tB, 0)) := fun hE => by
    have := c_traceDone hE; rw [a1] at this; exact this
  have k2 : ∀ {p : Option Loc} {H : Hp}, Ents H p 10 10 someL → Gf Try.prog 24 #[vsl p 10 10] H (OpsPost (tO, 0)) := fun hE => by
    have := c_traceOps hE; rw [a2] at this; exact this
  have k3 : ∀ {p : Option Loc} {H : Hp}, Ents H p 10 10 someL → Gv Try.prog 30 #[vsl p 10 10, vi 1, vi 1] H (.tuple #[vi 2, vi 0]) := fun hE => by
    have := c_traceOnce hE 1 1; rw [a3] at this; exact this
  have k4 : ∀ {p : Option Loc} {H : Hp}, Ents H p 10 10 someL → Gv Try.prog 30 #[vsl p 10 10, vi 2, vi 1] H (.tuple #[vi 0, vi 0]) := fun hE => by
    have := c_traceOnce hE 2 1; rw [a4] at this; exact this
  have k5 : ∀ {p : Option Loc} {H : Hp}, Ents H p 10 10 someL → Gv Try.prog 30 #[vsl p 10 10, vi 6, vi 1] H (.tuple #[vi 0, vi 3]) := fun hE => by
    have := c_traceOnce hE 6 1; rw [a5] at this; exact this
  refine x_traceBegun noM H W _ hH ?_
  refine Cl.fresh (c_lsome H) ?_
  rintro v W1 W2 D ⟨p, rfl, hE⟩ hx hD hf nn
  refine ⟨p, 10, 10, rfl, hx, D, hD, hf, fun H1 h1 hd1 => ?_⟩
  refine Cl.fresh (k1 (hE.mono hd1)) ?_
  rintro v W1 W2 D ⟨p1, n1, c1, rfl, hB⟩ hx hD hf nn
  refine ⟨p1, n1, c1, _, rfl, hx, D, hD, hf, fun H2 h2 hd2 => ?_⟩
  refine Cl.fresh (c_lsome H2) ?_
  rintro v W1 W2 D ⟨p, rfl, hE⟩ hx hD hf nn
  refine ⟨p, 10, 10, rfl, hx, D, hD, hf, fun H3 h3 hd3 => ?_⟩
  refine Cl.fresh (k2 (hE.mono hd3)) ?_
  rintro v W1 W2 D ⟨p2, n2, c2, rfl, hO⟩ hx hD hf nn
  refine ⟨p2, n2, c2, _, rfl, hx, D, hD, hf, fun H4 h4 hd4 => ?_⟩
  refine Cl.fresh (c_lsome H4) ?_
  rintro v W1 W2 D ⟨p, rfl, hE⟩ hx hD hf nn
  refine ⟨p, 10, 10, rfl, hx, D, hD, hf, fun H5 h5 hd5 => ?_⟩
  refine Cl.same (k3 (hE.mono hd5)) fun _ _ hx => ⟨_, _, rfl, hx, ?_⟩
  refine Cl.fresh (c_lsome H5) ?_
  rintro v W1 W2 D ⟨p, rfl, hE⟩ hx hD hf nn
  refine ⟨p, 10, 10, rfl, hx, D, hD, hf, fun H6 h6 hd6 => ?_⟩
  refine Cl.same (k4 (hE.mono hd6)) fun _ _ hx => ⟨_, _, rfl, hx, ?_⟩
  refine Cl.fresh (c_lsome H6) ?_
  rintro v W1 W2 D ⟨p, rfl, hE⟩ hx hD hf nn
  refine ⟨p, 10, 10, rfl, hx, D, hD, hf, fun H7 h7 hd7 => ?_⟩
  refine Cl.same (k5 (hE.mono hd7)) fun _ _ hx => ⟨_, _, rfl, hx, ?_⟩
  refine ⟨fun _ => ⟨fun _ => ⟨fun _ => ⟨fun _ => ⟨fun _ b0 => ?_, fun h => absurd rfl h⟩, fun h => absurd rfl h⟩, fun h => absurd rfl h⟩, fun h => absurd rfl h⟩, fun h => absurd rfl h⟩
  have hB7 := ((((((hB.mono hd2).mono h3).mono h4).mono h5).mono h6).mono h7)
  have hO7 := (((hO.mono hd4).mono h5).mono h6).mono h7
  refine Cl.sameK (fun W n k => bools_same hB7 (by kernel_rfl) rfl (by simp [maxLen]) n k.1) fun _ _ hx => ⟨_, rfl, hx, fun _ => ?_, fun h => absurd rfl h⟩
  refine Cl.same (c_ladd 5 H7) fun _ _ hx => ⟨_, _, _, _, rfl, hx, ?_⟩
  refine Cl.same (c_ladd 9 H7) fun _ _ hx => ⟨_, _, _, _, rfl, hx, fun b1 => ?_⟩
  refine Cl.sameK (fun W n k => ops_same hO7 (by kernel_rfl) rfl (by simp [maxLen]) n k.1) fun _ _ hx => ⟨_, rfl, hx, fun _ => ⟨fun _ => Rt.gv' (by simp), fun h => absurd rfl h⟩, fun h => absurd rfl h⟩
section
variable {H : Hp} {q : Option Loc} {m d : Nat} {l : List Ent}
theorem c_traceTells (hE : Ents H q m d l) : Gv Try.prog 5 #[vsl q m d] H (vb true) := fun W hH => by
  refine x_traceTells q m d noM H W _ hH ?_
  refine Cl.fresh (c_traceDone hE) ?_
  rintro v W1 W2 D ⟨p1, n1, c1, rfl, hB1⟩ hx hD hf nn
  refine ⟨p1, n1, c1, _, rfl, hx, D, hD, hf, fun H1 h1 hd1 => ?_⟩
  refine Cl.fresh (c_traceOps (hE.mono h1)) ?_
  rintro v W1 W2 D ⟨p2, n2, c2, rfl, hO1⟩ hx hD hf nn
  refine ⟨p2, n2, c2, _, rfl, hx, D, hD, hf, fun H2 h2 hd2 => ?_⟩
  refine Cl.fresh (c_doneOf ((hE.mono h1).mono h2)) ?_
  rintro v W1 W2 D ⟨p3, n3, c3, rfl, hB2⟩ hx hD hf nn
  refine ⟨p3, n3, c3, _, rfl, hx, D, hD, hf, fun H3 h3 hd3 => ?_⟩
  refine Cl.fresh (c_opsOf (((hE.mono h1).mono h2).mono h3)) ?_
  rintro v W1 W2 D ⟨p4, n4, c4, rfl, hO2⟩ hx hD hf nn
  refine ⟨p4, n4, c4, _, rfl, hx, D, hD, hf, fun H4 h4 hd4 => ?_⟩
  refine Cl.same (c_traceBegun H4) fun _ _ hx => ⟨_, rfl, hx, fun _ => ?_, fun h => absurd rfl h⟩
  refine Cl.same (c_sameBools ((((hB1.mono hd1).mono h2).mono h3).mono h4) ((hB2.mono hd3).mono h4)) fun _ _ hx => ⟨_, rfl, hx, fun _ => ⟨fun _ => ?_, fun h => absurd rfl h⟩, fun h => absurd (decide_eq_true rfl) h⟩
  exact Cl.same (c_sameOps (((hO1.mono hd2).mono h3).mono h4) (hO2.mono hd4)) fun _ _ hx => ⟨_, rfl, hx, fun _ => Rt.gv' (by simp), fun h => absurd (decide_eq_true rfl) h⟩
theorem c_traceOnceL (hE : Ents H q m d l) (x y : Int) : Gv Try.prog 6 #[vsl q m d, vi x, vi y] H (vb true) := fun W hH => by
  refine x_traceOnceL q m d x y noM H W _ hH ?_
  refine Cl.same (c_traceOnce hE x y) fun _ _ hx => ⟨_, _, rfl, hx, ?_⟩
  refine Cl.same (c_onceOf hE x y) fun _ _ hx => ⟨_, _, rfl, hx, ?_⟩
  exact Cl.same (c_traceBegun H) fun _ _ hx => ⟨_, rfl, hx, fun _ => ⟨fun _ => Rt.gv' (by simp), fun h => absurd rfl h⟩, fun h => absurd rfl h⟩
theorem tOps_err (l : List Ent) : (tOps l).2 = entsErr l := by
  by_cases h : entsErr l = 0
  · rw [tOps_ok h, h]
  · rw [tOps_bad h]
theorem tDone_err (l : List Ent) : (tDone l).2 = entsErr l := by
  by_cases h : entsErr l = 0
  · rw [tDone_ok h, h]
  · rw [tDone_bad h]
theorem sAll_zero (l : List Ent) : (sAll Sta.zero l).2.2 = entsErr l := by
  have h0 : Sta.zero.err = 0 := by decide
  by_cases h : entsErr l = 0
  · have := (entsErr_ok.1 h).1
    rw [sAll_ok h0 h (by show ¬ (50 : Int) < 0 + _; omega), h]
  · rw [sAll_ents h0 h]
theorem c_traceVals (hE : Ents H q m d l) : Gv Try.prog 8 #[vsl q m d] H (vb true) := fun W hH => by
  have hm := hE.len
  have herr := (sAll_zero l).trans (tOps_err l).symm
  refine x_traceVals q m d noM H W _ hH ?_
  refine Cl.same (c_begin H) fun _ _ hx => ⟨_, _, _, _, _, _, none, 0, 0, rfl, Fr.none hx fun H1 h1 => ?_⟩
  refine Cl.fresh (c_foldAll (s := Sta.zero) (Tab.nil _ _) (hE.mono h1)) ?_
  rintro v W1 W2 D ⟨p1, n1, c1, pa, na, ca, ga, rfl, hT1, ho⟩ hx hD hf nn
  refine ⟨_, _, _, _, _, _, p1, n1, c1, pa, na, ca, _, rfl, hx, D, hD, hf, fun H2 h2 hd2 b0 => ?_⟩
  refine Cl.fresh (c_traceOps ((hE.mono h1).mono h2)) ?_
  rintro v W1 W2 D2 ⟨po, no, co, rfl, hO⟩ hx hD2 hf2 nn2
  refine ⟨po, no, co, _, rfl, hx, D2, hD2, hf2, fun H3 h3 hd3 => ⟨fun e0 => ⟨fun e1 b1 => ?_, fun e1 => ?_⟩, fun e0 => ?_⟩⟩
  · have h0 : entsErr l = 0 := by rw [← sAll_zero]; exact e0
    obtain ⟨h50, hl⟩ := entsErr_ok.1 h0
    obtain ⟨_, _, _, hfe⟩ := sAll_done e0
    rw [tOps_ok h0] at hO
    have hO3 : Ops H3 po no co (opsAt l (picks 0 (doneL l))) := hO.mono hd3
    have hno := hO3.len
    have hno2 : no ≤ maxLen := Nat.le_trans hO3.1 hO3.2.1
    refine ⟨fun v K => match v with
        | [.n j, .i a, .i b, .i c, .i d] => j ≤ no ∧ H3.le K ∧ ValsAt l j ⟨a, b, c, d⟩
        | _ => False, fun v => match v with | [.n j, _, _, _, _] => no - j | _ => 0, ⟨Nat.zero_le _, Hp.le_refl _, ValsAt.zero hl⟩, ?_⟩
    rintro K j a b c d ⟨hj, hle, hv⟩
    have ht : ((j : Int) + 1).toNat = j + 1 := by omega
    refine ⟨by omega, fun _ => ⟨fun hlt => ⟨⟨by omega, hlt⟩, fun _ => ?_⟩, fun hge => ?_⟩⟩
    · obtain ⟨x, hx, hat⟩ := (hO3.mono hle).at (k := j) (by omega)
      obtain ⟨v1, v2, v3⟩ := ValsAt.step hl h50 hv hx
      refine ⟨hat.isSome, fun _ => ⟨_, _, _, _, hat, ?_⟩⟩
      have hdo : x.does ⟨a, b, c, d⟩ = ((x.turn ⟨a, b, c, d⟩).1, (x.turn ⟨a, b, c, d⟩).2, 0) := by
        unfold POp.does
        rw [if_neg (by omega), if_neg (by rw [v1]; simp)]
      have hc := c_opDo x ⟨a, b, c, d⟩ K
      rw [hdo] at hc
      refine Cl.same hc fun _ _ hx => ⟨_, _, _, _, _, _, rfl, hx, fun b2 => ⟨fun _ => ⟨in64 (by simp only [maxLen] at hno2; omega), fun _ => ⟨by omega, fun _ => ?_⟩⟩, fun h => absurd rfl h⟩⟩
      rw [ht]
      exact ⟨⟨by omega, hle, v3⟩, by simp only; omega⟩
    · refine Cl.same (c_traceBegun K) fun _ _ hx => ⟨_, rfl, hx, fun _ => ?_, fun h => absurd rfl h⟩
      intro W3 n3 _
      refine ⟨_, _, ek_eq_v4 _ _ ⟨a, b, c, d⟩ (sAll Sta.zero l).1.vals _, Ext.refl _, Rt.gv' ?_⟩
      have := hv.end (by omega)
      rw [this, hfe]
      simp
  · exact Cl.same (c_traceBegun H3) fun _ _ hx => ⟨_, rfl, hx, fun _ => Rt.gv' (by rw [herr]; simp), fun h => absurd rfl h⟩
  · exact Cl.same (c_traceBegun H3) fun _ _ hx => ⟨_, rfl, hx, fun _ => Rt.gv' (by rw [herr]; simp), fun h => absurd rfl h⟩
/-- has the client opened anew, between? -/
def Anew (l : List Ent) (c : Int) (i n : Nat) : Prop := ∃ j e, i < j ∧ j < n ∧ l[j]? = some e ∧ e.kind = 1 ∧ e.client = c
theorem Anew.step {l : List Ent} {c : Int} {i n : Nat} {e : Ent} (he : l[n]? = some e) (hi : i < n) : Anew l c i (n + 1) ↔ Anew l c i n ∨ (e.kind = 1 ∧ e.client = c) := by
  constructor
  · rintro ⟨j, x, h1, h2, h3, h4, h5⟩
    by_cases h : j = n
    · subst h
      rw [he, Option.some.injEq] at h3
      subst h3
      exact .inr ⟨h4, h5⟩
    · exact .inl ⟨j, x, h1, by omega, h3, h4, h5⟩
  · rintro (⟨j, x, h1, h2, h3, h4, h5⟩ | ⟨h4, h5⟩)
    · exact ⟨j, x, h1, by omega, h3, h4, h5⟩
    · exact ⟨n, e, hi, by omega, he, h4, h5⟩
theorem c_traceLife (hE : Ents H q m d l) (x y : Int) (hx : -9223372036854775808 ≤ x ∧ x ≤ 9223372036854775807) (hy : -9223372036854775808 ≤ y ∧ y ≤ 9223372036854775807) : Gv Try.prog 7 #[vsl q m d, vi x, vi y] H (vb true) := fun W hH => by
  have hm := hE.len
  refine x_traceLife q m d x y noM H W _ hH ?_
  refine Cl.fresh (c_traceDone hE) ?_
  rintro v W1 W2 D ⟨pb, nb, cb, rfl, hB⟩ hx1 hD hf nn
  refine ⟨pb, nb, cb, _, rfl, hx1, D, hD, hf, fun H1 h1 hd1 => ?_⟩
  have beg : ∀ {K : Hp}, Cl Try.prog W noM K nK 27 #[] fun z W3 W4 => ∃ x31 : Bool, z = .returned (vb (x31)) ∧ Ext W3 W4 ∧ Rt (fun z W' => z = .returned (vb true) ∧ Ext W W') W noM K nK (vb (x31)) := fun {K} => Cl.same (c_traceBegun K) fun _ _ hx => ⟨_, rfl, hx, Rt.gv⟩
  refine ⟨fun h0 => ?_, fun _ => beg⟩
  have h00 : entsErr l = 0 := by rw [← tDone_err]; exact h0
  obtain ⟨h50, hl⟩ := entsErr_ok.1 h00
  rw [tDone_ok h00] at hB
  have hB1 : Bools H1 pb nb cb (doneL l) := hB.mono hd1
  have hnb := hB1.len
  rw [doneL_len] at hnb
  have hE1 := hE.mono h1
  refine ⟨by omega, fun _ => ⟨fun _ => beg, fun hn0 => ⟨by omega, fun _ => ⟨fun _ => ?_, fun h => absurd (by omega) h⟩⟩⟩⟩
  obtain ⟨i1, i2⟩ := choose_in x (m : Int) (by omega)
  refine Cl.same (c_choose x (m : Int) (by omega) hx H1) fun _ _ hx => ⟨_, rfl, hx, ?_⟩
  obtain ⟨i, hi⟩ : ∃ i : Nat, chooseI x (m : Int) = i := ⟨(chooseI x (m : Int)).toNat, by omega⟩
  rw [hi] at i1 i2 ⊢
  obtain ⟨k1, k2⟩ := choose_in y (m : Int) (by omega)
  refine Cl.same (c_choose y (m : Int) (by omega) hy H1) fun _ _ hx => ⟨_, rfl, hx, ?_⟩
  obtain ⟨k, hk⟩ : ∃ k : Nat, chooseI y (m : Int) = k := ⟨(chooseI y (m : Int)).toNat, by omega⟩
  rw [hk] at k1 k2 ⊢
  refine ⟨fun _ => beg, fun hik => ⟨⟨by omega, by omega⟩, fun _ => ?_⟩⟩
  obtain ⟨xi, hxi, ati⟩ := hB1.at (k := i) (by omega)
  obtain ⟨xk, hxk, atk⟩ := hB1.at (k := k) (by omega)
  obtain ⟨ei, hei, rowi, _⟩ := hE1.at (k := i) (by omega)
  obtain ⟨ek, hek, rowk, _⟩ := hE1.at (k := k) (by omega)
  have cli := rowi.sub (by omega) (j := 2) (v := vi ei.client) rfl (off' := (0 + (i : Int) * 9) + 2) (by omega)
  have clk := rowk.sub (by omega) (j := 2) (v := vi ek.client) rfl (off' := (0 + (k : Int) * 9) + 2) (by omega)
  have sqi := rowi.sub (by omega) (j := 3) (v := vi ei.seq) rfl (off' := (0 + (i : Int) * 9) + 3) (by omega)
  have sqk := rowk.sub (by omega) (j := 3) (v := vi ek.seq) rfl (off' := (0 + (k : Int) * 9) + 3) (by omega)
  refine ⟨ati.isSome, fun _ => ⟨_, ati, fun hti => ⟨⟨by omega, by omega⟩, fun _ => ⟨_, atk, fun htk => ⟨⟨by omega, by omega⟩, fun _ => ⟨rowi.isSome, fun _ => ⟨by omega, fun _ => ⟨_, cli, ⟨by omega, by omega⟩, fun _ => ⟨by omega, fun _ => ⟨_, clk, fun hc => ⟨_, sqi, _, sqk, fun hq => ⟨in64 (by omega), fun _ => ⟨by omega, fun _ => ?_⟩⟩, fun _ => beg⟩, fun _ => beg⟩⟩⟩⟩⟩⟩, fun _ => beg⟩⟩, fun _ => beg⟩⟩
  subst hti htk
  refine ⟨fun v K => match v with
      | [.n n, .b is] => i < n ∧ n ≤ k ∧ H1.le K ∧ (is = true ↔ Anew l ek.client i n)
      | _ => False, fun v => match v with | [.n n, _] => k - n | _ => 0, ⟨by omega, by omega, Hp.le_refl _, ?_⟩, ?_⟩
  · rw [show ((i : Int) + 1).toNat = i + 1 by omega]
    exact ⟨fun h => (by cases h), fun ⟨j, e, h1, h2, _⟩ => by omega⟩
  rintro K n is ⟨hn1, hn2, hle, hiff⟩
  have ht : ((n : Int) + 1).toNat = n + 1 := by omega
  refine ⟨fun hlt => ?_, fun hge => ?_⟩
  · obtain ⟨e, he, row, _⟩ := (hE1.mono hle).at (k := n) (by omega)
    have kd := row.sub (by omega) (j := 0) (v := vi e.kind) rfl (off' := 0 + (n : Int) * 9) (by omega)
    have cl := row.sub (by omega) (j := 2) (v := vi e.client) rfl (off' := (0 + (n : Int) * 9) + 2) (by omega)
    have hst := Anew.step (c := ek.client) he hn1
    refine ⟨fun h => ⟨in64 (by omega), fun _ => ⟨by omega, fun _ => ?_⟩⟩, fun h => ⟨⟨by omega, by omega⟩, fun _ => ⟨_, kd, fun h3 => ⟨by omega, fun _ => ⟨_, cl, _, clk.mono hle, in64 (by omega), fun _ => ⟨by omega, fun _ => ?_⟩⟩⟩, fun h3 => ⟨in64 (by omega), fun _ => ⟨by omega, fun _ => ?_⟩⟩⟩⟩⟩
    · rw [ht]
      exact ⟨⟨by omega, by omega, hle, fun _ => hst.2 (.inl (hiff.1 h)), fun _ => rfl⟩, by simp only; omega⟩
    · rw [ht]
      refine ⟨⟨by omega, by omega, hle, ?_⟩, by simp only; omega⟩
      rw [hst, decide_eq_true_eq]
      exact ⟨fun h4 => .inr ⟨h3, h4⟩, fun h4 => by
        rcases h4 with h4 | h4
        · exact absurd (hiff.2 h4) h
        · exact h4.2⟩
    · rw [ht]
      refine ⟨⟨by omega, by omega, hle, ?_⟩, by simp only; omega⟩
      rw [hst]
      exact ⟨fun h4 => (by cases h4), fun h4 => by
        rcases h4 with h4 | h4
        · exact absurd (hiff.2 h4) h
        · exact absurd h4.1 h3⟩
  · have hnk : n = k := by omega
    subst hnk
    have : is = true := hiff.2 (life hl h50 (by omega) hxi hxk hei hek hc hq)
    subst this
    exact Cl.same (c_traceBegun K) fun _ _ hx => ⟨_, rfl, hx, fun _ => Rt.gv, fun h => absurd rfl h⟩
end
end Go.Proofs.Ytdihdcielchodaa
