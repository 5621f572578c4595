/- Symbolic runs of functions: what each leaves to prove is enough for its call. Printed by a program of ours. No conditions. Contracts of package group. No conditions. Contract of group.Run. No conditions. -/
import Derived.Test.YtfpmcmhihhnfgaaGreatKE3
import Derived.Test.YtfpmcmhihhnfgaaGreatProg
import Derived.Test.YtfpmcmhihhnfgaaGreatKN1
set_option linter.unusedVariables false
set_option linter.unusedSimpArgs false
namespace Go.Proofs.YtfpmcmhihhnfgaaGreat
open Go.RowKit
set_option maxRecDepth 100000
set_option maxHeartbeats 4000000
def v_groupBegin : VC :=
(.all 0
(.ret (.agg [.int .i64 (.k 0), .int .i64 (.k 0), .int .i64 (.k 0), .int .i64 (.k 0), .int .i64 (.k 0), .int .i64 (.k 0), .c (Value.slice none 0 0), .c (Value.slice none 0 0), .int .i64 (.k 0), .int .i64 (.k 0), .int .i64 (.k 0), .int .i64 (.k 0), .int .i64 (.k 0), .int .i64 (.k 0), .c (Value.slice none 0 0), .int .i64 (.k 0), .int .i64 (.k 0), .int .i64 (.k 0), .int .i64 (.k 0), .int .i64 (.k 0), .int .i64 (.k 0), .c (Value.slice none 0 0), .int .i64 (.k 0), .int .i64 (.k 0), .int .i64 (.k 0), .int .i64 (.k 0), .int .i64 (.k 0), .int .i64 (.k 0), .c (Value.slice none 0 0)]) []))
theorem x_groupBegin (M : Nat → Prop) (H0 : Hp) (W0 : World) (R : Ending → World → Prop) (hH : H0.le (hpOf W0)) (h :
 (∀ b0 : Nat,
 Rt R W0 M H0 nK (Value.agg #[vi 0, vi 0, vi 0, vi 0, vi 0, vi 0, Value.slice none 0 0, Value.slice none 0 0, vi 0, vi 0, vi 0, vi 0, vi 0, vi 0, Value.slice none 0 0, vi 0, vi 0, vi 0, vi 0, vi 0, vi 0, Value.slice none 0 0, vi 0, vi 0, vi 0, vi 0, vi 0, vi 0, Value.slice none 0 0]))) :
  Calls Tryz.prog 19 #[] W0 R :=
  calls_sxA (M := M) (V := v_groupBegin) (hi := {}) (args := []) (nv := 0) (e := (fun _ => .i 0)) Tryz.func19 hH h (by kernel_rfl) (by kernel_rfl) (by kernel_rfl)
def v_groupCheck : VC :=
(.all 0
(.call 30 [.agg [vI 0, vI 1, vI 2, vI 3, vI 4, vI 5, vS 6, vS 9]] [] [(39, .i)] (vI 39) .same
(.ite (.eq (.v 39) (.k 0))
(.all 1
(.call 41 [.agg [vI 12, vI 13, vI 14, vI 15, vI 16, vI 17, vS 18]] [] [(40, .i)] (vI 40) .same
(.ite (.eq (.v 40) (.k 0))
(.call 42 [.agg [vI 0, vI 1, vI 2, vI 3, vI 4, vI 5, vS 6, vS 9], .agg [vI 12, vI 13, vI 14, vI 15, vI 16, vI 17, vS 18]] [] [(41, .b)] (.bool (.v 41)) .same
(.ite (.v 41)
(.all 2
(.call 41 [.agg [vI 21, vI 22, vI 23, vI 24, vI 25, vI 26, vS 27]] [] [(42, .i)] (vI 42) .same
(.ite (.eq (.v 42) (.k 0))
(.call 42 [.agg [vI 0, vI 1, vI 2, vI 3, vI 4, vI 5, vS 6, vS 9], .agg [vI 21, vI 22, vI 23, vI 24, vI 25, vI 26, vS 27]] [] [(43, .b)] (.bool (.v 43)) .same
(.ite (.v 43)
(.all 3
(.call 41 [.agg [vI 30, vI 31, vI 32, vI 33, vI 34, vI 35, vS 36]] [] [(44, .i)] (vI 44) .same
(.ite (.eq (.v 44) (.k 0))
(.call 42 [.agg [vI 0, vI 1, vI 2, vI 3, vI 4, vI 5, vS 6, vS 9], .agg [vI 30, vI 31, vI 32, vI 33, vI 34, vI 35, vS 36]] [] [(45, .b)] (.bool (.v 45)) .same
(.ite (.v 45)
(.ret (.int .i64 (.k 0)) [])
(.ret (.int .i64 (.k 1)) [])))
(.ret (vI 44) []))))
(.ret (.int .i64 (.k 1)) [])))
(.ret (vI 42) []))))
(.ret (.int .i64 (.k 1)) [])))
(.ret (vI 40) []))))
(.ret (vI 39) []))))
theorem x_groupCheck (x0 x1 x2 x3 x4 x5 : Int) (x6 : Option Loc) (x7 x8 : Nat) (x9 : Option Loc) (x10 x11 : Nat) (x12 x13 x14 x15 x16 x17 : Int) (x18 : Option Loc) (x19 x20 : Nat) (x21 x22 x23 x24 x25 x26 : Int) (x27 : Option Loc) (x28 x29 : Nat) (x30 x31 x32 x33 x34 x35 : Int) (x36 : Option Loc) (x37 x38 : Nat) (M : Nat → Prop) (H0 : Hp) (W0 : World) (R : Ending → World → Prop) (hH : H0.le (hpOf W0)) (h :
 (∀ b0 : Nat,
 (Cl Tryz.prog W0 M H0 nK 30 #[Value.agg #[vi x0, vi x1, vi x2, vi x3, vi x4, vi x5, vsl x6 x7 x8, vsl x9 x10 x11]] fun z W1 W2 => ∃ x39 : Int, z = .returned (vi x39) ∧ Ext W1 W2 ∧
 ((x39 = 0 →
  (∀ b1 : Nat,
  (Cl Tryz.prog W0 M H0 nK 41 #[Value.agg #[vi x12, vi x13, vi x14, vi x15, vi x16, vi x17, vsl x18 x19 x20]] fun z W3 W4 => ∃ x40 : Int, z = .returned (vi x40) ∧ Ext W3 W4 ∧
  ((x40 = 0 →
   (Cl Tryz.prog W0 M H0 nK 42 #[Value.agg #[vi x0, vi x1, vi x2, vi x3, vi x4, vi x5, vsl x6 x7 x8, vsl x9 x10 x11], Value.agg #[vi x12, vi x13, vi x14, vi x15, vi x16, vi x17, vsl x18 x19 x20]] fun z W5 W6 => ∃ x41 : Bool, z = .returned (vb (x41)) ∧ Ext W5 W6 ∧
   ((x41 = true →
    (∀ b2 : Nat,
    (Cl Tryz.prog W0 M H0 nK 41 #[Value.agg #[vi x21, vi x22, vi x23, vi x24, vi x25, vi x26, vsl x27 x28 x29]] fun z W7 W8 => ∃ x42 : Int, z = .returned (vi x42) ∧ Ext W7 W8 ∧
    ((x42 = 0 →
     (Cl Tryz.prog W0 M H0 nK 42 #[Value.agg #[vi x0, vi x1, vi x2, vi x3, vi x4, vi x5, vsl x6 x7 x8, vsl x9 x10 x11], Value.agg #[vi x21, vi x22, vi x23, vi x24, vi x25, vi x26, vsl x27 x28 x29]] fun z W9 W10 => ∃ x43 : Bool, z = .returned (vb (x43)) ∧ Ext W9 W10 ∧
     ((x43 = true →
      (∀ b3 : Nat,
      (Cl Tryz.prog W0 M H0 nK 41 #[Value.agg #[vi x30, vi x31, vi x32, vi x33, vi x34, vi x35, vsl x36 x37 x38]] fun z W11 W12 => ∃ x44 : Int, z = .returned (vi x44) ∧ Ext W11 W12 ∧
      ((x44 = 0 →
       (Cl Tryz.prog W0 M H0 nK 42 #[Value.agg #[vi x0, vi x1, vi x2, vi x3, vi x4, vi x5, vsl x6 x7 x8, vsl x9 x10 x11], Value.agg #[vi x30, vi x31, vi x32, vi x33, vi x34, vi x35, vsl x36 x37 x38]] fun z W13 W14 => ∃ x45 : Bool, z = .returned (vb (x45)) ∧ Ext W13 W14 ∧
       ((x45 = true →
        Rt R W0 M H0 nK (vi 0)) ∧
       (¬ (x45 = true) →
        Rt R W0 M H0 nK (vi 1))))) ∧
      (¬ (x44 = 0) →
       Rt R W0 M H0 nK (vi x44)))))) ∧
     (¬ (x43 = true) →
      Rt R W0 M H0 nK (vi 1))))) ∧
    (¬ (x42 = 0) →
     Rt R W0 M H0 nK (vi x42)))))) ∧
   (¬ (x41 = true) →
    Rt R W0 M H0 nK (vi 1))))) ∧
  (¬ (x40 = 0) →
   Rt R W0 M H0 nK (vi x40)))))) ∧
 (¬ (x39 = 0) →
  Rt R W0 M H0 nK (vi x39)))))) :
  Calls Tryz.prog 23 #[Value.agg #[vi x0, vi x1, vi x2, vi x3, vi x4, vi x5, vsl x6 x7 x8, vsl x9 x10 x11, vi x12, vi x13, vi x14, vi x15, vi x16, vi x17, vsl x18 x19 x20, vi x21, vi x22, vi x23, vi x24, vi x25, vi x26, vsl x27 x28 x29, vi x30, vi x31, vi x32, vi x33, vi x34, vi x35, vsl x36 x37 x38]] W0 R :=
  calls_sxA (M := M) (V := v_groupCheck) (hi := {loops := [(5, .unroll 4)]}) (args := [.agg [vI 0, vI 1, vI 2, vI 3, vI 4, vI 5, vS 6, vS 9, vI 12, vI 13, vI 14, vI 15, vI 16, vI 17, vS 18, vI 21, vI 22, vI 23, vI 24, vI 25, vI 26, vS 27, vI 30, vI 31, vI 32, vI 33, vI 34, vI 35, vS 36]]) (nv := 39) (e := (upd (upd (upd (upd (upd (upd (upd (upd (upd (upd (upd (upd (upd (upd (upd (upd (upd (upd (upd (upd (upd (upd (upd (upd (upd (upd (upd (upd (upd (upd (upd (upd (upd (upd (upd (upd (upd (upd (upd (fun _ => .i 0) 0 (.i x0)) 1 (.i x1)) 2 (.i x2)) 3 (.i x3)) 4 (.i x4)) 5 (.i x5)) 6 (.p x6)) 7 (.n x7)) 8 (.n x8)) 9 (.p x9)) 10 (.n x10)) 11 (.n x11)) 12 (.i x12)) 13 (.i x13)) 14 (.i x14)) 15 (.i x15)) 16 (.i x16)) 17 (.i x17)) 18 (.p x18)) 19 (.n x19)) 20 (.n x20)) 21 (.i x21)) 22 (.i x22)) 23 (.i x23)) 24 (.i x24)) 25 (.i x25)) 26 (.i x26)) 27 (.p x27)) 28 (.n x28)) 29 (.n x29)) 30 (.i x30)) 31 (.i x31)) 32 (.i x32)) 33 (.i x33)) 34 (.i x34)) 35 (.i x35)) 36 (.p x36)) 37 (.n x37)) 38 (.n x38))) Tryz.func23 hH h (by kernel_rfl) (by kernel_rfl) (by kernel_rfl)
def v_enter : VC :=
(.all 0
(.call 23 [.agg [vI 0, vI 1, vI 2, vI 3, vI 4, vI 5, vS 6, vS 9, vI 12, vI 13, vI 14, vI 15, vI 16, vI 17, vS 18, vI 21, vI 22, vI 23, vI 24, vI 25, vI 26, vS 27, vI 30, vI 31, vI 32, vI 33, vI 34, vI 35, vS 36]] [] [(39, .i)] (vI 39) .same
(.ite (.eq (.v 39) (.k 0))
(.call 44 [.agg [vI 0, vI 1, vI 2, vI 3, vI 4, vI 5, vS 6]] [] [(40, .i), (41, .i), (42, .i), (43, .i), (44, .i), (45, .i), (46, .p), (47, .n), (48, .n)] (.agg [vI 40, vI 41, vI 42, vI 43, vI 44, vI 45, vS 46]) .fresh
(.call 45 [vS 9] [] [(49, .p), (50, .n), (51, .n)] (vS 49) .fresh
(.call 44 [.agg [vI 12, vI 13, vI 14, vI 15, vI 16, vI 17, vS 18]] [] [(52, .i), (53, .i), (54, .i), (55, .i), (56, .i), (57, .i), (58, .p), (59, .n), (60, .n)] (.agg [vI 52, vI 53, vI 54, vI 55, vI 56, vI 57, vS 58]) .fresh
(.call 44 [.agg [vI 21, vI 22, vI 23, vI 24, vI 25, vI 26, vS 27]] [] [(61, .i), (62, .i), (63, .i), (64, .i), (65, .i), (66, .i), (67, .p), (68, .n), (69, .n)] (.agg [vI 61, vI 62, vI 63, vI 64, vI 65, vI 66, vS 67]) .fresh
(.call 44 [.agg [vI 30, vI 31, vI 32, vI 33, vI 34, vI 35, vS 36]] [] [(70, .i), (71, .i), (72, .i), (73, .i), (74, .i), (75, .i), (76, .p), (77, .n), (78, .n)] (.agg [vI 70, vI 71, vI 72, vI 73, vI 74, vI 75, vS 76]) .fresh
(.all 1
(.ret (.tup [.ptrK 1 0, .int .i64 (.k 0)]) [(1, ⟨[vI 40, vI 41, vI 42, vI 43, vI 44, vI 45, vS 46, vS 49, vI 52, vI 53, vI 54, vI 55, vI 56, vI 57, vS 58, vI 61, vI 62, vI 63, vI 64, vI 65, vI 66, vS 67, vI 70, vI 71, vI 72, vI 73, vI 74, vI 75, vS 76], 66⟩)])))))))
(.ret (.tup [.c (Value.pointer none), vI 39]) []))))
theorem x_enter (x0 x1 x2 x3 x4 x5 : Int) (x6 : Option Loc) (x7 x8 : Nat) (x9 : Option Loc) (x10 x11 : Nat) (x12 x13 x14 x15 x16 x17 : Int) (x18 : Option Loc) (x19 x20 : Nat) (x21 x22 x23 x24 x25 x26 : Int) (x27 : Option Loc) (x28 x29 : Nat) (x30 x31 x32 x33 x34 x35 : Int) (x36 : Option Loc) (x37 x38 : Nat) (M : Nat → Prop) (H0 : Hp) (W0 : World) (R : Ending → World → Prop) (hH : H0.le (hpOf W0)) (h :
 (∀ b0 : Nat,
 (Cl Tryz.prog W0 M H0 nK 23 #[Value.agg #[vi x0, vi x1, vi x2, vi x3, vi x4, vi x5, vsl x6 x7 x8, vsl x9 x10 x11, vi x12, vi x13, vi x14, vi x15, vi x16, vi x17, vsl x18 x19 x20, vi x21, vi x22, vi x23, vi x24, vi x25, vi x26, vsl x27 x28 x29, vi x30, vi x31, vi x32, vi x33, vi x34, vi x35, vsl x36 x37 x38]] fun z W1 W2 => ∃ x39 : Int, z = .returned (vi x39) ∧ Ext W1 W2 ∧
 ((x39 = 0 →
  (Cl Tryz.prog W0 M H0 nK 44 #[Value.agg #[vi x0, vi x1, vi x2, vi x3, vi x4, vi x5, vsl x6 x7 x8]] fun z W3 W4 => ∃ (x40 x41 x42 x43 x44 x45 : Int) (x46 : Option Loc) (x47 x48 : Nat), z = .returned (Value.agg #[vi x40, vi x41, vi x42, vi x43, vi x44, vi x45, vsl x46 x47 x48]) ∧ Fr W3 W4 H0 fun H1 =>
  (Cl Tryz.prog W0 M H1 nK 45 #[vsl x9 x10 x11] fun z W5 W6 => ∃ (x49 : Option Loc) (x50 x51 : Nat), z = .returned (vsl x49 x50 x51) ∧ Fr W5 W6 H1 fun H2 =>
  (Cl Tryz.prog W0 M H2 nK 44 #[Value.agg #[vi x12, vi x13, vi x14, vi x15, vi x16, vi x17, vsl x18 x19 x20]] fun z W7 W8 => ∃ (x52 x53 x54 x55 x56 x57 : Int) (x58 : Option Loc) (x59 x60 : Nat), z = .returned (Value.agg #[vi x52, vi x53, vi x54, vi x55, vi x56, vi x57, vsl x58 x59 x60]) ∧ Fr W7 W8 H2 fun H3 =>
  (Cl Tryz.prog W0 M H3 nK 44 #[Value.agg #[vi x21, vi x22, vi x23, vi x24, vi x25, vi x26, vsl x27 x28 x29]] fun z W9 W10 => ∃ (x61 x62 x63 x64 x65 x66 : Int) (x67 : Option Loc) (x68 x69 : Nat), z = .returned (Value.agg #[vi x61, vi x62, vi x63, vi x64, vi x65, vi x66, vsl x67 x68 x69]) ∧ Fr W9 W10 H3 fun H4 =>
  (Cl Tryz.prog W0 M H4 nK 44 #[Value.agg #[vi x30, vi x31, vi x32, vi x33, vi x34, vi x35, vsl x36 x37 x38]] fun z W11 W12 => ∃ (x70 x71 x72 x73 x74 x75 : Int) (x76 : Option Loc) (x77 x78 : Nat), z = .returned (Value.agg #[vi x70, vi x71, vi x72, vi x73, vi x74, vi x75, vsl x76 x77 x78]) ∧ Fr W11 W12 H4 fun H5 =>
  (∀ b1 : Nat,
  Rt R W0 M H5 (fun W => Kn W0 M H5 W b1 (Obj.cells #[vi x40, vi x41, vi x42, vi x43, vi x44, vi x45, vsl x46 x47 x48, vsl x49 x50 x51, vi x52, vi x53, vi x54, vi x55, vi x56, vi x57, vsl x58 x59 x60, vi x61, vi x62, vi x63, vi x64, vi x65, vi x66, vsl x67 x68 x69, vi x70, vi x71, vi x72, vi x73, vi x74, vi x75, vsl x76 x77 x78] 66 (0, 0)) ∧ True) (Value.tuple #[Value.pointer (some ⟨b1, 0, none⟩), vi 0])))))))) ∧
 (¬ (x39 = 0) →
  Rt R W0 M H0 nK (Value.tuple #[Value.pointer none, vi x39])))))) :
  Calls Tryz.prog 25 #[Value.agg #[vi x0, vi x1, vi x2, vi x3, vi x4, vi x5, vsl x6 x7 x8, vsl x9 x10 x11, vi x12, vi x13, vi x14, vi x15, vi x16, vi x17, vsl x18 x19 x20, vi x21, vi x22, vi x23, vi x24, vi x25, vi x26, vsl x27 x28 x29, vi x30, vi x31, vi x32, vi x33, vi x34, vi x35, vsl x36 x37 x38]] W0 R :=
  calls_sxA (M := M) (V := v_enter) (hi := {loops := [(6, .unroll 4)]}) (args := [.agg [vI 0, vI 1, vI 2, vI 3, vI 4, vI 5, vS 6, vS 9, vI 12, vI 13, vI 14, vI 15, vI 16, vI 17, vS 18, vI 21, vI 22, vI 23, vI 24, vI 25, vI 26, vS 27, vI 30, vI 31, vI 32, vI 33, vI 34, vI 35, vS 36]]) (nv := 39) (e := (upd (upd (upd (upd (upd (upd (upd (upd (upd (upd (upd (upd (upd (upd (upd (upd (upd (upd (upd (upd (upd (upd (upd (upd (upd (upd (upd (upd (upd (upd (upd (upd (upd (upd (upd (upd (upd (upd (upd (fun _ => .i 0) 0 (.i x0)) 1 (.i x1)) 2 (.i x2)) 3 (.i x3)) 4 (.i x4)) 5 (.i x5)) 6 (.p x6)) 7 (.n x7)) 8 (.n x8)) 9 (.p x9)) 10 (.n x10)) 11 (.n x11)) 12 (.i x12)) 13 (.i x13)) 14 (.i x14)) 15 (.i x15)) 16 (.i x16)) 17 (.i x17)) 18 (.p x18)) 19 (.n x19)) 20 (.n x20)) 21 (.i x21)) 22 (.i x22)) 23 (.i x23)) 24 (.i x24)) 25 (.i x25)) 26 (.i x26)) 27 (.p x27)) 28 (.n x28)) 29 (.n x29)) 30 (.i x30)) 31 (.i x31)) 32 (.i x32)) 33 (.i x33)) 34 (.i x34)) 35 (.i x35)) 36 (.p x36)) 37 (.n x37)) 38 (.n x38))) Tryz.func25 hH h (by kernel_rfl) (by kernel_rfl) (by kernel_rfl)
def v_leave : VC :=
(.all 0
(.ite (.eq (.v 1) (.k 0))
(.chk (.isp 0)
(.ld 0 (.k 0) [vI 2, vI 3, vI 4, vI 5, vI 6, vI 7, vS 8, vS 11, vI 14, vI 15, vI 16, vI 17, vI 18, vI 19, vS 20, vI 23, vI 24, vI 25, vI 26, vI 27, vI 28, vS 29, vI 32, vI 33, vI 34, vI 35, vI 36, vI 37, vS 38] [(2, .i), (3, .i), (4, .i), (5, .i), (6, .i), (7, .i), (8, .p), (9, .n), (10, .n), (11, .p), (12, .n), (13, .n), (14, .i), (15, .i), (16, .i), (17, .i), (18, .i), (19, .i), (20, .p), (21, .n), (22, .n), (23, .i), (24, .i), (25, .i), (26, .i), (27, .i), (28, .i), (29, .p), (30, .n), (31, .n), (32, .i), (33, .i), (34, .i), (35, .i), (36, .i), (37, .i), (38, .p), (39, .n), (40, .n)]
(.ret (.tup [.agg [vI 2, vI 3, vI 4, vI 5, vI 6, vI 7, vS 8, vS 11, vI 14, vI 15, vI 16, vI 17, vI 18, vI 19, vS 20, vI 23, vI 24, vI 25, vI 26, vI 27, vI 28, vS 29, vI 32, vI 33, vI 34, vI 35, vI 36, vI 37, vS 38], .int .i64 (.k 0)]) [])))
(.ret (.tup [.agg [.int .i64 (.k 0), .int .i64 (.k 0), .int .i64 (.k 0), .int .i64 (.k 0), .int .i64 (.k 0), .int .i64 (.k 0), .c (Value.slice none 0 0), .c (Value.slice none 0 0), .int .i64 (.k 0), .int .i64 (.k 0), .int .i64 (.k 0), .int .i64 (.k 0), .int .i64 (.k 0), .int .i64 (.k 0), .c (Value.slice none 0 0), .int .i64 (.k 0), .int .i64 (.k 0), .int .i64 (.k 0), .int .i64 (.k 0), .int .i64 (.k 0), .int .i64 (.k 0), .c (Value.slice none 0 0), .int .i64 (.k 0), .int .i64 (.k 0), .int .i64 (.k 0), .int .i64 (.k 0), .int .i64 (.k 0), .int .i64 (.k 0), .c (Value.slice none 0 0)], vI 1]) [])))
theorem x_leave (x0 : Option Loc) (x1 : Int) (M : Nat → Prop) (H0 : Hp) (W0 : World) (R : Ending → World → Prop) (hH : H0.le (hpOf W0)) (h :
 (∀ b0 : Nat,
 ((x1 = 0 →
  (x0.isSome = true ∧ (x0.isSome = true →
  (∃ (x2 x3 x4 x5 x6 x7 : Int) (x8 : Option Loc) (x9 x10 : Nat) (x11 : Option Loc) (x12 x13 : Nat) (x14 x15 x16 x17 x18 x19 : Int) (x20 : Option Loc) (x21 x22 : Nat) (x23 x24 x25 x26 x27 x28 : Int) (x29 : Option Loc) (x30 x31 : Nat) (x32 x33 x34 x35 x36 x37 : Int) (x38 : Option Loc) (x39 x40 : Nat), RowAt H0 x0 0 [vi x2, vi x3, vi x4, vi x5, vi x6, vi x7, vsl x8 x9 x10, vsl x11 x12 x13, vi x14, vi x15, vi x16, vi x17, vi x18, vi x19, vsl x20 x21 x22, vi x23, vi x24, vi x25, vi x26, vi x27, vi x28, vsl x29 x30 x31, vi x32, vi x33, vi x34, vi x35, vi x36, vi x37, vsl x38 x39 x40] ∧
  Rt R W0 M H0 nK (Value.tuple #[Value.agg #[vi x2, vi x3, vi x4, vi x5, vi x6, vi x7, vsl x8 x9 x10, vsl x11 x12 x13, vi x14, vi x15, vi x16, vi x17, vi x18, vi x19, vsl x20 x21 x22, vi x23, vi x24, vi x25, vi x26, vi x27, vi x28, vsl x29 x30 x31, vi x32, vi x33, vi x34, vi x35, vi x36, vi x37, vsl x38 x39 x40], vi 0]))))) ∧
 (¬ (x1 = 0) →
  Rt R W0 M H0 nK (Value.tuple #[Value.agg #[vi 0, vi 0, vi 0, vi 0, vi 0, vi 0, Value.slice none 0 0, Value.slice none 0 0, vi 0, vi 0, vi 0, vi 0, vi 0, vi 0, Value.slice none 0 0, vi 0, vi 0, vi 0, vi 0, vi 0, vi 0, Value.slice none 0 0, vi 0, vi 0, vi 0, vi 0, vi 0, vi 0, Value.slice none 0 0], vi x1]))))) :
  Calls Tryz.prog 27 #[Value.pointer (ptrAt x0 0), vi x1] W0 R :=
  calls_sxA (M := M) (V := v_leave) (hi := {}) (args := [.ptrO 0 (.k 0), vI 1]) (nv := 2) (e := (upd (upd (fun _ => .i 0) 0 (.p x0)) 1 (.i x1))) Tryz.func27 hH h (by kernel_rfl) (by kernel_rfl) (by kernel_rfl)
def v_groupPut : VC :=
(.all 0
(.all 1
(.all 2
(.call 25 [.agg [vI 0, vI 1, vI 2, vI 3, vI 4, vI 5, vS 6, vS 9, vI 12, vI 13, vI 14, vI 15, vI 16, vI 17, vS 18, vI 21, vI 22, vI 23, vI 24, vI 25, vI 26, vS 27, vI 30, vI 31, vI 32, vI 33, vI 34, vI 35, vS 36]] [] [(48, .p), (49, .i)] (.tup [.ptrO 48 (.k 0), vI 49]) .fresh
(.ite (.eq (.v 49) (.k 0))
(.chk (.isp 48)
(.ld 48 (.k 0) [vI 50, vI 51, vI 52, vI 53, vI 54, vI 55, vS 56, vS 59] [(50, .i), (51, .i), (52, .i), (53, .i), (54, .i), (55, .i), (56, .p), (57, .n), (58, .n), (59, .p), (60, .n), (61, .n)]
(.call 26 [.agg [vI 50, vI 51, vI 52, vI 53, vI 54, vI 55, vS 56, vS 59], .agg [vI 39, vI 40, vI 41, vI 42, vI 43, vI 44, vI 45, vI 46, vI 47]] [] [(62, .i), (63, .i), (64, .i), (65, .i), (66, .i), (67, .i), (68, .p), (69, .n), (70, .n), (71, .p), (72, .n), (73, .n), (74, .i), (75, .i)] (.tup [.agg [vI 62, vI 63, vI 64, vI 65, vI 66, vI 67, vS 68, vS 71], vI 74, vI 75]) .fresh
(.esc (.storeO 28) [.ptrO 48 (.k 0), .agg [vI 62, vI 63, vI 64, vI 65, vI 66, vI 67, vS 68, vS 71]] [] [] none .turn
(.call 27 [.ptrO 48 (.k 0), vI 75] [] [(76, .i), (77, .i), (78, .i), (79, .i), (80, .i), (81, .i), (82, .p), (83, .n), (84, .n), (85, .p), (86, .n), (87, .n), (88, .i), (89, .i), (90, .i), (91, .i), (92, .i), (93, .i), (94, .p), (95, .n), (96, .n), (97, .i), (98, .i), (99, .i), (100, .i), (101, .i), (102, .i), (103, .p), (104, .n), (105, .n), (106, .i), (107, .i), (108, .i), (109, .i), (110, .i), (111, .i), (112, .p), (113, .n), (114, .n), (115, .i)] (.tup [.agg [vI 76, vI 77, vI 78, vI 79, vI 80, vI 81, vS 82, vS 85, vI 88, vI 89, vI 90, vI 91, vI 92, vI 93, vS 94, vI 97, vI 98, vI 99, vI 100, vI 101, vI 102, vS 103, vI 106, vI 107, vI 108, vI 109, vI 110, vI 111, vS 112], vI 115]) .fresh
(.all 3
(.ret (.tup [.agg [vI 76, vI 77, vI 78, vI 79, vI 80, vI 81, vS 82, vS 85, vI 88, vI 89, vI 90, vI 91, vI 92, vI 93, vS 94, vI 97, vI 98, vI 99, vI 100, vI 101, vI 102, vS 103, vI 106, vI 107, vI 108, vI 109, vI 110, vI 111, vS 112], vI 74, vI 115]) [])))))))
(.ret (.tup [.agg [.int .i64 (.k 0), .int .i64 (.k 0), .int .i64 (.k 0), .int .i64 (.k 0), .int .i64 (.k 0), .int .i64 (.k 0), .c (Value.slice none 0 0), .c (Value.slice none 0 0), .int .i64 (.k 0), .int .i64 (.k 0), .int .i64 (.k 0), .int .i64 (.k 0), .int .i64 (.k 0), .int .i64 (.k 0), .c (Value.slice none 0 0), .int .i64 (.k 0), .int .i64 (.k 0), .int .i64 (.k 0), .int .i64 (.k 0), .int .i64 (.k 0), .int .i64 (.k 0), .c (Value.slice none 0 0), .int .i64 (.k 0), .int .i64 (.k 0), .int .i64 (.k 0), .int .i64 (.k 0), .int .i64 (.k 0), .int .i64 (.k 0), .c (Value.slice none 0 0)], .int .i64 (.k 0), vI 49]) []))))))
theorem x_groupPut (x0 x1 x2 x3 x4 x5 : Int) (x6 : Option Loc) (x7 x8 : Nat) (x9 : Option Loc) (x10 x11 : Nat) (x12 x13 x14 x15 x16 x17 : Int) (x18 : Option Loc) (x19 x20 : Nat) (x21 x22 x23 x24 x25 x26 : Int) (x27 : Option Loc) (x28 x29 : Nat) (x30 x31 x32 x33 x34 x35 : Int) (x36 : Option Loc) (x37 x38 : Nat) (x39 x40 x41 x42 x43 x44 x45 x46 x47 : Int) (M : Nat → Prop) (H0 : Hp) (W0 : World) (R : Ending → World → Prop) (hH : H0.le (hpOf W0)) (h :
 (∀ b0 : Nat,
 (∀ b1 : Nat,
 (∀ b2 : Nat,
 (Cl Tryz.prog W0 M H0 nK 25 #[Value.agg #[vi x0, vi x1, vi x2, vi x3, vi x4, vi x5, vsl x6 x7 x8, vsl x9 x10 x11, vi x12, vi x13, vi x14, vi x15, vi x16, vi x17, vsl x18 x19 x20, vi x21, vi x22, vi x23, vi x24, vi x25, vi x26, vsl x27 x28 x29, vi x30, vi x31, vi x32, vi x33, vi x34, vi x35, vsl x36 x37 x38]] fun z W1 W2 => ∃ (x48 : Option Loc) (x49 : Int), z = .returned (Value.tuple #[Value.pointer (ptrAt x48 0), vi x49]) ∧ Fr W1 W2 H0 fun H1 =>
 ((x49 = 0 →
  (x48.isSome = true ∧ (x48.isSome = true →
  (∃ (x50 x51 x52 x53 x54 x55 : Int) (x56 : Option Loc) (x57 x58 : Nat) (x59 : Option Loc) (x60 x61 : Nat), RowAt H1 x48 0 [vi x50, vi x51, vi x52, vi x53, vi x54, vi x55, vsl x56 x57 x58, vsl x59 x60 x61] ∧
  (Cl Tryz.prog W0 M H1 nK 26 #[Value.agg #[vi x50, vi x51, vi x52, vi x53, vi x54, vi x55, vsl x56 x57 x58, vsl x59 x60 x61], Value.agg #[vi x39, vi x40, vi x41, vi x42, vi x43, vi x44, vi x45, vi x46, vi x47]] fun z W3 W4 => ∃ (x62 x63 x64 x65 x66 x67 : Int) (x68 : Option Loc) (x69 x70 : Nat) (x71 : Option Loc) (x72 x73 : Nat) (x74 x75 : Int), z = .returned (Value.tuple #[Value.agg #[vi x62, vi x63, vi x64, vi x65, vi x66, vi x67, vsl x68 x69 x70, vsl x71 x72 x73], vi x74, vi x75]) ∧ Fr W3 W4 H1 fun H2 =>
  (Es W0 M H2 nK fun W5 => Eo Tryz.prog (.storeO 28) [Value.pointer (ptrAt x48 0), Value.agg #[vi x62, vi x63, vi x64, vi x65, vi x66, vi x67, vsl x68 x69 x70, vsl x71 x72 x73]] W5 (.skip) fun W6 => Tn W0 M H2 W5 W6 fun H3 =>
  (Cl Tryz.prog W0 M H3 nK 27 #[Value.pointer (ptrAt x48 0), vi x75] fun z W7 W8 => ∃ (x76 x77 x78 x79 x80 x81 : Int) (x82 : Option Loc) (x83 x84 : Nat) (x85 : Option Loc) (x86 x87 : Nat) (x88 x89 x90 x91 x92 x93 : Int) (x94 : Option Loc) (x95 x96 : Nat) (x97 x98 x99 x100 x101 x102 : Int) (x103 : Option Loc) (x104 x105 : Nat) (x106 x107 x108 x109 x110 x111 : Int) (x112 : Option Loc) (x113 x114 : Nat) (x115 : Int), z = .returned (Value.tuple #[Value.agg #[vi x76, vi x77, vi x78, vi x79, vi x80, vi x81, vsl x82 x83 x84, vsl x85 x86 x87, vi x88, vi x89, vi x90, vi x91, vi x92, vi x93, vsl x94 x95 x96, vi x97, vi x98, vi x99, vi x100, vi x101, vi x102, vsl x103 x104 x105, vi x106, vi x107, vi x108, vi x109, vi x110, vi x111, vsl x112 x113 x114], vi x115]) ∧ Fr W7 W8 H3 fun H4 =>
  (∀ b3 : Nat,
  Rt R W0 M H4 nK (Value.tuple #[Value.agg #[vi x76, vi x77, vi x78, vi x79, vi x80, vi x81, vsl x82 x83 x84, vsl x85 x86 x87, vi x88, vi x89, vi x90, vi x91, vi x92, vi x93, vsl x94 x95 x96, vi x97, vi x98, vi x99, vi x100, vi x101, vi x102, vsl x103 x104 x105, vi x106, vi x107, vi x108, vi x109, vi x110, vi x111, vsl x112 x113 x114], vi x74, vi x115]))))))))) ∧
 (¬ (x49 = 0) →
  Rt R W0 M H1 nK (Value.tuple #[Value.agg #[vi 0, vi 0, vi 0, vi 0, vi 0, vi 0, Value.slice none 0 0, Value.slice none 0 0, vi 0, vi 0, vi 0, vi 0, vi 0, vi 0, Value.slice none 0 0, vi 0, vi 0, vi 0, vi 0, vi 0, vi 0, Value.slice none 0 0, vi 0, vi 0, vi 0, vi 0, vi 0, vi 0, Value.slice none 0 0], vi 0, vi x49])))))))) :
  Calls Tryz.prog 8 #[Value.agg #[vi x0, vi x1, vi x2, vi x3, vi x4, vi x5, vsl x6 x7 x8, vsl x9 x10 x11, vi x12, vi x13, vi x14, vi x15, vi x16, vi x17, vsl x18 x19 x20, vi x21, vi x22, vi x23, vi x24, vi x25, vi x26, vsl x27 x28 x29, vi x30, vi x31, vi x32, vi x33, vi x34, vi x35, vsl x36 x37 x38], Value.agg #[vi x39, vi x40, vi x41, vi x42, vi x43, vi x44, vi x45, vi x46, vi x47]] W0 R :=
  calls_sxA (M := M) (V := v_groupPut) (hi := {}) (args := [.agg [vI 0, vI 1, vI 2, vI 3, vI 4, vI 5, vS 6, vS 9, vI 12, vI 13, vI 14, vI 15, vI 16, vI 17, vS 18, vI 21, vI 22, vI 23, vI 24, vI 25, vI 26, vS 27, vI 30, vI 31, vI 32, vI 33, vI 34, vI 35, vS 36], .agg [vI 39, vI 40, vI 41, vI 42, vI 43, vI 44, vI 45, vI 46, vI 47]]) (nv := 48) (e := (upd (upd (upd (upd (upd (upd (upd (upd (upd (upd (upd (upd (upd (upd (upd (upd (upd (upd (upd (upd (upd (upd (upd (upd (upd (upd (upd (upd (upd (upd (upd (upd (upd (upd (upd (upd (upd (upd (upd (upd (upd (upd (upd (upd (upd (upd (upd (upd (fun _ => .i 0) 0 (.i x0)) 1 (.i x1)) 2 (.i x2)) 3 (.i x3)) 4 (.i x4)) 5 (.i x5)) 6 (.p x6)) 7 (.n x7)) 8 (.n x8)) 9 (.p x9)) 10 (.n x10)) 11 (.n x11)) 12 (.i x12)) 13 (.i x13)) 14 (.i x14)) 15 (.i x15)) 16 (.i x16)) 17 (.i x17)) 18 (.p x18)) 19 (.n x19)) 20 (.n x20)) 21 (.i x21)) 22 (.i x22)) 23 (.i x23)) 24 (.i x24)) 25 (.i x25)) 26 (.i x26)) 27 (.p x27)) 28 (.n x28)) 29 (.n x29)) 30 (.i x30)) 31 (.i x31)) 32 (.i x32)) 33 (.i x33)) 34 (.i x34)) 35 (.i x35)) 36 (.p x36)) 37 (.n x37)) 38 (.n x38)) 39 (.i x39)) 40 (.i x40)) 41 (.i x41)) 42 (.i x42)) 43 (.i x43)) 44 (.i x44)) 45 (.i x45)) 46 (.i x46)) 47 (.i x47))) Tryz.func8 hH h (by kernel_rfl) (by kernel_rfl) (by kernel_rfl)
def v_groupCut : VC :=
(.all 0
(.all 1
(.call 25 [.agg [vI 0, vI 1, vI 2, vI 3, vI 4, vI 5, vS 6, vS 9, vI 12, vI 13, vI 14, vI 15, vI 16, vI 17, vS 18, vI 21, vI 22, vI 23, vI 24, vI 25, vI 26, vS 27, vI 30, vI 31, vI 32, vI 33, vI 34, vI 35, vS 36]] [] [(40, .p), (41, .i)] (.tup [.ptrO 40 (.k 0), vI 41]) .fresh
(.ite (.eq (.v 41) (.k 0))
(.chk (.isp 40)
(.ld 40 (.k 0) [vI 42, vI 43, vI 44, vI 45, vI 46, vI 47, vS 48, vS 51] [(42, .i), (43, .i), (44, .i), (45, .i), (46, .i), (47, .i), (48, .p), (49, .n), (50, .n), (51, .p), (52, .n), (53, .n)]
(.call 29 [.agg [vI 42, vI 43, vI 44, vI 45, vI 46, vI 47, vS 48, vS 51], vI 39] [] [(54, .i), (55, .i), (56, .i), (57, .i), (58, .i), (59, .i), (60, .p), (61, .n), (62, .n), (63, .p), (64, .n), (65, .n), (66, .i)] (.tup [.agg [vI 54, vI 55, vI 56, vI 57, vI 58, vI 59, vS 60, vS 63], vI 66]) .fresh
(.esc (.storeO 28) [.ptrO 40 (.k 0), .agg [vI 54, vI 55, vI 56, vI 57, vI 58, vI 59, vS 60, vS 63]] [] [] none .turn
(.call 27 [.ptrO 40 (.k 0), vI 66] [] [(67, .i), (68, .i), (69, .i), (70, .i), (71, .i), (72, .i), (73, .p), (74, .n), (75, .n), (76, .p), (77, .n), (78, .n), (79, .i), (80, .i), (81, .i), (82, .i), (83, .i), (84, .i), (85, .p), (86, .n), (87, .n), (88, .i), (89, .i), (90, .i), (91, .i), (92, .i), (93, .i), (94, .p), (95, .n), (96, .n), (97, .i), (98, .i), (99, .i), (100, .i), (101, .i), (102, .i), (103, .p), (104, .n), (105, .n), (106, .i)] (.tup [.agg [vI 67, vI 68, vI 69, vI 70, vI 71, vI 72, vS 73, vS 76, vI 79, vI 80, vI 81, vI 82, vI 83, vI 84, vS 85, vI 88, vI 89, vI 90, vI 91, vI 92, vI 93, vS 94, vI 97, vI 98, vI 99, vI 100, vI 101, vI 102, vS 103], vI 106]) .fresh
(.ret (.tup [.agg [vI 67, vI 68, vI 69, vI 70, vI 71, vI 72, vS 73, vS 76, vI 79, vI 80, vI 81, vI 82, vI 83, vI 84, vS 85, vI 88, vI 89, vI 90, vI 91, vI 92, vI 93, vS 94, vI 97, vI 98, vI 99, vI 100, vI 101, vI 102, vS 103], vI 106]) []))))))
(.ret (.tup [.agg [.int .i64 (.k 0), .int .i64 (.k 0), .int .i64 (.k 0), .int .i64 (.k 0), .int .i64 (.k 0), .int .i64 (.k 0), .c (Value.slice none 0 0), .c (Value.slice none 0 0), .int .i64 (.k 0), .int .i64 (.k 0), .int .i64 (.k 0), .int .i64 (.k 0), .int .i64 (.k 0), .int .i64 (.k 0), .c (Value.slice none 0 0), .int .i64 (.k 0), .int .i64 (.k 0), .int .i64 (.k 0), .int .i64 (.k 0), .int .i64 (.k 0), .int .i64 (.k 0), .c (Value.slice none 0 0), .int .i64 (.k 0), .int .i64 (.k 0), .int .i64 (.k 0), .int .i64 (.k 0), .int .i64 (.k 0), .int .i64 (.k 0), .c (Value.slice none 0 0)], vI 41]) [])))))
theorem x_groupCut (x0 x1 x2 x3 x4 x5 : Int) (x6 : Option Loc) (x7 x8 : Nat) (x9 : Option Loc) (x10 x11 : Nat) (x12 x13 x14 x15 x16 x17 : Int) (x18 : Option Loc) (x19 x20 : Nat) (x21 x22 x23 x24 x25 x26 : Int) (x27 : Option Loc) (x28 x29 : Nat) (x30 x31 x32 x33 x34 x35 : Int) (x36 : Option Loc) (x37 x38 : Nat) (x39 : Int) (M : Nat → Prop) (H0 : Hp) (W0 : World) (R : Ending → World → Prop) (hH : H0.le (hpOf W0)) (h :
 (∀ b0 : Nat,
 (∀ b1 : Nat,
 (Cl Tryz.prog W0 M H0 nK 25 #[Value.agg #[vi x0, vi x1, vi x2, vi x3, vi x4, vi x5, vsl x6 x7 x8, vsl x9 x10 x11, vi x12, vi x13, vi x14, vi x15, vi x16, vi x17, vsl x18 x19 x20, vi x21, vi x22, vi x23, vi x24, vi x25, vi x26, vsl x27 x28 x29, vi x30, vi x31, vi x32, vi x33, vi x34, vi x35, vsl x36 x37 x38]] fun z W1 W2 => ∃ (x40 : Option Loc) (x41 : Int), z = .returned (Value.tuple #[Value.pointer (ptrAt x40 0), vi x41]) ∧ Fr W1 W2 H0 fun H1 =>
 ((x41 = 0 →
  (x40.isSome = true ∧ (x40.isSome = true →
  (∃ (x42 x43 x44 x45 x46 x47 : Int) (x48 : Option Loc) (x49 x50 : Nat) (x51 : Option Loc) (x52 x53 : Nat), RowAt H1 x40 0 [vi x42, vi x43, vi x44, vi x45, vi x46, vi x47, vsl x48 x49 x50, vsl x51 x52 x53] ∧
  (Cl Tryz.prog W0 M H1 nK 29 #[Value.agg #[vi x42, vi x43, vi x44, vi x45, vi x46, vi x47, vsl x48 x49 x50, vsl x51 x52 x53], vi x39] fun z W3 W4 => ∃ (x54 x55 x56 x57 x58 x59 : Int) (x60 : Option Loc) (x61 x62 : Nat) (x63 : Option Loc) (x64 x65 : Nat) (x66 : Int), z = .returned (Value.tuple #[Value.agg #[vi x54, vi x55, vi x56, vi x57, vi x58, vi x59, vsl x60 x61 x62, vsl x63 x64 x65], vi x66]) ∧ Fr W3 W4 H1 fun H2 =>
  (Es W0 M H2 nK fun W5 => Eo Tryz.prog (.storeO 28) [Value.pointer (ptrAt x40 0), Value.agg #[vi x54, vi x55, vi x56, vi x57, vi x58, vi x59, vsl x60 x61 x62, vsl x63 x64 x65]] W5 (.skip) fun W6 => Tn W0 M H2 W5 W6 fun H3 =>
  (Cl Tryz.prog W0 M H3 nK 27 #[Value.pointer (ptrAt x40 0), vi x66] fun z W7 W8 => ∃ (x67 x68 x69 x70 x71 x72 : Int) (x73 : Option Loc) (x74 x75 : Nat) (x76 : Option Loc) (x77 x78 : Nat) (x79 x80 x81 x82 x83 x84 : Int) (x85 : Option Loc) (x86 x87 : Nat) (x88 x89 x90 x91 x92 x93 : Int) (x94 : Option Loc) (x95 x96 : Nat) (x97 x98 x99 x100 x101 x102 : Int) (x103 : Option Loc) (x104 x105 : Nat) (x106 : Int), z = .returned (Value.tuple #[Value.agg #[vi x67, vi x68, vi x69, vi x70, vi x71, vi x72, vsl x73 x74 x75, vsl x76 x77 x78, vi x79, vi x80, vi x81, vi x82, vi x83, vi x84, vsl x85 x86 x87, vi x88, vi x89, vi x90, vi x91, vi x92, vi x93, vsl x94 x95 x96, vi x97, vi x98, vi x99, vi x100, vi x101, vi x102, vsl x103 x104 x105], vi x106]) ∧ Fr W7 W8 H3 fun H4 =>
  Rt R W0 M H4 nK (Value.tuple #[Value.agg #[vi x67, vi x68, vi x69, vi x70, vi x71, vi x72, vsl x73 x74 x75, vsl x76 x77 x78, vi x79, vi x80, vi x81, vi x82, vi x83, vi x84, vsl x85 x86 x87, vi x88, vi x89, vi x90, vi x91, vi x92, vi x93, vsl x94 x95 x96, vi x97, vi x98, vi x99, vi x100, vi x101, vi x102, vsl x103 x104 x105], vi x106])))))))) ∧
 (¬ (x41 = 0) →
  Rt R W0 M H1 nK (Value.tuple #[Value.agg #[vi 0, vi 0, vi 0, vi 0, vi 0, vi 0, Value.slice none 0 0, Value.slice none 0 0, vi 0, vi 0, vi 0, vi 0, vi 0, vi 0, Value.slice none 0 0, vi 0, vi 0, vi 0, vi 0, vi 0, vi 0, Value.slice none 0 0, vi 0, vi 0, vi 0, vi 0, vi 0, vi 0, Value.slice none 0 0], vi x41]))))))) :
  Calls Tryz.prog 10 #[Value.agg #[vi x0, vi x1, vi x2, vi x3, vi x4, vi x5, vsl x6 x7 x8, vsl x9 x10 x11, vi x12, vi x13, vi x14, vi x15, vi x16, vi x17, vsl x18 x19 x20, vi x21, vi x22, vi x23, vi x24, vi x25, vi x26, vsl x27 x28 x29, vi x30, vi x31, vi x32, vi x33, vi x34, vi x35, vsl x36 x37 x38], vi x39] W0 R :=
  calls_sxA (M := M) (V := v_groupCut) (hi := {}) (args := [.agg [vI 0, vI 1, vI 2, vI 3, vI 4, vI 5, vS 6, vS 9, vI 12, vI 13, vI 14, vI 15, vI 16, vI 17, vS 18, vI 21, vI 22, vI 23, vI 24, vI 25, vI 26, vS 27, vI 30, vI 31, vI 32, vI 33, vI 34, vI 35, vS 36], vI 39]) (nv := 40) (e := (upd (upd (upd (upd (upd (upd (upd (upd (upd (upd (upd (upd (upd (upd (upd (upd (upd (upd (upd (upd (upd (upd (upd (upd (upd (upd (upd (upd (upd (upd (upd (upd (upd (upd (upd (upd (upd (upd (upd (upd (fun _ => .i 0) 0 (.i x0)) 1 (.i x1)) 2 (.i x2)) 3 (.i x3)) 4 (.i x4)) 5 (.i x5)) 6 (.p x6)) 7 (.n x7)) 8 (.n x8)) 9 (.p x9)) 10 (.n x10)) 11 (.n x11)) 12 (.i x12)) 13 (.i x13)) 14 (.i x14)) 15 (.i x15)) 16 (.i x16)) 17 (.i x17)) 18 (.p x18)) 19 (.n x19)) 20 (.n x20)) 21 (.i x21)) 22 (.i x22)) 23 (.i x23)) 24 (.i x24)) 25 (.i x25)) 26 (.i x26)) 27 (.p x27)) 28 (.n x28)) 29 (.n x29)) 30 (.i x30)) 31 (.i x31)) 32 (.i x32)) 33 (.i x33)) 34 (.i x34)) 35 (.i x35)) 36 (.p x36)) 37 (.n x37)) 38 (.n x38)) 39 (.i x39))) Tryz.func10 hH h (by kernel_rfl) (by kernel_rfl) (by kernel_rfl)
def v_groupRun : VC :=
(.all 0
(.all 1
(.call 25 [.agg [vI 0, vI 1, vI 2, vI 3, vI 4, vI 5, vS 6, vS 9, vI 12, vI 13, vI 14, vI 15, vI 16, vI 17, vS 18, vI 21, vI 22, vI 23, vI 24, vI 25, vI 26, vS 27, vI 30, vI 31, vI 32, vI 33, vI 34, vI 35, vS 36]] [] [(41, .p), (42, .i)] (.tup [.ptrO 41 (.k 0), vI 42]) .fresh
(.ite (.eq (.v 42) (.k 0))
(.ite (.lt (.v 39) (.k 0))
(.ret (.tup [.agg [.int .i64 (.k 0), .int .i64 (.k 0), .int .i64 (.k 0), .int .i64 (.k 0), .int .i64 (.k 0), .int .i64 (.k 0), .c (Value.slice none 0 0), .c (Value.slice none 0 0), .int .i64 (.k 0), .int .i64 (.k 0), .int .i64 (.k 0), .int .i64 (.k 0), .int .i64 (.k 0), .int .i64 (.k 0), .c (Value.slice none 0 0), .int .i64 (.k 0), .int .i64 (.k 0), .int .i64 (.k 0), .int .i64 (.k 0), .int .i64 (.k 0), .int .i64 (.k 0), .c (Value.slice none 0 0), .int .i64 (.k 0), .int .i64 (.k 0), .int .i64 (.k 0), .int .i64 (.k 0), .int .i64 (.k 0), .int .i64 (.k 0), .c (Value.slice none 0 0)], .int .i64 (.k 0), .int .i64 (.k 3)]) [])
(.ite (.le (.k 3) (.v 39))
(.ret (.tup [.agg [.int .i64 (.k 0), .int .i64 (.k 0), .int .i64 (.k 0), .int .i64 (.k 0), .int .i64 (.k 0), .int .i64 (.k 0), .c (Value.slice none 0 0), .c (Value.slice none 0 0), .int .i64 (.k 0), .int .i64 (.k 0), .int .i64 (.k 0), .int .i64 (.k 0), .int .i64 (.k 0), .int .i64 (.k 0), .c (Value.slice none 0 0), .int .i64 (.k 0), .int .i64 (.k 0), .int .i64 (.k 0), .int .i64 (.k 0), .int .i64 (.k 0), .int .i64 (.k 0), .c (Value.slice none 0 0), .int .i64 (.k 0), .int .i64 (.k 0), .int .i64 (.k 0), .int .i64 (.k 0), .int .i64 (.k 0), .int .i64 (.k 0), .c (Value.slice none 0 0)], .int .i64 (.k 0), .int .i64 (.k 3)]) [])
(.chk (.isp 41)
(.ld 41 (.k 0) [vI 43, vI 44, vI 45, vI 46, vI 47, vI 48, vS 49, vS 52] [(43, .i), (44, .i), (45, .i), (46, .i), (47, .i), (48, .i), (49, .p), (50, .n), (51, .n), (52, .p), (53, .n), (54, .n)]
(.chk (.idx (.v 39) (.k 3))
(.chk (.le (.k 0) (.add (.k 0) (.k 8)))
(.ld 41 (.add (.add (.k 0) (.k 8)) (.mul (.v 39) (.k 7))) [vI 55, vI 56, vI 57, vI 58, vI 59, vI 60, vS 61] [(55, .i), (56, .i), (57, .i), (58, .i), (59, .i), (60, .i), (61, .p), (62, .n), (63, .n)]
(.call 28 [.agg [vI 43, vI 44, vI 45, vI 46, vI 47, vI 48, vS 49, vS 52], .agg [vI 55, vI 56, vI 57, vI 58, vI 59, vI 60, vS 61], vI 40] [] [(64, .i), (65, .i), (66, .i), (67, .i), (68, .i), (69, .i), (70, .p), (71, .n), (72, .n), (73, .i), (74, .i)] (.tup [.agg [vI 64, vI 65, vI 66, vI 67, vI 68, vI 69, vS 70], vI 73, vI 74]) .fresh
(.esc (.storeO 25) [.ptrO 41 (.add (.add (.k 0) (.k 8)) (.mul (.v 39) (.k 7))), .agg [vI 64, vI 65, vI 66, vI 67, vI 68, vI 69, vS 70]] [] [] none .turn
(.call 27 [.ptrO 41 (.k 0), vI 74] [] [(75, .i), (76, .i), (77, .i), (78, .i), (79, .i), (80, .i), (81, .p), (82, .n), (83, .n), (84, .p), (85, .n), (86, .n), (87, .i), (88, .i), (89, .i), (90, .i), (91, .i), (92, .i), (93, .p), (94, .n), (95, .n), (96, .i), (97, .i), (98, .i), (99, .i), (100, .i), (101, .i), (102, .p), (103, .n), (104, .n), (105, .i), (106, .i), (107, .i), (108, .i), (109, .i), (110, .i), (111, .p), (112, .n), (113, .n), (114, .i)] (.tup [.agg [vI 75, vI 76, vI 77, vI 78, vI 79, vI 80, vS 81, vS 84, vI 87, vI 88, vI 89, vI 90, vI 91, vI 92, vS 93, vI 96, vI 97, vI 98, vI 99, vI 100, vI 101, vS 102, vI 105, vI 106, vI 107, vI 108, vI 109, vI 110, vS 111], vI 114]) .fresh
(.all 2
(.ret (.tup [.agg [vI 75, vI 76, vI 77, vI 78, vI 79, vI 80, vS 81, vS 84, vI 87, vI 88, vI 89, vI 90, vI 91, vI 92, vS 93, vI 96, vI 97, vI 98, vI 99, vI 100, vI 101, vS 102, vI 105, vI 106, vI 107, vI 108, vI 109, vI 110, vS 111], vI 73, vI 114]) []))))))))))))
(.ret (.tup [.agg [.int .i64 (.k 0), .int .i64 (.k 0), .int .i64 (.k 0), .int .i64 (.k 0), .int .i64 (.k 0), .int .i64 (.k 0), .c (Value.slice none 0 0), .c (Value.slice none 0 0), .int .i64 (.k 0), .int .i64 (.k 0), .int .i64 (.k 0), .int .i64 (.k 0), .int .i64 (.k 0), .int .i64 (.k 0), .c (Value.slice none 0 0), .int .i64 (.k 0), .int .i64 (.k 0), .int .i64 (.k 0), .int .i64 (.k 0), .int .i64 (.k 0), .int .i64 (.k 0), .c (Value.slice none 0 0), .int .i64 (.k 0), .int .i64 (.k 0), .int .i64 (.k 0), .int .i64 (.k 0), .int .i64 (.k 0), .int .i64 (.k 0), .c (Value.slice none 0 0)], .int .i64 (.k 0), vI 42]) [])))))
theorem x_groupRun (x0 x1 x2 x3 x4 x5 : Int) (x6 : Option Loc) (x7 x8 : Nat) (x9 : Option Loc) (x10 x11 : Nat) (x12 x13 x14 x15 x16 x17 : Int) (x18 : Option Loc) (x19 x20 : Nat) (x21 x22 x23 x24 x25 x26 : Int) (x27 : Option Loc) (x28 x29 : Nat) (x30 x31 x32 x33 x34 x35 : Int) (x36 : Option Loc) (x37 x38 : Nat) (x39 x40 : Int) (M : Nat → Prop) (H0 : Hp) (W0 : World) (R : Ending → World → Prop) (hH : H0.le (hpOf W0)) (h :
 (∀ b0 : Nat,
 (∀ b1 : Nat,
 (Cl Tryz.prog W0 M H0 nK 25 #[Value.agg #[vi x0, vi x1, vi x2, vi x3, vi x4, vi x5, vsl x6 x7 x8, vsl x9 x10 x11, vi x12, vi x13, vi x14, vi x15, vi x16, vi x17, vsl x18 x19 x20, vi x21, vi x22, vi x23, vi x24, vi x25, vi x26, vsl x27 x28 x29, vi x30, vi x31, vi x32, vi x33, vi x34, vi x35, vsl x36 x37 x38]] fun z W1 W2 => ∃ (x41 : Option Loc) (x42 : Int), z = .returned (Value.tuple #[Value.pointer (ptrAt x41 0), vi x42]) ∧ Fr W1 W2 H0 fun H1 =>
 ((x42 = 0 →
  ((x39 < 0 →
   Rt R W0 M H1 nK (Value.tuple #[Value.agg #[vi 0, vi 0, vi 0, vi 0, vi 0, vi 0, Value.slice none 0 0, Value.slice none 0 0, vi 0, vi 0, vi 0, vi 0, vi 0, vi 0, Value.slice none 0 0, vi 0, vi 0, vi 0, vi 0, vi 0, vi 0, Value.slice none 0 0, vi 0, vi 0, vi 0, vi 0, vi 0, vi 0, Value.slice none 0 0], vi 0, vi 3])) ∧
  (¬ (x39 < 0) →
   ((3 ≤ x39 →
    Rt R W0 M H1 nK (Value.tuple #[Value.agg #[vi 0, vi 0, vi 0, vi 0, vi 0, vi 0, Value.slice none 0 0, Value.slice none 0 0, vi 0, vi 0, vi 0, vi 0, vi 0, vi 0, Value.slice none 0 0, vi 0, vi 0, vi 0, vi 0, vi 0, vi 0, Value.slice none 0 0, vi 0, vi 0, vi 0, vi 0, vi 0, vi 0, Value.slice none 0 0], vi 0, vi 3])) ∧
   (¬ (3 ≤ x39) →
    (x41.isSome = true ∧ (x41.isSome = true →
    (∃ (x43 x44 x45 x46 x47 x48 : Int) (x49 : Option Loc) (x50 x51 : Nat) (x52 : Option Loc) (x53 x54 : Nat), RowAt H1 x41 0 [vi x43, vi x44, vi x45, vi x46, vi x47, vi x48, vsl x49 x50 x51, vsl x52 x53 x54] ∧
    (((0 : Int) ≤ x39 ∧ x39 < 3) ∧ (((0 : Int) ≤ x39 ∧ x39 < 3) →
    ((0 : Int) ≤ (0 + 8) ∧ ((0 : Int) ≤ (0 + 8) →
    (∃ (x55 x56 x57 x58 x59 x60 : Int) (x61 : Option Loc) (x62 x63 : Nat), RowAt H1 x41 ((0 + 8) + (x39 * 7)) [vi x55, vi x56, vi x57, vi x58, vi x59, vi x60, vsl x61 x62 x63] ∧
    (Cl Tryz.prog W0 M H1 nK 28 #[Value.agg #[vi x43, vi x44, vi x45, vi x46, vi x47, vi x48, vsl x49 x50 x51, vsl x52 x53 x54], Value.agg #[vi x55, vi x56, vi x57, vi x58, vi x59, vi x60, vsl x61 x62 x63], vi x40] fun z W3 W4 => ∃ (x64 x65 x66 x67 x68 x69 : Int) (x70 : Option Loc) (x71 x72 : Nat) (x73 x74 : Int), z = .returned (Value.tuple #[Value.agg #[vi x64, vi x65, vi x66, vi x67, vi x68, vi x69, vsl x70 x71 x72], vi x73, vi x74]) ∧ Fr W3 W4 H1 fun H2 =>
    (Es W0 M H2 nK fun W5 => Eo Tryz.prog (.storeO 25) [Value.pointer (ptrAt x41 ((0 + 8) + (x39 * 7))), Value.agg #[vi x64, vi x65, vi x66, vi x67, vi x68, vi x69, vsl x70 x71 x72]] W5 (.skip) fun W6 => Tn W0 M H2 W5 W6 fun H3 =>
    (Cl Tryz.prog W0 M H3 nK 27 #[Value.pointer (ptrAt x41 0), vi x74] fun z W7 W8 => ∃ (x75 x76 x77 x78 x79 x80 : Int) (x81 : Option Loc) (x82 x83 : Nat) (x84 : Option Loc) (x85 x86 : Nat) (x87 x88 x89 x90 x91 x92 : Int) (x93 : Option Loc) (x94 x95 : Nat) (x96 x97 x98 x99 x100 x101 : Int) (x102 : Option Loc) (x103 x104 : Nat) (x105 x106 x107 x108 x109 x110 : Int) (x111 : Option Loc) (x112 x113 : Nat) (x114 : Int), z = .returned (Value.tuple #[Value.agg #[vi x75, vi x76, vi x77, vi x78, vi x79, vi x80, vsl x81 x82 x83, vsl x84 x85 x86, vi x87, vi x88, vi x89, vi x90, vi x91, vi x92, vsl x93 x94 x95, vi x96, vi x97, vi x98, vi x99, vi x100, vi x101, vsl x102 x103 x104, vi x105, vi x106, vi x107, vi x108, vi x109, vi x110, vsl x111 x112 x113], vi x114]) ∧ Fr W7 W8 H3 fun H4 =>
    (∀ b2 : Nat,
    Rt R W0 M H4 nK (Value.tuple #[Value.agg #[vi x75, vi x76, vi x77, vi x78, vi x79, vi x80, vsl x81 x82 x83, vsl x84 x85 x86, vi x87, vi x88, vi x89, vi x90, vi x91, vi x92, vsl x93 x94 x95, vi x96, vi x97, vi x98, vi x99, vi x100, vi x101, vsl x102 x103 x104, vi x105, vi x106, vi x107, vi x108, vi x109, vi x110, vsl x111 x112 x113], vi x73, vi x114])))))))))))))))))) ∧
 (¬ (x42 = 0) →
  Rt R W0 M H1 nK (Value.tuple #[Value.agg #[vi 0, vi 0, vi 0, vi 0, vi 0, vi 0, Value.slice none 0 0, Value.slice none 0 0, vi 0, vi 0, vi 0, vi 0, vi 0, vi 0, Value.slice none 0 0, vi 0, vi 0, vi 0, vi 0, vi 0, vi 0, Value.slice none 0 0, vi 0, vi 0, vi 0, vi 0, vi 0, vi 0, Value.slice none 0 0], vi 0, vi x42]))))))) :
  Calls Tryz.prog 9 #[Value.agg #[vi x0, vi x1, vi x2, vi x3, vi x4, vi x5, vsl x6 x7 x8, vsl x9 x10 x11, vi x12, vi x13, vi x14, vi x15, vi x16, vi x17, vsl x18 x19 x20, vi x21, vi x22, vi x23, vi x24, vi x25, vi x26, vsl x27 x28 x29, vi x30, vi x31, vi x32, vi x33, vi x34, vi x35, vsl x36 x37 x38], vi x39, vi x40] W0 R :=
  calls_sxA (M := M) (V := v_groupRun) (hi := {}) (args := [.agg [vI 0, vI 1, vI 2, vI 3, vI 4, vI 5, vS 6, vS 9, vI 12, vI 13, vI 14, vI 15, vI 16, vI 17, vS 18, vI 21, vI 22, vI 23, vI 24, vI 25, vI 26, vS 27, vI 30, vI 31, vI 32, vI 33, vI 34, vI 35, vS 36], vI 39, vI 40]) (nv := 41) (e := (upd (upd (upd (upd (upd (upd (upd (upd (upd (upd (upd (upd (upd (upd (upd (upd (upd (upd (upd (upd (upd (upd (upd (upd (upd (upd (upd (upd (upd (upd (upd (upd (upd (upd (upd (upd (upd (upd (upd (upd (upd (fun _ => .i 0) 0 (.i x0)) 1 (.i x1)) 2 (.i x2)) 3 (.i x3)) 4 (.i x4)) 5 (.i x5)) 6 (.p x6)) 7 (.n x7)) 8 (.n x8)) 9 (.p x9)) 10 (.n x10)) 11 (.n x11)) 12 (.i x12)) 13 (.i x13)) 14 (.i x14)) 15 (.i x15)) 16 (.i x16)) 17 (.i x17)) 18 (.p x18)) 19 (.n x19)) 20 (.n x20)) 21 (.i x21)) 22 (.i x22)) 23 (.i x23)) 24 (.i x24)) 25 (.i x25)) 26 (.i x26)) 27 (.p x27)) 28 (.n x28)) 29 (.n x29)) 30 (.i x30)) 31 (.i x31)) 32 (.i x32)) 33 (.i x33)) 34 (.i x34)) 35 (.i x35)) 36 (.p x36)) 37 (.n x37)) 38 (.n x38)) 39 (.i x39)) 40 (.i x40))) Tryz.func9 hH h (by kernel_rfl) (by kernel_rfl) (by kernel_rfl)
end Go.Proofs.YtfpmcmhihhnfgaaGreat
namespace Go.Proofs.YtfpmcmhihhnfgaaGreat
open Go.RowKit
set_option maxRecDepth 100000
/-- where a group's lists stand -/
structure GP where
  p : Option Loc
  n : Nat
  c : Nat
  q : Option Loc
  m : Nat
  d : Nat
  p0 : Option Loc
  n0 : Nat
  c0 : Nat
  p1 : Option Loc
  n1 : Nat
  c1 : Nat
  p2 : Option Loc
  n2 : Nat
  c2 : Nat
abbrev gRow (g : Grp) (γ : GP) : List Value := [vi g.base.pos, vi g.base.clock, vi g.base.vals.a, vi g.base.vals.b, vi g.base.vals.c, vi g.base.vals.d, vsl γ.p γ.n γ.c, vsl γ.q γ.m γ.d, vi g.n0.pos, vi g.n0.clock, vi g.n0.vals.a, vi g.n0.vals.b, vi g.n0.vals.c, vi g.n0.vals.d, vsl γ.p0 γ.n0 γ.c0, vi g.n1.pos, vi g.n1.clock, vi g.n1.vals.a, vi g.n1.vals.b, vi g.n1.vals.c, vi g.n1.vals.d, vsl γ.p1 γ.n1 γ.c1, vi g.n2.pos, vi g.n2.clock, vi g.n2.vals.a, vi g.n2.vals.b, vi g.n2.vals.c, vi g.n2.vals.d, vsl γ.p2 γ.n2 γ.c2]
abbrev gVal (g : Grp) (γ : GP) : Value := .agg #[vi g.base.pos, vi g.base.clock, vi g.base.vals.a, vi g.base.vals.b, vi g.base.vals.c, vi g.base.vals.d, vsl γ.p γ.n γ.c, vsl γ.q γ.m γ.d, vi g.n0.pos, vi g.n0.clock, vi g.n0.vals.a, vi g.n0.vals.b, vi g.n0.vals.c, vi g.n0.vals.d, vsl γ.p0 γ.n0 γ.c0, vi g.n1.pos, vi g.n1.clock, vi g.n1.vals.a, vi g.n1.vals.b, vi g.n1.vals.c, vi g.n1.vals.d, vsl γ.p1 γ.n1 γ.c1, vi g.n2.pos, vi g.n2.clock, vi g.n2.vals.a, vi g.n2.vals.b, vi g.n2.vals.c, vi g.n2.vals.d, vsl γ.p2 γ.n2 γ.c2]
structure GTab (H : Hp) (g : Grp) (γ : GP) : Prop where
  base : Tab H γ.p γ.n γ.c g.base.table
  tail : Ents H γ.q γ.m γ.d g.tail
  n0 : Tab H γ.p0 γ.n0 γ.c0 g.n0.table
  n1 : Tab H γ.p1 γ.n1 γ.c1 g.n1.table
  n2 : Tab H γ.p2 γ.n2 γ.c2 g.n2.table
theorem GTab.mono {H K : Hp} {g : Grp} {γ : GP} (h : GTab H g γ) (hk : H.le K) : GTab K g γ := ⟨h.base.mono hk, h.tail.mono hk, h.n0.mono hk, h.n1.mono hk, h.n2.mono hk⟩
def GP.nil : GP := ⟨none, 0, 0, none, 0, 0, none, 0, 0, none, 0, 0, none, 0, 0⟩
theorem GTab.nil (H : Hp) : GTab H Grp.zero GP.nil := ⟨Tab.nil _ _, Ents.nil _ _, Tab.nil _ _, Tab.nil _ _, Tab.nil _ _⟩
def GPost (g : Grp) (mk : Value → Value) (v : Value) (D : Hp) : Prop := ∃ γ, v = mk (gVal g γ) ∧ GTab D g γ
theorem newer_mono {W : World} {H K : Hp} (h : H.le K) : (newer W H).le (newer W K) := fun b o hb => by
  unfold newer at hb ⊢
  split at hb
  · rename_i h1; rw [if_pos h1]; exact h b o hb
  · cases hb
theorem lPut_zero {b : Sta} {l : List Ent} {e : Ent} (h : ¬ (lPut b l e).2.2.2 = 0) : (lPut b l e).2.2.1 = 0 := by
  by_cases h0 : logErr b l = 0
  · by_cases h1 : e.err = 0
    · by_cases h2 : b.pos + (l.length : Int) = 50
      · rw [lPut_many h0 h1 h2]
      · rw [lPut_ok h0 h1 h2] at h; exact absurd rfl h
    · rw [lPut_ent h0 h1]
  · rw [lPut_bad h0]
theorem sErr_st {b s : Sta} {l : List Ent} (h : ¬ s.err = 0) : sErr b l s = s.err := if_pos h
theorem sErr_no {b s : Sta} {l : List Ent} (h : s.err = 0) (h1 : nFits b l s = false) : sErr b l s = 1 := by unfold sErr; rw [if_neg (by omega), if_pos h1]
theorem sErr_yes {b s : Sta} {l : List Ent} (h : s.err = 0) (h1 : nFits b l s = true) : sErr b l s = 0 := by unfold sErr; rw [if_neg (by omega), if_neg (by rw [h1]; simp)]
section
variable {g : Grp}
theorem gErr_log (h : ¬ logErr g.base g.tail = 0) : gErr g = logErr g.base g.tail := if_pos h
theorem gErr_0 (h : logErr g.base g.tail = 0) (h0 : ¬ sErr g.base g.tail g.n0 = 0) : gErr g = sErr g.base g.tail g.n0 := by unfold gErr; rw [if_neg (by omega), if_pos h0]
theorem gErr_1 (h : logErr g.base g.tail = 0) (h0 : sErr g.base g.tail g.n0 = 0) (h1 : ¬ sErr g.base g.tail g.n1 = 0) : gErr g = sErr g.base g.tail g.n1 := by unfold gErr; rw [if_neg (by omega), if_neg (by omega), if_pos h1]
theorem gErr_2 (h : logErr g.base g.tail = 0) (h0 : sErr g.base g.tail g.n0 = 0) (h1 : sErr g.base g.tail g.n1 = 0) : gErr g = sErr g.base g.tail g.n2 := by unfold gErr; rw [if_neg (by omega), if_neg (by omega), if_neg (by omega)]
end
section
variable {H : Hp} {g : Grp} {γ : GP}
theorem c_groupCheck (hg : GTab H g γ) : Gv Tryz.prog 23 #[gVal g γ] H (vi (gErr g)) := fun W hH => by
  refine x_groupCheck _ _ _ _ _ _ γ.p γ.n γ.c γ.q γ.m γ.d _ _ _ _ _ _ γ.p0 γ.n0 γ.c0 _ _ _ _ _ _ γ.p1 γ.n1 γ.c1 _ _ _ _ _ _ γ.p2 γ.n2 γ.c2 noM H W _ hH fun b0 => ?_
  refine Cl.same (c_packCheck hg.base hg.tail) fun _ _ hx => ⟨_, rfl, hx, fun e0 b1 => ?_, fun e0 => Rt.gv' (by rw [gErr_log e0])⟩
  have ho := logErr_ok.1 e0
  refine Cl.same (c_stCheck hg.n0) fun _ _ hx => ⟨_, rfl, hx, fun e1 => ?_, fun e1 => Rt.gv' (by have e2 := sErr_st (b := g.base) (l := g.tail) e1; rw [gErr_0 e0 (by rw [e2]; exact e1), e2])⟩
  refine Cl.same (c_nodeRight ho (Sta.err_ok.1 e1) hg.base hg.tail hg.n0) fun _ _ hx => ⟨_, rfl, hx, fun f1 b2 => ?_, fun f1 => Rt.gv' (by have e2 := sErr_no e1 (by simpa using f1); rw [gErr_0 e0 (by rw [e2]; decide), e2])⟩
  have s0 := sErr_yes e1 f1
  refine Cl.same (c_stCheck hg.n1) fun _ _ hx => ⟨_, rfl, hx, fun e1 => ?_, fun e1 => Rt.gv' (by have e2 := sErr_st (b := g.base) (l := g.tail) e1; rw [gErr_1 e0 s0 (by rw [e2]; exact e1), e2])⟩
  refine Cl.same (c_nodeRight ho (Sta.err_ok.1 e1) hg.base hg.tail hg.n1) fun _ _ hx => ⟨_, rfl, hx, fun f1 b3 => ?_, fun f1 => Rt.gv' (by have e2 := sErr_no e1 (by simpa using f1); rw [gErr_1 e0 s0 (by rw [e2]; decide), e2])⟩
  have s1 := sErr_yes e1 f1
  refine Cl.same (c_stCheck hg.n2) fun _ _ hx => ⟨_, rfl, hx, fun e1 => ?_, fun e1 => Rt.gv' (by rw [gErr_2 e0 s0 s1, sErr_st e1])⟩
  exact Cl.same (c_nodeRight ho (Sta.err_ok.1 e1) hg.base hg.tail hg.n2) fun _ _ hx => ⟨_, rfl, hx, fun f1 => Rt.gv' (by rw [gErr_2 e0 s0 s1, sErr_yes e1 f1]), fun f1 => Rt.gv' (by rw [gErr_2 e0 s0 s1, sErr_no e1 (by simpa using f1)])⟩
def EnterPost (g : Grp) (v : Value) (D : Hp) : Prop :=
  (gErr g ≠ 0 ∧ v = .tuple #[.pointer none, vi (gErr g)]) ∨
  (gErr g = 0 ∧ ∃ (b : Nat) (γ : GP) (Dg : Hp), v = .tuple #[.pointer (some ⟨b, 0, none⟩), vi 0] ∧ Ow D 66 29 (some (b, 0)) 1 1 [gRow g γ] (some b) ∧ Hp.le Dg D ∧ Dg b = none ∧ GTab Dg g γ)
theorem gRow_ones (g : Grp) (γ : GP) : ∀ v ∈ gRow g γ, v.oneCell' = true := fun v hv => by
  simp only [List.mem_cons, List.not_mem_nil, or_false] at hv
  repeat' (rcases hv with rfl | hv; rfl)
theorem c_enter (hg : GTab H g γ) : Gf Tryz.prog 25 #[gVal g γ] H (EnterPost g) := fun W hH => by
  have hcap := hg.tail.len
  refine x_enter _ _ _ _ _ _ γ.p γ.n γ.c γ.q γ.m γ.d _ _ _ _ _ _ γ.p0 γ.n0 γ.c0 _ _ _ _ _ _ γ.p1 γ.n1 γ.c1 _ _ _ _ _ _ γ.p2 γ.n2 γ.c2 noM H W _ hH fun b0 => ?_
  refine Cl.same (c_groupCheck hg) fun _ _ hx => ⟨_, rfl, hx, fun e0 => ?_, fun e0 => Rt.gfn (.inl ⟨e0, rfl⟩)⟩
  have ok := gErr_ok.1 e0
  have hlow := ok.log.low
  refine Cl.fresh (c_stOwn hg.base (Small.of_ok ok.log.base.table)) ?_
  rintro v W1 W2 D1 ⟨p, c, es, gg, rfl, hO, he⟩ hx hD1 hf1 nn1
  have hT := hO.tab
  rw [he] at hT
  refine ⟨_, _, _, _, _, _, p, γ.n, c, rfl, hx, D1, hD1, hf1, fun H1 h1 hd1 => ?_⟩
  refine Cl.fresh (c_cloneE (hg.tail.mono h1) (by omega)) ?_
  rintro v W3 W4 D2 ⟨q, d, gq, rfl, hQ⟩ hx hD2 hf2 nn2
  have hE := Ents.of_ow hQ hg.tail.2.2.2
  refine ⟨q, γ.m, d, rfl, hx, D2, hD2, hf2, fun H2 h2 hd2 => ?_⟩
  refine Cl.fresh (c_stOwn ((hg.n0.mono h1).mono h2) (Small.of_ok ok.ok0.table)) ?_
  rintro v W5 W6 D3 ⟨p0, c0, es0, gg0, rfl, hO0, he0⟩ hx hD3 hf3 nn3
  have hT0 := hO0.tab
  rw [he0] at hT0
  refine ⟨_, _, _, _, _, _, p0, γ.n0, c0, rfl, hx, D3, hD3, hf3, fun H3 h3 hd3 => ?_⟩
  refine Cl.fresh (c_stOwn (((hg.n1.mono h1).mono h2).mono h3) (Small.of_ok ok.ok1.table)) ?_
  rintro v W7 W8 D4 ⟨p1, c1, es1, gg1, rfl, hO1, he1⟩ hx hD4 hf4 nn4
  have hT1 := hO1.tab
  rw [he1] at hT1
  refine ⟨_, _, _, _, _, _, p1, γ.n1, c1, rfl, hx, D4, hD4, hf4, fun H4 h4 hd4 => ?_⟩
  refine Cl.fresh (c_stOwn ((((hg.n2.mono h1).mono h2).mono h3).mono h4) (Small.of_ok ok.ok2.table)) ?_
  rintro v W9 W10 D5 ⟨p2, c2, es2, gg2, rfl, hO2, he2⟩ hx hD5 hf5 nn5
  have hT2 := hO2.tab
  rw [he2] at hT2
  refine ⟨_, _, _, _, _, _, p2, γ.n2, c2, rfl, hx, D5, hD5, hf5, fun H5 h5 hd5 b1 W11 n11 k11 => ?_⟩
  have hk := k11.1
  have t1 : (newer W H1).le (newer W H2) := newer_mono h2
  have t2 : (newer W H2).le (newer W H3) := newer_mono h3
  have t3 : (newer W H3).le (newer W H4) := newer_mono h4
  have t4 : (newer W H4).le (newer W H5) := newer_mono h5
  have hb : newer W H5 b1 = none := by
    cases h : newer W H5 b1 with
    | none => rfl
    | some o => have := newer_le W H5 b1 o h; rw [hk.off] at this; cases this
  have gt : GTab (newer W H5) g ⟨p, γ.n, c, q, γ.m, d, p0, γ.n0, c0, p1, γ.n1, c1, p2, γ.n2, c2⟩ :=
    ⟨((((hT.mono (le_newer hd1 (fun b o h => Nat.le_trans nn1.mod.size (hf1 b o h)))).mono t1).mono t2).mono t3).mono t4,
     (((hE.mono (le_newer hd2 (fun b o h => Nat.le_trans nn2.mod.size (hf2 b o h)))).mono t2).mono t3).mono t4,
     ((hT0.mono (le_newer hd3 (fun b o h => Nat.le_trans nn3.mod.size (hf3 b o h)))).mono t3).mono t4,
     (hT1.mono (le_newer hd4 (fun b o h => Nat.le_trans nn4.mod.size (hf4 b o h)))).mono t4,
     hT2.mono (le_newer hd5 (fun b o h => Nat.le_trans nn5.mod.size (hf5 b o h)))⟩
  refine ⟨_, addH (newer W H5) b1 (.cells (gRow g ⟨p, γ.n, c, q, γ.m, d, p0, γ.n0, c0, p1, γ.n1, c1, p2, γ.n2, c2⟩).toArray 66 (0, 0)), rfl, n11.ext, addH_le (Hp.le_trans (newer_le W H5) n11.sub) hk.eq, fun b o h => ?_, .inr ⟨e0, b1, _, newer W H5, rfl, ?_, le_addH hb, hb, gt⟩⟩
  · unfold addH at h
    split at h
    · rename_i h1
      subst h1
      exact hk.own.resolve_right fun h => h
    · exact newer_new W H5 b o h
  · exact ⟨rfl, fun r hr => by simp only [List.mem_singleton] at hr; subst hr; exact ⟨rfl, gRow_ones _ _⟩, Nat.le_refl _, by simp [maxLen], .inr ⟨b1, _, rfl, rfl, addH_at .., rfl, by simp⟩⟩
theorem c_leave0 {b : Nat} (hr : RowAt H (some (b, 0)) 0 (gRow g γ)) : Gv Tryz.prog 27 #[.pointer (some ⟨b, 0, none⟩), vi 0] H (.tuple #[gVal g γ, vi 0]) := fun W hH =>
  x_leave (some (b, 0)) 0 noM H W _ hH fun b0 => ⟨fun _ => ⟨rfl, fun _ => ⟨_, _, _, _, _, _, γ.p, γ.n, γ.c, γ.q, γ.m, γ.d, _, _, _, _, _, _, γ.p0, γ.n0, γ.c0, _, _, _, _, _, _, γ.p1, γ.n1, γ.c1, _, _, _, _, _, _, γ.p2, γ.n2, γ.c2, hr, Rt.gv⟩⟩, fun h => absurd rfl h⟩
theorem c_leaveX {b : Nat} {x : Int} (hx : ¬ x = 0) : Gv Tryz.prog 27 #[.pointer (some ⟨b, 0, none⟩), vi x] H (.tuple #[gVal Grp.zero GP.nil, vi x]) := fun W hH =>
  x_leave (some (b, 0)) x noM H W _ hH fun b0 => ⟨fun h => absurd h hx, fun _ => Rt.gv⟩
theorem infoLog : infoIs Tryz.prog 28 8 96 = true := by kernel_rfl
theorem RowAt.seg {p : Option Loc} {a r z : List Value} {off off' : Int} (h : RowAt H p off (a ++ r ++ z)) (h0 : 0 ≤ off) (e : off' = off + (a.length : Int)) : RowAt H p off' r := by
  obtain ⟨b, o, h1, C, T, fz, h2, h3⟩ := h
  refine ⟨b, o, h1, C, T, fz, h2, fun i hi => ?_⟩
  obtain ⟨h4, h5⟩ := h3 (a.length + i) (by simp; omega)
  rw [List.append_assoc, List.getElem?_append_right (by omega), Nat.add_sub_cancel_left, List.getElem?_append_left hi] at h4
  have e2 : o + off'.toNat + i = o + off.toNat + (a.length + i) := by omega
  rw [e2]
  exact ⟨h4, h5⟩
theorem hall_row {b : Nat} {γ : GP} (ho : Ow H 66 29 (some (b, 0)) 1 1 [gRow g γ] (some b)) : RowAt H (some (b, 0)) 0 (gRow g γ) := by
  obtain ⟨r, h1, _, h2⟩ := ho.rows.at (k := 0) (by omega) (off := 0) (by simp)
  simp only [List.getElem?_cons_zero, Option.some.injEq] at h1
  subst h1
  exact h2
theorem store_log {W : World} {b : Nat} (ho : Ow H 66 29 (some (b, 0)) 1 1 [gRow g γ] (some b)) (hH : H.le (hpOf W)) (s : Sta) (l : List Ent) (p : Option Loc) (n c : Nat) (q : Option Loc) (m d : Nat) :
    ∃ W' H', (EK.sem (.storeO 28) [.pointer (ptrAt (some (b, 0)) 0), logV s (vsl p n c) (vsl q m d)]).run Tryz.prog W = .ok .skip W' ∧ Upd (some b) W W' H H' ∧
      Ow H' 66 29 (some (b, 0)) 1 1 [gRow { g with base := s, tail := l } { γ with p := p, n := n, c := c, q := q, m := m, d := d }] (some b) := by
  obtain ⟨ti, z, i1, i2, i3, i4, i5, i6⟩ := info_of infoLog
  obtain ⟨W4, H3, hrun, hu, hO3⟩ := ek_store (P := Tryz.prog) (t := 28) i1 hH ho (i := 0) (j := 0) (vs := [vi s.pos, vi s.clock, vi s.vals.a, vi s.vals.b, vi s.vals.c, vi s.vals.d, vsl p n c, vsl q m d]) (v := logV s (vsl p n c) (vsl q m d)) rfl rfl i3 (by simp) (by simp) (fun u hu => by
      simp only [List.mem_cons, List.not_mem_nil, or_false] at hu
      rcases hu with rfl | rfl | rfl | rfl | rfl | rfl | rfl | rfl <;> rfl) (off := 0) (by simp)
  exact ⟨W4, H3, hrun, hu, hO3⟩
end
section
variable {H : Hp} {g : Grp} {γ : GP}
theorem c_groupPut (hg : GTab H g γ) {e : Ent} (he : e.in64) : Gf Tryz.prog 8 #[gVal g γ, e.val] H (GPost (gPut g e).1 fun v => .tuple #[v, vi (gPut g e).2.1, vi (gPut g e).2.2]) := fun W hH => by
  refine x_groupPut _ _ _ _ _ _ γ.p γ.n γ.c γ.q γ.m γ.d _ _ _ _ _ _ γ.p0 γ.n0 γ.c0 _ _ _ _ _ _ γ.p1 γ.n1 γ.c1 _ _ _ _ _ _ γ.p2 γ.n2 γ.c2 _ _ _ _ _ _ _ _ _ noM H W _ hH fun b0 b1 b2 => ?_
  refine Cl.fresh (c_enter hg) ?_
  rintro v W1 W2 D hv hx hD hf nn
  rcases hv with ⟨e0, rfl⟩ | ⟨e0, b, δ, Dg, rfl, ho, hle, hnb, hgd⟩
  · refine ⟨none, _, rfl, hx, D, hD, hf, fun H1 h1 hd1 => ⟨fun h0 => absurd h0 e0, fun _ => Rt.gfn ?_⟩⟩
    rw [gPut_bad e0]
    exact ⟨GP.nil, rfl, GTab.nil _⟩
  refine ⟨some (b, 0), _, rfl, hx, D, hD, hf, fun H1 h1 hd1 => ⟨fun _ => ⟨rfl, fun _ => ?_⟩, fun h => absurd rfl h⟩⟩
  have ho1 := ho.mono fun k _ o h => hd1 k o h
  have hgd1 := hgd.mono (Hp.le_trans hle hd1)
  refine ⟨_, _, _, _, _, _, δ.p, δ.n, δ.c, δ.q, δ.m, δ.d, RowAt.seg (a := []) (hall_row ho1) (Int.le_refl 0) (by simp), ?_⟩
  refine Cl.fresh (c_packPut hgd1.base hgd1.tail he) ?_
  rintro v W3 W4 D2 ⟨p, n, c, q, m, d, rfl, hT, hE⟩ hx hD2 hf2 nn2
  refine ⟨_, _, _, _, _, _, p, n, c, q, m, d, _, _, rfl, hx, D2, hD2, hf2, fun H2 h2 hd2 => ?_⟩
  have ho2 := ho1.mono fun k _ o h => h2 k o h
  intro W5 n5 _
  obtain ⟨W6, H3, hrun, hu, ho3⟩ := store_log ho2 n5.sub (lPut g.base g.tail e).1 (lPut g.base g.tail e).2.1 p n c q m d
  have hbW : W.heap.size ≤ b := by
    obtain ⟨o, hh⟩ := ho.held b rfl
    exact Nat.le_trans nn.mod.size (hf b o hh)
  refine ⟨W6, hrun, H3, hu.own ho2 (fun j hj => .inl (by simp only [Option.some.injEq] at hj; omega)), ?_⟩
  have hb2 : D2 b = none := by
    cases hh : D2 b with
    | none => rfl
    | some o => have h3 := hf2 b o hh; have h4 := ho1.lt nn2.sub b rfl; omega
  have hgn : ∀ {A : Hp}, A b = none → ∀ j, some b = some j → A j = none := fun h j hj => by simp only [Option.some.injEq] at hj; exact hj ▸ h
  have hDg3 : Dg.le H3 := hu.keep n5.sub (Hp.le_trans (Hp.le_trans hle hd1) h2) (hgn hnb)
  have hD23 : D2.le H3 := hu.keep n5.sub hd2 (hgn hb2)
  have hDgW : ∀ j o, Dg j = some o → W.heap.size ≤ j := fun j o h => Nat.le_trans nn.mod.size (hf j o (hle j o h))
  have hD2W : ∀ j o, D2 j = some o → W.heap.size ≤ j := fun j o h => Nat.le_trans nn2.mod.size (hf2 j o h)
  by_cases e1 : (lPut g.base g.tail e).2.2.2 = 0
  · rw [e1]
    refine Cl.same (c_leave0 (hall_row ho3)) fun _ _ hx => ⟨_, _, _, _, _, _, p, n, c, q, m, d, _, _, _, _, _, _, δ.p0, δ.n0, δ.c0, _, _, _, _, _, _, δ.p1, δ.n1, δ.c1, _, _, _, _, _, _, δ.p2, δ.n2, δ.c2, _, rfl, Fr.none hx fun H4 h4 b3 => Rt.gfn ?_⟩
    rw [gPut_is e0 e1]
    refine ⟨{ δ with p := p, n := n, c := c, q := q, m := m, d := d }, rfl, ?_⟩
    have k1 := le_newer (Hp.le_trans hDg3 h4) hDgW
    have k2 := le_newer (Hp.le_trans hD23 h4) hD2W
    exact ⟨hT.mono k2, hE.mono k2, hgd.n0.mono k1, hgd.n1.mono k1, hgd.n2.mono k1⟩
  · refine Cl.same (c_leaveX e1) fun _ _ hx => ⟨_, _, _, _, _, _, GP.nil.p, GP.nil.n, GP.nil.c, GP.nil.q, GP.nil.m, GP.nil.d, _, _, _, _, _, _, GP.nil.p0, GP.nil.n0, GP.nil.c0, _, _, _, _, _, _, GP.nil.p1, GP.nil.n1, GP.nil.c1, _, _, _, _, _, _, GP.nil.p2, GP.nil.n2, GP.nil.c2, _, rfl, Fr.none hx fun H4 h4 b3 => Rt.gfn ?_⟩
    rw [gPut_not e0 e1, lPut_zero e1]
    exact ⟨GP.nil, rfl, GTab.nil _⟩
theorem c_groupCut (hg : GTab H g γ) (x : Int) : Gf Tryz.prog 10 #[gVal g γ, vi x] H (GPost (gCut g x).1 fun v => .tuple #[v, vi (gCut g x).2]) := fun W hH => by
  refine x_groupCut _ _ _ _ _ _ γ.p γ.n γ.c γ.q γ.m γ.d _ _ _ _ _ _ γ.p0 γ.n0 γ.c0 _ _ _ _ _ _ γ.p1 γ.n1 γ.c1 _ _ _ _ _ _ γ.p2 γ.n2 γ.c2 x noM H W _ hH fun b0 b1 => ?_
  refine Cl.fresh (c_enter hg) ?_
  rintro v W1 W2 D hv hx hD hf nn
  rcases hv with ⟨e0, rfl⟩ | ⟨e0, b, δ, Dg, rfl, ho, hle, hnb, hgd⟩
  · refine ⟨none, _, rfl, hx, D, hD, hf, fun H1 h1 hd1 => ⟨fun h0 => absurd h0 e0, fun _ => Rt.gfn ?_⟩⟩
    rw [gCut_bad e0]
    exact ⟨GP.nil, rfl, GTab.nil _⟩
  refine ⟨some (b, 0), _, rfl, hx, D, hD, hf, fun H1 h1 hd1 => ⟨fun _ => ⟨rfl, fun _ => ?_⟩, fun h => absurd rfl h⟩⟩
  have ho1 := ho.mono fun k _ o h => hd1 k o h
  have hgd1 := hgd.mono (Hp.le_trans hle hd1)
  refine ⟨_, _, _, _, _, _, δ.p, δ.n, δ.c, δ.q, δ.m, δ.d, RowAt.seg (a := []) (hall_row ho1) (Int.le_refl 0) (by simp), ?_⟩
  refine Cl.fresh (c_packCut hgd1.base hgd1.tail x) ?_
  rintro v W3 W4 D2 ⟨p, n, c, q, m, d, rfl, hT, hE⟩ hx hD2 hf2 nn2
  refine ⟨_, _, _, _, _, _, p, n, c, q, m, d, _, rfl, hx, D2, hD2, hf2, fun H2 h2 hd2 => ?_⟩
  have ho2 := ho1.mono fun k _ o h => h2 k o h
  intro W5 n5 _
  obtain ⟨W6, H3, hrun, hu, ho3⟩ := store_log ho2 n5.sub (lCut g.base g.tail x).1 (lCut g.base g.tail x).2.1 p n c q m d
  have hbW : W.heap.size ≤ b := by
    obtain ⟨o, hh⟩ := ho.held b rfl
    exact Nat.le_trans nn.mod.size (hf b o hh)
  refine ⟨W6, hrun, H3, hu.own ho2 (fun j hj => .inl (by simp only [Option.some.injEq] at hj; omega)), ?_⟩
  have hb2 : D2 b = none := by
    cases hh : D2 b with
    | none => rfl
    | some o => have h3 := hf2 b o hh; have h4 := ho1.lt nn2.sub b rfl; omega
  have hgn : ∀ {A : Hp}, A b = none → ∀ j, some b = some j → A j = none := fun h j hj => by simp only [Option.some.injEq] at hj; exact hj ▸ h
  have hDg3 : Dg.le H3 := hu.keep n5.sub (Hp.le_trans (Hp.le_trans hle hd1) h2) (hgn hnb)
  have hD23 : D2.le H3 := hu.keep n5.sub hd2 (hgn hb2)
  have hDgW : ∀ j o, Dg j = some o → W.heap.size ≤ j := fun j o h => Nat.le_trans nn.mod.size (hf j o (hle j o h))
  have hD2W : ∀ j o, D2 j = some o → W.heap.size ≤ j := fun j o h => Nat.le_trans nn2.mod.size (hf2 j o h)
  by_cases e1 : (lCut g.base g.tail x).2.2 = 0
  · rw [e1]
    refine Cl.same (c_leave0 (hall_row ho3)) fun _ _ hx => ⟨_, _, _, _, _, _, p, n, c, q, m, d, _, _, _, _, _, _, δ.p0, δ.n0, δ.c0, _, _, _, _, _, _, δ.p1, δ.n1, δ.c1, _, _, _, _, _, _, δ.p2, δ.n2, δ.c2, _, rfl, Fr.none hx fun H4 h4 => Rt.gfn ?_⟩
    rw [gCut_is e0 e1]
    refine ⟨{ δ with p := p, n := n, c := c, q := q, m := m, d := d }, rfl, ?_⟩
    have k1 := le_newer (Hp.le_trans hDg3 h4) hDgW
    have k2 := le_newer (Hp.le_trans hD23 h4) hD2W
    exact ⟨hT.mono k2, hE.mono k2, hgd.n0.mono k1, hgd.n1.mono k1, hgd.n2.mono k1⟩
  · refine Cl.same (c_leaveX e1) fun _ _ hx => ⟨_, _, _, _, _, _, GP.nil.p, GP.nil.n, GP.nil.c, GP.nil.q, GP.nil.m, GP.nil.d, _, _, _, _, _, _, GP.nil.p0, GP.nil.n0, GP.nil.c0, _, _, _, _, _, _, GP.nil.p1, GP.nil.n1, GP.nil.c1, _, _, _, _, _, _, GP.nil.p2, GP.nil.n2, GP.nil.c2, _, rfl, Fr.none hx fun H4 h4 => Rt.gfn ?_⟩
    rw [gCut_not e0 e1]
    exact ⟨GP.nil, rfl, GTab.nil _⟩
theorem c_groupBegin (H : Hp) : Gv Tryz.prog 19 #[] H (gVal Grp.zero GP.nil) := fun W hH => x_groupBegin noM H W _ hH fun b0 => Rt.gv
end
end Go.Proofs.YtfpmcmhihhnfgaaGreat
namespace Go.Proofs.YtfpmcmhihhnfgaaGreat
open Go.RowKit
set_option maxRecDepth 100000
theorem nRun_zero {b s : Sta} {l : List Ent} {n : Int} (h : ¬ (nRun b l s n).2.2 = 0) : (nRun b l s n).2.1 = 0 := by
  by_cases h0 : nErr b l s = 0
  · by_cases h1 : n < 0 ∨ 50 < n
    · rw [nRun_rng h0 h1]
    · cases h2 : nFits b l s with
      | false => rw [nRun_not h0 h1 h2]
      | true => rw [nRun_ok h0 h1 h2] at h; exact absurd rfl h
  · rw [nRun_bad h0]
section
variable {H : Hp} {g : Grp} {γ : GP}
theorem node_row0 {b : Nat} (ho : Ow H 66 29 (some (b, 0)) 1 1 [gRow g γ] (some b)) : RowAt H (some (b, 0)) (0 + 8 + 0 * 7) [vi g.n0.pos, vi g.n0.clock, vi g.n0.vals.a, vi g.n0.vals.b, vi g.n0.vals.c, vi g.n0.vals.d, vsl γ.p0 γ.n0 γ.c0] :=
  RowAt.seg (a := [vi g.base.pos, vi g.base.clock, vi g.base.vals.a, vi g.base.vals.b, vi g.base.vals.c, vi g.base.vals.d, vsl γ.p γ.n γ.c, vsl γ.q γ.m γ.d]) (z := [vi g.n1.pos, vi g.n1.clock, vi g.n1.vals.a, vi g.n1.vals.b, vi g.n1.vals.c, vi g.n1.vals.d, vsl γ.p1 γ.n1 γ.c1, vi g.n2.pos, vi g.n2.clock, vi g.n2.vals.a, vi g.n2.vals.b, vi g.n2.vals.c, vi g.n2.vals.d, vsl γ.p2 γ.n2 γ.c2]) (hall_row ho) (Int.le_refl 0) (by simp)
theorem store_node0 {W : World} {b : Nat} (ho : Ow H 66 29 (some (b, 0)) 1 1 [gRow g γ] (some b)) (hH : H.le (hpOf W)) (s : Sta) (p : Option Loc) (n c : Nat) :
    ∃ W' H', (EK.sem (.storeO 25) [.pointer (ptrAt (some (b, 0)) (0 + 8 + 0 * 7)), s.val (vsl p n c)]).run Tryz.prog W = .ok .skip W' ∧ Upd (some b) W W' H H' ∧
      Ow H' 66 29 (some (b, 0)) 1 1 [gRow (g.set 0 s) { γ with p0 := p, n0 := n, c0 := c }] (some b) := by
  obtain ⟨ti, z, i1, i2, i3, i4, i5, i6⟩ := info_of infoState
  obtain ⟨W4, H3, hrun, hu, hO3⟩ := ek_store (P := Tryz.prog) (t := 25) i1 hH ho (i := 0) (j := 8) (vs := [vi s.pos, vi s.clock, vi s.vals.a, vi s.vals.b, vi s.vals.c, vi s.vals.d, vsl p n c]) (v := s.val (vsl p n c)) rfl rfl i3 (by simp) (by simp) (fun u hu => by
      simp only [List.mem_cons, List.not_mem_nil, or_false] at hu
      rcases hu with rfl | rfl | rfl | rfl | rfl | rfl | rfl <;> rfl) (off := 0 + 8 + 0 * 7) (by simp)
  exact ⟨W4, H3, hrun, hu, hO3⟩
theorem node_row1 {b : Nat} (ho : Ow H 66 29 (some (b, 0)) 1 1 [gRow g γ] (some b)) : RowAt H (some (b, 0)) (0 + 8 + 1 * 7) [vi g.n1.pos, vi g.n1.clock, vi g.n1.vals.a, vi g.n1.vals.b, vi g.n1.vals.c, vi g.n1.vals.d, vsl γ.p1 γ.n1 γ.c1] :=
  RowAt.seg (a := [vi g.base.pos, vi g.base.clock, vi g.base.vals.a, vi g.base.vals.b, vi g.base.vals.c, vi g.base.vals.d, vsl γ.p γ.n γ.c, vsl γ.q γ.m γ.d, vi g.n0.pos, vi g.n0.clock, vi g.n0.vals.a, vi g.n0.vals.b, vi g.n0.vals.c, vi g.n0.vals.d, vsl γ.p0 γ.n0 γ.c0]) (z := [vi g.n2.pos, vi g.n2.clock, vi g.n2.vals.a, vi g.n2.vals.b, vi g.n2.vals.c, vi g.n2.vals.d, vsl γ.p2 γ.n2 γ.c2]) (hall_row ho) (Int.le_refl 0) (by simp)
theorem store_node1 {W : World} {b : Nat} (ho : Ow H 66 29 (some (b, 0)) 1 1 [gRow g γ] (some b)) (hH : H.le (hpOf W)) (s : Sta) (p : Option Loc) (n c : Nat) :
    ∃ W' H', (EK.sem (.storeO 25) [.pointer (ptrAt (some (b, 0)) (0 + 8 + 1 * 7)), s.val (vsl p n c)]).run Tryz.prog W = .ok .skip W' ∧ Upd (some b) W W' H H' ∧
      Ow H' 66 29 (some (b, 0)) 1 1 [gRow (g.set 1 s) { γ with p1 := p, n1 := n, c1 := c }] (some b) := by
  obtain ⟨ti, z, i1, i2, i3, i4, i5, i6⟩ := info_of infoState
  obtain ⟨W4, H3, hrun, hu, hO3⟩ := ek_store (P := Tryz.prog) (t := 25) i1 hH ho (i := 0) (j := 15) (vs := [vi s.pos, vi s.clock, vi s.vals.a, vi s.vals.b, vi s.vals.c, vi s.vals.d, vsl p n c]) (v := s.val (vsl p n c)) rfl rfl i3 (by simp) (by simp) (fun u hu => by
      simp only [List.mem_cons, List.not_mem_nil, or_false] at hu
      rcases hu with rfl | rfl | rfl | rfl | rfl | rfl | rfl <;> rfl) (off := 0 + 8 + 1 * 7) (by simp)
  exact ⟨W4, H3, hrun, hu, hO3⟩
theorem node_row2 {b : Nat} (ho : Ow H 66 29 (some (b, 0)) 1 1 [gRow g γ] (some b)) : RowAt H (some (b, 0)) (0 + 8 + 2 * 7) [vi g.n2.pos, vi g.n2.clock, vi g.n2.vals.a, vi g.n2.vals.b, vi g.n2.vals.c, vi g.n2.vals.d, vsl γ.p2 γ.n2 γ.c2] :=
  RowAt.seg (a := [vi g.base.pos, vi g.base.clock, vi g.base.vals.a, vi g.base.vals.b, vi g.base.vals.c, vi g.base.vals.d, vsl γ.p γ.n γ.c, vsl γ.q γ.m γ.d, vi g.n0.pos, vi g.n0.clock, vi g.n0.vals.a, vi g.n0.vals.b, vi g.n0.vals.c, vi g.n0.vals.d, vsl γ.p0 γ.n0 γ.c0, vi g.n1.pos, vi g.n1.clock, vi g.n1.vals.a, vi g.n1.vals.b, vi g.n1.vals.c, vi g.n1.vals.d, vsl γ.p1 γ.n1 γ.c1]) (z := []) (hall_row ho) (Int.le_refl 0) (by simp)
theorem store_node2 {W : World} {b : Nat} (ho : Ow H 66 29 (some (b, 0)) 1 1 [gRow g γ] (some b)) (hH : H.le (hpOf W)) (s : Sta) (p : Option Loc) (n c : Nat) :
    ∃ W' H', (EK.sem (.storeO 25) [.pointer (ptrAt (some (b, 0)) (0 + 8 + 2 * 7)), s.val (vsl p n c)]).run Tryz.prog W = .ok .skip W' ∧ Upd (some b) W W' H H' ∧
      Ow H' 66 29 (some (b, 0)) 1 1 [gRow (g.set 2 s) { γ with p2 := p, n2 := n, c2 := c }] (some b) := by
  obtain ⟨ti, z, i1, i2, i3, i4, i5, i6⟩ := info_of infoState
  obtain ⟨W4, H3, hrun, hu, hO3⟩ := ek_store (P := Tryz.prog) (t := 25) i1 hH ho (i := 0) (j := 22) (vs := [vi s.pos, vi s.clock, vi s.vals.a, vi s.vals.b, vi s.vals.c, vi s.vals.d, vsl p n c]) (v := s.val (vsl p n c)) rfl rfl i3 (by simp) (by simp) (fun u hu => by
      simp only [List.mem_cons, List.not_mem_nil, or_false] at hu
      rcases hu with rfl | rfl | rfl | rfl | rfl | rfl | rfl <;> rfl) (off := 0 + 8 + 2 * 7) (by simp)
  exact ⟨W4, H3, hrun, hu, hO3⟩
theorem c_groupRun (hg : GTab H g γ) (k x : Int) : Gf Tryz.prog 9 #[gVal g γ, vi k, vi x] H (GPost (gRun g k x).1 fun v => .tuple #[v, vi (gRun g k x).2.1, vi (gRun g k x).2.2]) := fun W hH => by
  refine x_groupRun _ _ _ _ _ _ γ.p γ.n γ.c γ.q γ.m γ.d _ _ _ _ _ _ γ.p0 γ.n0 γ.c0 _ _ _ _ _ _ γ.p1 γ.n1 γ.c1 _ _ _ _ _ _ γ.p2 γ.n2 γ.c2 k x noM H W _ hH fun b0 b1 => ?_
  refine Cl.fresh (c_enter hg) ?_
  rintro v W1 W2 D hv hx hD hf nn
  rcases hv with ⟨e0, rfl⟩ | ⟨e0, b, δ, Dg, rfl, ho, hle, hnb, hgd⟩
  · refine ⟨none, _, rfl, hx, D, hD, hf, fun H1 h1 hd1 => ⟨fun h0 => absurd h0 e0, fun _ => Rt.gfn ?_⟩⟩
    rw [gRun_bad e0]
    exact ⟨GP.nil, rfl, GTab.nil _⟩
  refine ⟨some (b, 0), _, rfl, hx, D, hD, hf, fun H1 h1 hd1 => ⟨fun _ => ⟨fun hk => Rt.gfn ?_, fun hk => ⟨fun hk2 => Rt.gfn ?_, fun hk2 => ⟨rfl, fun _ => ?_⟩⟩⟩, fun h => absurd rfl h⟩⟩
  · rw [gRun_rng e0 (by omega)]
    exact ⟨GP.nil, rfl, GTab.nil _⟩
  · rw [gRun_rng e0 (by omega)]
    exact ⟨GP.nil, rfl, GTab.nil _⟩
  have ho1 := ho.mono fun k _ o h => hd1 k o h
  have hgd1 := hgd.mono (Hp.le_trans hle hd1)
  refine ⟨_, _, _, _, _, _, δ.p, δ.n, δ.c, δ.q, δ.m, δ.d, RowAt.seg (a := []) (hall_row ho1) (Int.le_refl 0) (by simp), ⟨by omega, by omega⟩, fun _ => ⟨by omega, fun _ => ?_⟩⟩
  have hbW : W.heap.size ≤ b := by
    obtain ⟨o, hh⟩ := ho.held b rfl
    exact Nat.le_trans nn.mod.size (hf b o hh)
  have hgn : ∀ {A : Hp}, A b = none → ∀ j, some b = some j → A j = none := fun h j hj => by simp only [Option.some.injEq] at hj; exact hj ▸ h
  have hDgW : ∀ j o, Dg j = some o → W.heap.size ≤ j := fun j o h => Nat.le_trans nn.mod.size (hf j o (hle j o h))
  rcases (show k = 0 ∨ k = 1 ∨ k = 2 by omega) with rfl | rfl | rfl
  · refine ⟨_, _, _, _, _, _, δ.p0, δ.n0, δ.c0, node_row0 ho1, ?_⟩
    refine Cl.fresh (c_nodeRun hgd1.base hgd1.tail hgd1.n0 x) ?_
    rintro v W3 W4 D2 ⟨p, n, c, rfl, hT⟩ hx hD2 hf2 nn2
    refine ⟨_, _, _, _, _, _, p, n, c, _, _, rfl, hx, D2, hD2, hf2, fun H2 h2 hd2 => ?_⟩
    have ho2 := ho1.mono fun k _ o h => h2 k o h
    intro W5 n5 _
    obtain ⟨W6, H3, hrun, hu, ho3⟩ := store_node0 ho2 n5.sub (nRun g.base g.tail g.n0 x).1 p n c
    refine ⟨W6, hrun, H3, hu.own ho2 (fun j hj => .inl (by simp only [Option.some.injEq] at hj; omega)), ?_⟩
    have hb2 : D2 b = none := by
      cases hh : D2 b with
      | none => rfl
      | some o => have h3 := hf2 b o hh; have h4 := ho1.lt nn2.sub b rfl; omega
    have hDg3 : Dg.le H3 := hu.keep n5.sub (Hp.le_trans (Hp.le_trans hle hd1) h2) (hgn hnb)
    have hD23 : D2.le H3 := hu.keep n5.sub hd2 (hgn hb2)
    have hD2W : ∀ j o, D2 j = some o → W.heap.size ≤ j := fun j o h => Nat.le_trans nn2.mod.size (hf2 j o h)
    by_cases e1 : (nRun g.base g.tail g.n0 x).2.2 = 0
    · rw [e1]
      refine Cl.same (c_leave0 (hall_row ho3)) fun _ _ hx => ⟨_, _, _, _, _, _, δ.p, δ.n, δ.c, δ.q, δ.m, δ.d, _, _, _, _, _, _, p, n, c, _, _, _, _, _, _, δ.p1, δ.n1, δ.c1, _, _, _, _, _, _, δ.p2, δ.n2, δ.c2, _, rfl, Fr.none hx fun H4 h4 b3 => Rt.gfn ?_⟩
      rw [gRun_is e0 (k := 0) (by omega) e1]
      refine ⟨{ δ with p0 := p, n0 := n, c0 := c }, rfl, ?_⟩
      have k1 := le_newer (Hp.le_trans hDg3 h4) hDgW
      have k2 := le_newer (Hp.le_trans hD23 h4) hD2W
      exact ⟨hgd.base.mono k1, hgd.tail.mono k1, hT.mono k2, hgd.n1.mono k1, hgd.n2.mono k1⟩
    · refine Cl.same (c_leaveX e1) fun _ _ hx => ⟨_, _, _, _, _, _, GP.nil.p, GP.nil.n, GP.nil.c, GP.nil.q, GP.nil.m, GP.nil.d, _, _, _, _, _, _, GP.nil.p0, GP.nil.n0, GP.nil.c0, _, _, _, _, _, _, GP.nil.p1, GP.nil.n1, GP.nil.c1, _, _, _, _, _, _, GP.nil.p2, GP.nil.n2, GP.nil.c2, _, rfl, Fr.none hx fun H4 h4 b3 => Rt.gfn ?_⟩
      rw [gRun_not e0 (k := 0) (by omega) e1, nRun_zero e1]
      exact ⟨GP.nil, rfl, GTab.nil _⟩
  · refine ⟨_, _, _, _, _, _, δ.p1, δ.n1, δ.c1, node_row1 ho1, ?_⟩
    refine Cl.fresh (c_nodeRun hgd1.base hgd1.tail hgd1.n1 x) ?_
    rintro v W3 W4 D2 ⟨p, n, c, rfl, hT⟩ hx hD2 hf2 nn2
    refine ⟨_, _, _, _, _, _, p, n, c, _, _, rfl, hx, D2, hD2, hf2, fun H2 h2 hd2 => ?_⟩
    have ho2 := ho1.mono fun k _ o h => h2 k o h
    intro W5 n5 _
    obtain ⟨W6, H3, hrun, hu, ho3⟩ := store_node1 ho2 n5.sub (nRun g.base g.tail g.n1 x).1 p n c
    refine ⟨W6, hrun, H3, hu.own ho2 (fun j hj => .inl (by simp only [Option.some.injEq] at hj; omega)), ?_⟩
    have hb2 : D2 b = none := by
      cases hh : D2 b with
      | none => rfl
      | some o => have h3 := hf2 b o hh; have h4 := ho1.lt nn2.sub b rfl; omega
    have hDg3 : Dg.le H3 := hu.keep n5.sub (Hp.le_trans (Hp.le_trans hle hd1) h2) (hgn hnb)
    have hD23 : D2.le H3 := hu.keep n5.sub hd2 (hgn hb2)
    have hD2W : ∀ j o, D2 j = some o → W.heap.size ≤ j := fun j o h => Nat.le_trans nn2.mod.size (hf2 j o h)
    by_cases e1 : (nRun g.base g.tail g.n1 x).2.2 = 0
    · rw [e1]
      refine Cl.same (c_leave0 (hall_row ho3)) fun _ _ hx => ⟨_, _, _, _, _, _, δ.p, δ.n, δ.c, δ.q, δ.m, δ.d, _, _, _, _, _, _, δ.p0, δ.n0, δ.c0, _, _, _, _, _, _, p, n, c, _, _, _, _, _, _, δ.p2, δ.n2, δ.c2, _, rfl, Fr.none hx fun H4 h4 b3 => Rt.gfn ?_⟩
      rw [gRun_is e0 (k := 1) (by omega) e1]
      refine ⟨{ δ with p1 := p, n1 := n, c1 := c }, rfl, ?_⟩
      have k1 := le_newer (Hp.le_trans hDg3 h4) hDgW
      have k2 := le_newer (Hp.le_trans hD23 h4) hD2W
      exact ⟨hgd.base.mono k1, hgd.tail.mono k1, hgd.n0.mono k1, hT.mono k2, hgd.n2.mono k1⟩
    · refine Cl.same (c_leaveX e1) fun _ _ hx => ⟨_, _, _, _, _, _, GP.nil.p, GP.nil.n, GP.nil.c, GP.nil.q, GP.nil.m, GP.nil.d, _, _, _, _, _, _, GP.nil.p0, GP.nil.n0, GP.nil.c0, _, _, _, _, _, _, GP.nil.p1, GP.nil.n1, GP.nil.c1, _, _, _, _, _, _, GP.nil.p2, GP.nil.n2, GP.nil.c2, _, rfl, Fr.none hx fun H4 h4 b3 => Rt.gfn ?_⟩
      rw [gRun_not e0 (k := 1) (by omega) e1, nRun_zero e1]
      exact ⟨GP.nil, rfl, GTab.nil _⟩
  · refine ⟨_, _, _, _, _, _, δ.p2, δ.n2, δ.c2, node_row2 ho1, ?_⟩
    refine Cl.fresh (c_nodeRun hgd1.base hgd1.tail hgd1.n2 x) ?_
    rintro v W3 W4 D2 ⟨p, n, c, rfl, hT⟩ hx hD2 hf2 nn2
    refine ⟨_, _, _, _, _, _, p, n, c, _, _, rfl, hx, D2, hD2, hf2, fun H2 h2 hd2 => ?_⟩
    have ho2 := ho1.mono fun k _ o h => h2 k o h
    intro W5 n5 _
    obtain ⟨W6, H3, hrun, hu, ho3⟩ := store_node2 ho2 n5.sub (nRun g.base g.tail g.n2 x).1 p n c
    refine ⟨W6, hrun, H3, hu.own ho2 (fun j hj => .inl (by simp only [Option.some.injEq] at hj; omega)), ?_⟩
    have hb2 : D2 b = none := by
      cases hh : D2 b with
      | none => rfl
      | some o => have h3 := hf2 b o hh; have h4 := ho1.lt nn2.sub b rfl; omega
    have hDg3 : Dg.le H3 := hu.keep n5.sub (Hp.le_trans (Hp.le_trans hle hd1) h2) (hgn hnb)
    have hD23 : D2.le H3 := hu.keep n5.sub hd2 (hgn hb2)
    have hD2W : ∀ j o, D2 j = some o → W.heap.size ≤ j := fun j o h => Nat.le_trans nn2.mod.size (hf2 j o h)
    by_cases e1 : (nRun g.base g.tail g.n2 x).2.2 = 0
    · rw [e1]
      refine Cl.same (c_leave0 (hall_row ho3)) fun _ _ hx => ⟨_, _, _, _, _, _, δ.p, δ.n, δ.c, δ.q, δ.m, δ.d, _, _, _, _, _, _, δ.p0, δ.n0, δ.c0, _, _, _, _, _, _, δ.p1, δ.n1, δ.c1, _, _, _, _, _, _, p, n, c, _, rfl, Fr.none hx fun H4 h4 b3 => Rt.gfn ?_⟩
      rw [gRun_is e0 (k := 2) (by omega) e1]
      refine ⟨{ δ with p2 := p, n2 := n, c2 := c }, rfl, ?_⟩
      have k1 := le_newer (Hp.le_trans hDg3 h4) hDgW
      have k2 := le_newer (Hp.le_trans hD23 h4) hD2W
      exact ⟨hgd.base.mono k1, hgd.tail.mono k1, hgd.n0.mono k1, hgd.n1.mono k1, hT.mono k2⟩
    · refine Cl.same (c_leaveX e1) fun _ _ hx => ⟨_, _, _, _, _, _, GP.nil.p, GP.nil.n, GP.nil.c, GP.nil.q, GP.nil.m, GP.nil.d, _, _, _, _, _, _, GP.nil.p0, GP.nil.n0, GP.nil.c0, _, _, _, _, _, _, GP.nil.p1, GP.nil.n1, GP.nil.c1, _, _, _, _, _, _, GP.nil.p2, GP.nil.n2, GP.nil.c2, _, rfl, Fr.none hx fun H4 h4 b3 => Rt.gfn ?_⟩
      rw [gRun_not e0 (k := 2) (by omega) e1, nRun_zero e1]
      exact ⟨GP.nil, rfl, GTab.nil _⟩
end
end Go.Proofs.YtfpmcmhihhnfgaaGreat
