/- Symbolic runs of functions: what each leaves to prove is enough for its call. Printed by a program of ours. No conditions. Contracts of what the document says of groups. No conditions. -/
import Derived.Test.YtfpmcmhihhnfgaaGreatKE3
import Derived.Test.YtfpmcmhihhnfgaaGreatProg
import Derived.Test.YtfpmcmhihhnfgaaGreatKG1
set_option linter.unusedVariables false
set_option linter.unusedSimpArgs false
namespace Go.Proofs.YtfpmcmhihhnfgaaGreat
open Go.RowKit
set_option maxRecDepth 100000
set_option maxHeartbeats 4000000
def v_groupError : VC :=
(.all 0
(.call 16 [.agg [vI 0, vI 1, vI 2, vI 3, vI 4, vI 5, vS 6, vS 9]] [] [(39, .i)] (vI 39) .same
(.ite (.eq (.v 39) (.k 0))
(.call 17 [.agg [vI 12, vI 13, vI 14, vI 15, vI 16, vI 17, vS 18]] [] [(40, .i)] (vI 40) .same
(.ite (.eq (.v 40) (.k 0))
(.call 18 [.agg [vI 0, vI 1, vI 2, vI 3, vI 4, vI 5, vS 6, vS 9], .agg [vI 12, vI 13, vI 14, vI 15, vI 16, vI 17, vS 18]] [] [(41, .b)] (.bool (.v 41)) .same
(.ite (.v 41)
(.call 17 [.agg [vI 21, vI 22, vI 23, vI 24, vI 25, vI 26, vS 27]] [] [(42, .i)] (vI 42) .same
(.ite (.eq (.v 42) (.k 0))
(.call 18 [.agg [vI 0, vI 1, vI 2, vI 3, vI 4, vI 5, vS 6, vS 9], .agg [vI 21, vI 22, vI 23, vI 24, vI 25, vI 26, vS 27]] [] [(43, .b)] (.bool (.v 43)) .same
(.ite (.v 43)
(.call 17 [.agg [vI 30, vI 31, vI 32, vI 33, vI 34, vI 35, vS 36]] [] [(44, .i)] (vI 44) .same
(.ite (.eq (.v 44) (.k 0))
(.call 18 [.agg [vI 0, vI 1, vI 2, vI 3, vI 4, vI 5, vS 6, vS 9], .agg [vI 30, vI 31, vI 32, vI 33, vI 34, vI 35, vS 36]] [] [(45, .b)] (.bool (.v 45)) .same
(.ite (.v 45)
(.ret (.int .i64 (.k 0)) [])
(.ret (.int .i64 (.k 1)) [])))
(.ret (vI 44) [])))
(.ret (.int .i64 (.k 1)) [])))
(.ret (vI 42) [])))
(.ret (.int .i64 (.k 1)) [])))
(.ret (vI 40) [])))
(.ret (vI 39) []))))
theorem x_groupError (x0 x1 x2 x3 x4 x5 : Int) (x6 : Option Loc) (x7 x8 : Nat) (x9 : Option Loc) (x10 x11 : Nat) (x12 x13 x14 x15 x16 x17 : Int) (x18 : Option Loc) (x19 x20 : Nat) (x21 x22 x23 x24 x25 x26 : Int) (x27 : Option Loc) (x28 x29 : Nat) (x30 x31 x32 x33 x34 x35 : Int) (x36 : Option Loc) (x37 x38 : Nat) (M : Nat → Prop) (H0 : Hp) (W0 : World) (R : Ending → World → Prop) (hH : H0.le (hpOf W0)) (h :
 (∀ b0 : Nat,
 (Cl Tryz.prog W0 M H0 nK 16 #[Value.agg #[vi x0, vi x1, vi x2, vi x3, vi x4, vi x5, vsl x6 x7 x8, vsl x9 x10 x11]] fun z W1 W2 => ∃ x39 : Int, z = .returned (vi x39) ∧ Ext W1 W2 ∧
 ((x39 = 0 →
  (Cl Tryz.prog W0 M H0 nK 17 #[Value.agg #[vi x12, vi x13, vi x14, vi x15, vi x16, vi x17, vsl x18 x19 x20]] fun z W3 W4 => ∃ x40 : Int, z = .returned (vi x40) ∧ Ext W3 W4 ∧
  ((x40 = 0 →
   (Cl Tryz.prog W0 M H0 nK 18 #[Value.agg #[vi x0, vi x1, vi x2, vi x3, vi x4, vi x5, vsl x6 x7 x8, vsl x9 x10 x11], Value.agg #[vi x12, vi x13, vi x14, vi x15, vi x16, vi x17, vsl x18 x19 x20]] fun z W5 W6 => ∃ x41 : Bool, z = .returned (vb (x41)) ∧ Ext W5 W6 ∧
   ((x41 = true →
    (Cl Tryz.prog W0 M H0 nK 17 #[Value.agg #[vi x21, vi x22, vi x23, vi x24, vi x25, vi x26, vsl x27 x28 x29]] fun z W7 W8 => ∃ x42 : Int, z = .returned (vi x42) ∧ Ext W7 W8 ∧
    ((x42 = 0 →
     (Cl Tryz.prog W0 M H0 nK 18 #[Value.agg #[vi x0, vi x1, vi x2, vi x3, vi x4, vi x5, vsl x6 x7 x8, vsl x9 x10 x11], Value.agg #[vi x21, vi x22, vi x23, vi x24, vi x25, vi x26, vsl x27 x28 x29]] fun z W9 W10 => ∃ x43 : Bool, z = .returned (vb (x43)) ∧ Ext W9 W10 ∧
     ((x43 = true →
      (Cl Tryz.prog W0 M H0 nK 17 #[Value.agg #[vi x30, vi x31, vi x32, vi x33, vi x34, vi x35, vsl x36 x37 x38]] fun z W11 W12 => ∃ x44 : Int, z = .returned (vi x44) ∧ Ext W11 W12 ∧
      ((x44 = 0 →
       (Cl Tryz.prog W0 M H0 nK 18 #[Value.agg #[vi x0, vi x1, vi x2, vi x3, vi x4, vi x5, vsl x6 x7 x8, vsl x9 x10 x11], Value.agg #[vi x30, vi x31, vi x32, vi x33, vi x34, vi x35, vsl x36 x37 x38]] fun z W13 W14 => ∃ x45 : Bool, z = .returned (vb (x45)) ∧ Ext W13 W14 ∧
       ((x45 = true →
        Rt R W0 M H0 nK (vi 0)) ∧
       (¬ (x45 = true) →
        Rt R W0 M H0 nK (vi 1))))) ∧
      (¬ (x44 = 0) →
       Rt R W0 M H0 nK (vi x44))))) ∧
     (¬ (x43 = true) →
      Rt R W0 M H0 nK (vi 1))))) ∧
    (¬ (x42 = 0) →
     Rt R W0 M H0 nK (vi x42))))) ∧
   (¬ (x41 = true) →
    Rt R W0 M H0 nK (vi 1))))) ∧
  (¬ (x40 = 0) →
   Rt R W0 M H0 nK (vi x40))))) ∧
 (¬ (x39 = 0) →
  Rt R W0 M H0 nK (vi x39)))))) :
  Calls Tryz.prog 4 #[Value.agg #[vi x0, vi x1, vi x2, vi x3, vi x4, vi x5, vsl x6 x7 x8, vsl x9 x10 x11, vi x12, vi x13, vi x14, vi x15, vi x16, vi x17, vsl x18 x19 x20, vi x21, vi x22, vi x23, vi x24, vi x25, vi x26, vsl x27 x28 x29, vi x30, vi x31, vi x32, vi x33, vi x34, vi x35, vsl x36 x37 x38]] W0 R :=
  calls_sxA (M := M) (V := v_groupError) (hi := {loops := [(5, .unroll 4)]}) (args := [.agg [vI 0, vI 1, vI 2, vI 3, vI 4, vI 5, vS 6, vS 9, vI 12, vI 13, vI 14, vI 15, vI 16, vI 17, vS 18, vI 21, vI 22, vI 23, vI 24, vI 25, vI 26, vS 27, vI 30, vI 31, vI 32, vI 33, vI 34, vI 35, vS 36]]) (nv := 39) (e := (upd (upd (upd (upd (upd (upd (upd (upd (upd (upd (upd (upd (upd (upd (upd (upd (upd (upd (upd (upd (upd (upd (upd (upd (upd (upd (upd (upd (upd (upd (upd (upd (upd (upd (upd (upd (upd (upd (upd (fun _ => .i 0) 0 (.i x0)) 1 (.i x1)) 2 (.i x2)) 3 (.i x3)) 4 (.i x4)) 5 (.i x5)) 6 (.p x6)) 7 (.n x7)) 8 (.n x8)) 9 (.p x9)) 10 (.n x10)) 11 (.n x11)) 12 (.i x12)) 13 (.i x13)) 14 (.i x14)) 15 (.i x15)) 16 (.i x16)) 17 (.i x17)) 18 (.p x18)) 19 (.n x19)) 20 (.n x20)) 21 (.i x21)) 22 (.i x22)) 23 (.i x23)) 24 (.i x24)) 25 (.i x25)) 26 (.i x26)) 27 (.p x27)) 28 (.n x28)) 29 (.n x29)) 30 (.i x30)) 31 (.i x31)) 32 (.i x32)) 33 (.i x33)) 34 (.i x34)) 35 (.i x35)) 36 (.p x36)) 37 (.n x37)) 38 (.n x38))) Tryz.func4 hH h (by kernel_rfl) (by kernel_rfl) (by kernel_rfl)
def v_ownGroup : VC :=
(.all 0
(.all 1
(.call 24 [.agg [vI 0, vI 1, vI 2, vI 3, vI 4, vI 5, vS 6]] [] [(39, .i), (40, .i), (41, .i), (42, .i), (43, .i), (44, .i), (45, .p), (46, .n), (47, .n)] (.agg [vI 39, vI 40, vI 41, vI 42, vI 43, vI 44, vS 45]) .fresh
(.all 2
(.esc (.bi .append #[26, 26] 26) [.slK 2 0 0 0, vS 9] [(2, ⟨[], 35⟩)] [(48, .p), (49, .n), (50, .n)] (some (vS 48)) .turn
(.call 24 [.agg [vI 12, vI 13, vI 14, vI 15, vI 16, vI 17, vS 18]] [] [(51, .i), (52, .i), (53, .i), (54, .i), (55, .i), (56, .i), (57, .p), (58, .n), (59, .n)] (.agg [vI 51, vI 52, vI 53, vI 54, vI 55, vI 56, vS 57]) .fresh
(.call 24 [.agg [vI 21, vI 22, vI 23, vI 24, vI 25, vI 26, vS 27]] [] [(60, .i), (61, .i), (62, .i), (63, .i), (64, .i), (65, .i), (66, .p), (67, .n), (68, .n)] (.agg [vI 60, vI 61, vI 62, vI 63, vI 64, vI 65, vS 66]) .fresh
(.call 24 [.agg [vI 30, vI 31, vI 32, vI 33, vI 34, vI 35, vS 36]] [] [(69, .i), (70, .i), (71, .i), (72, .i), (73, .i), (74, .i), (75, .p), (76, .n), (77, .n)] (.agg [vI 69, vI 70, vI 71, vI 72, vI 73, vI 74, vS 75]) .fresh
(.ret (.agg [vI 39, vI 40, vI 41, vI 42, vI 43, vI 44, vS 45, vS 48, vI 51, vI 52, vI 53, vI 54, vI 55, vI 56, vS 57, vI 60, vI 61, vI 62, vI 63, vI 64, vI 65, vS 66, vI 69, vI 70, vI 71, vI 72, vI 73, vI 74, vS 75]) [])))))))))
theorem x_ownGroup (x0 x1 x2 x3 x4 x5 : Int) (x6 : Option Loc) (x7 x8 : Nat) (x9 : Option Loc) (x10 x11 : Nat) (x12 x13 x14 x15 x16 x17 : Int) (x18 : Option Loc) (x19 x20 : Nat) (x21 x22 x23 x24 x25 x26 : Int) (x27 : Option Loc) (x28 x29 : Nat) (x30 x31 x32 x33 x34 x35 : Int) (x36 : Option Loc) (x37 x38 : Nat) (M : Nat → Prop) (H0 : Hp) (W0 : World) (R : Ending → World → Prop) (hH : H0.le (hpOf W0)) (h :
 (∀ b0 : Nat,
 (∀ b1 : Nat,
 (Cl Tryz.prog W0 M H0 nK 24 #[Value.agg #[vi x0, vi x1, vi x2, vi x3, vi x4, vi x5, vsl x6 x7 x8]] fun z W1 W2 => ∃ (x39 x40 x41 x42 x43 x44 : Int) (x45 : Option Loc) (x46 x47 : Nat), z = .returned (Value.agg #[vi x39, vi x40, vi x41, vi x42, vi x43, vi x44, vsl x45 x46 x47]) ∧ Fr W1 W2 H0 fun H1 =>
 (∀ b2 : Nat,
 (Es W0 M H1 (fun W => Kn W0 M H1 W b2 (Obj.cells #[] 35 (0, 0)) ∧ True) fun W3 => ∃ (x48 : Option Loc) (x49 x50 : Nat), Eo Tryz.prog (.bi .append #[26, 26] 26) [Value.slice (some ⟨b2, 0, none⟩) 0 0, vsl x9 x10 x11] W3 (.value (vsl x48 x49 x50)) fun W4 => Tn W0 M H1 W3 W4 fun H2 =>
 (Cl Tryz.prog W0 M H2 nK 24 #[Value.agg #[vi x12, vi x13, vi x14, vi x15, vi x16, vi x17, vsl x18 x19 x20]] fun z W5 W6 => ∃ (x51 x52 x53 x54 x55 x56 : Int) (x57 : Option Loc) (x58 x59 : Nat), z = .returned (Value.agg #[vi x51, vi x52, vi x53, vi x54, vi x55, vi x56, vsl x57 x58 x59]) ∧ Fr W5 W6 H2 fun H3 =>
 (Cl Tryz.prog W0 M H3 nK 24 #[Value.agg #[vi x21, vi x22, vi x23, vi x24, vi x25, vi x26, vsl x27 x28 x29]] fun z W7 W8 => ∃ (x60 x61 x62 x63 x64 x65 : Int) (x66 : Option Loc) (x67 x68 : Nat), z = .returned (Value.agg #[vi x60, vi x61, vi x62, vi x63, vi x64, vi x65, vsl x66 x67 x68]) ∧ Fr W7 W8 H3 fun H4 =>
 (Cl Tryz.prog W0 M H4 nK 24 #[Value.agg #[vi x30, vi x31, vi x32, vi x33, vi x34, vi x35, vsl x36 x37 x38]] fun z W9 W10 => ∃ (x69 x70 x71 x72 x73 x74 : Int) (x75 : Option Loc) (x76 x77 : Nat), z = .returned (Value.agg #[vi x69, vi x70, vi x71, vi x72, vi x73, vi x74, vsl x75 x76 x77]) ∧ Fr W9 W10 H4 fun H5 =>
 Rt R W0 M H5 nK (Value.agg #[vi x39, vi x40, vi x41, vi x42, vi x43, vi x44, vsl x45 x46 x47, vsl x48 x49 x50, vi x51, vi x52, vi x53, vi x54, vi x55, vi x56, vsl x57 x58 x59, vi x60, vi x61, vi x62, vi x63, vi x64, vi x65, vsl x66 x67 x68, vi x69, vi x70, vi x71, vi x72, vi x73, vi x74, vsl x75 x76 x77])))))))))) :
  Calls Tryz.prog 6 #[Value.agg #[vi x0, vi x1, vi x2, vi x3, vi x4, vi x5, vsl x6 x7 x8, vsl x9 x10 x11, vi x12, vi x13, vi x14, vi x15, vi x16, vi x17, vsl x18 x19 x20, vi x21, vi x22, vi x23, vi x24, vi x25, vi x26, vsl x27 x28 x29, vi x30, vi x31, vi x32, vi x33, vi x34, vi x35, vsl x36 x37 x38]] W0 R :=
  calls_sxA (M := M) (V := v_ownGroup) (hi := {loops := [(3, .unroll 4)]}) (args := [.agg [vI 0, vI 1, vI 2, vI 3, vI 4, vI 5, vS 6, vS 9, vI 12, vI 13, vI 14, vI 15, vI 16, vI 17, vS 18, vI 21, vI 22, vI 23, vI 24, vI 25, vI 26, vS 27, vI 30, vI 31, vI 32, vI 33, vI 34, vI 35, vS 36]]) (nv := 39) (e := (upd (upd (upd (upd (upd (upd (upd (upd (upd (upd (upd (upd (upd (upd (upd (upd (upd (upd (upd (upd (upd (upd (upd (upd (upd (upd (upd (upd (upd (upd (upd (upd (upd (upd (upd (upd (upd (upd (upd (fun _ => .i 0) 0 (.i x0)) 1 (.i x1)) 2 (.i x2)) 3 (.i x3)) 4 (.i x4)) 5 (.i x5)) 6 (.p x6)) 7 (.n x7)) 8 (.n x8)) 9 (.p x9)) 10 (.n x10)) 11 (.n x11)) 12 (.i x12)) 13 (.i x13)) 14 (.i x14)) 15 (.i x15)) 16 (.i x16)) 17 (.i x17)) 18 (.p x18)) 19 (.n x19)) 20 (.n x20)) 21 (.i x21)) 22 (.i x22)) 23 (.i x23)) 24 (.i x24)) 25 (.i x25)) 26 (.i x26)) 27 (.p x27)) 28 (.n x28)) 29 (.n x29)) 30 (.i x30)) 31 (.i x31)) 32 (.i x32)) 33 (.i x33)) 34 (.i x34)) 35 (.i x35)) 36 (.p x36)) 37 (.n x37)) 38 (.n x38))) Tryz.func6 hH h (by kernel_rfl) (by kernel_rfl) (by kernel_rfl)
def v_sameGroups : VC :=
(.all 0
(.all 1
(.call 35 [.agg [vI 12, vI 13, vI 14, vI 15, vI 16, vI 17, vS 18], .agg [vI 51, vI 52, vI 53, vI 54, vI 55, vI 56, vS 57]] [] [(78, .b)] (.bool (.v 78)) .same
(.ite (.v 78)
(.call 35 [.agg [vI 21, vI 22, vI 23, vI 24, vI 25, vI 26, vS 27], .agg [vI 60, vI 61, vI 62, vI 63, vI 64, vI 65, vS 66]] [] [(79, .b)] (.bool (.v 79)) .same
(.ite (.v 79)
(.call 35 [.agg [vI 30, vI 31, vI 32, vI 33, vI 34, vI 35, vS 36], .agg [vI 69, vI 70, vI 71, vI 72, vI 73, vI 74, vS 75]] [] [(80, .b)] (.bool (.v 80)) .same
(.ite (.v 80)
(.call 36 [.agg [vI 0, vI 1, vI 2, vI 3, vI 4, vI 5, vS 6, vS 9], .agg [vI 39, vI 40, vI 41, vI 42, vI 43, vI 44, vS 45, vS 48]] [] [(81, .b)] (.bool (.v 81)) .same
(.ret (.bool (.v 81)) []))
(.ret (.bool (.k false)) [])))
(.ret (.bool (.k false)) [])))
(.ret (.bool (.k false)) [])))))
theorem x_sameGroups (x0 x1 x2 x3 x4 x5 : Int) (x6 : Option Loc) (x7 x8 : Nat) (x9 : Option Loc) (x10 x11 : Nat) (x12 x13 x14 x15 x16 x17 : Int) (x18 : Option Loc) (x19 x20 : Nat) (x21 x22 x23 x24 x25 x26 : Int) (x27 : Option Loc) (x28 x29 : Nat) (x30 x31 x32 x33 x34 x35 : Int) (x36 : Option Loc) (x37 x38 : Nat) (x39 x40 x41 x42 x43 x44 : Int) (x45 : Option Loc) (x46 x47 : Nat) (x48 : Option Loc) (x49 x50 : Nat) (x51 x52 x53 x54 x55 x56 : Int) (x57 : Option Loc) (x58 x59 : Nat) (x60 x61 x62 x63 x64 x65 : Int) (x66 : Option Loc) (x67 x68 : Nat) (x69 x70 x71 x72 x73 x74 : Int) (x75 : Option Loc) (x76 x77 : Nat) (M : Nat → Prop) (H0 : Hp) (W0 : World) (R : Ending → World → Prop) (hH : H0.le (hpOf W0)) (h :
 (∀ b0 : Nat,
 (∀ b1 : Nat,
 (Cl Tryz.prog W0 M H0 nK 35 #[Value.agg #[vi x12, vi x13, vi x14, vi x15, vi x16, vi x17, vsl x18 x19 x20], Value.agg #[vi x51, vi x52, vi x53, vi x54, vi x55, vi x56, vsl x57 x58 x59]] fun z W1 W2 => ∃ x78 : Bool, z = .returned (vb (x78)) ∧ Ext W1 W2 ∧
 ((x78 = true →
  (Cl Tryz.prog W0 M H0 nK 35 #[Value.agg #[vi x21, vi x22, vi x23, vi x24, vi x25, vi x26, vsl x27 x28 x29], Value.agg #[vi x60, vi x61, vi x62, vi x63, vi x64, vi x65, vsl x66 x67 x68]] fun z W3 W4 => ∃ x79 : Bool, z = .returned (vb (x79)) ∧ Ext W3 W4 ∧
  ((x79 = true →
   (Cl Tryz.prog W0 M H0 nK 35 #[Value.agg #[vi x30, vi x31, vi x32, vi x33, vi x34, vi x35, vsl x36 x37 x38], Value.agg #[vi x69, vi x70, vi x71, vi x72, vi x73, vi x74, vsl x75 x76 x77]] fun z W5 W6 => ∃ x80 : Bool, z = .returned (vb (x80)) ∧ Ext W5 W6 ∧
   ((x80 = true →
    (Cl Tryz.prog W0 M H0 nK 36 #[Value.agg #[vi x0, vi x1, vi x2, vi x3, vi x4, vi x5, vsl x6 x7 x8, vsl x9 x10 x11], Value.agg #[vi x39, vi x40, vi x41, vi x42, vi x43, vi x44, vsl x45 x46 x47, vsl x48 x49 x50]] fun z W7 W8 => ∃ x81 : Bool, z = .returned (vb (x81)) ∧ Ext W7 W8 ∧
    Rt R W0 M H0 nK (vb (x81)))) ∧
   (¬ (x80 = true) →
    Rt R W0 M H0 nK (vb (false)))))) ∧
  (¬ (x79 = true) →
   Rt R W0 M H0 nK (vb (false)))))) ∧
 (¬ (x78 = true) →
  Rt R W0 M H0 nK (vb (false)))))))) :
  Calls Tryz.prog 15 #[Value.agg #[vi x0, vi x1, vi x2, vi x3, vi x4, vi x5, vsl x6 x7 x8, vsl x9 x10 x11, vi x12, vi x13, vi x14, vi x15, vi x16, vi x17, vsl x18 x19 x20, vi x21, vi x22, vi x23, vi x24, vi x25, vi x26, vsl x27 x28 x29, vi x30, vi x31, vi x32, vi x33, vi x34, vi x35, vsl x36 x37 x38], Value.agg #[vi x39, vi x40, vi x41, vi x42, vi x43, vi x44, vsl x45 x46 x47, vsl x48 x49 x50, vi x51, vi x52, vi x53, vi x54, vi x55, vi x56, vsl x57 x58 x59, vi x60, vi x61, vi x62, vi x63, vi x64, vi x65, vsl x66 x67 x68, vi x69, vi x70, vi x71, vi x72, vi x73, vi x74, vsl x75 x76 x77]] W0 R :=
  calls_sxA (M := M) (V := v_sameGroups) (hi := {loops := [(2, .unroll 4)]}) (args := [.agg [vI 0, vI 1, vI 2, vI 3, vI 4, vI 5, vS 6, vS 9, vI 12, vI 13, vI 14, vI 15, vI 16, vI 17, vS 18, vI 21, vI 22, vI 23, vI 24, vI 25, vI 26, vS 27, vI 30, vI 31, vI 32, vI 33, vI 34, vI 35, vS 36], .agg [vI 39, vI 40, vI 41, vI 42, vI 43, vI 44, vS 45, vS 48, vI 51, vI 52, vI 53, vI 54, vI 55, vI 56, vS 57, vI 60, vI 61, vI 62, vI 63, vI 64, vI 65, vS 66, vI 69, vI 70, vI 71, vI 72, vI 73, vI 74, vS 75]]) (nv := 78) (e := (upd (upd (upd (upd (upd (upd (upd (upd (upd (upd (upd (upd (upd (upd (upd (upd (upd (upd (upd (upd (upd (upd (upd (upd (upd (upd (upd (upd (upd (upd (upd (upd (upd (upd (upd (upd (upd (upd (upd (upd (upd (upd (upd (upd (upd (upd (upd (upd (upd (upd (upd (upd (upd (upd (upd (upd (upd (upd (upd (upd (upd (upd (upd (upd (upd (upd (upd (upd (upd (upd (upd (upd (upd (upd (upd (upd (upd (upd (fun _ => .i 0) 0 (.i x0)) 1 (.i x1)) 2 (.i x2)) 3 (.i x3)) 4 (.i x4)) 5 (.i x5)) 6 (.p x6)) 7 (.n x7)) 8 (.n x8)) 9 (.p x9)) 10 (.n x10)) 11 (.n x11)) 12 (.i x12)) 13 (.i x13)) 14 (.i x14)) 15 (.i x15)) 16 (.i x16)) 17 (.i x17)) 18 (.p x18)) 19 (.n x19)) 20 (.n x20)) 21 (.i x21)) 22 (.i x22)) 23 (.i x23)) 24 (.i x24)) 25 (.i x25)) 26 (.i x26)) 27 (.p x27)) 28 (.n x28)) 29 (.n x29)) 30 (.i x30)) 31 (.i x31)) 32 (.i x32)) 33 (.i x33)) 34 (.i x34)) 35 (.i x35)) 36 (.p x36)) 37 (.n x37)) 38 (.n x38)) 39 (.i x39)) 40 (.i x40)) 41 (.i x41)) 42 (.i x42)) 43 (.i x43)) 44 (.i x44)) 45 (.p x45)) 46 (.n x46)) 47 (.n x47)) 48 (.p x48)) 49 (.n x49)) 50 (.n x50)) 51 (.i x51)) 52 (.i x52)) 53 (.i x53)) 54 (.i x54)) 55 (.i x55)) 56 (.i x56)) 57 (.p x57)) 58 (.n x58)) 59 (.n x59)) 60 (.i x60)) 61 (.i x61)) 62 (.i x62)) 63 (.i x63)) 64 (.i x64)) 65 (.i x65)) 66 (.p x66)) 67 (.n x67)) 68 (.n x68)) 69 (.i x69)) 70 (.i x70)) 71 (.i x71)) 72 (.i x72)) 73 (.i x73)) 74 (.i x74)) 75 (.p x75)) 76 (.n x76)) 77 (.n x77))) Tryz.func15 hH h (by kernel_rfl) (by kernel_rfl) (by kernel_rfl)
def v_rGroupPut : VC :=
(.all 0
(.all 1
(.all 2
(.call 4 [.agg [vI 0, vI 1, vI 2, vI 3, vI 4, vI 5, vS 6, vS 9, vI 12, vI 13, vI 14, vI 15, vI 16, vI 17, vS 18, vI 21, vI 22, vI 23, vI 24, vI 25, vI 26, vS 27, vI 30, vI 31, vI 32, vI 33, vI 34, vI 35, vS 36]] [] [(48, .i)] (vI 48) .same
(.ite (.eq (.v 48) (.k 0))
(.call 32 [.agg [vI 0, vI 1, vI 2, vI 3, vI 4, vI 5, vS 6, vS 9], .agg [vI 39, vI 40, vI 41, vI 42, vI 43, vI 44, vI 45, vI 46, vI 47]] [] [(49, .i), (50, .i), (51, .i), (52, .i), (53, .i), (54, .i), (55, .p), (56, .n), (57, .n), (58, .p), (59, .n), (60, .n), (61, .i), (62, .i)] (.tup [.agg [vI 49, vI 50, vI 51, vI 52, vI 53, vI 54, vS 55, vS 58], vI 61, vI 62]) .fresh
(.all 3
(.ite (.eq (.v 62) (.k 0))
(.call 6 [.agg [vI 0, vI 1, vI 2, vI 3, vI 4, vI 5, vS 6, vS 9, vI 12, vI 13, vI 14, vI 15, vI 16, vI 17, vS 18, vI 21, vI 22, vI 23, vI 24, vI 25, vI 26, vS 27, vI 30, vI 31, vI 32, vI 33, vI 34, vI 35, vS 36]] [] [(63, .i), (64, .i), (65, .i), (66, .i), (67, .i), (68, .i), (69, .p), (70, .n), (71, .n), (72, .p), (73, .n), (74, .n), (75, .i), (76, .i), (77, .i), (78, .i), (79, .i), (80, .i), (81, .p), (82, .n), (83, .n), (84, .i), (85, .i), (86, .i), (87, .i), (88, .i), (89, .i), (90, .p), (91, .n), (92, .n), (93, .i), (94, .i), (95, .i), (96, .i), (97, .i), (98, .i), (99, .p), (100, .n), (101, .n)] (.agg [vI 63, vI 64, vI 65, vI 66, vI 67, vI 68, vS 69, vS 72, vI 75, vI 76, vI 77, vI 78, vI 79, vI 80, vS 81, vI 84, vI 85, vI 86, vI 87, vI 88, vI 89, vS 90, vI 93, vI 94, vI 95, vI 96, vI 97, vI 98, vS 99]) .fresh
(.all 4
(.ret (.tup [.agg [vI 49, vI 50, vI 51, vI 52, vI 53, vI 54, vS 55, vS 58, vI 75, vI 76, vI 77, vI 78, vI 79, vI 80, vS 81, vI 84, vI 85, vI 86, vI 87, vI 88, vI 89, vS 90, vI 93, vI 94, vI 95, vI 96, vI 97, vI 98, vS 99], vI 61, .int .i64 (.k 0)]) [])))
(.ret (.tup [.agg [.int .i64 (.k 0), .int .i64 (.k 0), .int .i64 (.k 0), .int .i64 (.k 0), .int .i64 (.k 0), .int .i64 (.k 0), .c (Value.slice none 0 0), .c (Value.slice none 0 0), .int .i64 (.k 0), .int .i64 (.k 0), .int .i64 (.k 0), .int .i64 (.k 0), .int .i64 (.k 0), .int .i64 (.k 0), .c (Value.slice none 0 0), .int .i64 (.k 0), .int .i64 (.k 0), .int .i64 (.k 0), .int .i64 (.k 0), .int .i64 (.k 0), .int .i64 (.k 0), .c (Value.slice none 0 0), .int .i64 (.k 0), .int .i64 (.k 0), .int .i64 (.k 0), .int .i64 (.k 0), .int .i64 (.k 0), .int .i64 (.k 0), .c (Value.slice none 0 0)], .int .i64 (.k 0), vI 62]) []))))
(.ret (.tup [.agg [.int .i64 (.k 0), .int .i64 (.k 0), .int .i64 (.k 0), .int .i64 (.k 0), .int .i64 (.k 0), .int .i64 (.k 0), .c (Value.slice none 0 0), .c (Value.slice none 0 0), .int .i64 (.k 0), .int .i64 (.k 0), .int .i64 (.k 0), .int .i64 (.k 0), .int .i64 (.k 0), .int .i64 (.k 0), .c (Value.slice none 0 0), .int .i64 (.k 0), .int .i64 (.k 0), .int .i64 (.k 0), .int .i64 (.k 0), .int .i64 (.k 0), .int .i64 (.k 0), .c (Value.slice none 0 0), .int .i64 (.k 0), .int .i64 (.k 0), .int .i64 (.k 0), .int .i64 (.k 0), .int .i64 (.k 0), .int .i64 (.k 0), .c (Value.slice none 0 0)], .int .i64 (.k 0), vI 48]) []))))))
theorem x_rGroupPut (x0 x1 x2 x3 x4 x5 : Int) (x6 : Option Loc) (x7 x8 : Nat) (x9 : Option Loc) (x10 x11 : Nat) (x12 x13 x14 x15 x16 x17 : Int) (x18 : Option Loc) (x19 x20 : Nat) (x21 x22 x23 x24 x25 x26 : Int) (x27 : Option Loc) (x28 x29 : Nat) (x30 x31 x32 x33 x34 x35 : Int) (x36 : Option Loc) (x37 x38 : Nat) (x39 x40 x41 x42 x43 x44 x45 x46 x47 : Int) (M : Nat → Prop) (H0 : Hp) (W0 : World) (R : Ending → World → Prop) (hH : H0.le (hpOf W0)) (h :
 (∀ b0 : Nat,
 (∀ b1 : Nat,
 (∀ b2 : Nat,
 (Cl Tryz.prog W0 M H0 nK 4 #[Value.agg #[vi x0, vi x1, vi x2, vi x3, vi x4, vi x5, vsl x6 x7 x8, vsl x9 x10 x11, vi x12, vi x13, vi x14, vi x15, vi x16, vi x17, vsl x18 x19 x20, vi x21, vi x22, vi x23, vi x24, vi x25, vi x26, vsl x27 x28 x29, vi x30, vi x31, vi x32, vi x33, vi x34, vi x35, vsl x36 x37 x38]] fun z W1 W2 => ∃ x48 : Int, z = .returned (vi x48) ∧ Ext W1 W2 ∧
 ((x48 = 0 →
  (Cl Tryz.prog W0 M H0 nK 32 #[Value.agg #[vi x0, vi x1, vi x2, vi x3, vi x4, vi x5, vsl x6 x7 x8, vsl x9 x10 x11], Value.agg #[vi x39, vi x40, vi x41, vi x42, vi x43, vi x44, vi x45, vi x46, vi x47]] fun z W3 W4 => ∃ (x49 x50 x51 x52 x53 x54 : Int) (x55 : Option Loc) (x56 x57 : Nat) (x58 : Option Loc) (x59 x60 : Nat) (x61 x62 : Int), z = .returned (Value.tuple #[Value.agg #[vi x49, vi x50, vi x51, vi x52, vi x53, vi x54, vsl x55 x56 x57, vsl x58 x59 x60], vi x61, vi x62]) ∧ Fr W3 W4 H0 fun H1 =>
  (∀ b3 : Nat,
  ((x62 = 0 →
   (Cl Tryz.prog W0 M H1 nK 6 #[Value.agg #[vi x0, vi x1, vi x2, vi x3, vi x4, vi x5, vsl x6 x7 x8, vsl x9 x10 x11, vi x12, vi x13, vi x14, vi x15, vi x16, vi x17, vsl x18 x19 x20, vi x21, vi x22, vi x23, vi x24, vi x25, vi x26, vsl x27 x28 x29, vi x30, vi x31, vi x32, vi x33, vi x34, vi x35, vsl x36 x37 x38]] fun z W5 W6 => ∃ (x63 x64 x65 x66 x67 x68 : Int) (x69 : Option Loc) (x70 x71 : Nat) (x72 : Option Loc) (x73 x74 : Nat) (x75 x76 x77 x78 x79 x80 : Int) (x81 : Option Loc) (x82 x83 : Nat) (x84 x85 x86 x87 x88 x89 : Int) (x90 : Option Loc) (x91 x92 : Nat) (x93 x94 x95 x96 x97 x98 : Int) (x99 : Option Loc) (x100 x101 : Nat), z = .returned (Value.agg #[vi x63, vi x64, vi x65, vi x66, vi x67, vi x68, vsl x69 x70 x71, vsl x72 x73 x74, vi x75, vi x76, vi x77, vi x78, vi x79, vi x80, vsl x81 x82 x83, vi x84, vi x85, vi x86, vi x87, vi x88, vi x89, vsl x90 x91 x92, vi x93, vi x94, vi x95, vi x96, vi x97, vi x98, vsl x99 x100 x101]) ∧ Fr W5 W6 H1 fun H2 =>
   (∀ b4 : Nat,
   Rt R W0 M H2 nK (Value.tuple #[Value.agg #[vi x49, vi x50, vi x51, vi x52, vi x53, vi x54, vsl x55 x56 x57, vsl x58 x59 x60, vi x75, vi x76, vi x77, vi x78, vi x79, vi x80, vsl x81 x82 x83, vi x84, vi x85, vi x86, vi x87, vi x88, vi x89, vsl x90 x91 x92, vi x93, vi x94, vi x95, vi x96, vi x97, vi x98, vsl x99 x100 x101], vi x61, vi 0])))) ∧
  (¬ (x62 = 0) →
   Rt R W0 M H1 nK (Value.tuple #[Value.agg #[vi 0, vi 0, vi 0, vi 0, vi 0, vi 0, Value.slice none 0 0, Value.slice none 0 0, vi 0, vi 0, vi 0, vi 0, vi 0, vi 0, Value.slice none 0 0, vi 0, vi 0, vi 0, vi 0, vi 0, vi 0, Value.slice none 0 0, vi 0, vi 0, vi 0, vi 0, vi 0, vi 0, Value.slice none 0 0], vi 0, vi x62])))))) ∧
 (¬ (x48 = 0) →
  Rt R W0 M H0 nK (Value.tuple #[Value.agg #[vi 0, vi 0, vi 0, vi 0, vi 0, vi 0, Value.slice none 0 0, Value.slice none 0 0, vi 0, vi 0, vi 0, vi 0, vi 0, vi 0, Value.slice none 0 0, vi 0, vi 0, vi 0, vi 0, vi 0, vi 0, Value.slice none 0 0, vi 0, vi 0, vi 0, vi 0, vi 0, vi 0, Value.slice none 0 0], vi 0, vi x48])))))))) :
  Calls Tryz.prog 13 #[Value.agg #[vi x0, vi x1, vi x2, vi x3, vi x4, vi x5, vsl x6 x7 x8, vsl x9 x10 x11, vi x12, vi x13, vi x14, vi x15, vi x16, vi x17, vsl x18 x19 x20, vi x21, vi x22, vi x23, vi x24, vi x25, vi x26, vsl x27 x28 x29, vi x30, vi x31, vi x32, vi x33, vi x34, vi x35, vsl x36 x37 x38], Value.agg #[vi x39, vi x40, vi x41, vi x42, vi x43, vi x44, vi x45, vi x46, vi x47]] W0 R :=
  calls_sxA (M := M) (V := v_rGroupPut) (hi := {}) (args := [.agg [vI 0, vI 1, vI 2, vI 3, vI 4, vI 5, vS 6, vS 9, vI 12, vI 13, vI 14, vI 15, vI 16, vI 17, vS 18, vI 21, vI 22, vI 23, vI 24, vI 25, vI 26, vS 27, vI 30, vI 31, vI 32, vI 33, vI 34, vI 35, vS 36], .agg [vI 39, vI 40, vI 41, vI 42, vI 43, vI 44, vI 45, vI 46, vI 47]]) (nv := 48) (e := (upd (upd (upd (upd (upd (upd (upd (upd (upd (upd (upd (upd (upd (upd (upd (upd (upd (upd (upd (upd (upd (upd (upd (upd (upd (upd (upd (upd (upd (upd (upd (upd (upd (upd (upd (upd (upd (upd (upd (upd (upd (upd (upd (upd (upd (upd (upd (upd (fun _ => .i 0) 0 (.i x0)) 1 (.i x1)) 2 (.i x2)) 3 (.i x3)) 4 (.i x4)) 5 (.i x5)) 6 (.p x6)) 7 (.n x7)) 8 (.n x8)) 9 (.p x9)) 10 (.n x10)) 11 (.n x11)) 12 (.i x12)) 13 (.i x13)) 14 (.i x14)) 15 (.i x15)) 16 (.i x16)) 17 (.i x17)) 18 (.p x18)) 19 (.n x19)) 20 (.n x20)) 21 (.i x21)) 22 (.i x22)) 23 (.i x23)) 24 (.i x24)) 25 (.i x25)) 26 (.i x26)) 27 (.p x27)) 28 (.n x28)) 29 (.n x29)) 30 (.i x30)) 31 (.i x31)) 32 (.i x32)) 33 (.i x33)) 34 (.i x34)) 35 (.i x35)) 36 (.p x36)) 37 (.n x37)) 38 (.n x38)) 39 (.i x39)) 40 (.i x40)) 41 (.i x41)) 42 (.i x42)) 43 (.i x43)) 44 (.i x44)) 45 (.i x45)) 46 (.i x46)) 47 (.i x47))) Tryz.func13 hH h (by kernel_rfl) (by kernel_rfl) (by kernel_rfl)
def v_rGroupRun : VC :=
(.all 0
(.all 1
(.call 4 [.agg [vI 0, vI 1, vI 2, vI 3, vI 4, vI 5, vS 6, vS 9, vI 12, vI 13, vI 14, vI 15, vI 16, vI 17, vS 18, vI 21, vI 22, vI 23, vI 24, vI 25, vI 26, vS 27, vI 30, vI 31, vI 32, vI 33, vI 34, vI 35, vS 36]] [] [(41, .i)] (vI 41) .same
(.ite (.eq (.v 41) (.k 0))
(.call 33 [vI 39, .int .i64 (.k 0), .int .i64 (.k 2)] [] [(42, .b)] (.bool (.v 42)) .same
(.ite (.v 42)
(.chk (.idx (.v 39) (.k 3))
(.imp (.eq (.v 39) (.k 0))
(.call 34 [.agg [vI 0, vI 1, vI 2, vI 3, vI 4, vI 5, vS 6, vS 9], .agg [vI 12, vI 13, vI 14, vI 15, vI 16, vI 17, vS 18], vI 40] [] [(43, .i), (44, .i), (45, .i), (46, .i), (47, .i), (48, .i), (49, .p), (50, .n), (51, .n), (52, .i), (53, .i)] (.tup [.agg [vI 43, vI 44, vI 45, vI 46, vI 47, vI 48, vS 49], vI 52, vI 53]) .fresh
(.all 2
(.ite (.eq (.v 53) (.k 0))
(.call 6 [.agg [vI 0, vI 1, vI 2, vI 3, vI 4, vI 5, vS 6, vS 9, vI 12, vI 13, vI 14, vI 15, vI 16, vI 17, vS 18, vI 21, vI 22, vI 23, vI 24, vI 25, vI 26, vS 27, vI 30, vI 31, vI 32, vI 33, vI 34, vI 35, vS 36]] [] [(54, .i), (55, .i), (56, .i), (57, .i), (58, .i), (59, .i), (60, .p), (61, .n), (62, .n), (63, .p), (64, .n), (65, .n), (66, .i), (67, .i), (68, .i), (69, .i), (70, .i), (71, .i), (72, .p), (73, .n), (74, .n), (75, .i), (76, .i), (77, .i), (78, .i), (79, .i), (80, .i), (81, .p), (82, .n), (83, .n), (84, .i), (85, .i), (86, .i), (87, .i), (88, .i), (89, .i), (90, .p), (91, .n), (92, .n)] (.agg [vI 54, vI 55, vI 56, vI 57, vI 58, vI 59, vS 60, vS 63, vI 66, vI 67, vI 68, vI 69, vI 70, vI 71, vS 72, vI 75, vI 76, vI 77, vI 78, vI 79, vI 80, vS 81, vI 84, vI 85, vI 86, vI 87, vI 88, vI 89, vS 90]) .fresh
(.all 3
(.ret (.tup [.agg [vI 54, vI 55, vI 56, vI 57, vI 58, vI 59, vS 60, vS 63, vI 43, vI 44, vI 45, vI 46, vI 47, vI 48, vS 49, vI 75, vI 76, vI 77, vI 78, vI 79, vI 80, vS 81, vI 84, vI 85, vI 86, vI 87, vI 88, vI 89, vS 90], vI 52, .int .i64 (.k 0)]) [])))
(.ret (.tup [.agg [.int .i64 (.k 0), .int .i64 (.k 0), .int .i64 (.k 0), .int .i64 (.k 0), .int .i64 (.k 0), .int .i64 (.k 0), .c (Value.slice none 0 0), .c (Value.slice none 0 0), .int .i64 (.k 0), .int .i64 (.k 0), .int .i64 (.k 0), .int .i64 (.k 0), .int .i64 (.k 0), .int .i64 (.k 0), .c (Value.slice none 0 0), .int .i64 (.k 0), .int .i64 (.k 0), .int .i64 (.k 0), .int .i64 (.k 0), .int .i64 (.k 0), .int .i64 (.k 0), .c (Value.slice none 0 0), .int .i64 (.k 0), .int .i64 (.k 0), .int .i64 (.k 0), .int .i64 (.k 0), .int .i64 (.k 0), .int .i64 (.k 0), .c (Value.slice none 0 0)], .int .i64 (.k 0), vI 53]) []))))
(.imp (.eq (.v 39) (.k 1))
(.call 34 [.agg [vI 0, vI 1, vI 2, vI 3, vI 4, vI 5, vS 6, vS 9], .agg [vI 21, vI 22, vI 23, vI 24, vI 25, vI 26, vS 27], vI 40] [] [(43, .i), (44, .i), (45, .i), (46, .i), (47, .i), (48, .i), (49, .p), (50, .n), (51, .n), (52, .i), (53, .i)] (.tup [.agg [vI 43, vI 44, vI 45, vI 46, vI 47, vI 48, vS 49], vI 52, vI 53]) .fresh
(.all 2
(.ite (.eq (.v 53) (.k 0))
(.call 6 [.agg [vI 0, vI 1, vI 2, vI 3, vI 4, vI 5, vS 6, vS 9, vI 12, vI 13, vI 14, vI 15, vI 16, vI 17, vS 18, vI 21, vI 22, vI 23, vI 24, vI 25, vI 26, vS 27, vI 30, vI 31, vI 32, vI 33, vI 34, vI 35, vS 36]] [] [(54, .i), (55, .i), (56, .i), (57, .i), (58, .i), (59, .i), (60, .p), (61, .n), (62, .n), (63, .p), (64, .n), (65, .n), (66, .i), (67, .i), (68, .i), (69, .i), (70, .i), (71, .i), (72, .p), (73, .n), (74, .n), (75, .i), (76, .i), (77, .i), (78, .i), (79, .i), (80, .i), (81, .p), (82, .n), (83, .n), (84, .i), (85, .i), (86, .i), (87, .i), (88, .i), (89, .i), (90, .p), (91, .n), (92, .n)] (.agg [vI 54, vI 55, vI 56, vI 57, vI 58, vI 59, vS 60, vS 63, vI 66, vI 67, vI 68, vI 69, vI 70, vI 71, vS 72, vI 75, vI 76, vI 77, vI 78, vI 79, vI 80, vS 81, vI 84, vI 85, vI 86, vI 87, vI 88, vI 89, vS 90]) .fresh
(.all 3
(.ret (.tup [.agg [vI 54, vI 55, vI 56, vI 57, vI 58, vI 59, vS 60, vS 63, vI 66, vI 67, vI 68, vI 69, vI 70, vI 71, vS 72, vI 43, vI 44, vI 45, vI 46, vI 47, vI 48, vS 49, vI 84, vI 85, vI 86, vI 87, vI 88, vI 89, vS 90], vI 52, .int .i64 (.k 0)]) [])))
(.ret (.tup [.agg [.int .i64 (.k 0), .int .i64 (.k 0), .int .i64 (.k 0), .int .i64 (.k 0), .int .i64 (.k 0), .int .i64 (.k 0), .c (Value.slice none 0 0), .c (Value.slice none 0 0), .int .i64 (.k 0), .int .i64 (.k 0), .int .i64 (.k 0), .int .i64 (.k 0), .int .i64 (.k 0), .int .i64 (.k 0), .c (Value.slice none 0 0), .int .i64 (.k 0), .int .i64 (.k 0), .int .i64 (.k 0), .int .i64 (.k 0), .int .i64 (.k 0), .int .i64 (.k 0), .c (Value.slice none 0 0), .int .i64 (.k 0), .int .i64 (.k 0), .int .i64 (.k 0), .int .i64 (.k 0), .int .i64 (.k 0), .int .i64 (.k 0), .c (Value.slice none 0 0)], .int .i64 (.k 0), vI 53]) []))))
(.imp (.eq (.v 39) (.k 2))
(.call 34 [.agg [vI 0, vI 1, vI 2, vI 3, vI 4, vI 5, vS 6, vS 9], .agg [vI 30, vI 31, vI 32, vI 33, vI 34, vI 35, vS 36], vI 40] [] [(43, .i), (44, .i), (45, .i), (46, .i), (47, .i), (48, .i), (49, .p), (50, .n), (51, .n), (52, .i), (53, .i)] (.tup [.agg [vI 43, vI 44, vI 45, vI 46, vI 47, vI 48, vS 49], vI 52, vI 53]) .fresh
(.all 2
(.ite (.eq (.v 53) (.k 0))
(.call 6 [.agg [vI 0, vI 1, vI 2, vI 3, vI 4, vI 5, vS 6, vS 9, vI 12, vI 13, vI 14, vI 15, vI 16, vI 17, vS 18, vI 21, vI 22, vI 23, vI 24, vI 25, vI 26, vS 27, vI 30, vI 31, vI 32, vI 33, vI 34, vI 35, vS 36]] [] [(54, .i), (55, .i), (56, .i), (57, .i), (58, .i), (59, .i), (60, .p), (61, .n), (62, .n), (63, .p), (64, .n), (65, .n), (66, .i), (67, .i), (68, .i), (69, .i), (70, .i), (71, .i), (72, .p), (73, .n), (74, .n), (75, .i), (76, .i), (77, .i), (78, .i), (79, .i), (80, .i), (81, .p), (82, .n), (83, .n), (84, .i), (85, .i), (86, .i), (87, .i), (88, .i), (89, .i), (90, .p), (91, .n), (92, .n)] (.agg [vI 54, vI 55, vI 56, vI 57, vI 58, vI 59, vS 60, vS 63, vI 66, vI 67, vI 68, vI 69, vI 70, vI 71, vS 72, vI 75, vI 76, vI 77, vI 78, vI 79, vI 80, vS 81, vI 84, vI 85, vI 86, vI 87, vI 88, vI 89, vS 90]) .fresh
(.all 3
(.ret (.tup [.agg [vI 54, vI 55, vI 56, vI 57, vI 58, vI 59, vS 60, vS 63, vI 66, vI 67, vI 68, vI 69, vI 70, vI 71, vS 72, vI 75, vI 76, vI 77, vI 78, vI 79, vI 80, vS 81, vI 43, vI 44, vI 45, vI 46, vI 47, vI 48, vS 49], vI 52, .int .i64 (.k 0)]) [])))
(.ret (.tup [.agg [.int .i64 (.k 0), .int .i64 (.k 0), .int .i64 (.k 0), .int .i64 (.k 0), .int .i64 (.k 0), .int .i64 (.k 0), .c (Value.slice none 0 0), .c (Value.slice none 0 0), .int .i64 (.k 0), .int .i64 (.k 0), .int .i64 (.k 0), .int .i64 (.k 0), .int .i64 (.k 0), .int .i64 (.k 0), .c (Value.slice none 0 0), .int .i64 (.k 0), .int .i64 (.k 0), .int .i64 (.k 0), .int .i64 (.k 0), .int .i64 (.k 0), .int .i64 (.k 0), .c (Value.slice none 0 0), .int .i64 (.k 0), .int .i64 (.k 0), .int .i64 (.k 0), .int .i64 (.k 0), .int .i64 (.k 0), .int .i64 (.k 0), .c (Value.slice none 0 0)], .int .i64 (.k 0), vI 53]) []))))
.tt))))
(.ret (.tup [.agg [.int .i64 (.k 0), .int .i64 (.k 0), .int .i64 (.k 0), .int .i64 (.k 0), .int .i64 (.k 0), .int .i64 (.k 0), .c (Value.slice none 0 0), .c (Value.slice none 0 0), .int .i64 (.k 0), .int .i64 (.k 0), .int .i64 (.k 0), .int .i64 (.k 0), .int .i64 (.k 0), .int .i64 (.k 0), .c (Value.slice none 0 0), .int .i64 (.k 0), .int .i64 (.k 0), .int .i64 (.k 0), .int .i64 (.k 0), .int .i64 (.k 0), .int .i64 (.k 0), .c (Value.slice none 0 0), .int .i64 (.k 0), .int .i64 (.k 0), .int .i64 (.k 0), .int .i64 (.k 0), .int .i64 (.k 0), .int .i64 (.k 0), .c (Value.slice none 0 0)], .int .i64 (.k 0), .int .i64 (.k 3)]) [])))
(.ret (.tup [.agg [.int .i64 (.k 0), .int .i64 (.k 0), .int .i64 (.k 0), .int .i64 (.k 0), .int .i64 (.k 0), .int .i64 (.k 0), .c (Value.slice none 0 0), .c (Value.slice none 0 0), .int .i64 (.k 0), .int .i64 (.k 0), .int .i64 (.k 0), .int .i64 (.k 0), .int .i64 (.k 0), .int .i64 (.k 0), .c (Value.slice none 0 0), .int .i64 (.k 0), .int .i64 (.k 0), .int .i64 (.k 0), .int .i64 (.k 0), .int .i64 (.k 0), .int .i64 (.k 0), .c (Value.slice none 0 0), .int .i64 (.k 0), .int .i64 (.k 0), .int .i64 (.k 0), .int .i64 (.k 0), .int .i64 (.k 0), .int .i64 (.k 0), .c (Value.slice none 0 0)], .int .i64 (.k 0), vI 41]) [])))))
theorem x_rGroupRun (x0 x1 x2 x3 x4 x5 : Int) (x6 : Option Loc) (x7 x8 : Nat) (x9 : Option Loc) (x10 x11 : Nat) (x12 x13 x14 x15 x16 x17 : Int) (x18 : Option Loc) (x19 x20 : Nat) (x21 x22 x23 x24 x25 x26 : Int) (x27 : Option Loc) (x28 x29 : Nat) (x30 x31 x32 x33 x34 x35 : Int) (x36 : Option Loc) (x37 x38 : Nat) (x39 x40 : Int) (M : Nat → Prop) (H0 : Hp) (W0 : World) (R : Ending → World → Prop) (hH : H0.le (hpOf W0)) (h :
 (∀ b0 : Nat,
 (∀ b1 : Nat,
 (Cl Tryz.prog W0 M H0 nK 4 #[Value.agg #[vi x0, vi x1, vi x2, vi x3, vi x4, vi x5, vsl x6 x7 x8, vsl x9 x10 x11, vi x12, vi x13, vi x14, vi x15, vi x16, vi x17, vsl x18 x19 x20, vi x21, vi x22, vi x23, vi x24, vi x25, vi x26, vsl x27 x28 x29, vi x30, vi x31, vi x32, vi x33, vi x34, vi x35, vsl x36 x37 x38]] fun z W1 W2 => ∃ x41 : Int, z = .returned (vi x41) ∧ Ext W1 W2 ∧
 ((x41 = 0 →
  (Cl Tryz.prog W0 M H0 nK 33 #[vi x39, vi 0, vi 2] fun z W3 W4 => ∃ x42 : Bool, z = .returned (vb (x42)) ∧ Ext W3 W4 ∧
  ((x42 = true →
   (((0 : Int) ≤ x39 ∧ x39 < 3) ∧ (((0 : Int) ≤ x39 ∧ x39 < 3) →
   ((x39 = 0 →
    (Cl Tryz.prog W0 M H0 nK 34 #[Value.agg #[vi x0, vi x1, vi x2, vi x3, vi x4, vi x5, vsl x6 x7 x8, vsl x9 x10 x11], Value.agg #[vi x12, vi x13, vi x14, vi x15, vi x16, vi x17, vsl x18 x19 x20], vi x40] fun z W5 W6 => ∃ (x43 x44 x45 x46 x47 x48 : Int) (x49 : Option Loc) (x50 x51 : Nat) (x52 x53 : Int), z = .returned (Value.tuple #[Value.agg #[vi x43, vi x44, vi x45, vi x46, vi x47, vi x48, vsl x49 x50 x51], vi x52, vi x53]) ∧ Fr W5 W6 H0 fun H1 =>
    (∀ b2 : Nat,
    ((x53 = 0 →
     (Cl Tryz.prog W0 M H1 nK 6 #[Value.agg #[vi x0, vi x1, vi x2, vi x3, vi x4, vi x5, vsl x6 x7 x8, vsl x9 x10 x11, vi x12, vi x13, vi x14, vi x15, vi x16, vi x17, vsl x18 x19 x20, vi x21, vi x22, vi x23, vi x24, vi x25, vi x26, vsl x27 x28 x29, vi x30, vi x31, vi x32, vi x33, vi x34, vi x35, vsl x36 x37 x38]] fun z W7 W8 => ∃ (x54 x55 x56 x57 x58 x59 : Int) (x60 : Option Loc) (x61 x62 : Nat) (x63 : Option Loc) (x64 x65 : Nat) (x66 x67 x68 x69 x70 x71 : Int) (x72 : Option Loc) (x73 x74 : Nat) (x75 x76 x77 x78 x79 x80 : Int) (x81 : Option Loc) (x82 x83 : Nat) (x84 x85 x86 x87 x88 x89 : Int) (x90 : Option Loc) (x91 x92 : Nat), z = .returned (Value.agg #[vi x54, vi x55, vi x56, vi x57, vi x58, vi x59, vsl x60 x61 x62, vsl x63 x64 x65, vi x66, vi x67, vi x68, vi x69, vi x70, vi x71, vsl x72 x73 x74, vi x75, vi x76, vi x77, vi x78, vi x79, vi x80, vsl x81 x82 x83, vi x84, vi x85, vi x86, vi x87, vi x88, vi x89, vsl x90 x91 x92]) ∧ Fr W7 W8 H1 fun H2 =>
     (∀ b3 : Nat,
     Rt R W0 M H2 nK (Value.tuple #[Value.agg #[vi x54, vi x55, vi x56, vi x57, vi x58, vi x59, vsl x60 x61 x62, vsl x63 x64 x65, vi x43, vi x44, vi x45, vi x46, vi x47, vi x48, vsl x49 x50 x51, vi x75, vi x76, vi x77, vi x78, vi x79, vi x80, vsl x81 x82 x83, vi x84, vi x85, vi x86, vi x87, vi x88, vi x89, vsl x90 x91 x92], vi x52, vi 0])))) ∧
    (¬ (x53 = 0) →
     Rt R W0 M H1 nK (Value.tuple #[Value.agg #[vi 0, vi 0, vi 0, vi 0, vi 0, vi 0, Value.slice none 0 0, Value.slice none 0 0, vi 0, vi 0, vi 0, vi 0, vi 0, vi 0, Value.slice none 0 0, vi 0, vi 0, vi 0, vi 0, vi 0, vi 0, Value.slice none 0 0, vi 0, vi 0, vi 0, vi 0, vi 0, vi 0, Value.slice none 0 0], vi 0, vi x53])))))) ∧
   ((x39 = 1 →
    (Cl Tryz.prog W0 M H0 nK 34 #[Value.agg #[vi x0, vi x1, vi x2, vi x3, vi x4, vi x5, vsl x6 x7 x8, vsl x9 x10 x11], Value.agg #[vi x21, vi x22, vi x23, vi x24, vi x25, vi x26, vsl x27 x28 x29], vi x40] fun z W5 W6 => ∃ (x43 x44 x45 x46 x47 x48 : Int) (x49 : Option Loc) (x50 x51 : Nat) (x52 x53 : Int), z = .returned (Value.tuple #[Value.agg #[vi x43, vi x44, vi x45, vi x46, vi x47, vi x48, vsl x49 x50 x51], vi x52, vi x53]) ∧ Fr W5 W6 H0 fun H1 =>
    (∀ b2 : Nat,
    ((x53 = 0 →
     (Cl Tryz.prog W0 M H1 nK 6 #[Value.agg #[vi x0, vi x1, vi x2, vi x3, vi x4, vi x5, vsl x6 x7 x8, vsl x9 x10 x11, vi x12, vi x13, vi x14, vi x15, vi x16, vi x17, vsl x18 x19 x20, vi x21, vi x22, vi x23, vi x24, vi x25, vi x26, vsl x27 x28 x29, vi x30, vi x31, vi x32, vi x33, vi x34, vi x35, vsl x36 x37 x38]] fun z W7 W8 => ∃ (x54 x55 x56 x57 x58 x59 : Int) (x60 : Option Loc) (x61 x62 : Nat) (x63 : Option Loc) (x64 x65 : Nat) (x66 x67 x68 x69 x70 x71 : Int) (x72 : Option Loc) (x73 x74 : Nat) (x75 x76 x77 x78 x79 x80 : Int) (x81 : Option Loc) (x82 x83 : Nat) (x84 x85 x86 x87 x88 x89 : Int) (x90 : Option Loc) (x91 x92 : Nat), z = .returned (Value.agg #[vi x54, vi x55, vi x56, vi x57, vi x58, vi x59, vsl x60 x61 x62, vsl x63 x64 x65, vi x66, vi x67, vi x68, vi x69, vi x70, vi x71, vsl x72 x73 x74, vi x75, vi x76, vi x77, vi x78, vi x79, vi x80, vsl x81 x82 x83, vi x84, vi x85, vi x86, vi x87, vi x88, vi x89, vsl x90 x91 x92]) ∧ Fr W7 W8 H1 fun H2 =>
     (∀ b3 : Nat,
     Rt R W0 M H2 nK (Value.tuple #[Value.agg #[vi x54, vi x55, vi x56, vi x57, vi x58, vi x59, vsl x60 x61 x62, vsl x63 x64 x65, vi x66, vi x67, vi x68, vi x69, vi x70, vi x71, vsl x72 x73 x74, vi x43, vi x44, vi x45, vi x46, vi x47, vi x48, vsl x49 x50 x51, vi x84, vi x85, vi x86, vi x87, vi x88, vi x89, vsl x90 x91 x92], vi x52, vi 0])))) ∧
    (¬ (x53 = 0) →
     Rt R W0 M H1 nK (Value.tuple #[Value.agg #[vi 0, vi 0, vi 0, vi 0, vi 0, vi 0, Value.slice none 0 0, Value.slice none 0 0, vi 0, vi 0, vi 0, vi 0, vi 0, vi 0, Value.slice none 0 0, vi 0, vi 0, vi 0, vi 0, vi 0, vi 0, Value.slice none 0 0, vi 0, vi 0, vi 0, vi 0, vi 0, vi 0, Value.slice none 0 0], vi 0, vi x53])))))) ∧
   ((x39 = 2 →
    (Cl Tryz.prog W0 M H0 nK 34 #[Value.agg #[vi x0, vi x1, vi x2, vi x3, vi x4, vi x5, vsl x6 x7 x8, vsl x9 x10 x11], Value.agg #[vi x30, vi x31, vi x32, vi x33, vi x34, vi x35, vsl x36 x37 x38], vi x40] fun z W5 W6 => ∃ (x43 x44 x45 x46 x47 x48 : Int) (x49 : Option Loc) (x50 x51 : Nat) (x52 x53 : Int), z = .returned (Value.tuple #[Value.agg #[vi x43, vi x44, vi x45, vi x46, vi x47, vi x48, vsl x49 x50 x51], vi x52, vi x53]) ∧ Fr W5 W6 H0 fun H1 =>
    (∀ b2 : Nat,
    ((x53 = 0 →
     (Cl Tryz.prog W0 M H1 nK 6 #[Value.agg #[vi x0, vi x1, vi x2, vi x3, vi x4, vi x5, vsl x6 x7 x8, vsl x9 x10 x11, vi x12, vi x13, vi x14, vi x15, vi x16, vi x17, vsl x18 x19 x20, vi x21, vi x22, vi x23, vi x24, vi x25, vi x26, vsl x27 x28 x29, vi x30, vi x31, vi x32, vi x33, vi x34, vi x35, vsl x36 x37 x38]] fun z W7 W8 => ∃ (x54 x55 x56 x57 x58 x59 : Int) (x60 : Option Loc) (x61 x62 : Nat) (x63 : Option Loc) (x64 x65 : Nat) (x66 x67 x68 x69 x70 x71 : Int) (x72 : Option Loc) (x73 x74 : Nat) (x75 x76 x77 x78 x79 x80 : Int) (x81 : Option Loc) (x82 x83 : Nat) (x84 x85 x86 x87 x88 x89 : Int) (x90 : Option Loc) (x91 x92 : Nat), z = .returned (Value.agg #[vi x54, vi x55, vi x56, vi x57, vi x58, vi x59, vsl x60 x61 x62, vsl x63 x64 x65, vi x66, vi x67, vi x68, vi x69, vi x70, vi x71, vsl x72 x73 x74, vi x75, vi x76, vi x77, vi x78, vi x79, vi x80, vsl x81 x82 x83, vi x84, vi x85, vi x86, vi x87, vi x88, vi x89, vsl x90 x91 x92]) ∧ Fr W7 W8 H1 fun H2 =>
     (∀ b3 : Nat,
     Rt R W0 M H2 nK (Value.tuple #[Value.agg #[vi x54, vi x55, vi x56, vi x57, vi x58, vi x59, vsl x60 x61 x62, vsl x63 x64 x65, vi x66, vi x67, vi x68, vi x69, vi x70, vi x71, vsl x72 x73 x74, vi x75, vi x76, vi x77, vi x78, vi x79, vi x80, vsl x81 x82 x83, vi x43, vi x44, vi x45, vi x46, vi x47, vi x48, vsl x49 x50 x51], vi x52, vi 0])))) ∧
    (¬ (x53 = 0) →
     Rt R W0 M H1 nK (Value.tuple #[Value.agg #[vi 0, vi 0, vi 0, vi 0, vi 0, vi 0, Value.slice none 0 0, Value.slice none 0 0, vi 0, vi 0, vi 0, vi 0, vi 0, vi 0, Value.slice none 0 0, vi 0, vi 0, vi 0, vi 0, vi 0, vi 0, Value.slice none 0 0, vi 0, vi 0, vi 0, vi 0, vi 0, vi 0, Value.slice none 0 0], vi 0, vi x53])))))) ∧
   True)))))) ∧
  (¬ (x42 = true) →
   Rt R W0 M H0 nK (Value.tuple #[Value.agg #[vi 0, vi 0, vi 0, vi 0, vi 0, vi 0, Value.slice none 0 0, Value.slice none 0 0, vi 0, vi 0, vi 0, vi 0, vi 0, vi 0, Value.slice none 0 0, vi 0, vi 0, vi 0, vi 0, vi 0, vi 0, Value.slice none 0 0, vi 0, vi 0, vi 0, vi 0, vi 0, vi 0, Value.slice none 0 0], vi 0, vi 3]))))) ∧
 (¬ (x41 = 0) →
  Rt R W0 M H0 nK (Value.tuple #[Value.agg #[vi 0, vi 0, vi 0, vi 0, vi 0, vi 0, Value.slice none 0 0, Value.slice none 0 0, vi 0, vi 0, vi 0, vi 0, vi 0, vi 0, Value.slice none 0 0, vi 0, vi 0, vi 0, vi 0, vi 0, vi 0, Value.slice none 0 0, vi 0, vi 0, vi 0, vi 0, vi 0, vi 0, Value.slice none 0 0], vi 0, vi x41]))))))) :
  Calls Tryz.prog 14 #[Value.agg #[vi x0, vi x1, vi x2, vi x3, vi x4, vi x5, vsl x6 x7 x8, vsl x9 x10 x11, vi x12, vi x13, vi x14, vi x15, vi x16, vi x17, vsl x18 x19 x20, vi x21, vi x22, vi x23, vi x24, vi x25, vi x26, vsl x27 x28 x29, vi x30, vi x31, vi x32, vi x33, vi x34, vi x35, vsl x36 x37 x38], vi x39, vi x40] W0 R :=
  calls_sxA (M := M) (V := v_rGroupRun) (hi := {}) (args := [.agg [vI 0, vI 1, vI 2, vI 3, vI 4, vI 5, vS 6, vS 9, vI 12, vI 13, vI 14, vI 15, vI 16, vI 17, vS 18, vI 21, vI 22, vI 23, vI 24, vI 25, vI 26, vS 27, vI 30, vI 31, vI 32, vI 33, vI 34, vI 35, vS 36], vI 39, vI 40]) (nv := 41) (e := (upd (upd (upd (upd (upd (upd (upd (upd (upd (upd (upd (upd (upd (upd (upd (upd (upd (upd (upd (upd (upd (upd (upd (upd (upd (upd (upd (upd (upd (upd (upd (upd (upd (upd (upd (upd (upd (upd (upd (upd (upd (fun _ => .i 0) 0 (.i x0)) 1 (.i x1)) 2 (.i x2)) 3 (.i x3)) 4 (.i x4)) 5 (.i x5)) 6 (.p x6)) 7 (.n x7)) 8 (.n x8)) 9 (.p x9)) 10 (.n x10)) 11 (.n x11)) 12 (.i x12)) 13 (.i x13)) 14 (.i x14)) 15 (.i x15)) 16 (.i x16)) 17 (.i x17)) 18 (.p x18)) 19 (.n x19)) 20 (.n x20)) 21 (.i x21)) 22 (.i x22)) 23 (.i x23)) 24 (.i x24)) 25 (.i x25)) 26 (.i x26)) 27 (.p x27)) 28 (.n x28)) 29 (.n x29)) 30 (.i x30)) 31 (.i x31)) 32 (.i x32)) 33 (.i x33)) 34 (.i x34)) 35 (.i x35)) 36 (.p x36)) 37 (.n x37)) 38 (.n x38)) 39 (.i x39)) 40 (.i x40))) Tryz.func14 hH h (by kernel_rfl) (by kernel_rfl) (by kernel_rfl)
end Go.Proofs.YtfpmcmhihhnfgaaGreat
namespace Go.Proofs.YtfpmcmhihhnfgaaGreat
open Go.RowKit
set_option maxRecDepth 100000
section
variable {H : Hp} {g : Grp} {γ δ : GP}
theorem c_groupError (hg : GTab H g γ) : Gv Tryz.prog 4 #[gVal g γ] H (vi (gErr g)) := fun W hH => by
  refine x_groupError _ _ _ _ _ _ γ.p γ.n γ.c γ.q γ.m γ.d _ _ _ _ _ _ γ.p0 γ.n0 γ.c0 _ _ _ _ _ _ γ.p1 γ.n1 γ.c1 _ _ _ _ _ _ γ.p2 γ.n2 γ.c2 noM H W _ hH fun b0 => ?_
  refine Cl.same (c_logErr hg.base hg.tail) fun _ _ hx => ⟨_, rfl, hx, fun e0 => ?_, fun e0 => Rt.gv' (by rw [gErr_log e0])⟩
  have ho := logErr_ok.1 e0
  refine Cl.same (c_stErr hg.n0) fun _ _ hx => ⟨_, rfl, hx, fun e1 => ?_, fun e1 => Rt.gv' (by have e2 := sErr_st (b := g.base) (l := g.tail) e1; rw [gErr_0 e0 (by rw [e2]; exact e1), e2])⟩
  refine Cl.same (c_rfits ho (Sta.err_ok.1 e1) hg.base hg.tail hg.n0) fun _ _ hx => ⟨_, rfl, hx, fun f1 => ?_, fun f1 => Rt.gv' (by have e2 := sErr_no e1 (by simpa using f1); rw [gErr_0 e0 (by rw [e2]; decide), e2])⟩
  have s0 := sErr_yes e1 f1
  refine Cl.same (c_stErr hg.n1) fun _ _ hx => ⟨_, rfl, hx, fun e1 => ?_, fun e1 => Rt.gv' (by have e2 := sErr_st (b := g.base) (l := g.tail) e1; rw [gErr_1 e0 s0 (by rw [e2]; exact e1), e2])⟩
  refine Cl.same (c_rfits ho (Sta.err_ok.1 e1) hg.base hg.tail hg.n1) fun _ _ hx => ⟨_, rfl, hx, fun f1 => ?_, fun f1 => Rt.gv' (by have e2 := sErr_no e1 (by simpa using f1); rw [gErr_1 e0 s0 (by rw [e2]; decide), e2])⟩
  have s1 := sErr_yes e1 f1
  refine Cl.same (c_stErr hg.n2) fun _ _ hx => ⟨_, rfl, hx, fun e1 => ?_, fun e1 => Rt.gv' (by rw [gErr_2 e0 s0 s1, sErr_st e1])⟩
  exact Cl.same (c_rfits ho (Sta.err_ok.1 e1) hg.base hg.tail hg.n2) fun _ _ hx => ⟨_, rfl, hx, fun f1 => Rt.gv' (by rw [gErr_2 e0 s0 s1, sErr_yes e1 f1]), fun f1 => Rt.gv' (by rw [gErr_2 e0 s0 s1, sErr_no e1 (by simpa using f1)])⟩
theorem c_ownGroup (ok : GrpOk g) (hg : GTab H g γ) : Gf Tryz.prog 6 #[gVal g γ] H (GPost g fun v => v) := fun W hH => by
  have hm := hg.tail.len
  have hlow := ok.log.low
  refine x_ownGroup _ _ _ _ _ _ γ.p γ.n γ.c γ.q γ.m γ.d _ _ _ _ _ _ γ.p0 γ.n0 γ.c0 _ _ _ _ _ _ γ.p1 γ.n1 γ.c1 _ _ _ _ _ _ γ.p2 γ.n2 γ.c2 noM H W _ hH fun b0 b1 => ?_
  refine Cl.fresh (c_ownState hg.base ok.log.base.table) ?_
  rintro v W1 W2 D1 ⟨p, n, c, rfl, hT⟩ hx hD1 hf1 nn1
  refine ⟨_, _, _, _, _, _, p, n, c, rfl, hx, D1, hD1, hf1, fun H1 h1 hd1 b2 => ?_⟩
  intro W3 n3 k3
  obtain ⟨q, d, gq, W4, H2, r1, t1, hQ, gqn, h2⟩ := ek_clone (P := Tryz.prog) Tryz.underlying26 infoEnt (by omega) n3 (some (b2, 0)) (hg.tail.mono h1).2.2.1 (ones_E _) (by omega) (by simp only [maxLen]; omega) 26 (c := γ.d)
  have hE := Ents.of_ow (hQ.new (W := W) (fun b hb => Nat.le_trans n3.mod.size (gqn b hb))) hg.tail.2.2.2
  refine ⟨q, γ.m, d, W4, r1, H2, t1, ?_⟩
  refine Cl.fresh (c_ownState ((hg.n0.mono h1).mono h2) ok.ok0.table) ?_
  rintro v W5 W6 D3 ⟨p0, n0, c0, rfl, hT0⟩ hx hD3 hf3 nn3
  refine ⟨_, _, _, _, _, _, p0, n0, c0, rfl, hx, D3, hD3, hf3, fun H3 h3 hd3 => ?_⟩
  refine Cl.fresh (c_ownState (((hg.n1.mono h1).mono h2).mono h3) ok.ok1.table) ?_
  rintro v W7 W8 D4 ⟨p1, n1, c1, rfl, hT1⟩ hx hD4 hf4 nn4
  refine ⟨_, _, _, _, _, _, p1, n1, c1, rfl, hx, D4, hD4, hf4, fun H4 h4 hd4 => ?_⟩
  refine Cl.fresh (c_ownState ((((hg.n2.mono h1).mono h2).mono h3).mono h4) ok.ok2.table) ?_
  rintro v W9 W10 D5 ⟨p2, n2, c2, rfl, hT2⟩ hx hD5 hf5 nn5
  refine ⟨_, _, _, _, _, _, p2, n2, c2, rfl, hx, D5, hD5, hf5, fun H5 h5 hd5 => Rt.gfn ⟨⟨p, n, c, q, γ.m, d, p0, n0, c0, p1, n1, c1, p2, n2, c2⟩, rfl, ?_⟩⟩
  have t2 : (newer W H1).le (newer W H2) := newer_mono h2
  have t3 : (newer W H2).le (newer W H3) := newer_mono h3
  have t4 : (newer W H3).le (newer W H4) := newer_mono h4
  have t5 : (newer W H4).le (newer W H5) := newer_mono h5
  exact ⟨((((hT.mono (le_newer hd1 (fun b o h => Nat.le_trans nn1.mod.size (hf1 b o h)))).mono t2).mono t3).mono t4).mono t5,
     ((hE.mono t3).mono t4).mono t5,
     ((hT0.mono (le_newer hd3 (fun b o h => Nat.le_trans nn3.mod.size (hf3 b o h)))).mono t4).mono t5,
     (hT1.mono (le_newer hd4 (fun b o h => Nat.le_trans nn4.mod.size (hf4 b o h)))).mono t5,
     hT2.mono (le_newer hd5 (fun b o h => Nat.le_trans nn5.mod.size (hf5 b o h)))⟩
theorem c_sameGroups (hg : GTab H g γ) (hd : GTab H g δ) : Gv Tryz.prog 15 #[gVal g γ, gVal g δ] H (vb true) := fun W hH => by
  refine x_sameGroups _ _ _ _ _ _ γ.p γ.n γ.c γ.q γ.m γ.d _ _ _ _ _ _ γ.p0 γ.n0 γ.c0 _ _ _ _ _ _ γ.p1 γ.n1 γ.c1 _ _ _ _ _ _ γ.p2 γ.n2 γ.c2 _ _ _ _ _ _ δ.p δ.n δ.c δ.q δ.m δ.d _ _ _ _ _ _ δ.p0 δ.n0 δ.c0 _ _ _ _ _ _ δ.p1 δ.n1 δ.c1 _ _ _ _ _ _ δ.p2 δ.n2 δ.c2 noM H W _ hH fun b0 b1 => ?_
  refine Cl.same (c_sameOf hg.n0 hd.n0) fun _ _ hx => ⟨_, rfl, hx, fun _ => ?_, fun h => absurd (decide_eq_true rfl) h⟩
  refine Cl.same (c_sameOf hg.n1 hd.n1) fun _ _ hx => ⟨_, rfl, hx, fun _ => ?_, fun h => absurd (decide_eq_true rfl) h⟩
  refine Cl.same (c_sameOf hg.n2 hd.n2) fun _ _ hx => ⟨_, rfl, hx, fun _ => ?_, fun h => absurd (decide_eq_true rfl) h⟩
  exact Cl.same (c_sameLogs hg.base hg.tail hd.base hd.tail) fun _ _ hx => ⟨_, rfl, hx, Rt.gv' (by rw [decide_eq_true ⟨rfl, rfl⟩])⟩
theorem c_rGroupPut (hg : GTab H g γ) {e : Ent} (he : e.in64) : Gf Tryz.prog 13 #[gVal g γ, e.val] H (GPost (gPut g e).1 fun v => .tuple #[v, vi (gPut g e).2.1, vi (gPut g e).2.2]) := fun W hH => by
  refine x_rGroupPut _ _ _ _ _ _ γ.p γ.n γ.c γ.q γ.m γ.d _ _ _ _ _ _ γ.p0 γ.n0 γ.c0 _ _ _ _ _ _ γ.p1 γ.n1 γ.c1 _ _ _ _ _ _ γ.p2 γ.n2 γ.c2 _ _ _ _ _ _ _ _ _ noM H W _ hH fun b0 b1 b2 => ?_
  refine Cl.same (c_groupError hg) fun _ _ hx => ⟨_, rfl, hx, fun e0 => ?_, fun e0 => Rt.gfn (by rw [gPut_bad e0]; exact ⟨GP.nil, rfl, GTab.nil _⟩)⟩
  refine Cl.fresh (c_rPackPut hg.base hg.tail he) ?_
  rintro v W3 W4 D2 ⟨p, n, c, q, m, d, rfl, hT, hE⟩ hx hD2 hf2 nn2
  refine ⟨_, _, _, _, _, _, p, n, c, q, m, d, _, _, rfl, hx, D2, hD2, hf2, fun H1 h1 hd1 b3 => ⟨fun e1 => ?_, fun e1 => Rt.gfn (by rw [gPut_not e0 e1]; exact ⟨GP.nil, rfl, GTab.nil _⟩)⟩⟩
  refine Cl.fresh (c_ownGroup (gErr_ok.1 e0) (hg.mono h1)) ?_
  rintro v W5 W6 D3 ⟨ε, rfl, hge⟩ hx hD3 hf3 nn3
  refine ⟨_, _, _, _, _, _, ε.p, ε.n, ε.c, ε.q, ε.m, ε.d, _, _, _, _, _, _, ε.p0, ε.n0, ε.c0, _, _, _, _, _, _, ε.p1, ε.n1, ε.c1, _, _, _, _, _, _, ε.p2, ε.n2, ε.c2, rfl, hx, D3, hD3, hf3, fun H2 h2 hd2 b4 => Rt.gfn ?_⟩
  rw [gPut_is e0 e1]
  have k2 := le_newer (Hp.le_trans hd1 h2) (fun b o h => Nat.le_trans nn2.mod.size (hf2 b o h))
  have k1 := le_newer hd2 (fun b o h => Nat.le_trans nn3.mod.size (hf3 b o h))
  exact ⟨{ ε with p := p, n := n, c := c, q := q, m := m, d := d }, rfl, hT.mono k2, hE.mono k2, hge.n0.mono k1, hge.n1.mono k1, hge.n2.mono k1⟩
theorem c_rGroupRun (hg : GTab H g γ) (k x : Int) : Gf Tryz.prog 14 #[gVal g γ, vi k, vi x] H (GPost (gRun g k x).1 fun v => .tuple #[v, vi (gRun g k x).2.1, vi (gRun g k x).2.2]) := fun W hH => by
  refine x_rGroupRun _ _ _ _ _ _ γ.p γ.n γ.c γ.q γ.m γ.d _ _ _ _ _ _ γ.p0 γ.n0 γ.c0 _ _ _ _ _ _ γ.p1 γ.n1 γ.c1 _ _ _ _ _ _ γ.p2 γ.n2 γ.c2 k x noM H W _ hH fun b0 b1 => ?_
  refine Cl.same (c_groupError hg) fun _ _ hx => ⟨_, rfl, hx, fun e0 => ?_, fun e0 => Rt.gfn (by rw [gRun_bad e0]; exact ⟨GP.nil, rfl, GTab.nil _⟩)⟩
  refine Cl.same (c_within k 0 2 H) fun _ _ hx => ⟨_, rfl, hx, fun hk => ?_, fun hk => Rt.gfn (by rw [gRun_rng e0 (by simp [inR] at hk; omega)]; exact ⟨GP.nil, rfl, GTab.nil _⟩)⟩
  have hk2 : 0 ≤ k ∧ k ≤ 2 := by simpa [inR] using hk
  refine ⟨⟨by omega, by omega⟩, fun _ => ⟨fun hk0 => ?_, fun hk0 => ?_, fun hk0 => ?_, trivial⟩⟩
  · subst hk0
    refine Cl.fresh (c_runOf hg.base hg.tail hg.n0 x) ?_
    rintro v W3 W4 D2 ⟨p, n, c, rfl, hT⟩ hx hD2 hf2 nn2
    refine ⟨_, _, _, _, _, _, p, n, c, _, _, rfl, hx, D2, hD2, hf2, fun H1 h1 hd1 b3 => ⟨fun e1 => ?_, fun e1 => Rt.gfn (by rw [gRun_not e0 (k := 0) (by omega) e1]; exact ⟨GP.nil, rfl, GTab.nil _⟩)⟩⟩
    refine Cl.fresh (c_ownGroup (gErr_ok.1 e0) (hg.mono h1)) ?_
    rintro v W5 W6 D3 ⟨ε, rfl, hge⟩ hx hD3 hf3 nn3
    refine ⟨_, _, _, _, _, _, ε.p, ε.n, ε.c, ε.q, ε.m, ε.d, _, _, _, _, _, _, ε.p0, ε.n0, ε.c0, _, _, _, _, _, _, ε.p1, ε.n1, ε.c1, _, _, _, _, _, _, ε.p2, ε.n2, ε.c2, rfl, hx, D3, hD3, hf3, fun H2 h2 hd2 b4 => Rt.gfn ?_⟩
    rw [gRun_is e0 (k := 0) (by omega) e1]
    have k2 := le_newer (Hp.le_trans hd1 h2) (fun b o h => Nat.le_trans nn2.mod.size (hf2 b o h))
    have k1 := le_newer hd2 (fun b o h => Nat.le_trans nn3.mod.size (hf3 b o h))
    exact ⟨{ ε with p0 := p, n0 := n, c0 := c }, rfl, hge.base.mono k1, hge.tail.mono k1, hT.mono k2, hge.n1.mono k1, hge.n2.mono k1⟩
  · subst hk0
    refine Cl.fresh (c_runOf hg.base hg.tail hg.n1 x) ?_
    rintro v W3 W4 D2 ⟨p, n, c, rfl, hT⟩ hx hD2 hf2 nn2
    refine ⟨_, _, _, _, _, _, p, n, c, _, _, rfl, hx, D2, hD2, hf2, fun H1 h1 hd1 b3 => ⟨fun e1 => ?_, fun e1 => Rt.gfn (by rw [gRun_not e0 (k := 1) (by omega) e1]; exact ⟨GP.nil, rfl, GTab.nil _⟩)⟩⟩
    refine Cl.fresh (c_ownGroup (gErr_ok.1 e0) (hg.mono h1)) ?_
    rintro v W5 W6 D3 ⟨ε, rfl, hge⟩ hx hD3 hf3 nn3
    refine ⟨_, _, _, _, _, _, ε.p, ε.n, ε.c, ε.q, ε.m, ε.d, _, _, _, _, _, _, ε.p0, ε.n0, ε.c0, _, _, _, _, _, _, ε.p1, ε.n1, ε.c1, _, _, _, _, _, _, ε.p2, ε.n2, ε.c2, rfl, hx, D3, hD3, hf3, fun H2 h2 hd2 b4 => Rt.gfn ?_⟩
    rw [gRun_is e0 (k := 1) (by omega) e1]
    have k2 := le_newer (Hp.le_trans hd1 h2) (fun b o h => Nat.le_trans nn2.mod.size (hf2 b o h))
    have k1 := le_newer hd2 (fun b o h => Nat.le_trans nn3.mod.size (hf3 b o h))
    exact ⟨{ ε with p1 := p, n1 := n, c1 := c }, rfl, hge.base.mono k1, hge.tail.mono k1, hge.n0.mono k1, hT.mono k2, hge.n2.mono k1⟩
  · subst hk0
    refine Cl.fresh (c_runOf hg.base hg.tail hg.n2 x) ?_
    rintro v W3 W4 D2 ⟨p, n, c, rfl, hT⟩ hx hD2 hf2 nn2
    refine ⟨_, _, _, _, _, _, p, n, c, _, _, rfl, hx, D2, hD2, hf2, fun H1 h1 hd1 b3 => ⟨fun e1 => ?_, fun e1 => Rt.gfn (by rw [gRun_not e0 (k := 2) (by omega) e1]; exact ⟨GP.nil, rfl, GTab.nil _⟩)⟩⟩
    refine Cl.fresh (c_ownGroup (gErr_ok.1 e0) (hg.mono h1)) ?_
    rintro v W5 W6 D3 ⟨ε, rfl, hge⟩ hx hD3 hf3 nn3
    refine ⟨_, _, _, _, _, _, ε.p, ε.n, ε.c, ε.q, ε.m, ε.d, _, _, _, _, _, _, ε.p0, ε.n0, ε.c0, _, _, _, _, _, _, ε.p1, ε.n1, ε.c1, _, _, _, _, _, _, ε.p2, ε.n2, ε.c2, rfl, hx, D3, hD3, hf3, fun H2 h2 hd2 b4 => Rt.gfn ?_⟩
    rw [gRun_is e0 (k := 2) (by omega) e1]
    have k2 := le_newer (Hp.le_trans hd1 h2) (fun b o h => Nat.le_trans nn2.mod.size (hf2 b o h))
    have k1 := le_newer hd2 (fun b o h => Nat.le_trans nn3.mod.size (hf3 b o h))
    exact ⟨{ ε with p2 := p, n2 := n, c2 := c }, rfl, hge.base.mono k1, hge.tail.mono k1, hge.n0.mono k1, hge.n1.mono k1, hT.mono k2⟩
end
end Go.Proofs.YtfpmcmhihhnfgaaGreat
