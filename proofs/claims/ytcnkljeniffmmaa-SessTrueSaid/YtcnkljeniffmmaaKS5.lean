/- Symbolic runs of functions: what each leaves to prove is enough for its call. Printed by a program of ours. No conditions. What must be in any case: sessions. No conditions. The laws of sessions: SessTells, SessPuts, SessFresh, as runs. No conditions. -/
import Derived.Test.YtcnkljeniffmmaaKE3
import Derived.Test.YtcnkljeniffmmaaProg
import Derived.Test.YtcnkljeniffmmaaKS4
set_option linter.unusedVariables false
set_option linter.unusedSimpArgs false
namespace Go.Proofs.Ytcnkljeniffmmaa
open Go.RowKit
set_option maxRecDepth 100000
set_option maxHeartbeats 4000000
theorem x_sessBegun (M : Nat → Prop) (H0 : Hp) (W0 : World) (R : Ending → World → Prop) (hH : H0.le (hpOf W0)) (h :
 (Cl Try.prog W0 M H0 nK 53 #[vi 2] fun z W1 W2 => ∃ x0 : Int, ∃ x1 : Int, ∃ x2 : Int, ∃ x3 : Option Loc, ∃ x4 : Nat, ∃ x5 : Nat, z = .returned (Value.agg #[vi x0, vi x1, vi x2, vsl x3 x4 x5]) ∧ Fr W1 W2 H0 fun H1 =>
 (Cl Try.prog W0 M H1 nK 53 #[vi 4] fun z W3 W4 => ∃ x6 : Int, ∃ x7 : Int, ∃ x8 : Int, ∃ x9 : Option Loc, ∃ x10 : Nat, ∃ x11 : Nat, z = .returned (Value.agg #[vi x6, vi x7, vi x8, vsl x9 x10 x11]) ∧ Fr W3 W4 H1 fun H2 =>
 (∀ b0 : Nat,
 (Cl Try.prog W0 M H2 nK 53 #[vi 3] fun z W5 W6 => ∃ x12 : Int, ∃ x13 : Int, ∃ x14 : Int, ∃ x15 : Option Loc, ∃ x16 : Nat, ∃ x17 : Nat, z = .returned (Value.agg #[vi x12, vi x13, vi x14, vsl x15 x16 x17]) ∧ Fr W5 W6 H2 fun H3 =>
 (Cl Try.prog W0 M H3 (fun W => Kn W0 M H3 W b0 (Obj.cells #[vi x0, vi x1, vi x2, vsl x3 x4 x5, vi x6, vi x7, vi x8, vsl x9 x10 x11] 38 (0, 0)) ∧ True) 26 #[Value.slice (some ⟨b0, 0, none⟩) 2 2, Value.agg #[vi x12, vi x13, vi x14, vsl x15 x16 x17]] fun z W7 W8 => ∃ x18 : Option Loc, ∃ x19 : Nat, ∃ x20 : Nat, ∃ x21 : Int, z = .returned (Value.tuple #[vsl x18 x19 x20, vi x21]) ∧ Fr W7 W8 H3 fun H4 =>
 (Cl Try.prog W0 M H4 nK 53 #[vi 5] fun z W9 W10 => ∃ x22 : Int, ∃ x23 : Int, ∃ x24 : Int, ∃ x25 : Option Loc, ∃ x26 : Nat, ∃ x27 : Nat, z = .returned (Value.agg #[vi x22, vi x23, vi x24, vsl x25 x26 x27]) ∧ Fr W9 W10 H4 fun H5 =>
 (Cl Try.prog W0 M H5 nK 26 #[vsl x18 x19 x20, Value.agg #[vi x22, vi x23, vi x24, vsl x25 x26 x27]] fun z W11 W12 => ∃ x28 : Option Loc, ∃ x29 : Nat, ∃ x30 : Nat, ∃ x31 : Int, z = .returned (Value.tuple #[vsl x28 x29 x30, vi x31]) ∧ Fr W11 W12 H5 fun H6 =>
 (Cl Try.prog W0 M H6 nK 26 #[vsl x18 x19 x20, Value.agg #[vi 3, vi 0, vi 0, Value.slice none 0 0]] fun z W13 W14 => ∃ x32 : Option Loc, ∃ x33 : Nat, ∃ x34 : Nat, ∃ x35 : Int, z = .returned (Value.tuple #[vsl x32 x33 x34, vi x35]) ∧ Fr W13 W14 H6 fun H7 =>
 (Cl Try.prog W0 M H7 nK 20 #[vsl x18 x19 x20, vi 3] fun z W15 W16 => ∃ x36 : Int, ∃ x37 : Int, ∃ x38 : Int, ∃ x39 : Option Loc, ∃ x40 : Nat, ∃ x41 : Nat, ∃ x42 : Bool, ∃ x43 : Int, z = .returned (Value.tuple #[Value.agg #[vi x36, vi x37, vi x38, vsl x39 x40 x41], vb (x42), vi x43]) ∧ Fr W15 W16 H7 fun H8 =>
 (∀ b1 : Nat,
 (Cl Try.prog W0 M H8 nK 20 #[vsl x18 x19 x20, vi 1] fun z W17 W18 => ∃ x44 : Int, ∃ x45 : Int, ∃ x46 : Int, ∃ x47 : Option Loc, ∃ x48 : Nat, ∃ x49 : Nat, ∃ x50 : Bool, ∃ x51 : Int, z = .returned (Value.tuple #[Value.agg #[vi x44, vi x45, vi x46, vsl x47 x48 x49], vb (x50), vi x51]) ∧ Fr W17 W18 H8 fun H9 =>
 (∀ b2 : Nat,
 (Cl Try.prog W0 M H9 nK 27 #[vsl x18 x19 x20, vi 2] fun z W19 W20 => ∃ x52 : Option Loc, ∃ x53 : Nat, ∃ x54 : Nat, ∃ x55 : Int, z = .returned (Value.tuple #[vsl x52 x53 x54, vi x55]) ∧ Fr W19 W20 H9 fun H10 =>
 (Cl Try.prog W0 M H10 nK 27 #[vsl x18 x19 x20, vi 1] fun z W21 W22 => ∃ x56 : Option Loc, ∃ x57 : Nat, ∃ x58 : Nat, ∃ x59 : Int, z = .returned (Value.tuple #[vsl x56 x57 x58, vi x59]) ∧ Fr W21 W22 H10 fun H11 =>
 (Cl Try.prog W0 M H11 nK 31 #[vsl x18 x19 x20, vi 30] fun z W23 W24 => ∃ x60 : Option Loc, ∃ x61 : Nat, ∃ x62 : Nat, ∃ x63 : Int, z = .returned (Value.tuple #[vsl x60 x61 x62, vi x63]) ∧ Fr W23 W24 H11 fun H12 =>
 ((x21 = 0 →
  ((x31 = 2 →
   ((x35 = 0 →
    ((x43 = 0 →
     ((x51 = 0 →
      ((x55 = 0 →
       ((x59 = 5 →
        ((x63 = 0 →
         (0 ≤ (x19 : Int) ∧ (0 ≤ (x19 : Int) →
         (((x19 : Int) = 3 →
          (0 ≤ (x33 : Int) ∧ (0 ≤ (x33 : Int) →
          (((x33 : Int) = 3 →
           (((0 : Int) ≤ 1 ∧ 1 < (x33 : Int)) ∧ (((0 : Int) ≤ 1 ∧ 1 < (x33 : Int)) →
           (x32.isSome = true ∧ (x32.isSome = true →
           ((0 : Int) ≤ (0 + (1 * 4)) ∧ ((0 : Int) ≤ (0 + (1 * 4)) →
           (∃ x64 : Int, RowAt H12 x32 ((0 + (1 * 4)) + 1) [vi x64] ∧
           ((x64 = 0 →
            ((x42 = true →
             ((x50 = true →
              Rt R W0 M H12 nK (vb (false))) ∧
             (¬ (x50 = true) →
              (Cl Try.prog W0 M H12 nK 53 #[vi 3] fun z W25 W26 => ∃ x65 : Int, ∃ x66 : Int, ∃ x67 : Int, ∃ x68 : Option Loc, ∃ x69 : Nat, ∃ x70 : Nat, z = .returned (Value.agg #[vi x65, vi x66, vi x67, vsl x68 x69 x70]) ∧ Fr W25 W26 H12 fun H13 =>
              (Cl Try.prog W0 M H13 nK 25 #[Value.agg #[vi x36, vi x37, vi x38, vsl x39 x40 x41], Value.agg #[vi x65, vi x66, vi x67, vsl x68 x69 x70]] fun z W27 W28 => ∃ x71 : Bool, z = .returned (vb (x71)) ∧ Ext W27 W28 ∧
              ((x71 = true →
               (0 ≤ (x53 : Int) ∧ (0 ≤ (x53 : Int) →
               (((x53 : Int) = 2 →
                (0 ≤ (x61 : Int) ∧ (0 ≤ (x61 : Int) →
                (((x61 : Int) = 0 →
                 (Cl Try.prog W0 M H13 nK 53 #[vi 4] fun z W29 W30 => ∃ x72 : Int, ∃ x73 : Int, ∃ x74 : Int, ∃ x75 : Option Loc, ∃ x76 : Nat, ∃ x77 : Nat, z = .returned (Value.agg #[vi x72, vi x73, vi x74, vsl x75 x76 x77]) ∧ Fr W29 W30 H13 fun H14 =>
                 (Cl Try.prog W0 M H14 nK 53 #[vi 2] fun z W31 W32 => ∃ x78 : Int, ∃ x79 : Int, ∃ x80 : Int, ∃ x81 : Option Loc, ∃ x82 : Nat, ∃ x83 : Nat, z = .returned (Value.agg #[vi x78, vi x79, vi x80, vsl x81 x82 x83]) ∧ Fr W31 W32 H14 fun H15 =>
                 (∀ b3 : Nat,
                 (Cl Try.prog W0 M H15 (fun W => Kn W0 M H15 W b3 (Obj.cells #[vi x72, vi x73, vi x74, vsl x75 x76 x77, vi x78, vi x79, vi x80, vsl x81 x82 x83] 38 (0, 0)) ∧ True) 23 #[Value.slice (some ⟨b3, 0, none⟩) 2 2] fun z W33 W34 => ∃ x84 : Int, z = .returned (vi x84) ∧ Ext W33 W34 ∧
                 ((x84 = 1 →
                  (∀ b4 : Nat,
                  (∀ b5 : Nat,
                  (Cl Try.prog W0 M H15 (fun W => Kn W0 M H15 W b5 (Obj.cells #[vi 1, vi 0, vi 0, Value.slice (some ⟨b4, 0, none⟩) 1 1] 38 (0, 0)) ∧ Kn W0 M H15 W b4 (Obj.cells #[vi 4, vi 0] 61 (0, 0)) ∧ True) 23 #[Value.slice (some ⟨b5, 0, none⟩) 1 1] fun z W35 W36 => ∃ x85 : Int, z = .returned (vi x85) ∧ Ext W35 W36 ∧
                  ((x85 = 1 →
                   (∀ b6 : Nat,
                   (Cl Try.prog W0 M H15 (fun W => Kn W0 M H15 W b6 (Obj.cells #[vi 0, vi 0, vi 0, Value.slice none 0 0] 38 (0, 0)) ∧ True) 23 #[Value.slice (some ⟨b6, 0, none⟩) 1 1] fun z W37 W38 => ∃ x86 : Int, z = .returned (vi x86) ∧ Ext W37 W38 ∧
                   Rt R W0 M H15 nK (vb (decide (x86 = 3)))))) ∧
                  (¬ (x85 = 1) →
                   Rt R W0 M H15 nK (vb (false)))))))) ∧
                 (¬ (x84 = 1) →
                  Rt R W0 M H15 nK (vb (false))))))))) ∧
                (¬ ((x61 : Int) = 0) →
                 Rt R W0 M H13 nK (vb (false))))))) ∧
               (¬ ((x53 : Int) = 2) →
                Rt R W0 M H13 nK (vb (false))))))) ∧
              (¬ (x71 = true) →
               Rt R W0 M H13 nK (vb (false))))))))) ∧
            (¬ (x42 = true) →
             Rt R W0 M H12 nK (vb (false))))) ∧
           (¬ (x64 = 0) →
            Rt R W0 M H12 nK (vb (false)))))))))))) ∧
          (¬ ((x33 : Int) = 3) →
           Rt R W0 M H12 nK (vb (false))))))) ∧
         (¬ ((x19 : Int) = 3) →
          Rt R W0 M H12 nK (vb (false))))))) ∧
        (¬ (x63 = 0) →
         Rt R W0 M H12 nK (vb (false))))) ∧
       (¬ (x59 = 5) →
        Rt R W0 M H12 nK (vb (false))))) ∧
      (¬ (x55 = 0) →
       Rt R W0 M H12 nK (vb (false))))) ∧
     (¬ (x51 = 0) →
      Rt R W0 M H12 nK (vb (false))))) ∧
    (¬ (x43 = 0) →
     Rt R W0 M H12 nK (vb (false))))) ∧
   (¬ (x35 = 0) →
    Rt R W0 M H12 nK (vb (false))))) ∧
  (¬ (x31 = 2) →
   Rt R W0 M H12 nK (vb (false))))) ∧
 (¬ (x21 = 0) →
  Rt R W0 M H12 nK (vb (false)))))))))))))))))))) :
  Calls Try.prog 22 #[] W0 R :=
  calls_sx (M := M) (args := []) (nv := 0) (e := (fun _ => .i 0)) Try.func22 {} hH (vc_of h (by kernel_rfl))
theorem x_sessTells (x0 : Option Loc) (x1 : Nat) (x2 : Nat) (x3 : Int) (M : Nat → Prop) (H0 : Hp) (W0 : World) (R : Ending → World → Prop) (hH : H0.le (hpOf W0)) (h :
 (Cl Try.prog W0 M H0 nK 20 #[vsl x0 x1 x2, vi x3] fun z W1 W2 => ∃ x4 : Int, ∃ x5 : Int, ∃ x6 : Int, ∃ x7 : Option Loc, ∃ x8 : Nat, ∃ x9 : Nat, ∃ x10 : Bool, ∃ x11 : Int, z = .returned (Value.tuple #[Value.agg #[vi x4, vi x5, vi x6, vsl x7 x8 x9], vb (x10), vi x11]) ∧ Fr W1 W2 H0 fun H1 =>
 (∀ b0 : Nat,
 (Cl Try.prog W0 M H1 nK 21 #[vsl x0 x1 x2, vi x3] fun z W3 W4 => ∃ x12 : Int, ∃ x13 : Int, ∃ x14 : Int, ∃ x15 : Option Loc, ∃ x16 : Nat, ∃ x17 : Nat, ∃ x18 : Bool, ∃ x19 : Int, z = .returned (Value.tuple #[Value.agg #[vi x12, vi x13, vi x14, vsl x15 x16 x17], vb (x18), vi x19]) ∧ Fr W3 W4 H1 fun H2 =>
 (∀ b1 : Nat,
 (Cl Try.prog W0 M H2 nK 22 #[] fun z W5 W6 => ∃ x20 : Bool, z = .returned (vb (x20)) ∧ Ext W5 W6 ∧
 ((x20 = true →
  (Cl Try.prog W0 M H2 nK 23 #[vsl x0 x1 x2] fun z W7 W8 => ∃ x21 : Int, z = .returned (vi x21) ∧ Ext W7 W8 ∧
  (Cl Try.prog W0 M H2 nK 24 #[vsl x0 x1 x2] fun z W9 W10 => ∃ x22 : Int, z = .returned (vi x22) ∧ Ext W9 W10 ∧
  ((x21 = x22 →
   (Cl Try.prog W0 M H2 nK 25 #[Value.agg #[vi x4, vi x5, vi x6, vsl x7 x8 x9], Value.agg #[vi x12, vi x13, vi x14, vsl x15 x16 x17]] fun z W11 W12 => ∃ x23 : Bool, z = .returned (vb (x23)) ∧ Ext W11 W12 ∧
   ((x23 = true →
    (Es W0 M H2 nK fun W13 => ∃ x24 : Bool, Eo Try.prog (.bop .eql 4 (.tmp 39) (.tmp 40)) [vb (x10), vb (x18)] W13 (.value (vb (x24))) fun W14 => Ext W13 W14 ∧
    ((x24 = true →
     Rt R W0 M H2 nK (vb (decide (x11 = x19)))) ∧
    (¬ (x24 = true) →
     Rt R W0 M H2 nK (vb (false)))))) ∧
   (¬ (x23 = true) →
    Rt R W0 M H2 nK (vb (false)))))) ∧
  (¬ (x21 = x22) →
   Rt R W0 M H2 nK (vb (false))))))) ∧
 (¬ (x20 = true) →
  Rt R W0 M H2 nK (vb (false)))))))))) :
  Calls Try.prog 6 #[vsl x0 x1 x2, vi x3] W0 R :=
  calls_sx (M := M) (args := [.slO 0 (.k 0) (.v 1) (.v 2), .int .i64 (.v 3)]) (nv := 4) (e := (upd (upd (upd (upd (fun _ => .i 0) 0 (.p x0)) 1 (.n x1)) 2 (.n x2)) 3 (.i x3))) Try.func6 {} hH (vc_of h (by kernel_rfl))
theorem x_sessPuts (x0 : Option Loc) (x1 : Nat) (x2 : Nat) (x3 : Int) (x4 : Int) (x5 : Int) (x6 : Option Loc) (x7 : Nat) (x8 : Nat) (x9 : Int) (M : Nat → Prop) (H0 : Hp) (W0 : World) (R : Ending → World → Prop) (hH : H0.le (hpOf W0)) (h :
 (∀ b0 : Nat,
 (Cl Try.prog W0 M H0 nK 26 #[vsl x0 x1 x2, Value.agg #[vi x3, vi x4, vi x5, vsl x6 x7 x8]] fun z W1 W2 => ∃ x10 : Option Loc, ∃ x11 : Nat, ∃ x12 : Nat, ∃ x13 : Int, z = .returned (Value.tuple #[vsl x10 x11 x12, vi x13]) ∧ Fr W1 W2 H0 fun H1 =>
 (Cl Try.prog W0 M H1 nK 27 #[vsl x0 x1 x2, vi x9] fun z W3 W4 => ∃ x14 : Option Loc, ∃ x15 : Nat, ∃ x16 : Nat, ∃ x17 : Int, z = .returned (Value.tuple #[vsl x14 x15 x16, vi x17]) ∧ Fr W3 W4 H1 fun H2 =>
 (Cl Try.prog W0 M H2 nK 28 #[vsl x0 x1 x2, Value.agg #[vi x3, vi x4, vi x5, vsl x6 x7 x8]] fun z W5 W6 => ∃ x18 : Option Loc, ∃ x19 : Nat, ∃ x20 : Nat, ∃ x21 : Int, z = .returned (Value.tuple #[vsl x18 x19 x20, vi x21]) ∧ Fr W5 W6 H2 fun H3 =>
 (Cl Try.prog W0 M H3 nK 29 #[vsl x0 x1 x2, vi x9] fun z W7 W8 => ∃ x22 : Option Loc, ∃ x23 : Nat, ∃ x24 : Nat, ∃ x25 : Int, z = .returned (Value.tuple #[vsl x22 x23 x24, vi x25]) ∧ Fr W7 W8 H3 fun H4 =>
 (Cl Try.prog W0 M H4 nK 22 #[] fun z W9 W10 => ∃ x26 : Bool, z = .returned (vb (x26)) ∧ Ext W9 W10 ∧
 ((x26 = true →
  (Cl Try.prog W0 M H4 nK 30 #[vsl x10 x11 x12, vsl x18 x19 x20] fun z W11 W12 => ∃ x27 : Bool, z = .returned (vb (x27)) ∧ Ext W11 W12 ∧
  ((x27 = true →
   ((x13 = x21 →
    (Cl Try.prog W0 M H4 nK 30 #[vsl x14 x15 x16, vsl x22 x23 x24] fun z W13 W14 => ∃ x28 : Bool, z = .returned (vb (x28)) ∧ Ext W13 W14 ∧
    ((x28 = true →
     Rt R W0 M H4 nK (vb (decide (x17 = x25)))) ∧
    (¬ (x28 = true) →
     Rt R W0 M H4 nK (vb (false)))))) ∧
   (¬ (x13 = x21) →
    Rt R W0 M H4 nK (vb (false))))) ∧
  (¬ (x27 = true) →
   Rt R W0 M H4 nK (vb (false)))))) ∧
 (¬ (x26 = true) →
  Rt R W0 M H4 nK (vb (false))))))))))) :
  Calls Try.prog 7 #[vsl x0 x1 x2, Value.agg #[vi x3, vi x4, vi x5, vsl x6 x7 x8], vi x9] W0 R :=
  calls_sx (M := M) (args := [.slO 0 (.k 0) (.v 1) (.v 2), .agg [.int .i64 (.v 3), .int .i64 (.v 4), .int .i64 (.v 5), .slO 6 (.k 0) (.v 7) (.v 8)], .int .i64 (.v 9)]) (nv := 10) (e := (upd (upd (upd (upd (upd (upd (upd (upd (upd (upd (fun _ => .i 0) 0 (.p x0)) 1 (.n x1)) 2 (.n x2)) 3 (.i x3)) 4 (.i x4)) 5 (.i x5)) 6 (.p x6)) 7 (.n x7)) 8 (.n x8)) 9 (.i x9))) Try.func7 {} hH (vc_of h (by kernel_rfl))
theorem x_sessFresh (x0 : Option Loc) (x1 : Nat) (x2 : Nat) (x3 : Int) (M : Nat → Prop) (H0 : Hp) (W0 : World) (R : Ending → World → Prop) (hH : H0.le (hpOf W0)) (h :
 (Cl Try.prog W0 M H0 nK 31 #[vsl x0 x1 x2, vi x3] fun z W1 W2 => ∃ x4 : Option Loc, ∃ x5 : Nat, ∃ x6 : Nat, ∃ x7 : Int, z = .returned (Value.tuple #[vsl x4 x5 x6, vi x7]) ∧ Fr W1 W2 H0 fun H1 =>
 (Cl Try.prog W0 M H1 nK 32 #[vsl x0 x1 x2, vi x3] fun z W3 W4 => ∃ x8 : Option Loc, ∃ x9 : Nat, ∃ x10 : Nat, ∃ x11 : Int, z = .returned (Value.tuple #[vsl x8 x9 x10, vi x11]) ∧ Fr W3 W4 H1 fun H2 =>
 (Cl Try.prog W0 M H2 nK 22 #[] fun z W5 W6 => ∃ x12 : Bool, z = .returned (vb (x12)) ∧ Ext W5 W6 ∧
 ((x12 = true →
  (Cl Try.prog W0 M H2 nK 30 #[vsl x4 x5 x6, vsl x8 x9 x10] fun z W7 W8 => ∃ x13 : Bool, z = .returned (vb (x13)) ∧ Ext W7 W8 ∧
  ((x13 = true →
   Rt R W0 M H2 nK (vb (decide (x7 = x11)))) ∧
  (¬ (x13 = true) →
   Rt R W0 M H2 nK (vb (false)))))) ∧
 (¬ (x12 = true) →
  Rt R W0 M H2 nK (vb (false)))))))) :
  Calls Try.prog 8 #[vsl x0 x1 x2, vi x3] W0 R :=
  calls_sx (M := M) (args := [.slO 0 (.k 0) (.v 1) (.v 2), .int .i64 (.v 3)]) (nv := 4) (e := (upd (upd (upd (upd (fun _ => .i 0) 0 (.p x0)) 1 (.n x1)) 2 (.n x2)) 3 (.i x3))) Try.func8 {} hH (vc_of h (by kernel_rfl))
end Go.Proofs.Ytcnkljeniffmmaa
namespace Go.Proofs.Ytcnkljeniffmmaa
open Go.RowKit

def rowS (c : Int) : Ses := ⟨c, 2, 9, [⟨3, 7⟩, ⟨5, -1⟩]⟩
theorem Kept.nil (D : Hp) (p : Option Loc) : Kept D p 0 0 [] := ⟨Nat.le_refl _, by simp [maxLen], Rows.nil _ _ _⟩
theorem vsl_nil : Value.slice none 0 0 = vsl none 0 0 := rfl
theorem c_row (x : Int) (H : Hp) : Gf Try.prog 53 #[vi x] H fun v D => ∃ q m d, v = .agg #[vi x, vi 2, vi 9, vsl q m d] ∧ Kept D q m d [⟨3, 7⟩, ⟨5, -1⟩] := fun W hH => by
  refine x_row x noM H W _ hH fun b0 b1 W1 n1 k1 => ?_
  have hk := k1.1
  refine ⟨_, addH noH b1 (.cells #[vi 3, vi 7, vi 5, vi (-1)] 61 (0, 0)), rfl, n1.ext, addH_le (noH_le _) hk.eq, fun b o hb => ?_, some (b1, 0), 2, 2, rfl, by simp, by simp [maxLen], Rows.block (addH_at ..) rfl (fun r hr => ?_) rfl⟩
  · unfold addH at hb
    split at hb
    · rename_i h
      subst h
      exact hk.own.resolve_right (fun h => h)
    · cases hb
  · obtain ⟨y, _, rfl⟩ := List.mem_map.1 hr
    rfl
theorem Tab.one' {H : Hp} {b : Nat} {s : Ses} {q : Option Loc} {m d : Nat} (hb : H b = some (.cells #[vi s.client, vi s.acked, vi s.seen, vsl q m d] 38 (0, 0))) (hk : Kept H q m d s.kept) : Tab H (some (b, 0)) 1 1 [s] :=
  ⟨Nat.le_refl _, by simp [maxLen], [[vi s.client, vi s.acked, vi s.seen, vsl q m d]], Rows.block hb rfl (fun r hr => by simp only [List.mem_singleton] at hr; subst hr; rfl) rfl, .one ⟨q, m, d, rfl, hk⟩⟩
theorem Tab.two' {H : Hp} {b : Nat} {s s2 : Ses} {q q2 : Option Loc} {m d m2 d2 : Nat} (hb : H b = some (.cells #[vi s.client, vi s.acked, vi s.seen, vsl q m d, vi s2.client, vi s2.acked, vi s2.seen, vsl q2 m2 d2] 38 (0, 0))) (hk : Kept H q m d s.kept) (hk2 : Kept H q2 m2 d2 s2.kept) : Tab H (some (b, 0)) 2 2 [s, s2] :=
  ⟨Nat.le_refl _, by simp [maxLen], [[vi s.client, vi s.acked, vi s.seen, vsl q m d], [vi s2.client, vi s2.acked, vi s2.seen, vsl q2 m2 d2]], Rows.block hb rfl (fun r hr => by
    simp only [List.mem_cons, List.not_mem_nil, or_false] at hr
    rcases hr with rfl | rfl <;> rfl) rfl, .cons _ _ _ _ ⟨q, m, d, rfl, hk⟩ (.one ⟨q2, m2, d2, rfl, hk2⟩)⟩
set_option maxHeartbeats 4000000 in
theorem c_sessBegun (H : Hp) : Gv Try.prog 22 #[] H (vb true) := fun W hH => by
  refine x_sessBegun noM H W _ hH ?_
  -- row 2, row 4, row 3
  refine Cl.fresh (c_row 2 H) ?_
  rintro v W1 W2 D ⟨q2, m2, d2, rfl, k2⟩ hx hD hf n
  refine ⟨_, _, _, q2, m2, d2, rfl, hx, D, hD, hf, fun H1 le1 hD1 => ?_⟩
  replace k2 := k2.mono hD1
  refine Cl.fresh (c_row 4 H1) ?_
  rintro v W1 W2 D ⟨q4, m4, d4, rfl, k4⟩ hx hD hf n
  refine ⟨_, _, _, q4, m4, d4, rfl, hx, D, hD, hf, fun H2 le2 hD2 => ?_⟩
  replace k2 := k2.mono le2
  replace k4 := k4.mono hD2
  intro b0
  refine Cl.fresh (c_row 3 H2) ?_
  rintro v W1 W2 D ⟨q3, m3, d3, rfl, k3⟩ hx hD hf n
  refine ⟨_, _, _, q3, m3, d3, rfl, hx, D, hD, hf, fun H3 le3 hD3 => ?_⟩
  replace k2 := k2.mono le3
  replace k4 := k4.mono le3
  replace k3 := k3.mono hD3
  -- l
  rw [vsl_b]
  refine Cl.freshK (post := fun v D => ∃ p' n' c', v = .tuple #[vsl p' n' c', vi 0] ∧ Tab D p' n' c' [rowS 2, rowS 3, rowS 4]) (fun W1 n1 kk => ⟨_, addH_le n1.sub kk.1.eq, ?_⟩) ?_
  · have hle := le_addH (o := .cells #[vi 2, vi 2, vi 9, vsl q2 m2 d2, vi 4, vi 2, vi 9, vsl q4 m4 d4] 38 (0, 0)) kk.1.off
    have := c_put (H := addH H3 b0 (.cells #[vi 2, vi 2, vi 9, vsl q2 m2 d2, vi 4, vi 2, vi 9, vsl q4 m4 d4] 38 (0, 0))) (Tab.two' (s := rowS 2) (s2 := rowS 4) (addH_at ..) (k2.mono hle) (k4.mono hle)) (s := rowS 3) (k3.mono hle)
    rw [show sPut [rowS 2, rowS 4] (rowS 3) = ([rowS 2, rowS 3, rowS 4], 0) from by decide] at this
    exact this
  rintro v W1 W2 D ⟨pl, nl, cl, rfl, tl⟩ hx hD hf n
  refine ⟨pl, nl, cl, _, rfl, hx, D, hD, hf, fun H4 le4 hD4 => ?_⟩
  replace k3 := k3.mono le4
  replace tl := tl.mono hD4
  -- row 5; full
  refine Cl.fresh (c_row 5 H4) ?_
  rintro v W1 W2 D ⟨q5, m5, d5, rfl, k5⟩ hx hD hf n
  refine ⟨_, _, _, q5, m5, d5, rfl, hx, D, hD, hf, fun H5 le5 hD5 => ?_⟩
  replace k3 := k3.mono le5
  replace tl := tl.mono le5
  replace k5 := k5.mono hD5
  refine Cl.fresh (c_put tl (s := rowS 5) k5) ?_
  rintro v W1 W2 D ⟨_, _, _, rfl, _⟩ hx hD hf n
  refine ⟨_, _, _, _, rfl, hx, D, hD, hf, fun H6 le6 hD6 => ?_⟩
  replace tl := tl.mono le6
  -- m
  rw [vsl_nil]
  refine Cl.fresh (c_put tl (s := ⟨3, 0, 0, []⟩) (Kept.nil H6 none)) ?_
  rintro v W1 W2 D ⟨pm, nm, cm, rfl, tm⟩ hx hD hf n
  rw [show sPut [rowS 2, rowS 3, rowS 4] ⟨3, 0, 0, []⟩ = ([rowS 2, ⟨3, 0, 0, []⟩, rowS 4], 0) from by decide] at tm
  refine ⟨pm, nm, cm, _, rfl, hx, D, hD, hf, fun H7 le7 hD7 => ?_⟩
  replace tl := tl.mono le7
  replace tm := tm.mono hD7
  -- s
  refine Cl.fresh (c_find tl 3) ?_
  rintro v W1 W2 D ⟨qs, ms, ds, rfl, ks⟩ hx hD hf n
  rw [show sFind [rowS 2, rowS 3, rowS 4] 3 = (rowS 3, true, 0) from by decide] at ks ⊢
  refine ⟨_, _, _, qs, ms, ds, _, _, rfl, hx, D, hD, hf, fun H8 le8 hD8 => ?_⟩
  replace tl := tl.mono le8
  replace tm := tm.mono le8
  replace ks := ks.mono hD8
  intro b1
  refine Cl.fresh (c_find tl 1) ?_
  rintro v W1 W2 D ⟨_, _, _, rfl, _⟩ hx hD hf n
  rw [show sFind [rowS 2, rowS 3, rowS 4] 1 = (Ses.zero, false, 0) from by decide]
  refine ⟨_, _, _, _, _, _, _, _, rfl, hx, D, hD, hf, fun H9 le9 hD9 => ?_⟩
  replace tl := tl.mono le9
  replace tm := tm.mono le9
  replace ks := ks.mono le9
  intro b2
  -- d
  refine Cl.fresh (c_drop tl 2) ?_
  rintro v W1 W2 D ⟨pd, nd, cd, rfl, td⟩ hx hD hf n
  rw [show sDrop [rowS 2, rowS 3, rowS 4] 2 = ([rowS 3, rowS 4], 0) from by decide] at td ⊢
  refine ⟨pd, nd, cd, _, rfl, hx, D, hD, hf, fun H10 le10 hD10 => ?_⟩
  replace tl := tl.mono le10
  replace tm := tm.mono le10
  replace ks := ks.mono le10
  have ld := td.len
  refine Cl.fresh (c_drop tl 1) ?_
  rintro v W1 W2 D ⟨_, _, _, rfl, _⟩ hx hD hf n
  rw [show sDrop [rowS 2, rowS 3, rowS 4] 1 = ([], 5) from by decide]
  refine ⟨_, _, _, _, rfl, hx, D, hD, hf, fun H11 le11 hD11 => ?_⟩
  replace tl := tl.mono le11
  replace tm := tm.mono le11
  replace ks := ks.mono le11
  refine Cl.fresh (c_sfresh tl 30) ?_
  rintro v W1 W2 D ⟨px, nx, cx, rfl, tx⟩ hx hD hf n
  rw [show sFresh [rowS 2, rowS 3, rowS 4] 30 = ([], 0) from by decide] at tx ⊢
  refine ⟨px, nx, cx, _, rfl, hx, D, hD, hf, fun H12 le12 hD12 => ?_⟩
  have ll := tl.len
  replace tm := tm.mono le12
  replace ks := ks.mono le12
  have lm := tm.len
  have lx := tx.len
  simp only [List.length_cons, List.length_nil] at ll lm ld lx
  refine ⟨fun _ => ⟨fun _ => ⟨fun _ => ⟨fun _ => ⟨fun _ => ⟨fun _ => ⟨fun _ => ⟨fun _ => ⟨by omega, fun _ => ⟨fun _ => ⟨by omega, fun _ => ⟨fun _ => ⟨by omega, fun _ => ?_⟩, fun h => absurd (by omega) h⟩⟩, fun h => absurd (by omega) h⟩⟩, fun h => absurd rfl h⟩, fun h => absurd rfl h⟩, fun h => absurd rfl h⟩, fun h => absurd rfl h⟩, fun h => absurd rfl h⟩, fun h => absurd rfl h⟩, fun h => absurd (by decide) h⟩, fun h => absurd rfl h⟩
  obtain ⟨t, qt, mt, dt, ht, _, hat⟩ := tm.at (k := 1) (by omega)
  simp only [List.getElem?_cons_succ, List.getElem?_cons_zero, Option.some.injEq] at ht
  subst ht
  have hat' := hat (0 + 1 * 4) (by omega)
  refine ⟨hat'.1.isSome, fun _ => ⟨by omega, fun _ => ⟨_, hat'.2.2.1, fun _ => ⟨fun _ => ⟨fun h => (by cases h), fun _ => ?_⟩, fun h => absurd rfl h⟩, fun h => absurd rfl h⟩⟩⟩
  refine Cl.fresh (c_row 3 H12) ?_
  rintro v W1 W2 D ⟨q3, m3, d3, rfl, k3⟩ hx hD hf n
  refine ⟨_, _, _, q3, m3, d3, rfl, hx, D, hD, hf, fun H13 le13 hD13 => ?_⟩
  replace ks := ks.mono le13
  replace k3 := k3.mono hD13
  refine Cl.same (c_sameSession (s := rowS 3) (t := rowS 3) ks k3) fun _ _ hx => ⟨_, rfl, hx, fun _ => ⟨by omega, fun _ => ⟨fun _ => ⟨by omega, fun _ => ⟨fun _ => ?_, fun h => absurd (by omega) h⟩⟩, fun h => absurd (by omega) h⟩⟩, fun h => absurd (by simp) h⟩
  refine Cl.fresh (c_row 4 H13) ?_
  rintro v W1 W2 D ⟨q4, m4, d4, rfl, k4⟩ hx hD hf n
  refine ⟨_, _, _, q4, m4, d4, rfl, hx, D, hD, hf, fun H14 le14 hD14 => ?_⟩
  replace k4 := k4.mono hD14
  refine Cl.fresh (c_row 2 H14) ?_
  rintro v W1 W2 D ⟨q2, m2, d2, rfl, k2⟩ hx hD hf n
  refine ⟨_, _, _, q2, m2, d2, rfl, hx, D, hD, hf, fun H15 le15 hD15 => ?_⟩
  replace k4 := k4.mono le15
  replace k2 := k2.mono hD15
  intro b3
  rw [vsl_b]
  refine Cl.sameK (v := vi 1) (fun W1 n1 kk => ⟨_, addH_le n1.sub kk.1.eq, ?_⟩) fun _ _ hx => ⟨_, rfl, hx, fun _ => ?_, fun h => absurd rfl h⟩
  · have hle := le_addH (o := .cells #[vi 4, vi 2, vi 9, vsl q4 m4 d4, vi 2, vi 2, vi 9, vsl q2 m2 d2] 38 (0, 0)) kk.1.off
    have := c_check (H := addH H15 b3 (.cells #[vi 4, vi 2, vi 9, vsl q4 m4 d4, vi 2, vi 2, vi 9, vsl q2 m2 d2] 38 (0, 0))) (Tab.two' (s := rowS 4) (s2 := rowS 2) (addH_at ..) (k4.mono hle) (k2.mono hle))
    rw [show tabErr [rowS 4, rowS 2] = 1 from by decide] at this
    exact this
  intro b4 b5
  rw [vsl_b, vsl_b]
  refine Cl.sameK (v := vi 1) (fun W1 n1 kk => ⟨_, addH_le (addH_le n1.sub kk.2.1.eq) kk.1.eq, ?_⟩) fun _ _ hx => ⟨_, rfl, hx, fun _ => ?_, fun h => absurd rfl h⟩
  · have hne : b4 ≠ b5 := fun h => by
      have h1 := kk.1.eq
      have h2 := kk.2.1.eq
      rw [h, h1] at h2
      simp at h2
    have hk4 : Kept (addH (addH H15 b4 (.cells #[vi 4, vi 0] 61 (0, 0))) b5 (.cells #[vi 1, vi 0, vi 0, vsl (some (b4, 0)) 1 1] 38 (0, 0))) (some (b4, 0)) 1 1 [⟨4, 0⟩] := ⟨Nat.le_refl _, by simp [maxLen], Rows.block (by
      unfold addH
      rw [if_neg hne, if_pos rfl]) rfl (fun r hr => by simp only [List.map_cons, List.map_nil, List.mem_singleton] at hr; subst hr; rfl) rfl⟩
    have := c_check (Tab.one' (s := ⟨1, 0, 0, [⟨4, 0⟩]⟩) (addH_at ..) hk4)
    rw [show tabErr [⟨1, 0, 0, [⟨4, 0⟩]⟩] = 1 from by decide] at this
    exact this
  intro b6
  rw [vsl_b]
  refine Cl.sameK (v := vi 3) (fun W1 n1 kk => ⟨_, addH_le n1.sub kk.1.eq, ?_⟩) fun _ _ hx => ⟨_, rfl, hx, Rt.gv' (by simp)⟩
  have := c_check (H := addH H15 b6 (.cells #[vi 0, vi 0, vi 0, vsl none 0 0] 38 (0, 0))) (Tab.one' (s := ⟨0, 0, 0, []⟩) (addH_at ..) (Kept.nil _ none))
  rw [show tabErr [⟨0, 0, 0, []⟩] = 3 from by decide] at this
  exact this
end Go.Proofs.Ytcnkljeniffmmaa
namespace Go.Proofs.Ytcnkljeniffmmaa
open Go.RowKit

theorem ek_eq_bool (x y : Operand) (a b : Bool) (w : World) : (EK.sem (.bop .eql 4 x y) [vb a, vb b]).run Try.prog w = .ok (.value (vb (decide (a = b)))) w := by
  cases a <;> cases b <;> kernel_rfl
theorem ek_ne_bool (x y : Operand) (a b : Bool) (w : World) : (EK.sem (.bop .neq 4 x y) [vb a, vb b]).run Try.prog w = .ok (.value (vb (!decide (a = b)))) w := by
  cases a <;> cases b <;> kernel_rfl
/-- a call whose answer is a table and an error -/
theorem c_sessTells {H : Hp} {p : Option Loc} {n c : Nat} {l : List Ses} (hT : Tab H p n c l) (x : Int) : Gv Try.prog 6 #[vsl p n c, vi x] H (vb true) := fun W hH => by
  refine x_sessTells p n c x noM H W _ hH ?_
  refine Cl.fresh (c_find hT x) ?_
  rintro v W1 W2 D ⟨q1, m1, d1, rfl, k1⟩ hx hD hf n
  refine ⟨_, _, _, q1, m1, d1, _, _, rfl, hx, D, hD, hf, fun H1 le1 hD1 => ?_⟩
  intro b0
  refine Cl.fresh (c_findOf (hT.mono le1) x) ?_
  rintro v W1 W2 D2 ⟨q2, m2, d2, rfl, k2⟩ hx hD hf n
  refine ⟨_, _, _, q2, m2, d2, _, _, rfl, hx, D2, hD, hf, fun H2 le2 hD2 => ?_⟩
  intro b1
  have t2 := (hT.mono le1).mono le2
  refine Cl.same (c_sessBegun H2) fun _ _ hx => ⟨_, rfl, hx, fun _ => ?_, fun h => absurd rfl h⟩
  refine Cl.same (c_check t2) fun _ _ hx => ⟨_, rfl, hx, ?_⟩
  refine Cl.same (c_tabErr t2) fun _ _ hx => ⟨_, rfl, hx, fun _ => ?_, fun h => absurd rfl h⟩
  refine Cl.same (c_sameSession ((k1.mono hD1).mono le2) (k2.mono hD2)) fun _ _ hx => ⟨_, rfl, hx, fun _ => ?_, fun h => absurd (by simp) h⟩
  intro W5 n5 _
  refine ⟨_, _, ek_eq_bool _ _ _ _ _, Ext.refl _, fun _ => Rt.gv' (by simp), fun h => absurd (by simp) h⟩
theorem c_sessPuts {H : Hp} {p : Option Loc} {n c : Nat} {l : List Ses} (hT : Tab H p n c l) {s : Ses} {q0 : Option Loc} {m0 d0 : Nat} (hk : Kept H q0 m0 d0 s.kept) (x : Int) :
    Gv Try.prog 7 #[vsl p n c, .agg #[vi s.client, vi s.acked, vi s.seen, vsl q0 m0 d0], vi x] H (vb true) := fun W hH => by
  refine x_sessPuts p n c _ _ _ q0 m0 d0 x noM H W _ hH ?_
  intro b0
  refine Cl.fresh (c_put hT hk) ?_
  rintro v W1 W2 D ⟨p1, n1, c1, rfl, k1⟩ hx hD hf n
  refine ⟨p1, n1, c1, _, rfl, hx, D, hD, hf, fun H1 le1 hD1 => ?_⟩
  replace k1 := k1.mono hD1
  replace hT := hT.mono le1
  replace hk := hk.mono le1
  refine Cl.fresh (c_drop hT x) ?_
  rintro v W1 W2 D ⟨p2, n2, c2, rfl, k2⟩ hx hD hf n
  refine ⟨p2, n2, c2, _, rfl, hx, D, hD, hf, fun H2 le2 hD2 => ?_⟩
  replace k1 := k1.mono le2
  replace k2 := k2.mono hD2
  replace hT := hT.mono le2
  replace hk := hk.mono le2
  refine Cl.fresh (c_putOf hT hk) ?_
  rintro v W1 W2 D ⟨p3, n3, c3, rfl, k3⟩ hx hD hf n
  refine ⟨p3, n3, c3, _, rfl, hx, D, hD, hf, fun H3 le3 hD3 => ?_⟩
  replace k1 := k1.mono le3
  replace k2 := k2.mono le3
  replace k3 := k3.mono hD3
  replace hT := hT.mono le3
  refine Cl.fresh (c_dropOf hT x) ?_
  rintro v W1 W2 D ⟨p4, n4, c4, rfl, k4⟩ hx hD hf n
  refine ⟨p4, n4, c4, _, rfl, hx, D, hD, hf, fun H4 le4 hD4 => ?_⟩
  replace k1 := k1.mono le4
  replace k2 := k2.mono le4
  replace k3 := k3.mono le4
  replace k4 := k4.mono hD4
  refine Cl.same (c_sessBegun H4) fun _ _ hx => ⟨_, rfl, hx, fun _ => ?_, fun h => absurd rfl h⟩
  refine Cl.same (c_sameT k1 k3) fun _ _ hx => ⟨_, rfl, hx, fun _ => ⟨fun _ => ?_, fun h => absurd rfl h⟩, fun h => absurd (by simp) h⟩
  refine Cl.same (c_sameT k2 k4) fun _ _ hx => ⟨_, rfl, hx, fun _ => Rt.gv' (by simp), fun h => absurd (by simp) h⟩
theorem c_sessFresh {H : Hp} {p : Option Loc} {n c : Nat} {l : List Ses} (hT : Tab H p n c l) (x : Int) : Gv Try.prog 8 #[vsl p n c, vi x] H (vb true) := fun W hH => by
  refine x_sessFresh p n c x noM H W _ hH ?_
  refine Cl.fresh (c_sfresh hT x) ?_
  rintro v W1 W2 D ⟨p1, n1, c1, rfl, k1⟩ hx hD hf n
  refine ⟨p1, n1, c1, _, rfl, hx, D, hD, hf, fun H1 le1 hD1 => ?_⟩
  replace k1 := k1.mono hD1
  replace hT := hT.mono le1
  refine Cl.fresh (c_freshOf hT x) ?_
  rintro v W1 W2 D ⟨p2, n2, c2, rfl, k2⟩ hx hD hf n
  refine ⟨p2, n2, c2, _, rfl, hx, D, hD, hf, fun H2 le2 hD2 => ?_⟩
  replace k1 := k1.mono le2
  replace k2 := k2.mono hD2
  refine Cl.same (c_sessBegun H2) fun _ _ hx => ⟨_, rfl, hx, fun _ => ?_, fun h => absurd rfl h⟩
  refine Cl.same (c_sameT k1 k2) fun _ _ hx => ⟨_, rfl, hx, fun _ => Rt.gv' (by simp), fun h => absurd (by simp) h⟩
end Go.Proofs.Ytcnkljeniffmmaa
