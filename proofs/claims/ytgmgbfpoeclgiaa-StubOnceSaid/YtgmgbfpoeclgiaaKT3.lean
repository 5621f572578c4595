/- Symbolic runs of functions: what each leaves to prove is enough for its call. Printed by a program of ours. No conditions. The laws of clients: what must be in any case; StubTells, StubAgain, as runs. No conditions. How clients are read. No conditions. -/
import Derived.Test.YtgmgbfpoeclgiaaKE3
import Derived.Test.YtgmgbfpoeclgiaaProg
import Derived.Test.YtgmgbfpoeclgiaaKT2
import Derived.Test.YtgmgbfpoeclgiaaKL1
import Derived.Test.YtgmgbfpoeclgiaaKD1
set_option linter.unusedVariables false
set_option linter.unusedSimpArgs false
namespace Go.Proofs.Ytgmgbfpoeclgiaa
open Go.RowKit
set_option maxRecDepth 100000
set_option maxHeartbeats 4000000
def v_stubBegun : VC :=
(.all 0
(.all 1
(.call 51 [.int .i64 (.k 1)] [] [(0, .i), (1, .i), (2, .i), (3, .i)] (.agg [.int .i64 (.v 0), .int .i64 (.v 1), .int .i64 (.v 2), .int .i64 (.v 3)]) .same
(.call 25 [.agg [.int .i64 (.k 2), .int .i64 (.k 5), .slK 0 0 3 3], .int .i64 (.k 7), .agg [.int .i64 (.v 0), .int .i64 (.v 1), .int .i64 (.v 2), .int .i64 (.v 3)]] [(0, ⟨[.int .i64 (.k 1), .int .i64 (.k 2), .int .i64 (.k 4)], 3⟩)] [(4, .i), (5, .i), (6, .p), (7, .n), (8, .n), (9, .i), (10, .i), (11, .i), (12, .i), (13, .i), (14, .i), (15, .i), (16, .i), (17, .i), (18, .i)] (.tup [.agg [.int .i64 (.v 4), .int .i64 (.v 5), .slO 6 (.k 0) (.v 7) (.v 8)], .agg [.int .i64 (.v 9), .int .i64 (.v 10), .int .i64 (.v 11), .int .i64 (.v 12), .int .i64 (.v 13), .int .i64 (.v 14), .int .i64 (.v 15), .int .i64 (.v 16), .int .i64 (.v 17)], .int .i64 (.v 18)]) .fresh
(.all 2
(.all 3
(.call 51 [.int .i64 (.k 1)] [] [(19, .i), (20, .i), (21, .i), (22, .i)] (.agg [.int .i64 (.v 19), .int .i64 (.v 20), .int .i64 (.v 21), .int .i64 (.v 22)]) .same
(.call 26 [.agg [.int .i64 (.k 2), .int .i64 (.k 5), .slK 0 0 3 3], .int .i64 (.k 7), .int .i64 (.k 3), .agg [.int .i64 (.v 19), .int .i64 (.v 20), .int .i64 (.v 21), .int .i64 (.v 22)]] [(0, ⟨[.int .i64 (.k 1), .int .i64 (.k 2), .int .i64 (.k 4)], 3⟩)] [(23, .i), (24, .i), (25, .i), (26, .i), (27, .i), (28, .i), (29, .i), (30, .i), (31, .i), (32, .i)] (.tup [.agg [.int .i64 (.v 23), .int .i64 (.v 24), .int .i64 (.v 25), .int .i64 (.v 26), .int .i64 (.v 27), .int .i64 (.v 28), .int .i64 (.v 29), .int .i64 (.v 30), .int .i64 (.v 31)], .int .i64 (.v 32)]) .same
(.all 4
(.call 51 [.int .i64 (.k 1)] [] [(33, .i), (34, .i), (35, .i), (36, .i)] (.agg [.int .i64 (.v 33), .int .i64 (.v 34), .int .i64 (.v 35), .int .i64 (.v 36)]) .same
(.call 26 [.agg [.int .i64 (.k 2), .int .i64 (.k 5), .slK 0 0 3 3], .int .i64 (.k 7), .int .i64 (.k 4), .agg [.int .i64 (.v 33), .int .i64 (.v 34), .int .i64 (.v 35), .int .i64 (.v 36)]] [(0, ⟨[.int .i64 (.k 1), .int .i64 (.k 2), .int .i64 (.k 4)], 3⟩)] [(37, .i), (38, .i), (39, .i), (40, .i), (41, .i), (42, .i), (43, .i), (44, .i), (45, .i), (46, .i)] (.tup [.agg [.int .i64 (.v 37), .int .i64 (.v 38), .int .i64 (.v 39), .int .i64 (.v 40), .int .i64 (.v 41), .int .i64 (.v 42), .int .i64 (.v 43), .int .i64 (.v 44), .int .i64 (.v 45)], .int .i64 (.v 46)]) .same
(.all 5
(.call 29 [.agg [.int .i64 (.k 2), .int .i64 (.k 5), .slK 0 0 3 3], .int .i64 (.k 3)] [(0, ⟨[.int .i64 (.k 1), .int .i64 (.k 2), .int .i64 (.k 4)], 3⟩)] [(47, .i), (48, .i), (49, .p), (50, .n), (51, .n), (52, .i)] (.tup [.agg [.int .i64 (.v 47), .int .i64 (.v 48), .slO 49 (.k 0) (.v 50) (.v 51)], .int .i64 (.v 52)]) .fresh
(.all 6
(.call 29 [.agg [.int .i64 (.k 2), .int .i64 (.k 5), .slK 0 0 3 3], .int .i64 (.k 5)] [(0, ⟨[.int .i64 (.k 1), .int .i64 (.k 2), .int .i64 (.k 4)], 3⟩)] [(53, .i), (54, .i), (55, .p), (56, .n), (57, .n), (58, .i)] (.tup [.agg [.int .i64 (.v 53), .int .i64 (.v 54), .slO 55 (.k 0) (.v 56) (.v 57)], .int .i64 (.v 58)]) .fresh
(.all 7
(.ite (.eq (.v 18) (.k 0))
(.ite (.eq (.v 32) (.k 0))
(.ite (.eq (.v 46) (.k 5))
(.ite (.eq (.v 52) (.k 0))
(.ite (.eq (.v 58) (.k 5))
(.ite (.eq (.v 5) (.k 6))
(.call 51 [.int .i64 (.k 1)] [] [(59, .i), (60, .i), (61, .i), (62, .i)] (.agg [.int .i64 (.v 59), .int .i64 (.v 60), .int .i64 (.v 61), .int .i64 (.v 62)]) .same
(.call 50 [.int .i64 (.k 7), .int .i64 (.k 2), .int .i64 (.k 5), .int .i64 (.k 2), .agg [.int .i64 (.v 59), .int .i64 (.v 60), .int .i64 (.v 61), .int .i64 (.v 62)]] [] [(63, .i), (64, .i), (65, .i), (66, .i), (67, .i), (68, .i), (69, .i), (70, .i), (71, .i)] (.agg [.int .i64 (.v 63), .int .i64 (.v 64), .int .i64 (.v 65), .int .i64 (.v 66), .int .i64 (.v 67), .int .i64 (.v 68), .int .i64 (.v 69), .int .i64 (.v 70), .int .i64 (.v 71)]) .same
(.esc (.bop .eql 43 (.tmp 68) (.tmp 70)) [.agg [.int .i64 (.v 9), .int .i64 (.v 10), .int .i64 (.v 11), .int .i64 (.v 12), .int .i64 (.v 13), .int .i64 (.v 14), .int .i64 (.v 15), .int .i64 (.v 16), .int .i64 (.v 17)], .agg [.int .i64 (.v 63), .int .i64 (.v 64), .int .i64 (.v 65), .int .i64 (.v 66), .int .i64 (.v 67), .int .i64 (.v 68), .int .i64 (.v 69), .int .i64 (.v 70), .int .i64 (.v 71)]] [] [(72, .b)] (some (.bool (.v 72))) .same
(.ite (.v 72)
(.call 51 [.int .i64 (.k 1)] [] [(73, .i), (74, .i), (75, .i), (76, .i)] (.agg [.int .i64 (.v 73), .int .i64 (.v 74), .int .i64 (.v 75), .int .i64 (.v 76)]) .same
(.call 50 [.int .i64 (.k 7), .int .i64 (.k 2), .int .i64 (.k 3), .int .i64 (.k 2), .agg [.int .i64 (.v 73), .int .i64 (.v 74), .int .i64 (.v 75), .int .i64 (.v 76)]] [] [(77, .i), (78, .i), (79, .i), (80, .i), (81, .i), (82, .i), (83, .i), (84, .i), (85, .i)] (.agg [.int .i64 (.v 77), .int .i64 (.v 78), .int .i64 (.v 79), .int .i64 (.v 80), .int .i64 (.v 81), .int .i64 (.v 82), .int .i64 (.v 83), .int .i64 (.v 84), .int .i64 (.v 85)]) .same
(.esc (.bop .eql 43 (.tmp 74) (.tmp 76)) [.agg [.int .i64 (.v 23), .int .i64 (.v 24), .int .i64 (.v 25), .int .i64 (.v 26), .int .i64 (.v 27), .int .i64 (.v 28), .int .i64 (.v 29), .int .i64 (.v 30), .int .i64 (.v 31)], .agg [.int .i64 (.v 77), .int .i64 (.v 78), .int .i64 (.v 79), .int .i64 (.v 80), .int .i64 (.v 81), .int .i64 (.v 82), .int .i64 (.v 83), .int .i64 (.v 84), .int .i64 (.v 85)]] [] [(86, .b)] (some (.bool (.v 86))) .same
(.ite (.v 86)
(.all 8
(.call 62 [.slO 49 (.k 0) (.v 50) (.v 51), .slK 8 0 4 4] [(8, ⟨[.int .i64 (.k 1), .int .i64 (.k 2), .int .i64 (.k 3), .int .i64 (.k 4)], 3⟩)] [(87, .b)] (.bool (.v 87)) .same
(.ite (.v 87)
(.call 54 [.agg [.int .i64 (.k 2), .int .i64 (.k 5), .slK 0 0 3 3]] [(0, ⟨[.int .i64 (.k 1), .int .i64 (.k 2), .int .i64 (.k 4)], 3⟩)] [(88, .i)] (.int .i64 (.v 88)) .same
(.ite (.eq (.v 88) (.k 0))
(.all 9
(.call 54 [.agg [.int .i64 (.k 1), .int .i64 (.k 1), .slK 9 0 1 1]] [(9, ⟨[.int .i64 (.k 1)], 3⟩)] [(89, .i)] (.int .i64 (.v 89)) .same
(.ite (.eq (.v 89) (.k 1))
(.call 54 [.agg [.int .i64 (.k 0), .int .i64 (.k 0), .c (Value.slice none 0 0)]] [] [(90, .i)] (.int .i64 (.v 90)) .same
(.ret (.bool (.eq (.v 90) (.k 3))) []))
(.ret (.bool (.k false)) []))))
(.ret (.bool (.k false)) [])))
(.ret (.bool (.k false)) []))))
(.ret (.bool (.k false)) [])))))
(.ret (.bool (.k false)) [])))))
(.ret (.bool (.k false)) []))
(.ret (.bool (.k false)) []))
(.ret (.bool (.k false)) []))
(.ret (.bool (.k false)) []))
(.ret (.bool (.k false)) []))
(.ret (.bool (.k false)) []))))))))))))))))))
theorem x_stubBegun (M : Nat → Prop) (H0 : Hp) (W0 : World) (R : Ending → World → Prop) (hH : H0.le (hpOf W0)) (h :
 (∀ b0 : Nat,
 (∀ b1 : Nat,
 (Cl Try.prog W0 M H0 nK 51 #[vi 1] fun z W1 W2 => ∃ x0 : Int, ∃ x1 : Int, ∃ x2 : Int, ∃ x3 : Int, z = .returned (Value.agg #[vi x0, vi x1, vi x2, vi x3]) ∧ Ext W1 W2 ∧
 (Cl Try.prog W0 M H0 (fun W => Kn W0 M H0 W b0 (Obj.cells #[vi 1, vi 2, vi 4] 3 (0, 0)) ∧ True) 25 #[Value.agg #[vi 2, vi 5, Value.slice (some ⟨b0, 0, none⟩) 3 3], vi 7, Value.agg #[vi x0, vi x1, vi x2, vi x3]] fun z W3 W4 => ∃ x4 : Int, ∃ x5 : Int, ∃ x6 : Option Loc, ∃ x7 : Nat, ∃ x8 : Nat, ∃ x9 : Int, ∃ x10 : Int, ∃ x11 : Int, ∃ x12 : Int, ∃ x13 : Int, ∃ x14 : Int, ∃ x15 : Int, ∃ x16 : Int, ∃ x17 : Int, ∃ x18 : Int, z = .returned (Value.tuple #[Value.agg #[vi x4, vi x5, vsl x6 x7 x8], Value.agg #[vi x9, vi x10, vi x11, vi x12, vi x13, vi x14, vi x15, vi x16, vi x17], vi x18]) ∧ Fr W3 W4 H0 fun H1 =>
 (∀ b2 : Nat,
 (∀ b3 : Nat,
 (Cl Try.prog W0 M H1 nK 51 #[vi 1] fun z W5 W6 => ∃ x19 : Int, ∃ x20 : Int, ∃ x21 : Int, ∃ x22 : Int, z = .returned (Value.agg #[vi x19, vi x20, vi x21, vi x22]) ∧ Ext W5 W6 ∧
 (Cl Try.prog W0 M H1 (fun W => Kn W0 M H1 W b0 (Obj.cells #[vi 1, vi 2, vi 4] 3 (0, 0)) ∧ True) 26 #[Value.agg #[vi 2, vi 5, Value.slice (some ⟨b0, 0, none⟩) 3 3], vi 7, vi 3, Value.agg #[vi x19, vi x20, vi x21, vi x22]] fun z W7 W8 => ∃ x23 : Int, ∃ x24 : Int, ∃ x25 : Int, ∃ x26 : Int, ∃ x27 : Int, ∃ x28 : Int, ∃ x29 : Int, ∃ x30 : Int, ∃ x31 : Int, ∃ x32 : Int, z = .returned (Value.tuple #[Value.agg #[vi x23, vi x24, vi x25, vi x26, vi x27, vi x28, vi x29, vi x30, vi x31], vi x32]) ∧ Ext W7 W8 ∧
 (∀ b4 : Nat,
 (Cl Try.prog W0 M H1 nK 51 #[vi 1] fun z W9 W10 => ∃ x33 : Int, ∃ x34 : Int, ∃ x35 : Int, ∃ x36 : Int, z = .returned (Value.agg #[vi x33, vi x34, vi x35, vi x36]) ∧ Ext W9 W10 ∧
 (Cl Try.prog W0 M H1 (fun W => Kn W0 M H1 W b0 (Obj.cells #[vi 1, vi 2, vi 4] 3 (0, 0)) ∧ True) 26 #[Value.agg #[vi 2, vi 5, Value.slice (some ⟨b0, 0, none⟩) 3 3], vi 7, vi 4, Value.agg #[vi x33, vi x34, vi x35, vi x36]] fun z W11 W12 => ∃ x37 : Int, ∃ x38 : Int, ∃ x39 : Int, ∃ x40 : Int, ∃ x41 : Int, ∃ x42 : Int, ∃ x43 : Int, ∃ x44 : Int, ∃ x45 : Int, ∃ x46 : Int, z = .returned (Value.tuple #[Value.agg #[vi x37, vi x38, vi x39, vi x40, vi x41, vi x42, vi x43, vi x44, vi x45], vi x46]) ∧ Ext W11 W12 ∧
 (∀ b5 : Nat,
 (Cl Try.prog W0 M H1 (fun W => Kn W0 M H1 W b0 (Obj.cells #[vi 1, vi 2, vi 4] 3 (0, 0)) ∧ True) 29 #[Value.agg #[vi 2, vi 5, Value.slice (some ⟨b0, 0, none⟩) 3 3], vi 3] fun z W13 W14 => ∃ x47 : Int, ∃ x48 : Int, ∃ x49 : Option Loc, ∃ x50 : Nat, ∃ x51 : Nat, ∃ x52 : Int, z = .returned (Value.tuple #[Value.agg #[vi x47, vi x48, vsl x49 x50 x51], vi x52]) ∧ Fr W13 W14 H1 fun H2 =>
 (∀ b6 : Nat,
 (Cl Try.prog W0 M H2 (fun W => Kn W0 M H2 W b0 (Obj.cells #[vi 1, vi 2, vi 4] 3 (0, 0)) ∧ True) 29 #[Value.agg #[vi 2, vi 5, Value.slice (some ⟨b0, 0, none⟩) 3 3], vi 5] fun z W15 W16 => ∃ x53 : Int, ∃ x54 : Int, ∃ x55 : Option Loc, ∃ x56 : Nat, ∃ x57 : Nat, ∃ x58 : Int, z = .returned (Value.tuple #[Value.agg #[vi x53, vi x54, vsl x55 x56 x57], vi x58]) ∧ Fr W15 W16 H2 fun H3 =>
 (∀ b7 : Nat,
 ((x18 = 0 →
  ((x32 = 0 →
   ((x46 = 5 →
    ((x52 = 0 →
     ((x58 = 5 →
      ((x5 = 6 →
       (Cl Try.prog W0 M H3 nK 51 #[vi 1] fun z W17 W18 => ∃ x59 : Int, ∃ x60 : Int, ∃ x61 : Int, ∃ x62 : Int, z = .returned (Value.agg #[vi x59, vi x60, vi x61, vi x62]) ∧ Ext W17 W18 ∧
       (Cl Try.prog W0 M H3 nK 50 #[vi 7, vi 2, vi 5, vi 2, Value.agg #[vi x59, vi x60, vi x61, vi x62]] fun z W19 W20 => ∃ x63 : Int, ∃ x64 : Int, ∃ x65 : Int, ∃ x66 : Int, ∃ x67 : Int, ∃ x68 : Int, ∃ x69 : Int, ∃ x70 : Int, ∃ x71 : Int, z = .returned (Value.agg #[vi x63, vi x64, vi x65, vi x66, vi x67, vi x68, vi x69, vi x70, vi x71]) ∧ Ext W19 W20 ∧
       (Es W0 M H3 nK fun W21 => ∃ x72 : Bool, Eo Try.prog (.bop .eql 43 (.tmp 68) (.tmp 70)) [Value.agg #[vi x9, vi x10, vi x11, vi x12, vi x13, vi x14, vi x15, vi x16, vi x17], Value.agg #[vi x63, vi x64, vi x65, vi x66, vi x67, vi x68, vi x69, vi x70, vi x71]] W21 (.value (vb (x72))) fun W22 => Ext W21 W22 ∧
       ((x72 = true →
        (Cl Try.prog W0 M H3 nK 51 #[vi 1] fun z W23 W24 => ∃ x73 : Int, ∃ x74 : Int, ∃ x75 : Int, ∃ x76 : Int, z = .returned (Value.agg #[vi x73, vi x74, vi x75, vi x76]) ∧ Ext W23 W24 ∧
        (Cl Try.prog W0 M H3 nK 50 #[vi 7, vi 2, vi 3, vi 2, Value.agg #[vi x73, vi x74, vi x75, vi x76]] fun z W25 W26 => ∃ x77 : Int, ∃ x78 : Int, ∃ x79 : Int, ∃ x80 : Int, ∃ x81 : Int, ∃ x82 : Int, ∃ x83 : Int, ∃ x84 : Int, ∃ x85 : Int, z = .returned (Value.agg #[vi x77, vi x78, vi x79, vi x80, vi x81, vi x82, vi x83, vi x84, vi x85]) ∧ Ext W25 W26 ∧
        (Es W0 M H3 nK fun W27 => ∃ x86 : Bool, Eo Try.prog (.bop .eql 43 (.tmp 74) (.tmp 76)) [Value.agg #[vi x23, vi x24, vi x25, vi x26, vi x27, vi x28, vi x29, vi x30, vi x31], Value.agg #[vi x77, vi x78, vi x79, vi x80, vi x81, vi x82, vi x83, vi x84, vi x85]] W27 (.value (vb (x86))) fun W28 => Ext W27 W28 ∧
        ((x86 = true →
         (∀ b8 : Nat,
         (Cl Try.prog W0 M H3 (fun W => Kn W0 M H3 W b8 (Obj.cells #[vi 1, vi 2, vi 3, vi 4] 3 (0, 0)) ∧ True) 62 #[vsl x49 x50 x51, Value.slice (some ⟨b8, 0, none⟩) 4 4] fun z W29 W30 => ∃ x87 : Bool, z = .returned (vb (x87)) ∧ Ext W29 W30 ∧
         ((x87 = true →
          (Cl Try.prog W0 M H3 (fun W => Kn W0 M H3 W b0 (Obj.cells #[vi 1, vi 2, vi 4] 3 (0, 0)) ∧ True) 54 #[Value.agg #[vi 2, vi 5, Value.slice (some ⟨b0, 0, none⟩) 3 3]] fun z W31 W32 => ∃ x88 : Int, z = .returned (vi x88) ∧ Ext W31 W32 ∧
          ((x88 = 0 →
           (∀ b9 : Nat,
           (Cl Try.prog W0 M H3 (fun W => Kn W0 M H3 W b9 (Obj.cells #[vi 1] 3 (0, 0)) ∧ True) 54 #[Value.agg #[vi 1, vi 1, Value.slice (some ⟨b9, 0, none⟩) 1 1]] fun z W33 W34 => ∃ x89 : Int, z = .returned (vi x89) ∧ Ext W33 W34 ∧
           ((x89 = 1 →
            (Cl Try.prog W0 M H3 nK 54 #[Value.agg #[vi 0, vi 0, Value.slice none 0 0]] fun z W35 W36 => ∃ x90 : Int, z = .returned (vi x90) ∧ Ext W35 W36 ∧
            Rt R W0 M H3 nK (vb (decide (x90 = 3))))) ∧
           (¬ (x89 = 1) →
            Rt R W0 M H3 nK (vb (false))))))) ∧
          (¬ (x88 = 0) →
           Rt R W0 M H3 nK (vb (false)))))) ∧
         (¬ (x87 = true) →
          Rt R W0 M H3 nK (vb (false))))))) ∧
        (¬ (x86 = true) →
         Rt R W0 M H3 nK (vb (false)))))))) ∧
       (¬ (x72 = true) →
        Rt R W0 M H3 nK (vb (false)))))))) ∧
      (¬ (x5 = 6) →
       Rt R W0 M H3 nK (vb (false))))) ∧
     (¬ (x58 = 5) →
      Rt R W0 M H3 nK (vb (false))))) ∧
    (¬ (x52 = 0) →
     Rt R W0 M H3 nK (vb (false))))) ∧
   (¬ (x46 = 5) →
    Rt R W0 M H3 nK (vb (false))))) ∧
  (¬ (x32 = 0) →
   Rt R W0 M H3 nK (vb (false))))) ∧
 (¬ (x18 = 0) →
  Rt R W0 M H3 nK (vb (false))))))))))))))))))))) :
  Calls Try.prog 30 #[] W0 R :=
  calls_sxA (M := M) (V := v_stubBegun) (hi := {}) (args := []) (nv := 0) (e := (fun _ => .i 0)) Try.func30 hH h (by kernel_rfl) (by kernel_rfl) (by kernel_rfl)
end Go.Proofs.Ytgmgbfpoeclgiaa
namespace Go.Proofs.Ytgmgbfpoeclgiaa
open Go.RowKit

def add1 : POp := ⟨2, 0, 0, 1⟩
def stub0 : Stb := ⟨2, 5, [1, 2, 4]⟩
theorem Ints.block {H : Hp} {b : Nat} {l : List Int} (hb : H b = some (.cells (l.map vi).toArray 3 (0, 0))) (hl : l.length ≤ maxLen) : Ints H (some (b, 0)) l.length l.length l :=
  ⟨Nat.le_refl _, hl, Rows.block hb (by simp) (fun r hr => by obtain ⟨x, _, rfl⟩ := List.mem_map.1 hr; rfl) (by
    simp only [List.drop_zero, Nat.mul_one]
    rw [List.take_of_length_le (by simp)]
    induction l with
    | nil => rfl
    | cons a t ih =>
      have : ((t.map irow).flatten) = t.map vi := by
        clear ih hl hb
        induction t with
        | nil => rfl
        | cons a t ih => simp only [List.map_cons, List.flatten_cons, ih]; rfl
      simp only [List.map_cons, List.flatten_cons, this]; rfl)⟩
theorem c_stubBegun (H : Hp) : Gv Try.prog 30 #[] H (vb true) := fun W hH => by
  refine x_stubBegun noM H W _ hH fun b0 b1 => ?_
  have kin : ∀ {K : Hp} {W1 : World}, Kn W noM K W1 b0 (Obj.cells #[vi 1, vi 2, vi 4] 3 (0, 0)) → Ints (addH K b0 (Obj.cells #[vi 1, vi 2, vi 4] 3 (0, 0))) (some (b0, 0)) 3 3 stub0.came := fun h => Ints.block (l := [1, 2, 4]) (addH_at ..) (by simp [maxLen])
  refine Cl.same (c_ladd 1 H) fun _ _ hx => ⟨_, _, _, _, rfl, hx, ?_⟩
  refine Cl.freshK (post := fun v D => ∃ p' n' c', v = .tuple #[(Stb.mk 2 6 [1, 2, 4]).val (vsl p' n' c'), (Ent.mk 2 7 2 5 2 add1).val, vi 0] ∧ Ints D p' n' c' [1, 2, 4]) (fun W1 n1 kk => ⟨_, addH_le n1.sub kk.1.eq, ?_⟩) ?_
  · have := c_stuNext (s := stub0) (kin kk.1) 7 add1
    rw [show stub0.doNext 7 add1 = (⟨2, 6, [1, 2, 4]⟩, ⟨2, 7, 2, 5, 2, add1⟩, 0) from by decide] at this
    exact this
  rintro v W1 W2 D ⟨p1, n1, c1, rfl, k1⟩ hx hD hf n
  refine ⟨_, _, p1, n1, c1, _, _, _, _, _, _, _, _, _, _, rfl, hx, D, hD, hf, fun H1 le1 hD1 b2 b3 => ?_⟩
  refine Cl.same (c_ladd 1 H1) fun _ _ hx => ⟨_, _, _, _, rfl, hx, ?_⟩
  refine Cl.sameK (v := .tuple #[(Ent.mk 2 7 2 3 2 add1).val, vi 0]) (fun W1 n1 kk => ⟨_, addH_le n1.sub kk.1.eq, ?_⟩) fun _ _ hx => ⟨_, _, _, _, _, _, _, _, _, _, rfl, hx, fun b4 => ?_⟩
  · have := c_stuAgain (s := stub0) (kin kk.1) 7 3 add1
    rw [show stub0.doAgain 7 3 add1 = (⟨2, 7, 2, 3, 2, add1⟩, 0) from by decide] at this
    exact this
  refine Cl.same (c_ladd 1 H1) fun _ _ hx => ⟨_, _, _, _, rfl, hx, ?_⟩
  refine Cl.sameK (v := .tuple #[Ent.zero.val, vi 5]) (fun W1 n1 kk => ⟨_, addH_le n1.sub kk.1.eq, ?_⟩) fun _ _ hx => ⟨_, _, _, _, _, _, _, _, _, _, rfl, hx, fun b5 => ?_⟩
  · have := c_stuAgain (s := stub0) (kin kk.1) 7 4 add1
    rw [show stub0.doAgain 7 4 add1 = (Ent.zero, 5) from by decide] at this
    exact this
  refine Cl.freshK (post := fun v D => ∃ p' n' c', v = .tuple #[(Stb.mk 2 5 [1, 2, 3, 4]).val (vsl p' n' c'), vi 0] ∧ Ints D p' n' c' [1, 2, 3, 4]) (fun W1 n1 kk => ⟨_, addH_le n1.sub kk.1.eq, ?_⟩) ?_
  · have := c_stuCame (s := stub0) (kin kk.1) 3
    rw [show stub0.doCame 3 = (⟨2, 5, [1, 2, 3, 4]⟩, 0) from by decide] at this
    exact this
  rintro v W1 W2 D ⟨p2, n2, c2, rfl, k2⟩ hx hD hf n
  refine ⟨_, _, p2, n2, c2, _, rfl, hx, D, hD, hf, fun H2 le2 hD2 b6 => ?_⟩
  replace k2 := k2.mono hD2
  refine Cl.freshK (post := fun v D => ∃ p' n' c', v = .tuple #[Stb.zero.val (vsl p' n' c'), vi 5] ∧ Ints D p' n' c' []) (fun W1 n1 kk => ⟨_, addH_le n1.sub kk.1.eq, ?_⟩) ?_
  · have := c_stuCame (s := stub0) (kin kk.1) 5
    rw [show stub0.doCame 5 = (Stb.zero, 5) from by decide] at this
    exact this
  rintro v W1 W2 D ⟨p3, n3, c3, rfl, k3⟩ hx hD hf n
  refine ⟨_, _, p3, n3, c3, _, rfl, hx, D, hD, hf, fun H3 le3 hD3 b7 => ?_⟩
  replace k2 := k2.mono le3
  refine ⟨fun _ => ⟨fun _ => ⟨fun _ => ⟨fun _ => ⟨fun _ => ⟨fun _ => ?_, fun h => absurd rfl h⟩, fun h => absurd rfl h⟩, fun h => absurd rfl h⟩, fun h => absurd rfl h⟩, fun h => absurd rfl h⟩, fun h => absurd rfl h⟩
  refine Cl.same (c_ladd 1 H3) fun _ _ hx => ⟨_, _, _, _, rfl, hx, ?_⟩
  refine Cl.same (c_lcall 7 2 5 2 add1 H3) fun _ _ hx => ⟨_, _, _, _, _, _, _, _, _, rfl, hx, fun W3 _ _ => ?_⟩
  refine ⟨_, _, ek_eq_ent _ _ ⟨2, 7, 2, 5, 2, add1⟩ ⟨2, 7, 2, 5, 2, add1⟩ _, Ext.refl _, fun _ => ?_, fun h => absurd (by simp) h⟩
  refine Cl.same (c_ladd 1 H3) fun _ _ hx => ⟨_, _, _, _, rfl, hx, ?_⟩
  refine Cl.same (c_lcall 7 2 3 2 add1 H3) fun _ _ hx => ⟨_, _, _, _, _, _, _, _, _, rfl, hx, fun W3 _ _ => ?_⟩
  refine ⟨_, _, ek_eq_ent _ _ ⟨2, 7, 2, 3, 2, add1⟩ ⟨2, 7, 2, 3, 2, add1⟩ _, Ext.refl _, fun _ b8 => ?_, fun h => absurd (by simp) h⟩
  refine Cl.sameK (v := vb true) (fun W1 n1 kk => ⟨_, addH_le n1.sub kk.1.eq, ?_⟩) fun _ _ hx => ⟨_, rfl, hx, fun _ => ?_, fun h => absurd rfl h⟩
  · have hle := le_addH (o := Obj.cells #[vi 1, vi 2, vi 3, vi 4] 3 (0, 0)) kk.1.off
    have := c_sameInts (k2.mono hle) (Ints.block (H := addH H3 b8 (Obj.cells #[vi 1, vi 2, vi 3, vi 4] 3 (0, 0))) (l := [1, 2, 3, 4]) (addH_at ..) (by simp [maxLen]))
    rw [decide_eq_true rfl] at this
    exact this
  refine Cl.sameK (v := vi 0) (fun W1 n1 kk => ⟨_, addH_le n1.sub kk.1.eq, ?_⟩) fun _ _ hx => ⟨_, rfl, hx, fun _ b9 => ?_, fun h => absurd rfl h⟩
  · have := c_stuCheck (s := stub0) (kin kk.1)
    rw [show stub0.err = 0 from by decide] at this
    exact this
  refine Cl.sameK (v := vi 1) (fun W1 n1 kk => ⟨_, addH_le n1.sub kk.1.eq, ?_⟩) fun _ _ hx => ⟨_, rfl, hx, fun _ => ?_, fun h => absurd rfl h⟩
  · have := c_stuCheck (s := ⟨1, 1, [1]⟩) (Ints.block (H := addH H3 b9 (Obj.cells #[vi 1] 3 (0, 0))) (l := [1]) (addH_at ..) (by simp [maxLen]))
    rw [show Stb.err ⟨1, 1, [1]⟩ = 1 from by decide] at this
    exact this
  refine Cl.same (v := vi 3) ?_ fun _ _ hx => ⟨_, rfl, hx, Rt.gv' (by simp)⟩
  have := c_stuCheck (s := Stb.zero) (Ints.nil H3 none)
  rw [show Stb.zero.err = 3 from by decide] at this
  exact this
section
variable {H : Hp} {p : Option Loc} {n c : Nat}
end
end Go.Proofs.Ytgmgbfpoeclgiaa
namespace Go.Proofs.Ytgmgbfpoeclgiaa
open Go.ChangeShapes Go.WideShapes Go.ChangeAt Go.RowKit
set_option maxRecDepth 100000
section
variable {H : Type} {enc : TypeId × Value → H} {W : World} {fuel : Nat} {held : Bool} {cs : List Value} {x : DataW H × List MemPlace}
end
end Go.Proofs.Ytgmgbfpoeclgiaa
