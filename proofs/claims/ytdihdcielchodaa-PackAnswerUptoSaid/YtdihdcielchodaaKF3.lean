/- Symbolic runs of functions: what each leaves to prove is enough for its call. Printed by a program of ours. No conditions. What must be in any case, of folding; entries that a law is shown. No conditions. Contracts: FoldTells, FoldSplit. No conditions. -/
import Derived.Test.YtdihdcielchodaaKE3
import Derived.Test.YtdihdcielchodaaProg
import Derived.Test.YtdihdcielchodaaKF2
import Derived.Test.YtdihdcielchodaaKL1
set_option linter.unusedVariables false
set_option linter.unusedSimpArgs false
namespace Go.Proofs.Ytdihdcielchodaa
open Go.RowKit
set_option maxRecDepth 100000
set_option maxHeartbeats 4000000
def v_lsome : VC :=
(.call 73 [.int .i64 (.k 1), .int .i64 (.k 1)] [] [(0, .i), (1, .i), (2, .i), (3, .i), (4, .i), (5, .i), (6, .i), (7, .i), (8, .i)] (.agg [.int .i64 (.v 0), .int .i64 (.v 1), .int .i64 (.v 2), .int .i64 (.v 3), .int .i64 (.v 4), .int .i64 (.v 5), .int .i64 (.v 6), .int .i64 (.v 7), .int .i64 (.v 8)]) .same
(.call 58 [.int .i64 (.k 5)] [] [(9, .i), (10, .i), (11, .i), (12, .i)] (.agg [.int .i64 (.v 9), .int .i64 (.v 10), .int .i64 (.v 11), .int .i64 (.v 12)]) .same
(.call 63 [.int .i64 (.k 2), .int .i64 (.k 1), .int .i64 (.k 1), .int .i64 (.k 0), .agg [.int .i64 (.v 9), .int .i64 (.v 10), .int .i64 (.v 11), .int .i64 (.v 12)]] [] [(13, .i), (14, .i), (15, .i), (16, .i), (17, .i), (18, .i), (19, .i), (20, .i), (21, .i)] (.agg [.int .i64 (.v 13), .int .i64 (.v 14), .int .i64 (.v 15), .int .i64 (.v 16), .int .i64 (.v 17), .int .i64 (.v 18), .int .i64 (.v 19), .int .i64 (.v 20), .int .i64 (.v 21)]) .same
(.call 58 [.int .i64 (.k 5)] [] [(22, .i), (23, .i), (24, .i), (25, .i)] (.agg [.int .i64 (.v 22), .int .i64 (.v 23), .int .i64 (.v 24), .int .i64 (.v 25)]) .same
(.call 63 [.int .i64 (.k 3), .int .i64 (.k 1), .int .i64 (.k 1), .int .i64 (.k 0), .agg [.int .i64 (.v 22), .int .i64 (.v 23), .int .i64 (.v 24), .int .i64 (.v 25)]] [] [(26, .i), (27, .i), (28, .i), (29, .i), (30, .i), (31, .i), (32, .i), (33, .i), (34, .i)] (.agg [.int .i64 (.v 26), .int .i64 (.v 27), .int .i64 (.v 28), .int .i64 (.v 29), .int .i64 (.v 30), .int .i64 (.v 31), .int .i64 (.v 32), .int .i64 (.v 33), .int .i64 (.v 34)]) .same
(.call 58 [.int .i64 (.k 7)] [] [(35, .i), (36, .i), (37, .i), (38, .i)] (.agg [.int .i64 (.v 35), .int .i64 (.v 36), .int .i64 (.v 37), .int .i64 (.v 38)]) .same
(.call 63 [.int .i64 (.k 4), .int .i64 (.k 2), .int .i64 (.k 1), .int .i64 (.k 0), .agg [.int .i64 (.v 35), .int .i64 (.v 36), .int .i64 (.v 37), .int .i64 (.v 38)]] [] [(39, .i), (40, .i), (41, .i), (42, .i), (43, .i), (44, .i), (45, .i), (46, .i), (47, .i)] (.agg [.int .i64 (.v 39), .int .i64 (.v 40), .int .i64 (.v 41), .int .i64 (.v 42), .int .i64 (.v 43), .int .i64 (.v 44), .int .i64 (.v 45), .int .i64 (.v 46), .int .i64 (.v 47)]) .same
(.call 73 [.int .i64 (.k 4), .int .i64 (.k 2)] [] [(48, .i), (49, .i), (50, .i), (51, .i), (52, .i), (53, .i), (54, .i), (55, .i), (56, .i)] (.agg [.int .i64 (.v 48), .int .i64 (.v 49), .int .i64 (.v 50), .int .i64 (.v 51), .int .i64 (.v 52), .int .i64 (.v 53), .int .i64 (.v 54), .int .i64 (.v 55), .int .i64 (.v 56)]) .same
(.call 63 [.int .i64 (.k 5), .int .i64 (.k 1), .int .i64 (.k 2), .int .i64 (.k 1), .agg [.int .i64 (.k 3), .int .i64 (.k 0), .int .i64 (.k 1), .int .i64 (.k 2)]] [] [(57, .i), (58, .i), (59, .i), (60, .i), (61, .i), (62, .i), (63, .i), (64, .i), (65, .i)] (.agg [.int .i64 (.v 57), .int .i64 (.v 58), .int .i64 (.v 59), .int .i64 (.v 60), .int .i64 (.v 61), .int .i64 (.v 62), .int .i64 (.v 63), .int .i64 (.v 64), .int .i64 (.v 65)]) .same
(.call 58 [.int .i64 (.k 5)] [] [(66, .i), (67, .i), (68, .i), (69, .i)] (.agg [.int .i64 (.v 66), .int .i64 (.v 67), .int .i64 (.v 68), .int .i64 (.v 69)]) .same
(.call 63 [.int .i64 (.k 6), .int .i64 (.k 1), .int .i64 (.k 1), .int .i64 (.k 0), .agg [.int .i64 (.v 66), .int .i64 (.v 67), .int .i64 (.v 68), .int .i64 (.v 69)]] [] [(70, .i), (71, .i), (72, .i), (73, .i), (74, .i), (75, .i), (76, .i), (77, .i), (78, .i)] (.agg [.int .i64 (.v 70), .int .i64 (.v 71), .int .i64 (.v 72), .int .i64 (.v 73), .int .i64 (.v 74), .int .i64 (.v 75), .int .i64 (.v 76), .int .i64 (.v 77), .int .i64 (.v 78)]) .same
(.call 58 [.int .i64 (.k 1)] [] [(79, .i), (80, .i), (81, .i), (82, .i)] (.agg [.int .i64 (.v 79), .int .i64 (.v 80), .int .i64 (.v 81), .int .i64 (.v 82)]) .same
(.call 63 [.int .i64 (.k 40), .int .i64 (.k 1), .int .i64 (.k 2), .int .i64 (.k 1), .agg [.int .i64 (.v 79), .int .i64 (.v 80), .int .i64 (.v 81), .int .i64 (.v 82)]] [] [(83, .i), (84, .i), (85, .i), (86, .i), (87, .i), (88, .i), (89, .i), (90, .i), (91, .i)] (.agg [.int .i64 (.v 83), .int .i64 (.v 84), .int .i64 (.v 85), .int .i64 (.v 86), .int .i64 (.v 87), .int .i64 (.v 88), .int .i64 (.v 89), .int .i64 (.v 90), .int .i64 (.v 91)]) .same
(.call 73 [.int .i64 (.k 41), .int .i64 (.k 1)] [] [(92, .i), (93, .i), (94, .i), (95, .i), (96, .i), (97, .i), (98, .i), (99, .i), (100, .i)] (.agg [.int .i64 (.v 92), .int .i64 (.v 93), .int .i64 (.v 94), .int .i64 (.v 95), .int .i64 (.v 96), .int .i64 (.v 97), .int .i64 (.v 98), .int .i64 (.v 99), .int .i64 (.v 100)]) .same
(.call 58 [.int .i64 (.k 9)] [] [(101, .i), (102, .i), (103, .i), (104, .i)] (.agg [.int .i64 (.v 101), .int .i64 (.v 102), .int .i64 (.v 103), .int .i64 (.v 104)]) .same
(.call 63 [.int .i64 (.k 42), .int .i64 (.k 1), .int .i64 (.k 1), .int .i64 (.k 0), .agg [.int .i64 (.v 101), .int .i64 (.v 102), .int .i64 (.v 103), .int .i64 (.v 104)]] [] [(105, .i), (106, .i), (107, .i), (108, .i), (109, .i), (110, .i), (111, .i), (112, .i), (113, .i)] (.agg [.int .i64 (.v 105), .int .i64 (.v 106), .int .i64 (.v 107), .int .i64 (.v 108), .int .i64 (.v 109), .int .i64 (.v 110), .int .i64 (.v 111), .int .i64 (.v 112), .int .i64 (.v 113)]) .same
(.all 0
(.ret (.slK 0 0 10 10) [(0, ⟨[.int .i64 (.v 0), .int .i64 (.v 1), .int .i64 (.v 2), .int .i64 (.v 3), .int .i64 (.v 4), .int .i64 (.v 5), .int .i64 (.v 6), .int .i64 (.v 7), .int .i64 (.v 8), .int .i64 (.v 13), .int .i64 (.v 14), .int .i64 (.v 15), .int .i64 (.v 16), .int .i64 (.v 17), .int .i64 (.v 18), .int .i64 (.v 19), .int .i64 (.v 20), .int .i64 (.v 21), .int .i64 (.v 26), .int .i64 (.v 27), .int .i64 (.v 28), .int .i64 (.v 29), .int .i64 (.v 30), .int .i64 (.v 31), .int .i64 (.v 32), .int .i64 (.v 33), .int .i64 (.v 34), .int .i64 (.v 39), .int .i64 (.v 40), .int .i64 (.v 41), .int .i64 (.v 42), .int .i64 (.v 43), .int .i64 (.v 44), .int .i64 (.v 45), .int .i64 (.v 46), .int .i64 (.v 47), .int .i64 (.v 48), .int .i64 (.v 49), .int .i64 (.v 50), .int .i64 (.v 51), .int .i64 (.v 52), .int .i64 (.v 53), .int .i64 (.v 54), .int .i64 (.v 55), .int .i64 (.v 56), .int .i64 (.v 57), .int .i64 (.v 58), .int .i64 (.v 59), .int .i64 (.v 60), .int .i64 (.v 61), .int .i64 (.v 62), .int .i64 (.v 63), .int .i64 (.v 64), .int .i64 (.v 65), .int .i64 (.v 70), .int .i64 (.v 71), .int .i64 (.v 72), .int .i64 (.v 73), .int .i64 (.v 74), .int .i64 (.v 75), .int .i64 (.v 76), .int .i64 (.v 77), .int .i64 (.v 78), .int .i64 (.v 83), .int .i64 (.v 84), .int .i64 (.v 85), .int .i64 (.v 86), .int .i64 (.v 87), .int .i64 (.v 88), .int .i64 (.v 89), .int .i64 (.v 90), .int .i64 (.v 91), .int .i64 (.v 92), .int .i64 (.v 93), .int .i64 (.v 94), .int .i64 (.v 95), .int .i64 (.v 96), .int .i64 (.v 97), .int .i64 (.v 98), .int .i64 (.v 99), .int .i64 (.v 100), .int .i64 (.v 105), .int .i64 (.v 106), .int .i64 (.v 107), .int .i64 (.v 108), .int .i64 (.v 109), .int .i64 (.v 110), .int .i64 (.v 111), .int .i64 (.v 112), .int .i64 (.v 113)], 54⟩)]))))))))))))))))))
theorem x_lsome (M : Nat → Prop) (H0 : Hp) (W0 : World) (R : Ending → World → Prop) (hH : H0.le (hpOf W0)) (h :
 (Cl Try.prog W0 M H0 nK 73 #[vi 1, vi 1] fun z W1 W2 => ∃ x0 : Int, ∃ x1 : Int, ∃ x2 : Int, ∃ x3 : Int, ∃ x4 : Int, ∃ x5 : Int, ∃ x6 : Int, ∃ x7 : Int, ∃ x8 : Int, z = .returned (Value.agg #[vi x0, vi x1, vi x2, vi x3, vi x4, vi x5, vi x6, vi x7, vi x8]) ∧ Ext W1 W2 ∧
 (Cl Try.prog W0 M H0 nK 58 #[vi 5] fun z W3 W4 => ∃ x9 : Int, ∃ x10 : Int, ∃ x11 : Int, ∃ x12 : Int, z = .returned (Value.agg #[vi x9, vi x10, vi x11, vi x12]) ∧ Ext W3 W4 ∧
 (Cl Try.prog W0 M H0 nK 63 #[vi 2, vi 1, vi 1, vi 0, Value.agg #[vi x9, vi x10, vi x11, vi x12]] fun z W5 W6 => ∃ x13 : Int, ∃ x14 : Int, ∃ x15 : Int, ∃ x16 : Int, ∃ x17 : Int, ∃ x18 : Int, ∃ x19 : Int, ∃ x20 : Int, ∃ x21 : Int, z = .returned (Value.agg #[vi x13, vi x14, vi x15, vi x16, vi x17, vi x18, vi x19, vi x20, vi x21]) ∧ Ext W5 W6 ∧
 (Cl Try.prog W0 M H0 nK 58 #[vi 5] fun z W7 W8 => ∃ x22 : Int, ∃ x23 : Int, ∃ x24 : Int, ∃ x25 : Int, z = .returned (Value.agg #[vi x22, vi x23, vi x24, vi x25]) ∧ Ext W7 W8 ∧
 (Cl Try.prog W0 M H0 nK 63 #[vi 3, vi 1, vi 1, vi 0, Value.agg #[vi x22, vi x23, vi x24, vi x25]] fun z W9 W10 => ∃ x26 : Int, ∃ x27 : Int, ∃ x28 : Int, ∃ x29 : Int, ∃ x30 : Int, ∃ x31 : Int, ∃ x32 : Int, ∃ x33 : Int, ∃ x34 : Int, z = .returned (Value.agg #[vi x26, vi x27, vi x28, vi x29, vi x30, vi x31, vi x32, vi x33, vi x34]) ∧ Ext W9 W10 ∧
 (Cl Try.prog W0 M H0 nK 58 #[vi 7] fun z W11 W12 => ∃ x35 : Int, ∃ x36 : Int, ∃ x37 : Int, ∃ x38 : Int, z = .returned (Value.agg #[vi x35, vi x36, vi x37, vi x38]) ∧ Ext W11 W12 ∧
 (Cl Try.prog W0 M H0 nK 63 #[vi 4, vi 2, vi 1, vi 0, Value.agg #[vi x35, vi x36, vi x37, vi x38]] fun z W13 W14 => ∃ x39 : Int, ∃ x40 : Int, ∃ x41 : Int, ∃ x42 : Int, ∃ x43 : Int, ∃ x44 : Int, ∃ x45 : Int, ∃ x46 : Int, ∃ x47 : Int, z = .returned (Value.agg #[vi x39, vi x40, vi x41, vi x42, vi x43, vi x44, vi x45, vi x46, vi x47]) ∧ Ext W13 W14 ∧
 (Cl Try.prog W0 M H0 nK 73 #[vi 4, vi 2] fun z W15 W16 => ∃ x48 : Int, ∃ x49 : Int, ∃ x50 : Int, ∃ x51 : Int, ∃ x52 : Int, ∃ x53 : Int, ∃ x54 : Int, ∃ x55 : Int, ∃ x56 : Int, z = .returned (Value.agg #[vi x48, vi x49, vi x50, vi x51, vi x52, vi x53, vi x54, vi x55, vi x56]) ∧ Ext W15 W16 ∧
 (Cl Try.prog W0 M H0 nK 63 #[vi 5, vi 1, vi 2, vi 1, Value.agg #[vi 3, vi 0, vi 1, vi 2]] fun z W17 W18 => ∃ x57 : Int, ∃ x58 : Int, ∃ x59 : Int, ∃ x60 : Int, ∃ x61 : Int, ∃ x62 : Int, ∃ x63 : Int, ∃ x64 : Int, ∃ x65 : Int, z = .returned (Value.agg #[vi x57, vi x58, vi x59, vi x60, vi x61, vi x62, vi x63, vi x64, vi x65]) ∧ Ext W17 W18 ∧
 (Cl Try.prog W0 M H0 nK 58 #[vi 5] fun z W19 W20 => ∃ x66 : Int, ∃ x67 : Int, ∃ x68 : Int, ∃ x69 : Int, z = .returned (Value.agg #[vi x66, vi x67, vi x68, vi x69]) ∧ Ext W19 W20 ∧
 (Cl Try.prog W0 M H0 nK 63 #[vi 6, vi 1, vi 1, vi 0, Value.agg #[vi x66, vi x67, vi x68, vi x69]] fun z W21 W22 => ∃ x70 : Int, ∃ x71 : Int, ∃ x72 : Int, ∃ x73 : Int, ∃ x74 : Int, ∃ x75 : Int, ∃ x76 : Int, ∃ x77 : Int, ∃ x78 : Int, z = .returned (Value.agg #[vi x70, vi x71, vi x72, vi x73, vi x74, vi x75, vi x76, vi x77, vi x78]) ∧ Ext W21 W22 ∧
 (Cl Try.prog W0 M H0 nK 58 #[vi 1] fun z W23 W24 => ∃ x79 : Int, ∃ x80 : Int, ∃ x81 : Int, ∃ x82 : Int, z = .returned (Value.agg #[vi x79, vi x80, vi x81, vi x82]) ∧ Ext W23 W24 ∧
 (Cl Try.prog W0 M H0 nK 63 #[vi 40, vi 1, vi 2, vi 1, Value.agg #[vi x79, vi x80, vi x81, vi x82]] fun z W25 W26 => ∃ x83 : Int, ∃ x84 : Int, ∃ x85 : Int, ∃ x86 : Int, ∃ x87 : Int, ∃ x88 : Int, ∃ x89 : Int, ∃ x90 : Int, ∃ x91 : Int, z = .returned (Value.agg #[vi x83, vi x84, vi x85, vi x86, vi x87, vi x88, vi x89, vi x90, vi x91]) ∧ Ext W25 W26 ∧
 (Cl Try.prog W0 M H0 nK 73 #[vi 41, vi 1] fun z W27 W28 => ∃ x92 : Int, ∃ x93 : Int, ∃ x94 : Int, ∃ x95 : Int, ∃ x96 : Int, ∃ x97 : Int, ∃ x98 : Int, ∃ x99 : Int, ∃ x100 : Int, z = .returned (Value.agg #[vi x92, vi x93, vi x94, vi x95, vi x96, vi x97, vi x98, vi x99, vi x100]) ∧ Ext W27 W28 ∧
 (Cl Try.prog W0 M H0 nK 58 #[vi 9] fun z W29 W30 => ∃ x101 : Int, ∃ x102 : Int, ∃ x103 : Int, ∃ x104 : Int, z = .returned (Value.agg #[vi x101, vi x102, vi x103, vi x104]) ∧ Ext W29 W30 ∧
 (Cl Try.prog W0 M H0 nK 63 #[vi 42, vi 1, vi 1, vi 0, Value.agg #[vi x101, vi x102, vi x103, vi x104]] fun z W31 W32 => ∃ x105 : Int, ∃ x106 : Int, ∃ x107 : Int, ∃ x108 : Int, ∃ x109 : Int, ∃ x110 : Int, ∃ x111 : Int, ∃ x112 : Int, ∃ x113 : Int, z = .returned (Value.agg #[vi x105, vi x106, vi x107, vi x108, vi x109, vi x110, vi x111, vi x112, vi x113]) ∧ Ext W31 W32 ∧
 (∀ b0 : Nat,
 Rt R W0 M H0 (fun W => Kn W0 M H0 W b0 (Obj.cells #[vi x0, vi x1, vi x2, vi x3, vi x4, vi x5, vi x6, vi x7, vi x8, vi x13, vi x14, vi x15, vi x16, vi x17, vi x18, vi x19, vi x20, vi x21, vi x26, vi x27, vi x28, vi x29, vi x30, vi x31, vi x32, vi x33, vi x34, vi x39, vi x40, vi x41, vi x42, vi x43, vi x44, vi x45, vi x46, vi x47, vi x48, vi x49, vi x50, vi x51, vi x52, vi x53, vi x54, vi x55, vi x56, vi x57, vi x58, vi x59, vi x60, vi x61, vi x62, vi x63, vi x64, vi x65, vi x70, vi x71, vi x72, vi x73, vi x74, vi x75, vi x76, vi x77, vi x78, vi x83, vi x84, vi x85, vi x86, vi x87, vi x88, vi x89, vi x90, vi x91, vi x92, vi x93, vi x94, vi x95, vi x96, vi x97, vi x98, vi x99, vi x100, vi x105, vi x106, vi x107, vi x108, vi x109, vi x110, vi x111, vi x112, vi x113] 54 (0, 0)) ∧ True) (Value.slice (some ⟨b0, 0, none⟩) 10 10))))))))))))))))))) :
  Calls Try.prog 48 #[] W0 R :=
  calls_sxA (M := M) (V := v_lsome) (hi := {}) (args := []) (nv := 0) (e := (fun _ => .i 0)) Try.func48 hH h (by kernel_rfl) (by kernel_rfl) (by kernel_rfl)
def v_foldBegun : VC :=
(.call 32 [] [] [(0, .i), (1, .i), (2, .i), (3, .i), (4, .i), (5, .i), (6, .p), (7, .n), (8, .n)] (.agg [.int .i64 (.v 0), .int .i64 (.v 1), .int .i64 (.v 2), .int .i64 (.v 3), .int .i64 (.v 4), .int .i64 (.v 5), .slO 6 (.k 0) (.v 7) (.v 8)]) .fresh
(.call 48 [] [] [(9, .p), (10, .n), (11, .n)] (.slO 9 (.k 0) (.v 10) (.v 11)) .fresh
(.call 14 [.agg [.int .i64 (.v 0), .int .i64 (.v 1), .int .i64 (.v 2), .int .i64 (.v 3), .int .i64 (.v 4), .int .i64 (.v 5), .slO 6 (.k 0) (.v 7) (.v 8)], .slO 9 (.k 0) (.v 10) (.v 11)] [] [(12, .i), (13, .i), (14, .i), (15, .i), (16, .i), (17, .i), (18, .p), (19, .n), (20, .n), (21, .p), (22, .n), (23, .n), (24, .i)] (.tup [.agg [.int .i64 (.v 12), .int .i64 (.v 13), .int .i64 (.v 14), .int .i64 (.v 15), .int .i64 (.v 16), .int .i64 (.v 17), .slO 18 (.k 0) (.v 19) (.v 20)], .slO 21 (.k 0) (.v 22) (.v 23), .int .i64 (.v 24)]) .fresh
(.all 0
(.call 32 [] [] [(25, .i), (26, .i), (27, .i), (28, .i), (29, .i), (30, .i), (31, .p), (32, .n), (33, .n)] (.agg [.int .i64 (.v 25), .int .i64 (.v 26), .int .i64 (.v 27), .int .i64 (.v 28), .int .i64 (.v 29), .int .i64 (.v 30), .slO 31 (.k 0) (.v 32) (.v 33)]) .fresh
(.all 1
(.call 14 [.agg [.int .i64 (.v 25), .int .i64 (.v 26), .int .i64 (.v 27), .int .i64 (.v 28), .int .i64 (.v 29), .int .i64 (.v 30), .slO 31 (.k 0) (.v 32) (.v 33)], .slK 1 0 51 51] [(1, ⟨[.int .i64 (.k 0), .int .i64 (.k 0), .int .i64 (.k 0), .int .i64 (.k 0), .int .i64 (.k 0), .int .i64 (.k 0), .int .i64 (.k 0), .int .i64 (.k 0), .int .i64 (.k 0), .int .i64 (.k 0), .int .i64 (.k 0), .int .i64 (.k 0), .int .i64 (.k 0), .int .i64 (.k 0), .int .i64 (.k 0), .int .i64 (.k 0), .int .i64 (.k 0), .int .i64 (.k 0), .int .i64 (.k 0), .int .i64 (.k 0), .int .i64 (.k 0), .int .i64 (.k 0), .int .i64 (.k 0), .int .i64 (.k 0), .int .i64 (.k 0), .int .i64 (.k 0), .int .i64 (.k 0), .int .i64 (.k 0), .int .i64 (.k 0), .int .i64 (.k 0), .int .i64 (.k 0), .int .i64 (.k 0), .int .i64 (.k 0), .int .i64 (.k 0), .int .i64 (.k 0), .int .i64 (.k 0), .int .i64 (.k 0), .int .i64 (.k 0), .int .i64 (.k 0), .int .i64 (.k 0), .int .i64 (.k 0), .int .i64 (.k 0), .int .i64 (.k 0), .int .i64 (.k 0), .int .i64 (.k 0), .int .i64 (.k 0), .int .i64 (.k 0), .int .i64 (.k 0), .int .i64 (.k 0), .int .i64 (.k 0), .int .i64 (.k 0), .int .i64 (.k 0), .int .i64 (.k 0), .int .i64 (.k 0), .int .i64 (.k 0), .int .i64 (.k 0), .int .i64 (.k 0), .int .i64 (.k 0), .int .i64 (.k 0), .int .i64 (.k 0), .int .i64 (.k 0), .int .i64 (.k 0), .int .i64 (.k 0), .int .i64 (.k 0), .int .i64 (.k 0), .int .i64 (.k 0), .int .i64 (.k 0), .int .i64 (.k 0), .int .i64 (.k 0), .int .i64 (.k 0), .int .i64 (.k 0), .int .i64 (.k 0), .int .i64 (.k 0), .int .i64 (.k 0), .int .i64 (.k 0), .int .i64 (.k 0), .int .i64 (.k 0), .int .i64 (.k 0), .int .i64 (.k 0), .int .i64 (.k 0), .int .i64 (.k 0), .int .i64 (.k 0), .int .i64 (.k 0), .int .i64 (.k 0), .int .i64 (.k 0), .int .i64 (.k 0), .int .i64 (.k 0), .int .i64 (.k 0), .int .i64 (.k 0), .int .i64 (.k 0), .int .i64 (.k 0), .int .i64 (.k 0), .int .i64 (.k 0), .int .i64 (.k 0), .int .i64 (.k 0), .int .i64 (.k 0), .int .i64 (.k 0), .int .i64 (.k 0), .int .i64 (.k 0), .int .i64 (.k 0), .int .i64 (.k 0), .int .i64 (.k 0), .int .i64 (.k 0), .int .i64 (.k 0), .int .i64 (.k 0), .int .i64 (.k 0), .int .i64 (.k 0), .int .i64 (.k 0), .int .i64 (.k 0), .int .i64 (.k 0), .int .i64 (.k 0), .int .i64 (.k 0), .int .i64 (.k 0), .int .i64 (.k 0), .int .i64 (.k 0), .int .i64 (.k 0), .int .i64 (.k 0), .int .i64 (.k 0), .int .i64 (.k 0), .int .i64 (.k 0), .int .i64 (.k 0), .int .i64 (.k 0), .int .i64 (.k 0), .int .i64 (.k 0), .int .i64 (.k 0), .int .i64 (.k 0), .int .i64 (.k 0), .int .i64 (.k 0), .int .i64 (.k 0), .int .i64 (.k 0), .int .i64 (.k 0), .int .i64 (.k 0), .int .i64 (.k 0), .int .i64 (.k 0), .int .i64 (.k 0), .int .i64 (.k 0), .int .i64 (.k 0), .int .i64 (.k 0), .int .i64 (.k 0), .int .i64 (.k 0), .int .i64 (.k 0), .int .i64 (.k 0), .int .i64 (.k 0), .int .i64 (.k 0), .int .i64 (.k 0), .int .i64 (.k 0), .int .i64 (.k 0), .int .i64 (.k 0), .int .i64 (.k 0), .int .i64 (.k 0), .int .i64 (.k 0), .int .i64 (.k 0), .int .i64 (.k 0), .int .i64 (.k 0), .int .i64 (.k 0), .int .i64 (.k 0), .int .i64 (.k 0), .int .i64 (.k 0), .int .i64 (.k 0), .int .i64 (.k 0), .int .i64 (.k 0), .int .i64 (.k 0), .int .i64 (.k 0), .int .i64 (.k 0), .int .i64 (.k 0), .int .i64 (.k 0), .int .i64 (.k 0), .int .i64 (.k 0), .int .i64 (.k 0), .int .i64 (.k 0), .int .i64 (.k 0), .int .i64 (.k 0), .int .i64 (.k 0), .int .i64 (.k 0), .int .i64 (.k 0), .int .i64 (.k 0), .int .i64 (.k 0), .int .i64 (.k 0), .int .i64 (.k 0), .int .i64 (.k 0), .int .i64 (.k 0), .int .i64 (.k 0), .int .i64 (.k 0), .int .i64 (.k 0), .int .i64 (.k 0), .int .i64 (.k 0), .int .i64 (.k 0), .int .i64 (.k 0), .int .i64 (.k 0), .int .i64 (.k 0), .int .i64 (.k 0), .int .i64 (.k 0), .int .i64 (.k 0), .int .i64 (.k 0), .int .i64 (.k 0), .int .i64 (.k 0), .int .i64 (.k 0), .int .i64 (.k 0), .int .i64 (.k 0), .int .i64 (.k 0), .int .i64 (.k 0), .int .i64 (.k 0), .int .i64 (.k 0), .int .i64 (.k 0), .int .i64 (.k 0), .int .i64 (.k 0), .int .i64 (.k 0), .int .i64 (.k 0), .int .i64 (.k 0), .int .i64 (.k 0), .int .i64 (.k 0), .int .i64 (.k 0), .int .i64 (.k 0), .int .i64 (.k 0), .int .i64 (.k 0), .int .i64 (.k 0), .int .i64 (.k 0), .int .i64 (.k 0), .int .i64 (.k 0), .int .i64 (.k 0), .int .i64 (.k 0), .int .i64 (.k 0), .int .i64 (.k 0), .int .i64 (.k 0), .int .i64 (.k 0), .int .i64 (.k 0), .int .i64 (.k 0), .int .i64 (.k 0), .int .i64 (.k 0), .int .i64 (.k 0), .int .i64 (.k 0), .int .i64 (.k 0), .int .i64 (.k 0), .int .i64 (.k 0), .int .i64 (.k 0), .int .i64 (.k 0), .int .i64 (.k 0), .int .i64 (.k 0), .int .i64 (.k 0), .int .i64 (.k 0), .int .i64 (.k 0), .int .i64 (.k 0), .int .i64 (.k 0), .int .i64 (.k 0), .int .i64 (.k 0), .int .i64 (.k 0), .int .i64 (.k 0), .int .i64 (.k 0), .int .i64 (.k 0), .int .i64 (.k 0), .int .i64 (.k 0), .int .i64 (.k 0), .int .i64 (.k 0), .int .i64 (.k 0), .int .i64 (.k 0), .int .i64 (.k 0), .int .i64 (.k 0), .int .i64 (.k 0), .int .i64 (.k 0), .int .i64 (.k 0), .int .i64 (.k 0), .int .i64 (.k 0), .int .i64 (.k 0), .int .i64 (.k 0), .int .i64 (.k 0), .int .i64 (.k 0), .int .i64 (.k 0), .int .i64 (.k 0), .int .i64 (.k 0), .int .i64 (.k 0), .int .i64 (.k 0), .int .i64 (.k 0), .int .i64 (.k 0), .int .i64 (.k 0), .int .i64 (.k 0), .int .i64 (.k 0), .int .i64 (.k 0), .int .i64 (.k 0), .int .i64 (.k 0), .int .i64 (.k 0), .int .i64 (.k 0), .int .i64 (.k 0), .int .i64 (.k 0), .int .i64 (.k 0), .int .i64 (.k 0), .int .i64 (.k 0), .int .i64 (.k 0), .int .i64 (.k 0), .int .i64 (.k 0), .int .i64 (.k 0), .int .i64 (.k 0), .int .i64 (.k 0), .int .i64 (.k 0), .int .i64 (.k 0), .int .i64 (.k 0), .int .i64 (.k 0), .int .i64 (.k 0), .int .i64 (.k 0), .int .i64 (.k 0), .int .i64 (.k 0), .int .i64 (.k 0), .int .i64 (.k 0), .int .i64 (.k 0), .int .i64 (.k 0), .int .i64 (.k 0), .int .i64 (.k 0), .int .i64 (.k 0), .int .i64 (.k 0), .int .i64 (.k 0), .int .i64 (.k 0), .int .i64 (.k 0), .int .i64 (.k 0), .int .i64 (.k 0), .int .i64 (.k 0), .int .i64 (.k 0), .int .i64 (.k 0), .int .i64 (.k 0), .int .i64 (.k 0), .int .i64 (.k 0), .int .i64 (.k 0), .int .i64 (.k 0), .int .i64 (.k 0), .int .i64 (.k 0), .int .i64 (.k 0), .int .i64 (.k 0), .int .i64 (.k 0), .int .i64 (.k 0), .int .i64 (.k 0), .int .i64 (.k 0), .int .i64 (.k 0), .int .i64 (.k 0), .int .i64 (.k 0), .int .i64 (.k 0), .int .i64 (.k 0), .int .i64 (.k 0), .int .i64 (.k 0), .int .i64 (.k 0), .int .i64 (.k 0), .int .i64 (.k 0), .int .i64 (.k 0), .int .i64 (.k 0), .int .i64 (.k 0), .int .i64 (.k 0), .int .i64 (.k 0), .int .i64 (.k 0), .int .i64 (.k 0), .int .i64 (.k 0), .int .i64 (.k 0), .int .i64 (.k 0), .int .i64 (.k 0), .int .i64 (.k 0), .int .i64 (.k 0), .int .i64 (.k 0), .int .i64 (.k 0), .int .i64 (.k 0), .int .i64 (.k 0), .int .i64 (.k 0), .int .i64 (.k 0), .int .i64 (.k 0), .int .i64 (.k 0), .int .i64 (.k 0), .int .i64 (.k 0), .int .i64 (.k 0), .int .i64 (.k 0), .int .i64 (.k 0), .int .i64 (.k 0), .int .i64 (.k 0), .int .i64 (.k 0), .int .i64 (.k 0), .int .i64 (.k 0), .int .i64 (.k 0), .int .i64 (.k 0), .int .i64 (.k 0), .int .i64 (.k 0), .int .i64 (.k 0), .int .i64 (.k 0), .int .i64 (.k 0), .int .i64 (.k 0), .int .i64 (.k 0), .int .i64 (.k 0), .int .i64 (.k 0), .int .i64 (.k 0), .int .i64 (.k 0), .int .i64 (.k 0), .int .i64 (.k 0), .int .i64 (.k 0), .int .i64 (.k 0), .int .i64 (.k 0), .int .i64 (.k 0), .int .i64 (.k 0), .int .i64 (.k 0), .int .i64 (.k 0), .int .i64 (.k 0), .int .i64 (.k 0), .int .i64 (.k 0), .int .i64 (.k 0), .int .i64 (.k 0), .int .i64 (.k 0), .int .i64 (.k 0), .int .i64 (.k 0), .int .i64 (.k 0), .int .i64 (.k 0), .int .i64 (.k 0), .int .i64 (.k 0), .int .i64 (.k 0), .int .i64 (.k 0), .int .i64 (.k 0), .int .i64 (.k 0), .int .i64 (.k 0), .int .i64 (.k 0), .int .i64 (.k 0), .int .i64 (.k 0), .int .i64 (.k 0), .int .i64 (.k 0), .int .i64 (.k 0), .int .i64 (.k 0), .int .i64 (.k 0), .int .i64 (.k 0), .int .i64 (.k 0), .int .i64 (.k 0), .int .i64 (.k 0), .int .i64 (.k 0), .int .i64 (.k 0), .int .i64 (.k 0), .int .i64 (.k 0), .int .i64 (.k 0), .int .i64 (.k 0), .int .i64 (.k 0), .int .i64 (.k 0), .int .i64 (.k 0), .int .i64 (.k 0), .int .i64 (.k 0), .int .i64 (.k 0), .int .i64 (.k 0), .int .i64 (.k 0), .int .i64 (.k 0), .int .i64 (.k 0), .int .i64 (.k 0), .int .i64 (.k 0), .int .i64 (.k 0), .int .i64 (.k 0), .int .i64 (.k 0), .int .i64 (.k 0), .int .i64 (.k 0), .int .i64 (.k 0), .int .i64 (.k 0), .int .i64 (.k 0), .int .i64 (.k 0), .int .i64 (.k 0), .int .i64 (.k 0), .int .i64 (.k 0), .int .i64 (.k 0), .int .i64 (.k 0), .int .i64 (.k 0), .int .i64 (.k 0), .int .i64 (.k 0), .int .i64 (.k 0), .int .i64 (.k 0), .int .i64 (.k 0)], 54⟩)] [(34, .i), (35, .i), (36, .i), (37, .i), (38, .i), (39, .i), (40, .p), (41, .n), (42, .n), (43, .p), (44, .n), (45, .n), (46, .i)] (.tup [.agg [.int .i64 (.v 34), .int .i64 (.v 35), .int .i64 (.v 36), .int .i64 (.v 37), .int .i64 (.v 38), .int .i64 (.v 39), .slO 40 (.k 0) (.v 41) (.v 42)], .slO 43 (.k 0) (.v 44) (.v 45), .int .i64 (.v 46)]) .fresh
(.all 2
(.call 49 [] [] [(47, .i), (48, .i), (49, .i), (50, .i), (51, .i), (52, .i), (53, .p), (54, .n), (55, .n)] (.agg [.int .i64 (.v 47), .int .i64 (.v 48), .int .i64 (.v 49), .int .i64 (.v 50), .int .i64 (.v 51), .int .i64 (.v 52), .slO 53 (.k 0) (.v 54) (.v 55)]) .fresh
(.all 3
(.call 48 [] [] [(56, .p), (57, .n), (58, .n)] (.slO 56 (.k 0) (.v 57) (.v 58)) .fresh
(.call 14 [.agg [.int .i64 (.k 45), .int .i64 (.v 48), .int .i64 (.v 49), .int .i64 (.v 50), .int .i64 (.v 51), .int .i64 (.v 52), .slO 53 (.k 0) (.v 54) (.v 55)], .slO 56 (.k 0) (.v 57) (.v 58)] [] [(59, .i), (60, .i), (61, .i), (62, .i), (63, .i), (64, .i), (65, .p), (66, .n), (67, .n), (68, .p), (69, .n), (70, .n), (71, .i)] (.tup [.agg [.int .i64 (.v 59), .int .i64 (.v 60), .int .i64 (.v 61), .int .i64 (.v 62), .int .i64 (.v 63), .int .i64 (.v 64), .slO 65 (.k 0) (.v 66) (.v 67)], .slO 68 (.k 0) (.v 69) (.v 70), .int .i64 (.v 71)]) .fresh
(.all 4
(.ite (.eq (.v 24) (.k 0))
(.ite (.eq (.v 46) (.k 2))
(.ite (.eq (.v 71) (.k 2))
(.call 48 [] [] [(72, .p), (73, .n), (74, .n)] (.slO 72 (.k 0) (.v 73) (.v 74)) .fresh
(.call 17 [.slO 72 (.k 0) (.v 73) (.v 74)] [] [(75, .i)] (.int .i64 (.v 75)) .same
(.ite (.eq (.v 75) (.k 0))
(.all 5
(.call 17 [.slK 5 0 1 1] [(5, ⟨[.int .i64 (.k 0), .int .i64 (.k 0), .int .i64 (.k 0), .int .i64 (.k 0), .int .i64 (.k 0), .int .i64 (.k 0), .int .i64 (.k 0), .int .i64 (.k 0), .int .i64 (.k 0)], 54⟩)] [(76, .i)] (.int .i64 (.v 76)) .same
(.ite (.eq (.v 76) (.k 4))
(.all 6
(.call 20 [.slO 21 (.k 0) (.v 22) (.v 23), .slK 6 0 10 10] [(6, ⟨[.int .i64 (.k 0), .int .i64 (.k 5), .int .i64 (.k 5), .int .i64 (.k (-3)), .int .i64 (.k 0), .int .i64 (.k 3), .int .i64 (.k (-4)), .int .i64 (.k (-3)), .int .i64 (.k 0), .int .i64 (.k 12)], 3⟩)] [(77, .b)] (.bool (.v 77)) .same
(.ite (.v 77)
(.ite (.eq (.v 12) (.k 10))
(.ite (.eq (.v 13) (.k 42))
(.esc (.bop .eql 22 (.tmp 71) (.tmp 72)) [.agg [.int .i64 (.v 14), .int .i64 (.v 15), .int .i64 (.v 16), .int .i64 (.v 17)], .agg [.int .i64 (.k 12), .int .i64 (.k 2), .int .i64 (.k 0), .int .i64 (.k 0)]] [] [(78, .b)] (some (.bool (.v 78))) .same
(.ret (.bool (.v 78)) []))
(.ret (.bool (.k false)) []))
(.ret (.bool (.k false)) []))
(.ret (.bool (.k false)) []))))
(.ret (.bool (.k false)) []))))
(.ret (.bool (.k false)) []))))
(.ret (.bool (.k false)) []))
(.ret (.bool (.k false)) []))
(.ret (.bool (.k false)) [])))))))))))))))
theorem x_foldBegun (M : Nat → Prop) (H0 : Hp) (W0 : World) (R : Ending → World → Prop) (hH : H0.le (hpOf W0)) (h :
 (Cl Try.prog W0 M H0 nK 32 #[] fun z W1 W2 => ∃ x0 : Int, ∃ x1 : Int, ∃ x2 : Int, ∃ x3 : Int, ∃ x4 : Int, ∃ x5 : Int, ∃ x6 : Option Loc, ∃ x7 : Nat, ∃ x8 : Nat, z = .returned (Value.agg #[vi x0, vi x1, vi x2, vi x3, vi x4, vi x5, vsl x6 x7 x8]) ∧ Fr W1 W2 H0 fun H1 =>
 (Cl Try.prog W0 M H1 nK 48 #[] fun z W3 W4 => ∃ x9 : Option Loc, ∃ x10 : Nat, ∃ x11 : Nat, z = .returned (vsl x9 x10 x11) ∧ Fr W3 W4 H1 fun H2 =>
 (Cl Try.prog W0 M H2 nK 14 #[Value.agg #[vi x0, vi x1, vi x2, vi x3, vi x4, vi x5, vsl x6 x7 x8], vsl x9 x10 x11] fun z W5 W6 => ∃ x12 : Int, ∃ x13 : Int, ∃ x14 : Int, ∃ x15 : Int, ∃ x16 : Int, ∃ x17 : Int, ∃ x18 : Option Loc, ∃ x19 : Nat, ∃ x20 : Nat, ∃ x21 : Option Loc, ∃ x22 : Nat, ∃ x23 : Nat, ∃ x24 : Int, z = .returned (Value.tuple #[Value.agg #[vi x12, vi x13, vi x14, vi x15, vi x16, vi x17, vsl x18 x19 x20], vsl x21 x22 x23, vi x24]) ∧ Fr W5 W6 H2 fun H3 =>
 (∀ b0 : Nat,
 (Cl Try.prog W0 M H3 nK 32 #[] fun z W7 W8 => ∃ x25 : Int, ∃ x26 : Int, ∃ x27 : Int, ∃ x28 : Int, ∃ x29 : Int, ∃ x30 : Int, ∃ x31 : Option Loc, ∃ x32 : Nat, ∃ x33 : Nat, z = .returned (Value.agg #[vi x25, vi x26, vi x27, vi x28, vi x29, vi x30, vsl x31 x32 x33]) ∧ Fr W7 W8 H3 fun H4 =>
 (∀ b1 : Nat,
 (Cl Try.prog W0 M H4 (fun W => Kn W0 M H4 W b1 (Obj.cells #[vi 0, vi 0, vi 0, vi 0, vi 0, vi 0, vi 0, vi 0, vi 0, vi 0, vi 0, vi 0, vi 0, vi 0, vi 0, vi 0, vi 0, vi 0, vi 0, vi 0, vi 0, vi 0, vi 0, vi 0, vi 0, vi 0, vi 0, vi 0, vi 0, vi 0, vi 0, vi 0, vi 0, vi 0, vi 0, vi 0, vi 0, vi 0, vi 0, vi 0, vi 0, vi 0, vi 0, vi 0, vi 0, vi 0, vi 0, vi 0, vi 0, vi 0, vi 0, vi 0, vi 0, vi 0, vi 0, vi 0, vi 0, vi 0, vi 0, vi 0, vi 0, vi 0, vi 0, vi 0, vi 0, vi 0, vi 0, vi 0, vi 0, vi 0, vi 0, vi 0, vi 0, vi 0, vi 0, vi 0, vi 0, vi 0, vi 0, vi 0, vi 0, vi 0, vi 0, vi 0, vi 0, vi 0, vi 0, vi 0, vi 0, vi 0, vi 0, vi 0, vi 0, vi 0, vi 0, vi 0, vi 0, vi 0, vi 0, vi 0, vi 0, vi 0, vi 0, vi 0, vi 0, vi 0, vi 0, vi 0, vi 0, vi 0, vi 0, vi 0, vi 0, vi 0, vi 0, vi 0, vi 0, vi 0, vi 0, vi 0, vi 0, vi 0, vi 0, vi 0, vi 0, vi 0, vi 0, vi 0, vi 0, vi 0, vi 0, vi 0, vi 0, vi 0, vi 0, vi 0, vi 0, vi 0, vi 0, vi 0, vi 0, vi 0, vi 0, vi 0, vi 0, vi 0, vi 0, vi 0, vi 0, vi 0, vi 0, vi 0, vi 0, vi 0, vi 0, vi 0, vi 0, vi 0, vi 0, vi 0, vi 0, vi 0, vi 0, vi 0, vi 0, vi 0, vi 0, vi 0, vi 0, vi 0, vi 0, vi 0, vi 0, vi 0, vi 0, vi 0, vi 0, vi 0, vi 0, vi 0, vi 0, vi 0, vi 0, vi 0, vi 0, vi 0, vi 0, vi 0, vi 0, vi 0, vi 0, vi 0, vi 0, vi 0, vi 0, vi 0, vi 0, vi 0, vi 0, vi 0, vi 0, vi 0, vi 0, vi 0, vi 0, vi 0, vi 0, vi 0, vi 0, vi 0, vi 0, vi 0, vi 0, vi 0, vi 0, vi 0, vi 0, vi 0, vi 0, vi 0, vi 0, vi 0, vi 0, vi 0, vi 0, vi 0, vi 0, vi 0, vi 0, vi 0, vi 0, vi 0, vi 0, vi 0, vi 0, vi 0, vi 0, vi 0, vi 0, vi 0, vi 0, vi 0, vi 0, vi 0, vi 0, vi 0, vi 0, vi 0, vi 0, vi 0, vi 0, vi 0, vi 0, vi 0, vi 0, vi 0, vi 0, vi 0, vi 0, vi 0, vi 0, vi 0, vi 0, vi 0, vi 0, vi 0, vi 0, vi 0, vi 0, vi 0, vi 0, vi 0, vi 0, vi 0, vi 0, vi 0, vi 0, vi 0, vi 0, vi 0, vi 0, vi 0, vi 0, vi 0, vi 0, vi 0, vi 0, vi 0, vi 0, vi 0, vi 0, vi 0, vi 0, vi 0, vi 0, vi 0, vi 0, vi 0, vi 0, vi 0, vi 0, vi 0, vi 0, vi 0, vi 0, vi 0, vi 0, vi 0, vi 0, vi 0, vi 0, vi 0, vi 0, vi 0, vi 0, vi 0, vi 0, vi 0, vi 0, vi 0, vi 0, vi 0, vi 0, vi 0, vi 0, vi 0, vi 0, vi 0, vi 0, vi 0, vi 0, vi 0, vi 0, vi 0, vi 0, vi 0, vi 0, vi 0, vi 0, vi 0, vi 0, vi 0, vi 0, vi 0, vi 0, vi 0, vi 0, vi 0, vi 0, vi 0, vi 0, vi 0, vi 0, vi 0, vi 0, vi 0, vi 0, vi 0, vi 0, vi 0, vi 0, vi 0, vi 0, vi 0, vi 0, vi 0, vi 0, vi 0, vi 0, vi 0, vi 0, vi 0, vi 0, vi 0, vi 0, vi 0, vi 0, vi 0, vi 0, vi 0, vi 0, vi 0, vi 0, vi 0, vi 0, vi 0, vi 0, vi 0, vi 0, vi 0, vi 0, vi 0, vi 0, vi 0, vi 0, vi 0, vi 0, vi 0, vi 0, vi 0, vi 0, vi 0, vi 0, vi 0, vi 0, vi 0, vi 0, vi 0, vi 0, vi 0, vi 0, vi 0, vi 0, vi 0, vi 0, vi 0, vi 0, vi 0, vi 0, vi 0, vi 0, vi 0, vi 0, vi 0, vi 0, vi 0, vi 0, vi 0, vi 0, vi 0, vi 0, vi 0, vi 0, vi 0, vi 0, vi 0, vi 0, vi 0, vi 0, vi 0, vi 0, vi 0, vi 0, vi 0, vi 0, vi 0, vi 0, vi 0, vi 0, vi 0, vi 0, vi 0, vi 0, vi 0, vi 0, vi 0, vi 0, vi 0, vi 0] 54 (0, 0)) ∧ True) 14 #[Value.agg #[vi x25, vi x26, vi x27, vi x28, vi x29, vi x30, vsl x31 x32 x33], Value.slice (some ⟨b1, 0, none⟩) 51 51] fun z W9 W10 => ∃ x34 : Int, ∃ x35 : Int, ∃ x36 : Int, ∃ x37 : Int, ∃ x38 : Int, ∃ x39 : Int, ∃ x40 : Option Loc, ∃ x41 : Nat, ∃ x42 : Nat, ∃ x43 : Option Loc, ∃ x44 : Nat, ∃ x45 : Nat, ∃ x46 : Int, z = .returned (Value.tuple #[Value.agg #[vi x34, vi x35, vi x36, vi x37, vi x38, vi x39, vsl x40 x41 x42], vsl x43 x44 x45, vi x46]) ∧ Fr W9 W10 H4 fun H5 =>
 (∀ b2 : Nat,
 (Cl Try.prog W0 M H5 nK 49 #[] fun z W11 W12 => ∃ x47 : Int, ∃ x48 : Int, ∃ x49 : Int, ∃ x50 : Int, ∃ x51 : Int, ∃ x52 : Int, ∃ x53 : Option Loc, ∃ x54 : Nat, ∃ x55 : Nat, z = .returned (Value.agg #[vi x47, vi x48, vi x49, vi x50, vi x51, vi x52, vsl x53 x54 x55]) ∧ Fr W11 W12 H5 fun H6 =>
 (∀ b3 : Nat,
 (Cl Try.prog W0 M H6 nK 48 #[] fun z W13 W14 => ∃ x56 : Option Loc, ∃ x57 : Nat, ∃ x58 : Nat, z = .returned (vsl x56 x57 x58) ∧ Fr W13 W14 H6 fun H7 =>
 (Cl Try.prog W0 M H7 nK 14 #[Value.agg #[vi 45, vi x48, vi x49, vi x50, vi x51, vi x52, vsl x53 x54 x55], vsl x56 x57 x58] fun z W15 W16 => ∃ x59 : Int, ∃ x60 : Int, ∃ x61 : Int, ∃ x62 : Int, ∃ x63 : Int, ∃ x64 : Int, ∃ x65 : Option Loc, ∃ x66 : Nat, ∃ x67 : Nat, ∃ x68 : Option Loc, ∃ x69 : Nat, ∃ x70 : Nat, ∃ x71 : Int, z = .returned (Value.tuple #[Value.agg #[vi x59, vi x60, vi x61, vi x62, vi x63, vi x64, vsl x65 x66 x67], vsl x68 x69 x70, vi x71]) ∧ Fr W15 W16 H7 fun H8 =>
 (∀ b4 : Nat,
 ((x24 = 0 →
  ((x46 = 2 →
   ((x71 = 2 →
    (Cl Try.prog W0 M H8 nK 48 #[] fun z W17 W18 => ∃ x72 : Option Loc, ∃ x73 : Nat, ∃ x74 : Nat, z = .returned (vsl x72 x73 x74) ∧ Fr W17 W18 H8 fun H9 =>
    (Cl Try.prog W0 M H9 nK 17 #[vsl x72 x73 x74] fun z W19 W20 => ∃ x75 : Int, z = .returned (vi x75) ∧ Ext W19 W20 ∧
    ((x75 = 0 →
     (∀ b5 : Nat,
     (Cl Try.prog W0 M H9 (fun W => Kn W0 M H9 W b5 (Obj.cells #[vi 0, vi 0, vi 0, vi 0, vi 0, vi 0, vi 0, vi 0, vi 0] 54 (0, 0)) ∧ True) 17 #[Value.slice (some ⟨b5, 0, none⟩) 1 1] fun z W21 W22 => ∃ x76 : Int, z = .returned (vi x76) ∧ Ext W21 W22 ∧
     ((x76 = 4 →
      (∀ b6 : Nat,
      (Cl Try.prog W0 M H9 (fun W => Kn W0 M H9 W b6 (Obj.cells #[vi 0, vi 5, vi 5, vi (-3), vi 0, vi 3, vi (-4), vi (-3), vi 0, vi 12] 3 (0, 0)) ∧ True) 20 #[vsl x21 x22 x23, Value.slice (some ⟨b6, 0, none⟩) 10 10] fun z W23 W24 => ∃ x77 : Bool, z = .returned (vb (x77)) ∧ Ext W23 W24 ∧
      ((x77 = true →
       ((x12 = 10 →
        ((x13 = 42 →
         (Es W0 M H9 nK fun W25 => ∃ x78 : Bool, Eo Try.prog (.bop .eql 22 (.tmp 71) (.tmp 72)) [Value.agg #[vi x14, vi x15, vi x16, vi x17], Value.agg #[vi 12, vi 2, vi 0, vi 0]] W25 (.value (vb (x78))) fun W26 => Ext W25 W26 ∧
         Rt R W0 M H9 nK (vb (x78)))) ∧
        (¬ (x13 = 42) →
         Rt R W0 M H9 nK (vb (false))))) ∧
       (¬ (x12 = 10) →
        Rt R W0 M H9 nK (vb (false))))) ∧
      (¬ (x77 = true) →
       Rt R W0 M H9 nK (vb (false))))))) ∧
     (¬ (x76 = 4) →
      Rt R W0 M H9 nK (vb (false))))))) ∧
    (¬ (x75 = 0) →
     Rt R W0 M H9 nK (vb (false))))))) ∧
   (¬ (x71 = 2) →
    Rt R W0 M H8 nK (vb (false))))) ∧
  (¬ (x46 = 2) →
   Rt R W0 M H8 nK (vb (false))))) ∧
 (¬ (x24 = 0) →
  Rt R W0 M H8 nK (vb (false)))))))))))))))))) :
  Calls Try.prog 16 #[] W0 R :=
  calls_sxA (M := M) (V := v_foldBegun) (hi := {}) (args := []) (nv := 0) (e := (fun _ => .i 0)) Try.func16 hH h (by kernel_rfl) (by kernel_rfl) (by kernel_rfl)
def v_foldTells : VC :=
(.all 0
(.call 14 [.agg [.int .i64 (.v 0), .int .i64 (.v 1), .int .i64 (.v 2), .int .i64 (.v 3), .int .i64 (.v 4), .int .i64 (.v 5), .slO 6 (.k 0) (.v 7) (.v 8)], .slO 9 (.k 0) (.v 10) (.v 11)] [] [(12, .i), (13, .i), (14, .i), (15, .i), (16, .i), (17, .i), (18, .p), (19, .n), (20, .n), (21, .p), (22, .n), (23, .n), (24, .i)] (.tup [.agg [.int .i64 (.v 12), .int .i64 (.v 13), .int .i64 (.v 14), .int .i64 (.v 15), .int .i64 (.v 16), .int .i64 (.v 17), .slO 18 (.k 0) (.v 19) (.v 20)], .slO 21 (.k 0) (.v 22) (.v 23), .int .i64 (.v 24)]) .fresh
(.all 1
(.call 15 [.agg [.int .i64 (.v 0), .int .i64 (.v 1), .int .i64 (.v 2), .int .i64 (.v 3), .int .i64 (.v 4), .int .i64 (.v 5), .slO 6 (.k 0) (.v 7) (.v 8)], .slO 9 (.k 0) (.v 10) (.v 11)] [] [(25, .i), (26, .i), (27, .i), (28, .i), (29, .i), (30, .i), (31, .p), (32, .n), (33, .n), (34, .p), (35, .n), (36, .n), (37, .i)] (.tup [.agg [.int .i64 (.v 25), .int .i64 (.v 26), .int .i64 (.v 27), .int .i64 (.v 28), .int .i64 (.v 29), .int .i64 (.v 30), .slO 31 (.k 0) (.v 32) (.v 33)], .slO 34 (.k 0) (.v 35) (.v 36), .int .i64 (.v 37)]) .fresh
(.all 2
(.call 16 [] [] [(38, .b)] (.bool (.v 38)) .same
(.ite (.v 38)
(.call 17 [.slO 9 (.k 0) (.v 10) (.v 11)] [] [(39, .i)] (.int .i64 (.v 39)) .same
(.call 18 [.slO 9 (.k 0) (.v 10) (.v 11)] [] [(40, .i)] (.int .i64 (.v 40)) .same
(.ite (.eq (.v 39) (.v 40))
(.call 19 [.agg [.int .i64 (.v 12), .int .i64 (.v 13), .int .i64 (.v 14), .int .i64 (.v 15), .int .i64 (.v 16), .int .i64 (.v 17), .slO 18 (.k 0) (.v 19) (.v 20)], .agg [.int .i64 (.v 25), .int .i64 (.v 26), .int .i64 (.v 27), .int .i64 (.v 28), .int .i64 (.v 29), .int .i64 (.v 30), .slO 31 (.k 0) (.v 32) (.v 33)]] [] [(41, .b)] (.bool (.v 41)) .same
(.ite (.v 41)
(.call 20 [.slO 21 (.k 0) (.v 22) (.v 23), .slO 34 (.k 0) (.v 35) (.v 36)] [] [(42, .b)] (.bool (.v 42)) .same
(.ite (.v 42)
(.ret (.bool (.eq (.v 24) (.v 37))) [])
(.ret (.bool (.k false)) [])))
(.ret (.bool (.k false)) [])))
(.ret (.bool (.k false)) []))))
(.ret (.bool (.k false)) []))))))))
theorem x_foldTells (x0 : Int) (x1 : Int) (x2 : Int) (x3 : Int) (x4 : Int) (x5 : Int) (x6 : Option Loc) (x7 : Nat) (x8 : Nat) (x9 : Option Loc) (x10 : Nat) (x11 : Nat) (M : Nat → Prop) (H0 : Hp) (W0 : World) (R : Ending → World → Prop) (hH : H0.le (hpOf W0)) (h :
 (∀ b0 : Nat,
 (Cl Try.prog W0 M H0 nK 14 #[Value.agg #[vi x0, vi x1, vi x2, vi x3, vi x4, vi x5, vsl x6 x7 x8], vsl x9 x10 x11] fun z W1 W2 => ∃ x12 : Int, ∃ x13 : Int, ∃ x14 : Int, ∃ x15 : Int, ∃ x16 : Int, ∃ x17 : Int, ∃ x18 : Option Loc, ∃ x19 : Nat, ∃ x20 : Nat, ∃ x21 : Option Loc, ∃ x22 : Nat, ∃ x23 : Nat, ∃ x24 : Int, z = .returned (Value.tuple #[Value.agg #[vi x12, vi x13, vi x14, vi x15, vi x16, vi x17, vsl x18 x19 x20], vsl x21 x22 x23, vi x24]) ∧ Fr W1 W2 H0 fun H1 =>
 (∀ b1 : Nat,
 (Cl Try.prog W0 M H1 nK 15 #[Value.agg #[vi x0, vi x1, vi x2, vi x3, vi x4, vi x5, vsl x6 x7 x8], vsl x9 x10 x11] fun z W3 W4 => ∃ x25 : Int, ∃ x26 : Int, ∃ x27 : Int, ∃ x28 : Int, ∃ x29 : Int, ∃ x30 : Int, ∃ x31 : Option Loc, ∃ x32 : Nat, ∃ x33 : Nat, ∃ x34 : Option Loc, ∃ x35 : Nat, ∃ x36 : Nat, ∃ x37 : Int, z = .returned (Value.tuple #[Value.agg #[vi x25, vi x26, vi x27, vi x28, vi x29, vi x30, vsl x31 x32 x33], vsl x34 x35 x36, vi x37]) ∧ Fr W3 W4 H1 fun H2 =>
 (∀ b2 : Nat,
 (Cl Try.prog W0 M H2 nK 16 #[] fun z W5 W6 => ∃ x38 : Bool, z = .returned (vb (x38)) ∧ Ext W5 W6 ∧
 ((x38 = true →
  (Cl Try.prog W0 M H2 nK 17 #[vsl x9 x10 x11] fun z W7 W8 => ∃ x39 : Int, z = .returned (vi x39) ∧ Ext W7 W8 ∧
  (Cl Try.prog W0 M H2 nK 18 #[vsl x9 x10 x11] fun z W9 W10 => ∃ x40 : Int, z = .returned (vi x40) ∧ Ext W9 W10 ∧
  ((x39 = x40 →
   (Cl Try.prog W0 M H2 nK 19 #[Value.agg #[vi x12, vi x13, vi x14, vi x15, vi x16, vi x17, vsl x18 x19 x20], Value.agg #[vi x25, vi x26, vi x27, vi x28, vi x29, vi x30, vsl x31 x32 x33]] fun z W11 W12 => ∃ x41 : Bool, z = .returned (vb (x41)) ∧ Ext W11 W12 ∧
   ((x41 = true →
    (Cl Try.prog W0 M H2 nK 20 #[vsl x21 x22 x23, vsl x34 x35 x36] fun z W13 W14 => ∃ x42 : Bool, z = .returned (vb (x42)) ∧ Ext W13 W14 ∧
    ((x42 = true →
     Rt R W0 M H2 nK (vb (decide (x24 = x37)))) ∧
    (¬ (x42 = true) →
     Rt R W0 M H2 nK (vb (false)))))) ∧
   (¬ (x41 = true) →
    Rt R W0 M H2 nK (vb (false)))))) ∧
  (¬ (x39 = x40) →
   Rt R W0 M H2 nK (vb (false))))))) ∧
 (¬ (x38 = true) →
  Rt R W0 M H2 nK (vb (false))))))))))) :
  Calls Try.prog 3 #[Value.agg #[vi x0, vi x1, vi x2, vi x3, vi x4, vi x5, vsl x6 x7 x8], vsl x9 x10 x11] W0 R :=
  calls_sxA (M := M) (V := v_foldTells) (hi := {}) (args := [.agg [.int .i64 (.v 0), .int .i64 (.v 1), .int .i64 (.v 2), .int .i64 (.v 3), .int .i64 (.v 4), .int .i64 (.v 5), .slO 6 (.k 0) (.v 7) (.v 8)], .slO 9 (.k 0) (.v 10) (.v 11)]) (nv := 12) (e := (upd (upd (upd (upd (upd (upd (upd (upd (upd (upd (upd (upd (fun _ => .i 0) 0 (.i x0)) 1 (.i x1)) 2 (.i x2)) 3 (.i x3)) 4 (.i x4)) 5 (.i x5)) 6 (.p x6)) 7 (.n x7)) 8 (.n x8)) 9 (.p x9)) 10 (.n x10)) 11 (.n x11))) Try.func3 hH h (by kernel_rfl) (by kernel_rfl) (by kernel_rfl)
def v_foldSplit : VC :=
(.all 0
(.call 14 [.agg [.int .i64 (.v 0), .int .i64 (.v 1), .int .i64 (.v 2), .int .i64 (.v 3), .int .i64 (.v 4), .int .i64 (.v 5), .slO 6 (.k 0) (.v 7) (.v 8)], .slO 9 (.k 0) (.v 10) (.v 11)] [] [(13, .i), (14, .i), (15, .i), (16, .i), (17, .i), (18, .i), (19, .p), (20, .n), (21, .n), (22, .p), (23, .n), (24, .n), (25, .i)] (.tup [.agg [.int .i64 (.v 13), .int .i64 (.v 14), .int .i64 (.v 15), .int .i64 (.v 16), .int .i64 (.v 17), .int .i64 (.v 18), .slO 19 (.k 0) (.v 20) (.v 21)], .slO 22 (.k 0) (.v 23) (.v 24), .int .i64 (.v 25)]) .fresh
(.all 1
(.ite (.eq (.v 25) (.k 0))
(.chk (.le (.k 0) (.v 10))
(.chk (.rng .i64 (.add (.v 10) (.k 1)))
(.call 21 [.int .i64 (.v 12), .int .i64 (.add (.v 10) (.k 1))] [] [(26, .i)] (.int .i64 (.v 26)) .same
(.chk (.le (.k 0) (.v 26))
(.chk (.le (.v 26) (.v 11))
(.call 14 [.agg [.int .i64 (.v 0), .int .i64 (.v 1), .int .i64 (.v 2), .int .i64 (.v 3), .int .i64 (.v 4), .int .i64 (.v 5), .slO 6 (.k 0) (.v 7) (.v 8)], .slO 9 (.k 0) (.v 26) (.v 11)] [] [(27, .i), (28, .i), (29, .i), (30, .i), (31, .i), (32, .i), (33, .p), (34, .n), (35, .n), (36, .p), (37, .n), (38, .n), (39, .i)] (.tup [.agg [.int .i64 (.v 27), .int .i64 (.v 28), .int .i64 (.v 29), .int .i64 (.v 30), .int .i64 (.v 31), .int .i64 (.v 32), .slO 33 (.k 0) (.v 34) (.v 35)], .slO 36 (.k 0) (.v 37) (.v 38), .int .i64 (.v 39)]) .fresh
(.all 2
(.chk (.le (.v 26) (.v 10))
(.chk (.le (.v 10) (.v 11))
(.call 14 [.agg [.int .i64 (.v 27), .int .i64 (.v 28), .int .i64 (.v 29), .int .i64 (.v 30), .int .i64 (.v 31), .int .i64 (.v 32), .slO 33 (.k 0) (.v 34) (.v 35)], .slO 9 (.add (.k 0) (.skip (.v 11) (.v 26) 9)) (.sub (.v 10) (.v 26)) (.sub (.v 11) (.v 26))] [] [(40, .i), (41, .i), (42, .i), (43, .i), (44, .i), (45, .i), (46, .p), (47, .n), (48, .n), (49, .p), (50, .n), (51, .n), (52, .i)] (.tup [.agg [.int .i64 (.v 40), .int .i64 (.v 41), .int .i64 (.v 42), .int .i64 (.v 43), .int .i64 (.v 44), .int .i64 (.v 45), .slO 46 (.k 0) (.v 47) (.v 48)], .slO 49 (.k 0) (.v 50) (.v 51), .int .i64 (.v 52)]) .fresh
(.all 3
(.call 16 [] [] [(53, .b)] (.bool (.v 53)) .same
(.ite (.v 53)
(.ite (.eq (.v 39) (.k 0))
(.ite (.eq (.v 52) (.k 0))
(.call 19 [.agg [.int .i64 (.v 13), .int .i64 (.v 14), .int .i64 (.v 15), .int .i64 (.v 16), .int .i64 (.v 17), .int .i64 (.v 18), .slO 19 (.k 0) (.v 20) (.v 21)], .agg [.int .i64 (.v 40), .int .i64 (.v 41), .int .i64 (.v 42), .int .i64 (.v 43), .int .i64 (.v 44), .int .i64 (.v 45), .slO 46 (.k 0) (.v 47) (.v 48)]] [] [(54, .b)] (.bool (.v 54)) .same
(.ite (.v 54)
(.all 4
(.esc (.bi .append #[27, 27] 27) [.slK 4 0 0 0, .slO 36 (.k 0) (.v 37) (.v 38)] [(4, ⟨[], 3⟩)] [(55, .p), (56, .n), (57, .n)] (some (.slO 55 (.k 0) (.v 56) (.v 57))) .turn
(.esc (.bi .append #[27, 27] 27) [.slO 55 (.k 0) (.v 56) (.v 57), .slO 49 (.k 0) (.v 50) (.v 51)] [] [(58, .p), (59, .n), (60, .n)] (some (.slO 58 (.k 0) (.v 59) (.v 60))) .turn
(.call 20 [.slO 22 (.k 0) (.v 23) (.v 24), .slO 58 (.k 0) (.v 59) (.v 60)] [] [(61, .b)] (.bool (.v 61)) .same
(.ite (.v 61)
(.call 22 [.agg [.int .i64 (.v 40), .int .i64 (.v 41), .int .i64 (.v 42), .int .i64 (.v 43), .int .i64 (.v 44), .int .i64 (.v 45), .slO 46 (.k 0) (.v 47) (.v 48)]] [] [(62, .i)] (.int .i64 (.v 62)) .same
(.ret (.bool (.eq (.v 62) (.k 0))) []))
(.ret (.bool (.k false)) []))))))
(.ret (.bool (.k false)) [])))
(.ret (.bool (.k false)) []))
(.ret (.bool (.k false)) []))
(.ret (.bool (.k false)) []))))))))))))))
(.call 16 [] [] [(26, .b)] (.bool (.v 26)) .same
(.ret (.bool (.v 26)) []))))))
theorem x_foldSplit (x0 : Int) (x1 : Int) (x2 : Int) (x3 : Int) (x4 : Int) (x5 : Int) (x6 : Option Loc) (x7 : Nat) (x8 : Nat) (x9 : Option Loc) (x10 : Nat) (x11 : Nat) (x12 : Int) (M : Nat → Prop) (H0 : Hp) (W0 : World) (R : Ending → World → Prop) (hH : H0.le (hpOf W0)) (h :
 (∀ b0 : Nat,
 (Cl Try.prog W0 M H0 nK 14 #[Value.agg #[vi x0, vi x1, vi x2, vi x3, vi x4, vi x5, vsl x6 x7 x8], vsl x9 x10 x11] fun z W1 W2 => ∃ x13 : Int, ∃ x14 : Int, ∃ x15 : Int, ∃ x16 : Int, ∃ x17 : Int, ∃ x18 : Int, ∃ x19 : Option Loc, ∃ x20 : Nat, ∃ x21 : Nat, ∃ x22 : Option Loc, ∃ x23 : Nat, ∃ x24 : Nat, ∃ x25 : Int, z = .returned (Value.tuple #[Value.agg #[vi x13, vi x14, vi x15, vi x16, vi x17, vi x18, vsl x19 x20 x21], vsl x22 x23 x24, vi x25]) ∧ Fr W1 W2 H0 fun H1 =>
 (∀ b1 : Nat,
 ((x25 = 0 →
  (0 ≤ (x10 : Int) ∧ (0 ≤ (x10 : Int) →
  (inKind .i64 ((x10 : Int) + 1) ∧ (inKind .i64 ((x10 : Int) + 1) →
  (Cl Try.prog W0 M H1 nK 21 #[vi x12, vi ((x10 : Int) + 1)] fun z W3 W4 => ∃ x26 : Int, z = .returned (vi x26) ∧ Ext W3 W4 ∧
  (0 ≤ x26 ∧ (0 ≤ x26 →
  (x26 ≤ (x11 : Int) ∧ (x26 ≤ (x11 : Int) →
  (Cl Try.prog W0 M H1 nK 14 #[Value.agg #[vi x0, vi x1, vi x2, vi x3, vi x4, vi x5, vsl x6 x7 x8], vsl x9 (x26).toNat x11] fun z W5 W6 => ∃ x27 : Int, ∃ x28 : Int, ∃ x29 : Int, ∃ x30 : Int, ∃ x31 : Int, ∃ x32 : Int, ∃ x33 : Option Loc, ∃ x34 : Nat, ∃ x35 : Nat, ∃ x36 : Option Loc, ∃ x37 : Nat, ∃ x38 : Nat, ∃ x39 : Int, z = .returned (Value.tuple #[Value.agg #[vi x27, vi x28, vi x29, vi x30, vi x31, vi x32, vsl x33 x34 x35], vsl x36 x37 x38, vi x39]) ∧ Fr W5 W6 H1 fun H2 =>
  (∀ b2 : Nat,
  (x26 ≤ (x10 : Int) ∧ (x26 ≤ (x10 : Int) →
  ((x10 : Int) ≤ (x11 : Int) ∧ ((x10 : Int) ≤ (x11 : Int) →
  (Cl Try.prog W0 M H2 nK 14 #[Value.agg #[vi x27, vi x28, vi x29, vi x30, vi x31, vi x32, vsl x33 x34 x35], Value.slice (ptrAt x9 (0 + (if (x11 : Int) = x26 then 0 else x26 * ((9 : Nat) : Int)))) (((x10 : Int) - x26) : Int).toNat (((x11 : Int) - x26) : Int).toNat] fun z W7 W8 => ∃ x40 : Int, ∃ x41 : Int, ∃ x42 : Int, ∃ x43 : Int, ∃ x44 : Int, ∃ x45 : Int, ∃ x46 : Option Loc, ∃ x47 : Nat, ∃ x48 : Nat, ∃ x49 : Option Loc, ∃ x50 : Nat, ∃ x51 : Nat, ∃ x52 : Int, z = .returned (Value.tuple #[Value.agg #[vi x40, vi x41, vi x42, vi x43, vi x44, vi x45, vsl x46 x47 x48], vsl x49 x50 x51, vi x52]) ∧ Fr W7 W8 H2 fun H3 =>
  (∀ b3 : Nat,
  (Cl Try.prog W0 M H3 nK 16 #[] fun z W9 W10 => ∃ x53 : Bool, z = .returned (vb (x53)) ∧ Ext W9 W10 ∧
  ((x53 = true →
   ((x39 = 0 →
    ((x52 = 0 →
     (Cl Try.prog W0 M H3 nK 19 #[Value.agg #[vi x13, vi x14, vi x15, vi x16, vi x17, vi x18, vsl x19 x20 x21], Value.agg #[vi x40, vi x41, vi x42, vi x43, vi x44, vi x45, vsl x46 x47 x48]] fun z W11 W12 => ∃ x54 : Bool, z = .returned (vb (x54)) ∧ Ext W11 W12 ∧
     ((x54 = true →
      (∀ b4 : Nat,
      (Es W0 M H3 (fun W => Kn W0 M H3 W b4 (Obj.cells #[] 3 (0, 0)) ∧ True) fun W13 => ∃ x55 : Option Loc, ∃ x56 : Nat, ∃ x57 : Nat, Eo Try.prog (.bi .append #[27, 27] 27) [Value.slice (some ⟨b4, 0, none⟩) 0 0, vsl x36 x37 x38] W13 (.value (vsl x55 x56 x57)) fun W14 => Tn W0 M H3 W13 W14 fun H4 =>
      (Es W0 M H4 nK fun W15 => ∃ x58 : Option Loc, ∃ x59 : Nat, ∃ x60 : Nat, Eo Try.prog (.bi .append #[27, 27] 27) [vsl x55 x56 x57, vsl x49 x50 x51] W15 (.value (vsl x58 x59 x60)) fun W16 => Tn W0 M H4 W15 W16 fun H5 =>
      (Cl Try.prog W0 M H5 nK 20 #[vsl x22 x23 x24, vsl x58 x59 x60] fun z W17 W18 => ∃ x61 : Bool, z = .returned (vb (x61)) ∧ Ext W17 W18 ∧
      ((x61 = true →
       (Cl Try.prog W0 M H5 nK 22 #[Value.agg #[vi x40, vi x41, vi x42, vi x43, vi x44, vi x45, vsl x46 x47 x48]] fun z W19 W20 => ∃ x62 : Int, z = .returned (vi x62) ∧ Ext W19 W20 ∧
       Rt R W0 M H5 nK (vb (decide (x62 = 0))))) ∧
      (¬ (x61 = true) →
       Rt R W0 M H5 nK (vb (false))))))))) ∧
     (¬ (x54 = true) →
      Rt R W0 M H3 nK (vb (false)))))) ∧
    (¬ (x52 = 0) →
     Rt R W0 M H3 nK (vb (false))))) ∧
   (¬ (x39 = 0) →
    Rt R W0 M H3 nK (vb (false))))) ∧
  (¬ (x53 = true) →
   Rt R W0 M H3 nK (vb (false))))))))))))))))))))))) ∧
 (¬ (x25 = 0) →
  (Cl Try.prog W0 M H1 nK 16 #[] fun z W3 W4 => ∃ x26 : Bool, z = .returned (vb (x26)) ∧ Ext W3 W4 ∧
  Rt R W0 M H1 nK (vb (x26))))))))) :
  Calls Try.prog 4 #[Value.agg #[vi x0, vi x1, vi x2, vi x3, vi x4, vi x5, vsl x6 x7 x8], vsl x9 x10 x11, vi x12] W0 R :=
  calls_sxA (M := M) (V := v_foldSplit) (hi := {}) (args := [.agg [.int .i64 (.v 0), .int .i64 (.v 1), .int .i64 (.v 2), .int .i64 (.v 3), .int .i64 (.v 4), .int .i64 (.v 5), .slO 6 (.k 0) (.v 7) (.v 8)], .slO 9 (.k 0) (.v 10) (.v 11), .int .i64 (.v 12)]) (nv := 13) (e := (upd (upd (upd (upd (upd (upd (upd (upd (upd (upd (upd (upd (upd (fun _ => .i 0) 0 (.i x0)) 1 (.i x1)) 2 (.i x2)) 3 (.i x3)) 4 (.i x4)) 5 (.i x5)) 6 (.p x6)) 7 (.n x7)) 8 (.n x8)) 9 (.p x9)) 10 (.n x10)) 11 (.n x11)) 12 (.i x12))) Try.func4 hH h (by kernel_rfl) (by kernel_rfl) (by kernel_rfl)
end Go.Proofs.Ytdihdcielchodaa
namespace Go.Proofs.Ytdihdcielchodaa
open Go.RowKit
set_option maxRecDepth 100000
def someL : List Ent := [⟨1, 1, 1, 0, 0, ⟨0, 0, 0, 0⟩⟩, ⟨2, 2, 1, 1, 0, ⟨2, 0, 0, 5⟩⟩, ⟨2, 3, 1, 1, 0, ⟨2, 0, 0, 5⟩⟩, ⟨2, 4, 2, 1, 0, ⟨2, 0, 0, 7⟩⟩, ⟨1, 4, 2, 0, 0, ⟨0, 0, 0, 0⟩⟩, ⟨2, 5, 1, 2, 1, ⟨3, 0, 1, 2⟩⟩, ⟨2, 6, 1, 1, 0, ⟨2, 0, 0, 5⟩⟩, ⟨2, 40, 1, 2, 1, ⟨2, 0, 0, 1⟩⟩, ⟨1, 41, 1, 0, 0, ⟨0, 0, 0, 0⟩⟩, ⟨2, 42, 1, 1, 0, ⟨2, 0, 0, 9⟩⟩]
theorem ents_blk {H : Hp} {b : Nat} {C : Array Value} {T : Nat} {fz : Nat × Nat} {l : List Ent} {n : Nat} (hb : H b = some (.cells C T fz)) (hn : n = l.length) (hm : n ≤ maxLen) (h64 : ∀ e ∈ l, e.in64) (hc : (C.toList.drop 0).take (n * 9) = (l.map Ent.row).flatten) : Ents H (some (b, 0)) n n l :=
  ⟨Nat.le_refl _, hm, Rows.block hb (by simpa using hn) (fun r hr => by
    obtain ⟨y, _, rfl⟩ := List.mem_map.1 hr
    rfl) hc, h64⟩
/-- what comes stands in one new block -/
theorem Rt.one {W0 : World} {H : Hp} {v : Value} {post : Value → Hp → Prop} {b : Nat} {o : Obj} {kn : World → Prop} (hk : ∀ W, kn W → Kn W0 noM H W b o) (hp : ∀ D : Hp, D b = some o → post v D) :
    Rt (fun z W' => ∃ v D, z = .returned v ∧ Ext W0 W' ∧ D.le (hpOf W') ∧ (∀ b o, D b = some o → W0.heap.size ≤ b) ∧ post v D) W0 noM H kn v := fun W n k => by
  have hk := hk W k
  refine ⟨v, addH noH b o, rfl, n.ext, addH_le (noH_le _) hk.eq, fun j q hj => ?_, hp _ (addH_at ..)⟩
  unfold addH at hj
  split at hj
  · rename_i h; subst h; exact hk.own.resolve_right (fun h => h)
  · cases hj
instance (e : Ent) : Decidable e.in64 := by unfold Ent.in64; infer_instance
theorem someL_64 : ∀ e ∈ someL, e.in64 := by decide +kernel
theorem c_lsome (H : Hp) : Gf Try.prog 48 #[] H fun v D => ∃ p, v = vsl p 10 10 ∧ Ents D p 10 10 someL := fun W hH => by
  refine x_lsome noM H W _ hH ?_
  refine Cl.same (c_lopen 1 1 H) fun _ _ hx => ⟨_, _, _, _, _, _, _, _, _, rfl, hx, ?_⟩
  refine Cl.same (c_ladd 5 H) fun _ _ hx => ⟨_, _, _, _, rfl, hx, ?_⟩
  refine Cl.same (c_lcall 2 1 1 0 ⟨2, 0, 0, 5⟩ H) fun _ _ hx => ⟨_, _, _, _, _, _, _, _, _, rfl, hx, ?_⟩
  refine Cl.same (c_ladd 5 H) fun _ _ hx => ⟨_, _, _, _, rfl, hx, ?_⟩
  refine Cl.same (c_lcall 3 1 1 0 ⟨2, 0, 0, 5⟩ H) fun _ _ hx => ⟨_, _, _, _, _, _, _, _, _, rfl, hx, ?_⟩
  refine Cl.same (c_ladd 7 H) fun _ _ hx => ⟨_, _, _, _, rfl, hx, ?_⟩
  refine Cl.same (c_lcall 4 2 1 0 ⟨2, 0, 0, 7⟩ H) fun _ _ hx => ⟨_, _, _, _, _, _, _, _, _, rfl, hx, ?_⟩
  refine Cl.same (c_lopen 4 2 H) fun _ _ hx => ⟨_, _, _, _, _, _, _, _, _, rfl, hx, ?_⟩
  refine Cl.same (c_lcall 5 1 2 1 ⟨3, 0, 1, 2⟩ H) fun _ _ hx => ⟨_, _, _, _, _, _, _, _, _, rfl, hx, ?_⟩
  refine Cl.same (c_ladd 5 H) fun _ _ hx => ⟨_, _, _, _, rfl, hx, ?_⟩
  refine Cl.same (c_lcall 6 1 1 0 ⟨2, 0, 0, 5⟩ H) fun _ _ hx => ⟨_, _, _, _, _, _, _, _, _, rfl, hx, ?_⟩
  refine Cl.same (c_ladd 1 H) fun _ _ hx => ⟨_, _, _, _, rfl, hx, ?_⟩
  refine Cl.same (c_lcall 40 1 2 1 ⟨2, 0, 0, 1⟩ H) fun _ _ hx => ⟨_, _, _, _, _, _, _, _, _, rfl, hx, ?_⟩
  refine Cl.same (c_lopen 41 1 H) fun _ _ hx => ⟨_, _, _, _, _, _, _, _, _, rfl, hx, ?_⟩
  refine Cl.same (c_ladd 9 H) fun _ _ hx => ⟨_, _, _, _, rfl, hx, ?_⟩
  refine Cl.same (c_lcall 42 1 1 0 ⟨2, 0, 0, 9⟩ H) fun _ _ hx => ⟨_, _, _, _, _, _, _, _, _, rfl, hx, fun b0 => ?_⟩
  exact Rt.one (b := b0) (fun W k => k.1) fun D hD => ⟨some (b0, 0), rfl, ents_blk hD rfl (by simp [maxLen]) someL_64 rfl⟩
theorem Fr.none {W W' : World} {H : Hp} {K : Hp → Prop} (hx : Ext W W') (hk : ∀ H' : Hp, H.le H' → K H') : Fr W W' H K := ⟨hx, noH, noH_le _, (fun b o h => by cases h), fun H' h _ => hk H' h⟩
theorem Cl.held {P : Program} {W0 : World} {H : Hp} {kn : World → Prop} {f : Nat} {args : Array Value} {v : Value} {Φ : Ending → World → World → Prop} {b : Nat} {o : Obj} (hk : ∀ W, kn W → Kn W0 noM H W b o) (hc : Gv P f args (addH H b o) v) (hp : ∀ W W', Ext W W' → Φ (.returned v) W W') : Cl P W0 noM H kn f args Φ :=
  Cl.sameK (fun W n k => ⟨addH H b o, addH_le n.sub (hk W k).eq, hc⟩) hp
theorem some10_eq : (sAll Sta.zero someL).1.pos = 10 ∧ (sAll Sta.zero someL).1.clock = 42 ∧ (sAll Sta.zero someL).1.vals = ⟨12, 2, 0, 0⟩ ∧ (sAll Sta.zero someL).2.1 = [0, 5, 5, -3, 0, 3, -4, -3, 0, 12] ∧ (sAll Sta.zero someL).2.2 = 0 := by decide +kernel
def zeros (n : Nat) : List Ent := List.replicate n ⟨0, 0, 0, 0, 0, ⟨0, 0, 0, 0⟩⟩
theorem zeros51 : sAll Sta.zero (zeros 51) = (Sta.zero, [], 2) := by decide +kernel
theorem shop45 : sAll ⟨45, 10, ⟨7, 0, 0, 1⟩, [rowS 2, rowS 4]⟩ someL = (Sta.zero, [], 2) := by decide +kernel
theorem some_err : entsErr someL = 0 := by decide +kernel
theorem zero_err : entsErr (zeros 1) = 4 := by decide +kernel
theorem zeros_64 (n : Nat) : ∀ e ∈ zeros n, e.in64 := fun e he => by
  obtain rfl := List.eq_of_mem_replicate he
  exact ⟨by decide, by decide⟩
theorem ints_blk {H : Hp} {b : Nat} {C : Array Value} {T : Nat} {fz : Nat × Nat} {l : List Int} {n : Nat} (hb : H b = some (.cells C T fz)) (hn : n = l.length) (hm : n ≤ maxLen) (hc : (C.toList.drop 0).take (n * 1) = (l.map irow).flatten) : Ints H (some (b, 0)) n n l :=
  ⟨Nat.le_refl _, hm, Rows.block hb (by simpa using hn) (fun r hr => by
    obtain ⟨y, _, rfl⟩ := List.mem_map.1 hr
    rfl) hc⟩
theorem all51 {W0 W : World} {H : Hp} {b : Nat} {C : Array Value} {T : Nat} (hC : C.toList = ((zeros 51).map Ent.row).flatten) (n : Now W0 noM H W) (k : Kn W0 noM H W b (.cells C T (0, 0))) :
    ∃ H1 : Hp, H1.le (hpOf W) ∧ Gf Try.prog 14 #[Sta.zero.val (vsl none 0 0), vsl (some (b, 0)) 51 51] H1 (AllPost (Sta.zero, [], 2)) :=
  ⟨_, addH_le n.sub k.eq, zeros51 ▸ c_foldAll (s := Sta.zero) (l := zeros 51) (Tab.nil _ _) (ents_blk (addH_at ..) rfl (by simp [maxLen]) (zeros_64 51) (by rw [hC]; kernel_rfl))⟩
theorem chk1 {W0 W : World} {H : Hp} {b : Nat} {C : Array Value} {T : Nat} (hC : C.toList = ((zeros 1).map Ent.row).flatten) (n : Now W0 noM H W) (k : Kn W0 noM H W b (.cells C T (0, 0))) :
    ∃ H1 : Hp, H1.le (hpOf W) ∧ Gv Try.prog 17 #[vsl (some (b, 0)) 1 1] H1 (vi 4) :=
  ⟨_, addH_le n.sub k.eq, zero_err ▸ c_foldCheck (l := zeros 1) (ents_blk (addH_at ..) rfl (by simp [maxLen]) (zeros_64 1) (by rw [hC]; kernel_rfl))⟩
theorem ints_same {W0 W : World} {H : Hp} {b : Nat} {C : Array Value} {T m : Nat} {p : Option Loc} {n c : Nat} {l : List Int} (hI : Ints H p n c l) (hC : C.toList = (l.map irow).flatten) (hm : m = l.length) (hx : m ≤ maxLen) (nn : Now W0 noM H W) (k : Kn W0 noM H W b (.cells C T (0, 0))) :
    ∃ H1 : Hp, H1.le (hpOf W) ∧ Gv Try.prog 20 #[vsl p n c, vsl (some (b, 0)) m m] H1 (vb true) :=
  ⟨_, addH_le nn.sub k.eq, decide_eq_true (rfl : l = l) ▸ c_sameInts (hI.mono (le_addH k.off)) (ints_blk (l := l) (addH_at ..) hm hx (by
    rw [hC, List.drop_zero, List.take_of_length_le]
    rw [flat_len (w := 1) (fun r hr => by obtain ⟨y, _, rfl⟩ := List.mem_map.1 hr; rfl), List.length_map, hm]
    exact Nat.le_refl _))⟩
theorem c_foldBegun (H : Hp) : Gv Try.prog 16 #[] H (vb true) := fun W hH => by
  obtain ⟨s1, s2, s3, s4, s5⟩ := some10_eq
  refine x_foldBegun noM H W _ hH ?_
  refine Cl.same (c_begin H) fun _ _ hx => ⟨_, _, _, _, _, _, none, 0, 0, rfl, Fr.none hx fun H1 h1 => ?_⟩
  refine Cl.fresh (c_lsome H1) ?_
  rintro v W1 W2 D ⟨p, rfl, hE⟩ hx hD hf nn
  refine ⟨p, 10, 10, rfl, hx, D, hD, hf, fun H2 h2 hd2 => ?_⟩
  refine Cl.fresh (c_foldAll (s := Sta.zero) (Tab.nil _ _) (hE.mono hd2)) ?_
  rintro v W1 W2 D ⟨p1, n1, c1, pa, na, ca, ga, rfl, hT, ho⟩ hx hD hf nn
  refine ⟨_, _, _, _, _, _, p1, n1, c1, pa, na, ca, _, rfl, hx, D, hD, hf, fun H3 h3 hd3 b0 => ?_⟩
  refine Cl.same (c_begin H3) fun _ _ hx => ⟨_, _, _, _, _, _, none, 0, 0, rfl, Fr.none hx fun H4 h4 b1 => ?_⟩
  refine Cl.freshK (fun W n k => all51 (by kernel_rfl) n k.1) ?_
  rintro v W1 W2 D ⟨p2, n2, c2, pb, nb, cb, gb, rfl, _⟩ hx hD hf nn
  refine ⟨_, _, _, _, _, _, p2, n2, c2, pb, nb, cb, _, rfl, hx, D, hD, hf, fun H5 h5 hd5 b2 => ?_⟩
  refine Cl.fresh (c_shop H5) ?_
  rintro v W1 W2 D ⟨p3, n3, c3, rfl, hT3⟩ hx hD hf nn
  refine ⟨_, _, _, _, _, _, p3, n3, c3, rfl, hx, D, hD, hf, fun H6 h6 hd6 b3 => ?_⟩
  refine Cl.fresh (c_lsome H6) ?_
  rintro v W1 W2 D ⟨p, rfl, hE⟩ hx hD hf nn
  refine ⟨p, 10, 10, rfl, hx, D, hD, hf, fun H7 h7 hd7 => ?_⟩
  refine Cl.fresh (c_foldAll (s := ⟨45, 10, ⟨7, 0, 0, 1⟩, [rowS 2, rowS 4]⟩) ((hT3.mono hd6).mono h7) (hE.mono hd7)) ?_
  rw [shop45]
  rintro v W1 W2 D ⟨p4, n4, c4, pc, nc, cc, gc, rfl, _⟩ hx hD hf nn
  refine ⟨_, _, _, _, _, _, p4, n4, c4, pc, nc, cc, _, rfl, hx, D, hD, hf, fun H8 h8 hd8 b4 => ?_⟩
  refine ⟨fun _ => ⟨fun _ => ⟨fun _ => ?_, fun h => absurd rfl h⟩, fun h => absurd rfl h⟩, fun h => absurd s5 h⟩
  refine Cl.fresh (c_lsome H8) ?_
  rintro v W1 W2 D ⟨p, rfl, hE⟩ hx hD hf nn
  refine ⟨p, 10, 10, rfl, hx, D, hD, hf, fun H9 h9 hd9 => ?_⟩
  refine Cl.same (c_foldCheck (hE.mono hd9)) fun _ _ hx => ⟨_, rfl, hx, fun _ b5 => ?_, fun h => absurd some_err h⟩
  refine Cl.sameK (fun W n k => chk1 (by kernel_rfl) n k.1) fun _ _ hx => ⟨_, rfl, hx, fun _ b6 => ?_, fun h => absurd rfl h⟩
  have hI : Ints H9 pa na ca [0, 5, 5, -3, 0, 3, -4, -3, 0, 12] := by
    have := Ints.of_ow ho
    rw [show (sAll Sta.zero someL).2.1 = _ from s4] at this
    exact ((((((this.mono hd3).mono h4).mono h5).mono h6).mono h7).mono h8).mono h9
  refine Cl.sameK (fun W n k => ints_same hI (by kernel_rfl) rfl (by simp [maxLen]) n k.1) fun _ _ hx => ⟨_, rfl, hx, fun _ => ⟨fun _ => ⟨fun _ => ?_, fun h => absurd s2 h⟩, fun h => absurd s1 h⟩, fun h => absurd rfl h⟩
  intro W3 n3 _
  refine ⟨_, _, ek_eq_v4 _ _ (sAll Sta.zero someL).1.vals ⟨12, 2, 0, 0⟩ _, Ext.refl _, Rt.gv' ?_⟩
  rw [show (sAll Sta.zero someL).1.vals = _ from s3]
  rfl
end Go.Proofs.Ytdihdcielchodaa
namespace Go.Proofs.Ytdihdcielchodaa
open Go.RowKit
theorem Ents.drop {H : Hp} {p : Option Loc} {n c : Nat} {l : List Ent} (h : Ents H p n c l) (k : Nat) (hk : k ≤ n) :
    ∃ p', Value.slice (ptrAt p (0 + (if (c : Int) = (k : Int) then 0 else (k : Int) * ((9 : Nat) : Int)))) (((n : Int) - (k : Int)) : Int).toNat (((c : Int) - (k : Int)) : Int).toNat = vsl p' (n - k) (c - k) ∧ Ents H p' (n - k) (c - k) (l.drop k) := by
  have e1 : (((n : Int) - (k : Int)) : Int).toNat = n - k := by omega
  have e2 : (((c : Int) - (k : Int)) : Int).toNat = c - k := by omega
  have hn := h.len
  refine ⟨shiftP p ((0 + (if (c : Int) = (k : Int) then 0 else (k : Int) * ((9 : Nat) : Int))).toNat), by rw [e1, e2, ptrAt_shift], Nat.sub_le_sub_right h.1 k, Nat.le_trans (Nat.sub_le _ _) h.2.1, ?_, fun e he => h.2.2.2 e (List.mem_of_mem_drop he)⟩
  rcases Nat.eq_or_lt_of_le hk with h0 | h0
  · subst h0
    rw [List.drop_of_length_le (by omega), Nat.sub_self]
    exact Rows.nil _ _ _
  · rw [if_neg (by have := h.1; omega)]
    have h2 := h.2.2.1.part k n hk (Nat.le_refl _)
    rw [show (0 + (k : Int) * ((9 : Nat) : Int)).toNat = k * 9 by omega]
    rw [← List.map_drop, List.take_of_length_le (by simp; omega)] at h2
    exact h2
theorem c_foldTells {H : Hp} {p q : Option Loc} {n c m d : Nat} {s : Sta} {l : List Ent} (hT : Tab H p n c s.table) (hE : Ents H q m d l) : Gv Try.prog 3 #[s.val (vsl p n c), vsl q m d] H (vb true) := fun W hH => by
  refine x_foldTells _ _ _ _ _ _ p n c q m d noM H W _ hH fun b0 => ?_
  refine Cl.fresh (c_foldAll hT hE) ?_
  rintro v W1 W2 D ⟨p1, n1, c1, pa, na, ca, ga, rfl, hT1, ho1⟩ hx hD hf nn
  refine ⟨_, _, _, _, _, _, p1, n1, c1, pa, na, ca, _, rfl, hx, D, hD, hf, fun H1 h1 hd1 b1 => ?_⟩
  refine Cl.fresh (c_foldOf (hT.mono h1) (hE.mono h1)) ?_
  rintro v W1 W2 D2 ⟨p2, n2, c2, pb, nb, cb, gb, rfl, hT2, ho2⟩ hx hD hf nn
  refine ⟨_, _, _, _, _, _, p2, n2, c2, pb, nb, cb, _, rfl, hx, D2, hD, hf, fun H2 h2 hd2 b2 => ?_⟩
  have hE2 := (hE.mono h1).mono h2
  refine Cl.same (c_foldBegun H2) fun _ _ hx => ⟨_, rfl, hx, fun _ => ?_, fun h => absurd rfl h⟩
  refine Cl.same (c_foldCheck hE2) fun _ _ hx => ⟨_, rfl, hx, ?_⟩
  refine Cl.same (c_listErr hE2) fun _ _ hx => ⟨_, rfl, hx, fun _ => ?_, fun h => absurd rfl h⟩
  refine Cl.same (c_sameOf ((hT1.mono hd1).mono h2) (hT2.mono hd2)) fun _ _ hx => ⟨_, rfl, hx, fun _ => ?_, fun h => absurd (decide_eq_true rfl) h⟩
  refine Cl.same (c_sameInts (((Ints.of_ow ho1).mono hd1).mono h2) ((Ints.of_ow ho2).mono hd2)) fun _ _ hx => ⟨_, rfl, hx, fun _ => Rt.gv' (by simp), fun h => absurd (decide_eq_true rfl) h⟩
theorem sAll_done {s : Sta} {l : List Ent} (h : (sAll s l).2.2 = 0) : StOk s ∧ (∀ e ∈ l, EntOk e) ∧ s.pos + l.length ≤ 50 ∧ sAll s l = (foldS s l, foldA s l, 0) := by
  by_cases h0 : s.err = 0
  · by_cases h1 : entsErr l = 0
    · by_cases h2 : 50 < s.pos + (l.length : Int)
      · rw [sAll_many h0 h1 h2] at h; cases h
      · exact ⟨Sta.err_ok.1 h0, (entsErr_ok.1 h1).2, by omega, sAll_ok h0 h1 h2⟩
    · rw [sAll_ents h0 h1] at h; exact absurd h h1
  · rw [sAll_err h0] at h; exact absurd h h0
theorem sAll_of {s : Sta} {l : List Ent} (hs : StOk s) (hl : ∀ e ∈ l, EntOk e) (hp : s.pos + l.length ≤ 50) : sAll s l = (foldS s l, foldA s l, 0) := sAll_ok (Sta.err_ok.2 hs) (entsErr_ok.2 ⟨by have := hs.pos; omega, hl⟩) (by omega)
/-- in how many goes -/
theorem fold_split {s : Sta} {l : List Ent} (h : (sAll s l).2.2 = 0) {k : Nat} (hk : k ≤ l.length) :
    sAll s (l.take k) = (foldS s (l.take k), foldA s (l.take k), 0) ∧ sAll (foldS s (l.take k)) (l.drop k) = ((sAll s l).1, foldA (foldS s (l.take k)) (l.drop k), 0) ∧ (sAll s l).2.1 = foldA s (l.take k) ++ foldA (foldS s (l.take k)) (l.drop k) ∧ (sAll s l).1.err = 0 := by
  obtain ⟨hs, hl, hp, he⟩ := sAll_done h
  have ht : (l.take k).length = k := by simp; omega
  have hd : (l.drop k).length = l.length - k := by simp
  have hl1 : ∀ e ∈ l.take k, EntOk e := fun e he => hl e (List.mem_of_mem_take he)
  have hl2 : ∀ e ∈ l.drop k, EntOk e := fun e he => hl e (List.mem_of_mem_drop he)
  obtain ⟨o1, q1⟩ := foldS_ok hs hl1 (by rw [ht]; omega)
  rw [ht] at q1
  refine ⟨sAll_of hs hl1 (by rw [ht]; omega), ?_, ?_, ?_⟩
  · rw [sAll_of o1 hl2 (by rw [q1, hd]; omega), he, ← foldS_append, List.take_append_drop]
  · rw [he, ← foldA_append, List.take_append_drop]
  · rw [he]; exact Sta.err_ok.2 (foldS_ok hs hl hp).1
theorem Rows_I {H : Hp} {p : Option Loc} {n c : Nat} {l : List Int} (h : Ints H p n c l) : Rows H p n 1 (l.map irow) := h.2.2
/-- two lists of ints put together, in new memory -/
theorem foldA_le {s : Sta} {l : List Ent} {H : Hp} {p : Option Loc} {n c : Nat} {k : Nat} (h : Ints H p n c (foldA s l)) (hl : l.length ≤ k) : n ≤ k := by rw [h.len, foldA_len]; exact hl
theorem c_foldSplit {H : Hp} {p q : Option Loc} {n c m d : Nat} {s : Sta} {l : List Ent} (hT : Tab H p n c s.table) (hE : Ents H q m d l) (x : Int) (hx : -9223372036854775808 ≤ x ∧ x ≤ 9223372036854775807) :
    Gv Try.prog 4 #[s.val (vsl p n c), vsl q m d, vi x] H (vb true) := fun W hH => by
  have hm := hE.len
  refine x_foldSplit _ _ _ _ _ _ p n c q m d x noM H W _ hH fun b0 => ?_
  refine Cl.fresh (c_foldAll hT hE) ?_
  rintro v W1 W2 D ⟨p1, n1, c1, pa, na, ca, ga, rfl, hT1, ho1⟩ hx1 hD hf nn
  refine ⟨_, _, _, _, _, _, p1, n1, c1, pa, na, ca, _, rfl, hx1, D, hD, hf, fun H1 h1 hd1 b1 => ⟨fun h0 => ?_, fun h0 => ?_⟩⟩
  · obtain ⟨hs, hl, hp, _⟩ := sAll_done h0
    have hpos := hs.pos
    refine ⟨by omega, fun _ => ⟨in64 (by omega), fun _ => ?_⟩⟩
    obtain ⟨k1, k2⟩ := choose_in x ((m : Int) + 1) (by omega)
    refine Cl.same (c_choose x ((m : Int) + 1) (by omega) hx H1) fun _ _ hx => ⟨_, rfl, hx, ?_⟩
    obtain ⟨k, hk⟩ : ∃ k : Nat, chooseI x ((m : Int) + 1) = k := ⟨(chooseI x ((m : Int) + 1)).toNat, by omega⟩
    rw [hk] at k1 k2 ⊢
    have hcap := hE.1
    obtain ⟨a1, a2, a3, a4⟩ := fold_split h0 (k := k) (by omega)
    refine ⟨by omega, fun _ => ⟨by omega, fun _ => ?_⟩⟩
    rw [show ((k : Int)).toNat = k by omega]
    refine Cl.fresh (c_foldAll (hT.mono h1) ((hE.mono h1).take k (by omega))) ?_
    rw [a1]
    rintro v W1 W2 D2 ⟨p2, n2, c2, pb, nb, cb, gb, rfl, hT2, ho2⟩ hx2 hD2 hf2 nn2
    refine ⟨_, _, _, _, _, _, p2, n2, c2, pb, nb, cb, _, rfl, hx2, D2, hD2, hf2, fun H2 h2 hd2 b2 => ⟨by omega, fun _ => ⟨by omega, fun _ => ?_⟩⟩⟩
    obtain ⟨q', e1, hE'⟩ := ((hE.mono h1).mono h2).drop k (by omega)
    rw [e1]
    refine Cl.fresh (c_foldAll (hT2.mono hd2) hE') ?_
    rw [a2]
    rintro v W1 W2 D3 ⟨p3, n3, c3, pc, nc, cc, gc, rfl, hT3, ho3⟩ hx3 hD3 hf3 nn3
    refine ⟨_, _, _, _, _, _, p3, n3, c3, pc, nc, cc, _, rfl, hx3, D3, hD3, hf3, fun H3 h3 hd3 b3 => ?_⟩
    refine Cl.same (c_foldBegun H3) fun _ _ hx => ⟨_, rfl, hx, fun _ => ⟨fun _ => ⟨fun _ => ?_, fun h => absurd rfl h⟩, fun h => absurd rfl h⟩, fun h => absurd rfl h⟩
    refine Cl.same (c_sameOf (((hT1.mono hd1).mono h2).mono h3) (hT3.mono hd3)) fun _ _ hx => ⟨_, rfl, hx, fun _ b4 => ?_, fun h => absurd (decide_eq_true rfl) h⟩
    have i2 := ((Ints.of_ow ho2).mono hd2).mono h3
    have i3 := (Ints.of_ow ho3).mono hd3
    have l2 := foldA_le i2 (k := 50) (by simp; omega)
    have l3 := foldA_le i3 (k := 50) (by simp; omega)
    intro W5 n5 k5
    obtain ⟨p4, c4, g4, W6, H4, r1, t1, o4, g4n, h4⟩ := ek_clone (P := Try.prog) Try.underlying27 infoInt (by omega) n5 (some (b4, 0)) i2.2.2 (ones_I _) (by omega) (by simp only [maxLen]; omega) 27 (c := cb)
    refine ⟨p4, nb, c4, W6, r1, H4, t1, ?_⟩
    intro W7 n7 _
    obtain ⟨ii, z, i10, i11, i12, i13, i14, _⟩ := info_of infoInt
    obtain ⟨p5, c5, g5, W8, H5, r2, u2, o5, g5n, _⟩ := run_append_rows (P := Try.prog) Try.underlying27 i10 i11 i12 i13 i14 (by omega) n7.sub o4 (i3.mono h4).2.2 (ones_I _) (by simp only [maxLen]; omega) (by omega) 27 (c2 := cc)
    have hg4 : ∀ b, g4 = some b → W.heap.size ≤ b ∧ H3 b = none := fun b hb => ⟨Nat.le_trans n5.mod.size (g4n b hb), old_none n5.sub (g4n b hb)⟩
    refine ⟨p5, nb + nc, c5, W8, r2, H5, u2.own o4 (fun b hb => .inl (hg4 b hb).1), ?_⟩
    have h5 : H3.le H5 := u2.keep n7.sub h4 (fun b hb => (hg4 b hb).2)
    rw [← List.map_append, ← a3] at o5
    refine Cl.same (c_sameInts (((((Ints.of_ow ho1).mono hd1).mono h2).mono h3).mono h5) (Ints.of_ow o5)) fun _ _ hx => ⟨_, rfl, hx, fun _ => ?_, fun h => absurd (decide_eq_true rfl) h⟩
    exact Cl.same (c_stCheck ((hT3.mono hd3).mono h5)) fun _ _ hx => ⟨_, rfl, hx, Rt.gv' (by rw [a4]; rfl)⟩
  · exact Cl.same (c_foldBegun H1) fun _ _ hx => ⟨_, rfl, hx, Rt.gv⟩
end Go.Proofs.Ytdihdcielchodaa
