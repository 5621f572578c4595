/- Symbolic runs of functions: what each leaves to prove is enough for its call. Printed by a program of ours. No conditions. Contracts: what is spoilt: memory that a call has handed back is written over, all of it, kind by kind. No conditions. -/
import Derived.Test.YtfpmcmhihhnfgaaGreatKE3
import Derived.Test.YtfpmcmhihhnfgaaGreatProg
import Derived.Test.YtfpmcmhihhnfgaaGreatKG5
import Derived.Test.YtfpmcmhihhnfgaaGreatKG1
set_option linter.unusedVariables false
set_option linter.unusedSimpArgs false
namespace Go.Proofs.YtfpmcmhihhnfgaaGreat
open Go.RowKit
set_option maxRecDepth 100000
set_option maxHeartbeats 4000000
def v_spoil : VC :=
(.all 0
(.loop [(9, .n)] [.n (.k 0)] [.n (.v 9)]
(.chk (.le (.k 0) (.v 7))
(.ite (.lt (.v 9) (.v 7))
(.loop [(10, .n)] [.n (.k 0)] [.n (.v 10)]
(.chk (.idx (.v 9) (.v 7))
(.chk (.isp 6)
(.chk (.le (.k 0) (.add (.k 0) (.mul (.v 9) (.k 4))))
(.ld 6 (.add (.add (.k 0) (.mul (.v 9) (.k 4))) (.k 3)) [vS 11] [(11, .p), (12, .n), (13, .n)]
(.chk (.le (.k 0) (.v 12))
(.ite (.lt (.v 10) (.v 12))
(.ld 6 (.add (.add (.k 0) (.mul (.v 9) (.k 4))) (.k 3)) [vS 14] [(14, .p), (15, .n), (16, .n)]
(.chk (.idx (.v 10) (.v 15))
(.chk (.isp 14)
(.esc (.storeO 77) [.ptrO 14 (.add (.k 0) (.mul (.v 10) (.k 2))), .agg [.int .i64 (.k (-9)), .int .i64 (.k 0)]] [] [] none .turn
(.chk (.rng .i64 (.add (.v 10) (.k 1)))
(.chk (.le (.k 0) (.add (.v 10) (.k 1)))
(.back 0 [.n (.add (.v 10) (.k 1))])))))))
(.esc (.storeO 75) [.ptrO 6 (.add (.k 0) (.mul (.v 9) (.k 4))), .agg [.int .i64 (.k (-9)), .int .i64 (.k 0), .int .i64 (.k 0), .c (Value.slice none 0 0)]] [] [] none .turn
(.chk (.rng .i64 (.add (.v 9) (.k 1)))
(.chk (.le (.k 0) (.add (.v 9) (.k 1)))
(.back 1 [.n (.add (.v 9) (.k 1))])))))))))))
(.ret (.tup []) [])))))
theorem x_spoil (x0 x1 x2 x3 x4 x5 : Int) (x6 : Option Loc) (x7 x8 : Nat) (M : Nat → Prop) (H0 : Hp) (W0 : World) (R : Ending → World → Prop) (hH : H0.le (hpOf W0)) (h :
 (∀ b0 : Nat,
 (∃ (I0 : List Dat → Hp → Prop) (μ0 : List Dat → Nat), I0 [.n 0] H0 ∧ ∀ H1 : Hp, ∀ x9 : Nat, I0 [.n x9] H1 →
  (0 ≤ (x7 : Int) ∧ (0 ≤ (x7 : Int) →
  (((x9 : Int) < (x7 : Int) →
   (∃ (I1 : List Dat → Hp → Prop) (μ1 : List Dat → Nat), I1 [.n 0] H1 ∧ ∀ H2 : Hp, ∀ x10 : Nat, I1 [.n x10] H2 →
    (((0 : Int) ≤ (x9 : Int) ∧ (x9 : Int) < (x7 : Int)) ∧ (((0 : Int) ≤ (x9 : Int) ∧ (x9 : Int) < (x7 : Int)) →
    (x6.isSome = true ∧ (x6.isSome = true →
    (0 ≤ (0 + ((x9 : Int) * 4)) ∧ (0 ≤ (0 + ((x9 : Int) * 4)) →
    (∃ (x11 : Option Loc) (x12 x13 : Nat), RowAt H2 x6 ((0 + ((x9 : Int) * 4)) + 3) [vsl x11 x12 x13] ∧
    (0 ≤ (x12 : Int) ∧ (0 ≤ (x12 : Int) →
    (((x10 : Int) < (x12 : Int) →
     (∃ (x14 : Option Loc) (x15 x16 : Nat), RowAt H2 x6 ((0 + ((x9 : Int) * 4)) + 3) [vsl x14 x15 x16] ∧
     (((0 : Int) ≤ (x10 : Int) ∧ (x10 : Int) < (x15 : Int)) ∧ (((0 : Int) ≤ (x10 : Int) ∧ (x10 : Int) < (x15 : Int)) →
     (x14.isSome = true ∧ (x14.isSome = true →
     (Es W0 M H2 nK fun W1 => Eo Tryz.prog (.storeO 77) [Value.pointer (ptrAt x14 (0 + ((x10 : Int) * 2))), Value.agg #[vi (-9), vi 0]] W1 (.skip) fun W2 => Tn W0 M H2 W1 W2 fun H3 =>
     (inKind .i64 ((x10 : Int) + 1) ∧ (inKind .i64 ((x10 : Int) + 1) →
     (0 ≤ ((x10 : Int) + 1) ∧ (0 ≤ ((x10 : Int) + 1) →
     (I1 [.n (((x10 : Int) + 1) : Int).toNat] H3 ∧ μ1 [.n (((x10 : Int) + 1) : Int).toNat] < μ1 [.n x10])))))))))))) ∧
    (¬ ((x10 : Int) < (x12 : Int)) →
     (Es W0 M H2 nK fun W1 => Eo Tryz.prog (.storeO 75) [Value.pointer (ptrAt x6 (0 + ((x9 : Int) * 4))), Value.agg #[vi (-9), vi 0, vi 0, Value.slice none 0 0]] W1 (.skip) fun W2 => Tn W0 M H2 W1 W2 fun H3 =>
     (inKind .i64 ((x9 : Int) + 1) ∧ (inKind .i64 ((x9 : Int) + 1) →
     (0 ≤ ((x9 : Int) + 1) ∧ (0 ≤ ((x9 : Int) + 1) →
     (I0 [.n (((x9 : Int) + 1) : Int).toNat] H3 ∧ μ0 [.n (((x9 : Int) + 1) : Int).toNat] < μ0 [.n x9]))))))))))))))))))) ∧
  (¬ ((x9 : Int) < (x7 : Int)) →
   Rt R W0 M H1 nK (Value.tuple #[])))))))) :
  Calls Tryz.prog 12 #[Value.agg #[vi x0, vi x1, vi x2, vi x3, vi x4, vi x5, vsl x6 x7 x8]] W0 R :=
  calls_sxA (M := M) (V := v_spoil) (hi := {loops := [(2, .inv [(2, .nat)] []), (5, .inv [(3, .nat)] [])]}) (args := [.agg [vI 0, vI 1, vI 2, vI 3, vI 4, vI 5, vS 6]]) (nv := 9) (e := (upd (upd (upd (upd (upd (upd (upd (upd (upd (fun _ => .i 0) 0 (.i x0)) 1 (.i x1)) 2 (.i x2)) 3 (.i x3)) 4 (.i x4)) 5 (.i x5)) 6 (.p x6)) 7 (.n x7)) 8 (.n x8))) Tryz.func12 hH h (by kernel_rfl) (by kernel_rfl) (by kernel_rfl)
def v_restGroups : VC :=
(.all 0
(.all 1
(.call 4 [.agg [vI 0, vI 1, vI 2, vI 3, vI 4, vI 5, vS 6, vS 9, vI 12, vI 13, vI 14, vI 15, vI 16, vI 17, vS 18, vI 21, vI 22, vI 23, vI 24, vI 25, vI 26, vS 27, vI 30, vI 31, vI 32, vI 33, vI 34, vI 35, vS 36]] [] [(49, .i)] (vI 49) .same
(.ite (.eq (.v 49) (.k 0))
(.call 6 [.agg [vI 0, vI 1, vI 2, vI 3, vI 4, vI 5, vS 6, vS 9, vI 12, vI 13, vI 14, vI 15, vI 16, vI 17, vS 18, vI 21, vI 22, vI 23, vI 24, vI 25, vI 26, vS 27, vI 30, vI 31, vI 32, vI 33, vI 34, vI 35, vS 36]] [] [(50, .i), (51, .i), (52, .i), (53, .i), (54, .i), (55, .i), (56, .p), (57, .n), (58, .n), (59, .p), (60, .n), (61, .n), (62, .i), (63, .i), (64, .i), (65, .i), (66, .i), (67, .i), (68, .p), (69, .n), (70, .n), (71, .i), (72, .i), (73, .i), (74, .i), (75, .i), (76, .i), (77, .p), (78, .n), (79, .n), (80, .i), (81, .i), (82, .i), (83, .i), (84, .i), (85, .i), (86, .p), (87, .n), (88, .n)] (.agg [vI 50, vI 51, vI 52, vI 53, vI 54, vI 55, vS 56, vS 59, vI 62, vI 63, vI 64, vI 65, vI 66, vI 67, vS 68, vI 71, vI 72, vI 73, vI 74, vI 75, vI 76, vS 77, vI 80, vI 81, vI 82, vI 83, vI 84, vI 85, vS 86]) .fresh
(.all 2
(.call 7 [vI 48, .int .i64 (.k 51)] [] [(89, .i)] (vI 89) .same
(.call 8 [.agg [vI 0, vI 1, vI 2, vI 3, vI 4, vI 5, vS 6, vS 9, vI 12, vI 13, vI 14, vI 15, vI 16, vI 17, vS 18, vI 21, vI 22, vI 23, vI 24, vI 25, vI 26, vS 27, vI 30, vI 31, vI 32, vI 33, vI 34, vI 35, vS 36], .agg [vI 39, vI 40, vI 41, vI 42, vI 43, vI 44, vI 45, vI 46, vI 47]] [] [(90, .i), (91, .i), (92, .i), (93, .i), (94, .i), (95, .i), (96, .p), (97, .n), (98, .n), (99, .p), (100, .n), (101, .n), (102, .i), (103, .i), (104, .i), (105, .i), (106, .i), (107, .i), (108, .p), (109, .n), (110, .n), (111, .i), (112, .i), (113, .i), (114, .i), (115, .i), (116, .i), (117, .p), (118, .n), (119, .n), (120, .i), (121, .i), (122, .i), (123, .i), (124, .i), (125, .i), (126, .p), (127, .n), (128, .n), (129, .i), (130, .i)] (.tup [.agg [vI 90, vI 91, vI 92, vI 93, vI 94, vI 95, vS 96, vS 99, vI 102, vI 103, vI 104, vI 105, vI 106, vI 107, vS 108, vI 111, vI 112, vI 113, vI 114, vI 115, vI 116, vS 117, vI 120, vI 121, vI 122, vI 123, vI 124, vI 125, vS 126], vI 129, vI 130]) .fresh
(.all 3
(.call 9 [.agg [vI 0, vI 1, vI 2, vI 3, vI 4, vI 5, vS 6, vS 9, vI 12, vI 13, vI 14, vI 15, vI 16, vI 17, vS 18, vI 21, vI 22, vI 23, vI 24, vI 25, vI 26, vS 27, vI 30, vI 31, vI 32, vI 33, vI 34, vI 35, vS 36], .int .i64 (.k 1), vI 89] [] [(131, .i), (132, .i), (133, .i), (134, .i), (135, .i), (136, .i), (137, .p), (138, .n), (139, .n), (140, .p), (141, .n), (142, .n), (143, .i), (144, .i), (145, .i), (146, .i), (147, .i), (148, .i), (149, .p), (150, .n), (151, .n), (152, .i), (153, .i), (154, .i), (155, .i), (156, .i), (157, .i), (158, .p), (159, .n), (160, .n), (161, .i), (162, .i), (163, .i), (164, .i), (165, .i), (166, .i), (167, .p), (168, .n), (169, .n), (170, .i), (171, .i)] (.tup [.agg [vI 131, vI 132, vI 133, vI 134, vI 135, vI 136, vS 137, vS 140, vI 143, vI 144, vI 145, vI 146, vI 147, vI 148, vS 149, vI 152, vI 153, vI 154, vI 155, vI 156, vI 157, vS 158, vI 161, vI 162, vI 163, vI 164, vI 165, vI 166, vS 167], vI 170, vI 171]) .fresh
(.all 4
(.chk (.le (.k 0) (.v 10))
(.chk (.rng .i64 (.add (.v 10) (.k 1)))
(.call 7 [vI 48, .int .i64 (.add (.v 10) (.k 1))] [] [(172, .i)] (vI 172) .same
(.call 10 [.agg [vI 0, vI 1, vI 2, vI 3, vI 4, vI 5, vS 6, vS 9, vI 12, vI 13, vI 14, vI 15, vI 16, vI 17, vS 18, vI 21, vI 22, vI 23, vI 24, vI 25, vI 26, vS 27, vI 30, vI 31, vI 32, vI 33, vI 34, vI 35, vS 36], vI 172] [] [(173, .i), (174, .i), (175, .i), (176, .i), (177, .i), (178, .i), (179, .p), (180, .n), (181, .n), (182, .p), (183, .n), (184, .n), (185, .i), (186, .i), (187, .i), (188, .i), (189, .i), (190, .i), (191, .p), (192, .n), (193, .n), (194, .i), (195, .i), (196, .i), (197, .i), (198, .i), (199, .i), (200, .p), (201, .n), (202, .n), (203, .i), (204, .i), (205, .i), (206, .i), (207, .i), (208, .i), (209, .p), (210, .n), (211, .n), (212, .i)] (.tup [.agg [vI 173, vI 174, vI 175, vI 176, vI 177, vI 178, vS 179, vS 182, vI 185, vI 186, vI 187, vI 188, vI 189, vI 190, vS 191, vI 194, vI 195, vI 196, vI 197, vI 198, vI 199, vS 200, vI 203, vI 204, vI 205, vI 206, vI 207, vI 208, vS 209], vI 212]) .fresh
(.all 5
(.call 11 [.agg [vI 0, vI 1, vI 2, vI 3, vI 4, vI 5, vS 6, vS 9]] [] [(213, .i), (214, .i), (215, .i), (216, .i), (217, .i), (218, .i), (219, .p), (220, .n), (221, .n), (222, .i)] (.tup [.agg [vI 213, vI 214, vI 215, vI 216, vI 217, vI 218, vS 219], vI 222]) .fresh
(.all 6
(.all 7
(.loop [(223, .n)] [.n (.k 0)] [.n (.v 223)]
(.chk (.le (.k 0) (.v 100))
(.ite (.lt (.v 223) (.v 100))
(.chk (.idx (.v 223) (.v 100))
(.chk (.isp 99)
(.esc (.storeO 35) [.ptrO 99 (.add (.k 0) (.mul (.v 223) (.k 9))), .agg [.int .i64 (.k (-1)), .int .i64 (.k 0), .int .i64 (.k 0), .int .i64 (.k 0), .int .i64 (.k 0), .int .i64 (.k 0), .int .i64 (.k 0), .int .i64 (.k 0), .int .i64 (.k 0)]] [] [] none .turn
(.chk (.rng .i64 (.add (.v 223) (.k 1)))
(.chk (.le (.k 0) (.add (.v 223) (.k 1)))
(.back 0 [.n (.add (.v 223) (.k 1))]))))))
(.call 12 [.agg [vI 90, vI 91, vI 92, vI 93, vI 94, vI 95, vS 96]] [] [] (.tup []) .turn
(.call 12 [.agg [vI 102, vI 103, vI 104, vI 105, vI 106, vI 107, vS 108]] [] [] (.tup []) .turn
(.call 12 [.agg [vI 111, vI 112, vI 113, vI 114, vI 115, vI 116, vS 117]] [] [] (.tup []) .turn
(.call 12 [.agg [vI 120, vI 121, vI 122, vI 123, vI 124, vI 125, vS 126]] [] [] (.tup []) .turn
(.loop [(224, .n)] [.n (.k 0)] [.n (.v 224)]
(.chk (.le (.k 0) (.v 141))
(.ite (.lt (.v 224) (.v 141))
(.chk (.idx (.v 224) (.v 141))
(.chk (.isp 140)
(.esc (.storeO 35) [.ptrO 140 (.add (.k 0) (.mul (.v 224) (.k 9))), .agg [.int .i64 (.k (-1)), .int .i64 (.k 0), .int .i64 (.k 0), .int .i64 (.k 0), .int .i64 (.k 0), .int .i64 (.k 0), .int .i64 (.k 0), .int .i64 (.k 0), .int .i64 (.k 0)]] [] [] none .turn
(.chk (.rng .i64 (.add (.v 224) (.k 1)))
(.chk (.le (.k 0) (.add (.v 224) (.k 1)))
(.back 0 [.n (.add (.v 224) (.k 1))]))))))
(.call 12 [.agg [vI 131, vI 132, vI 133, vI 134, vI 135, vI 136, vS 137]] [] [] (.tup []) .turn
(.call 12 [.agg [vI 143, vI 144, vI 145, vI 146, vI 147, vI 148, vS 149]] [] [] (.tup []) .turn
(.call 12 [.agg [vI 152, vI 153, vI 154, vI 155, vI 156, vI 157, vS 158]] [] [] (.tup []) .turn
(.call 12 [.agg [vI 161, vI 162, vI 163, vI 164, vI 165, vI 166, vS 167]] [] [] (.tup []) .turn
(.loop [(225, .n)] [.n (.k 0)] [.n (.v 225)]
(.chk (.le (.k 0) (.v 183))
(.ite (.lt (.v 225) (.v 183))
(.chk (.idx (.v 225) (.v 183))
(.chk (.isp 182)
(.esc (.storeO 35) [.ptrO 182 (.add (.k 0) (.mul (.v 225) (.k 9))), .agg [.int .i64 (.k (-1)), .int .i64 (.k 0), .int .i64 (.k 0), .int .i64 (.k 0), .int .i64 (.k 0), .int .i64 (.k 0), .int .i64 (.k 0), .int .i64 (.k 0), .int .i64 (.k 0)]] [] [] none .turn
(.chk (.rng .i64 (.add (.v 225) (.k 1)))
(.chk (.le (.k 0) (.add (.v 225) (.k 1)))
(.back 0 [.n (.add (.v 225) (.k 1))]))))))
(.call 12 [.agg [vI 173, vI 174, vI 175, vI 176, vI 177, vI 178, vS 179]] [] [] (.tup []) .turn
(.call 12 [.agg [vI 185, vI 186, vI 187, vI 188, vI 189, vI 190, vS 191]] [] [] (.tup []) .turn
(.call 12 [.agg [vI 194, vI 195, vI 196, vI 197, vI 198, vI 199, vS 200]] [] [] (.tup []) .turn
(.call 12 [.agg [vI 203, vI 204, vI 205, vI 206, vI 207, vI 208, vS 209]] [] [] (.tup []) .turn
(.call 12 [.agg [vI 213, vI 214, vI 215, vI 216, vI 217, vI 218, vS 219]] [] [] (.tup []) .turn
(.call 8 [.agg [vI 0, vI 1, vI 2, vI 3, vI 4, vI 5, vS 6, vS 9, vI 12, vI 13, vI 14, vI 15, vI 16, vI 17, vS 18, vI 21, vI 22, vI 23, vI 24, vI 25, vI 26, vS 27, vI 30, vI 31, vI 32, vI 33, vI 34, vI 35, vS 36], .agg [vI 39, vI 40, vI 41, vI 42, vI 43, vI 44, vI 45, vI 46, vI 47]] [] [(226, .i), (227, .i), (228, .i), (229, .i), (230, .i), (231, .i), (232, .p), (233, .n), (234, .n), (235, .p), (236, .n), (237, .n), (238, .i), (239, .i), (240, .i), (241, .i), (242, .i), (243, .i), (244, .p), (245, .n), (246, .n), (247, .i), (248, .i), (249, .i), (250, .i), (251, .i), (252, .i), (253, .p), (254, .n), (255, .n), (256, .i), (257, .i), (258, .i), (259, .i), (260, .i), (261, .i), (262, .p), (263, .n), (264, .n), (265, .i), (266, .i)] (.tup [.agg [vI 226, vI 227, vI 228, vI 229, vI 230, vI 231, vS 232, vS 235, vI 238, vI 239, vI 240, vI 241, vI 242, vI 243, vS 244, vI 247, vI 248, vI 249, vI 250, vI 251, vI 252, vS 253, vI 256, vI 257, vI 258, vI 259, vI 260, vI 261, vS 262], vI 265, vI 266]) .fresh
(.all 8
(.call 9 [.agg [vI 0, vI 1, vI 2, vI 3, vI 4, vI 5, vS 6, vS 9, vI 12, vI 13, vI 14, vI 15, vI 16, vI 17, vS 18, vI 21, vI 22, vI 23, vI 24, vI 25, vI 26, vS 27, vI 30, vI 31, vI 32, vI 33, vI 34, vI 35, vS 36], .int .i64 (.k 1), vI 89] [] [(267, .i), (268, .i), (269, .i), (270, .i), (271, .i), (272, .i), (273, .p), (274, .n), (275, .n), (276, .p), (277, .n), (278, .n), (279, .i), (280, .i), (281, .i), (282, .i), (283, .i), (284, .i), (285, .p), (286, .n), (287, .n), (288, .i), (289, .i), (290, .i), (291, .i), (292, .i), (293, .i), (294, .p), (295, .n), (296, .n), (297, .i), (298, .i), (299, .i), (300, .i), (301, .i), (302, .i), (303, .p), (304, .n), (305, .n), (306, .i), (307, .i)] (.tup [.agg [vI 267, vI 268, vI 269, vI 270, vI 271, vI 272, vS 273, vS 276, vI 279, vI 280, vI 281, vI 282, vI 283, vI 284, vS 285, vI 288, vI 289, vI 290, vI 291, vI 292, vI 293, vS 294, vI 297, vI 298, vI 299, vI 300, vI 301, vI 302, vS 303], vI 306, vI 307]) .fresh
(.all 9
(.call 13 [.agg [vI 0, vI 1, vI 2, vI 3, vI 4, vI 5, vS 6, vS 9, vI 12, vI 13, vI 14, vI 15, vI 16, vI 17, vS 18, vI 21, vI 22, vI 23, vI 24, vI 25, vI 26, vS 27, vI 30, vI 31, vI 32, vI 33, vI 34, vI 35, vS 36], .agg [vI 39, vI 40, vI 41, vI 42, vI 43, vI 44, vI 45, vI 46, vI 47]] [] [(308, .i), (309, .i), (310, .i), (311, .i), (312, .i), (313, .i), (314, .p), (315, .n), (316, .n), (317, .p), (318, .n), (319, .n), (320, .i), (321, .i), (322, .i), (323, .i), (324, .i), (325, .i), (326, .p), (327, .n), (328, .n), (329, .i), (330, .i), (331, .i), (332, .i), (333, .i), (334, .i), (335, .p), (336, .n), (337, .n), (338, .i), (339, .i), (340, .i), (341, .i), (342, .i), (343, .i), (344, .p), (345, .n), (346, .n), (347, .i), (348, .i)] (.tup [.agg [vI 308, vI 309, vI 310, vI 311, vI 312, vI 313, vS 314, vS 317, vI 320, vI 321, vI 322, vI 323, vI 324, vI 325, vS 326, vI 329, vI 330, vI 331, vI 332, vI 333, vI 334, vS 335, vI 338, vI 339, vI 340, vI 341, vI 342, vI 343, vS 344], vI 347, vI 348]) .fresh
(.all 10
(.call 14 [.agg [vI 0, vI 1, vI 2, vI 3, vI 4, vI 5, vS 6, vS 9, vI 12, vI 13, vI 14, vI 15, vI 16, vI 17, vS 18, vI 21, vI 22, vI 23, vI 24, vI 25, vI 26, vS 27, vI 30, vI 31, vI 32, vI 33, vI 34, vI 35, vS 36], .int .i64 (.k 1), vI 89] [] [(349, .i), (350, .i), (351, .i), (352, .i), (353, .i), (354, .i), (355, .p), (356, .n), (357, .n), (358, .p), (359, .n), (360, .n), (361, .i), (362, .i), (363, .i), (364, .i), (365, .i), (366, .i), (367, .p), (368, .n), (369, .n), (370, .i), (371, .i), (372, .i), (373, .i), (374, .i), (375, .i), (376, .p), (377, .n), (378, .n), (379, .i), (380, .i), (381, .i), (382, .i), (383, .i), (384, .i), (385, .p), (386, .n), (387, .n), (388, .i), (389, .i)] (.tup [.agg [vI 349, vI 350, vI 351, vI 352, vI 353, vI 354, vS 355, vS 358, vI 361, vI 362, vI 363, vI 364, vI 365, vI 366, vS 367, vI 370, vI 371, vI 372, vI 373, vI 374, vI 375, vS 376, vI 379, vI 380, vI 381, vI 382, vI 383, vI 384, vS 385], vI 388, vI 389]) .fresh
(.all 11
(.call 5 [] [] [(390, .b)] (.bool (.v 390)) .same
(.ite (.v 390)
(.ite (.eq (.v 130) (.v 266))
(.ite (.eq (.v 266) (.v 348))
(.ite (.eq (.v 171) (.v 307))
(.ite (.eq (.v 307) (.v 389))
(.ite (.eq (.v 212) (.k 0))
(.ite (.eq (.v 222) (.k 0))
(.call 15 [.agg [vI 0, vI 1, vI 2, vI 3, vI 4, vI 5, vS 6, vS 9, vI 12, vI 13, vI 14, vI 15, vI 16, vI 17, vS 18, vI 21, vI 22, vI 23, vI 24, vI 25, vI 26, vS 27, vI 30, vI 31, vI 32, vI 33, vI 34, vI 35, vS 36], .agg [vI 50, vI 51, vI 52, vI 53, vI 54, vI 55, vS 56, vS 59, vI 62, vI 63, vI 64, vI 65, vI 66, vI 67, vS 68, vI 71, vI 72, vI 73, vI 74, vI 75, vI 76, vS 77, vI 80, vI 81, vI 82, vI 83, vI 84, vI 85, vS 86]] [] [(391, .b)] (.bool (.v 391)) .same
(.ite (.v 391)
(.call 15 [.agg [vI 226, vI 227, vI 228, vI 229, vI 230, vI 231, vS 232, vS 235, vI 238, vI 239, vI 240, vI 241, vI 242, vI 243, vS 244, vI 247, vI 248, vI 249, vI 250, vI 251, vI 252, vS 253, vI 256, vI 257, vI 258, vI 259, vI 260, vI 261, vS 262], .agg [vI 308, vI 309, vI 310, vI 311, vI 312, vI 313, vS 314, vS 317, vI 320, vI 321, vI 322, vI 323, vI 324, vI 325, vS 326, vI 329, vI 330, vI 331, vI 332, vI 333, vI 334, vS 335, vI 338, vI 339, vI 340, vI 341, vI 342, vI 343, vS 344]] [] [(392, .b)] (.bool (.v 392)) .same
(.ite (.v 392)
(.call 15 [.agg [vI 267, vI 268, vI 269, vI 270, vI 271, vI 272, vS 273, vS 276, vI 279, vI 280, vI 281, vI 282, vI 283, vI 284, vS 285, vI 288, vI 289, vI 290, vI 291, vI 292, vI 293, vS 294, vI 297, vI 298, vI 299, vI 300, vI 301, vI 302, vS 303], .agg [vI 349, vI 350, vI 351, vI 352, vI 353, vI 354, vS 355, vS 358, vI 361, vI 362, vI 363, vI 364, vI 365, vI 366, vS 367, vI 370, vI 371, vI 372, vI 373, vI 374, vI 375, vS 376, vI 379, vI 380, vI 381, vI 382, vI 383, vI 384, vS 385]] [] [(393, .b)] (.bool (.v 393)) .same
(.ret (.bool (.v 393)) []))
(.ret (.bool (.k false)) [])))
(.ret (.bool (.k false)) [])))
(.ret (.bool (.k false)) []))
(.ret (.bool (.k false)) []))
(.ret (.bool (.k false)) []))
(.ret (.bool (.k false)) []))
(.ret (.bool (.k false)) []))
(.ret (.bool (.k false)) []))
(.ret (.bool (.k false)) []))))))))))))))))))))))))))))))))))))))))))))))))
(.call 5 [] [] [(50, .b)] (.bool (.v 50)) .same
(.ret (.bool (.v 50)) []))))))
theorem x_restGroups (x0 x1 x2 x3 x4 x5 : Int) (x6 : Option Loc) (x7 x8 : Nat) (x9 : Option Loc) (x10 x11 : Nat) (x12 x13 x14 x15 x16 x17 : Int) (x18 : Option Loc) (x19 x20 : Nat) (x21 x22 x23 x24 x25 x26 : Int) (x27 : Option Loc) (x28 x29 : Nat) (x30 x31 x32 x33 x34 x35 : Int) (x36 : Option Loc) (x37 x38 : Nat) (x39 x40 x41 x42 x43 x44 x45 x46 x47 x48 : Int) (M : Nat → Prop) (H0 : Hp) (W0 : World) (R : Ending → World → Prop) (hH : H0.le (hpOf W0)) (h :
 (∀ b0 : Nat,
 (∀ b1 : Nat,
 (Cl Tryz.prog W0 M H0 nK 4 #[Value.agg #[vi x0, vi x1, vi x2, vi x3, vi x4, vi x5, vsl x6 x7 x8, vsl x9 x10 x11, vi x12, vi x13, vi x14, vi x15, vi x16, vi x17, vsl x18 x19 x20, vi x21, vi x22, vi x23, vi x24, vi x25, vi x26, vsl x27 x28 x29, vi x30, vi x31, vi x32, vi x33, vi x34, vi x35, vsl x36 x37 x38]] fun z W1 W2 => ∃ x49 : Int, z = .returned (vi x49) ∧ Ext W1 W2 ∧
 ((x49 = 0 →
  (Cl Tryz.prog W0 M H0 nK 6 #[Value.agg #[vi x0, vi x1, vi x2, vi x3, vi x4, vi x5, vsl x6 x7 x8, vsl x9 x10 x11, vi x12, vi x13, vi x14, vi x15, vi x16, vi x17, vsl x18 x19 x20, vi x21, vi x22, vi x23, vi x24, vi x25, vi x26, vsl x27 x28 x29, vi x30, vi x31, vi x32, vi x33, vi x34, vi x35, vsl x36 x37 x38]] fun z W3 W4 => ∃ (x50 x51 x52 x53 x54 x55 : Int) (x56 : Option Loc) (x57 x58 : Nat) (x59 : Option Loc) (x60 x61 : Nat) (x62 x63 x64 x65 x66 x67 : Int) (x68 : Option Loc) (x69 x70 : Nat) (x71 x72 x73 x74 x75 x76 : Int) (x77 : Option Loc) (x78 x79 : Nat) (x80 x81 x82 x83 x84 x85 : Int) (x86 : Option Loc) (x87 x88 : Nat), z = .returned (Value.agg #[vi x50, vi x51, vi x52, vi x53, vi x54, vi x55, vsl x56 x57 x58, vsl x59 x60 x61, vi x62, vi x63, vi x64, vi x65, vi x66, vi x67, vsl x68 x69 x70, vi x71, vi x72, vi x73, vi x74, vi x75, vi x76, vsl x77 x78 x79, vi x80, vi x81, vi x82, vi x83, vi x84, vi x85, vsl x86 x87 x88]) ∧ Fr W3 W4 H0 fun H1 =>
  (∀ b2 : Nat,
  (Cl Tryz.prog W0 M H1 nK 7 #[vi x48, vi 51] fun z W5 W6 => ∃ x89 : Int, z = .returned (vi x89) ∧ Ext W5 W6 ∧
  (Cl Tryz.prog W0 M H1 nK 8 #[Value.agg #[vi x0, vi x1, vi x2, vi x3, vi x4, vi x5, vsl x6 x7 x8, vsl x9 x10 x11, vi x12, vi x13, vi x14, vi x15, vi x16, vi x17, vsl x18 x19 x20, vi x21, vi x22, vi x23, vi x24, vi x25, vi x26, vsl x27 x28 x29, vi x30, vi x31, vi x32, vi x33, vi x34, vi x35, vsl x36 x37 x38], Value.agg #[vi x39, vi x40, vi x41, vi x42, vi x43, vi x44, vi x45, vi x46, vi x47]] fun z W7 W8 => ∃ (x90 x91 x92 x93 x94 x95 : Int) (x96 : Option Loc) (x97 x98 : Nat) (x99 : Option Loc) (x100 x101 : Nat) (x102 x103 x104 x105 x106 x107 : Int) (x108 : Option Loc) (x109 x110 : Nat) (x111 x112 x113 x114 x115 x116 : Int) (x117 : Option Loc) (x118 x119 : Nat) (x120 x121 x122 x123 x124 x125 : Int) (x126 : Option Loc) (x127 x128 : Nat) (x129 x130 : Int), z = .returned (Value.tuple #[Value.agg #[vi x90, vi x91, vi x92, vi x93, vi x94, vi x95, vsl x96 x97 x98, vsl x99 x100 x101, vi x102, vi x103, vi x104, vi x105, vi x106, vi x107, vsl x108 x109 x110, vi x111, vi x112, vi x113, vi x114, vi x115, vi x116, vsl x117 x118 x119, vi x120, vi x121, vi x122, vi x123, vi x124, vi x125, vsl x126 x127 x128], vi x129, vi x130]) ∧ Fr W7 W8 H1 fun H2 =>
  (∀ b3 : Nat,
  (Cl Tryz.prog W0 M H2 nK 9 #[Value.agg #[vi x0, vi x1, vi x2, vi x3, vi x4, vi x5, vsl x6 x7 x8, vsl x9 x10 x11, vi x12, vi x13, vi x14, vi x15, vi x16, vi x17, vsl x18 x19 x20, vi x21, vi x22, vi x23, vi x24, vi x25, vi x26, vsl x27 x28 x29, vi x30, vi x31, vi x32, vi x33, vi x34, vi x35, vsl x36 x37 x38], vi 1, vi x89] fun z W9 W10 => ∃ (x131 x132 x133 x134 x135 x136 : Int) (x137 : Option Loc) (x138 x139 : Nat) (x140 : Option Loc) (x141 x142 : Nat) (x143 x144 x145 x146 x147 x148 : Int) (x149 : Option Loc) (x150 x151 : Nat) (x152 x153 x154 x155 x156 x157 : Int) (x158 : Option Loc) (x159 x160 : Nat) (x161 x162 x163 x164 x165 x166 : Int) (x167 : Option Loc) (x168 x169 : Nat) (x170 x171 : Int), z = .returned (Value.tuple #[Value.agg #[vi x131, vi x132, vi x133, vi x134, vi x135, vi x136, vsl x137 x138 x139, vsl x140 x141 x142, vi x143, vi x144, vi x145, vi x146, vi x147, vi x148, vsl x149 x150 x151, vi x152, vi x153, vi x154, vi x155, vi x156, vi x157, vsl x158 x159 x160, vi x161, vi x162, vi x163, vi x164, vi x165, vi x166, vsl x167 x168 x169], vi x170, vi x171]) ∧ Fr W9 W10 H2 fun H3 =>
  (∀ b4 : Nat,
  (0 ≤ (x10 : Int) ∧ (0 ≤ (x10 : Int) →
  (inKind .i64 ((x10 : Int) + 1) ∧ (inKind .i64 ((x10 : Int) + 1) →
  (Cl Tryz.prog W0 M H3 nK 7 #[vi x48, vi ((x10 : Int) + 1)] fun z W11 W12 => ∃ x172 : Int, z = .returned (vi x172) ∧ Ext W11 W12 ∧
  (Cl Tryz.prog W0 M H3 nK 10 #[Value.agg #[vi x0, vi x1, vi x2, vi x3, vi x4, vi x5, vsl x6 x7 x8, vsl x9 x10 x11, vi x12, vi x13, vi x14, vi x15, vi x16, vi x17, vsl x18 x19 x20, vi x21, vi x22, vi x23, vi x24, vi x25, vi x26, vsl x27 x28 x29, vi x30, vi x31, vi x32, vi x33, vi x34, vi x35, vsl x36 x37 x38], vi x172] fun z W13 W14 => ∃ (x173 x174 x175 x176 x177 x178 : Int) (x179 : Option Loc) (x180 x181 : Nat) (x182 : Option Loc) (x183 x184 : Nat) (x185 x186 x187 x188 x189 x190 : Int) (x191 : Option Loc) (x192 x193 : Nat) (x194 x195 x196 x197 x198 x199 : Int) (x200 : Option Loc) (x201 x202 : Nat) (x203 x204 x205 x206 x207 x208 : Int) (x209 : Option Loc) (x210 x211 : Nat) (x212 : Int), z = .returned (Value.tuple #[Value.agg #[vi x173, vi x174, vi x175, vi x176, vi x177, vi x178, vsl x179 x180 x181, vsl x182 x183 x184, vi x185, vi x186, vi x187, vi x188, vi x189, vi x190, vsl x191 x192 x193, vi x194, vi x195, vi x196, vi x197, vi x198, vi x199, vsl x200 x201 x202, vi x203, vi x204, vi x205, vi x206, vi x207, vi x208, vsl x209 x210 x211], vi x212]) ∧ Fr W13 W14 H3 fun H4 =>
  (∀ b5 : Nat,
  (Cl Tryz.prog W0 M H4 nK 11 #[Value.agg #[vi x0, vi x1, vi x2, vi x3, vi x4, vi x5, vsl x6 x7 x8, vsl x9 x10 x11]] fun z W15 W16 => ∃ (x213 x214 x215 x216 x217 x218 : Int) (x219 : Option Loc) (x220 x221 : Nat) (x222 : Int), z = .returned (Value.tuple #[Value.agg #[vi x213, vi x214, vi x215, vi x216, vi x217, vi x218, vsl x219 x220 x221], vi x222]) ∧ Fr W15 W16 H4 fun H5 =>
  (∀ b6 : Nat,
  (∀ b7 : Nat,
  (∃ (I0 : List Dat → Hp → Prop) (μ0 : List Dat → Nat), I0 [.n 0] H5 ∧ ∀ H6 : Hp, ∀ x223 : Nat, I0 [.n x223] H6 →
   (0 ≤ (x100 : Int) ∧ (0 ≤ (x100 : Int) →
   (((x223 : Int) < (x100 : Int) →
    (((0 : Int) ≤ (x223 : Int) ∧ (x223 : Int) < (x100 : Int)) ∧ (((0 : Int) ≤ (x223 : Int) ∧ (x223 : Int) < (x100 : Int)) →
    (x99.isSome = true ∧ (x99.isSome = true →
    (Es W0 M H6 nK fun W17 => Eo Tryz.prog (.storeO 35) [Value.pointer (ptrAt x99 (0 + ((x223 : Int) * 9))), Value.agg #[vi (-1), vi 0, vi 0, vi 0, vi 0, vi 0, vi 0, vi 0, vi 0]] W17 (.skip) fun W18 => Tn W0 M H6 W17 W18 fun H7 =>
    (inKind .i64 ((x223 : Int) + 1) ∧ (inKind .i64 ((x223 : Int) + 1) →
    (0 ≤ ((x223 : Int) + 1) ∧ (0 ≤ ((x223 : Int) + 1) →
    (I0 [.n (((x223 : Int) + 1) : Int).toNat] H7 ∧ μ0 [.n (((x223 : Int) + 1) : Int).toNat] < μ0 [.n x223]))))))))))) ∧
   (¬ ((x223 : Int) < (x100 : Int)) →
    (Cl Tryz.prog W0 M H6 nK 12 #[Value.agg #[vi x90, vi x91, vi x92, vi x93, vi x94, vi x95, vsl x96 x97 x98]] fun z W17 W18 => z = .returned (Value.tuple #[]) ∧ Tn W0 M H6 W17 W18 fun H7 =>
    (Cl Tryz.prog W0 M H7 nK 12 #[Value.agg #[vi x102, vi x103, vi x104, vi x105, vi x106, vi x107, vsl x108 x109 x110]] fun z W19 W20 => z = .returned (Value.tuple #[]) ∧ Tn W0 M H7 W19 W20 fun H8 =>
    (Cl Tryz.prog W0 M H8 nK 12 #[Value.agg #[vi x111, vi x112, vi x113, vi x114, vi x115, vi x116, vsl x117 x118 x119]] fun z W21 W22 => z = .returned (Value.tuple #[]) ∧ Tn W0 M H8 W21 W22 fun H9 =>
    (Cl Tryz.prog W0 M H9 nK 12 #[Value.agg #[vi x120, vi x121, vi x122, vi x123, vi x124, vi x125, vsl x126 x127 x128]] fun z W23 W24 => z = .returned (Value.tuple #[]) ∧ Tn W0 M H9 W23 W24 fun H10 =>
    (∃ (I1 : List Dat → Hp → Prop) (μ1 : List Dat → Nat), I1 [.n 0] H10 ∧ ∀ H11 : Hp, ∀ x224 : Nat, I1 [.n x224] H11 →
     (0 ≤ (x141 : Int) ∧ (0 ≤ (x141 : Int) →
     (((x224 : Int) < (x141 : Int) →
      (((0 : Int) ≤ (x224 : Int) ∧ (x224 : Int) < (x141 : Int)) ∧ (((0 : Int) ≤ (x224 : Int) ∧ (x224 : Int) < (x141 : Int)) →
      (x140.isSome = true ∧ (x140.isSome = true →
      (Es W0 M H11 nK fun W25 => Eo Tryz.prog (.storeO 35) [Value.pointer (ptrAt x140 (0 + ((x224 : Int) * 9))), Value.agg #[vi (-1), vi 0, vi 0, vi 0, vi 0, vi 0, vi 0, vi 0, vi 0]] W25 (.skip) fun W26 => Tn W0 M H11 W25 W26 fun H12 =>
      (inKind .i64 ((x224 : Int) + 1) ∧ (inKind .i64 ((x224 : Int) + 1) →
      (0 ≤ ((x224 : Int) + 1) ∧ (0 ≤ ((x224 : Int) + 1) →
      (I1 [.n (((x224 : Int) + 1) : Int).toNat] H12 ∧ μ1 [.n (((x224 : Int) + 1) : Int).toNat] < μ1 [.n x224]))))))))))) ∧
     (¬ ((x224 : Int) < (x141 : Int)) →
      (Cl Tryz.prog W0 M H11 nK 12 #[Value.agg #[vi x131, vi x132, vi x133, vi x134, vi x135, vi x136, vsl x137 x138 x139]] fun z W25 W26 => z = .returned (Value.tuple #[]) ∧ Tn W0 M H11 W25 W26 fun H12 =>
      (Cl Tryz.prog W0 M H12 nK 12 #[Value.agg #[vi x143, vi x144, vi x145, vi x146, vi x147, vi x148, vsl x149 x150 x151]] fun z W27 W28 => z = .returned (Value.tuple #[]) ∧ Tn W0 M H12 W27 W28 fun H13 =>
      (Cl Tryz.prog W0 M H13 nK 12 #[Value.agg #[vi x152, vi x153, vi x154, vi x155, vi x156, vi x157, vsl x158 x159 x160]] fun z W29 W30 => z = .returned (Value.tuple #[]) ∧ Tn W0 M H13 W29 W30 fun H14 =>
      (Cl Tryz.prog W0 M H14 nK 12 #[Value.agg #[vi x161, vi x162, vi x163, vi x164, vi x165, vi x166, vsl x167 x168 x169]] fun z W31 W32 => z = .returned (Value.tuple #[]) ∧ Tn W0 M H14 W31 W32 fun H15 =>
      (∃ (I2 : List Dat → Hp → Prop) (μ2 : List Dat → Nat), I2 [.n 0] H15 ∧ ∀ H16 : Hp, ∀ x225 : Nat, I2 [.n x225] H16 →
       (0 ≤ (x183 : Int) ∧ (0 ≤ (x183 : Int) →
       (((x225 : Int) < (x183 : Int) →
        (((0 : Int) ≤ (x225 : Int) ∧ (x225 : Int) < (x183 : Int)) ∧ (((0 : Int) ≤ (x225 : Int) ∧ (x225 : Int) < (x183 : Int)) →
        (x182.isSome = true ∧ (x182.isSome = true →
        (Es W0 M H16 nK fun W33 => Eo Tryz.prog (.storeO 35) [Value.pointer (ptrAt x182 (0 + ((x225 : Int) * 9))), Value.agg #[vi (-1), vi 0, vi 0, vi 0, vi 0, vi 0, vi 0, vi 0, vi 0]] W33 (.skip) fun W34 => Tn W0 M H16 W33 W34 fun H17 =>
        (inKind .i64 ((x225 : Int) + 1) ∧ (inKind .i64 ((x225 : Int) + 1) →
        (0 ≤ ((x225 : Int) + 1) ∧ (0 ≤ ((x225 : Int) + 1) →
        (I2 [.n (((x225 : Int) + 1) : Int).toNat] H17 ∧ μ2 [.n (((x225 : Int) + 1) : Int).toNat] < μ2 [.n x225]))))))))))) ∧
       (¬ ((x225 : Int) < (x183 : Int)) →
        (Cl Tryz.prog W0 M H16 nK 12 #[Value.agg #[vi x173, vi x174, vi x175, vi x176, vi x177, vi x178, vsl x179 x180 x181]] fun z W33 W34 => z = .returned (Value.tuple #[]) ∧ Tn W0 M H16 W33 W34 fun H17 =>
        (Cl Tryz.prog W0 M H17 nK 12 #[Value.agg #[vi x185, vi x186, vi x187, vi x188, vi x189, vi x190, vsl x191 x192 x193]] fun z W35 W36 => z = .returned (Value.tuple #[]) ∧ Tn W0 M H17 W35 W36 fun H18 =>
        (Cl Tryz.prog W0 M H18 nK 12 #[Value.agg #[vi x194, vi x195, vi x196, vi x197, vi x198, vi x199, vsl x200 x201 x202]] fun z W37 W38 => z = .returned (Value.tuple #[]) ∧ Tn W0 M H18 W37 W38 fun H19 =>
        (Cl Tryz.prog W0 M H19 nK 12 #[Value.agg #[vi x203, vi x204, vi x205, vi x206, vi x207, vi x208, vsl x209 x210 x211]] fun z W39 W40 => z = .returned (Value.tuple #[]) ∧ Tn W0 M H19 W39 W40 fun H20 =>
        (Cl Tryz.prog W0 M H20 nK 12 #[Value.agg #[vi x213, vi x214, vi x215, vi x216, vi x217, vi x218, vsl x219 x220 x221]] fun z W41 W42 => z = .returned (Value.tuple #[]) ∧ Tn W0 M H20 W41 W42 fun H21 =>
        (Cl Tryz.prog W0 M H21 nK 8 #[Value.agg #[vi x0, vi x1, vi x2, vi x3, vi x4, vi x5, vsl x6 x7 x8, vsl x9 x10 x11, vi x12, vi x13, vi x14, vi x15, vi x16, vi x17, vsl x18 x19 x20, vi x21, vi x22, vi x23, vi x24, vi x25, vi x26, vsl x27 x28 x29, vi x30, vi x31, vi x32, vi x33, vi x34, vi x35, vsl x36 x37 x38], Value.agg #[vi x39, vi x40, vi x41, vi x42, vi x43, vi x44, vi x45, vi x46, vi x47]] fun z W43 W44 => ∃ (x226 x227 x228 x229 x230 x231 : Int) (x232 : Option Loc) (x233 x234 : Nat) (x235 : Option Loc) (x236 x237 : Nat) (x238 x239 x240 x241 x242 x243 : Int) (x244 : Option Loc) (x245 x246 : Nat) (x247 x248 x249 x250 x251 x252 : Int) (x253 : Option Loc) (x254 x255 : Nat) (x256 x257 x258 x259 x260 x261 : Int) (x262 : Option Loc) (x263 x264 : Nat) (x265 x266 : Int), z = .returned (Value.tuple #[Value.agg #[vi x226, vi x227, vi x228, vi x229, vi x230, vi x231, vsl x232 x233 x234, vsl x235 x236 x237, vi x238, vi x239, vi x240, vi x241, vi x242, vi x243, vsl x244 x245 x246, vi x247, vi x248, vi x249, vi x250, vi x251, vi x252, vsl x253 x254 x255, vi x256, vi x257, vi x258, vi x259, vi x260, vi x261, vsl x262 x263 x264], vi x265, vi x266]) ∧ Fr W43 W44 H21 fun H22 =>
        (∀ b8 : Nat,
        (Cl Tryz.prog W0 M H22 nK 9 #[Value.agg #[vi x0, vi x1, vi x2, vi x3, vi x4, vi x5, vsl x6 x7 x8, vsl x9 x10 x11, vi x12, vi x13, vi x14, vi x15, vi x16, vi x17, vsl x18 x19 x20, vi x21, vi x22, vi x23, vi x24, vi x25, vi x26, vsl x27 x28 x29, vi x30, vi x31, vi x32, vi x33, vi x34, vi x35, vsl x36 x37 x38], vi 1, vi x89] fun z W45 W46 => ∃ (x267 x268 x269 x270 x271 x272 : Int) (x273 : Option Loc) (x274 x275 : Nat) (x276 : Option Loc) (x277 x278 : Nat) (x279 x280 x281 x282 x283 x284 : Int) (x285 : Option Loc) (x286 x287 : Nat) (x288 x289 x290 x291 x292 x293 : Int) (x294 : Option Loc) (x295 x296 : Nat) (x297 x298 x299 x300 x301 x302 : Int) (x303 : Option Loc) (x304 x305 : Nat) (x306 x307 : Int), z = .returned (Value.tuple #[Value.agg #[vi x267, vi x268, vi x269, vi x270, vi x271, vi x272, vsl x273 x274 x275, vsl x276 x277 x278, vi x279, vi x280, vi x281, vi x282, vi x283, vi x284, vsl x285 x286 x287, vi x288, vi x289, vi x290, vi x291, vi x292, vi x293, vsl x294 x295 x296, vi x297, vi x298, vi x299, vi x300, vi x301, vi x302, vsl x303 x304 x305], vi x306, vi x307]) ∧ Fr W45 W46 H22 fun H23 =>
        (∀ b9 : Nat,
        (Cl Tryz.prog W0 M H23 nK 13 #[Value.agg #[vi x0, vi x1, vi x2, vi x3, vi x4, vi x5, vsl x6 x7 x8, vsl x9 x10 x11, vi x12, vi x13, vi x14, vi x15, vi x16, vi x17, vsl x18 x19 x20, vi x21, vi x22, vi x23, vi x24, vi x25, vi x26, vsl x27 x28 x29, vi x30, vi x31, vi x32, vi x33, vi x34, vi x35, vsl x36 x37 x38], Value.agg #[vi x39, vi x40, vi x41, vi x42, vi x43, vi x44, vi x45, vi x46, vi x47]] fun z W47 W48 => ∃ (x308 x309 x310 x311 x312 x313 : Int) (x314 : Option Loc) (x315 x316 : Nat) (x317 : Option Loc) (x318 x319 : Nat) (x320 x321 x322 x323 x324 x325 : Int) (x326 : Option Loc) (x327 x328 : Nat) (x329 x330 x331 x332 x333 x334 : Int) (x335 : Option Loc) (x336 x337 : Nat) (x338 x339 x340 x341 x342 x343 : Int) (x344 : Option Loc) (x345 x346 : Nat) (x347 x348 : Int), z = .returned (Value.tuple #[Value.agg #[vi x308, vi x309, vi x310, vi x311, vi x312, vi x313, vsl x314 x315 x316, vsl x317 x318 x319, vi x320, vi x321, vi x322, vi x323, vi x324, vi x325, vsl x326 x327 x328, vi x329, vi x330, vi x331, vi x332, vi x333, vi x334, vsl x335 x336 x337, vi x338, vi x339, vi x340, vi x341, vi x342, vi x343, vsl x344 x345 x346], vi x347, vi x348]) ∧ Fr W47 W48 H23 fun H24 =>
        (∀ b10 : Nat,
        (Cl Tryz.prog W0 M H24 nK 14 #[Value.agg #[vi x0, vi x1, vi x2, vi x3, vi x4, vi x5, vsl x6 x7 x8, vsl x9 x10 x11, vi x12, vi x13, vi x14, vi x15, vi x16, vi x17, vsl x18 x19 x20, vi x21, vi x22, vi x23, vi x24, vi x25, vi x26, vsl x27 x28 x29, vi x30, vi x31, vi x32, vi x33, vi x34, vi x35, vsl x36 x37 x38], vi 1, vi x89] fun z W49 W50 => ∃ (x349 x350 x351 x352 x353 x354 : Int) (x355 : Option Loc) (x356 x357 : Nat) (x358 : Option Loc) (x359 x360 : Nat) (x361 x362 x363 x364 x365 x366 : Int) (x367 : Option Loc) (x368 x369 : Nat) (x370 x371 x372 x373 x374 x375 : Int) (x376 : Option Loc) (x377 x378 : Nat) (x379 x380 x381 x382 x383 x384 : Int) (x385 : Option Loc) (x386 x387 : Nat) (x388 x389 : Int), z = .returned (Value.tuple #[Value.agg #[vi x349, vi x350, vi x351, vi x352, vi x353, vi x354, vsl x355 x356 x357, vsl x358 x359 x360, vi x361, vi x362, vi x363, vi x364, vi x365, vi x366, vsl x367 x368 x369, vi x370, vi x371, vi x372, vi x373, vi x374, vi x375, vsl x376 x377 x378, vi x379, vi x380, vi x381, vi x382, vi x383, vi x384, vsl x385 x386 x387], vi x388, vi x389]) ∧ Fr W49 W50 H24 fun H25 =>
        (∀ b11 : Nat,
        (Cl Tryz.prog W0 M H25 nK 5 #[] fun z W51 W52 => ∃ x390 : Bool, z = .returned (vb (x390)) ∧ Ext W51 W52 ∧
        ((x390 = true →
         ((x130 = x266 →
          ((x266 = x348 →
           ((x171 = x307 →
            ((x307 = x389 →
             ((x212 = 0 →
              ((x222 = 0 →
               (Cl Tryz.prog W0 M H25 nK 15 #[Value.agg #[vi x0, vi x1, vi x2, vi x3, vi x4, vi x5, vsl x6 x7 x8, vsl x9 x10 x11, vi x12, vi x13, vi x14, vi x15, vi x16, vi x17, vsl x18 x19 x20, vi x21, vi x22, vi x23, vi x24, vi x25, vi x26, vsl x27 x28 x29, vi x30, vi x31, vi x32, vi x33, vi x34, vi x35, vsl x36 x37 x38], Value.agg #[vi x50, vi x51, vi x52, vi x53, vi x54, vi x55, vsl x56 x57 x58, vsl x59 x60 x61, vi x62, vi x63, vi x64, vi x65, vi x66, vi x67, vsl x68 x69 x70, vi x71, vi x72, vi x73, vi x74, vi x75, vi x76, vsl x77 x78 x79, vi x80, vi x81, vi x82, vi x83, vi x84, vi x85, vsl x86 x87 x88]] fun z W53 W54 => ∃ x391 : Bool, z = .returned (vb (x391)) ∧ Ext W53 W54 ∧
               ((x391 = true →
                (Cl Tryz.prog W0 M H25 nK 15 #[Value.agg #[vi x226, vi x227, vi x228, vi x229, vi x230, vi x231, vsl x232 x233 x234, vsl x235 x236 x237, vi x238, vi x239, vi x240, vi x241, vi x242, vi x243, vsl x244 x245 x246, vi x247, vi x248, vi x249, vi x250, vi x251, vi x252, vsl x253 x254 x255, vi x256, vi x257, vi x258, vi x259, vi x260, vi x261, vsl x262 x263 x264], Value.agg #[vi x308, vi x309, vi x310, vi x311, vi x312, vi x313, vsl x314 x315 x316, vsl x317 x318 x319, vi x320, vi x321, vi x322, vi x323, vi x324, vi x325, vsl x326 x327 x328, vi x329, vi x330, vi x331, vi x332, vi x333, vi x334, vsl x335 x336 x337, vi x338, vi x339, vi x340, vi x341, vi x342, vi x343, vsl x344 x345 x346]] fun z W55 W56 => ∃ x392 : Bool, z = .returned (vb (x392)) ∧ Ext W55 W56 ∧
                ((x392 = true →
                 (Cl Tryz.prog W0 M H25 nK 15 #[Value.agg #[vi x267, vi x268, vi x269, vi x270, vi x271, vi x272, vsl x273 x274 x275, vsl x276 x277 x278, vi x279, vi x280, vi x281, vi x282, vi x283, vi x284, vsl x285 x286 x287, vi x288, vi x289, vi x290, vi x291, vi x292, vi x293, vsl x294 x295 x296, vi x297, vi x298, vi x299, vi x300, vi x301, vi x302, vsl x303 x304 x305], Value.agg #[vi x349, vi x350, vi x351, vi x352, vi x353, vi x354, vsl x355 x356 x357, vsl x358 x359 x360, vi x361, vi x362, vi x363, vi x364, vi x365, vi x366, vsl x367 x368 x369, vi x370, vi x371, vi x372, vi x373, vi x374, vi x375, vsl x376 x377 x378, vi x379, vi x380, vi x381, vi x382, vi x383, vi x384, vsl x385 x386 x387]] fun z W57 W58 => ∃ x393 : Bool, z = .returned (vb (x393)) ∧ Ext W57 W58 ∧
                 Rt R W0 M H25 nK (vb (x393)))) ∧
                (¬ (x392 = true) →
                 Rt R W0 M H25 nK (vb (false)))))) ∧
               (¬ (x391 = true) →
                Rt R W0 M H25 nK (vb (false)))))) ∧
              (¬ (x222 = 0) →
               Rt R W0 M H25 nK (vb (false))))) ∧
             (¬ (x212 = 0) →
              Rt R W0 M H25 nK (vb (false))))) ∧
            (¬ (x307 = x389) →
             Rt R W0 M H25 nK (vb (false))))) ∧
           (¬ (x171 = x307) →
            Rt R W0 M H25 nK (vb (false))))) ∧
          (¬ (x266 = x348) →
           Rt R W0 M H25 nK (vb (false))))) ∧
         (¬ (x130 = x266) →
          Rt R W0 M H25 nK (vb (false))))) ∧
        (¬ (x390 = true) →
         Rt R W0 M H25 nK (vb (false))))))))))))))))))))))))))))))))))))))))))))))))))))))))))) ∧
 (¬ (x49 = 0) →
  (Cl Tryz.prog W0 M H0 nK 5 #[] fun z W3 W4 => ∃ x50 : Bool, z = .returned (vb (x50)) ∧ Ext W3 W4 ∧
  Rt R W0 M H0 nK (vb (x50))))))))) :
  Calls Tryz.prog 3 #[Value.agg #[vi x0, vi x1, vi x2, vi x3, vi x4, vi x5, vsl x6 x7 x8, vsl x9 x10 x11, vi x12, vi x13, vi x14, vi x15, vi x16, vi x17, vsl x18 x19 x20, vi x21, vi x22, vi x23, vi x24, vi x25, vi x26, vsl x27 x28 x29, vi x30, vi x31, vi x32, vi x33, vi x34, vi x35, vsl x36 x37 x38], Value.agg #[vi x39, vi x40, vi x41, vi x42, vi x43, vi x44, vi x45, vi x46, vi x47], vi x48] W0 R :=
  calls_sxA (M := M) (V := v_restGroups) (hi := {turns := [12], loops := [(11, .unroll 5), (14, .inv [(21, .nat)] []), (19, .unroll 5)]}) (args := [.agg [vI 0, vI 1, vI 2, vI 3, vI 4, vI 5, vS 6, vS 9, vI 12, vI 13, vI 14, vI 15, vI 16, vI 17, vS 18, vI 21, vI 22, vI 23, vI 24, vI 25, vI 26, vS 27, vI 30, vI 31, vI 32, vI 33, vI 34, vI 35, vS 36], .agg [vI 39, vI 40, vI 41, vI 42, vI 43, vI 44, vI 45, vI 46, vI 47], vI 48]) (nv := 49) (e := (upd (upd (upd (upd (upd (upd (upd (upd (upd (upd (upd (upd (upd (upd (upd (upd (upd (upd (upd (upd (upd (upd (upd (upd (upd (upd (upd (upd (upd (upd (upd (upd (upd (upd (upd (upd (upd (upd (upd (upd (upd (upd (upd (upd (upd (upd (upd (upd (upd (fun _ => .i 0) 0 (.i x0)) 1 (.i x1)) 2 (.i x2)) 3 (.i x3)) 4 (.i x4)) 5 (.i x5)) 6 (.p x6)) 7 (.n x7)) 8 (.n x8)) 9 (.p x9)) 10 (.n x10)) 11 (.n x11)) 12 (.i x12)) 13 (.i x13)) 14 (.i x14)) 15 (.i x15)) 16 (.i x16)) 17 (.i x17)) 18 (.p x18)) 19 (.n x19)) 20 (.n x20)) 21 (.i x21)) 22 (.i x22)) 23 (.i x23)) 24 (.i x24)) 25 (.i x25)) 26 (.i x26)) 27 (.p x27)) 28 (.n x28)) 29 (.n x29)) 30 (.i x30)) 31 (.i x31)) 32 (.i x32)) 33 (.i x33)) 34 (.i x34)) 35 (.i x35)) 36 (.p x36)) 37 (.n x37)) 38 (.n x38)) 39 (.i x39)) 40 (.i x40)) 41 (.i x41)) 42 (.i x42)) 43 (.i x43)) 44 (.i x44)) 45 (.i x45)) 46 (.i x46)) 47 (.i x47)) 48 (.i x48))) Tryz.func3 hH h (by kernel_rfl) (by kernel_rfl) (by kernel_rfl)
end Go.Proofs.YtfpmcmhihhnfgaaGreat
namespace Go.Proofs.YtfpmcmhihhnfgaaGreat
open Go.RowKit

/-- a cell that has been spoilt, or not -/
def SpC (v u : Value) : Prop := u = v ∨ (∃ k x y, v = .int k x ∧ u = .int k y) ∨ ((∃ a n c, v = .slice a n c) ∧ u = .slice none 0 0)
def Spl (D K : Hp) : Prop := ∀ b C T fz, D b = some (.cells C T fz) → ∃ C', K b = some (.cells C' T fz) ∧ C'.size = C.size ∧ ∀ (i : Nat) v, C[i]? = some v → ∃ u, C'[i]? = some u ∧ SpC v u
theorem Spl.of_le {D K : Hp} (h : D.le K) : Spl D K := fun b C _ _ hb => ⟨C, h b _ hb, rfl, fun _ v hv => ⟨v, hv, .inl rfl⟩⟩
theorem Spl.mono {D K K' : Hp} (h : Spl D K) (hk : K.le K') : Spl D K' := fun b C T fz hb => by
  obtain ⟨C', h1, h2⟩ := h b C T fz hb
  exact ⟨C', hk b _ h1, h2⟩
theorem Spl.le {D' D K : Hp} (h : Spl D K) (hd : D'.le D) : Spl D' K := fun b C T fz hb => h b C T fz (hd b _ hb)
theorem Spl.at {D K : Hp} {p : Option Loc} {off : Int} {v : Value} (h : Spl D K) (hr : RowAt D p off [v]) : ∃ u, RowAt K p off [u] ∧ SpC v u := by
  obtain ⟨b, o, rfl, C, T, fz, h1, h2⟩ := hr
  obtain ⟨C', k1, k2, k3⟩ := h b C T fz h1
  obtain ⟨e1, e2⟩ := h2 0 (by simp)
  obtain ⟨u, e3, e4⟩ := k3 _ v (by rw [e1]; rfl)
  refine ⟨u, ⟨b, o, rfl, C', T, fz, k1, fun j hj => ?_⟩, e4⟩
  have : j = 0 := by simpa using hj
  subst this
  exact ⟨e3, e2⟩
theorem run_storeCells_u (P : Program) (g o : Nat) (t : TypeId) (fz : Nat × Nat) : ∀ (vs : List Value) (i : Nat) (cur : Array Value) (w : World), w.heap[g]? = some (.cells cur t fz) → (∀ j, j < vs.length → unfz fz (o + i + j)) → o + i + vs.length ≤ cur.size → (∀ v ∈ vs, v.oneCell' = true) →
    (storeCells ⟨g, o, none⟩ vs i).run P w = .ok () (w.setRow g (cur.toList.take (o + i) ++ vs ++ cur.toList.drop (o + i + vs.length)).toArray)
  | [], i, cur, w, hg, _, _, _ => by
    simp only [storeCells, List.append_nil, List.length_nil, Nat.add_zero, List.take_append_drop, Array.toArray_toList]
    rw [setRow_self w g cur t fz hg]
    rfl
  | v :: rest, i, cur, w, hg, hfz, hl, h1 => by
    have hi : o + i < cur.size := by simp at hl; omega
    have hadd : (⟨g, o, none⟩ : Addr).add i = ⟨g, o + i, none⟩ := by unfold Addr.add; split <;> simp_all
    have hcell : w.cell? ⟨g, o + i, none⟩ = some cur[o + i] := by simp [World.cell?, hg, hi]
    have hfro : w.frozen? ⟨g, o + i, none⟩ = false := by
      have h0 := hfz 0 (by simp)
      obtain ⟨lo, hi'⟩ := fz
      unfold unfz at h0
      simp only [World.frozen?, hg, Bool.and_eq_false_iff, decide_eq_false_iff_not]
      simp only [Nat.add_zero] at h0
      omega
    have hst : (store ((⟨g, o, none⟩ : Addr).add i) v).run P w = .ok () (w.setRow g (cur.setIfInBounds (o + i) v)) := by
      rw [hadd, run_store P w _ v _ (h1 v (by simp)), hcell]
      simp [hfro, setCell_eq_setRow w g (o + i) cur t fz v hg]
    have ih := run_storeCells_u P g o t fz rest (i + 1) (cur.setIfInBounds (o + i) v) (w.setRow g (cur.setIfInBounds (o + i) v)) (setRow_heap w g cur _ t _ hg) (fun j hj => by have := hfz (j + 1) (by simp; omega); rwa [show o + (i + 1) + j = o + i + (j + 1) by omega]) (by simp at hl ⊢; omega) (fun x hx => h1 x (by simp [hx]))
    simp only [storeCells, Sem.run_bind, hst, Result.andThen_ok, ih, setRow_setRow]
    congr 3
    have e := list_seg_step cur.toList (o + i) v rest (by simp at hl ⊢; omega)
    simpa [Array.toList_setIfInBounds, Nat.add_assoc] using e
theorem updRow {W : World} {H : Hp} {b e : Nat} {fz : Nat × Nat} {C C' : Array Value} (hH : H.le (hpOf W)) (hb : H b = some (.cells C e fz)) : Upd (some b) W (W.setRow b C') H (addH H b (.cells C' e fz)) := by
  have h1 := hH b _ hb
  have hold : ∀ k, k ≠ b → (W.setRow b C').heap[k]? = W.heap[k]? := fun k hk => setRow_other W b k _ hk
  refine ⟨rfl, rfl, rfl, by simp, fun k _ hk => hold k (fun h => hk (by rw [h])), fun k o hk => ?_, fun k _ hk => ?_, fun k o hk => ?_⟩
  · unfold addH at hk
    split at hk
    · rename_i h
      subst h
      simp only [Option.some.injEq] at hk
      rw [← hk]
      exact setRow_heap W k C C' e _ h1
    · rename_i h
      show (W.setRow b C').heap[k]? = some o
      rw [hold k h]
      exact hH k o hk
  · unfold addH
    rw [if_neg (fun h => hk (by rw [h]))]
  · unfold addH at hk
    split at hk
    · rename_i h
      subst h
      exact .inl ⟨_, hb⟩
    · exact .inl ⟨o, hk⟩
/-- a row is spoilt -/
theorem ek_spoil {P : Program} {t : Nat} {ti : TypeInfo} (hti : P.info? t = some ti) {D K : Hp} {W : World} (hK : K.le (hpOf W)) (hS : Spl D K) {p : Option Loc} {off : Int} {cs vs : List Value} {v : Value} (hr : RowAt D p off cs) (hl : vs.length = cs.length) (hn : 0 < vs.length) (hv : v.cells = vs.toArray) (hs : ti.size = vs.length) (h1 : ∀ u ∈ vs, u.oneCell' = true)
    (hc : ∀ (j : Nat) x u, cs[j]? = some x → vs[j]? = some u → SpC x u) :
    ∃ W' K' b, (EK.sem (.storeO t) [.pointer (ptrAt p off), v]).run P W = .ok .skip W' ∧ (∃ o, D b = some o) ∧ Upd (some b) W W' K K' ∧ (∃ o, K b = some o) ∧ Spl D K' ∧ ∀ b o, K' b = some o → ∃ o', K b = some o' := by
  obtain ⟨b, o, rfl, C, T, fz, d1, d2⟩ := hr
  obtain ⟨C', k1, k2, k3⟩ := hS b C T fz d1
  have hin : ∀ j, j < cs.length → o + off.toNat + j < C.size := fun j hj => by
    have := (d2 j hj).1
    rw [List.getElem?_eq_getElem hj] at this
    exact (Array.getElem?_eq_some_iff.1 this).1
  have hsz : o + off.toNat + vs.length ≤ C'.size := by
    have := hin (cs.length - 1) (by omega)
    omega
  have hst := run_storeCells_u P b (o + off.toNat) T fz vs 0 C' W (hK b _ k1) (fun j hj => by rw [Nat.add_zero]; exact (d2 j (by omega)).2) (by omega) h1
  simp only [Nat.add_zero] at hst
  refine ⟨_, _, b, ?_, ⟨_, d1⟩, updRow (C' := (C'.toList.take (o + off.toNat) ++ vs ++ C'.toList.drop (o + off.toNat + vs.length)).toArray) hK k1, ⟨_, k1⟩, fun b' B T' fz' hb' => ?_, fun b' o' h => ?_⟩
  · simp only [EK.sem, List.getD_cons_zero, List.getD_cons_succ, Instr.storeAt, ptrAt, Option.map_some, addr_add, Instr.sureAddr, Sem.run_bind, Sem.run_pure, Result.andThen_ok, storeVar, run_sizeOf hti hs, hv]
    rw [if_neg (by simp)]
    rw [hst]
    simp only [Result.andThen_ok]
  · by_cases hbb : b' = b
    · subst hbb
      rw [d1] at hb'
      simp only [Option.some.injEq, Obj.cells.injEq] at hb'
      obtain ⟨rfl, rfl, rfl⟩ := hb'
      refine ⟨_, addH_at .., ?_, fun i x hx => ?_⟩
      · simp only [List.size_toArray, List.length_append, List.length_take, List.length_drop, Array.length_toList]
        omega
      · obtain ⟨u, hu1, hu2⟩ := k3 i x hx
        have hiC : i < C'.size := (Array.getElem?_eq_some_iff.1 hu1).1
        rw [List.getElem?_toArray]
        have hct : C'.toList.length = C'.size := Array.length_toList ..
        rcases Nat.lt_or_ge i (o + off.toNat) with h | h
        · refine ⟨u, ?_, hu2⟩
          rw [List.append_assoc, List.getElem?_append_left (by simp; omega), List.getElem?_take_of_lt h, Array.getElem?_toList]
          exact hu1
        · rcases Nat.lt_or_ge i (o + off.toNat + vs.length) with h' | h'
          · obtain ⟨w, hw⟩ : ∃ w, vs[i - (o + off.toNat)]? = some w := ⟨_, List.getElem?_eq_getElem (by omega)⟩
            have hx2 := (d2 (i - (o + off.toNat)) (by omega)).1
            rw [show o + off.toNat + (i - (o + off.toNat)) = i by omega, hx] at hx2
            refine ⟨w, ?_, hc _ x w hx2.symm hw⟩
            rw [List.append_assoc, List.getElem?_append_right (by simp; omega), List.length_take, Nat.min_eq_left (by omega), List.getElem?_append_left (by omega)]
            exact hw
          · refine ⟨u, ?_, hu2⟩
            rw [List.getElem?_append_right (by simp; omega), List.length_append, List.length_take, Nat.min_eq_left (by omega), List.getElem?_drop, Array.getElem?_toList]
            rw [show o + off.toNat + vs.length + (i - (o + off.toNat + vs.length)) = i by omega]
            exact hu1
    · obtain ⟨B', h3, h4⟩ := hS b' B T' fz' hb'
      refine ⟨B', ?_, h4⟩
      unfold addH
      rw [if_neg hbb]
      exact h3
  · unfold addH at h
    split at h
    · rename_i he
      exact ⟨_, he ▸ k1⟩
    · exact ⟨o', h⟩
theorem All2.left {α β : Type} {R : α → β → Prop} : ∀ {l : List α} {m : List β}, All2 R l m → ∀ {i : Nat} {a : α}, l[i]? = some a → ∃ b, R a b
  | _, _, .nil, i, a, h => by simp at h
  | _, _, .cons x y l m hx t, 0, a, h => by
    simp only [List.getElem?_cons_zero, Option.some.injEq] at h
    subst h
    exact ⟨y, hx⟩
  | _, _, .cons x y l m hx t, i + 1, a, h => t.left (by simpa using h)
/-- such a call: it writes into D alone, kind by kind -/
def Gs (P : Program) (f : Nat) (args : Array Value) (H D : Hp) : Prop := ∀ W, H.le (hpOf W) → Calls P f args W fun z W' => z = .returned (.tuple #[]) ∧ ∃ H', Mod (fun b => (∃ o, D b = some o) ∧ ∃ o, H b = some o) W W' ∧ H'.le (hpOf W') ∧ (∀ b o, H' b = some o → ∃ o', H b = some o') ∧ Spl D H' ∧ ∀ b o, D b = none → H b = some o → H' b = some o
structure SpI (H D K : Hp) : Prop where
  spl : Spl D K
  dom : ∀ b o, K b = some o → ∃ o', H b = some o'
  keep : ∀ b o, D b = none → H b = some o → K b = some o
theorem SpI.next {H D K K' : Hp} {b : Nat} {W W' : World} (h : SpI H D K) (hK : K.le (hpOf W)) (hu : Upd (some b) W W' K K') (hb : ∃ o, D b = some o) (hd : ∀ b o, K' b = some o → ∃ o', K b = some o') (hS : Spl D K') : SpI H D K' :=
  ⟨hS, fun b' o ho => (hd b' o ho).elim fun o' h' => h.dom b' o' h', fun b' o h0 hH => by
    have h1 := h.keep b' o h0 hH
    rw [hu.same b' (heap_lt (hK b' o h1)) (fun he => by
      simp only [Option.some.injEq] at he
      subst he
      obtain ⟨o2, h2⟩ := hb
      rw [h0] at h2; cases h2)]
    exact h1⟩
theorem spl_slice {D K : Hp} {p q : Option Loc} {off : Int} {m d : Nat} (h : Spl D K) (hr : RowAt D p off [vsl q m d]) : ∃ q' m' d', RowAt K p off [vsl q' m' d'] ∧ ((q' = q ∧ m' = m ∧ d' = d) ∨ m' = 0) := by
  obtain ⟨u, h1, h2⟩ := h.at hr
  rcases h2 with rfl | ⟨k, x, y, h3, _⟩ | ⟨_, rfl⟩
  · exact ⟨q, m, d, h1, .inl ⟨rfl, rfl, rfl⟩⟩
  · simp [vsl] at h3
  · exact ⟨none, 0, 0, h1, .inr rfl⟩
theorem infoRep2 : infoIs Tryz.prog 77 2 16 = true := by kernel_rfl
theorem infoSes4 : infoIs Tryz.prog 75 4 48 = true := by kernel_rfl
theorem c_spoil {H D : Hp} {p : Option Loc} {n c : Nat} {s : Sta} (hT : Tab D p n c s.table) (hS : Spl D H) : Gs Tryz.prog 12 #[s.val (vsl p n c)] H D := fun W hH => by
  obtain ⟨t1, t2, rows, t3, t4⟩ := hT
  have hnr := t3.len
  have hmax : n ≤ 9223372036854775807 := by simp only [maxLen] at t2; omega
  refine x_spoil _ _ _ _ _ _ p n c (fun b => (∃ o, D b = some o) ∧ ∃ o, H b = some o) H W _ hH fun b0 => ?_
  refine ⟨fun v K => match v with | [.n j] => j ≤ n ∧ SpI H D K | _ => False, fun v => match v with | [.n j] => n - j | _ => 0, ⟨by omega, hS, fun b o h => ⟨o, h⟩, fun b o _ h => h⟩, fun K j hI => ?_⟩
  obtain ⟨hj, hI⟩ := hI
  refine ⟨by omega, fun _ => ⟨fun hlt => ?_, fun hge => ?_⟩⟩
  · obtain ⟨row, hr1, _, hat⟩ := t3.at (k := j) (by omega) (off := 0 + (j : Int) * 4) (by omega)
    obtain ⟨x, hsr⟩ := t4.left hr1
    obtain ⟨q, m, d, rfl, k1, k2, k3⟩ := hsr
    have hm63 : m ≤ 9223372036854775807 := by simp only [maxLen] at k2; omega
    have hsl := hat.sub (by omega) (j := 3) rfl (off' := 0 + (j : Int) * 4 + 3) (by omega)
    refine ⟨fun v K => match v with | [.n i] => i ≤ m ∧ SpI H D K | _ => False, fun v => match v with | [.n i] => m - i | _ => 0, ⟨by omega, hI⟩, fun K2 i hI2 => ?_⟩
    obtain ⟨him, hI2⟩ := hI2
    obtain ⟨q', m', d', hsl2, hor⟩ := spl_slice hI2.spl hsl
    refine ⟨⟨by omega, hlt⟩, fun _ => ⟨hat.isSome, fun _ => ⟨by omega, fun _ => ⟨q', m', d', hsl2, by omega, fun _ => ⟨fun hlt2 => ?_, fun hge2 => ?_⟩⟩⟩⟩⟩
    · obtain ⟨rfl, rfl, rfl⟩ : q' = q ∧ m' = m ∧ d' = d := hor.resolve_right (by omega)
      obtain ⟨r, hr2, _, hat2⟩ := k3.at (k := i) (by omega) (off := 0 + (i : Int) * 2) (by omega)
      rw [List.getElem?_map, Option.map_eq_some_iff] at hr2
      obtain ⟨y, _, rfl⟩ := hr2
      refine ⟨q', m', d', hsl2, ⟨by omega, hlt2⟩, fun _ => ⟨hat2.isSome, fun _ W1 n1 _ => ?_⟩⟩
      obtain ⟨ti, z, i1, i2, i3, _⟩ := info_of infoRep2
      obtain ⟨W2, K3, b, e1, e2, e3, e4, e5, hd⟩ := ek_spoil (vs := [vi (-9), vi 0]) (v := .agg #[vi (-9), vi 0]) i1 n1.sub hI2.spl hat2 rfl (by simp) rfl (by rw [i3]; rfl) (fun u hu => by simp only [List.mem_cons, List.not_mem_nil, or_false] at hu; rcases hu with rfl | rfl <;> rfl) (fun k x u hx hu => by
        match k with
        | 0 => simp only [Rep.row, List.getElem?_cons_zero, Option.some.injEq] at hx hu; subst hx hu; exact .inr (.inl ⟨_, _, _, rfl, rfl⟩)
        | 1 => simp only [Rep.row, List.getElem?_cons_succ, List.getElem?_cons_zero, Option.some.injEq] at hx hu; subst hx hu; exact .inr (.inl ⟨_, _, _, rfl, rfl⟩)
        | k + 2 => simp at hu)
      refine ⟨W2, e1, K3, e3.turned (fun b' hb' => by simp only [Option.some.injEq] at hb'; subst hb'; exact ⟨e4, .inr ⟨e2, e4.elim fun o h => hI2.dom _ o h⟩⟩), in64 (by omega), fun _ => ⟨by omega, fun _ => ?_⟩⟩
      rw [show ((i : Int) + 1).toNat = i + 1 by omega]
      exact ⟨⟨by omega, hI2.next n1.sub e3 e2 hd e5⟩, by simp only; omega⟩
    · intro W1 n1 _
      obtain ⟨ti, z, i1, i2, i3, _⟩ := info_of infoSes4
      obtain ⟨W2, K3, b, e1, e2, e3, e4, e5, hd⟩ := ek_spoil (vs := [vi (-9), vi 0, vi 0, .slice none 0 0]) (v := .agg #[vi (-9), vi 0, vi 0, .slice none 0 0]) i1 n1.sub hI2.spl hat rfl (by simp) rfl (by rw [i3]; rfl) (fun u hu => by simp only [List.mem_cons, List.not_mem_nil, or_false] at hu; rcases hu with rfl | rfl | rfl | rfl <;> rfl) (fun k x u hx hu => by
        match k with
        | 0 => simp only [List.getElem?_cons_zero, Option.some.injEq] at hx hu; subst hx hu; exact .inr (.inl ⟨_, _, _, rfl, rfl⟩)
        | 1 => simp only [List.getElem?_cons_succ, List.getElem?_cons_zero, Option.some.injEq] at hx hu; subst hx hu; exact .inr (.inl ⟨_, _, _, rfl, rfl⟩)
        | 2 => simp only [List.getElem?_cons_succ, List.getElem?_cons_zero, Option.some.injEq] at hx hu; subst hx hu; exact .inr (.inl ⟨_, _, _, rfl, rfl⟩)
        | 3 => simp only [List.getElem?_cons_succ, List.getElem?_cons_zero, Option.some.injEq] at hx hu; subst hx hu; exact .inr (.inr ⟨⟨_, _, _, rfl⟩, rfl⟩)
        | k + 4 => simp at hu)
      refine ⟨W2, e1, K3, e3.turned (fun b' hb' => by simp only [Option.some.injEq] at hb'; subst hb'; exact ⟨e4, .inr ⟨e2, e4.elim fun o h => hI2.dom _ o h⟩⟩), in64 (by omega), fun _ => ⟨by omega, fun _ => ?_⟩⟩
      rw [show ((j : Int) + 1).toNat = j + 1 by omega]
      exact ⟨⟨by omega, hI2.next n1.sub e3 e2 hd e5⟩, by simp only; omega⟩
  · exact fun W2 n2 _ => ⟨rfl, K, n2.mod, n2.sub, hI.dom, hI.spl, hI.keep⟩
end Go.Proofs.YtfpmcmhihhnfgaaGreat
