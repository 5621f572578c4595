/- Symbolic runs of functions: what each leaves to prove is enough for its call. Printed by a program of ours. No conditions. What must be in any case, of groups. No conditions. -/
import Derived.Test.YtfpmcmhihhnfgaaGreatKE3
import Derived.Test.YtfpmcmhihhnfgaaGreatProg
import Derived.Test.YtfpmcmhihhnfgaaGreatKG1
import Derived.Test.YtfpmcmhihhnfgaaGreatKL1
set_option linter.unusedVariables false
set_option linter.unusedSimpArgs false
namespace Go.Proofs.YtfpmcmhihhnfgaaGreat
open Go.RowKit
set_option maxRecDepth 100000
set_option maxHeartbeats 4000000
def v_groupBegun : VC :=
(.call 19 [] [] [(0, .i), (1, .i), (2, .i), (3, .i), (4, .i), (5, .i), (6, .p), (7, .n), (8, .n), (9, .p), (10, .n), (11, .n), (12, .i), (13, .i), (14, .i), (15, .i), (16, .i), (17, .i), (18, .p), (19, .n), (20, .n), (21, .i), (22, .i), (23, .i), (24, .i), (25, .i), (26, .i), (27, .p), (28, .n), (29, .n), (30, .i), (31, .i), (32, .i), (33, .i), (34, .i), (35, .i), (36, .p), (37, .n), (38, .n)] (.agg [vI 0, vI 1, vI 2, vI 3, vI 4, vI 5, vS 6, vS 9, vI 12, vI 13, vI 14, vI 15, vI 16, vI 17, vS 18, vI 21, vI 22, vI 23, vI 24, vI 25, vI 26, vS 27, vI 30, vI 31, vI 32, vI 33, vI 34, vI 35, vS 36]) .fresh
(.call 20 [.int .i64 (.k 1), .int .i64 (.k 1)] [] [(39, .i), (40, .i), (41, .i), (42, .i), (43, .i), (44, .i), (45, .i), (46, .i), (47, .i)] (.agg [vI 39, vI 40, vI 41, vI 42, vI 43, vI 44, vI 45, vI 46, vI 47]) .same
(.call 8 [.agg [vI 0, vI 1, vI 2, vI 3, vI 4, vI 5, vS 6, vS 9, vI 12, vI 13, vI 14, vI 15, vI 16, vI 17, vS 18, vI 21, vI 22, vI 23, vI 24, vI 25, vI 26, vS 27, vI 30, vI 31, vI 32, vI 33, vI 34, vI 35, vS 36], .agg [vI 39, vI 40, vI 41, vI 42, vI 43, vI 44, vI 45, vI 46, vI 47]] [] [(48, .i), (49, .i), (50, .i), (51, .i), (52, .i), (53, .i), (54, .p), (55, .n), (56, .n), (57, .p), (58, .n), (59, .n), (60, .i), (61, .i), (62, .i), (63, .i), (64, .i), (65, .i), (66, .p), (67, .n), (68, .n), (69, .i), (70, .i), (71, .i), (72, .i), (73, .i), (74, .i), (75, .p), (76, .n), (77, .n), (78, .i), (79, .i), (80, .i), (81, .i), (82, .i), (83, .i), (84, .p), (85, .n), (86, .n), (87, .i), (88, .i)] (.tup [.agg [vI 48, vI 49, vI 50, vI 51, vI 52, vI 53, vS 54, vS 57, vI 60, vI 61, vI 62, vI 63, vI 64, vI 65, vS 66, vI 69, vI 70, vI 71, vI 72, vI 73, vI 74, vS 75, vI 78, vI 79, vI 80, vI 81, vI 82, vI 83, vS 84], vI 87, vI 88]) .fresh
(.all 0
(.call 22 [.int .i64 (.k 5)] [] [(89, .i), (90, .i), (91, .i), (92, .i)] (.agg [vI 89, vI 90, vI 91, vI 92]) .same
(.call 21 [.int .i64 (.k 2), .int .i64 (.k 1), .int .i64 (.k 1), .int .i64 (.k 0), .agg [vI 89, vI 90, vI 91, vI 92]] [] [(93, .i), (94, .i), (95, .i), (96, .i), (97, .i), (98, .i), (99, .i), (100, .i), (101, .i)] (.agg [vI 93, vI 94, vI 95, vI 96, vI 97, vI 98, vI 99, vI 100, vI 101]) .same
(.call 8 [.agg [vI 48, vI 49, vI 50, vI 51, vI 52, vI 53, vS 54, vS 57, vI 60, vI 61, vI 62, vI 63, vI 64, vI 65, vS 66, vI 69, vI 70, vI 71, vI 72, vI 73, vI 74, vS 75, vI 78, vI 79, vI 80, vI 81, vI 82, vI 83, vS 84], .agg [vI 93, vI 94, vI 95, vI 96, vI 97, vI 98, vI 99, vI 100, vI 101]] [] [(102, .i), (103, .i), (104, .i), (105, .i), (106, .i), (107, .i), (108, .p), (109, .n), (110, .n), (111, .p), (112, .n), (113, .n), (114, .i), (115, .i), (116, .i), (117, .i), (118, .i), (119, .i), (120, .p), (121, .n), (122, .n), (123, .i), (124, .i), (125, .i), (126, .i), (127, .i), (128, .i), (129, .p), (130, .n), (131, .n), (132, .i), (133, .i), (134, .i), (135, .i), (136, .i), (137, .i), (138, .p), (139, .n), (140, .n), (141, .i), (142, .i)] (.tup [.agg [vI 102, vI 103, vI 104, vI 105, vI 106, vI 107, vS 108, vS 111, vI 114, vI 115, vI 116, vI 117, vI 118, vI 119, vS 120, vI 123, vI 124, vI 125, vI 126, vI 127, vI 128, vS 129, vI 132, vI 133, vI 134, vI 135, vI 136, vI 137, vS 138], vI 141, vI 142]) .fresh
(.call 9 [.agg [vI 102, vI 103, vI 104, vI 105, vI 106, vI 107, vS 108, vS 111, vI 114, vI 115, vI 116, vI 117, vI 118, vI 119, vS 120, vI 123, vI 124, vI 125, vI 126, vI 127, vI 128, vS 129, vI 132, vI 133, vI 134, vI 135, vI 136, vI 137, vS 138], .int .i64 (.k 1), .int .i64 (.k 9)] [] [(143, .i), (144, .i), (145, .i), (146, .i), (147, .i), (148, .i), (149, .p), (150, .n), (151, .n), (152, .p), (153, .n), (154, .n), (155, .i), (156, .i), (157, .i), (158, .i), (159, .i), (160, .i), (161, .p), (162, .n), (163, .n), (164, .i), (165, .i), (166, .i), (167, .i), (168, .i), (169, .i), (170, .p), (171, .n), (172, .n), (173, .i), (174, .i), (175, .i), (176, .i), (177, .i), (178, .i), (179, .p), (180, .n), (181, .n), (182, .i), (183, .i)] (.tup [.agg [vI 143, vI 144, vI 145, vI 146, vI 147, vI 148, vS 149, vS 152, vI 155, vI 156, vI 157, vI 158, vI 159, vI 160, vS 161, vI 164, vI 165, vI 166, vI 167, vI 168, vI 169, vS 170, vI 173, vI 174, vI 175, vI 176, vI 177, vI 178, vS 179], vI 182, vI 183]) .fresh
(.all 1
(.call 10 [.agg [vI 143, vI 144, vI 145, vI 146, vI 147, vI 148, vS 149, vS 152, vI 155, vI 156, vI 157, vI 158, vI 159, vI 160, vS 161, vI 164, vI 165, vI 166, vI 167, vI 168, vI 169, vS 170, vI 173, vI 174, vI 175, vI 176, vI 177, vI 178, vS 179], .int .i64 (.k 2)] [] [(184, .i), (185, .i), (186, .i), (187, .i), (188, .i), (189, .i), (190, .p), (191, .n), (192, .n), (193, .p), (194, .n), (195, .n), (196, .i), (197, .i), (198, .i), (199, .i), (200, .i), (201, .i), (202, .p), (203, .n), (204, .n), (205, .i), (206, .i), (207, .i), (208, .i), (209, .i), (210, .i), (211, .p), (212, .n), (213, .n), (214, .i), (215, .i), (216, .i), (217, .i), (218, .i), (219, .i), (220, .p), (221, .n), (222, .n), (223, .i)] (.tup [.agg [vI 184, vI 185, vI 186, vI 187, vI 188, vI 189, vS 190, vS 193, vI 196, vI 197, vI 198, vI 199, vI 200, vI 201, vS 202, vI 205, vI 206, vI 207, vI 208, vI 209, vI 210, vS 211, vI 214, vI 215, vI 216, vI 217, vI 218, vI 219, vS 220], vI 223]) .fresh
(.all 2
(.call 9 [.agg [vI 184, vI 185, vI 186, vI 187, vI 188, vI 189, vS 190, vS 193, vI 196, vI 197, vI 198, vI 199, vI 200, vI 201, vS 202, vI 205, vI 206, vI 207, vI 208, vI 209, vI 210, vS 211, vI 214, vI 215, vI 216, vI 217, vI 218, vI 219, vS 220], .int .i64 (.k 0), .int .i64 (.k 0)] [] [(224, .i), (225, .i), (226, .i), (227, .i), (228, .i), (229, .i), (230, .p), (231, .n), (232, .n), (233, .p), (234, .n), (235, .n), (236, .i), (237, .i), (238, .i), (239, .i), (240, .i), (241, .i), (242, .p), (243, .n), (244, .n), (245, .i), (246, .i), (247, .i), (248, .i), (249, .i), (250, .i), (251, .p), (252, .n), (253, .n), (254, .i), (255, .i), (256, .i), (257, .i), (258, .i), (259, .i), (260, .p), (261, .n), (262, .n), (263, .i), (264, .i)] (.tup [.agg [vI 224, vI 225, vI 226, vI 227, vI 228, vI 229, vS 230, vS 233, vI 236, vI 237, vI 238, vI 239, vI 240, vI 241, vS 242, vI 245, vI 246, vI 247, vI 248, vI 249, vI 250, vS 251, vI 254, vI 255, vI 256, vI 257, vI 258, vI 259, vS 260], vI 263, vI 264]) .fresh
(.all 3
(.call 9 [.agg [vI 184, vI 185, vI 186, vI 187, vI 188, vI 189, vS 190, vS 193, vI 196, vI 197, vI 198, vI 199, vI 200, vI 201, vS 202, vI 205, vI 206, vI 207, vI 208, vI 209, vI 210, vS 211, vI 214, vI 215, vI 216, vI 217, vI 218, vI 219, vS 220], .int .i64 (.k 3), .int .i64 (.k 0)] [] [(265, .i), (266, .i), (267, .i), (268, .i), (269, .i), (270, .i), (271, .p), (272, .n), (273, .n), (274, .p), (275, .n), (276, .n), (277, .i), (278, .i), (279, .i), (280, .i), (281, .i), (282, .i), (283, .p), (284, .n), (285, .n), (286, .i), (287, .i), (288, .i), (289, .i), (290, .i), (291, .i), (292, .p), (293, .n), (294, .n), (295, .i), (296, .i), (297, .i), (298, .i), (299, .i), (300, .i), (301, .p), (302, .n), (303, .n), (304, .i), (305, .i)] (.tup [.agg [vI 265, vI 266, vI 267, vI 268, vI 269, vI 270, vS 271, vS 274, vI 277, vI 278, vI 279, vI 280, vI 281, vI 282, vS 283, vI 286, vI 287, vI 288, vI 289, vI 290, vI 291, vS 292, vI 295, vI 296, vI 297, vI 298, vI 299, vI 300, vS 301], vI 304, vI 305]) .fresh
(.all 4
(.all 5
(.ite (.eq (.v 88) (.k 0))
(.ite (.eq (.v 142) (.k 0))
(.ite (.eq (.v 183) (.k 0))
(.ite (.eq (.v 223) (.k 0))
(.ite (.eq (.v 264) (.k 0))
(.ite (.eq (.v 305) (.k 3))
(.call 19 [] [] [(306, .i), (307, .i), (308, .i), (309, .i), (310, .i), (311, .i), (312, .p), (313, .n), (314, .n), (315, .p), (316, .n), (317, .n), (318, .i), (319, .i), (320, .i), (321, .i), (322, .i), (323, .i), (324, .p), (325, .n), (326, .n), (327, .i), (328, .i), (329, .i), (330, .i), (331, .i), (332, .i), (333, .p), (334, .n), (335, .n), (336, .i), (337, .i), (338, .i), (339, .i), (340, .i), (341, .i), (342, .p), (343, .n), (344, .n)] (.agg [vI 306, vI 307, vI 308, vI 309, vI 310, vI 311, vS 312, vS 315, vI 318, vI 319, vI 320, vI 321, vI 322, vI 323, vS 324, vI 327, vI 328, vI 329, vI 330, vI 331, vI 332, vS 333, vI 336, vI 337, vI 338, vI 339, vI 340, vI 341, vS 342]) .fresh
(.call 23 [.agg [vI 306, vI 307, vI 308, vI 309, vI 310, vI 311, vS 312, vS 315, vI 318, vI 319, vI 320, vI 321, vI 322, vI 323, vS 324, vI 327, vI 328, vI 329, vI 330, vI 331, vI 332, vS 333, vI 336, vI 337, vI 338, vI 339, vI 340, vI 341, vS 342]] [] [(345, .i)] (vI 345) .same
(.ite (.eq (.v 345) (.k 0))
(.call 23 [.agg [vI 143, vI 144, vI 145, vI 146, vI 147, vI 148, vS 149, vS 152, vI 155, vI 156, vI 157, vI 158, vI 159, vI 160, vS 161, vI 164, vI 165, .int .i64 (.k 4), vI 167, vI 168, vI 169, vS 170, vI 173, vI 174, vI 175, vI 176, vI 177, vI 178, vS 179]] [] [(346, .i)] (vI 346) .same
(.ite (.eq (.v 346) (.k 1))
(.ite (.eq (.v 87) (.k 0))
(.ite (.eq (.v 141) (.k 5))
(.ite (.eq (.v 182) (.k 2))
(.ite (.eq (.v 166) (.k 5))
(.chk (.le (.k 0) (.v 194))
(.ite (.eq (.v 194) (.k 0))
(.ite (.eq (.v 263) (.k 0))
(.ret (.bool (.eq (.v 238) (.k 5))) [])
(.ret (.bool (.k false)) []))
(.ret (.bool (.k false)) [])))
(.ret (.bool (.k false)) []))
(.ret (.bool (.k false)) []))
(.ret (.bool (.k false)) []))
(.ret (.bool (.k false)) []))
(.ret (.bool (.k false)) [])))
(.ret (.bool (.k false)) []))))
(.ret (.bool (.k false)) []))
(.ret (.bool (.k false)) []))
(.ret (.bool (.k false)) []))
(.ret (.bool (.k false)) []))
(.ret (.bool (.k false)) []))
(.ret (.bool (.k false)) []))))))))))))))))))
theorem x_groupBegun (M : Nat → Prop) (H0 : Hp) (W0 : World) (R : Ending → World → Prop) (hH : H0.le (hpOf W0)) (h :
 (Cl Tryz.prog W0 M H0 nK 19 #[] fun z W1 W2 => ∃ (x0 x1 x2 x3 x4 x5 : Int) (x6 : Option Loc) (x7 x8 : Nat) (x9 : Option Loc) (x10 x11 : Nat) (x12 x13 x14 x15 x16 x17 : Int) (x18 : Option Loc) (x19 x20 : Nat) (x21 x22 x23 x24 x25 x26 : Int) (x27 : Option Loc) (x28 x29 : Nat) (x30 x31 x32 x33 x34 x35 : Int) (x36 : Option Loc) (x37 x38 : Nat), z = .returned (Value.agg #[vi x0, vi x1, vi x2, vi x3, vi x4, vi x5, vsl x6 x7 x8, vsl x9 x10 x11, vi x12, vi x13, vi x14, vi x15, vi x16, vi x17, vsl x18 x19 x20, vi x21, vi x22, vi x23, vi x24, vi x25, vi x26, vsl x27 x28 x29, vi x30, vi x31, vi x32, vi x33, vi x34, vi x35, vsl x36 x37 x38]) ∧ Fr W1 W2 H0 fun H1 =>
 (Cl Tryz.prog W0 M H1 nK 20 #[vi 1, vi 1] fun z W3 W4 => ∃ (x39 x40 x41 x42 x43 x44 x45 x46 x47 : Int), z = .returned (Value.agg #[vi x39, vi x40, vi x41, vi x42, vi x43, vi x44, vi x45, vi x46, vi x47]) ∧ Ext W3 W4 ∧
 (Cl Tryz.prog W0 M H1 nK 8 #[Value.agg #[vi x0, vi x1, vi x2, vi x3, vi x4, vi x5, vsl x6 x7 x8, vsl x9 x10 x11, vi x12, vi x13, vi x14, vi x15, vi x16, vi x17, vsl x18 x19 x20, vi x21, vi x22, vi x23, vi x24, vi x25, vi x26, vsl x27 x28 x29, vi x30, vi x31, vi x32, vi x33, vi x34, vi x35, vsl x36 x37 x38], Value.agg #[vi x39, vi x40, vi x41, vi x42, vi x43, vi x44, vi x45, vi x46, vi x47]] fun z W5 W6 => ∃ (x48 x49 x50 x51 x52 x53 : Int) (x54 : Option Loc) (x55 x56 : Nat) (x57 : Option Loc) (x58 x59 : Nat) (x60 x61 x62 x63 x64 x65 : Int) (x66 : Option Loc) (x67 x68 : Nat) (x69 x70 x71 x72 x73 x74 : Int) (x75 : Option Loc) (x76 x77 : Nat) (x78 x79 x80 x81 x82 x83 : Int) (x84 : Option Loc) (x85 x86 : Nat) (x87 x88 : Int), z = .returned (Value.tuple #[Value.agg #[vi x48, vi x49, vi x50, vi x51, vi x52, vi x53, vsl x54 x55 x56, vsl x57 x58 x59, vi x60, vi x61, vi x62, vi x63, vi x64, vi x65, vsl x66 x67 x68, vi x69, vi x70, vi x71, vi x72, vi x73, vi x74, vsl x75 x76 x77, vi x78, vi x79, vi x80, vi x81, vi x82, vi x83, vsl x84 x85 x86], vi x87, vi x88]) ∧ Fr W5 W6 H1 fun H2 =>
 (∀ b0 : Nat,
 (Cl Tryz.prog W0 M H2 nK 22 #[vi 5] fun z W7 W8 => ∃ (x89 x90 x91 x92 : Int), z = .returned (Value.agg #[vi x89, vi x90, vi x91, vi x92]) ∧ Ext W7 W8 ∧
 (Cl Tryz.prog W0 M H2 nK 21 #[vi 2, vi 1, vi 1, vi 0, Value.agg #[vi x89, vi x90, vi x91, vi x92]] fun z W9 W10 => ∃ (x93 x94 x95 x96 x97 x98 x99 x100 x101 : Int), z = .returned (Value.agg #[vi x93, vi x94, vi x95, vi x96, vi x97, vi x98, vi x99, vi x100, vi x101]) ∧ Ext W9 W10 ∧
 (Cl Tryz.prog W0 M H2 nK 8 #[Value.agg #[vi x48, vi x49, vi x50, vi x51, vi x52, vi x53, vsl x54 x55 x56, vsl x57 x58 x59, vi x60, vi x61, vi x62, vi x63, vi x64, vi x65, vsl x66 x67 x68, vi x69, vi x70, vi x71, vi x72, vi x73, vi x74, vsl x75 x76 x77, vi x78, vi x79, vi x80, vi x81, vi x82, vi x83, vsl x84 x85 x86], Value.agg #[vi x93, vi x94, vi x95, vi x96, vi x97, vi x98, vi x99, vi x100, vi x101]] fun z W11 W12 => ∃ (x102 x103 x104 x105 x106 x107 : Int) (x108 : Option Loc) (x109 x110 : Nat) (x111 : Option Loc) (x112 x113 : Nat) (x114 x115 x116 x117 x118 x119 : Int) (x120 : Option Loc) (x121 x122 : Nat) (x123 x124 x125 x126 x127 x128 : Int) (x129 : Option Loc) (x130 x131 : Nat) (x132 x133 x134 x135 x136 x137 : Int) (x138 : Option Loc) (x139 x140 : Nat) (x141 x142 : Int), z = .returned (Value.tuple #[Value.agg #[vi x102, vi x103, vi x104, vi x105, vi x106, vi x107, vsl x108 x109 x110, vsl x111 x112 x113, vi x114, vi x115, vi x116, vi x117, vi x118, vi x119, vsl x120 x121 x122, vi x123, vi x124, vi x125, vi x126, vi x127, vi x128, vsl x129 x130 x131, vi x132, vi x133, vi x134, vi x135, vi x136, vi x137, vsl x138 x139 x140], vi x141, vi x142]) ∧ Fr W11 W12 H2 fun H3 =>
 (Cl Tryz.prog W0 M H3 nK 9 #[Value.agg #[vi x102, vi x103, vi x104, vi x105, vi x106, vi x107, vsl x108 x109 x110, vsl x111 x112 x113, vi x114, vi x115, vi x116, vi x117, vi x118, vi x119, vsl x120 x121 x122, vi x123, vi x124, vi x125, vi x126, vi x127, vi x128, vsl x129 x130 x131, vi x132, vi x133, vi x134, vi x135, vi x136, vi x137, vsl x138 x139 x140], vi 1, vi 9] fun z W13 W14 => ∃ (x143 x144 x145 x146 x147 x148 : Int) (x149 : Option Loc) (x150 x151 : Nat) (x152 : Option Loc) (x153 x154 : Nat) (x155 x156 x157 x158 x159 x160 : Int) (x161 : Option Loc) (x162 x163 : Nat) (x164 x165 x166 x167 x168 x169 : Int) (x170 : Option Loc) (x171 x172 : Nat) (x173 x174 x175 x176 x177 x178 : Int) (x179 : Option Loc) (x180 x181 : Nat) (x182 x183 : Int), z = .returned (Value.tuple #[Value.agg #[vi x143, vi x144, vi x145, vi x146, vi x147, vi x148, vsl x149 x150 x151, vsl x152 x153 x154, vi x155, vi x156, vi x157, vi x158, vi x159, vi x160, vsl x161 x162 x163, vi x164, vi x165, vi x166, vi x167, vi x168, vi x169, vsl x170 x171 x172, vi x173, vi x174, vi x175, vi x176, vi x177, vi x178, vsl x179 x180 x181], vi x182, vi x183]) ∧ Fr W13 W14 H3 fun H4 =>
 (∀ b1 : Nat,
 (Cl Tryz.prog W0 M H4 nK 10 #[Value.agg #[vi x143, vi x144, vi x145, vi x146, vi x147, vi x148, vsl x149 x150 x151, vsl x152 x153 x154, vi x155, vi x156, vi x157, vi x158, vi x159, vi x160, vsl x161 x162 x163, vi x164, vi x165, vi x166, vi x167, vi x168, vi x169, vsl x170 x171 x172, vi x173, vi x174, vi x175, vi x176, vi x177, vi x178, vsl x179 x180 x181], vi 2] fun z W15 W16 => ∃ (x184 x185 x186 x187 x188 x189 : Int) (x190 : Option Loc) (x191 x192 : Nat) (x193 : Option Loc) (x194 x195 : Nat) (x196 x197 x198 x199 x200 x201 : Int) (x202 : Option Loc) (x203 x204 : Nat) (x205 x206 x207 x208 x209 x210 : Int) (x211 : Option Loc) (x212 x213 : Nat) (x214 x215 x216 x217 x218 x219 : Int) (x220 : Option Loc) (x221 x222 : Nat) (x223 : Int), z = .returned (Value.tuple #[Value.agg #[vi x184, vi x185, vi x186, vi x187, vi x188, vi x189, vsl x190 x191 x192, vsl x193 x194 x195, vi x196, vi x197, vi x198, vi x199, vi x200, vi x201, vsl x202 x203 x204, vi x205, vi x206, vi x207, vi x208, vi x209, vi x210, vsl x211 x212 x213, vi x214, vi x215, vi x216, vi x217, vi x218, vi x219, vsl x220 x221 x222], vi x223]) ∧ Fr W15 W16 H4 fun H5 =>
 (∀ b2 : Nat,
 (Cl Tryz.prog W0 M H5 nK 9 #[Value.agg #[vi x184, vi x185, vi x186, vi x187, vi x188, vi x189, vsl x190 x191 x192, vsl x193 x194 x195, vi x196, vi x197, vi x198, vi x199, vi x200, vi x201, vsl x202 x203 x204, vi x205, vi x206, vi x207, vi x208, vi x209, vi x210, vsl x211 x212 x213, vi x214, vi x215, vi x216, vi x217, vi x218, vi x219, vsl x220 x221 x222], vi 0, vi 0] fun z W17 W18 => ∃ (x224 x225 x226 x227 x228 x229 : Int) (x230 : Option Loc) (x231 x232 : Nat) (x233 : Option Loc) (x234 x235 : Nat) (x236 x237 x238 x239 x240 x241 : Int) (x242 : Option Loc) (x243 x244 : Nat) (x245 x246 x247 x248 x249 x250 : Int) (x251 : Option Loc) (x252 x253 : Nat) (x254 x255 x256 x257 x258 x259 : Int) (x260 : Option Loc) (x261 x262 : Nat) (x263 x264 : Int), z = .returned (Value.tuple #[Value.agg #[vi x224, vi x225, vi x226, vi x227, vi x228, vi x229, vsl x230 x231 x232, vsl x233 x234 x235, vi x236, vi x237, vi x238, vi x239, vi x240, vi x241, vsl x242 x243 x244, vi x245, vi x246, vi x247, vi x248, vi x249, vi x250, vsl x251 x252 x253, vi x254, vi x255, vi x256, vi x257, vi x258, vi x259, vsl x260 x261 x262], vi x263, vi x264]) ∧ Fr W17 W18 H5 fun H6 =>
 (∀ b3 : Nat,
 (Cl Tryz.prog W0 M H6 nK 9 #[Value.agg #[vi x184, vi x185, vi x186, vi x187, vi x188, vi x189, vsl x190 x191 x192, vsl x193 x194 x195, vi x196, vi x197, vi x198, vi x199, vi x200, vi x201, vsl x202 x203 x204, vi x205, vi x206, vi x207, vi x208, vi x209, vi x210, vsl x211 x212 x213, vi x214, vi x215, vi x216, vi x217, vi x218, vi x219, vsl x220 x221 x222], vi 3, vi 0] fun z W19 W20 => ∃ (x265 x266 x267 x268 x269 x270 : Int) (x271 : Option Loc) (x272 x273 : Nat) (x274 : Option Loc) (x275 x276 : Nat) (x277 x278 x279 x280 x281 x282 : Int) (x283 : Option Loc) (x284 x285 : Nat) (x286 x287 x288 x289 x290 x291 : Int) (x292 : Option Loc) (x293 x294 : Nat) (x295 x296 x297 x298 x299 x300 : Int) (x301 : Option Loc) (x302 x303 : Nat) (x304 x305 : Int), z = .returned (Value.tuple #[Value.agg #[vi x265, vi x266, vi x267, vi x268, vi x269, vi x270, vsl x271 x272 x273, vsl x274 x275 x276, vi x277, vi x278, vi x279, vi x280, vi x281, vi x282, vsl x283 x284 x285, vi x286, vi x287, vi x288, vi x289, vi x290, vi x291, vsl x292 x293 x294, vi x295, vi x296, vi x297, vi x298, vi x299, vi x300, vsl x301 x302 x303], vi x304, vi x305]) ∧ Fr W19 W20 H6 fun H7 =>
 (∀ b4 : Nat,
 (∀ b5 : Nat,
 ((x88 = 0 →
  ((x142 = 0 →
   ((x183 = 0 →
    ((x223 = 0 →
     ((x264 = 0 →
      ((x305 = 3 →
       (Cl Tryz.prog W0 M H7 nK 19 #[] fun z W21 W22 => ∃ (x306 x307 x308 x309 x310 x311 : Int) (x312 : Option Loc) (x313 x314 : Nat) (x315 : Option Loc) (x316 x317 : Nat) (x318 x319 x320 x321 x322 x323 : Int) (x324 : Option Loc) (x325 x326 : Nat) (x327 x328 x329 x330 x331 x332 : Int) (x333 : Option Loc) (x334 x335 : Nat) (x336 x337 x338 x339 x340 x341 : Int) (x342 : Option Loc) (x343 x344 : Nat), z = .returned (Value.agg #[vi x306, vi x307, vi x308, vi x309, vi x310, vi x311, vsl x312 x313 x314, vsl x315 x316 x317, vi x318, vi x319, vi x320, vi x321, vi x322, vi x323, vsl x324 x325 x326, vi x327, vi x328, vi x329, vi x330, vi x331, vi x332, vsl x333 x334 x335, vi x336, vi x337, vi x338, vi x339, vi x340, vi x341, vsl x342 x343 x344]) ∧ Fr W21 W22 H7 fun H8 =>
       (Cl Tryz.prog W0 M H8 nK 23 #[Value.agg #[vi x306, vi x307, vi x308, vi x309, vi x310, vi x311, vsl x312 x313 x314, vsl x315 x316 x317, vi x318, vi x319, vi x320, vi x321, vi x322, vi x323, vsl x324 x325 x326, vi x327, vi x328, vi x329, vi x330, vi x331, vi x332, vsl x333 x334 x335, vi x336, vi x337, vi x338, vi x339, vi x340, vi x341, vsl x342 x343 x344]] fun z W23 W24 => ∃ x345 : Int, z = .returned (vi x345) ∧ Ext W23 W24 ∧
       ((x345 = 0 →
        (Cl Tryz.prog W0 M H8 nK 23 #[Value.agg #[vi x143, vi x144, vi x145, vi x146, vi x147, vi x148, vsl x149 x150 x151, vsl x152 x153 x154, vi x155, vi x156, vi x157, vi x158, vi x159, vi x160, vsl x161 x162 x163, vi x164, vi x165, vi 4, vi x167, vi x168, vi x169, vsl x170 x171 x172, vi x173, vi x174, vi x175, vi x176, vi x177, vi x178, vsl x179 x180 x181]] fun z W25 W26 => ∃ x346 : Int, z = .returned (vi x346) ∧ Ext W25 W26 ∧
        ((x346 = 1 →
         ((x87 = 0 →
          ((x141 = 5 →
           ((x182 = 2 →
            ((x166 = 5 →
             (0 ≤ (x194 : Int) ∧ (0 ≤ (x194 : Int) →
             (((x194 : Int) = 0 →
              ((x263 = 0 →
               Rt R W0 M H8 nK (vb (decide (x238 = 5)))) ∧
              (¬ (x263 = 0) →
               Rt R W0 M H8 nK (vb (false))))) ∧
             (¬ ((x194 : Int) = 0) →
              Rt R W0 M H8 nK (vb (false))))))) ∧
            (¬ (x166 = 5) →
             Rt R W0 M H8 nK (vb (false))))) ∧
           (¬ (x182 = 2) →
            Rt R W0 M H8 nK (vb (false))))) ∧
          (¬ (x141 = 5) →
           Rt R W0 M H8 nK (vb (false))))) ∧
         (¬ (x87 = 0) →
          Rt R W0 M H8 nK (vb (false))))) ∧
        (¬ (x346 = 1) →
         Rt R W0 M H8 nK (vb (false)))))) ∧
       (¬ (x345 = 0) →
        Rt R W0 M H8 nK (vb (false))))))) ∧
      (¬ (x305 = 3) →
       Rt R W0 M H7 nK (vb (false))))) ∧
     (¬ (x264 = 0) →
      Rt R W0 M H7 nK (vb (false))))) ∧
    (¬ (x223 = 0) →
     Rt R W0 M H7 nK (vb (false))))) ∧
   (¬ (x183 = 0) →
    Rt R W0 M H7 nK (vb (false))))) ∧
  (¬ (x142 = 0) →
   Rt R W0 M H7 nK (vb (false))))) ∧
 (¬ (x88 = 0) →
  Rt R W0 M H7 nK (vb (false))))))))))))))))))))) :
  Calls Tryz.prog 5 #[] W0 R :=
  calls_sxA (M := M) (V := v_groupBegun) (hi := {}) (args := []) (nv := 0) (e := (fun _ => .i 0)) Tryz.func5 hH h (by kernel_rfl) (by kernel_rfl) (by kernel_rfl)
end Go.Proofs.YtfpmcmhihhnfgaaGreat
namespace Go.Proofs.YtfpmcmhihhnfgaaGreat
open Go.RowKit
set_option maxRecDepth 100000
def ent1 : Ent := ⟨1, 1, 1, 0, 0, ⟨0, 0, 0, 0⟩⟩
def ent2 : Ent := ⟨2, 2, 1, 1, 0, ⟨2, 0, 0, 5⟩⟩
def gA : Grp × Int × Int := gPut Grp.zero ent1
def gB : Grp × Int × Int := gPut gA.1 ent2
def gC : Grp × Int × Int := gRun gB.1 1 9
def gD : Grp × Int := gCut gC.1 2
def gE : Grp × Int × Int := gRun gD.1 0 0
def gS : Grp × Int × Int := gRun gD.1 3 0
def turn1 (g : Grp) : Grp := ⟨g.base, g.tail, g.n0, ⟨g.n1.pos, g.n1.clock, ⟨4, g.n1.vals.b, g.n1.vals.c, g.n1.vals.d⟩, g.n1.table⟩, g.n2⟩
theorem gf1 : gA.2.1 = 0 ∧ gA.2.2 = 0 ∧ gB.2.1 = 5 ∧ gB.2.2 = 0 ∧ gC.2.1 = 2 ∧ gC.2.2 = 0 ∧ gC.1.n1.vals.a = 5 ∧ gD.2 = 0 ∧ gD.1.tail.length = 0 := by decide +kernel
theorem gf2 : gE.2.1 = 0 ∧ gE.2.2 = 0 ∧ gE.1.n0.vals.a = 5 ∧ gS.2.2 = 3 ∧ gErr Grp.zero = 0 ∧ gErr (turn1 gC.1) = 1 := by decide +kernel
theorem kA {H : Hp} : Gf Tryz.prog 8 #[gVal Grp.zero GP.nil, .agg #[vi 1, vi 1, vi 1, vi 0, vi 0, vi 0, vi 0, vi 0, vi 0]] H (GPost gA.1 fun v => .tuple #[v, vi gA.2.1, vi gA.2.2]) := c_groupPut (GTab.nil H) (e := ent1) (by decide)
theorem kB {H : Hp} {γ : GP} (hg : GTab H gA.1 γ) : Gf Tryz.prog 8 #[gVal gA.1 γ, .agg #[vi 2, vi 2, vi 1, vi 1, vi 0, vi 2, vi 0, vi 0, vi 5]] H (GPost gB.1 fun v => .tuple #[v, vi gB.2.1, vi gB.2.2]) := c_groupPut hg (e := ent2) (by decide)
theorem kC {H : Hp} {γ : GP} (hg : GTab H gB.1 γ) : Gf Tryz.prog 9 #[gVal gB.1 γ, vi 1, vi 9] H (GPost gC.1 fun v => .tuple #[v, vi gC.2.1, vi gC.2.2]) := c_groupRun hg 1 9
theorem kD {H : Hp} {γ : GP} (hg : GTab H gC.1 γ) : Gf Tryz.prog 10 #[gVal gC.1 γ, vi 2] H (GPost gD.1 fun v => .tuple #[v, vi gD.2]) := c_groupCut hg 2
theorem kE {H : Hp} {γ : GP} (hg : GTab H gD.1 γ) : Gf Tryz.prog 9 #[gVal gD.1 γ, vi 0, vi 0] H (GPost gE.1 fun v => .tuple #[v, vi gE.2.1, vi gE.2.2]) := c_groupRun hg 0 0
theorem kS {H : Hp} {γ : GP} (hg : GTab H gD.1 γ) : Gf Tryz.prog 9 #[gVal gD.1 γ, vi 3, vi 0] H (GPost gS.1 fun v => .tuple #[v, vi gS.2.1, vi gS.2.2]) := c_groupRun hg 3 0
theorem kX {H : Hp} {γ : GP} (hg : GTab H gC.1 γ) : Gv Tryz.prog 23 #[gVal (turn1 gC.1) γ] H (vi (gErr (turn1 gC.1))) := c_groupCheck (g := turn1 gC.1) ⟨hg.base, hg.tail, hg.n0, hg.n1, hg.n2⟩
theorem c_groupBegun (H : Hp) : Gv Tryz.prog 5 #[] H (vb true) := fun W hH => by
  obtain ⟨a1, a2, a3, a4, a5, a6, a7, a8, a9⟩ := gf1
  obtain ⟨b1, b2, b3, b4, b5, b6⟩ := gf2
  have k1 := @kA
  have k2 := @kB
  have k3 := @kC
  have k4 := @kD
  have k5 := @kE
  have k6 := @kS
  have k7 := @kX
  rw [b6] at k7
  clear b6
  generalize gA = A at *
  generalize gB = B at *
  generalize gC = C at *
  generalize gD = D0 at *
  generalize gE = E at *
  generalize gS = S at *
  refine x_groupBegun noM H W _ hH ?_
  refine Cl.same (c_groupBegin H) fun _ _ hx => ⟨_, _, _, _, _, _, GP.nil.p, GP.nil.n, GP.nil.c, GP.nil.q, GP.nil.m, GP.nil.d, _, _, _, _, _, _, GP.nil.p0, GP.nil.n0, GP.nil.c0, _, _, _, _, _, _, GP.nil.p1, GP.nil.n1, GP.nil.c1, _, _, _, _, _, _, GP.nil.p2, GP.nil.n2, GP.nil.c2, rfl, Fr.none hx fun H1 h1 => ?_⟩
  refine Cl.same (c_lopen 1 1 H1) fun _ _ hx => ⟨_, _, _, _, _, _, _, _, _, rfl, hx, ?_⟩
  refine Cl.fresh k1 ?_
  rintro v W1 W2 D ⟨γ1, rfl, g1⟩ hx hD hf nn
  refine ⟨_, _, _, _, _, _, γ1.p, γ1.n, γ1.c, γ1.q, γ1.m, γ1.d, _, _, _, _, _, _, γ1.p0, γ1.n0, γ1.c0, _, _, _, _, _, _, γ1.p1, γ1.n1, γ1.c1, _, _, _, _, _, _, γ1.p2, γ1.n2, γ1.c2, _, _, rfl, hx, D, hD, hf, fun H2 h2 hd2 c0 => ?_⟩
  refine Cl.same (c_ladd 5 H2) fun _ _ hx => ⟨_, _, _, _, rfl, hx, ?_⟩
  refine Cl.same (c_lcall 2 1 1 0 ⟨2, 0, 0, 5⟩ H2) fun _ _ hx => ⟨_, _, _, _, _, _, _, _, _, rfl, hx, ?_⟩
  refine Cl.fresh (k2 (g1.mono hd2)) ?_
  rintro v W1 W2 D ⟨γ2, rfl, g2⟩ hx hD hf nn
  refine ⟨_, _, _, _, _, _, γ2.p, γ2.n, γ2.c, γ2.q, γ2.m, γ2.d, _, _, _, _, _, _, γ2.p0, γ2.n0, γ2.c0, _, _, _, _, _, _, γ2.p1, γ2.n1, γ2.c1, _, _, _, _, _, _, γ2.p2, γ2.n2, γ2.c2, _, _, rfl, hx, D, hD, hf, fun H3 h3 hd3 => ?_⟩
  refine Cl.fresh (k3 (g2.mono hd3)) ?_
  rintro v W1 W2 D ⟨γ3, rfl, g3⟩ hx hD hf nn
  refine ⟨_, _, _, _, _, _, γ3.p, γ3.n, γ3.c, γ3.q, γ3.m, γ3.d, _, _, _, _, _, _, γ3.p0, γ3.n0, γ3.c0, _, _, _, _, _, _, γ3.p1, γ3.n1, γ3.c1, _, _, _, _, _, _, γ3.p2, γ3.n2, γ3.c2, _, _, rfl, hx, D, hD, hf, fun H4 h4 hd4 c1 => ?_⟩
  replace g3 := g3.mono hd4
  refine Cl.fresh (k4 g3) ?_
  rintro v W1 W2 D ⟨γ4, rfl, g4⟩ hx hD hf nn
  refine ⟨_, _, _, _, _, _, γ4.p, γ4.n, γ4.c, γ4.q, γ4.m, γ4.d, _, _, _, _, _, _, γ4.p0, γ4.n0, γ4.c0, _, _, _, _, _, _, γ4.p1, γ4.n1, γ4.c1, _, _, _, _, _, _, γ4.p2, γ4.n2, γ4.c2, _, rfl, hx, D, hD, hf, fun H5 h5 hd5 c2 => ?_⟩
  replace g4 := g4.mono hd5
  refine Cl.fresh (k5 g4) ?_
  rintro v W1 W2 D ⟨γ5, rfl, g5⟩ hx hD hf nn
  refine ⟨_, _, _, _, _, _, γ5.p, γ5.n, γ5.c, γ5.q, γ5.m, γ5.d, _, _, _, _, _, _, γ5.p0, γ5.n0, γ5.c0, _, _, _, _, _, _, γ5.p1, γ5.n1, γ5.c1, _, _, _, _, _, _, γ5.p2, γ5.n2, γ5.c2, _, _, rfl, hx, D, hD, hf, fun H6 h6 hd6 c3 => ?_⟩
  refine Cl.fresh (k6 (g4.mono h6)) ?_
  rintro v W1 W2 D ⟨γ6, rfl, g6⟩ hx hD hf nn
  refine ⟨_, _, _, _, _, _, γ6.p, γ6.n, γ6.c, γ6.q, γ6.m, γ6.d, _, _, _, _, _, _, γ6.p0, γ6.n0, γ6.c0, _, _, _, _, _, _, γ6.p1, γ6.n1, γ6.c1, _, _, _, _, _, _, γ6.p2, γ6.n2, γ6.c2, _, _, rfl, hx, D, hD, hf, fun H7 h7 hd7 c4 c5 => ?_⟩
  refine ⟨fun _ => ⟨fun _ => ⟨fun _ => ⟨fun _ => ⟨fun _ => ⟨fun _ => ?_, fun h => absurd b4 h⟩, fun h => absurd b2 h⟩, fun h => absurd a8 h⟩, fun h => absurd a6 h⟩, fun h => absurd a4 h⟩, fun h => absurd a2 h⟩
  refine Cl.same (c_groupBegin H7) fun _ _ hx => ⟨_, _, _, _, _, _, GP.nil.p, GP.nil.n, GP.nil.c, GP.nil.q, GP.nil.m, GP.nil.d, _, _, _, _, _, _, GP.nil.p0, GP.nil.n0, GP.nil.c0, _, _, _, _, _, _, GP.nil.p1, GP.nil.n1, GP.nil.c1, _, _, _, _, _, _, GP.nil.p2, GP.nil.n2, GP.nil.c2, rfl, Fr.none hx fun H8 h8 => ?_⟩
  refine Cl.same (c_groupCheck (GTab.nil H8)) fun _ _ hx => ⟨_, rfl, hx, fun _ => ?_, fun h => absurd b5 h⟩
  refine Cl.same (k7 ((((g3.mono h5).mono h6).mono h7).mono h8)) fun _ _ hx => ⟨_, rfl, hx, fun _ => ⟨fun _ => ⟨fun _ => ⟨fun _ => ⟨fun _ => ⟨by omega, fun _ => ⟨fun _ => ⟨fun _ => Rt.gv' (by rw [b3]; rfl), fun h => absurd b1 h⟩, fun h => absurd ?_ h⟩⟩, fun h => absurd a7 h⟩, fun h => absurd a5 h⟩, fun h => absurd a3 h⟩, fun h => absurd a1 h⟩, fun h => absurd rfl h⟩
  rw [g4.tail.len, a9]; rfl
end Go.Proofs.YtfpmcmhihhnfgaaGreat
