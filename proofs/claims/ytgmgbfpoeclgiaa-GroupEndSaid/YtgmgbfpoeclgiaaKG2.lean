/- Symbolic runs of functions: what each leaves to prove is enough for its call. Printed by a program of ours. No conditions. What must be in any case, of groups. No conditions. -/
import Derived.Test.YtgmgbfpoeclgiaaKE3
import Derived.Test.YtgmgbfpoeclgiaaProg
import Derived.Test.YtgmgbfpoeclgiaaKG1
import Derived.Test.YtgmgbfpoeclgiaaKL1
set_option linter.unusedVariables false
set_option linter.unusedSimpArgs false
namespace Go.Proofs.Ytgmgbfpoeclgiaa
open Go.RowKit
set_option maxRecDepth 100000
set_option maxHeartbeats 4000000
def v_groupBegun : VC :=
(.call 49 [] [] [(0, .i), (1, .i), (2, .i), (3, .i), (4, .i), (5, .i), (6, .p), (7, .n), (8, .n), (9, .p), (10, .n), (11, .n), (12, .i), (13, .i), (14, .i), (15, .i), (16, .i), (17, .i), (18, .p), (19, .n), (20, .n), (21, .i), (22, .i), (23, .i), (24, .i), (25, .i), (26, .i), (27, .p), (28, .n), (29, .n), (30, .i), (31, .i), (32, .i), (33, .i), (34, .i), (35, .i), (36, .p), (37, .n), (38, .n)] (.agg [.int .i64 (.v 0), .int .i64 (.v 1), .int .i64 (.v 2), .int .i64 (.v 3), .int .i64 (.v 4), .int .i64 (.v 5), .slO 6 (.k 0) (.v 7) (.v 8), .slO 9 (.k 0) (.v 10) (.v 11), .int .i64 (.v 12), .int .i64 (.v 13), .int .i64 (.v 14), .int .i64 (.v 15), .int .i64 (.v 16), .int .i64 (.v 17), .slO 18 (.k 0) (.v 19) (.v 20), .int .i64 (.v 21), .int .i64 (.v 22), .int .i64 (.v 23), .int .i64 (.v 24), .int .i64 (.v 25), .int .i64 (.v 26), .slO 27 (.k 0) (.v 28) (.v 29), .int .i64 (.v 30), .int .i64 (.v 31), .int .i64 (.v 32), .int .i64 (.v 33), .int .i64 (.v 34), .int .i64 (.v 35), .slO 36 (.k 0) (.v 37) (.v 38)]) .fresh
(.call 24 [.int .i64 (.k 1), .int .i64 (.k 1)] [] [(39, .i), (40, .i), (41, .i), (42, .i), (43, .i), (44, .i), (45, .i), (46, .i), (47, .i)] (.agg [.int .i64 (.v 39), .int .i64 (.v 40), .int .i64 (.v 41), .int .i64 (.v 42), .int .i64 (.v 43), .int .i64 (.v 44), .int .i64 (.v 45), .int .i64 (.v 46), .int .i64 (.v 47)]) .same
(.call 21 [.agg [.int .i64 (.v 0), .int .i64 (.v 1), .int .i64 (.v 2), .int .i64 (.v 3), .int .i64 (.v 4), .int .i64 (.v 5), .slO 6 (.k 0) (.v 7) (.v 8), .slO 9 (.k 0) (.v 10) (.v 11), .int .i64 (.v 12), .int .i64 (.v 13), .int .i64 (.v 14), .int .i64 (.v 15), .int .i64 (.v 16), .int .i64 (.v 17), .slO 18 (.k 0) (.v 19) (.v 20), .int .i64 (.v 21), .int .i64 (.v 22), .int .i64 (.v 23), .int .i64 (.v 24), .int .i64 (.v 25), .int .i64 (.v 26), .slO 27 (.k 0) (.v 28) (.v 29), .int .i64 (.v 30), .int .i64 (.v 31), .int .i64 (.v 32), .int .i64 (.v 33), .int .i64 (.v 34), .int .i64 (.v 35), .slO 36 (.k 0) (.v 37) (.v 38)], .agg [.int .i64 (.v 39), .int .i64 (.v 40), .int .i64 (.v 41), .int .i64 (.v 42), .int .i64 (.v 43), .int .i64 (.v 44), .int .i64 (.v 45), .int .i64 (.v 46), .int .i64 (.v 47)]] [] [(48, .i), (49, .i), (50, .i), (51, .i), (52, .i), (53, .i), (54, .p), (55, .n), (56, .n), (57, .p), (58, .n), (59, .n), (60, .i), (61, .i), (62, .i), (63, .i), (64, .i), (65, .i), (66, .p), (67, .n), (68, .n), (69, .i), (70, .i), (71, .i), (72, .i), (73, .i), (74, .i), (75, .p), (76, .n), (77, .n), (78, .i), (79, .i), (80, .i), (81, .i), (82, .i), (83, .i), (84, .p), (85, .n), (86, .n), (87, .i), (88, .i)] (.tup [.agg [.int .i64 (.v 48), .int .i64 (.v 49), .int .i64 (.v 50), .int .i64 (.v 51), .int .i64 (.v 52), .int .i64 (.v 53), .slO 54 (.k 0) (.v 55) (.v 56), .slO 57 (.k 0) (.v 58) (.v 59), .int .i64 (.v 60), .int .i64 (.v 61), .int .i64 (.v 62), .int .i64 (.v 63), .int .i64 (.v 64), .int .i64 (.v 65), .slO 66 (.k 0) (.v 67) (.v 68), .int .i64 (.v 69), .int .i64 (.v 70), .int .i64 (.v 71), .int .i64 (.v 72), .int .i64 (.v 73), .int .i64 (.v 74), .slO 75 (.k 0) (.v 76) (.v 77), .int .i64 (.v 78), .int .i64 (.v 79), .int .i64 (.v 80), .int .i64 (.v 81), .int .i64 (.v 82), .int .i64 (.v 83), .slO 84 (.k 0) (.v 85) (.v 86)], .int .i64 (.v 87), .int .i64 (.v 88)]) .fresh
(.all 0
(.call 51 [.int .i64 (.k 5)] [] [(89, .i), (90, .i), (91, .i), (92, .i)] (.agg [.int .i64 (.v 89), .int .i64 (.v 90), .int .i64 (.v 91), .int .i64 (.v 92)]) .same
(.call 50 [.int .i64 (.k 2), .int .i64 (.k 1), .int .i64 (.k 1), .int .i64 (.k 0), .agg [.int .i64 (.v 89), .int .i64 (.v 90), .int .i64 (.v 91), .int .i64 (.v 92)]] [] [(93, .i), (94, .i), (95, .i), (96, .i), (97, .i), (98, .i), (99, .i), (100, .i), (101, .i)] (.agg [.int .i64 (.v 93), .int .i64 (.v 94), .int .i64 (.v 95), .int .i64 (.v 96), .int .i64 (.v 97), .int .i64 (.v 98), .int .i64 (.v 99), .int .i64 (.v 100), .int .i64 (.v 101)]) .same
(.call 21 [.agg [.int .i64 (.v 48), .int .i64 (.v 49), .int .i64 (.v 50), .int .i64 (.v 51), .int .i64 (.v 52), .int .i64 (.v 53), .slO 54 (.k 0) (.v 55) (.v 56), .slO 57 (.k 0) (.v 58) (.v 59), .int .i64 (.v 60), .int .i64 (.v 61), .int .i64 (.v 62), .int .i64 (.v 63), .int .i64 (.v 64), .int .i64 (.v 65), .slO 66 (.k 0) (.v 67) (.v 68), .int .i64 (.v 69), .int .i64 (.v 70), .int .i64 (.v 71), .int .i64 (.v 72), .int .i64 (.v 73), .int .i64 (.v 74), .slO 75 (.k 0) (.v 76) (.v 77), .int .i64 (.v 78), .int .i64 (.v 79), .int .i64 (.v 80), .int .i64 (.v 81), .int .i64 (.v 82), .int .i64 (.v 83), .slO 84 (.k 0) (.v 85) (.v 86)], .agg [.int .i64 (.v 93), .int .i64 (.v 94), .int .i64 (.v 95), .int .i64 (.v 96), .int .i64 (.v 97), .int .i64 (.v 98), .int .i64 (.v 99), .int .i64 (.v 100), .int .i64 (.v 101)]] [] [(102, .i), (103, .i), (104, .i), (105, .i), (106, .i), (107, .i), (108, .p), (109, .n), (110, .n), (111, .p), (112, .n), (113, .n), (114, .i), (115, .i), (116, .i), (117, .i), (118, .i), (119, .i), (120, .p), (121, .n), (122, .n), (123, .i), (124, .i), (125, .i), (126, .i), (127, .i), (128, .i), (129, .p), (130, .n), (131, .n), (132, .i), (133, .i), (134, .i), (135, .i), (136, .i), (137, .i), (138, .p), (139, .n), (140, .n), (141, .i), (142, .i)] (.tup [.agg [.int .i64 (.v 102), .int .i64 (.v 103), .int .i64 (.v 104), .int .i64 (.v 105), .int .i64 (.v 106), .int .i64 (.v 107), .slO 108 (.k 0) (.v 109) (.v 110), .slO 111 (.k 0) (.v 112) (.v 113), .int .i64 (.v 114), .int .i64 (.v 115), .int .i64 (.v 116), .int .i64 (.v 117), .int .i64 (.v 118), .int .i64 (.v 119), .slO 120 (.k 0) (.v 121) (.v 122), .int .i64 (.v 123), .int .i64 (.v 124), .int .i64 (.v 125), .int .i64 (.v 126), .int .i64 (.v 127), .int .i64 (.v 128), .slO 129 (.k 0) (.v 130) (.v 131), .int .i64 (.v 132), .int .i64 (.v 133), .int .i64 (.v 134), .int .i64 (.v 135), .int .i64 (.v 136), .int .i64 (.v 137), .slO 138 (.k 0) (.v 139) (.v 140)], .int .i64 (.v 141), .int .i64 (.v 142)]) .fresh
(.call 22 [.agg [.int .i64 (.v 102), .int .i64 (.v 103), .int .i64 (.v 104), .int .i64 (.v 105), .int .i64 (.v 106), .int .i64 (.v 107), .slO 108 (.k 0) (.v 109) (.v 110), .slO 111 (.k 0) (.v 112) (.v 113), .int .i64 (.v 114), .int .i64 (.v 115), .int .i64 (.v 116), .int .i64 (.v 117), .int .i64 (.v 118), .int .i64 (.v 119), .slO 120 (.k 0) (.v 121) (.v 122), .int .i64 (.v 123), .int .i64 (.v 124), .int .i64 (.v 125), .int .i64 (.v 126), .int .i64 (.v 127), .int .i64 (.v 128), .slO 129 (.k 0) (.v 130) (.v 131), .int .i64 (.v 132), .int .i64 (.v 133), .int .i64 (.v 134), .int .i64 (.v 135), .int .i64 (.v 136), .int .i64 (.v 137), .slO 138 (.k 0) (.v 139) (.v 140)], .int .i64 (.k 1), .int .i64 (.k 9)] [] [(143, .i), (144, .i), (145, .i), (146, .i), (147, .i), (148, .i), (149, .p), (150, .n), (151, .n), (152, .p), (153, .n), (154, .n), (155, .i), (156, .i), (157, .i), (158, .i), (159, .i), (160, .i), (161, .p), (162, .n), (163, .n), (164, .i), (165, .i), (166, .i), (167, .i), (168, .i), (169, .i), (170, .p), (171, .n), (172, .n), (173, .i), (174, .i), (175, .i), (176, .i), (177, .i), (178, .i), (179, .p), (180, .n), (181, .n), (182, .i), (183, .i)] (.tup [.agg [.int .i64 (.v 143), .int .i64 (.v 144), .int .i64 (.v 145), .int .i64 (.v 146), .int .i64 (.v 147), .int .i64 (.v 148), .slO 149 (.k 0) (.v 150) (.v 151), .slO 152 (.k 0) (.v 153) (.v 154), .int .i64 (.v 155), .int .i64 (.v 156), .int .i64 (.v 157), .int .i64 (.v 158), .int .i64 (.v 159), .int .i64 (.v 160), .slO 161 (.k 0) (.v 162) (.v 163), .int .i64 (.v 164), .int .i64 (.v 165), .int .i64 (.v 166), .int .i64 (.v 167), .int .i64 (.v 168), .int .i64 (.v 169), .slO 170 (.k 0) (.v 171) (.v 172), .int .i64 (.v 173), .int .i64 (.v 174), .int .i64 (.v 175), .int .i64 (.v 176), .int .i64 (.v 177), .int .i64 (.v 178), .slO 179 (.k 0) (.v 180) (.v 181)], .int .i64 (.v 182), .int .i64 (.v 183)]) .fresh
(.all 1
(.call 23 [.agg [.int .i64 (.v 143), .int .i64 (.v 144), .int .i64 (.v 145), .int .i64 (.v 146), .int .i64 (.v 147), .int .i64 (.v 148), .slO 149 (.k 0) (.v 150) (.v 151), .slO 152 (.k 0) (.v 153) (.v 154), .int .i64 (.v 155), .int .i64 (.v 156), .int .i64 (.v 157), .int .i64 (.v 158), .int .i64 (.v 159), .int .i64 (.v 160), .slO 161 (.k 0) (.v 162) (.v 163), .int .i64 (.v 164), .int .i64 (.v 165), .int .i64 (.v 166), .int .i64 (.v 167), .int .i64 (.v 168), .int .i64 (.v 169), .slO 170 (.k 0) (.v 171) (.v 172), .int .i64 (.v 173), .int .i64 (.v 174), .int .i64 (.v 175), .int .i64 (.v 176), .int .i64 (.v 177), .int .i64 (.v 178), .slO 179 (.k 0) (.v 180) (.v 181)], .int .i64 (.k 2)] [] [(184, .i), (185, .i), (186, .i), (187, .i), (188, .i), (189, .i), (190, .p), (191, .n), (192, .n), (193, .p), (194, .n), (195, .n), (196, .i), (197, .i), (198, .i), (199, .i), (200, .i), (201, .i), (202, .p), (203, .n), (204, .n), (205, .i), (206, .i), (207, .i), (208, .i), (209, .i), (210, .i), (211, .p), (212, .n), (213, .n), (214, .i), (215, .i), (216, .i), (217, .i), (218, .i), (219, .i), (220, .p), (221, .n), (222, .n), (223, .i)] (.tup [.agg [.int .i64 (.v 184), .int .i64 (.v 185), .int .i64 (.v 186), .int .i64 (.v 187), .int .i64 (.v 188), .int .i64 (.v 189), .slO 190 (.k 0) (.v 191) (.v 192), .slO 193 (.k 0) (.v 194) (.v 195), .int .i64 (.v 196), .int .i64 (.v 197), .int .i64 (.v 198), .int .i64 (.v 199), .int .i64 (.v 200), .int .i64 (.v 201), .slO 202 (.k 0) (.v 203) (.v 204), .int .i64 (.v 205), .int .i64 (.v 206), .int .i64 (.v 207), .int .i64 (.v 208), .int .i64 (.v 209), .int .i64 (.v 210), .slO 211 (.k 0) (.v 212) (.v 213), .int .i64 (.v 214), .int .i64 (.v 215), .int .i64 (.v 216), .int .i64 (.v 217), .int .i64 (.v 218), .int .i64 (.v 219), .slO 220 (.k 0) (.v 221) (.v 222)], .int .i64 (.v 223)]) .fresh
(.all 2
(.call 22 [.agg [.int .i64 (.v 184), .int .i64 (.v 185), .int .i64 (.v 186), .int .i64 (.v 187), .int .i64 (.v 188), .int .i64 (.v 189), .slO 190 (.k 0) (.v 191) (.v 192), .slO 193 (.k 0) (.v 194) (.v 195), .int .i64 (.v 196), .int .i64 (.v 197), .int .i64 (.v 198), .int .i64 (.v 199), .int .i64 (.v 200), .int .i64 (.v 201), .slO 202 (.k 0) (.v 203) (.v 204), .int .i64 (.v 205), .int .i64 (.v 206), .int .i64 (.v 207), .int .i64 (.v 208), .int .i64 (.v 209), .int .i64 (.v 210), .slO 211 (.k 0) (.v 212) (.v 213), .int .i64 (.v 214), .int .i64 (.v 215), .int .i64 (.v 216), .int .i64 (.v 217), .int .i64 (.v 218), .int .i64 (.v 219), .slO 220 (.k 0) (.v 221) (.v 222)], .int .i64 (.k 0), .int .i64 (.k 0)] [] [(224, .i), (225, .i), (226, .i), (227, .i), (228, .i), (229, .i), (230, .p), (231, .n), (232, .n), (233, .p), (234, .n), (235, .n), (236, .i), (237, .i), (238, .i), (239, .i), (240, .i), (241, .i), (242, .p), (243, .n), (244, .n), (245, .i), (246, .i), (247, .i), (248, .i), (249, .i), (250, .i), (251, .p), (252, .n), (253, .n), (254, .i), (255, .i), (256, .i), (257, .i), (258, .i), (259, .i), (260, .p), (261, .n), (262, .n), (263, .i), (264, .i)] (.tup [.agg [.int .i64 (.v 224), .int .i64 (.v 225), .int .i64 (.v 226), .int .i64 (.v 227), .int .i64 (.v 228), .int .i64 (.v 229), .slO 230 (.k 0) (.v 231) (.v 232), .slO 233 (.k 0) (.v 234) (.v 235), .int .i64 (.v 236), .int .i64 (.v 237), .int .i64 (.v 238), .int .i64 (.v 239), .int .i64 (.v 240), .int .i64 (.v 241), .slO 242 (.k 0) (.v 243) (.v 244), .int .i64 (.v 245), .int .i64 (.v 246), .int .i64 (.v 247), .int .i64 (.v 248), .int .i64 (.v 249), .int .i64 (.v 250), .slO 251 (.k 0) (.v 252) (.v 253), .int .i64 (.v 254), .int .i64 (.v 255), .int .i64 (.v 256), .int .i64 (.v 257), .int .i64 (.v 258), .int .i64 (.v 259), .slO 260 (.k 0) (.v 261) (.v 262)], .int .i64 (.v 263), .int .i64 (.v 264)]) .fresh
(.all 3
(.call 22 [.agg [.int .i64 (.v 184), .int .i64 (.v 185), .int .i64 (.v 186), .int .i64 (.v 187), .int .i64 (.v 188), .int .i64 (.v 189), .slO 190 (.k 0) (.v 191) (.v 192), .slO 193 (.k 0) (.v 194) (.v 195), .int .i64 (.v 196), .int .i64 (.v 197), .int .i64 (.v 198), .int .i64 (.v 199), .int .i64 (.v 200), .int .i64 (.v 201), .slO 202 (.k 0) (.v 203) (.v 204), .int .i64 (.v 205), .int .i64 (.v 206), .int .i64 (.v 207), .int .i64 (.v 208), .int .i64 (.v 209), .int .i64 (.v 210), .slO 211 (.k 0) (.v 212) (.v 213), .int .i64 (.v 214), .int .i64 (.v 215), .int .i64 (.v 216), .int .i64 (.v 217), .int .i64 (.v 218), .int .i64 (.v 219), .slO 220 (.k 0) (.v 221) (.v 222)], .int .i64 (.k 3), .int .i64 (.k 0)] [] [(265, .i), (266, .i), (267, .i), (268, .i), (269, .i), (270, .i), (271, .p), (272, .n), (273, .n), (274, .p), (275, .n), (276, .n), (277, .i), (278, .i), (279, .i), (280, .i), (281, .i), (282, .i), (283, .p), (284, .n), (285, .n), (286, .i), (287, .i), (288, .i), (289, .i), (290, .i), (291, .i), (292, .p), (293, .n), (294, .n), (295, .i), (296, .i), (297, .i), (298, .i), (299, .i), (300, .i), (301, .p), (302, .n), (303, .n), (304, .i), (305, .i)] (.tup [.agg [.int .i64 (.v 265), .int .i64 (.v 266), .int .i64 (.v 267), .int .i64 (.v 268), .int .i64 (.v 269), .int .i64 (.v 270), .slO 271 (.k 0) (.v 272) (.v 273), .slO 274 (.k 0) (.v 275) (.v 276), .int .i64 (.v 277), .int .i64 (.v 278), .int .i64 (.v 279), .int .i64 (.v 280), .int .i64 (.v 281), .int .i64 (.v 282), .slO 283 (.k 0) (.v 284) (.v 285), .int .i64 (.v 286), .int .i64 (.v 287), .int .i64 (.v 288), .int .i64 (.v 289), .int .i64 (.v 290), .int .i64 (.v 291), .slO 292 (.k 0) (.v 293) (.v 294), .int .i64 (.v 295), .int .i64 (.v 296), .int .i64 (.v 297), .int .i64 (.v 298), .int .i64 (.v 299), .int .i64 (.v 300), .slO 301 (.k 0) (.v 302) (.v 303)], .int .i64 (.v 304), .int .i64 (.v 305)]) .fresh
(.all 4
(.all 5
(.ite (.eq (.v 88) (.k 0))
(.ite (.eq (.v 142) (.k 0))
(.ite (.eq (.v 183) (.k 0))
(.ite (.eq (.v 223) (.k 0))
(.ite (.eq (.v 264) (.k 0))
(.ite (.eq (.v 305) (.k 3))
(.call 49 [] [] [(306, .i), (307, .i), (308, .i), (309, .i), (310, .i), (311, .i), (312, .p), (313, .n), (314, .n), (315, .p), (316, .n), (317, .n), (318, .i), (319, .i), (320, .i), (321, .i), (322, .i), (323, .i), (324, .p), (325, .n), (326, .n), (327, .i), (328, .i), (329, .i), (330, .i), (331, .i), (332, .i), (333, .p), (334, .n), (335, .n), (336, .i), (337, .i), (338, .i), (339, .i), (340, .i), (341, .i), (342, .p), (343, .n), (344, .n)] (.agg [.int .i64 (.v 306), .int .i64 (.v 307), .int .i64 (.v 308), .int .i64 (.v 309), .int .i64 (.v 310), .int .i64 (.v 311), .slO 312 (.k 0) (.v 313) (.v 314), .slO 315 (.k 0) (.v 316) (.v 317), .int .i64 (.v 318), .int .i64 (.v 319), .int .i64 (.v 320), .int .i64 (.v 321), .int .i64 (.v 322), .int .i64 (.v 323), .slO 324 (.k 0) (.v 325) (.v 326), .int .i64 (.v 327), .int .i64 (.v 328), .int .i64 (.v 329), .int .i64 (.v 330), .int .i64 (.v 331), .int .i64 (.v 332), .slO 333 (.k 0) (.v 334) (.v 335), .int .i64 (.v 336), .int .i64 (.v 337), .int .i64 (.v 338), .int .i64 (.v 339), .int .i64 (.v 340), .int .i64 (.v 341), .slO 342 (.k 0) (.v 343) (.v 344)]) .fresh
(.call 19 [.agg [.int .i64 (.v 306), .int .i64 (.v 307), .int .i64 (.v 308), .int .i64 (.v 309), .int .i64 (.v 310), .int .i64 (.v 311), .slO 312 (.k 0) (.v 313) (.v 314), .slO 315 (.k 0) (.v 316) (.v 317), .int .i64 (.v 318), .int .i64 (.v 319), .int .i64 (.v 320), .int .i64 (.v 321), .int .i64 (.v 322), .int .i64 (.v 323), .slO 324 (.k 0) (.v 325) (.v 326), .int .i64 (.v 327), .int .i64 (.v 328), .int .i64 (.v 329), .int .i64 (.v 330), .int .i64 (.v 331), .int .i64 (.v 332), .slO 333 (.k 0) (.v 334) (.v 335), .int .i64 (.v 336), .int .i64 (.v 337), .int .i64 (.v 338), .int .i64 (.v 339), .int .i64 (.v 340), .int .i64 (.v 341), .slO 342 (.k 0) (.v 343) (.v 344)]] [] [(345, .i)] (.int .i64 (.v 345)) .same
(.ite (.eq (.v 345) (.k 0))
(.call 19 [.agg [.int .i64 (.v 143), .int .i64 (.v 144), .int .i64 (.v 145), .int .i64 (.v 146), .int .i64 (.v 147), .int .i64 (.v 148), .slO 149 (.k 0) (.v 150) (.v 151), .slO 152 (.k 0) (.v 153) (.v 154), .int .i64 (.v 155), .int .i64 (.v 156), .int .i64 (.v 157), .int .i64 (.v 158), .int .i64 (.v 159), .int .i64 (.v 160), .slO 161 (.k 0) (.v 162) (.v 163), .int .i64 (.v 164), .int .i64 (.v 165), .int .i64 (.k 4), .int .i64 (.v 167), .int .i64 (.v 168), .int .i64 (.v 169), .slO 170 (.k 0) (.v 171) (.v 172), .int .i64 (.v 173), .int .i64 (.v 174), .int .i64 (.v 175), .int .i64 (.v 176), .int .i64 (.v 177), .int .i64 (.v 178), .slO 179 (.k 0) (.v 180) (.v 181)]] [] [(346, .i)] (.int .i64 (.v 346)) .same
(.ite (.eq (.v 346) (.k 1))
(.ite (.eq (.v 87) (.k 0))
(.ite (.eq (.v 141) (.k 5))
(.ite (.eq (.v 182) (.k 2))
(.ite (.eq (.v 166) (.k 5))
(.chk (.le (.k 0) (.v 194))
(.ite (.eq (.v 194) (.k 0))
(.ite (.eq (.v 263) (.k 0))
(.ret (.bool (.eq (.v 238) (.k 5))) [])
(.ret (.bool (.k false)) []))
(.ret (.bool (.k false)) [])))
(.ret (.bool (.k false)) []))
(.ret (.bool (.k false)) []))
(.ret (.bool (.k false)) []))
(.ret (.bool (.k false)) []))
(.ret (.bool (.k false)) [])))
(.ret (.bool (.k false)) []))))
(.ret (.bool (.k false)) []))
(.ret (.bool (.k false)) []))
(.ret (.bool (.k false)) []))
(.ret (.bool (.k false)) []))
(.ret (.bool (.k false)) []))
(.ret (.bool (.k false)) []))))))))))))))))))
theorem x_groupBegun (M : Nat → Prop) (H0 : Hp) (W0 : World) (R : Ending → World → Prop) (hH : H0.le (hpOf W0)) (h :
 (Cl Try.prog W0 M H0 nK 49 #[] fun z W1 W2 => ∃ x0 : Int, ∃ x1 : Int, ∃ x2 : Int, ∃ x3 : Int, ∃ x4 : Int, ∃ x5 : Int, ∃ x6 : Option Loc, ∃ x7 : Nat, ∃ x8 : Nat, ∃ x9 : Option Loc, ∃ x10 : Nat, ∃ x11 : Nat, ∃ x12 : Int, ∃ x13 : Int, ∃ x14 : Int, ∃ x15 : Int, ∃ x16 : Int, ∃ x17 : Int, ∃ x18 : Option Loc, ∃ x19 : Nat, ∃ x20 : Nat, ∃ x21 : Int, ∃ x22 : Int, ∃ x23 : Int, ∃ x24 : Int, ∃ x25 : Int, ∃ x26 : Int, ∃ x27 : Option Loc, ∃ x28 : Nat, ∃ x29 : Nat, ∃ x30 : Int, ∃ x31 : Int, ∃ x32 : Int, ∃ x33 : Int, ∃ x34 : Int, ∃ x35 : Int, ∃ x36 : Option Loc, ∃ x37 : Nat, ∃ x38 : Nat, z = .returned (Value.agg #[vi x0, vi x1, vi x2, vi x3, vi x4, vi x5, vsl x6 x7 x8, vsl x9 x10 x11, vi x12, vi x13, vi x14, vi x15, vi x16, vi x17, vsl x18 x19 x20, vi x21, vi x22, vi x23, vi x24, vi x25, vi x26, vsl x27 x28 x29, vi x30, vi x31, vi x32, vi x33, vi x34, vi x35, vsl x36 x37 x38]) ∧ Fr W1 W2 H0 fun H1 =>
 (Cl Try.prog W0 M H1 nK 24 #[vi 1, vi 1] fun z W3 W4 => ∃ x39 : Int, ∃ x40 : Int, ∃ x41 : Int, ∃ x42 : Int, ∃ x43 : Int, ∃ x44 : Int, ∃ x45 : Int, ∃ x46 : Int, ∃ x47 : Int, z = .returned (Value.agg #[vi x39, vi x40, vi x41, vi x42, vi x43, vi x44, vi x45, vi x46, vi x47]) ∧ Ext W3 W4 ∧
 (Cl Try.prog W0 M H1 nK 21 #[Value.agg #[vi x0, vi x1, vi x2, vi x3, vi x4, vi x5, vsl x6 x7 x8, vsl x9 x10 x11, vi x12, vi x13, vi x14, vi x15, vi x16, vi x17, vsl x18 x19 x20, vi x21, vi x22, vi x23, vi x24, vi x25, vi x26, vsl x27 x28 x29, vi x30, vi x31, vi x32, vi x33, vi x34, vi x35, vsl x36 x37 x38], Value.agg #[vi x39, vi x40, vi x41, vi x42, vi x43, vi x44, vi x45, vi x46, vi x47]] fun z W5 W6 => ∃ x48 : Int, ∃ x49 : Int, ∃ x50 : Int, ∃ x51 : Int, ∃ x52 : Int, ∃ x53 : Int, ∃ x54 : Option Loc, ∃ x55 : Nat, ∃ x56 : Nat, ∃ x57 : Option Loc, ∃ x58 : Nat, ∃ x59 : Nat, ∃ x60 : Int, ∃ x61 : Int, ∃ x62 : Int, ∃ x63 : Int, ∃ x64 : Int, ∃ x65 : Int, ∃ x66 : Option Loc, ∃ x67 : Nat, ∃ x68 : Nat, ∃ x69 : Int, ∃ x70 : Int, ∃ x71 : Int, ∃ x72 : Int, ∃ x73 : Int, ∃ x74 : Int, ∃ x75 : Option Loc, ∃ x76 : Nat, ∃ x77 : Nat, ∃ x78 : Int, ∃ x79 : Int, ∃ x80 : Int, ∃ x81 : Int, ∃ x82 : Int, ∃ x83 : Int, ∃ x84 : Option Loc, ∃ x85 : Nat, ∃ x86 : Nat, ∃ x87 : Int, ∃ x88 : Int, z = .returned (Value.tuple #[Value.agg #[vi x48, vi x49, vi x50, vi x51, vi x52, vi x53, vsl x54 x55 x56, vsl x57 x58 x59, vi x60, vi x61, vi x62, vi x63, vi x64, vi x65, vsl x66 x67 x68, vi x69, vi x70, vi x71, vi x72, vi x73, vi x74, vsl x75 x76 x77, vi x78, vi x79, vi x80, vi x81, vi x82, vi x83, vsl x84 x85 x86], vi x87, vi x88]) ∧ Fr W5 W6 H1 fun H2 =>
 (∀ b0 : Nat,
 (Cl Try.prog W0 M H2 nK 51 #[vi 5] fun z W7 W8 => ∃ x89 : Int, ∃ x90 : Int, ∃ x91 : Int, ∃ x92 : Int, z = .returned (Value.agg #[vi x89, vi x90, vi x91, vi x92]) ∧ Ext W7 W8 ∧
 (Cl Try.prog W0 M H2 nK 50 #[vi 2, vi 1, vi 1, vi 0, Value.agg #[vi x89, vi x90, vi x91, vi x92]] fun z W9 W10 => ∃ x93 : Int, ∃ x94 : Int, ∃ x95 : Int, ∃ x96 : Int, ∃ x97 : Int, ∃ x98 : Int, ∃ x99 : Int, ∃ x100 : Int, ∃ x101 : Int, z = .returned (Value.agg #[vi x93, vi x94, vi x95, vi x96, vi x97, vi x98, vi x99, vi x100, vi x101]) ∧ Ext W9 W10 ∧
 (Cl Try.prog W0 M H2 nK 21 #[Value.agg #[vi x48, vi x49, vi x50, vi x51, vi x52, vi x53, vsl x54 x55 x56, vsl x57 x58 x59, vi x60, vi x61, vi x62, vi x63, vi x64, vi x65, vsl x66 x67 x68, vi x69, vi x70, vi x71, vi x72, vi x73, vi x74, vsl x75 x76 x77, vi x78, vi x79, vi x80, vi x81, vi x82, vi x83, vsl x84 x85 x86], Value.agg #[vi x93, vi x94, vi x95, vi x96, vi x97, vi x98, vi x99, vi x100, vi x101]] fun z W11 W12 => ∃ x102 : Int, ∃ x103 : Int, ∃ x104 : Int, ∃ x105 : Int, ∃ x106 : Int, ∃ x107 : Int, ∃ x108 : Option Loc, ∃ x109 : Nat, ∃ x110 : Nat, ∃ x111 : Option Loc, ∃ x112 : Nat, ∃ x113 : Nat, ∃ x114 : Int, ∃ x115 : Int, ∃ x116 : Int, ∃ x117 : Int, ∃ x118 : Int, ∃ x119 : Int, ∃ x120 : Option Loc, ∃ x121 : Nat, ∃ x122 : Nat, ∃ x123 : Int, ∃ x124 : Int, ∃ x125 : Int, ∃ x126 : Int, ∃ x127 : Int, ∃ x128 : Int, ∃ x129 : Option Loc, ∃ x130 : Nat, ∃ x131 : Nat, ∃ x132 : Int, ∃ x133 : Int, ∃ x134 : Int, ∃ x135 : Int, ∃ x136 : Int, ∃ x137 : Int, ∃ x138 : Option Loc, ∃ x139 : Nat, ∃ x140 : Nat, ∃ x141 : Int, ∃ x142 : Int, z = .returned (Value.tuple #[Value.agg #[vi x102, vi x103, vi x104, vi x105, vi x106, vi x107, vsl x108 x109 x110, vsl x111 x112 x113, vi x114, vi x115, vi x116, vi x117, vi x118, vi x119, vsl x120 x121 x122, vi x123, vi x124, vi x125, vi x126, vi x127, vi x128, vsl x129 x130 x131, vi x132, vi x133, vi x134, vi x135, vi x136, vi x137, vsl x138 x139 x140], vi x141, vi x142]) ∧ Fr W11 W12 H2 fun H3 =>
 (Cl Try.prog W0 M H3 nK 22 #[Value.agg #[vi x102, vi x103, vi x104, vi x105, vi x106, vi x107, vsl x108 x109 x110, vsl x111 x112 x113, vi x114, vi x115, vi x116, vi x117, vi x118, vi x119, vsl x120 x121 x122, vi x123, vi x124, vi x125, vi x126, vi x127, vi x128, vsl x129 x130 x131, vi x132, vi x133, vi x134, vi x135, vi x136, vi x137, vsl x138 x139 x140], vi 1, vi 9] fun z W13 W14 => ∃ x143 : Int, ∃ x144 : Int, ∃ x145 : Int, ∃ x146 : Int, ∃ x147 : Int, ∃ x148 : Int, ∃ x149 : Option Loc, ∃ x150 : Nat, ∃ x151 : Nat, ∃ x152 : Option Loc, ∃ x153 : Nat, ∃ x154 : Nat, ∃ x155 : Int, ∃ x156 : Int, ∃ x157 : Int, ∃ x158 : Int, ∃ x159 : Int, ∃ x160 : Int, ∃ x161 : Option Loc, ∃ x162 : Nat, ∃ x163 : Nat, ∃ x164 : Int, ∃ x165 : Int, ∃ x166 : Int, ∃ x167 : Int, ∃ x168 : Int, ∃ x169 : Int, ∃ x170 : Option Loc, ∃ x171 : Nat, ∃ x172 : Nat, ∃ x173 : Int, ∃ x174 : Int, ∃ x175 : Int, ∃ x176 : Int, ∃ x177 : Int, ∃ x178 : Int, ∃ x179 : Option Loc, ∃ x180 : Nat, ∃ x181 : Nat, ∃ x182 : Int, ∃ x183 : Int, z = .returned (Value.tuple #[Value.agg #[vi x143, vi x144, vi x145, vi x146, vi x147, vi x148, vsl x149 x150 x151, vsl x152 x153 x154, vi x155, vi x156, vi x157, vi x158, vi x159, vi x160, vsl x161 x162 x163, vi x164, vi x165, vi x166, vi x167, vi x168, vi x169, vsl x170 x171 x172, vi x173, vi x174, vi x175, vi x176, vi x177, vi x178, vsl x179 x180 x181], vi x182, vi x183]) ∧ Fr W13 W14 H3 fun H4 =>
 (∀ b1 : Nat,
 (Cl Try.prog W0 M H4 nK 23 #[Value.agg #[vi x143, vi x144, vi x145, vi x146, vi x147, vi x148, vsl x149 x150 x151, vsl x152 x153 x154, vi x155, vi x156, vi x157, vi x158, vi x159, vi x160, vsl x161 x162 x163, vi x164, vi x165, vi x166, vi x167, vi x168, vi x169, vsl x170 x171 x172, vi x173, vi x174, vi x175, vi x176, vi x177, vi x178, vsl x179 x180 x181], vi 2] fun z W15 W16 => ∃ x184 : Int, ∃ x185 : Int, ∃ x186 : Int, ∃ x187 : Int, ∃ x188 : Int, ∃ x189 : Int, ∃ x190 : Option Loc, ∃ x191 : Nat, ∃ x192 : Nat, ∃ x193 : Option Loc, ∃ x194 : Nat, ∃ x195 : Nat, ∃ x196 : Int, ∃ x197 : Int, ∃ x198 : Int, ∃ x199 : Int, ∃ x200 : Int, ∃ x201 : Int, ∃ x202 : Option Loc, ∃ x203 : Nat, ∃ x204 : Nat, ∃ x205 : Int, ∃ x206 : Int, ∃ x207 : Int, ∃ x208 : Int, ∃ x209 : Int, ∃ x210 : Int, ∃ x211 : Option Loc, ∃ x212 : Nat, ∃ x213 : Nat, ∃ x214 : Int, ∃ x215 : Int, ∃ x216 : Int, ∃ x217 : Int, ∃ x218 : Int, ∃ x219 : Int, ∃ x220 : Option Loc, ∃ x221 : Nat, ∃ x222 : Nat, ∃ x223 : Int, z = .returned (Value.tuple #[Value.agg #[vi x184, vi x185, vi x186, vi x187, vi x188, vi x189, vsl x190 x191 x192, vsl x193 x194 x195, vi x196, vi x197, vi x198, vi x199, vi x200, vi x201, vsl x202 x203 x204, vi x205, vi x206, vi x207, vi x208, vi x209, vi x210, vsl x211 x212 x213, vi x214, vi x215, vi x216, vi x217, vi x218, vi x219, vsl x220 x221 x222], vi x223]) ∧ Fr W15 W16 H4 fun H5 =>
 (∀ b2 : Nat,
 (Cl Try.prog W0 M H5 nK 22 #[Value.agg #[vi x184, vi x185, vi x186, vi x187, vi x188, vi x189, vsl x190 x191 x192, vsl x193 x194 x195, vi x196, vi x197, vi x198, vi x199, vi x200, vi x201, vsl x202 x203 x204, vi x205, vi x206, vi x207, vi x208, vi x209, vi x210, vsl x211 x212 x213, vi x214, vi x215, vi x216, vi x217, vi x218, vi x219, vsl x220 x221 x222], vi 0, vi 0] fun z W17 W18 => ∃ x224 : Int, ∃ x225 : Int, ∃ x226 : Int, ∃ x227 : Int, ∃ x228 : Int, ∃ x229 : Int, ∃ x230 : Option Loc, ∃ x231 : Nat, ∃ x232 : Nat, ∃ x233 : Option Loc, ∃ x234 : Nat, ∃ x235 : Nat, ∃ x236 : Int, ∃ x237 : Int, ∃ x238 : Int, ∃ x239 : Int, ∃ x240 : Int, ∃ x241 : Int, ∃ x242 : Option Loc, ∃ x243 : Nat, ∃ x244 : Nat, ∃ x245 : Int, ∃ x246 : Int, ∃ x247 : Int, ∃ x248 : Int, ∃ x249 : Int, ∃ x250 : Int, ∃ x251 : Option Loc, ∃ x252 : Nat, ∃ x253 : Nat, ∃ x254 : Int, ∃ x255 : Int, ∃ x256 : Int, ∃ x257 : Int, ∃ x258 : Int, ∃ x259 : Int, ∃ x260 : Option Loc, ∃ x261 : Nat, ∃ x262 : Nat, ∃ x263 : Int, ∃ x264 : Int, z = .returned (Value.tuple #[Value.agg #[vi x224, vi x225, vi x226, vi x227, vi x228, vi x229, vsl x230 x231 x232, vsl x233 x234 x235, vi x236, vi x237, vi x238, vi x239, vi x240, vi x241, vsl x242 x243 x244, vi x245, vi x246, vi x247, vi x248, vi x249, vi x250, vsl x251 x252 x253, vi x254, vi x255, vi x256, vi x257, vi x258, vi x259, vsl x260 x261 x262], vi x263, vi x264]) ∧ Fr W17 W18 H5 fun H6 =>
 (∀ b3 : Nat,
 (Cl Try.prog W0 M H6 nK 22 #[Value.agg #[vi x184, vi x185, vi x186, vi x187, vi x188, vi x189, vsl x190 x191 x192, vsl x193 x194 x195, vi x196, vi x197, vi x198, vi x199, vi x200, vi x201, vsl x202 x203 x204, vi x205, vi x206, vi x207, vi x208, vi x209, vi x210, vsl x211 x212 x213, vi x214, vi x215, vi x216, vi x217, vi x218, vi x219, vsl x220 x221 x222], vi 3, vi 0] fun z W19 W20 => ∃ x265 : Int, ∃ x266 : Int, ∃ x267 : Int, ∃ x268 : Int, ∃ x269 : Int, ∃ x270 : Int, ∃ x271 : Option Loc, ∃ x272 : Nat, ∃ x273 : Nat, ∃ x274 : Option Loc, ∃ x275 : Nat, ∃ x276 : Nat, ∃ x277 : Int, ∃ x278 : Int, ∃ x279 : Int, ∃ x280 : Int, ∃ x281 : Int, ∃ x282 : Int, ∃ x283 : Option Loc, ∃ x284 : Nat, ∃ x285 : Nat, ∃ x286 : Int, ∃ x287 : Int, ∃ x288 : Int, ∃ x289 : Int, ∃ x290 : Int, ∃ x291 : Int, ∃ x292 : Option Loc, ∃ x293 : Nat, ∃ x294 : Nat, ∃ x295 : Int, ∃ x296 : Int, ∃ x297 : Int, ∃ x298 : Int, ∃ x299 : Int, ∃ x300 : Int, ∃ x301 : Option Loc, ∃ x302 : Nat, ∃ x303 : Nat, ∃ x304 : Int, ∃ x305 : Int, z = .returned (Value.tuple #[Value.agg #[vi x265, vi x266, vi x267, vi x268, vi x269, vi x270, vsl x271 x272 x273, vsl x274 x275 x276, vi x277, vi x278, vi x279, vi x280, vi x281, vi x282, vsl x283 x284 x285, vi x286, vi x287, vi x288, vi x289, vi x290, vi x291, vsl x292 x293 x294, vi x295, vi x296, vi x297, vi x298, vi x299, vi x300, vsl x301 x302 x303], vi x304, vi x305]) ∧ Fr W19 W20 H6 fun H7 =>
 (∀ b4 : Nat,
 (∀ b5 : Nat,
 ((x88 = 0 →
  ((x142 = 0 →
   ((x183 = 0 →
    ((x223 = 0 →
     ((x264 = 0 →
      ((x305 = 3 →
       (Cl Try.prog W0 M H7 nK 49 #[] fun z W21 W22 => ∃ x306 : Int, ∃ x307 : Int, ∃ x308 : Int, ∃ x309 : Int, ∃ x310 : Int, ∃ x311 : Int, ∃ x312 : Option Loc, ∃ x313 : Nat, ∃ x314 : Nat, ∃ x315 : Option Loc, ∃ x316 : Nat, ∃ x317 : Nat, ∃ x318 : Int, ∃ x319 : Int, ∃ x320 : Int, ∃ x321 : Int, ∃ x322 : Int, ∃ x323 : Int, ∃ x324 : Option Loc, ∃ x325 : Nat, ∃ x326 : Nat, ∃ x327 : Int, ∃ x328 : Int, ∃ x329 : Int, ∃ x330 : Int, ∃ x331 : Int, ∃ x332 : Int, ∃ x333 : Option Loc, ∃ x334 : Nat, ∃ x335 : Nat, ∃ x336 : Int, ∃ x337 : Int, ∃ x338 : Int, ∃ x339 : Int, ∃ x340 : Int, ∃ x341 : Int, ∃ x342 : Option Loc, ∃ x343 : Nat, ∃ x344 : Nat, z = .returned (Value.agg #[vi x306, vi x307, vi x308, vi x309, vi x310, vi x311, vsl x312 x313 x314, vsl x315 x316 x317, vi x318, vi x319, vi x320, vi x321, vi x322, vi x323, vsl x324 x325 x326, vi x327, vi x328, vi x329, vi x330, vi x331, vi x332, vsl x333 x334 x335, vi x336, vi x337, vi x338, vi x339, vi x340, vi x341, vsl x342 x343 x344]) ∧ Fr W21 W22 H7 fun H8 =>
       (Cl Try.prog W0 M H8 nK 19 #[Value.agg #[vi x306, vi x307, vi x308, vi x309, vi x310, vi x311, vsl x312 x313 x314, vsl x315 x316 x317, vi x318, vi x319, vi x320, vi x321, vi x322, vi x323, vsl x324 x325 x326, vi x327, vi x328, vi x329, vi x330, vi x331, vi x332, vsl x333 x334 x335, vi x336, vi x337, vi x338, vi x339, vi x340, vi x341, vsl x342 x343 x344]] fun z W23 W24 => ∃ x345 : Int, z = .returned (vi x345) ∧ Ext W23 W24 ∧
       ((x345 = 0 →
        (Cl Try.prog W0 M H8 nK 19 #[Value.agg #[vi x143, vi x144, vi x145, vi x146, vi x147, vi x148, vsl x149 x150 x151, vsl x152 x153 x154, vi x155, vi x156, vi x157, vi x158, vi x159, vi x160, vsl x161 x162 x163, vi x164, vi x165, vi 4, vi x167, vi x168, vi x169, vsl x170 x171 x172, vi x173, vi x174, vi x175, vi x176, vi x177, vi x178, vsl x179 x180 x181]] fun z W25 W26 => ∃ x346 : Int, z = .returned (vi x346) ∧ Ext W25 W26 ∧
        ((x346 = 1 →
         ((x87 = 0 →
          ((x141 = 5 →
           ((x182 = 2 →
            ((x166 = 5 →
             (0 ≤ (x194 : Int) ∧ (0 ≤ (x194 : Int) →
             (((x194 : Int) = 0 →
              ((x263 = 0 →
               Rt R W0 M H8 nK (vb (decide (x238 = 5)))) ∧
              (¬ (x263 = 0) →
               Rt R W0 M H8 nK (vb (false))))) ∧
             (¬ ((x194 : Int) = 0) →
              Rt R W0 M H8 nK (vb (false))))))) ∧
            (¬ (x166 = 5) →
             Rt R W0 M H8 nK (vb (false))))) ∧
           (¬ (x182 = 2) →
            Rt R W0 M H8 nK (vb (false))))) ∧
          (¬ (x141 = 5) →
           Rt R W0 M H8 nK (vb (false))))) ∧
         (¬ (x87 = 0) →
          Rt R W0 M H8 nK (vb (false))))) ∧
        (¬ (x346 = 1) →
         Rt R W0 M H8 nK (vb (false)))))) ∧
       (¬ (x345 = 0) →
        Rt R W0 M H8 nK (vb (false))))))) ∧
      (¬ (x305 = 3) →
       Rt R W0 M H7 nK (vb (false))))) ∧
     (¬ (x264 = 0) →
      Rt R W0 M H7 nK (vb (false))))) ∧
    (¬ (x223 = 0) →
     Rt R W0 M H7 nK (vb (false))))) ∧
   (¬ (x183 = 0) →
    Rt R W0 M H7 nK (vb (false))))) ∧
  (¬ (x142 = 0) →
   Rt R W0 M H7 nK (vb (false))))) ∧
 (¬ (x88 = 0) →
  Rt R W0 M H7 nK (vb (false))))))))))))))))))))) :
  Calls Try.prog 20 #[] W0 R :=
  calls_sxA (M := M) (V := v_groupBegun) (hi := {}) (args := []) (nv := 0) (e := (fun _ => .i 0)) Try.func20 hH h (by kernel_rfl) (by kernel_rfl) (by kernel_rfl)
def v_groupTrue : VC :=
(.all 0
(.all 1
(.call 19 [.agg [.int .i64 (.v 0), .int .i64 (.v 1), .int .i64 (.v 2), .int .i64 (.v 3), .int .i64 (.v 4), .int .i64 (.v 5), .slO 6 (.k 0) (.v 7) (.v 8), .slO 9 (.k 0) (.v 10) (.v 11), .int .i64 (.v 12), .int .i64 (.v 13), .int .i64 (.v 14), .int .i64 (.v 15), .int .i64 (.v 16), .int .i64 (.v 17), .slO 18 (.k 0) (.v 19) (.v 20), .int .i64 (.v 21), .int .i64 (.v 22), .int .i64 (.v 23), .int .i64 (.v 24), .int .i64 (.v 25), .int .i64 (.v 26), .slO 27 (.k 0) (.v 28) (.v 29), .int .i64 (.v 30), .int .i64 (.v 31), .int .i64 (.v 32), .int .i64 (.v 33), .int .i64 (.v 34), .int .i64 (.v 35), .slO 36 (.k 0) (.v 37) (.v 38)]] [] [(50, .i)] (.int .i64 (.v 50)) .same
(.ite (.eq (.v 50) (.k 0))
(.loop [(51, .n)] [.n (.k 0)] [.n (.v 51)]
(.ite (.lt (.v 51) (.k 3))
(.loop [(52, .n)] [.n (.k 0)] [.n (.v 52)]
(.ite (.lt (.v 52) (.k 3))
(.chk (.idx (.v 51) (.k 3))
(.imp (.eq (.v 51) (.k 0))
(.chk (.idx (.v 52) (.k 3))
(.imp (.eq (.v 52) (.k 0))
(.ite (.eq (.v 12) (.v 12))
(.ite (.le (.v 0) (.v 12))
(.call 14 [.agg [.int .i64 (.v 12), .int .i64 (.v 13), .int .i64 (.v 14), .int .i64 (.v 15), .int .i64 (.v 16), .int .i64 (.v 17), .slO 18 (.k 0) (.v 19) (.v 20)], .agg [.int .i64 (.v 12), .int .i64 (.v 13), .int .i64 (.v 14), .int .i64 (.v 15), .int .i64 (.v 16), .int .i64 (.v 17), .slO 18 (.k 0) (.v 19) (.v 20)]] [] [(53, .b)] (.bool (.v 53)) .same
(.ite (.v 53)
(.chk (.rng .i64 (.add (.v 52) (.k 1)))
(.chk (.le (.k 0) (.add (.v 52) (.k 1)))
(.back 0 [.n (.add (.v 52) (.k 1))])))
(.ret (.bool (.k false)) [])))
(.chk (.rng .i64 (.add (.v 52) (.k 1)))
(.chk (.le (.k 0) (.add (.v 52) (.k 1)))
(.back 0 [.n (.add (.v 52) (.k 1))]))))
(.chk (.rng .i64 (.add (.v 52) (.k 1)))
(.chk (.le (.k 0) (.add (.v 52) (.k 1)))
(.back 0 [.n (.add (.v 52) (.k 1))]))))
(.imp (.eq (.v 52) (.k 1))
(.ite (.eq (.v 12) (.v 21))
(.ite (.le (.v 0) (.v 12))
(.call 14 [.agg [.int .i64 (.v 12), .int .i64 (.v 13), .int .i64 (.v 14), .int .i64 (.v 15), .int .i64 (.v 16), .int .i64 (.v 17), .slO 18 (.k 0) (.v 19) (.v 20)], .agg [.int .i64 (.v 21), .int .i64 (.v 22), .int .i64 (.v 23), .int .i64 (.v 24), .int .i64 (.v 25), .int .i64 (.v 26), .slO 27 (.k 0) (.v 28) (.v 29)]] [] [(53, .b)] (.bool (.v 53)) .same
(.ite (.v 53)
(.chk (.rng .i64 (.add (.v 52) (.k 1)))
(.chk (.le (.k 0) (.add (.v 52) (.k 1)))
(.back 0 [.n (.add (.v 52) (.k 1))])))
(.ret (.bool (.k false)) [])))
(.chk (.rng .i64 (.add (.v 52) (.k 1)))
(.chk (.le (.k 0) (.add (.v 52) (.k 1)))
(.back 0 [.n (.add (.v 52) (.k 1))]))))
(.chk (.rng .i64 (.add (.v 52) (.k 1)))
(.chk (.le (.k 0) (.add (.v 52) (.k 1)))
(.back 0 [.n (.add (.v 52) (.k 1))]))))
(.imp (.eq (.v 52) (.k 2))
(.ite (.eq (.v 12) (.v 30))
(.ite (.le (.v 0) (.v 12))
(.call 14 [.agg [.int .i64 (.v 12), .int .i64 (.v 13), .int .i64 (.v 14), .int .i64 (.v 15), .int .i64 (.v 16), .int .i64 (.v 17), .slO 18 (.k 0) (.v 19) (.v 20)], .agg [.int .i64 (.v 30), .int .i64 (.v 31), .int .i64 (.v 32), .int .i64 (.v 33), .int .i64 (.v 34), .int .i64 (.v 35), .slO 36 (.k 0) (.v 37) (.v 38)]] [] [(53, .b)] (.bool (.v 53)) .same
(.ite (.v 53)
(.chk (.rng .i64 (.add (.v 52) (.k 1)))
(.chk (.le (.k 0) (.add (.v 52) (.k 1)))
(.back 0 [.n (.add (.v 52) (.k 1))])))
(.ret (.bool (.k false)) [])))
(.chk (.rng .i64 (.add (.v 52) (.k 1)))
(.chk (.le (.k 0) (.add (.v 52) (.k 1)))
(.back 0 [.n (.add (.v 52) (.k 1))]))))
(.chk (.rng .i64 (.add (.v 52) (.k 1)))
(.chk (.le (.k 0) (.add (.v 52) (.k 1)))
(.back 0 [.n (.add (.v 52) (.k 1))]))))
.tt))))
(.imp (.eq (.v 51) (.k 1))
(.chk (.idx (.v 52) (.k 3))
(.imp (.eq (.v 52) (.k 0))
(.ite (.eq (.v 21) (.v 12))
(.ite (.le (.v 0) (.v 21))
(.call 14 [.agg [.int .i64 (.v 21), .int .i64 (.v 22), .int .i64 (.v 23), .int .i64 (.v 24), .int .i64 (.v 25), .int .i64 (.v 26), .slO 27 (.k 0) (.v 28) (.v 29)], .agg [.int .i64 (.v 12), .int .i64 (.v 13), .int .i64 (.v 14), .int .i64 (.v 15), .int .i64 (.v 16), .int .i64 (.v 17), .slO 18 (.k 0) (.v 19) (.v 20)]] [] [(53, .b)] (.bool (.v 53)) .same
(.ite (.v 53)
(.chk (.rng .i64 (.add (.v 52) (.k 1)))
(.chk (.le (.k 0) (.add (.v 52) (.k 1)))
(.back 0 [.n (.add (.v 52) (.k 1))])))
(.ret (.bool (.k false)) [])))
(.chk (.rng .i64 (.add (.v 52) (.k 1)))
(.chk (.le (.k 0) (.add (.v 52) (.k 1)))
(.back 0 [.n (.add (.v 52) (.k 1))]))))
(.chk (.rng .i64 (.add (.v 52) (.k 1)))
(.chk (.le (.k 0) (.add (.v 52) (.k 1)))
(.back 0 [.n (.add (.v 52) (.k 1))]))))
(.imp (.eq (.v 52) (.k 1))
(.ite (.eq (.v 21) (.v 21))
(.ite (.le (.v 0) (.v 21))
(.call 14 [.agg [.int .i64 (.v 21), .int .i64 (.v 22), .int .i64 (.v 23), .int .i64 (.v 24), .int .i64 (.v 25), .int .i64 (.v 26), .slO 27 (.k 0) (.v 28) (.v 29)], .agg [.int .i64 (.v 21), .int .i64 (.v 22), .int .i64 (.v 23), .int .i64 (.v 24), .int .i64 (.v 25), .int .i64 (.v 26), .slO 27 (.k 0) (.v 28) (.v 29)]] [] [(53, .b)] (.bool (.v 53)) .same
(.ite (.v 53)
(.chk (.rng .i64 (.add (.v 52) (.k 1)))
(.chk (.le (.k 0) (.add (.v 52) (.k 1)))
(.back 0 [.n (.add (.v 52) (.k 1))])))
(.ret (.bool (.k false)) [])))
(.chk (.rng .i64 (.add (.v 52) (.k 1)))
(.chk (.le (.k 0) (.add (.v 52) (.k 1)))
(.back 0 [.n (.add (.v 52) (.k 1))]))))
(.chk (.rng .i64 (.add (.v 52) (.k 1)))
(.chk (.le (.k 0) (.add (.v 52) (.k 1)))
(.back 0 [.n (.add (.v 52) (.k 1))]))))
(.imp (.eq (.v 52) (.k 2))
(.ite (.eq (.v 21) (.v 30))
(.ite (.le (.v 0) (.v 21))
(.call 14 [.agg [.int .i64 (.v 21), .int .i64 (.v 22), .int .i64 (.v 23), .int .i64 (.v 24), .int .i64 (.v 25), .int .i64 (.v 26), .slO 27 (.k 0) (.v 28) (.v 29)], .agg [.int .i64 (.v 30), .int .i64 (.v 31), .int .i64 (.v 32), .int .i64 (.v 33), .int .i64 (.v 34), .int .i64 (.v 35), .slO 36 (.k 0) (.v 37) (.v 38)]] [] [(53, .b)] (.bool (.v 53)) .same
(.ite (.v 53)
(.chk (.rng .i64 (.add (.v 52) (.k 1)))
(.chk (.le (.k 0) (.add (.v 52) (.k 1)))
(.back 0 [.n (.add (.v 52) (.k 1))])))
(.ret (.bool (.k false)) [])))
(.chk (.rng .i64 (.add (.v 52) (.k 1)))
(.chk (.le (.k 0) (.add (.v 52) (.k 1)))
(.back 0 [.n (.add (.v 52) (.k 1))]))))
(.chk (.rng .i64 (.add (.v 52) (.k 1)))
(.chk (.le (.k 0) (.add (.v 52) (.k 1)))
(.back 0 [.n (.add (.v 52) (.k 1))]))))
.tt))))
(.imp (.eq (.v 51) (.k 2))
(.chk (.idx (.v 52) (.k 3))
(.imp (.eq (.v 52) (.k 0))
(.ite (.eq (.v 30) (.v 12))
(.ite (.le (.v 0) (.v 30))
(.call 14 [.agg [.int .i64 (.v 30), .int .i64 (.v 31), .int .i64 (.v 32), .int .i64 (.v 33), .int .i64 (.v 34), .int .i64 (.v 35), .slO 36 (.k 0) (.v 37) (.v 38)], .agg [.int .i64 (.v 12), .int .i64 (.v 13), .int .i64 (.v 14), .int .i64 (.v 15), .int .i64 (.v 16), .int .i64 (.v 17), .slO 18 (.k 0) (.v 19) (.v 20)]] [] [(53, .b)] (.bool (.v 53)) .same
(.ite (.v 53)
(.chk (.rng .i64 (.add (.v 52) (.k 1)))
(.chk (.le (.k 0) (.add (.v 52) (.k 1)))
(.back 0 [.n (.add (.v 52) (.k 1))])))
(.ret (.bool (.k false)) [])))
(.chk (.rng .i64 (.add (.v 52) (.k 1)))
(.chk (.le (.k 0) (.add (.v 52) (.k 1)))
(.back 0 [.n (.add (.v 52) (.k 1))]))))
(.chk (.rng .i64 (.add (.v 52) (.k 1)))
(.chk (.le (.k 0) (.add (.v 52) (.k 1)))
(.back 0 [.n (.add (.v 52) (.k 1))]))))
(.imp (.eq (.v 52) (.k 1))
(.ite (.eq (.v 30) (.v 21))
(.ite (.le (.v 0) (.v 30))
(.call 14 [.agg [.int .i64 (.v 30), .int .i64 (.v 31), .int .i64 (.v 32), .int .i64 (.v 33), .int .i64 (.v 34), .int .i64 (.v 35), .slO 36 (.k 0) (.v 37) (.v 38)], .agg [.int .i64 (.v 21), .int .i64 (.v 22), .int .i64 (.v 23), .int .i64 (.v 24), .int .i64 (.v 25), .int .i64 (.v 26), .slO 27 (.k 0) (.v 28) (.v 29)]] [] [(53, .b)] (.bool (.v 53)) .same
(.ite (.v 53)
(.chk (.rng .i64 (.add (.v 52) (.k 1)))
(.chk (.le (.k 0) (.add (.v 52) (.k 1)))
(.back 0 [.n (.add (.v 52) (.k 1))])))
(.ret (.bool (.k false)) [])))
(.chk (.rng .i64 (.add (.v 52) (.k 1)))
(.chk (.le (.k 0) (.add (.v 52) (.k 1)))
(.back 0 [.n (.add (.v 52) (.k 1))]))))
(.chk (.rng .i64 (.add (.v 52) (.k 1)))
(.chk (.le (.k 0) (.add (.v 52) (.k 1)))
(.back 0 [.n (.add (.v 52) (.k 1))]))))
(.imp (.eq (.v 52) (.k 2))
(.ite (.eq (.v 30) (.v 30))
(.ite (.le (.v 0) (.v 30))
(.call 14 [.agg [.int .i64 (.v 30), .int .i64 (.v 31), .int .i64 (.v 32), .int .i64 (.v 33), .int .i64 (.v 34), .int .i64 (.v 35), .slO 36 (.k 0) (.v 37) (.v 38)], .agg [.int .i64 (.v 30), .int .i64 (.v 31), .int .i64 (.v 32), .int .i64 (.v 33), .int .i64 (.v 34), .int .i64 (.v 35), .slO 36 (.k 0) (.v 37) (.v 38)]] [] [(53, .b)] (.bool (.v 53)) .same
(.ite (.v 53)
(.chk (.rng .i64 (.add (.v 52) (.k 1)))
(.chk (.le (.k 0) (.add (.v 52) (.k 1)))
(.back 0 [.n (.add (.v 52) (.k 1))])))
(.ret (.bool (.k false)) [])))
(.chk (.rng .i64 (.add (.v 52) (.k 1)))
(.chk (.le (.k 0) (.add (.v 52) (.k 1)))
(.back 0 [.n (.add (.v 52) (.k 1))]))))
(.chk (.rng .i64 (.add (.v 52) (.k 1)))
(.chk (.le (.k 0) (.add (.v 52) (.k 1)))
(.back 0 [.n (.add (.v 52) (.k 1))]))))
.tt))))
.tt))))
(.chk (.rng .i64 (.add (.v 51) (.k 1)))
(.chk (.le (.k 0) (.add (.v 51) (.k 1)))
(.back 1 [.n (.add (.v 51) (.k 1))])))))
(.call 21 [.agg [.int .i64 (.v 0), .int .i64 (.v 1), .int .i64 (.v 2), .int .i64 (.v 3), .int .i64 (.v 4), .int .i64 (.v 5), .slO 6 (.k 0) (.v 7) (.v 8), .slO 9 (.k 0) (.v 10) (.v 11), .int .i64 (.v 12), .int .i64 (.v 13), .int .i64 (.v 14), .int .i64 (.v 15), .int .i64 (.v 16), .int .i64 (.v 17), .slO 18 (.k 0) (.v 19) (.v 20), .int .i64 (.v 21), .int .i64 (.v 22), .int .i64 (.v 23), .int .i64 (.v 24), .int .i64 (.v 25), .int .i64 (.v 26), .slO 27 (.k 0) (.v 28) (.v 29), .int .i64 (.v 30), .int .i64 (.v 31), .int .i64 (.v 32), .int .i64 (.v 33), .int .i64 (.v 34), .int .i64 (.v 35), .slO 36 (.k 0) (.v 37) (.v 38)], .agg [.int .i64 (.v 39), .int .i64 (.v 40), .int .i64 (.v 41), .int .i64 (.v 42), .int .i64 (.v 43), .int .i64 (.v 44), .int .i64 (.v 45), .int .i64 (.v 46), .int .i64 (.v 47)]] [] [(52, .i), (53, .i), (54, .i), (55, .i), (56, .i), (57, .i), (58, .p), (59, .n), (60, .n), (61, .p), (62, .n), (63, .n), (64, .i), (65, .i), (66, .i), (67, .i), (68, .i), (69, .i), (70, .p), (71, .n), (72, .n), (73, .i), (74, .i), (75, .i), (76, .i), (77, .i), (78, .i), (79, .p), (80, .n), (81, .n), (82, .i), (83, .i), (84, .i), (85, .i), (86, .i), (87, .i), (88, .p), (89, .n), (90, .n), (91, .i), (92, .i)] (.tup [.agg [.int .i64 (.v 52), .int .i64 (.v 53), .int .i64 (.v 54), .int .i64 (.v 55), .int .i64 (.v 56), .int .i64 (.v 57), .slO 58 (.k 0) (.v 59) (.v 60), .slO 61 (.k 0) (.v 62) (.v 63), .int .i64 (.v 64), .int .i64 (.v 65), .int .i64 (.v 66), .int .i64 (.v 67), .int .i64 (.v 68), .int .i64 (.v 69), .slO 70 (.k 0) (.v 71) (.v 72), .int .i64 (.v 73), .int .i64 (.v 74), .int .i64 (.v 75), .int .i64 (.v 76), .int .i64 (.v 77), .int .i64 (.v 78), .slO 79 (.k 0) (.v 80) (.v 81), .int .i64 (.v 82), .int .i64 (.v 83), .int .i64 (.v 84), .int .i64 (.v 85), .int .i64 (.v 86), .int .i64 (.v 87), .slO 88 (.k 0) (.v 89) (.v 90)], .int .i64 (.v 91), .int .i64 (.v 92)]) .fresh
(.all 2
(.call 16 [.int .i64 (.v 48), .int .i64 (.k 3)] [] [(93, .i)] (.int .i64 (.v 93)) .same
(.call 16 [.int .i64 (.v 49), .int .i64 (.k 51)] [] [(94, .i)] (.int .i64 (.v 94)) .same
(.call 22 [.agg [.int .i64 (.v 0), .int .i64 (.v 1), .int .i64 (.v 2), .int .i64 (.v 3), .int .i64 (.v 4), .int .i64 (.v 5), .slO 6 (.k 0) (.v 7) (.v 8), .slO 9 (.k 0) (.v 10) (.v 11), .int .i64 (.v 12), .int .i64 (.v 13), .int .i64 (.v 14), .int .i64 (.v 15), .int .i64 (.v 16), .int .i64 (.v 17), .slO 18 (.k 0) (.v 19) (.v 20), .int .i64 (.v 21), .int .i64 (.v 22), .int .i64 (.v 23), .int .i64 (.v 24), .int .i64 (.v 25), .int .i64 (.v 26), .slO 27 (.k 0) (.v 28) (.v 29), .int .i64 (.v 30), .int .i64 (.v 31), .int .i64 (.v 32), .int .i64 (.v 33), .int .i64 (.v 34), .int .i64 (.v 35), .slO 36 (.k 0) (.v 37) (.v 38)], .int .i64 (.v 93), .int .i64 (.v 94)] [] [(95, .i), (96, .i), (97, .i), (98, .i), (99, .i), (100, .i), (101, .p), (102, .n), (103, .n), (104, .p), (105, .n), (106, .n), (107, .i), (108, .i), (109, .i), (110, .i), (111, .i), (112, .i), (113, .p), (114, .n), (115, .n), (116, .i), (117, .i), (118, .i), (119, .i), (120, .i), (121, .i), (122, .p), (123, .n), (124, .n), (125, .i), (126, .i), (127, .i), (128, .i), (129, .i), (130, .i), (131, .p), (132, .n), (133, .n), (134, .i), (135, .i)] (.tup [.agg [.int .i64 (.v 95), .int .i64 (.v 96), .int .i64 (.v 97), .int .i64 (.v 98), .int .i64 (.v 99), .int .i64 (.v 100), .slO 101 (.k 0) (.v 102) (.v 103), .slO 104 (.k 0) (.v 105) (.v 106), .int .i64 (.v 107), .int .i64 (.v 108), .int .i64 (.v 109), .int .i64 (.v 110), .int .i64 (.v 111), .int .i64 (.v 112), .slO 113 (.k 0) (.v 114) (.v 115), .int .i64 (.v 116), .int .i64 (.v 117), .int .i64 (.v 118), .int .i64 (.v 119), .int .i64 (.v 120), .int .i64 (.v 121), .slO 122 (.k 0) (.v 123) (.v 124), .int .i64 (.v 125), .int .i64 (.v 126), .int .i64 (.v 127), .int .i64 (.v 128), .int .i64 (.v 129), .int .i64 (.v 130), .slO 131 (.k 0) (.v 132) (.v 133)], .int .i64 (.v 134), .int .i64 (.v 135)]) .fresh
(.all 3
(.chk (.le (.k 0) (.v 10))
(.chk (.rng .i64 (.add (.v 10) (.k 1)))
(.call 16 [.int .i64 (.v 49), .int .i64 (.add (.v 10) (.k 1))] [] [(136, .i)] (.int .i64 (.v 136)) .same
(.call 23 [.agg [.int .i64 (.v 0), .int .i64 (.v 1), .int .i64 (.v 2), .int .i64 (.v 3), .int .i64 (.v 4), .int .i64 (.v 5), .slO 6 (.k 0) (.v 7) (.v 8), .slO 9 (.k 0) (.v 10) (.v 11), .int .i64 (.v 12), .int .i64 (.v 13), .int .i64 (.v 14), .int .i64 (.v 15), .int .i64 (.v 16), .int .i64 (.v 17), .slO 18 (.k 0) (.v 19) (.v 20), .int .i64 (.v 21), .int .i64 (.v 22), .int .i64 (.v 23), .int .i64 (.v 24), .int .i64 (.v 25), .int .i64 (.v 26), .slO 27 (.k 0) (.v 28) (.v 29), .int .i64 (.v 30), .int .i64 (.v 31), .int .i64 (.v 32), .int .i64 (.v 33), .int .i64 (.v 34), .int .i64 (.v 35), .slO 36 (.k 0) (.v 37) (.v 38)], .int .i64 (.v 136)] [] [(137, .i), (138, .i), (139, .i), (140, .i), (141, .i), (142, .i), (143, .p), (144, .n), (145, .n), (146, .p), (147, .n), (148, .n), (149, .i), (150, .i), (151, .i), (152, .i), (153, .i), (154, .i), (155, .p), (156, .n), (157, .n), (158, .i), (159, .i), (160, .i), (161, .i), (162, .i), (163, .i), (164, .p), (165, .n), (166, .n), (167, .i), (168, .i), (169, .i), (170, .i), (171, .i), (172, .i), (173, .p), (174, .n), (175, .n), (176, .i)] (.tup [.agg [.int .i64 (.v 137), .int .i64 (.v 138), .int .i64 (.v 139), .int .i64 (.v 140), .int .i64 (.v 141), .int .i64 (.v 142), .slO 143 (.k 0) (.v 144) (.v 145), .slO 146 (.k 0) (.v 147) (.v 148), .int .i64 (.v 149), .int .i64 (.v 150), .int .i64 (.v 151), .int .i64 (.v 152), .int .i64 (.v 153), .int .i64 (.v 154), .slO 155 (.k 0) (.v 156) (.v 157), .int .i64 (.v 158), .int .i64 (.v 159), .int .i64 (.v 160), .int .i64 (.v 161), .int .i64 (.v 162), .int .i64 (.v 163), .slO 164 (.k 0) (.v 165) (.v 166), .int .i64 (.v 167), .int .i64 (.v 168), .int .i64 (.v 169), .int .i64 (.v 170), .int .i64 (.v 171), .int .i64 (.v 172), .slO 173 (.k 0) (.v 174) (.v 175)], .int .i64 (.v 176)]) .fresh
(.all 4
(.ite (.eq (.v 92) (.k 0))
(.call 19 [.agg [.int .i64 (.v 52), .int .i64 (.v 53), .int .i64 (.v 54), .int .i64 (.v 55), .int .i64 (.v 56), .int .i64 (.v 57), .slO 58 (.k 0) (.v 59) (.v 60), .slO 61 (.k 0) (.v 62) (.v 63), .int .i64 (.v 64), .int .i64 (.v 65), .int .i64 (.v 66), .int .i64 (.v 67), .int .i64 (.v 68), .int .i64 (.v 69), .slO 70 (.k 0) (.v 71) (.v 72), .int .i64 (.v 73), .int .i64 (.v 74), .int .i64 (.v 75), .int .i64 (.v 76), .int .i64 (.v 77), .int .i64 (.v 78), .slO 79 (.k 0) (.v 80) (.v 81), .int .i64 (.v 82), .int .i64 (.v 83), .int .i64 (.v 84), .int .i64 (.v 85), .int .i64 (.v 86), .int .i64 (.v 87), .slO 88 (.k 0) (.v 89) (.v 90)]] [] [(177, .i)] (.int .i64 (.v 177)) .same
(.ite (.eq (.v 177) (.k 0))
(.ite (.eq (.v 135) (.k 0))
(.call 19 [.agg [.int .i64 (.v 95), .int .i64 (.v 96), .int .i64 (.v 97), .int .i64 (.v 98), .int .i64 (.v 99), .int .i64 (.v 100), .slO 101 (.k 0) (.v 102) (.v 103), .slO 104 (.k 0) (.v 105) (.v 106), .int .i64 (.v 107), .int .i64 (.v 108), .int .i64 (.v 109), .int .i64 (.v 110), .int .i64 (.v 111), .int .i64 (.v 112), .slO 113 (.k 0) (.v 114) (.v 115), .int .i64 (.v 116), .int .i64 (.v 117), .int .i64 (.v 118), .int .i64 (.v 119), .int .i64 (.v 120), .int .i64 (.v 121), .slO 122 (.k 0) (.v 123) (.v 124), .int .i64 (.v 125), .int .i64 (.v 126), .int .i64 (.v 127), .int .i64 (.v 128), .int .i64 (.v 129), .int .i64 (.v 130), .slO 131 (.k 0) (.v 132) (.v 133)]] [] [(178, .i)] (.int .i64 (.v 178)) .same
(.ite (.eq (.v 178) (.k 0))
(.ite (.eq (.v 176) (.k 0))
(.call 19 [.agg [.int .i64 (.v 137), .int .i64 (.v 138), .int .i64 (.v 139), .int .i64 (.v 140), .int .i64 (.v 141), .int .i64 (.v 142), .slO 143 (.k 0) (.v 144) (.v 145), .slO 146 (.k 0) (.v 147) (.v 148), .int .i64 (.v 149), .int .i64 (.v 150), .int .i64 (.v 151), .int .i64 (.v 152), .int .i64 (.v 153), .int .i64 (.v 154), .slO 155 (.k 0) (.v 156) (.v 157), .int .i64 (.v 158), .int .i64 (.v 159), .int .i64 (.v 160), .int .i64 (.v 161), .int .i64 (.v 162), .int .i64 (.v 163), .slO 164 (.k 0) (.v 165) (.v 166), .int .i64 (.v 167), .int .i64 (.v 168), .int .i64 (.v 169), .int .i64 (.v 170), .int .i64 (.v 171), .int .i64 (.v 172), .slO 173 (.k 0) (.v 174) (.v 175)]] [] [(179, .i)] (.int .i64 (.v 179)) .same
(.ite (.eq (.v 179) (.k 0))
(.call 20 [] [] [(180, .b)] (.bool (.v 180)) .same
(.ret (.bool (.v 180)) []))
(.ret (.bool (.k false)) [])))
(.ret (.bool (.k false)) []))
(.ret (.bool (.k false)) [])))
(.ret (.bool (.k false)) []))
(.ret (.bool (.k false)) [])))
(.ite (.eq (.v 135) (.k 0))
(.call 19 [.agg [.int .i64 (.v 95), .int .i64 (.v 96), .int .i64 (.v 97), .int .i64 (.v 98), .int .i64 (.v 99), .int .i64 (.v 100), .slO 101 (.k 0) (.v 102) (.v 103), .slO 104 (.k 0) (.v 105) (.v 106), .int .i64 (.v 107), .int .i64 (.v 108), .int .i64 (.v 109), .int .i64 (.v 110), .int .i64 (.v 111), .int .i64 (.v 112), .slO 113 (.k 0) (.v 114) (.v 115), .int .i64 (.v 116), .int .i64 (.v 117), .int .i64 (.v 118), .int .i64 (.v 119), .int .i64 (.v 120), .int .i64 (.v 121), .slO 122 (.k 0) (.v 123) (.v 124), .int .i64 (.v 125), .int .i64 (.v 126), .int .i64 (.v 127), .int .i64 (.v 128), .int .i64 (.v 129), .int .i64 (.v 130), .slO 131 (.k 0) (.v 132) (.v 133)]] [] [(177, .i)] (.int .i64 (.v 177)) .same
(.ite (.eq (.v 177) (.k 0))
(.ite (.eq (.v 176) (.k 0))
(.call 19 [.agg [.int .i64 (.v 137), .int .i64 (.v 138), .int .i64 (.v 139), .int .i64 (.v 140), .int .i64 (.v 141), .int .i64 (.v 142), .slO 143 (.k 0) (.v 144) (.v 145), .slO 146 (.k 0) (.v 147) (.v 148), .int .i64 (.v 149), .int .i64 (.v 150), .int .i64 (.v 151), .int .i64 (.v 152), .int .i64 (.v 153), .int .i64 (.v 154), .slO 155 (.k 0) (.v 156) (.v 157), .int .i64 (.v 158), .int .i64 (.v 159), .int .i64 (.v 160), .int .i64 (.v 161), .int .i64 (.v 162), .int .i64 (.v 163), .slO 164 (.k 0) (.v 165) (.v 166), .int .i64 (.v 167), .int .i64 (.v 168), .int .i64 (.v 169), .int .i64 (.v 170), .int .i64 (.v 171), .int .i64 (.v 172), .slO 173 (.k 0) (.v 174) (.v 175)]] [] [(178, .i)] (.int .i64 (.v 178)) .same
(.ite (.eq (.v 178) (.k 0))
(.call 20 [] [] [(179, .b)] (.bool (.v 179)) .same
(.ret (.bool (.v 179)) []))
(.ret (.bool (.k false)) [])))
(.ret (.bool (.k false)) []))
(.ret (.bool (.k false)) [])))
(.ret (.bool (.k false)) []))))))))))))))))
(.call 20 [] [] [(51, .b)] (.bool (.v 51)) .same
(.ret (.bool (.v 51)) []))))))
theorem x_groupTrue (x0 : Int) (x1 : Int) (x2 : Int) (x3 : Int) (x4 : Int) (x5 : Int) (x6 : Option Loc) (x7 : Nat) (x8 : Nat) (x9 : Option Loc) (x10 : Nat) (x11 : Nat) (x12 : Int) (x13 : Int) (x14 : Int) (x15 : Int) (x16 : Int) (x17 : Int) (x18 : Option Loc) (x19 : Nat) (x20 : Nat) (x21 : Int) (x22 : Int) (x23 : Int) (x24 : Int) (x25 : Int) (x26 : Int) (x27 : Option Loc) (x28 : Nat) (x29 : Nat) (x30 : Int) (x31 : Int) (x32 : Int) (x33 : Int) (x34 : Int) (x35 : Int) (x36 : Option Loc) (x37 : Nat) (x38 : Nat) (x39 : Int) (x40 : Int) (x41 : Int) (x42 : Int) (x43 : Int) (x44 : Int) (x45 : Int) (x46 : Int) (x47 : Int) (x48 : Int) (x49 : Int) (M : Nat → Prop) (H0 : Hp) (W0 : World) (R : Ending → World → Prop) (hH : H0.le (hpOf W0)) (h :
 (∀ b0 : Nat,
 (∀ b1 : Nat,
 (Cl Try.prog W0 M H0 nK 19 #[Value.agg #[vi x0, vi x1, vi x2, vi x3, vi x4, vi x5, vsl x6 x7 x8, vsl x9 x10 x11, vi x12, vi x13, vi x14, vi x15, vi x16, vi x17, vsl x18 x19 x20, vi x21, vi x22, vi x23, vi x24, vi x25, vi x26, vsl x27 x28 x29, vi x30, vi x31, vi x32, vi x33, vi x34, vi x35, vsl x36 x37 x38]] fun z W1 W2 => ∃ x50 : Int, z = .returned (vi x50) ∧ Ext W1 W2 ∧
 ((x50 = 0 →
  (∃ (I0 : List Dat → Hp → Prop) (μ0 : List Dat → Nat), I0 [.n 0] H0 ∧ ∀ H1 : Hp, ∀ x51 : Nat, I0 [.n x51] H1 →
   (((x51 : Int) < 3 →
    (∃ (I1 : List Dat → Hp → Prop) (μ1 : List Dat → Nat), I1 [.n 0] H1 ∧ ∀ H2 : Hp, ∀ x52 : Nat, I1 [.n x52] H2 →
     (((x52 : Int) < 3 →
      (((0 : Int) ≤ (x51 : Int) ∧ (x51 : Int) < 3) ∧ (((0 : Int) ≤ (x51 : Int) ∧ (x51 : Int) < 3) →
      (((x51 : Int) = 0 →
       (((0 : Int) ≤ (x52 : Int) ∧ (x52 : Int) < 3) ∧ (((0 : Int) ≤ (x52 : Int) ∧ (x52 : Int) < 3) →
       (((x52 : Int) = 0 →
        ((x12 = x12 →
         ((x0 ≤ x12 →
          (Cl Try.prog W0 M H2 nK 14 #[Value.agg #[vi x12, vi x13, vi x14, vi x15, vi x16, vi x17, vsl x18 x19 x20], Value.agg #[vi x12, vi x13, vi x14, vi x15, vi x16, vi x17, vsl x18 x19 x20]] fun z W3 W4 => ∃ x53 : Bool, z = .returned (vb (x53)) ∧ Ext W3 W4 ∧
          ((x53 = true →
           (inKind .i64 ((x52 : Int) + 1) ∧ (inKind .i64 ((x52 : Int) + 1) →
           (0 ≤ ((x52 : Int) + 1) ∧ (0 ≤ ((x52 : Int) + 1) →
           (I1 [.n (((x52 : Int) + 1) : Int).toNat] H2 ∧ μ1 [.n (((x52 : Int) + 1) : Int).toNat] < μ1 [.n x52])))))) ∧
          (¬ (x53 = true) →
           Rt R W0 M H2 nK (vb (false)))))) ∧
         (¬ (x0 ≤ x12) →
          (inKind .i64 ((x52 : Int) + 1) ∧ (inKind .i64 ((x52 : Int) + 1) →
          (0 ≤ ((x52 : Int) + 1) ∧ (0 ≤ ((x52 : Int) + 1) →
          (I1 [.n (((x52 : Int) + 1) : Int).toNat] H2 ∧ μ1 [.n (((x52 : Int) + 1) : Int).toNat] < μ1 [.n x52])))))))) ∧
        (¬ (x12 = x12) →
         (inKind .i64 ((x52 : Int) + 1) ∧ (inKind .i64 ((x52 : Int) + 1) →
         (0 ≤ ((x52 : Int) + 1) ∧ (0 ≤ ((x52 : Int) + 1) →
         (I1 [.n (((x52 : Int) + 1) : Int).toNat] H2 ∧ μ1 [.n (((x52 : Int) + 1) : Int).toNat] < μ1 [.n x52])))))))) ∧
       (((x52 : Int) = 1 →
        ((x12 = x21 →
         ((x0 ≤ x12 →
          (Cl Try.prog W0 M H2 nK 14 #[Value.agg #[vi x12, vi x13, vi x14, vi x15, vi x16, vi x17, vsl x18 x19 x20], Value.agg #[vi x21, vi x22, vi x23, vi x24, vi x25, vi x26, vsl x27 x28 x29]] fun z W3 W4 => ∃ x53 : Bool, z = .returned (vb (x53)) ∧ Ext W3 W4 ∧
          ((x53 = true →
           (inKind .i64 ((x52 : Int) + 1) ∧ (inKind .i64 ((x52 : Int) + 1) →
           (0 ≤ ((x52 : Int) + 1) ∧ (0 ≤ ((x52 : Int) + 1) →
           (I1 [.n (((x52 : Int) + 1) : Int).toNat] H2 ∧ μ1 [.n (((x52 : Int) + 1) : Int).toNat] < μ1 [.n x52])))))) ∧
          (¬ (x53 = true) →
           Rt R W0 M H2 nK (vb (false)))))) ∧
         (¬ (x0 ≤ x12) →
          (inKind .i64 ((x52 : Int) + 1) ∧ (inKind .i64 ((x52 : Int) + 1) →
          (0 ≤ ((x52 : Int) + 1) ∧ (0 ≤ ((x52 : Int) + 1) →
          (I1 [.n (((x52 : Int) + 1) : Int).toNat] H2 ∧ μ1 [.n (((x52 : Int) + 1) : Int).toNat] < μ1 [.n x52])))))))) ∧
        (¬ (x12 = x21) →
         (inKind .i64 ((x52 : Int) + 1) ∧ (inKind .i64 ((x52 : Int) + 1) →
         (0 ≤ ((x52 : Int) + 1) ∧ (0 ≤ ((x52 : Int) + 1) →
         (I1 [.n (((x52 : Int) + 1) : Int).toNat] H2 ∧ μ1 [.n (((x52 : Int) + 1) : Int).toNat] < μ1 [.n x52])))))))) ∧
       (((x52 : Int) = 2 →
        ((x12 = x30 →
         ((x0 ≤ x12 →
          (Cl Try.prog W0 M H2 nK 14 #[Value.agg #[vi x12, vi x13, vi x14, vi x15, vi x16, vi x17, vsl x18 x19 x20], Value.agg #[vi x30, vi x31, vi x32, vi x33, vi x34, vi x35, vsl x36 x37 x38]] fun z W3 W4 => ∃ x53 : Bool, z = .returned (vb (x53)) ∧ Ext W3 W4 ∧
          ((x53 = true →
           (inKind .i64 ((x52 : Int) + 1) ∧ (inKind .i64 ((x52 : Int) + 1) →
           (0 ≤ ((x52 : Int) + 1) ∧ (0 ≤ ((x52 : Int) + 1) →
           (I1 [.n (((x52 : Int) + 1) : Int).toNat] H2 ∧ μ1 [.n (((x52 : Int) + 1) : Int).toNat] < μ1 [.n x52])))))) ∧
          (¬ (x53 = true) →
           Rt R W0 M H2 nK (vb (false)))))) ∧
         (¬ (x0 ≤ x12) →
          (inKind .i64 ((x52 : Int) + 1) ∧ (inKind .i64 ((x52 : Int) + 1) →
          (0 ≤ ((x52 : Int) + 1) ∧ (0 ≤ ((x52 : Int) + 1) →
          (I1 [.n (((x52 : Int) + 1) : Int).toNat] H2 ∧ μ1 [.n (((x52 : Int) + 1) : Int).toNat] < μ1 [.n x52])))))))) ∧
        (¬ (x12 = x30) →
         (inKind .i64 ((x52 : Int) + 1) ∧ (inKind .i64 ((x52 : Int) + 1) →
         (0 ≤ ((x52 : Int) + 1) ∧ (0 ≤ ((x52 : Int) + 1) →
         (I1 [.n (((x52 : Int) + 1) : Int).toNat] H2 ∧ μ1 [.n (((x52 : Int) + 1) : Int).toNat] < μ1 [.n x52])))))))) ∧
       True)))))) ∧
      (((x51 : Int) = 1 →
       (((0 : Int) ≤ (x52 : Int) ∧ (x52 : Int) < 3) ∧ (((0 : Int) ≤ (x52 : Int) ∧ (x52 : Int) < 3) →
       (((x52 : Int) = 0 →
        ((x21 = x12 →
         ((x0 ≤ x21 →
          (Cl Try.prog W0 M H2 nK 14 #[Value.agg #[vi x21, vi x22, vi x23, vi x24, vi x25, vi x26, vsl x27 x28 x29], Value.agg #[vi x12, vi x13, vi x14, vi x15, vi x16, vi x17, vsl x18 x19 x20]] fun z W3 W4 => ∃ x53 : Bool, z = .returned (vb (x53)) ∧ Ext W3 W4 ∧
          ((x53 = true →
           (inKind .i64 ((x52 : Int) + 1) ∧ (inKind .i64 ((x52 : Int) + 1) →
           (0 ≤ ((x52 : Int) + 1) ∧ (0 ≤ ((x52 : Int) + 1) →
           (I1 [.n (((x52 : Int) + 1) : Int).toNat] H2 ∧ μ1 [.n (((x52 : Int) + 1) : Int).toNat] < μ1 [.n x52])))))) ∧
          (¬ (x53 = true) →
           Rt R W0 M H2 nK (vb (false)))))) ∧
         (¬ (x0 ≤ x21) →
          (inKind .i64 ((x52 : Int) + 1) ∧ (inKind .i64 ((x52 : Int) + 1) →
          (0 ≤ ((x52 : Int) + 1) ∧ (0 ≤ ((x52 : Int) + 1) →
          (I1 [.n (((x52 : Int) + 1) : Int).toNat] H2 ∧ μ1 [.n (((x52 : Int) + 1) : Int).toNat] < μ1 [.n x52])))))))) ∧
        (¬ (x21 = x12) →
         (inKind .i64 ((x52 : Int) + 1) ∧ (inKind .i64 ((x52 : Int) + 1) →
         (0 ≤ ((x52 : Int) + 1) ∧ (0 ≤ ((x52 : Int) + 1) →
         (I1 [.n (((x52 : Int) + 1) : Int).toNat] H2 ∧ μ1 [.n (((x52 : Int) + 1) : Int).toNat] < μ1 [.n x52])))))))) ∧
       (((x52 : Int) = 1 →
        ((x21 = x21 →
         ((x0 ≤ x21 →
          (Cl Try.prog W0 M H2 nK 14 #[Value.agg #[vi x21, vi x22, vi x23, vi x24, vi x25, vi x26, vsl x27 x28 x29], Value.agg #[vi x21, vi x22, vi x23, vi x24, vi x25, vi x26, vsl x27 x28 x29]] fun z W3 W4 => ∃ x53 : Bool, z = .returned (vb (x53)) ∧ Ext W3 W4 ∧
          ((x53 = true →
           (inKind .i64 ((x52 : Int) + 1) ∧ (inKind .i64 ((x52 : Int) + 1) →
           (0 ≤ ((x52 : Int) + 1) ∧ (0 ≤ ((x52 : Int) + 1) →
           (I1 [.n (((x52 : Int) + 1) : Int).toNat] H2 ∧ μ1 [.n (((x52 : Int) + 1) : Int).toNat] < μ1 [.n x52])))))) ∧
          (¬ (x53 = true) →
           Rt R W0 M H2 nK (vb (false)))))) ∧
         (¬ (x0 ≤ x21) →
          (inKind .i64 ((x52 : Int) + 1) ∧ (inKind .i64 ((x52 : Int) + 1) →
          (0 ≤ ((x52 : Int) + 1) ∧ (0 ≤ ((x52 : Int) + 1) →
          (I1 [.n (((x52 : Int) + 1) : Int).toNat] H2 ∧ μ1 [.n (((x52 : Int) + 1) : Int).toNat] < μ1 [.n x52])))))))) ∧
        (¬ (x21 = x21) →
         (inKind .i64 ((x52 : Int) + 1) ∧ (inKind .i64 ((x52 : Int) + 1) →
         (0 ≤ ((x52 : Int) + 1) ∧ (0 ≤ ((x52 : Int) + 1) →
         (I1 [.n (((x52 : Int) + 1) : Int).toNat] H2 ∧ μ1 [.n (((x52 : Int) + 1) : Int).toNat] < μ1 [.n x52])))))))) ∧
       (((x52 : Int) = 2 →
        ((x21 = x30 →
         ((x0 ≤ x21 →
          (Cl Try.prog W0 M H2 nK 14 #[Value.agg #[vi x21, vi x22, vi x23, vi x24, vi x25, vi x26, vsl x27 x28 x29], Value.agg #[vi x30, vi x31, vi x32, vi x33, vi x34, vi x35, vsl x36 x37 x38]] fun z W3 W4 => ∃ x53 : Bool, z = .returned (vb (x53)) ∧ Ext W3 W4 ∧
          ((x53 = true →
           (inKind .i64 ((x52 : Int) + 1) ∧ (inKind .i64 ((x52 : Int) + 1) →
           (0 ≤ ((x52 : Int) + 1) ∧ (0 ≤ ((x52 : Int) + 1) →
           (I1 [.n (((x52 : Int) + 1) : Int).toNat] H2 ∧ μ1 [.n (((x52 : Int) + 1) : Int).toNat] < μ1 [.n x52])))))) ∧
          (¬ (x53 = true) →
           Rt R W0 M H2 nK (vb (false)))))) ∧
         (¬ (x0 ≤ x21) →
          (inKind .i64 ((x52 : Int) + 1) ∧ (inKind .i64 ((x52 : Int) + 1) →
          (0 ≤ ((x52 : Int) + 1) ∧ (0 ≤ ((x52 : Int) + 1) →
          (I1 [.n (((x52 : Int) + 1) : Int).toNat] H2 ∧ μ1 [.n (((x52 : Int) + 1) : Int).toNat] < μ1 [.n x52])))))))) ∧
        (¬ (x21 = x30) →
         (inKind .i64 ((x52 : Int) + 1) ∧ (inKind .i64 ((x52 : Int) + 1) →
         (0 ≤ ((x52 : Int) + 1) ∧ (0 ≤ ((x52 : Int) + 1) →
         (I1 [.n (((x52 : Int) + 1) : Int).toNat] H2 ∧ μ1 [.n (((x52 : Int) + 1) : Int).toNat] < μ1 [.n x52])))))))) ∧
       True)))))) ∧
      (((x51 : Int) = 2 →
       (((0 : Int) ≤ (x52 : Int) ∧ (x52 : Int) < 3) ∧ (((0 : Int) ≤ (x52 : Int) ∧ (x52 : Int) < 3) →
       (((x52 : Int) = 0 →
        ((x30 = x12 →
         ((x0 ≤ x30 →
          (Cl Try.prog W0 M H2 nK 14 #[Value.agg #[vi x30, vi x31, vi x32, vi x33, vi x34, vi x35, vsl x36 x37 x38], Value.agg #[vi x12, vi x13, vi x14, vi x15, vi x16, vi x17, vsl x18 x19 x20]] fun z W3 W4 => ∃ x53 : Bool, z = .returned (vb (x53)) ∧ Ext W3 W4 ∧
          ((x53 = true →
           (inKind .i64 ((x52 : Int) + 1) ∧ (inKind .i64 ((x52 : Int) + 1) →
           (0 ≤ ((x52 : Int) + 1) ∧ (0 ≤ ((x52 : Int) + 1) →
           (I1 [.n (((x52 : Int) + 1) : Int).toNat] H2 ∧ μ1 [.n (((x52 : Int) + 1) : Int).toNat] < μ1 [.n x52])))))) ∧
          (¬ (x53 = true) →
           Rt R W0 M H2 nK (vb (false)))))) ∧
         (¬ (x0 ≤ x30) →
          (inKind .i64 ((x52 : Int) + 1) ∧ (inKind .i64 ((x52 : Int) + 1) →
          (0 ≤ ((x52 : Int) + 1) ∧ (0 ≤ ((x52 : Int) + 1) →
          (I1 [.n (((x52 : Int) + 1) : Int).toNat] H2 ∧ μ1 [.n (((x52 : Int) + 1) : Int).toNat] < μ1 [.n x52])))))))) ∧
        (¬ (x30 = x12) →
         (inKind .i64 ((x52 : Int) + 1) ∧ (inKind .i64 ((x52 : Int) + 1) →
         (0 ≤ ((x52 : Int) + 1) ∧ (0 ≤ ((x52 : Int) + 1) →
         (I1 [.n (((x52 : Int) + 1) : Int).toNat] H2 ∧ μ1 [.n (((x52 : Int) + 1) : Int).toNat] < μ1 [.n x52])))))))) ∧
       (((x52 : Int) = 1 →
        ((x30 = x21 →
         ((x0 ≤ x30 →
          (Cl Try.prog W0 M H2 nK 14 #[Value.agg #[vi x30, vi x31, vi x32, vi x33, vi x34, vi x35, vsl x36 x37 x38], Value.agg #[vi x21, vi x22, vi x23, vi x24, vi x25, vi x26, vsl x27 x28 x29]] fun z W3 W4 => ∃ x53 : Bool, z = .returned (vb (x53)) ∧ Ext W3 W4 ∧
          ((x53 = true →
           (inKind .i64 ((x52 : Int) + 1) ∧ (inKind .i64 ((x52 : Int) + 1) →
           (0 ≤ ((x52 : Int) + 1) ∧ (0 ≤ ((x52 : Int) + 1) →
           (I1 [.n (((x52 : Int) + 1) : Int).toNat] H2 ∧ μ1 [.n (((x52 : Int) + 1) : Int).toNat] < μ1 [.n x52])))))) ∧
          (¬ (x53 = true) →
           Rt R W0 M H2 nK (vb (false)))))) ∧
         (¬ (x0 ≤ x30) →
          (inKind .i64 ((x52 : Int) + 1) ∧ (inKind .i64 ((x52 : Int) + 1) →
          (0 ≤ ((x52 : Int) + 1) ∧ (0 ≤ ((x52 : Int) + 1) →
          (I1 [.n (((x52 : Int) + 1) : Int).toNat] H2 ∧ μ1 [.n (((x52 : Int) + 1) : Int).toNat] < μ1 [.n x52])))))))) ∧
        (¬ (x30 = x21) →
         (inKind .i64 ((x52 : Int) + 1) ∧ (inKind .i64 ((x52 : Int) + 1) →
         (0 ≤ ((x52 : Int) + 1) ∧ (0 ≤ ((x52 : Int) + 1) →
         (I1 [.n (((x52 : Int) + 1) : Int).toNat] H2 ∧ μ1 [.n (((x52 : Int) + 1) : Int).toNat] < μ1 [.n x52])))))))) ∧
       (((x52 : Int) = 2 →
        ((x30 = x30 →
         ((x0 ≤ x30 →
          (Cl Try.prog W0 M H2 nK 14 #[Value.agg #[vi x30, vi x31, vi x32, vi x33, vi x34, vi x35, vsl x36 x37 x38], Value.agg #[vi x30, vi x31, vi x32, vi x33, vi x34, vi x35, vsl x36 x37 x38]] fun z W3 W4 => ∃ x53 : Bool, z = .returned (vb (x53)) ∧ Ext W3 W4 ∧
          ((x53 = true →
           (inKind .i64 ((x52 : Int) + 1) ∧ (inKind .i64 ((x52 : Int) + 1) →
           (0 ≤ ((x52 : Int) + 1) ∧ (0 ≤ ((x52 : Int) + 1) →
           (I1 [.n (((x52 : Int) + 1) : Int).toNat] H2 ∧ μ1 [.n (((x52 : Int) + 1) : Int).toNat] < μ1 [.n x52])))))) ∧
          (¬ (x53 = true) →
           Rt R W0 M H2 nK (vb (false)))))) ∧
         (¬ (x0 ≤ x30) →
          (inKind .i64 ((x52 : Int) + 1) ∧ (inKind .i64 ((x52 : Int) + 1) →
          (0 ≤ ((x52 : Int) + 1) ∧ (0 ≤ ((x52 : Int) + 1) →
          (I1 [.n (((x52 : Int) + 1) : Int).toNat] H2 ∧ μ1 [.n (((x52 : Int) + 1) : Int).toNat] < μ1 [.n x52])))))))) ∧
        (¬ (x30 = x30) →
         (inKind .i64 ((x52 : Int) + 1) ∧ (inKind .i64 ((x52 : Int) + 1) →
         (0 ≤ ((x52 : Int) + 1) ∧ (0 ≤ ((x52 : Int) + 1) →
         (I1 [.n (((x52 : Int) + 1) : Int).toNat] H2 ∧ μ1 [.n (((x52 : Int) + 1) : Int).toNat] < μ1 [.n x52])))))))) ∧
       True)))))) ∧
      True)))))) ∧
     (¬ ((x52 : Int) < 3) →
      (inKind .i64 ((x51 : Int) + 1) ∧ (inKind .i64 ((x51 : Int) + 1) →
      (0 ≤ ((x51 : Int) + 1) ∧ (0 ≤ ((x51 : Int) + 1) →
      (I0 [.n (((x51 : Int) + 1) : Int).toNat] H2 ∧ μ0 [.n (((x51 : Int) + 1) : Int).toNat] < μ0 [.n x51]))))))))) ∧
   (¬ ((x51 : Int) < 3) →
    (Cl Try.prog W0 M H1 nK 21 #[Value.agg #[vi x0, vi x1, vi x2, vi x3, vi x4, vi x5, vsl x6 x7 x8, vsl x9 x10 x11, vi x12, vi x13, vi x14, vi x15, vi x16, vi x17, vsl x18 x19 x20, vi x21, vi x22, vi x23, vi x24, vi x25, vi x26, vsl x27 x28 x29, vi x30, vi x31, vi x32, vi x33, vi x34, vi x35, vsl x36 x37 x38], Value.agg #[vi x39, vi x40, vi x41, vi x42, vi x43, vi x44, vi x45, vi x46, vi x47]] fun z W3 W4 => ∃ x52 : Int, ∃ x53 : Int, ∃ x54 : Int, ∃ x55 : Int, ∃ x56 : Int, ∃ x57 : Int, ∃ x58 : Option Loc, ∃ x59 : Nat, ∃ x60 : Nat, ∃ x61 : Option Loc, ∃ x62 : Nat, ∃ x63 : Nat, ∃ x64 : Int, ∃ x65 : Int, ∃ x66 : Int, ∃ x67 : Int, ∃ x68 : Int, ∃ x69 : Int, ∃ x70 : Option Loc, ∃ x71 : Nat, ∃ x72 : Nat, ∃ x73 : Int, ∃ x74 : Int, ∃ x75 : Int, ∃ x76 : Int, ∃ x77 : Int, ∃ x78 : Int, ∃ x79 : Option Loc, ∃ x80 : Nat, ∃ x81 : Nat, ∃ x82 : Int, ∃ x83 : Int, ∃ x84 : Int, ∃ x85 : Int, ∃ x86 : Int, ∃ x87 : Int, ∃ x88 : Option Loc, ∃ x89 : Nat, ∃ x90 : Nat, ∃ x91 : Int, ∃ x92 : Int, z = .returned (Value.tuple #[Value.agg #[vi x52, vi x53, vi x54, vi x55, vi x56, vi x57, vsl x58 x59 x60, vsl x61 x62 x63, vi x64, vi x65, vi x66, vi x67, vi x68, vi x69, vsl x70 x71 x72, vi x73, vi x74, vi x75, vi x76, vi x77, vi x78, vsl x79 x80 x81, vi x82, vi x83, vi x84, vi x85, vi x86, vi x87, vsl x88 x89 x90], vi x91, vi x92]) ∧ Fr W3 W4 H1 fun H2 =>
    (∀ b2 : Nat,
    (Cl Try.prog W0 M H2 nK 16 #[vi x48, vi 3] fun z W5 W6 => ∃ x93 : Int, z = .returned (vi x93) ∧ Ext W5 W6 ∧
    (Cl Try.prog W0 M H2 nK 16 #[vi x49, vi 51] fun z W7 W8 => ∃ x94 : Int, z = .returned (vi x94) ∧ Ext W7 W8 ∧
    (Cl Try.prog W0 M H2 nK 22 #[Value.agg #[vi x0, vi x1, vi x2, vi x3, vi x4, vi x5, vsl x6 x7 x8, vsl x9 x10 x11, vi x12, vi x13, vi x14, vi x15, vi x16, vi x17, vsl x18 x19 x20, vi x21, vi x22, vi x23, vi x24, vi x25, vi x26, vsl x27 x28 x29, vi x30, vi x31, vi x32, vi x33, vi x34, vi x35, vsl x36 x37 x38], vi x93, vi x94] fun z W9 W10 => ∃ x95 : Int, ∃ x96 : Int, ∃ x97 : Int, ∃ x98 : Int, ∃ x99 : Int, ∃ x100 : Int, ∃ x101 : Option Loc, ∃ x102 : Nat, ∃ x103 : Nat, ∃ x104 : Option Loc, ∃ x105 : Nat, ∃ x106 : Nat, ∃ x107 : Int, ∃ x108 : Int, ∃ x109 : Int, ∃ x110 : Int, ∃ x111 : Int, ∃ x112 : Int, ∃ x113 : Option Loc, ∃ x114 : Nat, ∃ x115 : Nat, ∃ x116 : Int, ∃ x117 : Int, ∃ x118 : Int, ∃ x119 : Int, ∃ x120 : Int, ∃ x121 : Int, ∃ x122 : Option Loc, ∃ x123 : Nat, ∃ x124 : Nat, ∃ x125 : Int, ∃ x126 : Int, ∃ x127 : Int, ∃ x128 : Int, ∃ x129 : Int, ∃ x130 : Int, ∃ x131 : Option Loc, ∃ x132 : Nat, ∃ x133 : Nat, ∃ x134 : Int, ∃ x135 : Int, z = .returned (Value.tuple #[Value.agg #[vi x95, vi x96, vi x97, vi x98, vi x99, vi x100, vsl x101 x102 x103, vsl x104 x105 x106, vi x107, vi x108, vi x109, vi x110, vi x111, vi x112, vsl x113 x114 x115, vi x116, vi x117, vi x118, vi x119, vi x120, vi x121, vsl x122 x123 x124, vi x125, vi x126, vi x127, vi x128, vi x129, vi x130, vsl x131 x132 x133], vi x134, vi x135]) ∧ Fr W9 W10 H2 fun H3 =>
    (∀ b3 : Nat,
    (0 ≤ (x10 : Int) ∧ (0 ≤ (x10 : Int) →
    (inKind .i64 ((x10 : Int) + 1) ∧ (inKind .i64 ((x10 : Int) + 1) →
    (Cl Try.prog W0 M H3 nK 16 #[vi x49, vi ((x10 : Int) + 1)] fun z W11 W12 => ∃ x136 : Int, z = .returned (vi x136) ∧ Ext W11 W12 ∧
    (Cl Try.prog W0 M H3 nK 23 #[Value.agg #[vi x0, vi x1, vi x2, vi x3, vi x4, vi x5, vsl x6 x7 x8, vsl x9 x10 x11, vi x12, vi x13, vi x14, vi x15, vi x16, vi x17, vsl x18 x19 x20, vi x21, vi x22, vi x23, vi x24, vi x25, vi x26, vsl x27 x28 x29, vi x30, vi x31, vi x32, vi x33, vi x34, vi x35, vsl x36 x37 x38], vi x136] fun z W13 W14 => ∃ x137 : Int, ∃ x138 : Int, ∃ x139 : Int, ∃ x140 : Int, ∃ x141 : Int, ∃ x142 : Int, ∃ x143 : Option Loc, ∃ x144 : Nat, ∃ x145 : Nat, ∃ x146 : Option Loc, ∃ x147 : Nat, ∃ x148 : Nat, ∃ x149 : Int, ∃ x150 : Int, ∃ x151 : Int, ∃ x152 : Int, ∃ x153 : Int, ∃ x154 : Int, ∃ x155 : Option Loc, ∃ x156 : Nat, ∃ x157 : Nat, ∃ x158 : Int, ∃ x159 : Int, ∃ x160 : Int, ∃ x161 : Int, ∃ x162 : Int, ∃ x163 : Int, ∃ x164 : Option Loc, ∃ x165 : Nat, ∃ x166 : Nat, ∃ x167 : Int, ∃ x168 : Int, ∃ x169 : Int, ∃ x170 : Int, ∃ x171 : Int, ∃ x172 : Int, ∃ x173 : Option Loc, ∃ x174 : Nat, ∃ x175 : Nat, ∃ x176 : Int, z = .returned (Value.tuple #[Value.agg #[vi x137, vi x138, vi x139, vi x140, vi x141, vi x142, vsl x143 x144 x145, vsl x146 x147 x148, vi x149, vi x150, vi x151, vi x152, vi x153, vi x154, vsl x155 x156 x157, vi x158, vi x159, vi x160, vi x161, vi x162, vi x163, vsl x164 x165 x166, vi x167, vi x168, vi x169, vi x170, vi x171, vi x172, vsl x173 x174 x175], vi x176]) ∧ Fr W13 W14 H3 fun H4 =>
    (∀ b4 : Nat,
    ((x92 = 0 →
     (Cl Try.prog W0 M H4 nK 19 #[Value.agg #[vi x52, vi x53, vi x54, vi x55, vi x56, vi x57, vsl x58 x59 x60, vsl x61 x62 x63, vi x64, vi x65, vi x66, vi x67, vi x68, vi x69, vsl x70 x71 x72, vi x73, vi x74, vi x75, vi x76, vi x77, vi x78, vsl x79 x80 x81, vi x82, vi x83, vi x84, vi x85, vi x86, vi x87, vsl x88 x89 x90]] fun z W15 W16 => ∃ x177 : Int, z = .returned (vi x177) ∧ Ext W15 W16 ∧
     ((x177 = 0 →
      ((x135 = 0 →
       (Cl Try.prog W0 M H4 nK 19 #[Value.agg #[vi x95, vi x96, vi x97, vi x98, vi x99, vi x100, vsl x101 x102 x103, vsl x104 x105 x106, vi x107, vi x108, vi x109, vi x110, vi x111, vi x112, vsl x113 x114 x115, vi x116, vi x117, vi x118, vi x119, vi x120, vi x121, vsl x122 x123 x124, vi x125, vi x126, vi x127, vi x128, vi x129, vi x130, vsl x131 x132 x133]] fun z W17 W18 => ∃ x178 : Int, z = .returned (vi x178) ∧ Ext W17 W18 ∧
       ((x178 = 0 →
        ((x176 = 0 →
         (Cl Try.prog W0 M H4 nK 19 #[Value.agg #[vi x137, vi x138, vi x139, vi x140, vi x141, vi x142, vsl x143 x144 x145, vsl x146 x147 x148, vi x149, vi x150, vi x151, vi x152, vi x153, vi x154, vsl x155 x156 x157, vi x158, vi x159, vi x160, vi x161, vi x162, vi x163, vsl x164 x165 x166, vi x167, vi x168, vi x169, vi x170, vi x171, vi x172, vsl x173 x174 x175]] fun z W19 W20 => ∃ x179 : Int, z = .returned (vi x179) ∧ Ext W19 W20 ∧
         ((x179 = 0 →
          (Cl Try.prog W0 M H4 nK 20 #[] fun z W21 W22 => ∃ x180 : Bool, z = .returned (vb (x180)) ∧ Ext W21 W22 ∧
          Rt R W0 M H4 nK (vb (x180)))) ∧
         (¬ (x179 = 0) →
          Rt R W0 M H4 nK (vb (false)))))) ∧
        (¬ (x176 = 0) →
         Rt R W0 M H4 nK (vb (false))))) ∧
       (¬ (x178 = 0) →
        Rt R W0 M H4 nK (vb (false)))))) ∧
      (¬ (x135 = 0) →
       Rt R W0 M H4 nK (vb (false))))) ∧
     (¬ (x177 = 0) →
      Rt R W0 M H4 nK (vb (false)))))) ∧
    (¬ (x92 = 0) →
     ((x135 = 0 →
      (Cl Try.prog W0 M H4 nK 19 #[Value.agg #[vi x95, vi x96, vi x97, vi x98, vi x99, vi x100, vsl x101 x102 x103, vsl x104 x105 x106, vi x107, vi x108, vi x109, vi x110, vi x111, vi x112, vsl x113 x114 x115, vi x116, vi x117, vi x118, vi x119, vi x120, vi x121, vsl x122 x123 x124, vi x125, vi x126, vi x127, vi x128, vi x129, vi x130, vsl x131 x132 x133]] fun z W15 W16 => ∃ x177 : Int, z = .returned (vi x177) ∧ Ext W15 W16 ∧
      ((x177 = 0 →
       ((x176 = 0 →
        (Cl Try.prog W0 M H4 nK 19 #[Value.agg #[vi x137, vi x138, vi x139, vi x140, vi x141, vi x142, vsl x143 x144 x145, vsl x146 x147 x148, vi x149, vi x150, vi x151, vi x152, vi x153, vi x154, vsl x155 x156 x157, vi x158, vi x159, vi x160, vi x161, vi x162, vi x163, vsl x164 x165 x166, vi x167, vi x168, vi x169, vi x170, vi x171, vi x172, vsl x173 x174 x175]] fun z W17 W18 => ∃ x178 : Int, z = .returned (vi x178) ∧ Ext W17 W18 ∧
        ((x178 = 0 →
         (Cl Try.prog W0 M H4 nK 20 #[] fun z W19 W20 => ∃ x179 : Bool, z = .returned (vb (x179)) ∧ Ext W19 W20 ∧
         Rt R W0 M H4 nK (vb (x179)))) ∧
        (¬ (x178 = 0) →
         Rt R W0 M H4 nK (vb (false)))))) ∧
       (¬ (x176 = 0) →
        Rt R W0 M H4 nK (vb (false))))) ∧
      (¬ (x177 = 0) →
       Rt R W0 M H4 nK (vb (false)))))) ∧
     (¬ (x135 = 0) →
      Rt R W0 M H4 nK (vb (false))))))))))))))))))))))) ∧
 (¬ (x50 = 0) →
  (Cl Try.prog W0 M H0 nK 20 #[] fun z W3 W4 => ∃ x51 : Bool, z = .returned (vb (x51)) ∧ Ext W3 W4 ∧
  Rt R W0 M H0 nK (vb (x51))))))))) :
  Calls Try.prog 6 #[Value.agg #[vi x0, vi x1, vi x2, vi x3, vi x4, vi x5, vsl x6 x7 x8, vsl x9 x10 x11, vi x12, vi x13, vi x14, vi x15, vi x16, vi x17, vsl x18 x19 x20, vi x21, vi x22, vi x23, vi x24, vi x25, vi x26, vsl x27 x28 x29, vi x30, vi x31, vi x32, vi x33, vi x34, vi x35, vsl x36 x37 x38], Value.agg #[vi x39, vi x40, vi x41, vi x42, vi x43, vi x44, vi x45, vi x46, vi x47], vi x48, vi x49] W0 R :=
  calls_sxA (M := M) (V := v_groupTrue) (hi := {loops := [(4, .inv [(9, .nat)] []), (7, .inv [(10, .nat)] [])]}) (args := [.agg [.int .i64 (.v 0), .int .i64 (.v 1), .int .i64 (.v 2), .int .i64 (.v 3), .int .i64 (.v 4), .int .i64 (.v 5), .slO 6 (.k 0) (.v 7) (.v 8), .slO 9 (.k 0) (.v 10) (.v 11), .int .i64 (.v 12), .int .i64 (.v 13), .int .i64 (.v 14), .int .i64 (.v 15), .int .i64 (.v 16), .int .i64 (.v 17), .slO 18 (.k 0) (.v 19) (.v 20), .int .i64 (.v 21), .int .i64 (.v 22), .int .i64 (.v 23), .int .i64 (.v 24), .int .i64 (.v 25), .int .i64 (.v 26), .slO 27 (.k 0) (.v 28) (.v 29), .int .i64 (.v 30), .int .i64 (.v 31), .int .i64 (.v 32), .int .i64 (.v 33), .int .i64 (.v 34), .int .i64 (.v 35), .slO 36 (.k 0) (.v 37) (.v 38)], .agg [.int .i64 (.v 39), .int .i64 (.v 40), .int .i64 (.v 41), .int .i64 (.v 42), .int .i64 (.v 43), .int .i64 (.v 44), .int .i64 (.v 45), .int .i64 (.v 46), .int .i64 (.v 47)], .int .i64 (.v 48), .int .i64 (.v 49)]) (nv := 50) (e := (upd (upd (upd (upd (upd (upd (upd (upd (upd (upd (upd (upd (upd (upd (upd (upd (upd (upd (upd (upd (upd (upd (upd (upd (upd (upd (upd (upd (upd (upd (upd (upd (upd (upd (upd (upd (upd (upd (upd (upd (upd (upd (upd (upd (upd (upd (upd (upd (upd (upd (fun _ => .i 0) 0 (.i x0)) 1 (.i x1)) 2 (.i x2)) 3 (.i x3)) 4 (.i x4)) 5 (.i x5)) 6 (.p x6)) 7 (.n x7)) 8 (.n x8)) 9 (.p x9)) 10 (.n x10)) 11 (.n x11)) 12 (.i x12)) 13 (.i x13)) 14 (.i x14)) 15 (.i x15)) 16 (.i x16)) 17 (.i x17)) 18 (.p x18)) 19 (.n x19)) 20 (.n x20)) 21 (.i x21)) 22 (.i x22)) 23 (.i x23)) 24 (.i x24)) 25 (.i x25)) 26 (.i x26)) 27 (.p x27)) 28 (.n x28)) 29 (.n x29)) 30 (.i x30)) 31 (.i x31)) 32 (.i x32)) 33 (.i x33)) 34 (.i x34)) 35 (.i x35)) 36 (.p x36)) 37 (.n x37)) 38 (.n x38)) 39 (.i x39)) 40 (.i x40)) 41 (.i x41)) 42 (.i x42)) 43 (.i x43)) 44 (.i x44)) 45 (.i x45)) 46 (.i x46)) 47 (.i x47)) 48 (.i x48)) 49 (.i x49))) Try.func6 hH h (by kernel_rfl) (by kernel_rfl) (by kernel_rfl)
def v_groupEnd : VC :=
(.all 0
(.call 15 [.agg [.int .i64 (.v 0), .int .i64 (.v 1), .int .i64 (.v 2), .int .i64 (.v 3), .int .i64 (.v 4), .int .i64 (.v 5), .slO 6 (.k 0) (.v 7) (.v 8), .slO 9 (.k 0) (.v 10) (.v 11)]] [] [(40, .i), (41, .i), (42, .i), (43, .i), (44, .i), (45, .i), (46, .p), (47, .n), (48, .n), (49, .i)] (.tup [.agg [.int .i64 (.v 40), .int .i64 (.v 41), .int .i64 (.v 42), .int .i64 (.v 43), .int .i64 (.v 44), .int .i64 (.v 45), .slO 46 (.k 0) (.v 47) (.v 48)], .int .i64 (.v 49)]) .fresh
(.all 1
(.ite (.eq (.v 49) (.k 0))
(.call 19 [.agg [.int .i64 (.v 0), .int .i64 (.v 1), .int .i64 (.v 2), .int .i64 (.v 3), .int .i64 (.v 4), .int .i64 (.v 5), .slO 6 (.k 0) (.v 7) (.v 8), .slO 9 (.k 0) (.v 10) (.v 11), .int .i64 (.v 12), .int .i64 (.v 13), .int .i64 (.v 14), .int .i64 (.v 15), .int .i64 (.v 16), .int .i64 (.v 17), .slO 18 (.k 0) (.v 19) (.v 20), .int .i64 (.v 21), .int .i64 (.v 22), .int .i64 (.v 23), .int .i64 (.v 24), .int .i64 (.v 25), .int .i64 (.v 26), .slO 27 (.k 0) (.v 28) (.v 29), .int .i64 (.v 30), .int .i64 (.v 31), .int .i64 (.v 32), .int .i64 (.v 33), .int .i64 (.v 34), .int .i64 (.v 35), .slO 36 (.k 0) (.v 37) (.v 38)]] [] [(50, .i)] (.int .i64 (.v 50)) .same
(.ite (.eq (.v 50) (.k 0))
(.chk (.le (.k 0) (.v 10))
(.chk (.rng .i64 (.add (.v 10) (.k 1)))
(.call 16 [.int .i64 (.v 39), .int .i64 (.add (.v 10) (.k 1))] [] [(51, .i)] (.int .i64 (.v 51)) .same
(.call 23 [.agg [.int .i64 (.v 0), .int .i64 (.v 1), .int .i64 (.v 2), .int .i64 (.v 3), .int .i64 (.v 4), .int .i64 (.v 5), .slO 6 (.k 0) (.v 7) (.v 8), .slO 9 (.k 0) (.v 10) (.v 11), .int .i64 (.v 12), .int .i64 (.v 13), .int .i64 (.v 14), .int .i64 (.v 15), .int .i64 (.v 16), .int .i64 (.v 17), .slO 18 (.k 0) (.v 19) (.v 20), .int .i64 (.v 21), .int .i64 (.v 22), .int .i64 (.v 23), .int .i64 (.v 24), .int .i64 (.v 25), .int .i64 (.v 26), .slO 27 (.k 0) (.v 28) (.v 29), .int .i64 (.v 30), .int .i64 (.v 31), .int .i64 (.v 32), .int .i64 (.v 33), .int .i64 (.v 34), .int .i64 (.v 35), .slO 36 (.k 0) (.v 37) (.v 38)], .int .i64 (.v 51)] [] [(52, .i), (53, .i), (54, .i), (55, .i), (56, .i), (57, .i), (58, .p), (59, .n), (60, .n), (61, .p), (62, .n), (63, .n), (64, .i), (65, .i), (66, .i), (67, .i), (68, .i), (69, .i), (70, .p), (71, .n), (72, .n), (73, .i), (74, .i), (75, .i), (76, .i), (77, .i), (78, .i), (79, .p), (80, .n), (81, .n), (82, .i), (83, .i), (84, .i), (85, .i), (86, .i), (87, .i), (88, .p), (89, .n), (90, .n), (91, .i)] (.tup [.agg [.int .i64 (.v 52), .int .i64 (.v 53), .int .i64 (.v 54), .int .i64 (.v 55), .int .i64 (.v 56), .int .i64 (.v 57), .slO 58 (.k 0) (.v 59) (.v 60), .slO 61 (.k 0) (.v 62) (.v 63), .int .i64 (.v 64), .int .i64 (.v 65), .int .i64 (.v 66), .int .i64 (.v 67), .int .i64 (.v 68), .int .i64 (.v 69), .slO 70 (.k 0) (.v 71) (.v 72), .int .i64 (.v 73), .int .i64 (.v 74), .int .i64 (.v 75), .int .i64 (.v 76), .int .i64 (.v 77), .int .i64 (.v 78), .slO 79 (.k 0) (.v 80) (.v 81), .int .i64 (.v 82), .int .i64 (.v 83), .int .i64 (.v 84), .int .i64 (.v 85), .int .i64 (.v 86), .int .i64 (.v 87), .slO 88 (.k 0) (.v 89) (.v 90)], .int .i64 (.v 91)]) .fresh
(.all 2
(.ite (.eq (.v 91) (.k 0))
(.call 22 [.agg [.int .i64 (.v 52), .int .i64 (.v 53), .int .i64 (.v 54), .int .i64 (.v 55), .int .i64 (.v 56), .int .i64 (.v 57), .slO 58 (.k 0) (.v 59) (.v 60), .slO 61 (.k 0) (.v 62) (.v 63), .int .i64 (.v 64), .int .i64 (.v 65), .int .i64 (.v 66), .int .i64 (.v 67), .int .i64 (.v 68), .int .i64 (.v 69), .slO 70 (.k 0) (.v 71) (.v 72), .int .i64 (.v 73), .int .i64 (.v 74), .int .i64 (.v 75), .int .i64 (.v 76), .int .i64 (.v 77), .int .i64 (.v 78), .slO 79 (.k 0) (.v 80) (.v 81), .int .i64 (.v 82), .int .i64 (.v 83), .int .i64 (.v 84), .int .i64 (.v 85), .int .i64 (.v 86), .int .i64 (.v 87), .slO 88 (.k 0) (.v 89) (.v 90)], .int .i64 (.k 0), .int .i64 (.k 50)] [] [(92, .i), (93, .i), (94, .i), (95, .i), (96, .i), (97, .i), (98, .p), (99, .n), (100, .n), (101, .p), (102, .n), (103, .n), (104, .i), (105, .i), (106, .i), (107, .i), (108, .i), (109, .i), (110, .p), (111, .n), (112, .n), (113, .i), (114, .i), (115, .i), (116, .i), (117, .i), (118, .i), (119, .p), (120, .n), (121, .n), (122, .i), (123, .i), (124, .i), (125, .i), (126, .i), (127, .i), (128, .p), (129, .n), (130, .n), (131, .i), (132, .i)] (.tup [.agg [.int .i64 (.v 92), .int .i64 (.v 93), .int .i64 (.v 94), .int .i64 (.v 95), .int .i64 (.v 96), .int .i64 (.v 97), .slO 98 (.k 0) (.v 99) (.v 100), .slO 101 (.k 0) (.v 102) (.v 103), .int .i64 (.v 104), .int .i64 (.v 105), .int .i64 (.v 106), .int .i64 (.v 107), .int .i64 (.v 108), .int .i64 (.v 109), .slO 110 (.k 0) (.v 111) (.v 112), .int .i64 (.v 113), .int .i64 (.v 114), .int .i64 (.v 115), .int .i64 (.v 116), .int .i64 (.v 117), .int .i64 (.v 118), .slO 119 (.k 0) (.v 120) (.v 121), .int .i64 (.v 122), .int .i64 (.v 123), .int .i64 (.v 124), .int .i64 (.v 125), .int .i64 (.v 126), .int .i64 (.v 127), .slO 128 (.k 0) (.v 129) (.v 130)], .int .i64 (.v 131), .int .i64 (.v 132)]) .fresh
(.all 3
(.ite (.eq (.v 132) (.k 0))
(.call 14 [.agg [.int .i64 (.v 104), .int .i64 (.v 105), .int .i64 (.v 106), .int .i64 (.v 107), .int .i64 (.v 108), .int .i64 (.v 109), .slO 110 (.k 0) (.v 111) (.v 112)], .agg [.int .i64 (.v 40), .int .i64 (.v 41), .int .i64 (.v 42), .int .i64 (.v 43), .int .i64 (.v 44), .int .i64 (.v 45), .slO 46 (.k 0) (.v 47) (.v 48)]] [] [(133, .b)] (.bool (.v 133)) .same
(.ite (.v 133)
(.call 22 [.agg [.int .i64 (.v 92), .int .i64 (.v 93), .int .i64 (.v 94), .int .i64 (.v 95), .int .i64 (.v 96), .int .i64 (.v 97), .slO 98 (.k 0) (.v 99) (.v 100), .slO 101 (.k 0) (.v 102) (.v 103), .int .i64 (.v 104), .int .i64 (.v 105), .int .i64 (.v 106), .int .i64 (.v 107), .int .i64 (.v 108), .int .i64 (.v 109), .slO 110 (.k 0) (.v 111) (.v 112), .int .i64 (.v 113), .int .i64 (.v 114), .int .i64 (.v 115), .int .i64 (.v 116), .int .i64 (.v 117), .int .i64 (.v 118), .slO 119 (.k 0) (.v 120) (.v 121), .int .i64 (.v 122), .int .i64 (.v 123), .int .i64 (.v 124), .int .i64 (.v 125), .int .i64 (.v 126), .int .i64 (.v 127), .slO 128 (.k 0) (.v 129) (.v 130)], .int .i64 (.k 1), .int .i64 (.k 50)] [] [(134, .i), (135, .i), (136, .i), (137, .i), (138, .i), (139, .i), (140, .p), (141, .n), (142, .n), (143, .p), (144, .n), (145, .n), (146, .i), (147, .i), (148, .i), (149, .i), (150, .i), (151, .i), (152, .p), (153, .n), (154, .n), (155, .i), (156, .i), (157, .i), (158, .i), (159, .i), (160, .i), (161, .p), (162, .n), (163, .n), (164, .i), (165, .i), (166, .i), (167, .i), (168, .i), (169, .i), (170, .p), (171, .n), (172, .n), (173, .i), (174, .i)] (.tup [.agg [.int .i64 (.v 134), .int .i64 (.v 135), .int .i64 (.v 136), .int .i64 (.v 137), .int .i64 (.v 138), .int .i64 (.v 139), .slO 140 (.k 0) (.v 141) (.v 142), .slO 143 (.k 0) (.v 144) (.v 145), .int .i64 (.v 146), .int .i64 (.v 147), .int .i64 (.v 148), .int .i64 (.v 149), .int .i64 (.v 150), .int .i64 (.v 151), .slO 152 (.k 0) (.v 153) (.v 154), .int .i64 (.v 155), .int .i64 (.v 156), .int .i64 (.v 157), .int .i64 (.v 158), .int .i64 (.v 159), .int .i64 (.v 160), .slO 161 (.k 0) (.v 162) (.v 163), .int .i64 (.v 164), .int .i64 (.v 165), .int .i64 (.v 166), .int .i64 (.v 167), .int .i64 (.v 168), .int .i64 (.v 169), .slO 170 (.k 0) (.v 171) (.v 172)], .int .i64 (.v 173), .int .i64 (.v 174)]) .fresh
(.all 4
(.ite (.eq (.v 174) (.k 0))
(.call 14 [.agg [.int .i64 (.v 155), .int .i64 (.v 156), .int .i64 (.v 157), .int .i64 (.v 158), .int .i64 (.v 159), .int .i64 (.v 160), .slO 161 (.k 0) (.v 162) (.v 163)], .agg [.int .i64 (.v 40), .int .i64 (.v 41), .int .i64 (.v 42), .int .i64 (.v 43), .int .i64 (.v 44), .int .i64 (.v 45), .slO 46 (.k 0) (.v 47) (.v 48)]] [] [(175, .b)] (.bool (.v 175)) .same
(.ite (.v 175)
(.call 22 [.agg [.int .i64 (.v 134), .int .i64 (.v 135), .int .i64 (.v 136), .int .i64 (.v 137), .int .i64 (.v 138), .int .i64 (.v 139), .slO 140 (.k 0) (.v 141) (.v 142), .slO 143 (.k 0) (.v 144) (.v 145), .int .i64 (.v 146), .int .i64 (.v 147), .int .i64 (.v 148), .int .i64 (.v 149), .int .i64 (.v 150), .int .i64 (.v 151), .slO 152 (.k 0) (.v 153) (.v 154), .int .i64 (.v 155), .int .i64 (.v 156), .int .i64 (.v 157), .int .i64 (.v 158), .int .i64 (.v 159), .int .i64 (.v 160), .slO 161 (.k 0) (.v 162) (.v 163), .int .i64 (.v 164), .int .i64 (.v 165), .int .i64 (.v 166), .int .i64 (.v 167), .int .i64 (.v 168), .int .i64 (.v 169), .slO 170 (.k 0) (.v 171) (.v 172)], .int .i64 (.k 2), .int .i64 (.k 50)] [] [(176, .i), (177, .i), (178, .i), (179, .i), (180, .i), (181, .i), (182, .p), (183, .n), (184, .n), (185, .p), (186, .n), (187, .n), (188, .i), (189, .i), (190, .i), (191, .i), (192, .i), (193, .i), (194, .p), (195, .n), (196, .n), (197, .i), (198, .i), (199, .i), (200, .i), (201, .i), (202, .i), (203, .p), (204, .n), (205, .n), (206, .i), (207, .i), (208, .i), (209, .i), (210, .i), (211, .i), (212, .p), (213, .n), (214, .n), (215, .i), (216, .i)] (.tup [.agg [.int .i64 (.v 176), .int .i64 (.v 177), .int .i64 (.v 178), .int .i64 (.v 179), .int .i64 (.v 180), .int .i64 (.v 181), .slO 182 (.k 0) (.v 183) (.v 184), .slO 185 (.k 0) (.v 186) (.v 187), .int .i64 (.v 188), .int .i64 (.v 189), .int .i64 (.v 190), .int .i64 (.v 191), .int .i64 (.v 192), .int .i64 (.v 193), .slO 194 (.k 0) (.v 195) (.v 196), .int .i64 (.v 197), .int .i64 (.v 198), .int .i64 (.v 199), .int .i64 (.v 200), .int .i64 (.v 201), .int .i64 (.v 202), .slO 203 (.k 0) (.v 204) (.v 205), .int .i64 (.v 206), .int .i64 (.v 207), .int .i64 (.v 208), .int .i64 (.v 209), .int .i64 (.v 210), .int .i64 (.v 211), .slO 212 (.k 0) (.v 213) (.v 214)], .int .i64 (.v 215), .int .i64 (.v 216)]) .fresh
(.all 5
(.ite (.eq (.v 216) (.k 0))
(.call 14 [.agg [.int .i64 (.v 206), .int .i64 (.v 207), .int .i64 (.v 208), .int .i64 (.v 209), .int .i64 (.v 210), .int .i64 (.v 211), .slO 212 (.k 0) (.v 213) (.v 214)], .agg [.int .i64 (.v 40), .int .i64 (.v 41), .int .i64 (.v 42), .int .i64 (.v 43), .int .i64 (.v 44), .int .i64 (.v 45), .slO 46 (.k 0) (.v 47) (.v 48)]] [] [(217, .b)] (.bool (.v 217)) .same
(.ite (.v 217)
(.call 20 [] [] [(218, .b)] (.bool (.v 218)) .same
(.ite (.v 218)
(.call 19 [.agg [.int .i64 (.v 176), .int .i64 (.v 177), .int .i64 (.v 178), .int .i64 (.v 179), .int .i64 (.v 180), .int .i64 (.v 181), .slO 182 (.k 0) (.v 183) (.v 184), .slO 185 (.k 0) (.v 186) (.v 187), .int .i64 (.v 188), .int .i64 (.v 189), .int .i64 (.v 190), .int .i64 (.v 191), .int .i64 (.v 192), .int .i64 (.v 193), .slO 194 (.k 0) (.v 195) (.v 196), .int .i64 (.v 197), .int .i64 (.v 198), .int .i64 (.v 199), .int .i64 (.v 200), .int .i64 (.v 201), .int .i64 (.v 202), .slO 203 (.k 0) (.v 204) (.v 205), .int .i64 (.v 206), .int .i64 (.v 207), .int .i64 (.v 208), .int .i64 (.v 209), .int .i64 (.v 210), .int .i64 (.v 211), .slO 212 (.k 0) (.v 213) (.v 214)]] [] [(219, .i)] (.int .i64 (.v 219)) .same
(.ret (.bool (.eq (.v 219) (.k 0))) []))
(.ret (.bool (.k false)) [])))
(.ret (.bool (.k false)) [])))
(.ret (.bool (.k false)) []))))
(.ret (.bool (.k false)) [])))
(.ret (.bool (.k false)) []))))
(.ret (.bool (.k false)) [])))
(.ret (.bool (.k false)) []))))
(.ret (.bool (.k false)) [])))))))
(.call 20 [] [] [(51, .b)] (.bool (.v 51)) .same
(.ret (.bool (.v 51)) []))))
(.call 20 [] [] [(50, .b)] (.bool (.v 50)) .same
(.ret (.bool (.v 50)) []))))))
theorem x_groupEnd (x0 : Int) (x1 : Int) (x2 : Int) (x3 : Int) (x4 : Int) (x5 : Int) (x6 : Option Loc) (x7 : Nat) (x8 : Nat) (x9 : Option Loc) (x10 : Nat) (x11 : Nat) (x12 : Int) (x13 : Int) (x14 : Int) (x15 : Int) (x16 : Int) (x17 : Int) (x18 : Option Loc) (x19 : Nat) (x20 : Nat) (x21 : Int) (x22 : Int) (x23 : Int) (x24 : Int) (x25 : Int) (x26 : Int) (x27 : Option Loc) (x28 : Nat) (x29 : Nat) (x30 : Int) (x31 : Int) (x32 : Int) (x33 : Int) (x34 : Int) (x35 : Int) (x36 : Option Loc) (x37 : Nat) (x38 : Nat) (x39 : Int) (M : Nat → Prop) (H0 : Hp) (W0 : World) (R : Ending → World → Prop) (hH : H0.le (hpOf W0)) (h :
 (∀ b0 : Nat,
 (Cl Try.prog W0 M H0 nK 15 #[Value.agg #[vi x0, vi x1, vi x2, vi x3, vi x4, vi x5, vsl x6 x7 x8, vsl x9 x10 x11]] fun z W1 W2 => ∃ x40 : Int, ∃ x41 : Int, ∃ x42 : Int, ∃ x43 : Int, ∃ x44 : Int, ∃ x45 : Int, ∃ x46 : Option Loc, ∃ x47 : Nat, ∃ x48 : Nat, ∃ x49 : Int, z = .returned (Value.tuple #[Value.agg #[vi x40, vi x41, vi x42, vi x43, vi x44, vi x45, vsl x46 x47 x48], vi x49]) ∧ Fr W1 W2 H0 fun H1 =>
 (∀ b1 : Nat,
 ((x49 = 0 →
  (Cl Try.prog W0 M H1 nK 19 #[Value.agg #[vi x0, vi x1, vi x2, vi x3, vi x4, vi x5, vsl x6 x7 x8, vsl x9 x10 x11, vi x12, vi x13, vi x14, vi x15, vi x16, vi x17, vsl x18 x19 x20, vi x21, vi x22, vi x23, vi x24, vi x25, vi x26, vsl x27 x28 x29, vi x30, vi x31, vi x32, vi x33, vi x34, vi x35, vsl x36 x37 x38]] fun z W3 W4 => ∃ x50 : Int, z = .returned (vi x50) ∧ Ext W3 W4 ∧
  ((x50 = 0 →
   (0 ≤ (x10 : Int) ∧ (0 ≤ (x10 : Int) →
   (inKind .i64 ((x10 : Int) + 1) ∧ (inKind .i64 ((x10 : Int) + 1) →
   (Cl Try.prog W0 M H1 nK 16 #[vi x39, vi ((x10 : Int) + 1)] fun z W5 W6 => ∃ x51 : Int, z = .returned (vi x51) ∧ Ext W5 W6 ∧
   (Cl Try.prog W0 M H1 nK 23 #[Value.agg #[vi x0, vi x1, vi x2, vi x3, vi x4, vi x5, vsl x6 x7 x8, vsl x9 x10 x11, vi x12, vi x13, vi x14, vi x15, vi x16, vi x17, vsl x18 x19 x20, vi x21, vi x22, vi x23, vi x24, vi x25, vi x26, vsl x27 x28 x29, vi x30, vi x31, vi x32, vi x33, vi x34, vi x35, vsl x36 x37 x38], vi x51] fun z W7 W8 => ∃ x52 : Int, ∃ x53 : Int, ∃ x54 : Int, ∃ x55 : Int, ∃ x56 : Int, ∃ x57 : Int, ∃ x58 : Option Loc, ∃ x59 : Nat, ∃ x60 : Nat, ∃ x61 : Option Loc, ∃ x62 : Nat, ∃ x63 : Nat, ∃ x64 : Int, ∃ x65 : Int, ∃ x66 : Int, ∃ x67 : Int, ∃ x68 : Int, ∃ x69 : Int, ∃ x70 : Option Loc, ∃ x71 : Nat, ∃ x72 : Nat, ∃ x73 : Int, ∃ x74 : Int, ∃ x75 : Int, ∃ x76 : Int, ∃ x77 : Int, ∃ x78 : Int, ∃ x79 : Option Loc, ∃ x80 : Nat, ∃ x81 : Nat, ∃ x82 : Int, ∃ x83 : Int, ∃ x84 : Int, ∃ x85 : Int, ∃ x86 : Int, ∃ x87 : Int, ∃ x88 : Option Loc, ∃ x89 : Nat, ∃ x90 : Nat, ∃ x91 : Int, z = .returned (Value.tuple #[Value.agg #[vi x52, vi x53, vi x54, vi x55, vi x56, vi x57, vsl x58 x59 x60, vsl x61 x62 x63, vi x64, vi x65, vi x66, vi x67, vi x68, vi x69, vsl x70 x71 x72, vi x73, vi x74, vi x75, vi x76, vi x77, vi x78, vsl x79 x80 x81, vi x82, vi x83, vi x84, vi x85, vi x86, vi x87, vsl x88 x89 x90], vi x91]) ∧ Fr W7 W8 H1 fun H2 =>
   (∀ b2 : Nat,
   ((x91 = 0 →
    (Cl Try.prog W0 M H2 nK 22 #[Value.agg #[vi x52, vi x53, vi x54, vi x55, vi x56, vi x57, vsl x58 x59 x60, vsl x61 x62 x63, vi x64, vi x65, vi x66, vi x67, vi x68, vi x69, vsl x70 x71 x72, vi x73, vi x74, vi x75, vi x76, vi x77, vi x78, vsl x79 x80 x81, vi x82, vi x83, vi x84, vi x85, vi x86, vi x87, vsl x88 x89 x90], vi 0, vi 50] fun z W9 W10 => ∃ x92 : Int, ∃ x93 : Int, ∃ x94 : Int, ∃ x95 : Int, ∃ x96 : Int, ∃ x97 : Int, ∃ x98 : Option Loc, ∃ x99 : Nat, ∃ x100 : Nat, ∃ x101 : Option Loc, ∃ x102 : Nat, ∃ x103 : Nat, ∃ x104 : Int, ∃ x105 : Int, ∃ x106 : Int, ∃ x107 : Int, ∃ x108 : Int, ∃ x109 : Int, ∃ x110 : Option Loc, ∃ x111 : Nat, ∃ x112 : Nat, ∃ x113 : Int, ∃ x114 : Int, ∃ x115 : Int, ∃ x116 : Int, ∃ x117 : Int, ∃ x118 : Int, ∃ x119 : Option Loc, ∃ x120 : Nat, ∃ x121 : Nat, ∃ x122 : Int, ∃ x123 : Int, ∃ x124 : Int, ∃ x125 : Int, ∃ x126 : Int, ∃ x127 : Int, ∃ x128 : Option Loc, ∃ x129 : Nat, ∃ x130 : Nat, ∃ x131 : Int, ∃ x132 : Int, z = .returned (Value.tuple #[Value.agg #[vi x92, vi x93, vi x94, vi x95, vi x96, vi x97, vsl x98 x99 x100, vsl x101 x102 x103, vi x104, vi x105, vi x106, vi x107, vi x108, vi x109, vsl x110 x111 x112, vi x113, vi x114, vi x115, vi x116, vi x117, vi x118, vsl x119 x120 x121, vi x122, vi x123, vi x124, vi x125, vi x126, vi x127, vsl x128 x129 x130], vi x131, vi x132]) ∧ Fr W9 W10 H2 fun H3 =>
    (∀ b3 : Nat,
    ((x132 = 0 →
     (Cl Try.prog W0 M H3 nK 14 #[Value.agg #[vi x104, vi x105, vi x106, vi x107, vi x108, vi x109, vsl x110 x111 x112], Value.agg #[vi x40, vi x41, vi x42, vi x43, vi x44, vi x45, vsl x46 x47 x48]] fun z W11 W12 => ∃ x133 : Bool, z = .returned (vb (x133)) ∧ Ext W11 W12 ∧
     ((x133 = true →
      (Cl Try.prog W0 M H3 nK 22 #[Value.agg #[vi x92, vi x93, vi x94, vi x95, vi x96, vi x97, vsl x98 x99 x100, vsl x101 x102 x103, vi x104, vi x105, vi x106, vi x107, vi x108, vi x109, vsl x110 x111 x112, vi x113, vi x114, vi x115, vi x116, vi x117, vi x118, vsl x119 x120 x121, vi x122, vi x123, vi x124, vi x125, vi x126, vi x127, vsl x128 x129 x130], vi 1, vi 50] fun z W13 W14 => ∃ x134 : Int, ∃ x135 : Int, ∃ x136 : Int, ∃ x137 : Int, ∃ x138 : Int, ∃ x139 : Int, ∃ x140 : Option Loc, ∃ x141 : Nat, ∃ x142 : Nat, ∃ x143 : Option Loc, ∃ x144 : Nat, ∃ x145 : Nat, ∃ x146 : Int, ∃ x147 : Int, ∃ x148 : Int, ∃ x149 : Int, ∃ x150 : Int, ∃ x151 : Int, ∃ x152 : Option Loc, ∃ x153 : Nat, ∃ x154 : Nat, ∃ x155 : Int, ∃ x156 : Int, ∃ x157 : Int, ∃ x158 : Int, ∃ x159 : Int, ∃ x160 : Int, ∃ x161 : Option Loc, ∃ x162 : Nat, ∃ x163 : Nat, ∃ x164 : Int, ∃ x165 : Int, ∃ x166 : Int, ∃ x167 : Int, ∃ x168 : Int, ∃ x169 : Int, ∃ x170 : Option Loc, ∃ x171 : Nat, ∃ x172 : Nat, ∃ x173 : Int, ∃ x174 : Int, z = .returned (Value.tuple #[Value.agg #[vi x134, vi x135, vi x136, vi x137, vi x138, vi x139, vsl x140 x141 x142, vsl x143 x144 x145, vi x146, vi x147, vi x148, vi x149, vi x150, vi x151, vsl x152 x153 x154, vi x155, vi x156, vi x157, vi x158, vi x159, vi x160, vsl x161 x162 x163, vi x164, vi x165, vi x166, vi x167, vi x168, vi x169, vsl x170 x171 x172], vi x173, vi x174]) ∧ Fr W13 W14 H3 fun H4 =>
      (∀ b4 : Nat,
      ((x174 = 0 →
       (Cl Try.prog W0 M H4 nK 14 #[Value.agg #[vi x155, vi x156, vi x157, vi x158, vi x159, vi x160, vsl x161 x162 x163], Value.agg #[vi x40, vi x41, vi x42, vi x43, vi x44, vi x45, vsl x46 x47 x48]] fun z W15 W16 => ∃ x175 : Bool, z = .returned (vb (x175)) ∧ Ext W15 W16 ∧
       ((x175 = true →
        (Cl Try.prog W0 M H4 nK 22 #[Value.agg #[vi x134, vi x135, vi x136, vi x137, vi x138, vi x139, vsl x140 x141 x142, vsl x143 x144 x145, vi x146, vi x147, vi x148, vi x149, vi x150, vi x151, vsl x152 x153 x154, vi x155, vi x156, vi x157, vi x158, vi x159, vi x160, vsl x161 x162 x163, vi x164, vi x165, vi x166, vi x167, vi x168, vi x169, vsl x170 x171 x172], vi 2, vi 50] fun z W17 W18 => ∃ x176 : Int, ∃ x177 : Int, ∃ x178 : Int, ∃ x179 : Int, ∃ x180 : Int, ∃ x181 : Int, ∃ x182 : Option Loc, ∃ x183 : Nat, ∃ x184 : Nat, ∃ x185 : Option Loc, ∃ x186 : Nat, ∃ x187 : Nat, ∃ x188 : Int, ∃ x189 : Int, ∃ x190 : Int, ∃ x191 : Int, ∃ x192 : Int, ∃ x193 : Int, ∃ x194 : Option Loc, ∃ x195 : Nat, ∃ x196 : Nat, ∃ x197 : Int, ∃ x198 : Int, ∃ x199 : Int, ∃ x200 : Int, ∃ x201 : Int, ∃ x202 : Int, ∃ x203 : Option Loc, ∃ x204 : Nat, ∃ x205 : Nat, ∃ x206 : Int, ∃ x207 : Int, ∃ x208 : Int, ∃ x209 : Int, ∃ x210 : Int, ∃ x211 : Int, ∃ x212 : Option Loc, ∃ x213 : Nat, ∃ x214 : Nat, ∃ x215 : Int, ∃ x216 : Int, z = .returned (Value.tuple #[Value.agg #[vi x176, vi x177, vi x178, vi x179, vi x180, vi x181, vsl x182 x183 x184, vsl x185 x186 x187, vi x188, vi x189, vi x190, vi x191, vi x192, vi x193, vsl x194 x195 x196, vi x197, vi x198, vi x199, vi x200, vi x201, vi x202, vsl x203 x204 x205, vi x206, vi x207, vi x208, vi x209, vi x210, vi x211, vsl x212 x213 x214], vi x215, vi x216]) ∧ Fr W17 W18 H4 fun H5 =>
        (∀ b5 : Nat,
        ((x216 = 0 →
         (Cl Try.prog W0 M H5 nK 14 #[Value.agg #[vi x206, vi x207, vi x208, vi x209, vi x210, vi x211, vsl x212 x213 x214], Value.agg #[vi x40, vi x41, vi x42, vi x43, vi x44, vi x45, vsl x46 x47 x48]] fun z W19 W20 => ∃ x217 : Bool, z = .returned (vb (x217)) ∧ Ext W19 W20 ∧
         ((x217 = true →
          (Cl Try.prog W0 M H5 nK 20 #[] fun z W21 W22 => ∃ x218 : Bool, z = .returned (vb (x218)) ∧ Ext W21 W22 ∧
          ((x218 = true →
           (Cl Try.prog W0 M H5 nK 19 #[Value.agg #[vi x176, vi x177, vi x178, vi x179, vi x180, vi x181, vsl x182 x183 x184, vsl x185 x186 x187, vi x188, vi x189, vi x190, vi x191, vi x192, vi x193, vsl x194 x195 x196, vi x197, vi x198, vi x199, vi x200, vi x201, vi x202, vsl x203 x204 x205, vi x206, vi x207, vi x208, vi x209, vi x210, vi x211, vsl x212 x213 x214]] fun z W23 W24 => ∃ x219 : Int, z = .returned (vi x219) ∧ Ext W23 W24 ∧
           Rt R W0 M H5 nK (vb (decide (x219 = 0))))) ∧
          (¬ (x218 = true) →
           Rt R W0 M H5 nK (vb (false)))))) ∧
         (¬ (x217 = true) →
          Rt R W0 M H5 nK (vb (false)))))) ∧
        (¬ (x216 = 0) →
         Rt R W0 M H5 nK (vb (false))))))) ∧
       (¬ (x175 = true) →
        Rt R W0 M H4 nK (vb (false)))))) ∧
      (¬ (x174 = 0) →
       Rt R W0 M H4 nK (vb (false))))))) ∧
     (¬ (x133 = true) →
      Rt R W0 M H3 nK (vb (false)))))) ∧
    (¬ (x132 = 0) →
     Rt R W0 M H3 nK (vb (false))))))) ∧
   (¬ (x91 = 0) →
    Rt R W0 M H2 nK (vb (false)))))))))))) ∧
  (¬ (x50 = 0) →
   (Cl Try.prog W0 M H1 nK 20 #[] fun z W5 W6 => ∃ x51 : Bool, z = .returned (vb (x51)) ∧ Ext W5 W6 ∧
   Rt R W0 M H1 nK (vb (x51))))))) ∧
 (¬ (x49 = 0) →
  (Cl Try.prog W0 M H1 nK 20 #[] fun z W3 W4 => ∃ x50 : Bool, z = .returned (vb (x50)) ∧ Ext W3 W4 ∧
  Rt R W0 M H1 nK (vb (x50))))))))) :
  Calls Try.prog 7 #[Value.agg #[vi x0, vi x1, vi x2, vi x3, vi x4, vi x5, vsl x6 x7 x8, vsl x9 x10 x11, vi x12, vi x13, vi x14, vi x15, vi x16, vi x17, vsl x18 x19 x20, vi x21, vi x22, vi x23, vi x24, vi x25, vi x26, vsl x27 x28 x29, vi x30, vi x31, vi x32, vi x33, vi x34, vi x35, vsl x36 x37 x38], vi x39] W0 R :=
  calls_sxA (M := M) (V := v_groupEnd) (hi := {loops := [(8, .unroll 4)]}) (args := [.agg [.int .i64 (.v 0), .int .i64 (.v 1), .int .i64 (.v 2), .int .i64 (.v 3), .int .i64 (.v 4), .int .i64 (.v 5), .slO 6 (.k 0) (.v 7) (.v 8), .slO 9 (.k 0) (.v 10) (.v 11), .int .i64 (.v 12), .int .i64 (.v 13), .int .i64 (.v 14), .int .i64 (.v 15), .int .i64 (.v 16), .int .i64 (.v 17), .slO 18 (.k 0) (.v 19) (.v 20), .int .i64 (.v 21), .int .i64 (.v 22), .int .i64 (.v 23), .int .i64 (.v 24), .int .i64 (.v 25), .int .i64 (.v 26), .slO 27 (.k 0) (.v 28) (.v 29), .int .i64 (.v 30), .int .i64 (.v 31), .int .i64 (.v 32), .int .i64 (.v 33), .int .i64 (.v 34), .int .i64 (.v 35), .slO 36 (.k 0) (.v 37) (.v 38)], .int .i64 (.v 39)]) (nv := 40) (e := (upd (upd (upd (upd (upd (upd (upd (upd (upd (upd (upd (upd (upd (upd (upd (upd (upd (upd (upd (upd (upd (upd (upd (upd (upd (upd (upd (upd (upd (upd (upd (upd (upd (upd (upd (upd (upd (upd (upd (upd (fun _ => .i 0) 0 (.i x0)) 1 (.i x1)) 2 (.i x2)) 3 (.i x3)) 4 (.i x4)) 5 (.i x5)) 6 (.p x6)) 7 (.n x7)) 8 (.n x8)) 9 (.p x9)) 10 (.n x10)) 11 (.n x11)) 12 (.i x12)) 13 (.i x13)) 14 (.i x14)) 15 (.i x15)) 16 (.i x16)) 17 (.i x17)) 18 (.p x18)) 19 (.n x19)) 20 (.n x20)) 21 (.i x21)) 22 (.i x22)) 23 (.i x23)) 24 (.i x24)) 25 (.i x25)) 26 (.i x26)) 27 (.p x27)) 28 (.n x28)) 29 (.n x29)) 30 (.i x30)) 31 (.i x31)) 32 (.i x32)) 33 (.i x33)) 34 (.i x34)) 35 (.i x35)) 36 (.p x36)) 37 (.n x37)) 38 (.n x38)) 39 (.i x39))) Try.func7 hH h (by kernel_rfl) (by kernel_rfl) (by kernel_rfl)
end Go.Proofs.Ytgmgbfpoeclgiaa
namespace Go.Proofs.Ytgmgbfpoeclgiaa
open Go.RowKit
set_option maxRecDepth 100000
def ent1 : Ent := ⟨1, 1, 1, 0, 0, ⟨0, 0, 0, 0⟩⟩
def ent2 : Ent := ⟨2, 2, 1, 1, 0, ⟨2, 0, 0, 5⟩⟩
def gA : Grp × Int × Int := gPut Grp.zero ent1
def gB : Grp × Int × Int := gPut gA.1 ent2
def gC : Grp × Int × Int := gRun gB.1 1 9
def gD : Grp × Int := gCut gC.1 2
def gE : Grp × Int × Int := gRun gD.1 0 0
def gS : Grp × Int × Int := gRun gD.1 3 0
def turn1 (g : Grp) : Grp := ⟨g.base, g.tail, g.n0, ⟨g.n1.pos, g.n1.clock, ⟨4, g.n1.vals.b, g.n1.vals.c, g.n1.vals.d⟩, g.n1.table⟩, g.n2⟩
theorem gf1 : gA.2.1 = 0 ∧ gA.2.2 = 0 ∧ gB.2.1 = 5 ∧ gB.2.2 = 0 ∧ gC.2.1 = 2 ∧ gC.2.2 = 0 ∧ gC.1.n1.vals.a = 5 ∧ gD.2 = 0 ∧ gD.1.tail.length = 0 := by decide +kernel
theorem gf2 : gE.2.1 = 0 ∧ gE.2.2 = 0 ∧ gE.1.n0.vals.a = 5 ∧ gS.2.2 = 3 ∧ gErr Grp.zero = 0 ∧ gErr (turn1 gC.1) = 1 := by decide +kernel
theorem kA {H : Hp} : Gf Try.prog 21 #[gVal Grp.zero GP.nil, .agg #[vi 1, vi 1, vi 1, vi 0, vi 0, vi 0, vi 0, vi 0, vi 0]] H (GPost gA.1 fun v => .tuple #[v, vi gA.2.1, vi gA.2.2]) := c_groupPut (GTab.nil H) (e := ent1) (by decide)
theorem kB {H : Hp} {γ : GP} (hg : GTab H gA.1 γ) : Gf Try.prog 21 #[gVal gA.1 γ, .agg #[vi 2, vi 2, vi 1, vi 1, vi 0, vi 2, vi 0, vi 0, vi 5]] H (GPost gB.1 fun v => .tuple #[v, vi gB.2.1, vi gB.2.2]) := c_groupPut hg (e := ent2) (by decide)
theorem kC {H : Hp} {γ : GP} (hg : GTab H gB.1 γ) : Gf Try.prog 22 #[gVal gB.1 γ, vi 1, vi 9] H (GPost gC.1 fun v => .tuple #[v, vi gC.2.1, vi gC.2.2]) := c_groupRun hg 1 9
theorem kD {H : Hp} {γ : GP} (hg : GTab H gC.1 γ) : Gf Try.prog 23 #[gVal gC.1 γ, vi 2] H (GPost gD.1 fun v => .tuple #[v, vi gD.2]) := c_groupCut hg 2
theorem kE {H : Hp} {γ : GP} (hg : GTab H gD.1 γ) : Gf Try.prog 22 #[gVal gD.1 γ, vi 0, vi 0] H (GPost gE.1 fun v => .tuple #[v, vi gE.2.1, vi gE.2.2]) := c_groupRun hg 0 0
theorem kS {H : Hp} {γ : GP} (hg : GTab H gD.1 γ) : Gf Try.prog 22 #[gVal gD.1 γ, vi 3, vi 0] H (GPost gS.1 fun v => .tuple #[v, vi gS.2.1, vi gS.2.2]) := c_groupRun hg 3 0
theorem kX {H : Hp} {γ : GP} (hg : GTab H gC.1 γ) : Gv Try.prog 19 #[gVal (turn1 gC.1) γ] H (vi (gErr (turn1 gC.1))) := c_groupCheck (g := turn1 gC.1) ⟨hg.base, hg.tail, hg.n0, hg.n1, hg.n2⟩
theorem c_groupBegun (H : Hp) : Gv Try.prog 20 #[] H (vb true) := fun W hH => by
  obtain ⟨a1, a2, a3, a4, a5, a6, a7, a8, a9⟩ := gf1
  obtain ⟨b1, b2, b3, b4, b5, b6⟩ := gf2
  have k1 := @kA
  have k2 := @kB
  have k3 := @kC
  have k4 := @kD
  have k5 := @kE
  have k6 := @kS
  have k7 := @kX
  rw [b6] at k7
  clear b6
  generalize gA = A at *
  generalize gB = B at *
  generalize gC = C at *
  generalize gD = D0 at *
  generalize gE = E at *
  generalize gS = S at *
  refine x_groupBegun noM H W _ hH ?_
  refine Cl.same (c_groupBegin H) fun _ _ hx => ⟨_, _, _, _, _, _, GP.nil.p, GP.nil.n, GP.nil.c, GP.nil.q, GP.nil.m, GP.nil.d, _, _, _, _, _, _, GP.nil.p0, GP.nil.n0, GP.nil.c0, _, _, _, _, _, _, GP.nil.p1, GP.nil.n1, GP.nil.c1, _, _, _, _, _, _, GP.nil.p2, GP.nil.n2, GP.nil.c2, rfl, Fr.none hx fun H1 h1 => ?_⟩
  refine Cl.same (c_lopen 1 1 H1) fun _ _ hx => ⟨_, _, _, _, _, _, _, _, _, rfl, hx, ?_⟩
  refine Cl.fresh k1 ?_
  rintro v W1 W2 D ⟨γ1, rfl, g1⟩ hx hD hf nn
  refine ⟨_, _, _, _, _, _, γ1.p, γ1.n, γ1.c, γ1.q, γ1.m, γ1.d, _, _, _, _, _, _, γ1.p0, γ1.n0, γ1.c0, _, _, _, _, _, _, γ1.p1, γ1.n1, γ1.c1, _, _, _, _, _, _, γ1.p2, γ1.n2, γ1.c2, _, _, rfl, hx, D, hD, hf, fun H2 h2 hd2 c0 => ?_⟩
  refine Cl.same (c_ladd 5 H2) fun _ _ hx => ⟨_, _, _, _, rfl, hx, ?_⟩
  refine Cl.same (c_lcall 2 1 1 0 ⟨2, 0, 0, 5⟩ H2) fun _ _ hx => ⟨_, _, _, _, _, _, _, _, _, rfl, hx, ?_⟩
  refine Cl.fresh (k2 (g1.mono hd2)) ?_
  rintro v W1 W2 D ⟨γ2, rfl, g2⟩ hx hD hf nn
  refine ⟨_, _, _, _, _, _, γ2.p, γ2.n, γ2.c, γ2.q, γ2.m, γ2.d, _, _, _, _, _, _, γ2.p0, γ2.n0, γ2.c0, _, _, _, _, _, _, γ2.p1, γ2.n1, γ2.c1, _, _, _, _, _, _, γ2.p2, γ2.n2, γ2.c2, _, _, rfl, hx, D, hD, hf, fun H3 h3 hd3 => ?_⟩
  refine Cl.fresh (k3 (g2.mono hd3)) ?_
  rintro v W1 W2 D ⟨γ3, rfl, g3⟩ hx hD hf nn
  refine ⟨_, _, _, _, _, _, γ3.p, γ3.n, γ3.c, γ3.q, γ3.m, γ3.d, _, _, _, _, _, _, γ3.p0, γ3.n0, γ3.c0, _, _, _, _, _, _, γ3.p1, γ3.n1, γ3.c1, _, _, _, _, _, _, γ3.p2, γ3.n2, γ3.c2, _, _, rfl, hx, D, hD, hf, fun H4 h4 hd4 c1 => ?_⟩
  replace g3 := g3.mono hd4
  refine Cl.fresh (k4 g3) ?_
  rintro v W1 W2 D ⟨γ4, rfl, g4⟩ hx hD hf nn
  refine ⟨_, _, _, _, _, _, γ4.p, γ4.n, γ4.c, γ4.q, γ4.m, γ4.d, _, _, _, _, _, _, γ4.p0, γ4.n0, γ4.c0, _, _, _, _, _, _, γ4.p1, γ4.n1, γ4.c1, _, _, _, _, _, _, γ4.p2, γ4.n2, γ4.c2, _, rfl, hx, D, hD, hf, fun H5 h5 hd5 c2 => ?_⟩
  replace g4 := g4.mono hd5
  refine Cl.fresh (k5 g4) ?_
  rintro v W1 W2 D ⟨γ5, rfl, g5⟩ hx hD hf nn
  refine ⟨_, _, _, _, _, _, γ5.p, γ5.n, γ5.c, γ5.q, γ5.m, γ5.d, _, _, _, _, _, _, γ5.p0, γ5.n0, γ5.c0, _, _, _, _, _, _, γ5.p1, γ5.n1, γ5.c1, _, _, _, _, _, _, γ5.p2, γ5.n2, γ5.c2, _, _, rfl, hx, D, hD, hf, fun H6 h6 hd6 c3 => ?_⟩
  refine Cl.fresh (k6 (g4.mono h6)) ?_
  rintro v W1 W2 D ⟨γ6, rfl, g6⟩ hx hD hf nn
  refine ⟨_, _, _, _, _, _, γ6.p, γ6.n, γ6.c, γ6.q, γ6.m, γ6.d, _, _, _, _, _, _, γ6.p0, γ6.n0, γ6.c0, _, _, _, _, _, _, γ6.p1, γ6.n1, γ6.c1, _, _, _, _, _, _, γ6.p2, γ6.n2, γ6.c2, _, _, rfl, hx, D, hD, hf, fun H7 h7 hd7 c4 c5 => ?_⟩
  refine ⟨fun _ => ⟨fun _ => ⟨fun _ => ⟨fun _ => ⟨fun _ => ⟨fun _ => ?_, fun h => absurd b4 h⟩, fun h => absurd b2 h⟩, fun h => absurd a8 h⟩, fun h => absurd a6 h⟩, fun h => absurd a4 h⟩, fun h => absurd a2 h⟩
  refine Cl.same (c_groupBegin H7) fun _ _ hx => ⟨_, _, _, _, _, _, GP.nil.p, GP.nil.n, GP.nil.c, GP.nil.q, GP.nil.m, GP.nil.d, _, _, _, _, _, _, GP.nil.p0, GP.nil.n0, GP.nil.c0, _, _, _, _, _, _, GP.nil.p1, GP.nil.n1, GP.nil.c1, _, _, _, _, _, _, GP.nil.p2, GP.nil.n2, GP.nil.c2, rfl, Fr.none hx fun H8 h8 => ?_⟩
  refine Cl.same (c_groupCheck (GTab.nil H8)) fun _ _ hx => ⟨_, rfl, hx, fun _ => ?_, fun h => absurd b5 h⟩
  refine Cl.same (k7 ((((g3.mono h5).mono h6).mono h7).mono h8)) fun _ _ hx => ⟨_, rfl, hx, fun _ => ⟨fun _ => ⟨fun _ => ⟨fun _ => ⟨fun _ => ⟨by omega, fun _ => ⟨fun _ => ⟨fun _ => Rt.gv' (by rw [b3]; rfl), fun h => absurd b1 h⟩, fun h => absurd ?_ h⟩⟩, fun h => absurd a7 h⟩, fun h => absurd a5 h⟩, fun h => absurd a3 h⟩, fun h => absurd a1 h⟩, fun h => absurd rfl h⟩
  rw [g4.tail.len, a9]; rfl
end Go.Proofs.Ytgmgbfpoeclgiaa
