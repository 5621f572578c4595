/- Symbolic runs of functions: what each leaves to prove is enough for its call. Printed by a program of ours. No conditions. What must be in any case: applying. No conditions. The laws of applying, as runs. No conditions. -/
import Derived.Test.YtdmaehpdccpnoaaKE3
import Derived.Test.YtdmaehpdccpnoaaProg
import Derived.Test.YtdmaehpdccpnoaaKA5
import Derived.Test.YtdmaehpdccpnoaaKL1
set_option linter.unusedVariables false
set_option linter.unusedSimpArgs false
namespace Go.Proofs.Ytdmaehpdccpnoaa
open Go.RowKit
set_option maxRecDepth 100000
set_option maxHeartbeats 4000000
def v_applyBegun : VC :=
(.call 48 [] [] [(0, .i), (1, .i), (2, .i), (3, .i), (4, .i), (5, .i), (6, .p), (7, .n), (8, .n)] (.agg [.int .i64 (.v 0), .int .i64 (.v 1), .int .i64 (.v 2), .int .i64 (.v 3), .int .i64 (.v 4), .int .i64 (.v 5), .slO 6 (.k 0) (.v 7) (.v 8)]) .fresh
(.call 50 [.int .i64 (.k 3)] [] [(9, .i), (10, .i), (11, .i), (12, .i)] (.agg [.int .i64 (.v 9), .int .i64 (.v 10), .int .i64 (.v 11), .int .i64 (.v 12)]) .same
(.call 49 [.int .i64 (.k 11), .int .i64 (.k 2), .int .i64 (.k 4), .int .i64 (.k 2), .agg [.int .i64 (.v 9), .int .i64 (.v 10), .int .i64 (.v 11), .int .i64 (.v 12)]] [] [(13, .i), (14, .i), (15, .i), (16, .i), (17, .i), (18, .i), (19, .i), (20, .i), (21, .i)] (.agg [.int .i64 (.v 13), .int .i64 (.v 14), .int .i64 (.v 15), .int .i64 (.v 16), .int .i64 (.v 17), .int .i64 (.v 18), .int .i64 (.v 19), .int .i64 (.v 20), .int .i64 (.v 21)]) .same
(.call 18 [.agg [.int .i64 (.v 0), .int .i64 (.v 1), .int .i64 (.v 2), .int .i64 (.v 3), .int .i64 (.v 4), .int .i64 (.v 5), .slO 6 (.k 0) (.v 7) (.v 8)], .agg [.int .i64 (.v 13), .int .i64 (.v 14), .int .i64 (.v 15), .int .i64 (.v 16), .int .i64 (.v 17), .int .i64 (.v 18), .int .i64 (.v 19), .int .i64 (.v 20), .int .i64 (.v 21)]] [] [(22, .i), (23, .i), (24, .i), (25, .i), (26, .i), (27, .i), (28, .p), (29, .n), (30, .n), (31, .i), (32, .b), (33, .i)] (.tup [.agg [.int .i64 (.v 22), .int .i64 (.v 23), .int .i64 (.v 24), .int .i64 (.v 25), .int .i64 (.v 26), .int .i64 (.v 27), .slO 28 (.k 0) (.v 29) (.v 30)], .int .i64 (.v 31), .bool (.v 32), .int .i64 (.v 33)]) .fresh
(.all 0
(.call 48 [] [] [(34, .i), (35, .i), (36, .i), (37, .i), (38, .i), (39, .i), (40, .p), (41, .n), (42, .n)] (.agg [.int .i64 (.v 34), .int .i64 (.v 35), .int .i64 (.v 36), .int .i64 (.v 37), .int .i64 (.v 38), .int .i64 (.v 39), .slO 40 (.k 0) (.v 41) (.v 42)]) .fresh
(.call 50 [.int .i64 (.k 3)] [] [(43, .i), (44, .i), (45, .i), (46, .i)] (.agg [.int .i64 (.v 43), .int .i64 (.v 44), .int .i64 (.v 45), .int .i64 (.v 46)]) .same
(.call 49 [.int .i64 (.k 11), .int .i64 (.k 2), .int .i64 (.k 3), .int .i64 (.k 2), .agg [.int .i64 (.v 43), .int .i64 (.v 44), .int .i64 (.v 45), .int .i64 (.v 46)]] [] [(47, .i), (48, .i), (49, .i), (50, .i), (51, .i), (52, .i), (53, .i), (54, .i), (55, .i)] (.agg [.int .i64 (.v 47), .int .i64 (.v 48), .int .i64 (.v 49), .int .i64 (.v 50), .int .i64 (.v 51), .int .i64 (.v 52), .int .i64 (.v 53), .int .i64 (.v 54), .int .i64 (.v 55)]) .same
(.call 18 [.agg [.int .i64 (.v 34), .int .i64 (.v 35), .int .i64 (.v 36), .int .i64 (.v 37), .int .i64 (.v 38), .int .i64 (.v 39), .slO 40 (.k 0) (.v 41) (.v 42)], .agg [.int .i64 (.v 47), .int .i64 (.v 48), .int .i64 (.v 49), .int .i64 (.v 50), .int .i64 (.v 51), .int .i64 (.v 52), .int .i64 (.v 53), .int .i64 (.v 54), .int .i64 (.v 55)]] [] [(56, .i), (57, .i), (58, .i), (59, .i), (60, .i), (61, .i), (62, .p), (63, .n), (64, .n), (65, .i), (66, .b), (67, .i)] (.tup [.agg [.int .i64 (.v 56), .int .i64 (.v 57), .int .i64 (.v 58), .int .i64 (.v 59), .int .i64 (.v 60), .int .i64 (.v 61), .slO 62 (.k 0) (.v 63) (.v 64)], .int .i64 (.v 65), .bool (.v 66), .int .i64 (.v 67)]) .fresh
(.all 1
(.call 48 [] [] [(68, .i), (69, .i), (70, .i), (71, .i), (72, .i), (73, .i), (74, .p), (75, .n), (76, .n)] (.agg [.int .i64 (.v 68), .int .i64 (.v 69), .int .i64 (.v 70), .int .i64 (.v 71), .int .i64 (.v 72), .int .i64 (.v 73), .slO 74 (.k 0) (.v 75) (.v 76)]) .fresh
(.call 50 [.int .i64 (.k 3)] [] [(77, .i), (78, .i), (79, .i), (80, .i)] (.agg [.int .i64 (.v 77), .int .i64 (.v 78), .int .i64 (.v 79), .int .i64 (.v 80)]) .same
(.call 49 [.int .i64 (.k 11), .int .i64 (.k 2), .int .i64 (.k 6), .int .i64 (.k 4), .agg [.int .i64 (.v 77), .int .i64 (.v 78), .int .i64 (.v 79), .int .i64 (.v 80)]] [] [(81, .i), (82, .i), (83, .i), (84, .i), (85, .i), (86, .i), (87, .i), (88, .i), (89, .i)] (.agg [.int .i64 (.v 81), .int .i64 (.v 82), .int .i64 (.v 83), .int .i64 (.v 84), .int .i64 (.v 85), .int .i64 (.v 86), .int .i64 (.v 87), .int .i64 (.v 88), .int .i64 (.v 89)]) .same
(.call 18 [.agg [.int .i64 (.v 68), .int .i64 (.v 69), .int .i64 (.v 70), .int .i64 (.v 71), .int .i64 (.v 72), .int .i64 (.v 73), .slO 74 (.k 0) (.v 75) (.v 76)], .agg [.int .i64 (.v 81), .int .i64 (.v 82), .int .i64 (.v 83), .int .i64 (.v 84), .int .i64 (.v 85), .int .i64 (.v 86), .int .i64 (.v 87), .int .i64 (.v 88), .int .i64 (.v 89)]] [] [(90, .i), (91, .i), (92, .i), (93, .i), (94, .i), (95, .i), (96, .p), (97, .n), (98, .n), (99, .i), (100, .b), (101, .i)] (.tup [.agg [.int .i64 (.v 90), .int .i64 (.v 91), .int .i64 (.v 92), .int .i64 (.v 93), .int .i64 (.v 94), .int .i64 (.v 95), .slO 96 (.k 0) (.v 97) (.v 98)], .int .i64 (.v 99), .bool (.v 100), .int .i64 (.v 101)]) .fresh
(.all 2
(.call 48 [] [] [(102, .i), (103, .i), (104, .i), (105, .i), (106, .i), (107, .i), (108, .p), (109, .n), (110, .n)] (.agg [.int .i64 (.v 102), .int .i64 (.v 103), .int .i64 (.v 104), .int .i64 (.v 105), .int .i64 (.v 106), .int .i64 (.v 107), .slO 108 (.k 0) (.v 109) (.v 110)]) .fresh
(.call 50 [.int .i64 (.k 3)] [] [(111, .i), (112, .i), (113, .i), (114, .i)] (.agg [.int .i64 (.v 111), .int .i64 (.v 112), .int .i64 (.v 113), .int .i64 (.v 114)]) .same
(.call 49 [.int .i64 (.k 11), .int .i64 (.k 2), .int .i64 (.k 2), .int .i64 (.k 0), .agg [.int .i64 (.v 111), .int .i64 (.v 112), .int .i64 (.v 113), .int .i64 (.v 114)]] [] [(115, .i), (116, .i), (117, .i), (118, .i), (119, .i), (120, .i), (121, .i), (122, .i), (123, .i)] (.agg [.int .i64 (.v 115), .int .i64 (.v 116), .int .i64 (.v 117), .int .i64 (.v 118), .int .i64 (.v 119), .int .i64 (.v 120), .int .i64 (.v 121), .int .i64 (.v 122), .int .i64 (.v 123)]) .same
(.call 18 [.agg [.int .i64 (.v 102), .int .i64 (.v 103), .int .i64 (.v 104), .int .i64 (.v 105), .int .i64 (.v 106), .int .i64 (.v 107), .slO 108 (.k 0) (.v 109) (.v 110)], .agg [.int .i64 (.v 115), .int .i64 (.v 116), .int .i64 (.v 117), .int .i64 (.v 118), .int .i64 (.v 119), .int .i64 (.v 120), .int .i64 (.v 121), .int .i64 (.v 122), .int .i64 (.v 123)]] [] [(124, .i), (125, .i), (126, .i), (127, .i), (128, .i), (129, .i), (130, .p), (131, .n), (132, .n), (133, .i), (134, .b), (135, .i)] (.tup [.agg [.int .i64 (.v 124), .int .i64 (.v 125), .int .i64 (.v 126), .int .i64 (.v 127), .int .i64 (.v 128), .int .i64 (.v 129), .slO 130 (.k 0) (.v 131) (.v 132)], .int .i64 (.v 133), .bool (.v 134), .int .i64 (.v 135)]) .fresh
(.all 3
(.call 48 [] [] [(136, .i), (137, .i), (138, .i), (139, .i), (140, .i), (141, .i), (142, .p), (143, .n), (144, .n)] (.agg [.int .i64 (.v 136), .int .i64 (.v 137), .int .i64 (.v 138), .int .i64 (.v 139), .int .i64 (.v 140), .int .i64 (.v 141), .slO 142 (.k 0) (.v 143) (.v 144)]) .fresh
(.call 50 [.int .i64 (.k 3)] [] [(145, .i), (146, .i), (147, .i), (148, .i)] (.agg [.int .i64 (.v 145), .int .i64 (.v 146), .int .i64 (.v 147), .int .i64 (.v 148)]) .same
(.call 49 [.int .i64 (.k 11), .int .i64 (.k 2), .int .i64 (.k 6), .int .i64 (.k 2), .agg [.int .i64 (.v 145), .int .i64 (.v 146), .int .i64 (.v 147), .int .i64 (.v 148)]] [] [(149, .i), (150, .i), (151, .i), (152, .i), (153, .i), (154, .i), (155, .i), (156, .i), (157, .i)] (.agg [.int .i64 (.v 149), .int .i64 (.v 150), .int .i64 (.v 151), .int .i64 (.v 152), .int .i64 (.v 153), .int .i64 (.v 154), .int .i64 (.v 155), .int .i64 (.v 156), .int .i64 (.v 157)]) .same
(.call 18 [.agg [.int .i64 (.v 136), .int .i64 (.v 137), .int .i64 (.v 138), .int .i64 (.v 139), .int .i64 (.v 140), .int .i64 (.v 141), .slO 142 (.k 0) (.v 143) (.v 144)], .agg [.int .i64 (.v 149), .int .i64 (.v 150), .int .i64 (.v 151), .int .i64 (.v 152), .int .i64 (.v 153), .int .i64 (.v 154), .int .i64 (.v 155), .int .i64 (.v 156), .int .i64 (.v 157)]] [] [(158, .i), (159, .i), (160, .i), (161, .i), (162, .i), (163, .i), (164, .p), (165, .n), (166, .n), (167, .i), (168, .b), (169, .i)] (.tup [.agg [.int .i64 (.v 158), .int .i64 (.v 159), .int .i64 (.v 160), .int .i64 (.v 161), .int .i64 (.v 162), .int .i64 (.v 163), .slO 164 (.k 0) (.v 165) (.v 166)], .int .i64 (.v 167), .bool (.v 168), .int .i64 (.v 169)]) .fresh
(.all 4
(.call 48 [] [] [(170, .i), (171, .i), (172, .i), (173, .i), (174, .i), (175, .i), (176, .p), (177, .n), (178, .n)] (.agg [.int .i64 (.v 170), .int .i64 (.v 171), .int .i64 (.v 172), .int .i64 (.v 173), .int .i64 (.v 174), .int .i64 (.v 175), .slO 176 (.k 0) (.v 177) (.v 178)]) .fresh
(.call 50 [.int .i64 (.k 3)] [] [(179, .i), (180, .i), (181, .i), (182, .i)] (.agg [.int .i64 (.v 179), .int .i64 (.v 180), .int .i64 (.v 181), .int .i64 (.v 182)]) .same
(.call 49 [.int .i64 (.k 30), .int .i64 (.k 2), .int .i64 (.k 4), .int .i64 (.k 2), .agg [.int .i64 (.v 179), .int .i64 (.v 180), .int .i64 (.v 181), .int .i64 (.v 182)]] [] [(183, .i), (184, .i), (185, .i), (186, .i), (187, .i), (188, .i), (189, .i), (190, .i), (191, .i)] (.agg [.int .i64 (.v 183), .int .i64 (.v 184), .int .i64 (.v 185), .int .i64 (.v 186), .int .i64 (.v 187), .int .i64 (.v 188), .int .i64 (.v 189), .int .i64 (.v 190), .int .i64 (.v 191)]) .same
(.call 18 [.agg [.int .i64 (.v 170), .int .i64 (.v 171), .int .i64 (.v 172), .int .i64 (.v 173), .int .i64 (.v 174), .int .i64 (.v 175), .slO 176 (.k 0) (.v 177) (.v 178)], .agg [.int .i64 (.v 183), .int .i64 (.v 184), .int .i64 (.v 185), .int .i64 (.v 186), .int .i64 (.v 187), .int .i64 (.v 188), .int .i64 (.v 189), .int .i64 (.v 190), .int .i64 (.v 191)]] [] [(192, .i), (193, .i), (194, .i), (195, .i), (196, .i), (197, .i), (198, .p), (199, .n), (200, .n), (201, .i), (202, .b), (203, .i)] (.tup [.agg [.int .i64 (.v 192), .int .i64 (.v 193), .int .i64 (.v 194), .int .i64 (.v 195), .int .i64 (.v 196), .int .i64 (.v 197), .slO 198 (.k 0) (.v 199) (.v 200)], .int .i64 (.v 201), .bool (.v 202), .int .i64 (.v 203)]) .fresh
(.all 5
(.call 48 [] [] [(204, .i), (205, .i), (206, .i), (207, .i), (208, .i), (209, .i), (210, .p), (211, .n), (212, .n)] (.agg [.int .i64 (.v 204), .int .i64 (.v 205), .int .i64 (.v 206), .int .i64 (.v 207), .int .i64 (.v 208), .int .i64 (.v 209), .slO 210 (.k 0) (.v 211) (.v 212)]) .fresh
(.call 51 [.int .i64 (.k 30), .int .i64 (.k 1)] [] [(213, .i), (214, .i), (215, .i), (216, .i), (217, .i), (218, .i), (219, .i), (220, .i), (221, .i)] (.agg [.int .i64 (.v 213), .int .i64 (.v 214), .int .i64 (.v 215), .int .i64 (.v 216), .int .i64 (.v 217), .int .i64 (.v 218), .int .i64 (.v 219), .int .i64 (.v 220), .int .i64 (.v 221)]) .same
(.call 18 [.agg [.int .i64 (.v 204), .int .i64 (.v 205), .int .i64 (.v 206), .int .i64 (.v 207), .int .i64 (.v 208), .int .i64 (.v 209), .slO 210 (.k 0) (.v 211) (.v 212)], .agg [.int .i64 (.v 213), .int .i64 (.v 214), .int .i64 (.v 215), .int .i64 (.v 216), .int .i64 (.v 217), .int .i64 (.v 218), .int .i64 (.v 219), .int .i64 (.v 220), .int .i64 (.v 221)]] [] [(222, .i), (223, .i), (224, .i), (225, .i), (226, .i), (227, .i), (228, .p), (229, .n), (230, .n), (231, .i), (232, .b), (233, .i)] (.tup [.agg [.int .i64 (.v 222), .int .i64 (.v 223), .int .i64 (.v 224), .int .i64 (.v 225), .int .i64 (.v 226), .int .i64 (.v 227), .slO 228 (.k 0) (.v 229) (.v 230)], .int .i64 (.v 231), .bool (.v 232), .int .i64 (.v 233)]) .fresh
(.all 6
(.call 48 [] [] [(234, .i), (235, .i), (236, .i), (237, .i), (238, .i), (239, .i), (240, .p), (241, .n), (242, .n)] (.agg [.int .i64 (.v 234), .int .i64 (.v 235), .int .i64 (.v 236), .int .i64 (.v 237), .int .i64 (.v 238), .int .i64 (.v 239), .slO 240 (.k 0) (.v 241) (.v 242)]) .fresh
(.call 50 [.int .i64 (.k 3)] [] [(243, .i), (244, .i), (245, .i), (246, .i)] (.agg [.int .i64 (.v 243), .int .i64 (.v 244), .int .i64 (.v 245), .int .i64 (.v 246)]) .same
(.call 49 [.int .i64 (.k 11), .int .i64 (.k 2), .int .i64 (.k 4), .int .i64 (.k 4), .agg [.int .i64 (.v 243), .int .i64 (.v 244), .int .i64 (.v 245), .int .i64 (.v 246)]] [] [(247, .i), (248, .i), (249, .i), (250, .i), (251, .i), (252, .i), (253, .i), (254, .i), (255, .i)] (.agg [.int .i64 (.v 247), .int .i64 (.v 248), .int .i64 (.v 249), .int .i64 (.v 250), .int .i64 (.v 251), .int .i64 (.v 252), .int .i64 (.v 253), .int .i64 (.v 254), .int .i64 (.v 255)]) .same
(.call 18 [.agg [.int .i64 (.v 234), .int .i64 (.v 235), .int .i64 (.v 236), .int .i64 (.v 237), .int .i64 (.v 238), .int .i64 (.v 239), .slO 240 (.k 0) (.v 241) (.v 242)], .agg [.int .i64 (.v 247), .int .i64 (.v 248), .int .i64 (.v 249), .int .i64 (.v 250), .int .i64 (.v 251), .int .i64 (.v 252), .int .i64 (.v 253), .int .i64 (.v 254), .int .i64 (.v 255)]] [] [(256, .i), (257, .i), (258, .i), (259, .i), (260, .i), (261, .i), (262, .p), (263, .n), (264, .n), (265, .i), (266, .b), (267, .i)] (.tup [.agg [.int .i64 (.v 256), .int .i64 (.v 257), .int .i64 (.v 258), .int .i64 (.v 259), .int .i64 (.v 260), .int .i64 (.v 261), .slO 262 (.k 0) (.v 263) (.v 264)], .int .i64 (.v 265), .bool (.v 266), .int .i64 (.v 267)]) .fresh
(.all 7
(.ite (.eq (.v 33) (.k 0))
(.ite (.eq (.v 67) (.k 0))
(.ite (.eq (.v 101) (.k 0))
(.ite (.eq (.v 135) (.k 0))
(.ite (.eq (.v 169) (.k 0))
(.ite (.eq (.v 203) (.k 0))
(.ite (.eq (.v 233) (.k 0))
(.ite (.eq (.v 267) (.k 3))
(.ite (.eq (.v 31) (.k 10))
(.ite (.v 32)
(.ite (.eq (.v 65) (.k 7))
(.ite (.v 66)
(.ret (.bool (.k false)) [])
(.ite (.eq (.v 99) (.k 10))
(.ite (.eq (.v 133) (.k (-4)))
(.ite (.eq (.v 167) (.k (-5)))
(.ite (.eq (.v 201) (.k (-3)))
(.ite (.eq (.v 231) (.k 0))
(.ite (.eq (.v 22) (.k 7))
(.ite (.eq (.v 24) (.k 10))
(.chk (.le (.k 0) (.v 29))
(.ite (.eq (.v 29) (.k 2))
(.chk (.idx (.k 0) (.v 29))
(.chk (.isp 28)
(.chk (.le (.k 0) (.add (.k 0) (.mul (.k 0) (.k 4))))
(.ld 28 (.add (.add (.k 0) (.mul (.k 0) (.k 4))) (.k 3)) [.slO 268 (.k 0) (.v 269) (.v 270)] [(268, .p), (269, .n), (270, .n)]
(.chk (.le (.k 0) (.v 269))
(.ite (.eq (.v 269) (.k 3))
(.chk (.le (.k 0) (.v 97))
(.ite (.eq (.v 97) (.k 2))
(.chk (.idx (.k 0) (.v 97))
(.chk (.isp 96)
(.ld 96 (.add (.add (.k 0) (.mul (.k 0) (.k 4))) (.k 3)) [.slO 271 (.k 0) (.v 272) (.v 273)] [(271, .p), (272, .n), (273, .n)]
(.chk (.le (.k 0) (.v 272))
(.ite (.eq (.v 272) (.k 2))
(.chk (.le (.k 0) (.v 229))
(.ite (.eq (.v 229) (.k 1))
(.chk (.idx (.k 0) (.v 229))
(.chk (.isp 228)
(.ld 228 (.add (.add (.k 0) (.mul (.k 0) (.k 4))) (.k 2)) [.int .i64 (.v 274)] [(274, .i)]
(.ret (.bool (.eq (.v 274) (.k 30))) []))))
(.ret (.bool (.k false)) [])))
(.ret (.bool (.k false)) []))))))
(.ret (.bool (.k false)) [])))
(.ret (.bool (.k false)) [])))))))
(.ret (.bool (.k false)) [])))
(.ret (.bool (.k false)) []))
(.ret (.bool (.k false)) []))
(.ret (.bool (.k false)) []))
(.ret (.bool (.k false)) []))
(.ret (.bool (.k false)) []))
(.ret (.bool (.k false)) []))
(.ret (.bool (.k false)) [])))
(.ret (.bool (.k false)) []))
(.ret (.bool (.k false)) []))
(.ret (.bool (.k false)) []))
(.ret (.bool (.k false)) []))
(.ret (.bool (.k false)) []))
(.ret (.bool (.k false)) []))
(.ret (.bool (.k false)) []))
(.ret (.bool (.k false)) []))
(.ret (.bool (.k false)) []))
(.ret (.bool (.k false)) []))
(.ret (.bool (.k false)) [])))))))))))))))))))))))))))))))))))))))))
theorem x_applyBegun (M : Nat → Prop) (H0 : Hp) (W0 : World) (R : Ending → World → Prop) (hH : H0.le (hpOf W0)) (h :
 (Cl Try.prog W0 M H0 nK 48 #[] fun z W1 W2 => ∃ x0 : Int, ∃ x1 : Int, ∃ x2 : Int, ∃ x3 : Int, ∃ x4 : Int, ∃ x5 : Int, ∃ x6 : Option Loc, ∃ x7 : Nat, ∃ x8 : Nat, z = .returned (Value.agg #[vi x0, vi x1, vi x2, vi x3, vi x4, vi x5, vsl x6 x7 x8]) ∧ Fr W1 W2 H0 fun H1 =>
 (Cl Try.prog W0 M H1 nK 50 #[vi 3] fun z W3 W4 => ∃ x9 : Int, ∃ x10 : Int, ∃ x11 : Int, ∃ x12 : Int, z = .returned (Value.agg #[vi x9, vi x10, vi x11, vi x12]) ∧ Ext W3 W4 ∧
 (Cl Try.prog W0 M H1 nK 49 #[vi 11, vi 2, vi 4, vi 2, Value.agg #[vi x9, vi x10, vi x11, vi x12]] fun z W5 W6 => ∃ x13 : Int, ∃ x14 : Int, ∃ x15 : Int, ∃ x16 : Int, ∃ x17 : Int, ∃ x18 : Int, ∃ x19 : Int, ∃ x20 : Int, ∃ x21 : Int, z = .returned (Value.agg #[vi x13, vi x14, vi x15, vi x16, vi x17, vi x18, vi x19, vi x20, vi x21]) ∧ Ext W5 W6 ∧
 (Cl Try.prog W0 M H1 nK 18 #[Value.agg #[vi x0, vi x1, vi x2, vi x3, vi x4, vi x5, vsl x6 x7 x8], Value.agg #[vi x13, vi x14, vi x15, vi x16, vi x17, vi x18, vi x19, vi x20, vi x21]] fun z W7 W8 => ∃ x22 : Int, ∃ x23 : Int, ∃ x24 : Int, ∃ x25 : Int, ∃ x26 : Int, ∃ x27 : Int, ∃ x28 : Option Loc, ∃ x29 : Nat, ∃ x30 : Nat, ∃ x31 : Int, ∃ x32 : Bool, ∃ x33 : Int, z = .returned (Value.tuple #[Value.agg #[vi x22, vi x23, vi x24, vi x25, vi x26, vi x27, vsl x28 x29 x30], vi x31, vb (x32), vi x33]) ∧ Fr W7 W8 H1 fun H2 =>
 (∀ b0 : Nat,
 (Cl Try.prog W0 M H2 nK 48 #[] fun z W9 W10 => ∃ x34 : Int, ∃ x35 : Int, ∃ x36 : Int, ∃ x37 : Int, ∃ x38 : Int, ∃ x39 : Int, ∃ x40 : Option Loc, ∃ x41 : Nat, ∃ x42 : Nat, z = .returned (Value.agg #[vi x34, vi x35, vi x36, vi x37, vi x38, vi x39, vsl x40 x41 x42]) ∧ Fr W9 W10 H2 fun H3 =>
 (Cl Try.prog W0 M H3 nK 50 #[vi 3] fun z W11 W12 => ∃ x43 : Int, ∃ x44 : Int, ∃ x45 : Int, ∃ x46 : Int, z = .returned (Value.agg #[vi x43, vi x44, vi x45, vi x46]) ∧ Ext W11 W12 ∧
 (Cl Try.prog W0 M H3 nK 49 #[vi 11, vi 2, vi 3, vi 2, Value.agg #[vi x43, vi x44, vi x45, vi x46]] fun z W13 W14 => ∃ x47 : Int, ∃ x48 : Int, ∃ x49 : Int, ∃ x50 : Int, ∃ x51 : Int, ∃ x52 : Int, ∃ x53 : Int, ∃ x54 : Int, ∃ x55 : Int, z = .returned (Value.agg #[vi x47, vi x48, vi x49, vi x50, vi x51, vi x52, vi x53, vi x54, vi x55]) ∧ Ext W13 W14 ∧
 (Cl Try.prog W0 M H3 nK 18 #[Value.agg #[vi x34, vi x35, vi x36, vi x37, vi x38, vi x39, vsl x40 x41 x42], Value.agg #[vi x47, vi x48, vi x49, vi x50, vi x51, vi x52, vi x53, vi x54, vi x55]] fun z W15 W16 => ∃ x56 : Int, ∃ x57 : Int, ∃ x58 : Int, ∃ x59 : Int, ∃ x60 : Int, ∃ x61 : Int, ∃ x62 : Option Loc, ∃ x63 : Nat, ∃ x64 : Nat, ∃ x65 : Int, ∃ x66 : Bool, ∃ x67 : Int, z = .returned (Value.tuple #[Value.agg #[vi x56, vi x57, vi x58, vi x59, vi x60, vi x61, vsl x62 x63 x64], vi x65, vb (x66), vi x67]) ∧ Fr W15 W16 H3 fun H4 =>
 (∀ b1 : Nat,
 (Cl Try.prog W0 M H4 nK 48 #[] fun z W17 W18 => ∃ x68 : Int, ∃ x69 : Int, ∃ x70 : Int, ∃ x71 : Int, ∃ x72 : Int, ∃ x73 : Int, ∃ x74 : Option Loc, ∃ x75 : Nat, ∃ x76 : Nat, z = .returned (Value.agg #[vi x68, vi x69, vi x70, vi x71, vi x72, vi x73, vsl x74 x75 x76]) ∧ Fr W17 W18 H4 fun H5 =>
 (Cl Try.prog W0 M H5 nK 50 #[vi 3] fun z W19 W20 => ∃ x77 : Int, ∃ x78 : Int, ∃ x79 : Int, ∃ x80 : Int, z = .returned (Value.agg #[vi x77, vi x78, vi x79, vi x80]) ∧ Ext W19 W20 ∧
 (Cl Try.prog W0 M H5 nK 49 #[vi 11, vi 2, vi 6, vi 4, Value.agg #[vi x77, vi x78, vi x79, vi x80]] fun z W21 W22 => ∃ x81 : Int, ∃ x82 : Int, ∃ x83 : Int, ∃ x84 : Int, ∃ x85 : Int, ∃ x86 : Int, ∃ x87 : Int, ∃ x88 : Int, ∃ x89 : Int, z = .returned (Value.agg #[vi x81, vi x82, vi x83, vi x84, vi x85, vi x86, vi x87, vi x88, vi x89]) ∧ Ext W21 W22 ∧
 (Cl Try.prog W0 M H5 nK 18 #[Value.agg #[vi x68, vi x69, vi x70, vi x71, vi x72, vi x73, vsl x74 x75 x76], Value.agg #[vi x81, vi x82, vi x83, vi x84, vi x85, vi x86, vi x87, vi x88, vi x89]] fun z W23 W24 => ∃ x90 : Int, ∃ x91 : Int, ∃ x92 : Int, ∃ x93 : Int, ∃ x94 : Int, ∃ x95 : Int, ∃ x96 : Option Loc, ∃ x97 : Nat, ∃ x98 : Nat, ∃ x99 : Int, ∃ x100 : Bool, ∃ x101 : Int, z = .returned (Value.tuple #[Value.agg #[vi x90, vi x91, vi x92, vi x93, vi x94, vi x95, vsl x96 x97 x98], vi x99, vb (x100), vi x101]) ∧ Fr W23 W24 H5 fun H6 =>
 (∀ b2 : Nat,
 (Cl Try.prog W0 M H6 nK 48 #[] fun z W25 W26 => ∃ x102 : Int, ∃ x103 : Int, ∃ x104 : Int, ∃ x105 : Int, ∃ x106 : Int, ∃ x107 : Int, ∃ x108 : Option Loc, ∃ x109 : Nat, ∃ x110 : Nat, z = .returned (Value.agg #[vi x102, vi x103, vi x104, vi x105, vi x106, vi x107, vsl x108 x109 x110]) ∧ Fr W25 W26 H6 fun H7 =>
 (Cl Try.prog W0 M H7 nK 50 #[vi 3] fun z W27 W28 => ∃ x111 : Int, ∃ x112 : Int, ∃ x113 : Int, ∃ x114 : Int, z = .returned (Value.agg #[vi x111, vi x112, vi x113, vi x114]) ∧ Ext W27 W28 ∧
 (Cl Try.prog W0 M H7 nK 49 #[vi 11, vi 2, vi 2, vi 0, Value.agg #[vi x111, vi x112, vi x113, vi x114]] fun z W29 W30 => ∃ x115 : Int, ∃ x116 : Int, ∃ x117 : Int, ∃ x118 : Int, ∃ x119 : Int, ∃ x120 : Int, ∃ x121 : Int, ∃ x122 : Int, ∃ x123 : Int, z = .returned (Value.agg #[vi x115, vi x116, vi x117, vi x118, vi x119, vi x120, vi x121, vi x122, vi x123]) ∧ Ext W29 W30 ∧
 (Cl Try.prog W0 M H7 nK 18 #[Value.agg #[vi x102, vi x103, vi x104, vi x105, vi x106, vi x107, vsl x108 x109 x110], Value.agg #[vi x115, vi x116, vi x117, vi x118, vi x119, vi x120, vi x121, vi x122, vi x123]] fun z W31 W32 => ∃ x124 : Int, ∃ x125 : Int, ∃ x126 : Int, ∃ x127 : Int, ∃ x128 : Int, ∃ x129 : Int, ∃ x130 : Option Loc, ∃ x131 : Nat, ∃ x132 : Nat, ∃ x133 : Int, ∃ x134 : Bool, ∃ x135 : Int, z = .returned (Value.tuple #[Value.agg #[vi x124, vi x125, vi x126, vi x127, vi x128, vi x129, vsl x130 x131 x132], vi x133, vb (x134), vi x135]) ∧ Fr W31 W32 H7 fun H8 =>
 (∀ b3 : Nat,
 (Cl Try.prog W0 M H8 nK 48 #[] fun z W33 W34 => ∃ x136 : Int, ∃ x137 : Int, ∃ x138 : Int, ∃ x139 : Int, ∃ x140 : Int, ∃ x141 : Int, ∃ x142 : Option Loc, ∃ x143 : Nat, ∃ x144 : Nat, z = .returned (Value.agg #[vi x136, vi x137, vi x138, vi x139, vi x140, vi x141, vsl x142 x143 x144]) ∧ Fr W33 W34 H8 fun H9 =>
 (Cl Try.prog W0 M H9 nK 50 #[vi 3] fun z W35 W36 => ∃ x145 : Int, ∃ x146 : Int, ∃ x147 : Int, ∃ x148 : Int, z = .returned (Value.agg #[vi x145, vi x146, vi x147, vi x148]) ∧ Ext W35 W36 ∧
 (Cl Try.prog W0 M H9 nK 49 #[vi 11, vi 2, vi 6, vi 2, Value.agg #[vi x145, vi x146, vi x147, vi x148]] fun z W37 W38 => ∃ x149 : Int, ∃ x150 : Int, ∃ x151 : Int, ∃ x152 : Int, ∃ x153 : Int, ∃ x154 : Int, ∃ x155 : Int, ∃ x156 : Int, ∃ x157 : Int, z = .returned (Value.agg #[vi x149, vi x150, vi x151, vi x152, vi x153, vi x154, vi x155, vi x156, vi x157]) ∧ Ext W37 W38 ∧
 (Cl Try.prog W0 M H9 nK 18 #[Value.agg #[vi x136, vi x137, vi x138, vi x139, vi x140, vi x141, vsl x142 x143 x144], Value.agg #[vi x149, vi x150, vi x151, vi x152, vi x153, vi x154, vi x155, vi x156, vi x157]] fun z W39 W40 => ∃ x158 : Int, ∃ x159 : Int, ∃ x160 : Int, ∃ x161 : Int, ∃ x162 : Int, ∃ x163 : Int, ∃ x164 : Option Loc, ∃ x165 : Nat, ∃ x166 : Nat, ∃ x167 : Int, ∃ x168 : Bool, ∃ x169 : Int, z = .returned (Value.tuple #[Value.agg #[vi x158, vi x159, vi x160, vi x161, vi x162, vi x163, vsl x164 x165 x166], vi x167, vb (x168), vi x169]) ∧ Fr W39 W40 H9 fun H10 =>
 (∀ b4 : Nat,
 (Cl Try.prog W0 M H10 nK 48 #[] fun z W41 W42 => ∃ x170 : Int, ∃ x171 : Int, ∃ x172 : Int, ∃ x173 : Int, ∃ x174 : Int, ∃ x175 : Int, ∃ x176 : Option Loc, ∃ x177 : Nat, ∃ x178 : Nat, z = .returned (Value.agg #[vi x170, vi x171, vi x172, vi x173, vi x174, vi x175, vsl x176 x177 x178]) ∧ Fr W41 W42 H10 fun H11 =>
 (Cl Try.prog W0 M H11 nK 50 #[vi 3] fun z W43 W44 => ∃ x179 : Int, ∃ x180 : Int, ∃ x181 : Int, ∃ x182 : Int, z = .returned (Value.agg #[vi x179, vi x180, vi x181, vi x182]) ∧ Ext W43 W44 ∧
 (Cl Try.prog W0 M H11 nK 49 #[vi 30, vi 2, vi 4, vi 2, Value.agg #[vi x179, vi x180, vi x181, vi x182]] fun z W45 W46 => ∃ x183 : Int, ∃ x184 : Int, ∃ x185 : Int, ∃ x186 : Int, ∃ x187 : Int, ∃ x188 : Int, ∃ x189 : Int, ∃ x190 : Int, ∃ x191 : Int, z = .returned (Value.agg #[vi x183, vi x184, vi x185, vi x186, vi x187, vi x188, vi x189, vi x190, vi x191]) ∧ Ext W45 W46 ∧
 (Cl Try.prog W0 M H11 nK 18 #[Value.agg #[vi x170, vi x171, vi x172, vi x173, vi x174, vi x175, vsl x176 x177 x178], Value.agg #[vi x183, vi x184, vi x185, vi x186, vi x187, vi x188, vi x189, vi x190, vi x191]] fun z W47 W48 => ∃ x192 : Int, ∃ x193 : Int, ∃ x194 : Int, ∃ x195 : Int, ∃ x196 : Int, ∃ x197 : Int, ∃ x198 : Option Loc, ∃ x199 : Nat, ∃ x200 : Nat, ∃ x201 : Int, ∃ x202 : Bool, ∃ x203 : Int, z = .returned (Value.tuple #[Value.agg #[vi x192, vi x193, vi x194, vi x195, vi x196, vi x197, vsl x198 x199 x200], vi x201, vb (x202), vi x203]) ∧ Fr W47 W48 H11 fun H12 =>
 (∀ b5 : Nat,
 (Cl Try.prog W0 M H12 nK 48 #[] fun z W49 W50 => ∃ x204 : Int, ∃ x205 : Int, ∃ x206 : Int, ∃ x207 : Int, ∃ x208 : Int, ∃ x209 : Int, ∃ x210 : Option Loc, ∃ x211 : Nat, ∃ x212 : Nat, z = .returned (Value.agg #[vi x204, vi x205, vi x206, vi x207, vi x208, vi x209, vsl x210 x211 x212]) ∧ Fr W49 W50 H12 fun H13 =>
 (Cl Try.prog W0 M H13 nK 51 #[vi 30, vi 1] fun z W51 W52 => ∃ x213 : Int, ∃ x214 : Int, ∃ x215 : Int, ∃ x216 : Int, ∃ x217 : Int, ∃ x218 : Int, ∃ x219 : Int, ∃ x220 : Int, ∃ x221 : Int, z = .returned (Value.agg #[vi x213, vi x214, vi x215, vi x216, vi x217, vi x218, vi x219, vi x220, vi x221]) ∧ Ext W51 W52 ∧
 (Cl Try.prog W0 M H13 nK 18 #[Value.agg #[vi x204, vi x205, vi x206, vi x207, vi x208, vi x209, vsl x210 x211 x212], Value.agg #[vi x213, vi x214, vi x215, vi x216, vi x217, vi x218, vi x219, vi x220, vi x221]] fun z W53 W54 => ∃ x222 : Int, ∃ x223 : Int, ∃ x224 : Int, ∃ x225 : Int, ∃ x226 : Int, ∃ x227 : Int, ∃ x228 : Option Loc, ∃ x229 : Nat, ∃ x230 : Nat, ∃ x231 : Int, ∃ x232 : Bool, ∃ x233 : Int, z = .returned (Value.tuple #[Value.agg #[vi x222, vi x223, vi x224, vi x225, vi x226, vi x227, vsl x228 x229 x230], vi x231, vb (x232), vi x233]) ∧ Fr W53 W54 H13 fun H14 =>
 (∀ b6 : Nat,
 (Cl Try.prog W0 M H14 nK 48 #[] fun z W55 W56 => ∃ x234 : Int, ∃ x235 : Int, ∃ x236 : Int, ∃ x237 : Int, ∃ x238 : Int, ∃ x239 : Int, ∃ x240 : Option Loc, ∃ x241 : Nat, ∃ x242 : Nat, z = .returned (Value.agg #[vi x234, vi x235, vi x236, vi x237, vi x238, vi x239, vsl x240 x241 x242]) ∧ Fr W55 W56 H14 fun H15 =>
 (Cl Try.prog W0 M H15 nK 50 #[vi 3] fun z W57 W58 => ∃ x243 : Int, ∃ x244 : Int, ∃ x245 : Int, ∃ x246 : Int, z = .returned (Value.agg #[vi x243, vi x244, vi x245, vi x246]) ∧ Ext W57 W58 ∧
 (Cl Try.prog W0 M H15 nK 49 #[vi 11, vi 2, vi 4, vi 4, Value.agg #[vi x243, vi x244, vi x245, vi x246]] fun z W59 W60 => ∃ x247 : Int, ∃ x248 : Int, ∃ x249 : Int, ∃ x250 : Int, ∃ x251 : Int, ∃ x252 : Int, ∃ x253 : Int, ∃ x254 : Int, ∃ x255 : Int, z = .returned (Value.agg #[vi x247, vi x248, vi x249, vi x250, vi x251, vi x252, vi x253, vi x254, vi x255]) ∧ Ext W59 W60 ∧
 (Cl Try.prog W0 M H15 nK 18 #[Value.agg #[vi x234, vi x235, vi x236, vi x237, vi x238, vi x239, vsl x240 x241 x242], Value.agg #[vi x247, vi x248, vi x249, vi x250, vi x251, vi x252, vi x253, vi x254, vi x255]] fun z W61 W62 => ∃ x256 : Int, ∃ x257 : Int, ∃ x258 : Int, ∃ x259 : Int, ∃ x260 : Int, ∃ x261 : Int, ∃ x262 : Option Loc, ∃ x263 : Nat, ∃ x264 : Nat, ∃ x265 : Int, ∃ x266 : Bool, ∃ x267 : Int, z = .returned (Value.tuple #[Value.agg #[vi x256, vi x257, vi x258, vi x259, vi x260, vi x261, vsl x262 x263 x264], vi x265, vb (x266), vi x267]) ∧ Fr W61 W62 H15 fun H16 =>
 (∀ b7 : Nat,
 ((x33 = 0 →
  ((x67 = 0 →
   ((x101 = 0 →
    ((x135 = 0 →
     ((x169 = 0 →
      ((x203 = 0 →
       ((x233 = 0 →
        ((x267 = 3 →
         ((x31 = 10 →
          ((x32 = true →
           ((x65 = 7 →
            ((x66 = true →
             Rt R W0 M H16 nK (vb (false))) ∧
            (¬ (x66 = true) →
             ((x99 = 10 →
              ((x133 = (-4) →
               ((x167 = (-5) →
                ((x201 = (-3) →
                 ((x231 = 0 →
                  ((x22 = 7 →
                   ((x24 = 10 →
                    (0 ≤ (x29 : Int) ∧ (0 ≤ (x29 : Int) →
                    (((x29 : Int) = 2 →
                     (((0 : Int) ≤ 0 ∧ 0 < (x29 : Int)) ∧ (((0 : Int) ≤ 0 ∧ 0 < (x29 : Int)) →
                     (x28.isSome = true ∧ (x28.isSome = true →
                     ((0 : Int) ≤ (0 + (0 * 4)) ∧ ((0 : Int) ≤ (0 + (0 * 4)) →
                     (∃ x268 : Option Loc, ∃ x269 : Nat, ∃ x270 : Nat, RowAt H16 x28 ((0 + (0 * 4)) + 3) [vsl x268 x269 x270] ∧
                     (0 ≤ (x269 : Int) ∧ (0 ≤ (x269 : Int) →
                     (((x269 : Int) = 3 →
                      (0 ≤ (x97 : Int) ∧ (0 ≤ (x97 : Int) →
                      (((x97 : Int) = 2 →
                       (((0 : Int) ≤ 0 ∧ 0 < (x97 : Int)) ∧ (((0 : Int) ≤ 0 ∧ 0 < (x97 : Int)) →
                       (x96.isSome = true ∧ (x96.isSome = true →
                       (∃ x271 : Option Loc, ∃ x272 : Nat, ∃ x273 : Nat, RowAt H16 x96 ((0 + (0 * 4)) + 3) [vsl x271 x272 x273] ∧
                       (0 ≤ (x272 : Int) ∧ (0 ≤ (x272 : Int) →
                       (((x272 : Int) = 2 →
                        (0 ≤ (x229 : Int) ∧ (0 ≤ (x229 : Int) →
                        (((x229 : Int) = 1 →
                         (((0 : Int) ≤ 0 ∧ 0 < (x229 : Int)) ∧ (((0 : Int) ≤ 0 ∧ 0 < (x229 : Int)) →
                         (x228.isSome = true ∧ (x228.isSome = true →
                         (∃ x274 : Int, RowAt H16 x228 ((0 + (0 * 4)) + 2) [vi x274] ∧
                         Rt R W0 M H16 nK (vb (decide (x274 = 30))))))))) ∧
                        (¬ ((x229 : Int) = 1) →
                         Rt R W0 M H16 nK (vb (false))))))) ∧
                       (¬ ((x272 : Int) = 2) →
                        Rt R W0 M H16 nK (vb (false)))))))))))) ∧
                      (¬ ((x97 : Int) = 2) →
                       Rt R W0 M H16 nK (vb (false))))))) ∧
                     (¬ ((x269 : Int) = 3) →
                      Rt R W0 M H16 nK (vb (false)))))))))))))) ∧
                    (¬ ((x29 : Int) = 2) →
                     Rt R W0 M H16 nK (vb (false))))))) ∧
                   (¬ (x24 = 10) →
                    Rt R W0 M H16 nK (vb (false))))) ∧
                  (¬ (x22 = 7) →
                   Rt R W0 M H16 nK (vb (false))))) ∧
                 (¬ (x231 = 0) →
                  Rt R W0 M H16 nK (vb (false))))) ∧
                (¬ (x201 = (-3)) →
                 Rt R W0 M H16 nK (vb (false))))) ∧
               (¬ (x167 = (-5)) →
                Rt R W0 M H16 nK (vb (false))))) ∧
              (¬ (x133 = (-4)) →
               Rt R W0 M H16 nK (vb (false))))) ∧
             (¬ (x99 = 10) →
              Rt R W0 M H16 nK (vb (false))))))) ∧
           (¬ (x65 = 7) →
            Rt R W0 M H16 nK (vb (false))))) ∧
          (¬ (x32 = true) →
           Rt R W0 M H16 nK (vb (false))))) ∧
         (¬ (x31 = 10) →
          Rt R W0 M H16 nK (vb (false))))) ∧
        (¬ (x267 = 3) →
         Rt R W0 M H16 nK (vb (false))))) ∧
       (¬ (x233 = 0) →
        Rt R W0 M H16 nK (vb (false))))) ∧
      (¬ (x203 = 0) →
       Rt R W0 M H16 nK (vb (false))))) ∧
     (¬ (x169 = 0) →
      Rt R W0 M H16 nK (vb (false))))) ∧
    (¬ (x135 = 0) →
     Rt R W0 M H16 nK (vb (false))))) ∧
   (¬ (x101 = 0) →
    Rt R W0 M H16 nK (vb (false))))) ∧
  (¬ (x67 = 0) →
   Rt R W0 M H16 nK (vb (false))))) ∧
 (¬ (x33 = 0) →
  Rt R W0 M H16 nK (vb (false)))))))))))))))))))))))))))))))))))))))))))) :
  Calls Try.prog 15 #[] W0 R :=
  calls_sxA (M := M) (V := v_applyBegun) (hi := {}) (args := []) (nv := 0) (e := (fun _ => .i 0)) Try.func15 hH h (by kernel_rfl) (by kernel_rfl) (by kernel_rfl)
def v_applyChecks : VC :=
(.all 0
(.call 15 [] [] [(9, .b)] (.bool (.v 9)) .same
(.ite (.v 9)
(.call 16 [.agg [.int .i64 (.v 0), .int .i64 (.v 1), .int .i64 (.v 2), .int .i64 (.v 3), .int .i64 (.v 4), .int .i64 (.v 5), .int .i64 (.v 6), .int .i64 (.v 7), .int .i64 (.v 8)]] [] [(10, .i)] (.int .i64 (.v 10)) .same
(.call 17 [.agg [.int .i64 (.v 0), .int .i64 (.v 1), .int .i64 (.v 2), .int .i64 (.v 3), .int .i64 (.v 4), .int .i64 (.v 5), .int .i64 (.v 6), .int .i64 (.v 7), .int .i64 (.v 8)]] [] [(11, .i)] (.int .i64 (.v 11)) .same
(.ret (.bool (.eq (.v 10) (.v 11))) [])))
(.ret (.bool (.k false)) []))))
theorem x_applyChecks (x0 : Int) (x1 : Int) (x2 : Int) (x3 : Int) (x4 : Int) (x5 : Int) (x6 : Int) (x7 : Int) (x8 : Int) (M : Nat → Prop) (H0 : Hp) (W0 : World) (R : Ending → World → Prop) (hH : H0.le (hpOf W0)) (h :
 (∀ b0 : Nat,
 (Cl Try.prog W0 M H0 nK 15 #[] fun z W1 W2 => ∃ x9 : Bool, z = .returned (vb (x9)) ∧ Ext W1 W2 ∧
 ((x9 = true →
  (Cl Try.prog W0 M H0 nK 16 #[Value.agg #[vi x0, vi x1, vi x2, vi x3, vi x4, vi x5, vi x6, vi x7, vi x8]] fun z W3 W4 => ∃ x10 : Int, z = .returned (vi x10) ∧ Ext W3 W4 ∧
  (Cl Try.prog W0 M H0 nK 17 #[Value.agg #[vi x0, vi x1, vi x2, vi x3, vi x4, vi x5, vi x6, vi x7, vi x8]] fun z W5 W6 => ∃ x11 : Int, z = .returned (vi x11) ∧ Ext W5 W6 ∧
  Rt R W0 M H0 nK (vb (decide (x10 = x11)))))) ∧
 (¬ (x9 = true) →
  Rt R W0 M H0 nK (vb (false))))))) :
  Calls Try.prog 3 #[Value.agg #[vi x0, vi x1, vi x2, vi x3, vi x4, vi x5, vi x6, vi x7, vi x8]] W0 R :=
  calls_sxA (M := M) (V := v_applyChecks) (hi := {}) (args := [.agg [.int .i64 (.v 0), .int .i64 (.v 1), .int .i64 (.v 2), .int .i64 (.v 3), .int .i64 (.v 4), .int .i64 (.v 5), .int .i64 (.v 6), .int .i64 (.v 7), .int .i64 (.v 8)]]) (nv := 9) (e := (upd (upd (upd (upd (upd (upd (upd (upd (upd (fun _ => .i 0) 0 (.i x0)) 1 (.i x1)) 2 (.i x2)) 3 (.i x3)) 4 (.i x4)) 5 (.i x5)) 6 (.i x6)) 7 (.i x7)) 8 (.i x8))) Try.func3 hH h (by kernel_rfl) (by kernel_rfl) (by kernel_rfl)
def v_applyOnes : VC :=
(.all 0
(.all 1
(.call 18 [.agg [.int .i64 (.v 0), .int .i64 (.v 1), .int .i64 (.v 2), .int .i64 (.v 3), .int .i64 (.v 4), .int .i64 (.v 5), .slO 6 (.k 0) (.v 7) (.v 8)], .agg [.int .i64 (.v 9), .int .i64 (.v 10), .int .i64 (.v 11), .int .i64 (.v 12), .int .i64 (.v 13), .int .i64 (.v 14), .int .i64 (.v 15), .int .i64 (.v 16), .int .i64 (.v 17)]] [] [(18, .i), (19, .i), (20, .i), (21, .i), (22, .i), (23, .i), (24, .p), (25, .n), (26, .n), (27, .i), (28, .b), (29, .i)] (.tup [.agg [.int .i64 (.v 18), .int .i64 (.v 19), .int .i64 (.v 20), .int .i64 (.v 21), .int .i64 (.v 22), .int .i64 (.v 23), .slO 24 (.k 0) (.v 25) (.v 26)], .int .i64 (.v 27), .bool (.v 28), .int .i64 (.v 29)]) .fresh
(.all 2
(.call 19 [.agg [.int .i64 (.v 0), .int .i64 (.v 1), .int .i64 (.v 2), .int .i64 (.v 3), .int .i64 (.v 4), .int .i64 (.v 5), .slO 6 (.k 0) (.v 7) (.v 8)], .agg [.int .i64 (.v 9), .int .i64 (.v 10), .int .i64 (.v 11), .int .i64 (.v 12), .int .i64 (.v 13), .int .i64 (.v 14), .int .i64 (.v 15), .int .i64 (.v 16), .int .i64 (.v 17)]] [] [(30, .i), (31, .i), (32, .i), (33, .i), (34, .i), (35, .i), (36, .p), (37, .n), (38, .n), (39, .i), (40, .b), (41, .i)] (.tup [.agg [.int .i64 (.v 30), .int .i64 (.v 31), .int .i64 (.v 32), .int .i64 (.v 33), .int .i64 (.v 34), .int .i64 (.v 35), .slO 36 (.k 0) (.v 37) (.v 38)], .int .i64 (.v 39), .bool (.v 40), .int .i64 (.v 41)]) .fresh
(.all 3
(.call 15 [] [] [(42, .b)] (.bool (.v 42)) .same
(.ite (.v 42)
(.call 20 [.agg [.int .i64 (.v 18), .int .i64 (.v 19), .int .i64 (.v 20), .int .i64 (.v 21), .int .i64 (.v 22), .int .i64 (.v 23), .slO 24 (.k 0) (.v 25) (.v 26)], .agg [.int .i64 (.v 30), .int .i64 (.v 31), .int .i64 (.v 32), .int .i64 (.v 33), .int .i64 (.v 34), .int .i64 (.v 35), .slO 36 (.k 0) (.v 37) (.v 38)]] [] [(43, .b)] (.bool (.v 43)) .same
(.ite (.v 43)
(.ite (.eq (.v 27) (.v 39))
(.esc (.bop .eql 4 (.tmp 41) (.tmp 42)) [.bool (.v 28), .bool (.v 40)] [] [(44, .b)] (some (.bool (.v 44))) .same
(.ite (.v 44)
(.ret (.bool (.eq (.v 29) (.v 41))) [])
(.ret (.bool (.k false)) [])))
(.ret (.bool (.k false)) []))
(.ret (.bool (.k false)) [])))
(.ret (.bool (.k false)) [])))))))))
theorem x_applyOnes (x0 : Int) (x1 : Int) (x2 : Int) (x3 : Int) (x4 : Int) (x5 : Int) (x6 : Option Loc) (x7 : Nat) (x8 : Nat) (x9 : Int) (x10 : Int) (x11 : Int) (x12 : Int) (x13 : Int) (x14 : Int) (x15 : Int) (x16 : Int) (x17 : Int) (M : Nat → Prop) (H0 : Hp) (W0 : World) (R : Ending → World → Prop) (hH : H0.le (hpOf W0)) (h :
 (∀ b0 : Nat,
 (∀ b1 : Nat,
 (Cl Try.prog W0 M H0 nK 18 #[Value.agg #[vi x0, vi x1, vi x2, vi x3, vi x4, vi x5, vsl x6 x7 x8], Value.agg #[vi x9, vi x10, vi x11, vi x12, vi x13, vi x14, vi x15, vi x16, vi x17]] fun z W1 W2 => ∃ x18 : Int, ∃ x19 : Int, ∃ x20 : Int, ∃ x21 : Int, ∃ x22 : Int, ∃ x23 : Int, ∃ x24 : Option Loc, ∃ x25 : Nat, ∃ x26 : Nat, ∃ x27 : Int, ∃ x28 : Bool, ∃ x29 : Int, z = .returned (Value.tuple #[Value.agg #[vi x18, vi x19, vi x20, vi x21, vi x22, vi x23, vsl x24 x25 x26], vi x27, vb (x28), vi x29]) ∧ Fr W1 W2 H0 fun H1 =>
 (∀ b2 : Nat,
 (Cl Try.prog W0 M H1 nK 19 #[Value.agg #[vi x0, vi x1, vi x2, vi x3, vi x4, vi x5, vsl x6 x7 x8], Value.agg #[vi x9, vi x10, vi x11, vi x12, vi x13, vi x14, vi x15, vi x16, vi x17]] fun z W3 W4 => ∃ x30 : Int, ∃ x31 : Int, ∃ x32 : Int, ∃ x33 : Int, ∃ x34 : Int, ∃ x35 : Int, ∃ x36 : Option Loc, ∃ x37 : Nat, ∃ x38 : Nat, ∃ x39 : Int, ∃ x40 : Bool, ∃ x41 : Int, z = .returned (Value.tuple #[Value.agg #[vi x30, vi x31, vi x32, vi x33, vi x34, vi x35, vsl x36 x37 x38], vi x39, vb (x40), vi x41]) ∧ Fr W3 W4 H1 fun H2 =>
 (∀ b3 : Nat,
 (Cl Try.prog W0 M H2 nK 15 #[] fun z W5 W6 => ∃ x42 : Bool, z = .returned (vb (x42)) ∧ Ext W5 W6 ∧
 ((x42 = true →
  (Cl Try.prog W0 M H2 nK 20 #[Value.agg #[vi x18, vi x19, vi x20, vi x21, vi x22, vi x23, vsl x24 x25 x26], Value.agg #[vi x30, vi x31, vi x32, vi x33, vi x34, vi x35, vsl x36 x37 x38]] fun z W7 W8 => ∃ x43 : Bool, z = .returned (vb (x43)) ∧ Ext W7 W8 ∧
  ((x43 = true →
   ((x27 = x39 →
    (Es W0 M H2 nK fun W9 => ∃ x44 : Bool, Eo Try.prog (.bop .eql 4 (.tmp 41) (.tmp 42)) [vb (x28), vb (x40)] W9 (.value (vb (x44))) fun W10 => Ext W9 W10 ∧
    ((x44 = true →
     Rt R W0 M H2 nK (vb (decide (x29 = x41)))) ∧
    (¬ (x44 = true) →
     Rt R W0 M H2 nK (vb (false)))))) ∧
   (¬ (x27 = x39) →
    Rt R W0 M H2 nK (vb (false))))) ∧
  (¬ (x43 = true) →
   Rt R W0 M H2 nK (vb (false)))))) ∧
 (¬ (x42 = true) →
  Rt R W0 M H2 nK (vb (false)))))))))))) :
  Calls Try.prog 4 #[Value.agg #[vi x0, vi x1, vi x2, vi x3, vi x4, vi x5, vsl x6 x7 x8], Value.agg #[vi x9, vi x10, vi x11, vi x12, vi x13, vi x14, vi x15, vi x16, vi x17]] W0 R :=
  calls_sxA (M := M) (V := v_applyOnes) (hi := {}) (args := [.agg [.int .i64 (.v 0), .int .i64 (.v 1), .int .i64 (.v 2), .int .i64 (.v 3), .int .i64 (.v 4), .int .i64 (.v 5), .slO 6 (.k 0) (.v 7) (.v 8)], .agg [.int .i64 (.v 9), .int .i64 (.v 10), .int .i64 (.v 11), .int .i64 (.v 12), .int .i64 (.v 13), .int .i64 (.v 14), .int .i64 (.v 15), .int .i64 (.v 16), .int .i64 (.v 17)]]) (nv := 18) (e := (upd (upd (upd (upd (upd (upd (upd (upd (upd (upd (upd (upd (upd (upd (upd (upd (upd (upd (fun _ => .i 0) 0 (.i x0)) 1 (.i x1)) 2 (.i x2)) 3 (.i x3)) 4 (.i x4)) 5 (.i x5)) 6 (.p x6)) 7 (.n x7)) 8 (.n x8)) 9 (.i x9)) 10 (.i x10)) 11 (.i x11)) 12 (.i x12)) 13 (.i x13)) 14 (.i x14)) 15 (.i x15)) 16 (.i x16)) 17 (.i x17))) Try.func4 hH h (by kernel_rfl) (by kernel_rfl) (by kernel_rfl)
def v_applyAgain : VC :=
(.all 0
(.all 1
(.call 18 [.agg [.int .i64 (.v 0), .int .i64 (.v 1), .int .i64 (.v 2), .int .i64 (.v 3), .int .i64 (.v 4), .int .i64 (.v 5), .slO 6 (.k 0) (.v 7) (.v 8)], .agg [.int .i64 (.v 9), .int .i64 (.v 10), .int .i64 (.v 11), .int .i64 (.v 12), .int .i64 (.v 13), .int .i64 (.v 14), .int .i64 (.v 15), .int .i64 (.v 16), .int .i64 (.v 17)]] [] [(19, .i), (20, .i), (21, .i), (22, .i), (23, .i), (24, .i), (25, .p), (26, .n), (27, .n), (28, .i), (29, .b), (30, .i)] (.tup [.agg [.int .i64 (.v 19), .int .i64 (.v 20), .int .i64 (.v 21), .int .i64 (.v 22), .int .i64 (.v 23), .int .i64 (.v 24), .slO 25 (.k 0) (.v 26) (.v 27)], .int .i64 (.v 28), .bool (.v 29), .int .i64 (.v 30)]) .fresh
(.all 2
(.ite (.eq (.v 30) (.k 0))
(.ite (.eq (.v 9) (.k 2))
(.ite (.le (.k 50) (.v 19))
(.call 15 [] [] [(31, .b)] (.bool (.v 31)) .same
(.ret (.bool (.v 31)) []))
(.all 3
(.chk (.rng .i64 (.add (.k 1) (.mx (.k 0) (.mn (.k 999) (.v 20)))))
(.call 21 [.int .i64 (.v 18), .int .i64 (.add (.k 1) (.mx (.k 0) (.mn (.k 999) (.v 20))))] [] [(31, .i)] (.int .i64 (.v 31)) .same
(.call 18 [.agg [.int .i64 (.v 19), .int .i64 (.v 20), .int .i64 (.v 21), .int .i64 (.v 22), .int .i64 (.v 23), .int .i64 (.v 24), .slO 25 (.k 0) (.v 26) (.v 27)], .agg [.int .i64 (.v 9), .int .i64 (.v 31), .int .i64 (.v 11), .int .i64 (.v 12), .int .i64 (.v 13), .int .i64 (.v 14), .int .i64 (.v 15), .int .i64 (.v 16), .int .i64 (.v 17)]] [] [(32, .i), (33, .i), (34, .i), (35, .i), (36, .i), (37, .i), (38, .p), (39, .n), (40, .n), (41, .i), (42, .b), (43, .i)] (.tup [.agg [.int .i64 (.v 32), .int .i64 (.v 33), .int .i64 (.v 34), .int .i64 (.v 35), .int .i64 (.v 36), .int .i64 (.v 37), .slO 38 (.k 0) (.v 39) (.v 40)], .int .i64 (.v 41), .bool (.v 42), .int .i64 (.v 43)]) .fresh
(.all 4
(.call 15 [] [] [(44, .b)] (.bool (.v 44)) .same
(.ite (.v 44)
(.ite (.eq (.v 43) (.k 0))
(.ite (.v 42)
(.ret (.bool (.k false)) [])
(.ite (.eq (.v 41) (.v 28))
(.esc (.bop .eql 30 (.tmp 70) (.tmp 72)) [.agg [.int .i64 (.v 34), .int .i64 (.v 35), .int .i64 (.v 36), .int .i64 (.v 37)], .agg [.int .i64 (.v 21), .int .i64 (.v 22), .int .i64 (.v 23), .int .i64 (.v 24)]] [] [(45, .b)] (some (.bool (.v 45))) .same
(.ite (.v 45)
(.call 22 [.slO 38 (.k 0) (.v 39) (.v 40), .slO 25 (.k 0) (.v 26) (.v 27)] [] [(46, .b)] (.bool (.v 46)) .same
(.ret (.bool (.v 46)) []))
(.ret (.bool (.k false)) [])))
(.ret (.bool (.k false)) [])))
(.ret (.bool (.k false)) []))
(.ret (.bool (.k false)) [])))))))))
(.call 15 [] [] [(31, .b)] (.bool (.v 31)) .same
(.ret (.bool (.v 31)) [])))
(.call 15 [] [] [(31, .b)] (.bool (.v 31)) .same
(.ret (.bool (.v 31)) [])))))))
theorem x_applyAgain (x0 : Int) (x1 : Int) (x2 : Int) (x3 : Int) (x4 : Int) (x5 : Int) (x6 : Option Loc) (x7 : Nat) (x8 : Nat) (x9 : Int) (x10 : Int) (x11 : Int) (x12 : Int) (x13 : Int) (x14 : Int) (x15 : Int) (x16 : Int) (x17 : Int) (x18 : Int) (M : Nat → Prop) (H0 : Hp) (W0 : World) (R : Ending → World → Prop) (hH : H0.le (hpOf W0)) (h :
 (∀ b0 : Nat,
 (∀ b1 : Nat,
 (Cl Try.prog W0 M H0 nK 18 #[Value.agg #[vi x0, vi x1, vi x2, vi x3, vi x4, vi x5, vsl x6 x7 x8], Value.agg #[vi x9, vi x10, vi x11, vi x12, vi x13, vi x14, vi x15, vi x16, vi x17]] fun z W1 W2 => ∃ x19 : Int, ∃ x20 : Int, ∃ x21 : Int, ∃ x22 : Int, ∃ x23 : Int, ∃ x24 : Int, ∃ x25 : Option Loc, ∃ x26 : Nat, ∃ x27 : Nat, ∃ x28 : Int, ∃ x29 : Bool, ∃ x30 : Int, z = .returned (Value.tuple #[Value.agg #[vi x19, vi x20, vi x21, vi x22, vi x23, vi x24, vsl x25 x26 x27], vi x28, vb (x29), vi x30]) ∧ Fr W1 W2 H0 fun H1 =>
 (∀ b2 : Nat,
 ((x30 = 0 →
  ((x9 = 2 →
   ((50 ≤ x19 →
    (Cl Try.prog W0 M H1 nK 15 #[] fun z W3 W4 => ∃ x31 : Bool, z = .returned (vb (x31)) ∧ Ext W3 W4 ∧
    Rt R W0 M H1 nK (vb (x31)))) ∧
   (¬ (50 ≤ x19) →
    (∀ b3 : Nat,
    (inKind .i64 (1 + (if 0 < (if x20 < 999 then x20 else 999) then (if x20 < 999 then x20 else 999) else 0)) ∧ (inKind .i64 (1 + (if 0 < (if x20 < 999 then x20 else 999) then (if x20 < 999 then x20 else 999) else 0)) →
    (Cl Try.prog W0 M H1 nK 21 #[vi x18, vi (1 + (if 0 < (if x20 < 999 then x20 else 999) then (if x20 < 999 then x20 else 999) else 0))] fun z W3 W4 => ∃ x31 : Int, z = .returned (vi x31) ∧ Ext W3 W4 ∧
    (Cl Try.prog W0 M H1 nK 18 #[Value.agg #[vi x19, vi x20, vi x21, vi x22, vi x23, vi x24, vsl x25 x26 x27], Value.agg #[vi x9, vi x31, vi x11, vi x12, vi x13, vi x14, vi x15, vi x16, vi x17]] fun z W5 W6 => ∃ x32 : Int, ∃ x33 : Int, ∃ x34 : Int, ∃ x35 : Int, ∃ x36 : Int, ∃ x37 : Int, ∃ x38 : Option Loc, ∃ x39 : Nat, ∃ x40 : Nat, ∃ x41 : Int, ∃ x42 : Bool, ∃ x43 : Int, z = .returned (Value.tuple #[Value.agg #[vi x32, vi x33, vi x34, vi x35, vi x36, vi x37, vsl x38 x39 x40], vi x41, vb (x42), vi x43]) ∧ Fr W5 W6 H1 fun H2 =>
    (∀ b4 : Nat,
    (Cl Try.prog W0 M H2 nK 15 #[] fun z W7 W8 => ∃ x44 : Bool, z = .returned (vb (x44)) ∧ Ext W7 W8 ∧
    ((x44 = true →
     ((x43 = 0 →
      ((x42 = true →
       Rt R W0 M H2 nK (vb (false))) ∧
      (¬ (x42 = true) →
       ((x41 = x28 →
        (Es W0 M H2 nK fun W9 => ∃ x45 : Bool, Eo Try.prog (.bop .eql 30 (.tmp 70) (.tmp 72)) [Value.agg #[vi x34, vi x35, vi x36, vi x37], Value.agg #[vi x21, vi x22, vi x23, vi x24]] W9 (.value (vb (x45))) fun W10 => Ext W9 W10 ∧
        ((x45 = true →
         (Cl Try.prog W0 M H2 nK 22 #[vsl x38 x39 x40, vsl x25 x26 x27] fun z W11 W12 => ∃ x46 : Bool, z = .returned (vb (x46)) ∧ Ext W11 W12 ∧
         Rt R W0 M H2 nK (vb (x46)))) ∧
        (¬ (x45 = true) →
         Rt R W0 M H2 nK (vb (false)))))) ∧
       (¬ (x41 = x28) →
        Rt R W0 M H2 nK (vb (false))))))) ∧
     (¬ (x43 = 0) →
      Rt R W0 M H2 nK (vb (false))))) ∧
    (¬ (x44 = true) →
     Rt R W0 M H2 nK (vb (false)))))))))))))) ∧
  (¬ (x9 = 2) →
   (Cl Try.prog W0 M H1 nK 15 #[] fun z W3 W4 => ∃ x31 : Bool, z = .returned (vb (x31)) ∧ Ext W3 W4 ∧
   Rt R W0 M H1 nK (vb (x31)))))) ∧
 (¬ (x30 = 0) →
  (Cl Try.prog W0 M H1 nK 15 #[] fun z W3 W4 => ∃ x31 : Bool, z = .returned (vb (x31)) ∧ Ext W3 W4 ∧
  Rt R W0 M H1 nK (vb (x31)))))))))) :
  Calls Try.prog 5 #[Value.agg #[vi x0, vi x1, vi x2, vi x3, vi x4, vi x5, vsl x6 x7 x8], Value.agg #[vi x9, vi x10, vi x11, vi x12, vi x13, vi x14, vi x15, vi x16, vi x17], vi x18] W0 R :=
  calls_sxA (M := M) (V := v_applyAgain) (hi := {}) (args := [.agg [.int .i64 (.v 0), .int .i64 (.v 1), .int .i64 (.v 2), .int .i64 (.v 3), .int .i64 (.v 4), .int .i64 (.v 5), .slO 6 (.k 0) (.v 7) (.v 8)], .agg [.int .i64 (.v 9), .int .i64 (.v 10), .int .i64 (.v 11), .int .i64 (.v 12), .int .i64 (.v 13), .int .i64 (.v 14), .int .i64 (.v 15), .int .i64 (.v 16), .int .i64 (.v 17)], .int .i64 (.v 18)]) (nv := 19) (e := (upd (upd (upd (upd (upd (upd (upd (upd (upd (upd (upd (upd (upd (upd (upd (upd (upd (upd (upd (fun _ => .i 0) 0 (.i x0)) 1 (.i x1)) 2 (.i x2)) 3 (.i x3)) 4 (.i x4)) 5 (.i x5)) 6 (.p x6)) 7 (.n x7)) 8 (.n x8)) 9 (.i x9)) 10 (.i x10)) 11 (.i x11)) 12 (.i x12)) 13 (.i x13)) 14 (.i x14)) 15 (.i x15)) 16 (.i x16)) 17 (.i x17)) 18 (.i x18))) Try.func5 hH h (by kernel_rfl) (by kernel_rfl) (by kernel_rfl)
def v_applyKept : VC :=
(.all 0
(.all 1
(.all 2
(.call 18 [.agg [.int .i64 (.v 0), .int .i64 (.v 1), .int .i64 (.v 2), .int .i64 (.v 3), .int .i64 (.v 4), .int .i64 (.v 5), .slO 6 (.k 0) (.v 7) (.v 8)], .agg [.int .i64 (.v 9), .int .i64 (.v 10), .int .i64 (.v 11), .int .i64 (.v 12), .int .i64 (.v 13), .int .i64 (.v 14), .int .i64 (.v 15), .int .i64 (.v 16), .int .i64 (.v 17)]] [] [(27, .i), (28, .i), (29, .i), (30, .i), (31, .i), (32, .i), (33, .p), (34, .n), (35, .n), (36, .i), (37, .b), (38, .i)] (.tup [.agg [.int .i64 (.v 27), .int .i64 (.v 28), .int .i64 (.v 29), .int .i64 (.v 30), .int .i64 (.v 31), .int .i64 (.v 32), .slO 33 (.k 0) (.v 34) (.v 35)], .int .i64 (.v 36), .bool (.v 37), .int .i64 (.v 38)]) .fresh
(.all 3
(.ite (.eq (.v 38) (.k 0))
(.ite (.v 37)
(.call 18 [.agg [.int .i64 (.v 27), .int .i64 (.v 28), .int .i64 (.v 29), .int .i64 (.v 30), .int .i64 (.v 31), .int .i64 (.v 32), .slO 33 (.k 0) (.v 34) (.v 35)], .agg [.int .i64 (.v 18), .int .i64 (.v 19), .int .i64 (.v 20), .int .i64 (.v 21), .int .i64 (.v 22), .int .i64 (.v 23), .int .i64 (.v 24), .int .i64 (.v 25), .int .i64 (.v 26)]] [] [(39, .i), (40, .i), (41, .i), (42, .i), (43, .i), (44, .i), (45, .p), (46, .n), (47, .n), (48, .i), (49, .b), (50, .i)] (.tup [.agg [.int .i64 (.v 39), .int .i64 (.v 40), .int .i64 (.v 41), .int .i64 (.v 42), .int .i64 (.v 43), .int .i64 (.v 44), .slO 45 (.k 0) (.v 46) (.v 47)], .int .i64 (.v 48), .bool (.v 49), .int .i64 (.v 50)]) .fresh
(.all 4
(.ite (.eq (.v 50) (.k 0))
(.ite (.le (.k 50) (.v 39))
(.call 15 [] [] [(51, .b)] (.bool (.v 51)) .same
(.ret (.bool (.v 51)) []))
(.ite (.eq (.v 20) (.v 11))
(.ite (.eq (.v 18) (.k 3))
(.call 15 [] [] [(51, .b)] (.bool (.v 51)) .same
(.ret (.bool (.v 51)) []))
(.ite (.le (.v 12) (.v 22))
(.call 15 [] [] [(51, .b)] (.bool (.v 51)) .same
(.ret (.bool (.v 51)) []))
(.chk (.rng .i64 (.add (.v 28) (.k 20)))
(.ite (.lt (.add (.v 28) (.k 20)) (.v 40))
(.call 15 [] [] [(51, .b)] (.bool (.v 51)) .same
(.ret (.bool (.v 51)) []))
(.all 5
(.call 18 [.agg [.int .i64 (.v 39), .int .i64 (.v 40), .int .i64 (.v 41), .int .i64 (.v 42), .int .i64 (.v 43), .int .i64 (.v 44), .slO 45 (.k 0) (.v 46) (.v 47)], .agg [.int .i64 (.v 9), .int .i64 (.k 0), .int .i64 (.v 11), .int .i64 (.v 12), .int .i64 (.v 13), .int .i64 (.v 14), .int .i64 (.v 15), .int .i64 (.v 16), .int .i64 (.v 17)]] [] [(51, .i), (52, .i), (53, .i), (54, .i), (55, .i), (56, .i), (57, .p), (58, .n), (59, .n), (60, .i), (61, .b), (62, .i)] (.tup [.agg [.int .i64 (.v 51), .int .i64 (.v 52), .int .i64 (.v 53), .int .i64 (.v 54), .int .i64 (.v 55), .int .i64 (.v 56), .slO 57 (.k 0) (.v 58) (.v 59)], .int .i64 (.v 60), .bool (.v 61), .int .i64 (.v 62)]) .fresh
(.all 6
(.call 15 [] [] [(63, .b)] (.bool (.v 63)) .same
(.ite (.v 63)
(.ite (.eq (.v 62) (.k 0))
(.ite (.v 61)
(.ret (.bool (.k false)) [])
(.ite (.eq (.v 60) (.v 36))
(.esc (.bop .eql 30 (.tmp 104) (.tmp 106)) [.agg [.int .i64 (.v 53), .int .i64 (.v 54), .int .i64 (.v 55), .int .i64 (.v 56)], .agg [.int .i64 (.v 41), .int .i64 (.v 42), .int .i64 (.v 43), .int .i64 (.v 44)]] [] [(64, .b)] (some (.bool (.v 64))) .same
(.ret (.bool (.v 64)) []))
(.ret (.bool (.k false)) [])))
(.ret (.bool (.k false)) []))
(.ret (.bool (.k false)) []))))))))))
(.chk (.rng .i64 (.add (.v 28) (.k 20)))
(.ite (.lt (.add (.v 28) (.k 20)) (.v 40))
(.call 15 [] [] [(51, .b)] (.bool (.v 51)) .same
(.ret (.bool (.v 51)) []))
(.all 5
(.call 18 [.agg [.int .i64 (.v 39), .int .i64 (.v 40), .int .i64 (.v 41), .int .i64 (.v 42), .int .i64 (.v 43), .int .i64 (.v 44), .slO 45 (.k 0) (.v 46) (.v 47)], .agg [.int .i64 (.v 9), .int .i64 (.k 0), .int .i64 (.v 11), .int .i64 (.v 12), .int .i64 (.v 13), .int .i64 (.v 14), .int .i64 (.v 15), .int .i64 (.v 16), .int .i64 (.v 17)]] [] [(51, .i), (52, .i), (53, .i), (54, .i), (55, .i), (56, .i), (57, .p), (58, .n), (59, .n), (60, .i), (61, .b), (62, .i)] (.tup [.agg [.int .i64 (.v 51), .int .i64 (.v 52), .int .i64 (.v 53), .int .i64 (.v 54), .int .i64 (.v 55), .int .i64 (.v 56), .slO 57 (.k 0) (.v 58) (.v 59)], .int .i64 (.v 60), .bool (.v 61), .int .i64 (.v 62)]) .fresh
(.all 6
(.call 15 [] [] [(63, .b)] (.bool (.v 63)) .same
(.ite (.v 63)
(.ite (.eq (.v 62) (.k 0))
(.ite (.v 61)
(.ret (.bool (.k false)) [])
(.ite (.eq (.v 60) (.v 36))
(.esc (.bop .eql 30 (.tmp 104) (.tmp 106)) [.agg [.int .i64 (.v 53), .int .i64 (.v 54), .int .i64 (.v 55), .int .i64 (.v 56)], .agg [.int .i64 (.v 41), .int .i64 (.v 42), .int .i64 (.v 43), .int .i64 (.v 44)]] [] [(64, .b)] (some (.bool (.v 64))) .same
(.ret (.bool (.v 64)) []))
(.ret (.bool (.k false)) [])))
(.ret (.bool (.k false)) []))
(.ret (.bool (.k false)) []))))))))))
(.call 15 [] [] [(51, .b)] (.bool (.v 51)) .same
(.ret (.bool (.v 51)) [])))))
(.call 15 [] [] [(39, .b)] (.bool (.v 39)) .same
(.ret (.bool (.v 39)) [])))
(.call 15 [] [] [(39, .b)] (.bool (.v 39)) .same
(.ret (.bool (.v 39)) []))))))))
theorem x_applyKept (x0 : Int) (x1 : Int) (x2 : Int) (x3 : Int) (x4 : Int) (x5 : Int) (x6 : Option Loc) (x7 : Nat) (x8 : Nat) (x9 : Int) (x10 : Int) (x11 : Int) (x12 : Int) (x13 : Int) (x14 : Int) (x15 : Int) (x16 : Int) (x17 : Int) (x18 : Int) (x19 : Int) (x20 : Int) (x21 : Int) (x22 : Int) (x23 : Int) (x24 : Int) (x25 : Int) (x26 : Int) (M : Nat → Prop) (H0 : Hp) (W0 : World) (R : Ending → World → Prop) (hH : H0.le (hpOf W0)) (h :
 (∀ b0 : Nat,
 (∀ b1 : Nat,
 (∀ b2 : Nat,
 (Cl Try.prog W0 M H0 nK 18 #[Value.agg #[vi x0, vi x1, vi x2, vi x3, vi x4, vi x5, vsl x6 x7 x8], Value.agg #[vi x9, vi x10, vi x11, vi x12, vi x13, vi x14, vi x15, vi x16, vi x17]] fun z W1 W2 => ∃ x27 : Int, ∃ x28 : Int, ∃ x29 : Int, ∃ x30 : Int, ∃ x31 : Int, ∃ x32 : Int, ∃ x33 : Option Loc, ∃ x34 : Nat, ∃ x35 : Nat, ∃ x36 : Int, ∃ x37 : Bool, ∃ x38 : Int, z = .returned (Value.tuple #[Value.agg #[vi x27, vi x28, vi x29, vi x30, vi x31, vi x32, vsl x33 x34 x35], vi x36, vb (x37), vi x38]) ∧ Fr W1 W2 H0 fun H1 =>
 (∀ b3 : Nat,
 ((x38 = 0 →
  ((x37 = true →
   (Cl Try.prog W0 M H1 nK 18 #[Value.agg #[vi x27, vi x28, vi x29, vi x30, vi x31, vi x32, vsl x33 x34 x35], Value.agg #[vi x18, vi x19, vi x20, vi x21, vi x22, vi x23, vi x24, vi x25, vi x26]] fun z W3 W4 => ∃ x39 : Int, ∃ x40 : Int, ∃ x41 : Int, ∃ x42 : Int, ∃ x43 : Int, ∃ x44 : Int, ∃ x45 : Option Loc, ∃ x46 : Nat, ∃ x47 : Nat, ∃ x48 : Int, ∃ x49 : Bool, ∃ x50 : Int, z = .returned (Value.tuple #[Value.agg #[vi x39, vi x40, vi x41, vi x42, vi x43, vi x44, vsl x45 x46 x47], vi x48, vb (x49), vi x50]) ∧ Fr W3 W4 H1 fun H2 =>
   (∀ b4 : Nat,
   ((x50 = 0 →
    ((50 ≤ x39 →
     (Cl Try.prog W0 M H2 nK 15 #[] fun z W5 W6 => ∃ x51 : Bool, z = .returned (vb (x51)) ∧ Ext W5 W6 ∧
     Rt R W0 M H2 nK (vb (x51)))) ∧
    (¬ (50 ≤ x39) →
     ((x20 = x11 →
      ((x18 = 3 →
       (Cl Try.prog W0 M H2 nK 15 #[] fun z W5 W6 => ∃ x51 : Bool, z = .returned (vb (x51)) ∧ Ext W5 W6 ∧
       Rt R W0 M H2 nK (vb (x51)))) ∧
      (¬ (x18 = 3) →
       ((x12 ≤ x22 →
        (Cl Try.prog W0 M H2 nK 15 #[] fun z W5 W6 => ∃ x51 : Bool, z = .returned (vb (x51)) ∧ Ext W5 W6 ∧
        Rt R W0 M H2 nK (vb (x51)))) ∧
       (¬ (x12 ≤ x22) →
        (inKind .i64 (x28 + 20) ∧ (inKind .i64 (x28 + 20) →
        (((x28 + 20) < x40 →
         (Cl Try.prog W0 M H2 nK 15 #[] fun z W5 W6 => ∃ x51 : Bool, z = .returned (vb (x51)) ∧ Ext W5 W6 ∧
         Rt R W0 M H2 nK (vb (x51)))) ∧
        (¬ ((x28 + 20) < x40) →
         (∀ b5 : Nat,
         (Cl Try.prog W0 M H2 nK 18 #[Value.agg #[vi x39, vi x40, vi x41, vi x42, vi x43, vi x44, vsl x45 x46 x47], Value.agg #[vi x9, vi 0, vi x11, vi x12, vi x13, vi x14, vi x15, vi x16, vi x17]] fun z W5 W6 => ∃ x51 : Int, ∃ x52 : Int, ∃ x53 : Int, ∃ x54 : Int, ∃ x55 : Int, ∃ x56 : Int, ∃ x57 : Option Loc, ∃ x58 : Nat, ∃ x59 : Nat, ∃ x60 : Int, ∃ x61 : Bool, ∃ x62 : Int, z = .returned (Value.tuple #[Value.agg #[vi x51, vi x52, vi x53, vi x54, vi x55, vi x56, vsl x57 x58 x59], vi x60, vb (x61), vi x62]) ∧ Fr W5 W6 H2 fun H3 =>
         (∀ b6 : Nat,
         (Cl Try.prog W0 M H3 nK 15 #[] fun z W7 W8 => ∃ x63 : Bool, z = .returned (vb (x63)) ∧ Ext W7 W8 ∧
         ((x63 = true →
          ((x62 = 0 →
           ((x61 = true →
            Rt R W0 M H3 nK (vb (false))) ∧
           (¬ (x61 = true) →
            ((x60 = x36 →
             (Es W0 M H3 nK fun W9 => ∃ x64 : Bool, Eo Try.prog (.bop .eql 30 (.tmp 104) (.tmp 106)) [Value.agg #[vi x53, vi x54, vi x55, vi x56], Value.agg #[vi x41, vi x42, vi x43, vi x44]] W9 (.value (vb (x64))) fun W10 => Ext W9 W10 ∧
             Rt R W0 M H3 nK (vb (x64)))) ∧
            (¬ (x60 = x36) →
             Rt R W0 M H3 nK (vb (false))))))) ∧
          (¬ (x62 = 0) →
           Rt R W0 M H3 nK (vb (false))))) ∧
         (¬ (x63 = true) →
          Rt R W0 M H3 nK (vb (false))))))))))))))))) ∧
     (¬ (x20 = x11) →
      (inKind .i64 (x28 + 20) ∧ (inKind .i64 (x28 + 20) →
      (((x28 + 20) < x40 →
       (Cl Try.prog W0 M H2 nK 15 #[] fun z W5 W6 => ∃ x51 : Bool, z = .returned (vb (x51)) ∧ Ext W5 W6 ∧
       Rt R W0 M H2 nK (vb (x51)))) ∧
      (¬ ((x28 + 20) < x40) →
       (∀ b5 : Nat,
       (Cl Try.prog W0 M H2 nK 18 #[Value.agg #[vi x39, vi x40, vi x41, vi x42, vi x43, vi x44, vsl x45 x46 x47], Value.agg #[vi x9, vi 0, vi x11, vi x12, vi x13, vi x14, vi x15, vi x16, vi x17]] fun z W5 W6 => ∃ x51 : Int, ∃ x52 : Int, ∃ x53 : Int, ∃ x54 : Int, ∃ x55 : Int, ∃ x56 : Int, ∃ x57 : Option Loc, ∃ x58 : Nat, ∃ x59 : Nat, ∃ x60 : Int, ∃ x61 : Bool, ∃ x62 : Int, z = .returned (Value.tuple #[Value.agg #[vi x51, vi x52, vi x53, vi x54, vi x55, vi x56, vsl x57 x58 x59], vi x60, vb (x61), vi x62]) ∧ Fr W5 W6 H2 fun H3 =>
       (∀ b6 : Nat,
       (Cl Try.prog W0 M H3 nK 15 #[] fun z W7 W8 => ∃ x63 : Bool, z = .returned (vb (x63)) ∧ Ext W7 W8 ∧
       ((x63 = true →
        ((x62 = 0 →
         ((x61 = true →
          Rt R W0 M H3 nK (vb (false))) ∧
         (¬ (x61 = true) →
          ((x60 = x36 →
           (Es W0 M H3 nK fun W9 => ∃ x64 : Bool, Eo Try.prog (.bop .eql 30 (.tmp 104) (.tmp 106)) [Value.agg #[vi x53, vi x54, vi x55, vi x56], Value.agg #[vi x41, vi x42, vi x43, vi x44]] W9 (.value (vb (x64))) fun W10 => Ext W9 W10 ∧
           Rt R W0 M H3 nK (vb (x64)))) ∧
          (¬ (x60 = x36) →
           Rt R W0 M H3 nK (vb (false))))))) ∧
        (¬ (x62 = 0) →
         Rt R W0 M H3 nK (vb (false))))) ∧
       (¬ (x63 = true) →
        Rt R W0 M H3 nK (vb (false))))))))))))))))) ∧
   (¬ (x50 = 0) →
    (Cl Try.prog W0 M H2 nK 15 #[] fun z W5 W6 => ∃ x51 : Bool, z = .returned (vb (x51)) ∧ Ext W5 W6 ∧
    Rt R W0 M H2 nK (vb (x51)))))))) ∧
  (¬ (x37 = true) →
   (Cl Try.prog W0 M H1 nK 15 #[] fun z W3 W4 => ∃ x39 : Bool, z = .returned (vb (x39)) ∧ Ext W3 W4 ∧
   Rt R W0 M H1 nK (vb (x39)))))) ∧
 (¬ (x38 = 0) →
  (Cl Try.prog W0 M H1 nK 15 #[] fun z W3 W4 => ∃ x39 : Bool, z = .returned (vb (x39)) ∧ Ext W3 W4 ∧
  Rt R W0 M H1 nK (vb (x39))))))))))) :
  Calls Try.prog 6 #[Value.agg #[vi x0, vi x1, vi x2, vi x3, vi x4, vi x5, vsl x6 x7 x8], Value.agg #[vi x9, vi x10, vi x11, vi x12, vi x13, vi x14, vi x15, vi x16, vi x17], Value.agg #[vi x18, vi x19, vi x20, vi x21, vi x22, vi x23, vi x24, vi x25, vi x26]] W0 R :=
  calls_sxA (M := M) (V := v_applyKept) (hi := {}) (args := [.agg [.int .i64 (.v 0), .int .i64 (.v 1), .int .i64 (.v 2), .int .i64 (.v 3), .int .i64 (.v 4), .int .i64 (.v 5), .slO 6 (.k 0) (.v 7) (.v 8)], .agg [.int .i64 (.v 9), .int .i64 (.v 10), .int .i64 (.v 11), .int .i64 (.v 12), .int .i64 (.v 13), .int .i64 (.v 14), .int .i64 (.v 15), .int .i64 (.v 16), .int .i64 (.v 17)], .agg [.int .i64 (.v 18), .int .i64 (.v 19), .int .i64 (.v 20), .int .i64 (.v 21), .int .i64 (.v 22), .int .i64 (.v 23), .int .i64 (.v 24), .int .i64 (.v 25), .int .i64 (.v 26)]]) (nv := 27) (e := (upd (upd (upd (upd (upd (upd (upd (upd (upd (upd (upd (upd (upd (upd (upd (upd (upd (upd (upd (upd (upd (upd (upd (upd (upd (upd (upd (fun _ => .i 0) 0 (.i x0)) 1 (.i x1)) 2 (.i x2)) 3 (.i x3)) 4 (.i x4)) 5 (.i x5)) 6 (.p x6)) 7 (.n x7)) 8 (.n x8)) 9 (.i x9)) 10 (.i x10)) 11 (.i x11)) 12 (.i x12)) 13 (.i x13)) 14 (.i x14)) 15 (.i x15)) 16 (.i x16)) 17 (.i x17)) 18 (.i x18)) 19 (.i x19)) 20 (.i x20)) 21 (.i x21)) 22 (.i x22)) 23 (.i x23)) 24 (.i x24)) 25 (.i x25)) 26 (.i x26))) Try.func6 hH h (by kernel_rfl) (by kernel_rfl) (by kernel_rfl)
def v_applyTrue : VC :=
(.all 0
(.all 1
(.call 18 [.agg [.int .i64 (.v 0), .int .i64 (.v 1), .int .i64 (.v 2), .int .i64 (.v 3), .int .i64 (.v 4), .int .i64 (.v 5), .slO 6 (.k 0) (.v 7) (.v 8)], .agg [.int .i64 (.v 9), .int .i64 (.v 10), .int .i64 (.v 11), .int .i64 (.v 12), .int .i64 (.v 13), .int .i64 (.v 14), .int .i64 (.v 15), .int .i64 (.v 16), .int .i64 (.v 17)]] [] [(18, .i), (19, .i), (20, .i), (21, .i), (22, .i), (23, .i), (24, .p), (25, .n), (26, .n), (27, .i), (28, .b), (29, .i)] (.tup [.agg [.int .i64 (.v 18), .int .i64 (.v 19), .int .i64 (.v 20), .int .i64 (.v 21), .int .i64 (.v 22), .int .i64 (.v 23), .slO 24 (.k 0) (.v 25) (.v 26)], .int .i64 (.v 27), .bool (.v 28), .int .i64 (.v 29)]) .fresh
(.all 2
(.ite (.eq (.v 29) (.k 0))
(.call 23 [.agg [.int .i64 (.v 18), .int .i64 (.v 19), .int .i64 (.v 20), .int .i64 (.v 21), .int .i64 (.v 22), .int .i64 (.v 23), .slO 24 (.k 0) (.v 25) (.v 26)]] [] [(30, .i)] (.int .i64 (.v 30)) .same
(.ite (.eq (.v 30) (.k 0))
(.chk (.rng .i64 (.add (.v 0) (.k 1)))
(.ite (.eq (.v 18) (.add (.v 0) (.k 1)))
(.ite (.lt (.v 19) (.v 1))
(.ret (.bool (.k false)) [])
(.ite (.lt (.v 19) (.v 10))
(.ret (.bool (.k false)) [])
(.ite (.v 28)
(.call 24 [.agg [.int .i64 (.v 2), .int .i64 (.v 3), .int .i64 (.v 4), .int .i64 (.v 5)], .agg [.int .i64 (.v 14), .int .i64 (.v 15), .int .i64 (.v 16), .int .i64 (.v 17)]] [] [(31, .i), (32, .i), (33, .i), (34, .i), (35, .i), (36, .i)] (.tup [.agg [.int .i64 (.v 31), .int .i64 (.v 32), .int .i64 (.v 33), .int .i64 (.v 34)], .int .i64 (.v 35), .int .i64 (.v 36)]) .same
(.all 3
(.call 15 [] [] [(37, .b)] (.bool (.v 37)) .same
(.ite (.v 37)
(.ite (.eq (.v 9) (.k 2))
(.ite (.eq (.v 36) (.k 0))
(.esc (.bop .eql 30 (.tmp 79) (.tmp 80)) [.agg [.int .i64 (.v 20), .int .i64 (.v 21), .int .i64 (.v 22), .int .i64 (.v 23)], .agg [.int .i64 (.v 31), .int .i64 (.v 32), .int .i64 (.v 33), .int .i64 (.v 34)]] [] [(38, .b)] (some (.bool (.v 38))) .same
(.ite (.v 38)
(.ret (.bool (.eq (.v 27) (.v 35))) [])
(.ret (.bool (.k false)) [])))
(.ret (.bool (.k false)) []))
(.ret (.bool (.k false)) []))
(.ret (.bool (.k false)) [])))))
(.call 15 [] [] [(31, .b)] (.bool (.v 31)) .same
(.ite (.v 31)
(.esc (.bop .eql 30 (.tmp 53) (.tmp 55)) [.agg [.int .i64 (.v 20), .int .i64 (.v 21), .int .i64 (.v 22), .int .i64 (.v 23)], .agg [.int .i64 (.v 2), .int .i64 (.v 3), .int .i64 (.v 4), .int .i64 (.v 5)]] [] [(32, .b)] (some (.bool (.v 32))) .same
(.ret (.bool (.v 32)) []))
(.ret (.bool (.k false)) []))))))
(.ret (.bool (.k false)) [])))
(.ret (.bool (.k false)) [])))
(.call 15 [] [] [(30, .b)] (.bool (.v 30)) .same
(.ret (.bool (.v 30)) [])))))))
theorem x_applyTrue (x0 : Int) (x1 : Int) (x2 : Int) (x3 : Int) (x4 : Int) (x5 : Int) (x6 : Option Loc) (x7 : Nat) (x8 : Nat) (x9 : Int) (x10 : Int) (x11 : Int) (x12 : Int) (x13 : Int) (x14 : Int) (x15 : Int) (x16 : Int) (x17 : Int) (M : Nat → Prop) (H0 : Hp) (W0 : World) (R : Ending → World → Prop) (hH : H0.le (hpOf W0)) (h :
 (∀ b0 : Nat,
 (∀ b1 : Nat,
 (Cl Try.prog W0 M H0 nK 18 #[Value.agg #[vi x0, vi x1, vi x2, vi x3, vi x4, vi x5, vsl x6 x7 x8], Value.agg #[vi x9, vi x10, vi x11, vi x12, vi x13, vi x14, vi x15, vi x16, vi x17]] fun z W1 W2 => ∃ x18 : Int, ∃ x19 : Int, ∃ x20 : Int, ∃ x21 : Int, ∃ x22 : Int, ∃ x23 : Int, ∃ x24 : Option Loc, ∃ x25 : Nat, ∃ x26 : Nat, ∃ x27 : Int, ∃ x28 : Bool, ∃ x29 : Int, z = .returned (Value.tuple #[Value.agg #[vi x18, vi x19, vi x20, vi x21, vi x22, vi x23, vsl x24 x25 x26], vi x27, vb (x28), vi x29]) ∧ Fr W1 W2 H0 fun H1 =>
 (∀ b2 : Nat,
 ((x29 = 0 →
  (Cl Try.prog W0 M H1 nK 23 #[Value.agg #[vi x18, vi x19, vi x20, vi x21, vi x22, vi x23, vsl x24 x25 x26]] fun z W3 W4 => ∃ x30 : Int, z = .returned (vi x30) ∧ Ext W3 W4 ∧
  ((x30 = 0 →
   (inKind .i64 (x0 + 1) ∧ (inKind .i64 (x0 + 1) →
   ((x18 = (x0 + 1) →
    ((x19 < x1 →
     Rt R W0 M H1 nK (vb (false))) ∧
    (¬ (x19 < x1) →
     ((x19 < x10 →
      Rt R W0 M H1 nK (vb (false))) ∧
     (¬ (x19 < x10) →
      ((x28 = true →
       (Cl Try.prog W0 M H1 nK 24 #[Value.agg #[vi x2, vi x3, vi x4, vi x5], Value.agg #[vi x14, vi x15, vi x16, vi x17]] fun z W5 W6 => ∃ x31 : Int, ∃ x32 : Int, ∃ x33 : Int, ∃ x34 : Int, ∃ x35 : Int, ∃ x36 : Int, z = .returned (Value.tuple #[Value.agg #[vi x31, vi x32, vi x33, vi x34], vi x35, vi x36]) ∧ Ext W5 W6 ∧
       (∀ b3 : Nat,
       (Cl Try.prog W0 M H1 nK 15 #[] fun z W7 W8 => ∃ x37 : Bool, z = .returned (vb (x37)) ∧ Ext W7 W8 ∧
       ((x37 = true →
        ((x9 = 2 →
         ((x36 = 0 →
          (Es W0 M H1 nK fun W9 => ∃ x38 : Bool, Eo Try.prog (.bop .eql 30 (.tmp 79) (.tmp 80)) [Value.agg #[vi x20, vi x21, vi x22, vi x23], Value.agg #[vi x31, vi x32, vi x33, vi x34]] W9 (.value (vb (x38))) fun W10 => Ext W9 W10 ∧
          ((x38 = true →
           Rt R W0 M H1 nK (vb (decide (x27 = x35)))) ∧
          (¬ (x38 = true) →
           Rt R W0 M H1 nK (vb (false)))))) ∧
         (¬ (x36 = 0) →
          Rt R W0 M H1 nK (vb (false))))) ∧
        (¬ (x9 = 2) →
         Rt R W0 M H1 nK (vb (false))))) ∧
       (¬ (x37 = true) →
        Rt R W0 M H1 nK (vb (false)))))))) ∧
      (¬ (x28 = true) →
       (Cl Try.prog W0 M H1 nK 15 #[] fun z W5 W6 => ∃ x31 : Bool, z = .returned (vb (x31)) ∧ Ext W5 W6 ∧
       ((x31 = true →
        (Es W0 M H1 nK fun W7 => ∃ x32 : Bool, Eo Try.prog (.bop .eql 30 (.tmp 53) (.tmp 55)) [Value.agg #[vi x20, vi x21, vi x22, vi x23], Value.agg #[vi x2, vi x3, vi x4, vi x5]] W7 (.value (vb (x32))) fun W8 => Ext W7 W8 ∧
        Rt R W0 M H1 nK (vb (x32)))) ∧
       (¬ (x31 = true) →
        Rt R W0 M H1 nK (vb (false)))))))))))) ∧
   (¬ (x18 = (x0 + 1)) →
    Rt R W0 M H1 nK (vb (false))))))) ∧
  (¬ (x30 = 0) →
   Rt R W0 M H1 nK (vb (false)))))) ∧
 (¬ (x29 = 0) →
  (Cl Try.prog W0 M H1 nK 15 #[] fun z W3 W4 => ∃ x30 : Bool, z = .returned (vb (x30)) ∧ Ext W3 W4 ∧
  Rt R W0 M H1 nK (vb (x30)))))))))) :
  Calls Try.prog 7 #[Value.agg #[vi x0, vi x1, vi x2, vi x3, vi x4, vi x5, vsl x6 x7 x8], Value.agg #[vi x9, vi x10, vi x11, vi x12, vi x13, vi x14, vi x15, vi x16, vi x17]] W0 R :=
  calls_sxA (M := M) (V := v_applyTrue) (hi := {}) (args := [.agg [.int .i64 (.v 0), .int .i64 (.v 1), .int .i64 (.v 2), .int .i64 (.v 3), .int .i64 (.v 4), .int .i64 (.v 5), .slO 6 (.k 0) (.v 7) (.v 8)], .agg [.int .i64 (.v 9), .int .i64 (.v 10), .int .i64 (.v 11), .int .i64 (.v 12), .int .i64 (.v 13), .int .i64 (.v 14), .int .i64 (.v 15), .int .i64 (.v 16), .int .i64 (.v 17)]]) (nv := 18) (e := (upd (upd (upd (upd (upd (upd (upd (upd (upd (upd (upd (upd (upd (upd (upd (upd (upd (upd (fun _ => .i 0) 0 (.i x0)) 1 (.i x1)) 2 (.i x2)) 3 (.i x3)) 4 (.i x4)) 5 (.i x5)) 6 (.p x6)) 7 (.n x7)) 8 (.n x8)) 9 (.i x9)) 10 (.i x10)) 11 (.i x11)) 12 (.i x12)) 13 (.i x13)) 14 (.i x14)) 15 (.i x15)) 16 (.i x16)) 17 (.i x17))) Try.func7 hH h (by kernel_rfl) (by kernel_rfl) (by kernel_rfl)
end Go.Proofs.Ytdmaehpdccpnoaa
namespace Go.Proofs.Ytdmaehpdccpnoaa
open Go.RowKit

theorem two_cells {H : Hp} {p : Option Loc} {n c : Nat} {s : Ses} {l : List Ses} (hT : Tab H p n c (s :: l)) : ∃ q m d, Kept H q m d s.kept ∧ m = s.kept.length ∧ p.isSome = true ∧ RowAt H p (0 + 0 * 4 + 3) [vsl q m d] ∧ RowAt H p (0 + 0 * 4 + 2) [vi s.seen] := by
  have hn := hT.len
  simp only [List.length_cons] at hn
  obtain ⟨t, q, m, d, ht, hk, hat⟩ := hT.at (k := 0) (by omega)
  simp only [List.getElem?_cons_zero, Option.some.injEq] at ht
  subst ht
  have h0 := hat (0 + 0 * 4) (by omega)
  exact ⟨q, m, d, hk, hk.len, h0.1.isSome, h0.2.2.2.2, h0.2.2.2.1⟩
set_option maxRecDepth 100000 in
set_option maxHeartbeats 4000000 in
theorem c_applyBegun (H : Hp) : Gv Try.prog 15 #[] H (vb true) := fun W hH => by
  refine x_applyBegun noM H W _ hH ?_
  refine Cl.fresh (c_shop H) ?_
  rintro v W1 W2 D ⟨ps, ns, cs, rfl, hs⟩ hx hD hf nn
  refine ⟨_, _, _, _, _, _, ps, ns, cs, rfl, hx, D, hD, hf, fun A0 le hD1 => ?_⟩
  replace hs := hs.mono hD1
  refine Cl.same (c_ladd 3 A0) fun _ _ hx => ⟨_, _, _, _, rfl, hx, ?_⟩
  refine Cl.same (c_lcall 11 2 4 2 ⟨2, 0, 0, 3⟩ A0) fun _ _ hx => ⟨_, _, _, _, _, _, _, _, _, rfl, hx, ?_⟩
  have c0 := c_one' (s := shopS) hs ⟨2, 11, 2, 4, 2, ⟨2, 0, 0, 3⟩⟩
  rw [show sOne shopS ⟨2, 11, 2, 4, 2, ⟨2, 0, 0, 3⟩⟩ = (⟨7, 11, ⟨10, 0, 0, 1⟩, [⟨2, 2, 11, [⟨3, 7⟩, ⟨4, 10⟩, ⟨5, -1⟩]⟩, rowS 4]⟩, 10, true, 0) from by decide] at c0
  refine Cl.fresh c0 ?_
  rintro v W1 W2 D ⟨p0, n0, k0, rfl, t0⟩ hx hD hf nn
  refine ⟨_, _, _, _, _, _, p0, n0, k0, _, _, _, rfl, hx, D, hD, hf, fun B0 le hD1 b0 => ?_⟩
  replace t0 := t0.mono hD1
  clear c0 hs
  refine Cl.fresh (c_shop B0) ?_
  rintro v W1 W2 D ⟨ps, ns, cs, rfl, hs⟩ hx hD hf nn
  refine ⟨_, _, _, _, _, _, ps, ns, cs, rfl, hx, D, hD, hf, fun A1 le hD1 => ?_⟩
  replace hs := hs.mono hD1
  replace t0 := t0.mono le
  refine Cl.same (c_ladd 3 A1) fun _ _ hx => ⟨_, _, _, _, rfl, hx, ?_⟩
  refine Cl.same (c_lcall 11 2 3 2 ⟨2, 0, 0, 3⟩ A1) fun _ _ hx => ⟨_, _, _, _, _, _, _, _, _, rfl, hx, ?_⟩
  have c1 := c_one' (s := shopS) hs ⟨2, 11, 2, 3, 2, ⟨2, 0, 0, 3⟩⟩
  rw [show sOne shopS ⟨2, 11, 2, 3, 2, ⟨2, 0, 0, 3⟩⟩ = (⟨7, 11, ⟨7, 0, 0, 1⟩, [⟨2, 2, 11, [⟨3, 7⟩, ⟨5, -1⟩]⟩, rowS 4]⟩, 7, false, 0) from by decide] at c1
  refine Cl.fresh c1 ?_
  rintro v W1 W2 D ⟨p1, n1, k1, rfl, t1⟩ hx hD hf nn
  refine ⟨_, _, _, _, _, _, p1, n1, k1, _, _, _, rfl, hx, D, hD, hf, fun B1 le hD1 b1 => ?_⟩
  replace t1 := t1.mono hD1
  replace t0 := t0.mono le
  clear c1 hs
  refine Cl.fresh (c_shop B1) ?_
  rintro v W1 W2 D ⟨ps, ns, cs, rfl, hs⟩ hx hD hf nn
  refine ⟨_, _, _, _, _, _, ps, ns, cs, rfl, hx, D, hD, hf, fun A2 le hD1 => ?_⟩
  replace hs := hs.mono hD1
  replace t0 := t0.mono le
  replace t1 := t1.mono le
  refine Cl.same (c_ladd 3 A2) fun _ _ hx => ⟨_, _, _, _, rfl, hx, ?_⟩
  refine Cl.same (c_lcall 11 2 6 4 ⟨2, 0, 0, 3⟩ A2) fun _ _ hx => ⟨_, _, _, _, _, _, _, _, _, rfl, hx, ?_⟩
  have c2 := c_one' (s := shopS) hs ⟨2, 11, 2, 6, 4, ⟨2, 0, 0, 3⟩⟩
  rw [show sOne shopS ⟨2, 11, 2, 6, 4, ⟨2, 0, 0, 3⟩⟩ = (⟨7, 11, ⟨10, 0, 0, 1⟩, [⟨2, 4, 11, [⟨5, -1⟩, ⟨6, 10⟩]⟩, rowS 4]⟩, 10, true, 0) from by decide] at c2
  refine Cl.fresh c2 ?_
  rintro v W1 W2 D ⟨p2, n2, k2, rfl, t2⟩ hx hD hf nn
  refine ⟨_, _, _, _, _, _, p2, n2, k2, _, _, _, rfl, hx, D, hD, hf, fun B2 le hD1 b2 => ?_⟩
  replace t2 := t2.mono hD1
  replace t0 := t0.mono le
  replace t1 := t1.mono le
  clear c2 hs
  refine Cl.fresh (c_shop B2) ?_
  rintro v W1 W2 D ⟨ps, ns, cs, rfl, hs⟩ hx hD hf nn
  refine ⟨_, _, _, _, _, _, ps, ns, cs, rfl, hx, D, hD, hf, fun A3 le hD1 => ?_⟩
  replace hs := hs.mono hD1
  replace t0 := t0.mono le
  replace t1 := t1.mono le
  replace t2 := t2.mono le
  refine Cl.same (c_ladd 3 A3) fun _ _ hx => ⟨_, _, _, _, rfl, hx, ?_⟩
  refine Cl.same (c_lcall 11 2 2 0 ⟨2, 0, 0, 3⟩ A3) fun _ _ hx => ⟨_, _, _, _, _, _, _, _, _, rfl, hx, ?_⟩
  have c3 := c_one' (s := shopS) hs ⟨2, 11, 2, 2, 0, ⟨2, 0, 0, 3⟩⟩
  rw [show sOne shopS ⟨2, 11, 2, 2, 0, ⟨2, 0, 0, 3⟩⟩ = (⟨7, 11, ⟨7, 0, 0, 1⟩, [⟨2, 2, 11, [⟨3, 7⟩, ⟨5, -1⟩]⟩, rowS 4]⟩, -4, false, 0) from by decide] at c3
  refine Cl.fresh c3 ?_
  rintro v W1 W2 D ⟨p3, n3, k3, rfl, t3⟩ hx hD hf nn
  refine ⟨_, _, _, _, _, _, p3, n3, k3, _, _, _, rfl, hx, D, hD, hf, fun B3 le hD1 b3 => ?_⟩
  replace t3 := t3.mono hD1
  replace t0 := t0.mono le
  replace t1 := t1.mono le
  replace t2 := t2.mono le
  clear c3 hs
  refine Cl.fresh (c_shop B3) ?_
  rintro v W1 W2 D ⟨ps, ns, cs, rfl, hs⟩ hx hD hf nn
  refine ⟨_, _, _, _, _, _, ps, ns, cs, rfl, hx, D, hD, hf, fun A4 le hD1 => ?_⟩
  replace hs := hs.mono hD1
  replace t0 := t0.mono le
  replace t1 := t1.mono le
  replace t2 := t2.mono le
  replace t3 := t3.mono le
  refine Cl.same (c_ladd 3 A4) fun _ _ hx => ⟨_, _, _, _, rfl, hx, ?_⟩
  refine Cl.same (c_lcall 11 2 6 2 ⟨2, 0, 0, 3⟩ A4) fun _ _ hx => ⟨_, _, _, _, _, _, _, _, _, rfl, hx, ?_⟩
  have c4 := c_one' (s := shopS) hs ⟨2, 11, 2, 6, 2, ⟨2, 0, 0, 3⟩⟩
  rw [show sOne shopS ⟨2, 11, 2, 6, 2, ⟨2, 0, 0, 3⟩⟩ = (⟨7, 11, ⟨7, 0, 0, 1⟩, [⟨2, 2, 11, [⟨3, 7⟩, ⟨5, -1⟩]⟩, rowS 4]⟩, -5, false, 0) from by decide] at c4
  refine Cl.fresh c4 ?_
  rintro v W1 W2 D ⟨p4, n4, k4, rfl, t4⟩ hx hD hf nn
  refine ⟨_, _, _, _, _, _, p4, n4, k4, _, _, _, rfl, hx, D, hD, hf, fun B4 le hD1 b4 => ?_⟩
  replace t4 := t4.mono hD1
  replace t0 := t0.mono le
  replace t1 := t1.mono le
  replace t2 := t2.mono le
  replace t3 := t3.mono le
  clear c4 hs
  refine Cl.fresh (c_shop B4) ?_
  rintro v W1 W2 D ⟨ps, ns, cs, rfl, hs⟩ hx hD hf nn
  refine ⟨_, _, _, _, _, _, ps, ns, cs, rfl, hx, D, hD, hf, fun A5 le hD1 => ?_⟩
  replace hs := hs.mono hD1
  replace t0 := t0.mono le
  replace t1 := t1.mono le
  replace t2 := t2.mono le
  replace t3 := t3.mono le
  replace t4 := t4.mono le
  refine Cl.same (c_ladd 3 A5) fun _ _ hx => ⟨_, _, _, _, rfl, hx, ?_⟩
  refine Cl.same (c_lcall 30 2 4 2 ⟨2, 0, 0, 3⟩ A5) fun _ _ hx => ⟨_, _, _, _, _, _, _, _, _, rfl, hx, ?_⟩
  have c5 := c_one' (s := shopS) hs ⟨2, 30, 2, 4, 2, ⟨2, 0, 0, 3⟩⟩
  rw [show sOne shopS ⟨2, 30, 2, 4, 2, ⟨2, 0, 0, 3⟩⟩ = (⟨7, 30, ⟨7, 0, 0, 1⟩, []⟩, -3, false, 0) from by decide] at c5
  refine Cl.fresh c5 ?_
  rintro v W1 W2 D ⟨p5, n5, k5, rfl, t5⟩ hx hD hf nn
  refine ⟨_, _, _, _, _, _, p5, n5, k5, _, _, _, rfl, hx, D, hD, hf, fun B5 le hD1 b5 => ?_⟩
  replace t5 := t5.mono hD1
  replace t0 := t0.mono le
  replace t1 := t1.mono le
  replace t2 := t2.mono le
  replace t3 := t3.mono le
  replace t4 := t4.mono le
  clear c5 hs
  refine Cl.fresh (c_shop B5) ?_
  rintro v W1 W2 D ⟨ps, ns, cs, rfl, hs⟩ hx hD hf nn
  refine ⟨_, _, _, _, _, _, ps, ns, cs, rfl, hx, D, hD, hf, fun A6 le hD1 => ?_⟩
  replace hs := hs.mono hD1
  replace t0 := t0.mono le
  replace t1 := t1.mono le
  replace t2 := t2.mono le
  replace t3 := t3.mono le
  replace t4 := t4.mono le
  replace t5 := t5.mono le
  refine Cl.same (c_lopen 30 1 A6) fun _ _ hx => ⟨_, _, _, _, _, _, _, _, _, rfl, hx, ?_⟩
  have c6 := c_one' (s := shopS) hs ⟨1, 30, 1, 0, 0, ⟨0, 0, 0, 0⟩⟩
  rw [show sOne shopS ⟨1, 30, 1, 0, 0, ⟨0, 0, 0, 0⟩⟩ = (⟨7, 30, ⟨7, 0, 0, 1⟩, [⟨1, 0, 30, []⟩]⟩, 0, false, 0) from by decide] at c6
  refine Cl.fresh c6 ?_
  rintro v W1 W2 D ⟨p6, n6, k6, rfl, t6⟩ hx hD hf nn
  refine ⟨_, _, _, _, _, _, p6, n6, k6, _, _, _, rfl, hx, D, hD, hf, fun B6 le hD1 b6 => ?_⟩
  replace t6 := t6.mono hD1
  replace t0 := t0.mono le
  replace t1 := t1.mono le
  replace t2 := t2.mono le
  replace t3 := t3.mono le
  replace t4 := t4.mono le
  replace t5 := t5.mono le
  clear c6 hs
  refine Cl.fresh (c_shop B6) ?_
  rintro v W1 W2 D ⟨ps, ns, cs, rfl, hs⟩ hx hD hf nn
  refine ⟨_, _, _, _, _, _, ps, ns, cs, rfl, hx, D, hD, hf, fun A7 le hD1 => ?_⟩
  replace hs := hs.mono hD1
  replace t0 := t0.mono le
  replace t1 := t1.mono le
  replace t2 := t2.mono le
  replace t3 := t3.mono le
  replace t4 := t4.mono le
  replace t5 := t5.mono le
  replace t6 := t6.mono le
  refine Cl.same (c_ladd 3 A7) fun _ _ hx => ⟨_, _, _, _, rfl, hx, ?_⟩
  refine Cl.same (c_lcall 11 2 4 4 ⟨2, 0, 0, 3⟩ A7) fun _ _ hx => ⟨_, _, _, _, _, _, _, _, _, rfl, hx, ?_⟩
  have c7 := c_one' (s := shopS) hs ⟨2, 11, 2, 4, 4, ⟨2, 0, 0, 3⟩⟩
  rw [show sOne shopS ⟨2, 11, 2, 4, 4, ⟨2, 0, 0, 3⟩⟩ = (Sta.zero, 0, false, 3) from by decide] at c7
  refine Cl.fresh c7 ?_
  rintro v W1 W2 D ⟨p7, n7, k7, rfl, t7⟩ hx hD hf nn
  refine ⟨_, _, _, _, _, _, p7, n7, k7, _, _, _, rfl, hx, D, hD, hf, fun B7 le hD1 b7 => ?_⟩
  replace t7 := t7.mono hD1
  replace t0 := t0.mono le
  replace t1 := t1.mono le
  replace t2 := t2.mono le
  replace t3 := t3.mono le
  replace t4 := t4.mono le
  replace t5 := t5.mono le
  replace t6 := t6.mono le
  clear c7 hs
  obtain ⟨q0, m0, d0, kq0, rfl, i0, r0, _⟩ := two_cells t0
  obtain ⟨q2, m2, d2, kq2, rfl, i2, r2, _⟩ := two_cells t2
  obtain ⟨q6, m6, d6, kq6, rfl, i6, _, r6⟩ := two_cells t6
  obtain rfl : n0 = 2 := t0.len
  obtain rfl : n2 = 2 := t2.len
  obtain rfl : n6 = 1 := t6.len
  refine ⟨fun _ => ?_, fun h => absurd rfl h⟩
  refine ⟨fun _ => ?_, fun h => absurd rfl h⟩
  refine ⟨fun _ => ?_, fun h => absurd rfl h⟩
  refine ⟨fun _ => ?_, fun h => absurd rfl h⟩
  refine ⟨fun _ => ?_, fun h => absurd rfl h⟩
  refine ⟨fun _ => ?_, fun h => absurd rfl h⟩
  refine ⟨fun _ => ?_, fun h => absurd rfl h⟩
  refine ⟨fun _ => ?_, fun h => absurd rfl h⟩
  refine ⟨fun _ => ?_, fun h => absurd rfl h⟩
  refine ⟨fun _ => ?_, fun h => absurd rfl h⟩
  refine ⟨fun _ => ?_, fun h => absurd rfl h⟩
  refine ⟨fun h => (by cases h), fun _ => ?_⟩
  refine ⟨fun _ => ?_, fun h => absurd rfl h⟩
  refine ⟨fun _ => ?_, fun h => absurd rfl h⟩
  refine ⟨fun _ => ?_, fun h => absurd rfl h⟩
  refine ⟨fun _ => ?_, fun h => absurd rfl h⟩
  refine ⟨fun _ => ?_, fun h => absurd rfl h⟩
  refine ⟨fun _ => ?_, fun h => absurd rfl h⟩
  refine ⟨fun _ => ?_, fun h => absurd rfl h⟩
  refine ⟨by omega, fun _ => ⟨fun _ => ⟨⟨by omega, by omega⟩, fun _ => ⟨i0, fun _ => ⟨by omega, fun _ => ⟨q0, _, d0, r0, by omega, fun _ => ⟨fun _ => ⟨by omega, fun _ => ⟨fun _ => ⟨⟨by omega, by omega⟩, fun _ => ⟨i2, fun _ => ⟨q2, _, d2, r2, by omega, fun _ => ⟨fun _ => ⟨by omega, fun _ => ⟨fun _ => ⟨⟨by omega, by omega⟩, fun _ => ⟨i6, fun _ => ⟨_, r6, Rt.gv' rfl⟩⟩⟩, fun h => absurd rfl h⟩⟩, fun h => absurd rfl h⟩⟩⟩⟩, fun h => absurd rfl h⟩⟩, fun h => absurd rfl h⟩⟩⟩⟩⟩, fun h => absurd rfl h⟩⟩
end Go.Proofs.Ytdmaehpdccpnoaa
namespace Go.Proofs.Ytdmaehpdccpnoaa
open Go.RowKit

theorem c_applyChecks (e : Ent) (hq : -9223372036854775808 ≤ e.seq ∧ e.seq ≤ 9223372036854775807) (H : Hp) : Gv Try.prog 3 #[e.val] H (vb true) := fun W hH => by
  refine x_applyChecks _ _ _ _ _ _ _ _ _ noM H W _ hH fun b0 => ?_
  refine Cl.same (c_applyBegun H) fun _ _ hx => ⟨_, rfl, hx, fun _ => ?_, fun h => absurd rfl h⟩
  refine Cl.same (c_entCheck e H) fun _ _ hx => ⟨_, rfl, hx, ?_⟩
  exact Cl.same (c_entErr e hq H) fun _ _ hx => ⟨_, rfl, hx, Rt.gv' (by simp)⟩
theorem c_applyOnes {H : Hp} {p : Option Loc} {n c : Nat} {s : Sta} (hT : Tab H p n c s.table) (e : Ent) (hq : -9223372036854775808 ≤ e.seq ∧ e.seq ≤ 9223372036854775807) : Gv Try.prog 4 #[s.val (vsl p n c), e.val] H (vb true) := fun W hH => by
  refine x_applyOnes _ _ _ _ _ _ p n c _ _ _ _ _ _ _ _ _ noM H W _ hH fun b0 b1 => ?_
  refine Cl.fresh (c_one' hT e) ?_
  rintro v W1 W2 D ⟨p1, n1, c1, rfl, t1⟩ hx hD hf nn
  refine ⟨_, _, _, _, _, _, p1, n1, c1, _, _, _, rfl, hx, D, hD, hf, fun H1 le1 hD1 b2 => ?_⟩
  replace hT := hT.mono le1
  replace t1 := t1.mono hD1
  refine Cl.fresh (c_oneOf hT e hq) ?_
  rintro v W1 W2 D ⟨p2, n2, c2, rfl, t2⟩ hx hD hf nn
  refine ⟨_, _, _, _, _, _, p2, n2, c2, _, _, _, rfl, hx, D, hD, hf, fun H2 le2 hD2 b3 => ?_⟩
  replace t1 := t1.mono le2
  replace t2 := t2.mono hD2
  refine Cl.same (c_applyBegun H2) fun _ _ hx => ⟨_, rfl, hx, fun _ => ?_, fun h => absurd rfl h⟩
  refine Cl.same (c_sameOf t1 t2) fun _ _ hx => ⟨_, rfl, hx, fun _ => ⟨fun _ W3 _ _ => ?_, fun h => absurd rfl h⟩, fun h => absurd (by simp) h⟩
  exact ⟨_, _, ek_eq_bool _ _ _ _ _, Ext.refl _, fun _ => Rt.gv' (by simp), fun h => absurd (by simp) h⟩
theorem sOne_ok {s : Sta} {e : Ent} (h : (sOne s e).2.2.2 = 0) : StOk s ∧ EntOk e ∧ s.pos < 50 ∧ sOne s e = ((s.apply e).1, (s.apply e).2.1, (s.apply e).2.2, 0) := by
  unfold sOne at h ⊢
  by_cases h0 : s.err = 0
  · by_cases h1 : e.err = 0
    · by_cases h2 : s.pos = 50
      · rw [if_neg (by omega), if_neg (by omega), if_pos h2] at h; cases h
      · have hs := Sta.err_ok.1 h0
        have := hs.pos
        exact ⟨hs, Ent.err_ok.1 h1, by omega, by rw [if_neg (by omega), if_neg (by omega), if_neg h2]⟩
    · rw [if_neg (by omega), if_pos h1] at h; exact absurd h h1
  · rw [if_pos h0] at h; exact absurd h h0
theorem sOne_of {s : Sta} {e : Ent} (h0 : StOk s) (h1 : EntOk e) (h2 : s.pos < 50) : sOne s e = ((s.apply e).1, (s.apply e).2.1, (s.apply e).2.2, 0) := by
  unfold sOne
  rw [if_neg (by rw [Sta.err_ok.2 h0]; simp), if_neg (by rw [Ent.err_ok.2 h1]; simp), if_neg (by omega)]
set_option maxHeartbeats 1000000 in
theorem c_applyAgain {H : Hp} {p : Option Loc} {n c : Nat} {s : Sta} (hT : Tab H p n c s.table) (e : Ent) (t : Int) (ht : -9223372036854775808 ≤ t ∧ t ≤ 9223372036854775807) : Gv Try.prog 5 #[s.val (vsl p n c), e.val, vi t] H (vb true) := fun W hH => by
  refine x_applyAgain _ _ _ _ _ _ p n c _ _ _ _ _ _ _ _ _ _ noM H W _ hH fun b0 b1 => ?_
  refine Cl.fresh (c_one' hT e) ?_
  rintro v W1 W2 D ⟨p1, n1, c1, rfl, t1⟩ hx hD hf nn
  refine ⟨_, _, _, _, _, _, p1, n1, c1, _, _, _, rfl, hx, D, hD, hf, fun H1 le1 hD1 b2 => ?_⟩
  replace t1 := t1.mono hD1
  have beg : ∀ {K : Hp}, Cl Try.prog W noM K nK 15 #[] fun z W3 W4 => ∃ x31 : Bool, z = .returned (vb (x31)) ∧ Ext W3 W4 ∧ Rt (fun z W' => z = .returned (vb true) ∧ Ext W W') W noM K nK (vb (x31)) := fun {K} => Cl.same (c_applyBegun K) fun _ _ hx => ⟨_, rfl, hx, Rt.gv⟩
  refine ⟨fun h0 => ⟨fun hk => ⟨fun _ => beg, fun hp b3 => ?_⟩, fun _ => beg⟩, fun _ => beg⟩
  obtain ⟨hs, he, hp0, heq⟩ := sOne_ok h0
  rw [heq] at t1 hp ⊢
  have hok := Sta.apply_ok hs he hp0
  have hck := hok.clock
  have hmx : (1 + (if 0 < (if (s.apply e).1.clock < 999 then (s.apply e).1.clock else 999) then (if (s.apply e).1.clock < 999 then (s.apply e).1.clock else 999) else 0)) = 1 + (s.apply e).1.clock := by omega
  refine ⟨in64 (by omega), fun _ => ?_⟩
  rw [hmx]
  obtain ⟨z1, z2⟩ := choose_in t (1 + (s.apply e).1.clock) (by omega)
  refine Cl.same (c_choose t (1 + (s.apply e).1.clock) (by omega) ht H1) fun _ _ hx => ⟨_, rfl, hx, ?_⟩
  generalize chooseI t (1 + (s.apply e).1.clock) = u at z1 z2 ⊢
  have heu : EntOk { e with time := u } := ⟨he.kind, by simp only; omega, he.client, he.call, he.bare⟩
  obtain ⟨a1, a2, a3, a4⟩ := apply_again hs he hk hp0 (t := u) (by omega)
  have hone := sOne_of hok heu (show (s.apply e).1.pos < 50 by have := hok.pos; simp only at hp; omega)
  have hc := c_one' (s := (s.apply e).1) t1 { e with time := u }
  rw [hone] at hc
  refine Cl.fresh hc ?_
  rintro v W1 W2 D ⟨p2, n2, c2, rfl, t2⟩ hx hD hf nn
  refine ⟨_, _, _, _, _, _, p2, n2, c2, _, _, _, rfl, hx, D, hD, hf, fun H2 le2 hD2 b4 => ?_⟩
  replace t1 := t1.mono le2
  replace t2 := t2.mono hD2
  refine Cl.same (c_applyBegun H2) fun _ _ hx => ⟨_, rfl, hx, fun _ => ⟨fun _ => ⟨fun h => ?_, fun _ => ⟨fun _ W3 _ _ => ?_, fun h => absurd a2 h⟩⟩, fun h => absurd rfl h⟩, fun h => absurd rfl h⟩
  · rw [a1] at h; cases h
  · refine ⟨_, _, ek_eq_v4 _ _ ((s.apply e).1.apply { e with time := u }).1.vals (s.apply e).1.vals _, Ext.refl _, fun _ => ?_, fun h => absurd (by rw [a3]; simp) h⟩
    refine Cl.same (c_sameT t2 t1) fun _ _ hx => ⟨_, rfl, hx, Rt.gv' ?_⟩
    rw [decide_eq_true a4]
theorem c_do (x : POp) (v : V4) (H : Hp) : Gv Try.prog 24 #[.agg #[vi v.a, vi v.b, vi v.c, vi v.d], x.vals] H (.tuple #[.agg #[vi (x.does v).1.a, vi (x.does v).1.b, vi (x.does v).1.c, vi (x.does v).1.d], vi (x.does v).2.1, vi (x.does v).2.2]) := fun W _ => op_do v.a v.b v.c v.d x.kind x.key x.to x.n W
set_option maxHeartbeats 1000000 in
theorem c_applyTrue {H : Hp} {p : Option Loc} {n c : Nat} {s : Sta} (hT : Tab H p n c s.table) (e : Ent) : Gv Try.prog 7 #[s.val (vsl p n c), e.val] H (vb true) := fun W hH => by
  refine x_applyTrue _ _ _ _ _ _ p n c _ _ _ _ _ _ _ _ _ noM H W _ hH fun b0 b1 => ?_
  refine Cl.fresh (c_one' hT e) ?_
  rintro v W1 W2 D ⟨p1, n1, c1, rfl, t1⟩ hx hD hf nn
  refine ⟨_, _, _, _, _, _, p1, n1, c1, _, _, _, rfl, hx, D, hD, hf, fun H1 le1 hD1 b2 => ?_⟩
  replace t1 := t1.mono hD1
  have beg : ∀ {K : Hp}, Cl Try.prog W noM K nK 15 #[] fun z W3 W4 => ∃ x31 : Bool, z = .returned (vb (x31)) ∧ Ext W3 W4 ∧ Rt (fun z W' => z = .returned (vb true) ∧ Ext W W') W noM K nK (vb (x31)) := fun {K} => Cl.same (c_applyBegun K) fun _ _ hx => ⟨_, rfl, hx, Rt.gv⟩
  refine ⟨fun h0 => ?_, fun _ => beg⟩
  obtain ⟨hs, he, hp0, heq⟩ := sOne_ok h0
  rw [heq] at t1 ⊢
  have hok := Sta.apply_ok hs he hp0
  have hpos := apply_pos s e
  have hclk := apply_clock s e
  obtain ⟨v1, v2⟩ := apply_vals (s := s) he
  have hp1 := hs.pos
  refine Cl.same (c_stCheck t1) fun _ _ hx => ⟨_, rfl, hx, fun _ => ⟨in64 (by omega), fun _ => ⟨fun _ => ⟨fun h => ?_, fun _ => ⟨fun h => ?_, fun _ => ⟨fun hd => ?_, fun hd => ?_⟩⟩⟩, fun h => absurd hpos h⟩⟩, fun h => absurd (Sta.err_ok.2 hok) h⟩
  · simp only at h; omega
  · simp only at h; omega
  · obtain ⟨w1, w2, w3⟩ := v2 hd
    obtain ⟨_, _, q3⟩ := he.call w1
    have hdo : e.op.does s.vals = ((e.op.turn s.vals).1, (e.op.turn s.vals).2, 0) := by
      unfold POp.does
      rw [if_neg (by omega), if_neg (by rw [hs.vals]; simp)]
    refine Cl.same (c_do e.op s.vals H1) fun _ _ hx => ⟨_, _, _, _, _, _, rfl, hx, fun b3 => ?_⟩
    rw [hdo]
    refine Cl.same (c_applyBegun H1) fun _ _ hx => ⟨_, rfl, hx, fun _ => ⟨fun _ => ⟨fun _ W3 _ _ => ?_, fun h => absurd rfl h⟩, fun h => absurd w1 h⟩, fun h => absurd rfl h⟩
    exact ⟨_, _, ek_eq_v4 _ _ (s.apply e).1.vals (e.op.turn s.vals).1 _, Ext.refl _, fun _ => Rt.gv' (by simp [w3]), fun h => absurd (by rw [w2]; simp) h⟩
  · have hv := v1 (by simpa using hd)
    refine Cl.same (c_applyBegun H1) fun _ _ hx => ⟨_, rfl, hx, fun _ W3 _ _ => ?_, fun h => absurd rfl h⟩
    exact ⟨_, _, ek_eq_v4 _ _ (s.apply e).1.vals s.vals _, Ext.refl _, Rt.gv' (by simp [hv])⟩
set_option maxHeartbeats 1000000 in
theorem c_applyKept {H : Hp} {p : Option Loc} {n c : Nat} {s : Sta} (hT : Tab H p n c s.table) (e o : Ent) : Gv Try.prog 6 #[s.val (vsl p n c), e.val, o.val] H (vb true) := fun W hH => by
  refine x_applyKept _ _ _ _ _ _ p n c _ _ _ _ _ _ _ _ _ _ _ _ _ _ _ _ _ _ noM H W _ hH fun b0 b1 b2 => ?_
  refine Cl.fresh (c_one' hT e) ?_
  rintro v W1 W2 D ⟨p1, n1, c1, rfl, t1⟩ hx hD hf nn
  refine ⟨_, _, _, _, _, _, p1, n1, c1, _, _, _, rfl, hx, D, hD, hf, fun H1 le1 hD1 b3 => ?_⟩
  replace t1 := t1.mono hD1
  have beg : ∀ {K : Hp}, Cl Try.prog W noM K nK 15 #[] fun z W3 W4 => ∃ x31 : Bool, z = .returned (vb (x31)) ∧ Ext W3 W4 ∧ Rt (fun z W' => z = .returned (vb true) ∧ Ext W W') W noM K nK (vb (x31)) := fun {K} => Cl.same (c_applyBegun K) fun _ _ hx => ⟨_, rfl, hx, Rt.gv⟩
  refine ⟨fun h0 => ⟨fun hd => ?_, fun _ => beg⟩, fun _ => beg⟩
  obtain ⟨hs, he, hp0, heq⟩ := sOne_ok h0
  rw [heq] at t1 hd ⊢
  simp only at hd
  have hok := Sta.apply_ok hs he hp0
  refine Cl.fresh (c_one' (s := (s.apply e).1) t1 o) ?_
  rintro v W3 W4 D2 ⟨p2, n2, c2, rfl, t2⟩ hx2 hD2 hf2 nn2
  refine ⟨_, _, _, _, _, _, p2, n2, c2, _, _, _, rfl, hx2, D2, hD2, hf2, fun H2 le2 hD3 b4 => ?_⟩
  replace t2 := t2.mono hD3
  refine ⟨fun h1 => ⟨fun _ => beg, fun hp2 => ?_⟩, fun _ => beg⟩
  obtain ⟨_, ho, hp1, heq2⟩ := sOne_ok h1
  rw [heq2] at t2 hp2 ⊢
  simp only at hp2
  have hok2 := Sta.apply_ok hok ho hp1
  have hck := hok.clock
  have hck2 := hok2.clock
  have hap := apply_done hd
  have hk2 : e.kind = 2 := by have := he.kind; omega
  have fin : ¬ (o.client = e.client ∧ (o.kind = 3 ∨ e.seq ≤ o.ack)) → ((s.apply e).1.apply o).1.clock ≤ (s.apply e).1.clock + 20 →
      Cl Try.prog W noM H2 nK 18 #[((s.apply e).1.apply o).1.val (vsl p2 n2 c2), Ent.val { e with time := 0 }] fun z W5 W6 => ∃ x51 : Int, ∃ x52 : Int, ∃ x53 : Int, ∃ x54 : Int, ∃ x55 : Int, ∃ x56 : Int, ∃ x57 : Option Loc, ∃ x58 : Nat, ∃ x59 : Nat, ∃ x60 : Int, ∃ x61 : Bool, ∃ x62 : Int, z = .returned (Value.tuple #[Value.agg #[vi x51, vi x52, vi x53, vi x54, vi x55, vi x56, vsl x57 x58 x59], vi x60, vb (x61), vi x62]) ∧ Fr W5 W6 H2 fun H3 =>
         (∀ b6 : Nat,
         (Cl Try.prog W noM H3 nK 15 #[] fun z W7 W8 => ∃ x63 : Bool, z = .returned (vb (x63)) ∧ Ext W7 W8 ∧
         ((x63 = true →
          ((x62 = 0 →
           ((x61 = true →
            Rt (fun z W' => z = .returned (vb true) ∧ Ext W W') W noM H3 nK (vb (false))) ∧
           (¬ (x61 = true) →
            ((x60 = (s.apply e).2.1 →
             (Es W noM H3 nK fun W9 => ∃ x64 : Bool, Eo Try.prog (.bop .eql 30 (.tmp 104) (.tmp 106)) [Value.agg #[vi x53, vi x54, vi x55, vi x56], Value.agg #[vi ((s.apply e).1.apply o).1.vals.a, vi ((s.apply e).1.apply o).1.vals.b, vi ((s.apply e).1.apply o).1.vals.c, vi ((s.apply e).1.apply o).1.vals.d]] W9 (.value (vb (x64))) fun W10 => Ext W9 W10 ∧
             Rt (fun z W' => z = .returned (vb true) ∧ Ext W W') W noM H3 nK (vb (x64)))) ∧
            (¬ (x60 = (s.apply e).2.1) →
             Rt (fun z W' => z = .returned (vb true) ∧ Ext W W') W noM H3 nK (vb (false))))))) ∧
          (¬ (x62 = 0) →
           Rt (fun z W' => z = .returned (vb true) ∧ Ext W W') W noM H3 nK (vb (false))))) ∧
         (¬ (x63 = true) →
          Rt (fun z W' => z = .returned (vb true) ∧ Ext W W') W noM H3 nK (vb (false)))))) := fun hno hlf => by
    have he0 : EntOk { e with time := 0 } := ⟨he.kind, by simp only; omega, he.client, he.call, he.bare⟩
    obtain ⟨a1, a2, a3⟩ := apply_kept hs he hp0 hd ho hp1 hno hlf
    have hone := sOne_of hok2 he0 (by have := hok2.pos; omega)
    have hc := c_one' (s := ((s.apply e).1.apply o).1) t2 { e with time := 0 }
    rw [hone] at hc
    refine Cl.fresh hc ?_
    rintro v W5 W6 D3 ⟨p3, n3, c3, rfl, t3⟩ hx3 hD4 hf3 nn3
    refine ⟨_, _, _, _, _, _, p3, n3, c3, _, _, _, rfl, hx3, D3, hD4, hf3, fun H3 le3 hD5 b6 => ?_⟩
    refine Cl.same (c_applyBegun H3) fun _ _ hx => ⟨_, rfl, hx, fun _ => ⟨fun _ => ⟨fun h => ?_, fun _ => ⟨fun _ W7 _ _ => ?_, fun h => absurd a2 h⟩⟩, fun h => absurd rfl h⟩, fun h => absurd rfl h⟩
    · rw [a1] at h; cases h
    · exact ⟨_, _, ek_eq_v4 _ _ (((s.apply e).1.apply o).1.apply { e with time := 0 }).1.vals ((s.apply e).1.apply o).1.vals _, Ext.refl _, Rt.gv' (by rw [a3]; simp)⟩
  have hck20 : inKind .i64 ((s.apply e).1.clock + 20) := in64 (by omega)
  refine ⟨fun hc => ⟨fun _ => beg, fun h3 => ⟨fun _ => beg, fun ha => ⟨hck20, fun _ => ⟨fun _ => beg, fun hl b5 => fin (fun h => ?_) (by simpa using hl)⟩⟩⟩⟩, fun hc => ⟨hck20, fun _ => ⟨fun _ => beg, fun hl b5 => fin (fun h => hc h.1) (by simpa using hl)⟩⟩⟩
  rcases h.2 with h2 | h2
  · exact h3 h2
  · exact ha h2
end Go.Proofs.Ytdmaehpdccpnoaa
