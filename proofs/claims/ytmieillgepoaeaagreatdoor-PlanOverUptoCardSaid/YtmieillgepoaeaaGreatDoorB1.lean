/- A part of the proof: contracts of functions, by a verified generator of conditions; no condition of its own. -/
import Derived.Test.YtmieillgepoaeaaGreatDoorDm21
import Derived.Test.YtmieillgepoaeaaGreatDoorProg
import Derived.KernelRfl
namespace Go.Proofs.Tryz
open Go Go.Dm
set_option maxRecDepth 100000
def te_0 : List (Nat × TI) := [
    (1, { agg := false, ck := [.fn], bytes := 8, td := .other }),
    (2, { agg := false, ck := [.int .i64], bytes := 8, td := .plain }),
    (3, { agg := false, ck := [.int .i64], bytes := 8, td := .plain }),
    (4, { agg := false, ck := [.bool], bytes := 1, td := .plain }),
    (5, { agg := false, ck := [.int .u8], bytes := 1, td := .plain }),
    (6, { agg := false, ck := [.int .u8], bytes := 1, td := .plain }),
    (7, { agg := true, ck := [.int .i64, .int .i64, .bool, .int .u8], bytes := 24, td := .struct [(0, 2), (1, 3), (2, 4), (3, 6)], eq := true }),
    (8, { agg := true, ck := [.int .i64, .int .i64, .bool, .int .u8], bytes := 24, td := .struct [(0, 2), (1, 3), (2, 4), (3, 6)], eq := true }),
    (9, { agg := false, ck := [.str], bytes := 16, td := .plain }),
    (10, { agg := false, ck := [.str], bytes := 16, td := .plain }),
    (11, { agg := false, ck := [.str], bytes := 16, td := .plain }),
    (12, { agg := false, ck := [.int .u64], bytes := 8, td := .plain }),
    (13, { agg := true, ck := [.str, .int .u64], bytes := 24, td := .struct [(0, 9), (1, 12)] }),
    (14, { agg := true, ck := [.str, .int .u64], bytes := 24, td := .struct [(0, 9), (1, 12)] }),
    (15, { agg := false, ck := [.ptr], bytes := 8, td := .ptr 381 }),
    (16, { agg := false, ck := [.ptr], bytes := 8, td := .ptr 384 }),
    (17, { agg := false, ck := [.ptr], bytes := 8, td := .ptr 391 }),
    (18, { agg := true, ck := [.ptr], bytes := 8, td := .struct [(0, 17)] }),
    (19, { agg := true, ck := [.ptr], bytes := 8, td := .struct [(0, 17)] }),
    (20, { agg := false, ck := [.iface], bytes := 16, td := .iface }),
    (21, { agg := false, ck := [.int .i32], bytes := 4, td := .plain }),
    (22, { agg := false, ck := [.sl], bytes := 24, td := .slice 43 }),
    (23, { agg := true, ck := [.int .i64, .bool, .sl], bytes := 40, td := .struct [(0, 3), (1, 4), (2, 22)] }),
    (24, { agg := true, ck := [.int .i64, .bool, .sl], bytes := 40, td := .struct [(0, 3), (1, 4), (2, 22)] }),
    (25, { agg := false, ck := [.sl], bytes := 24, td := .slice 4 }),
    (26, { agg := false, ck := [.sl], bytes := 24, td := .slice 101 }),
    (27, { agg := true, ck := [.int .i64, .sl, .sl, .sl, .sl, .sl, .int .i64], bytes := 136, td := .struct [(0, 3), (1, 22), (2, 22), (3, 22), (4, 25), (5, 26), (6, 2)] }),
    (28, { agg := true, ck := [.int .i64, .sl, .sl, .sl, .sl, .sl, .int .i64], bytes := 136, td := .struct [(0, 3), (1, 22), (2, 22), (3, 22), (4, 25), (5, 26), (6, 2)] }),
    (29, { agg := false, ck := [.sl], bytes := 24, td := .slice 31 }),
    (30, { agg := true, ck := [.int .i64, .int .i64], bytes := 16, td := .struct [(0, 3), (1, 3)], eq := true }),
    (31, { agg := true, ck := [.int .i64, .int .i64], bytes := 16, td := .struct [(0, 3), (1, 3)], eq := true }),
    (32, { agg := false, ck := [.int .i64], bytes := 8, td := .plain }),
    (34, { agg := false, ck := [.fn], bytes := 8, td := .other }),
    (35, { agg := false, ck := [.fn], bytes := 8, td := .other }),
    (36, { agg := false, ck := [.fn], bytes := 8, td := .other }),
    (37, { agg := false, ck := [.fn], bytes := 8, td := .other }),
    (38, { agg := false, ck := [.fn], bytes := 8, td := .other }),
    (39, { agg := false, ck := [.fn], bytes := 8, td := .other }),
    (40, { agg := true, ck := [.int .i64, .int .i64, .bool, .int .i64, .str], bytes := 48, td := .struct [(0, 31), (2, 4), (3, 2), (4, 9)], eq := true }),
    (41, { agg := true, ck := [.int .i64, .int .i64, .bool, .int .i64, .str], bytes := 48, td := .struct [(0, 31), (2, 4), (3, 2), (4, 9)], eq := true }),
    (42, { agg := true, ck := [.int .i64, .int .i64, .int .i64, .int .i64, .int .i64, .int .i64, .bool, .int .i64, .str, .sl], bytes := 104, td := .struct [(0, 3), (1, 3), (2, 31), (4, 41), (9, 22)] }),
    (43, { agg := true, ck := [.int .i64, .int .i64, .int .i64, .int .i64, .int .i64, .int .i64, .bool, .int .i64, .str, .sl], bytes := 104, td := .struct [(0, 3), (1, 3), (2, 31), (4, 41), (9, 22)] }),
    (45, { agg := false, ck := [.fn], bytes := 8, td := .other }),
    (46, { agg := false, ck := [.fn], bytes := 8, td := .other }),
    (47, { agg := false, ck := [.fn], bytes := 8, td := .other }),
    (48, { agg := false, ck := [.fn], bytes := 8, td := .other }),
    (49, { agg := false, ck := [.fn], bytes := 8, td := .other }),
    (50, { agg := false, ck := [.fn], bytes := 8, td := .other }),
    (51, { agg := false, ck := [.fn], bytes := 8, td := .other }),
    (52, { agg := false, ck := [.fn], bytes := 8, td := .other }),
    (54, { agg := false, ck := [.fn], bytes := 8, td := .other }),
    (55, { agg := false, ck := [.fn], bytes := 8, td := .other }),
    (56, { agg := false, ck := [.fn], bytes := 8, td := .other }),
    (57, { agg := true, ck := [.str, .int .i64, .int .i64, .bool], bytes := 40, td := .struct [(0, 9), (1, 31), (3, 4)], eq := true }),
    (58, { agg := true, ck := [.str, .int .i64, .int .i64, .bool], bytes := 40, td := .struct [(0, 9), (1, 31), (3, 4)], eq := true }),
    (59, { agg := false, ck := [.sl], bytes := 24, td := .slice 58 }),
    (60, { agg := true, ck := [.str, .sl], bytes := 40, td := .struct [(0, 9), (1, 59)] }),
    (61, { agg := true, ck := [.str, .sl], bytes := 40, td := .struct [(0, 9), (1, 59)] }),
    (62, { agg := false, ck := [.sl], bytes := 24, td := .slice 64 }),
    (63, { agg := false, ck := [.sl], bytes := 24, td := .slice 205 }),
    (64, { agg := false, ck := [.sl], bytes := 24, td := .slice 167 }),
    (65, { agg := false, ck := [.sl], bytes := 24, td := .slice 160 }),
    (66, { agg := false, ck := [.sl], bytes := 24, td := .slice 169 }),
    (67, { agg := true, ck := [.sl, .sl, .int .i64], bytes := 56, td := .struct [(0, 65), (1, 66), (2, 2)] }),
    (68, { agg := true, ck := [.sl, .sl, .int .i64], bytes := 56, td := .struct [(0, 65), (1, 66), (2, 2)] }),
    (69, { agg := true, ck := [.int .i64, .str, .sl, .str, .sl, .sl, .sl, .sl, .sl, .int .i64], bytes := 192, td := .struct [(0, 3), (1, 61), (3, 9), (4, 62), (5, 63), (6, 64), (7, 68)] }),
    (70, { agg := true, ck := [.int .i64, .str, .sl, .str, .sl, .sl, .sl, .sl, .sl, .int .i64], bytes := 192, td := .struct [(0, 3), (1, 61), (3, 9), (4, 62), (5, 63), (6, 64), (7, 68)] }),
    (72, { agg := false, ck := [.fn], bytes := 8, td := .other }),
    (73, { agg := false, ck := [.sl], bytes := 24, td := .slice 77 }),
    (74, { agg := false, ck := [.sl], bytes := 24, td := .slice 24 }),
    (75, { agg := false, ck := [.sl], bytes := 24, td := .slice 28 }),
    (76, { agg := true, ck := [.int .i64, .sl, .str, .sl, .sl, .int .i64, .sl, .sl, .sl, .sl, .int .i64], bytes := 208, td := .struct [(0, 3), (1, 73), (2, 9), (3, 22), (4, 25), (5, 3), (6, 22), (7, 22), (8, 74), (9, 75), (10, 2)] }),
    (77, { agg := true, ck := [.int .i64, .sl, .str, .sl, .sl, .int .i64, .sl, .sl, .sl, .sl, .int .i64], bytes := 208, td := .struct [(0, 3), (1, 73), (2, 9), (3, 22), (4, 25), (5, 3), (6, 22), (7, 22), (8, 74), (9, 75), (10, 2)] }),
    (78, { agg := false, ck := [.sl], bytes := 24, td := .slice 9 }),
    (80, { agg := false, ck := [.fn], bytes := 8, td := .other }),
    (81, { agg := false, ck := [.fn], bytes := 8, td := .other }),
    (82, { agg := false, ck := [.fn], bytes := 8, td := .other }),
    (83, { agg := false, ck := [.fn], bytes := 8, td := .other }),
    (84, { agg := false, ck := [.sl], bytes := 24, td := .slice 3 }),
    (85, { agg := false, ck := [.fn], bytes := 8, td := .other }),
    (86, { agg := false, ck := [.fn], bytes := 8, td := .other }),
    (88, { agg := false, ck := [.fn], bytes := 8, td := .other }),
    (90, { agg := false, ck := [.fn], bytes := 8, td := .other }),
    (91, { agg := false, ck := [.fn], bytes := 8, td := .other }),
    (92, { agg := false, ck := [.fn], bytes := 8, td := .other }),
    (93, { agg := false, ck := [.fn], bytes := 8, td := .other }),
    (94, { agg := false, ck := [.fn], bytes := 8, td := .other }),
    (95, { agg := false, ck := [.fn], bytes := 8, td := .other }),
    (96, { agg := false, ck := [.fn], bytes := 8, td := .other }),
    (97, { agg := false, ck := [.fn], bytes := 8, td := .other }),
    (98, { agg := false, ck := [.fn], bytes := 8, td := .other }),
    (99, { agg := false, ck := [.fn], bytes := 8, td := .other }),
    (100, { agg := true, ck := [.int .i64, .int .i64], bytes := 16, td := .struct [(0, 3), (1, 2)], eq := true }),
    (101, { agg := true, ck := [.int .i64, .int .i64], bytes := 16, td := .struct [(0, 3), (1, 2)], eq := true }),
    (102, { agg := false, ck := [.fn], bytes := 8, td := .other }),
    (103, { agg := false, ck := [.fn], bytes := 8, td := .other }),
    (104, { agg := false, ck := [.sl], bytes := 24, td := .slice 22 }),
    (105, { agg := false, ck := [.fn], bytes := 8, td := .other }),
    (106, { agg := false, ck := [.ptr], bytes := 8, td := .ptr 112 }),
    (108, { agg := false, ck := [.fn], bytes := 8, td := .other }),
    (109, { agg := false, ck := [.fn], bytes := 8, td := .other }),
    (110, { agg := false, ck := [.sl], bytes := 24, td := .slice 200 }),
    (111, { agg := true, ck := [.sl, .int .i64, .int .i64, .int .i64, .int .i64], bytes := 56, td := .struct [(0, 110), (1, 3), (2, 3), (3, 32), (4, 3)] }),
    (112, { agg := true, ck := [.sl, .int .i64, .int .i64, .int .i64, .int .i64], bytes := 56, td := .struct [(0, 110), (1, 3), (2, 3), (3, 32), (4, 3)] }),
    (113, { agg := false, ck := [.sl], bytes := 24, td := .slice 61 }),
    (114, { agg := false, ck := [.sl], bytes := 24, td := .slice 119 }),
    (116, { agg := false, ck := [.fn], bytes := 8, td := .other }),
    (117, { agg := false, ck := [.fn], bytes := 8, td := .other }),
    (118, { agg := true, ck := [.str, .str, .int .i64, .int .i64], bytes := 48, td := .struct [(0, 9), (1, 9), (2, 31)], eq := true }),
    (119, { agg := true, ck := [.str, .str, .int .i64, .int .i64], bytes := 48, td := .struct [(0, 9), (1, 9), (2, 31)], eq := true }),
    (120, { agg := true, ck := [.str, .str, .str, .str, .str, .str, .str, .str, .str], bytes := 144, td := .arr 9 9 }),
    (121, { agg := false, ck := [.fn], bytes := 8, td := .other }),
    (122, { agg := false, ck := [.fn], bytes := 8, td := .other }),
    (123, { agg := false, ck := [.fn], bytes := 8, td := .other }),
    (124, { agg := false, ck := [.fn], bytes := 8, td := .other }),
    (125, { agg := false, ck := [.fn], bytes := 8, td := .other }),
    (126, { agg := false, ck := [.fn], bytes := 8, td := .other }),
    (127, { agg := false, ck := [.fn], bytes := 8, td := .other }),
    (128, { agg := false, ck := [.sl], bytes := 24, td := .slice 29 }),
    (129, { agg := false, ck := [.fn], bytes := 8, td := .other }),
    (130, { agg := false, ck := [.fn], bytes := 8, td := .other }),
    (131, { agg := false, ck := [.fn], bytes := 8, td := .other }),
    (132, { agg := false, ck := [.fn], bytes := 8, td := .other }),
    (133, { agg := false, ck := [.fn], bytes := 8, td := .other }),
    (134, { agg := false, ck := [.fn], bytes := 8, td := .other }),
    (135, { agg := false, ck := [.fn], bytes := 8, td := .other }),
    (136, { agg := false, ck := [.fn], bytes := 8, td := .other }),
    (137, { agg := false, ck := [.fn], bytes := 8, td := .other }),
    (138, { agg := false, ck := [.fn], bytes := 8, td := .other }),
    (139, { agg := false, ck := [.fn], bytes := 8, td := .other }),
    (140, { agg := false, ck := [.fn], bytes := 8, td := .other }),
    (141, { agg := false, ck := [.fn], bytes := 8, td := .other }),
    (142, { agg := false, ck := [.fn], bytes := 8, td := .other }),
    (143, { agg := false, ck := [.fn], bytes := 8, td := .other }),
    (144, { agg := false, ck := [.fn], bytes := 8, td := .other }),
    (146, { agg := false, ck := [.fn], bytes := 8, td := .other }),
    (147, { agg := false, ck := [.fn], bytes := 8, td := .other }),
    (148, { agg := false, ck := [.fn], bytes := 8, td := .other }),
    (149, { agg := false, ck := [.fn], bytes := 8, td := .other }),
    (150, { agg := false, ck := [.fn], bytes := 8, td := .other }),
    (151, { agg := false, ck := [.fn], bytes := 8, td := .other }),
    (152, { agg := false, ck := [.fn], bytes := 8, td := .other }),
    (153, { agg := false, ck := [.fn], bytes := 8, td := .other }),
    (154, { agg := false, ck := [.fn], bytes := 8, td := .other }),
    (155, { agg := false, ck := [.fn], bytes := 8, td := .other }),
    (156, { agg := false, ck := [.sl], bytes := 24, td := .slice 114 }),
    (157, { agg := false, ck := [.sl], bytes := 24, td := .slice 246 }),
    (158, { agg := false, ck := [.sl], bytes := 24, td := .slice 211 }),
    (159, { agg := true, ck := [.bool, .sl, .sl, .sl, .sl, .sl], bytes := 128, td := .struct [(0, 4), (1, 157), (2, 158), (3, 64), (4, 64), (5, 64)] }),
    (160, { agg := true, ck := [.bool, .sl, .sl, .sl, .sl, .sl], bytes := 128, td := .struct [(0, 4), (1, 157), (2, 158), (3, 64), (4, 64), (5, 64)] }),
    (161, { agg := false, ck := [.fn], bytes := 8, td := .other }),
    (162, { agg := false, ck := [.fn], bytes := 8, td := .other }),
    (163, { agg := false, ck := [.fn], bytes := 8, td := .other }),
    (164, { agg := false, ck := [.ptr], bytes := 8, td := .ptr 226 }),
    (165, { agg := false, ck := [.fn], bytes := 8, td := .other }),
    (166, { agg := true, ck := [.int .i64, .int .i64, .int .i64, .int .i64, .int .i64, .int .i64, .bool, .int .i64, .str, .str, .str, .bool, .sl, .sl, .sl, .sl], bytes := 216, td := .struct [(0, 3), (1, 3), (2, 31), (4, 41), (9, 9), (10, 9), (11, 4), (12, 64), (13, 64), (14, 66), (15, 26)] }),
    (167, { agg := true, ck := [.int .i64, .int .i64, .int .i64, .int .i64, .int .i64, .int .i64, .bool, .int .i64, .str, .str, .str, .bool, .sl, .sl, .sl, .sl], bytes := 216, td := .struct [(0, 3), (1, 3), (2, 31), (4, 41), (9, 9), (10, 9), (11, 4), (12, 64), (13, 64), (14, 66), (15, 26)] }),
    (168, { agg := true, ck := [.int .i64, .int .i64, .int .i64, .int .i64, .int .i64, .int .i64, .bool, .int .i64, .str, .str, .str, .bool, .sl, .sl, .sl, .sl, .bool], bytes := 224, td := .struct [(0, 167), (16, 4)] }),
    (169, { agg := true, ck := [.int .i64, .int .i64, .int .i64, .int .i64, .int .i64, .int .i64, .bool, .int .i64, .str, .str, .str, .bool, .sl, .sl, .sl, .sl, .bool], bytes := 224, td := .struct [(0, 167), (16, 4)] }),
    (171, { agg := false, ck := [.fn], bytes := 8, td := .other }),
    (172, { agg := false, ck := [.fn], bytes := 8, td := .other }),
    (173, { agg := false, ck := [.fn], bytes := 8, td := .other }),
    (174, { agg := false, ck := [.fn], bytes := 8, td := .other }),
    (175, { agg := false, ck := [.fn], bytes := 8, td := .other }),
    (176, { agg := false, ck := [.fn], bytes := 8, td := .other }),
    (177, { agg := false, ck := [.fn], bytes := 8, td := .other }),
    (178, { agg := false, ck := [.ptr], bytes := 8, td := .ptr 181 }),
    (179, { agg := false, ck := [.sl], bytes := 24, td := .slice 5 }),
    (180, { agg := true, ck := [.ptr, .sl], bytes := 32, td := .struct [(0, 178), (1, 179)] }),
    (181, { agg := true, ck := [.ptr, .sl], bytes := 32, td := .struct [(0, 178), (1, 179)] }),
    (182, { agg := false, ck := [.fn], bytes := 8, td := .other }),
    (183, { agg := false, ck := [.iface], bytes := 16, td := .iface }),
    (184, { agg := false, ck := [.iface], bytes := 16, td := .iface }),
    (186, { agg := false, ck := [.fn], bytes := 8, td := .other }),
    (187, { agg := false, ck := [.map], bytes := 8, td := .map 3 4 }),
    (188, { agg := false, ck := [.fn], bytes := 8, td := .other }),
    (189, { agg := false, ck := [.fn], bytes := 8, td := .other }),
    (190, { agg := false, ck := [.fn], bytes := 8, td := .other }),
    (191, { agg := false, ck := [.fn], bytes := 8, td := .other }),
    (192, { agg := false, ck := [.fn], bytes := 8, td := .other }),
    (193, { agg := false, ck := [.fn], bytes := 8, td := .other }),
    (194, { agg := false, ck := [.fn], bytes := 8, td := .other }),
    (195, { agg := false, ck := [.fn], bytes := 8, td := .other }),
    (196, { agg := false, ck := [.fn], bytes := 8, td := .other }),
    (198, { agg := false, ck := [.fn], bytes := 8, td := .other }),
    (199, { agg := true, ck := [.int .i64, .str, .int .i64], bytes := 32, td := .struct [(0, 3), (1, 9), (2, 3)], eq := true }),
    (200, { agg := true, ck := [.int .i64, .str, .int .i64], bytes := 32, td := .struct [(0, 3), (1, 9), (2, 3)], eq := true }),
    (201, { agg := false, ck := [.fn], bytes := 8, td := .other }),
    (202, { agg := false, ck := [.fn], bytes := 8, td := .other }),
    (203, { agg := false, ck := [.fn], bytes := 8, td := .other }),
    (204, { agg := true, ck := [.str, .int .i64, .int .i64, .int .i64, .int .i64, .int .i64, .int .i64, .bool, .int .i64, .str, .str, .str, .bool, .sl, .sl, .sl, .sl], bytes := 232, td := .struct [(0, 9), (1, 167)] }),
    (205, { agg := true, ck := [.str, .int .i64, .int .i64, .int .i64, .int .i64, .int .i64, .int .i64, .bool, .int .i64, .str, .str, .str, .bool, .sl, .sl, .sl, .sl], bytes := 232, td := .struct [(0, 9), (1, 167)] }),
    (206, { agg := false, ck := [.fn], bytes := 8, td := .other }),
    (207, { agg := false, ck := [.fn], bytes := 8, td := .other }),
    (208, { agg := false, ck := [.fn], bytes := 8, td := .other }),
    (209, { agg := false, ck := [.fn], bytes := 8, td := .other }),
    (210, { agg := true, ck := [.int .i64, .str, .str, .sl], bytes := 64, td := .struct [(0, 3), (1, 9), (2, 9), (3, 64)] }),
    (211, { agg := true, ck := [.int .i64, .str, .str, .sl], bytes := 64, td := .struct [(0, 3), (1, 9), (2, 9), (3, 64)] }),
    (212, { agg := false, ck := [.fn], bytes := 8, td := .other }),
    (214, { agg := false, ck := [.fn], bytes := 8, td := .other }),
    (215, { agg := false, ck := [.fn], bytes := 8, td := .other }),
    (216, { agg := false, ck := [.fn], bytes := 8, td := .other }),
    (218, { agg := false, ck := [.fn], bytes := 8, td := .other }),
    (219, { agg := false, ck := [.fn], bytes := 8, td := .other }),
    (220, { agg := false, ck := [.fn], bytes := 8, td := .other }),
    (221, { agg := false, ck := [.fn], bytes := 8, td := .other }),
    (222, { agg := false, ck := [.fn], bytes := 8, td := .other }),
    (223, { agg := false, ck := [.fn], bytes := 8, td := .other }),
    (224, { agg := false, ck := [.fn], bytes := 8, td := .other }),
    (225, { agg := true, ck := [.sl, .sl, .sl, .sl, .bool], bytes := 104, td := .struct [(0, 114), (1, 29), (2, 64), (3, 84), (4, 4)] }),
    (226, { agg := true, ck := [.sl, .sl, .sl, .sl, .bool], bytes := 104, td := .struct [(0, 114), (1, 29), (2, 64), (3, 84), (4, 4)] }),
    (227, { agg := false, ck := [.fn], bytes := 8, td := .other }),
    (228, { agg := false, ck := [.fn], bytes := 8, td := .other }),
    (229, { agg := false, ck := [.fn], bytes := 8, td := .other }),
    (230, { agg := false, ck := [.fn], bytes := 8, td := .other }),
    (231, { agg := false, ck := [.fn], bytes := 8, td := .other }),
    (232, { agg := false, ck := [.fn], bytes := 8, td := .other }),
    (234, { agg := false, ck := [.fn], bytes := 8, td := .other }),
    (235, { agg := false, ck := [.fn], bytes := 8, td := .other }),
    (236, { agg := true, ck := [.str, .str, .str, .str, .str, .str, .str, .str, .str, .str, .str, .str, .str, .str, .str, .str, .str, .str, .str], bytes := 304, td := .arr 19 9 }),
    (237, { agg := true, ck := [.str, .str, .str, .str, .str, .str, .str], bytes := 112, td := .arr 7 9 }),
    (238, { agg := false, ck := [.ptr], bytes := 8, td := .ptr 5 }),
    (239, { agg := false, ck := [.fn], bytes := 8, td := .other }),
    (240, { agg := false, ck := [.fn], bytes := 8, td := .other }),
    (242, { agg := false, ck := [.fn], bytes := 8, td := .other }),
    (243, { agg := false, ck := [.fn], bytes := 8, td := .other }),
    (244, { agg := false, ck := [.fn], bytes := 8, td := .other }),
    (245, { agg := true, ck := [.bool, .int .i64, .int .i64, .int .i64, .int .i64, .int .i64, .int .i64, .bool, .int .i64, .str, .str, .str, .bool, .sl, .sl, .sl, .sl, .str], bytes := 240, td := .struct [(0, 4), (1, 167), (17, 9)] }),
    (246, { agg := true, ck := [.bool, .int .i64, .int .i64, .int .i64, .int .i64, .int .i64, .int .i64, .bool, .int .i64, .str, .str, .str, .bool, .sl, .sl, .sl, .sl, .str], bytes := 240, td := .struct [(0, 4), (1, 167), (17, 9)] }),
    (247, { agg := false, ck := [.fn], bytes := 8, td := .other }),
    (248, { agg := false, ck := [.fn], bytes := 8, td := .other }),
    (250, { agg := false, ck := [.fn], bytes := 8, td := .other }),
    (251, { agg := false, ck := [.fn], bytes := 8, td := .other }),
    (252, { agg := false, ck := [.map], bytes := 8, td := .map 9 4 }),
    (254, { agg := false, ck := [.fn], bytes := 8, td := .other }),
    (255, { agg := false, ck := [.fn], bytes := 8, td := .other }),
    (256, { agg := false, ck := [.fn], bytes := 8, td := .other }),
    (257, { agg := false, ck := [.fn], bytes := 8, td := .other }),
    (258, { agg := false, ck := [.fn], bytes := 8, td := .other }),
    (259, { agg := false, ck := [.fn], bytes := 8, td := .other }),
    (260, { agg := false, ck := [.fn], bytes := 8, td := .other }),
    (261, { agg := false, ck := [.fn], bytes := 8, td := .other }),
    (262, { agg := false, ck := [.fn], bytes := 8, td := .other }),
    (264, { agg := false, ck := [.fn], bytes := 8, td := .other }),
    (265, { agg := false, ck := [.fn], bytes := 8, td := .other }),
    (267, { agg := false, ck := [.fn], bytes := 8, td := .other }),
    (268, { agg := false, ck := [.fn], bytes := 8, td := .other }),
    (269, { agg := false, ck := [.fn], bytes := 8, td := .other }),
    (271, { agg := false, ck := [.fn], bytes := 8, td := .other }),
    (272, { agg := false, ck := [.fn], bytes := 8, td := .other }),
    (273, { agg := false, ck := [.fn], bytes := 8, td := .other }),
    (274, { agg := false, ck := [.fn], bytes := 8, td := .other }),
    (275, { agg := false, ck := [.fn], bytes := 8, td := .other }),
    (276, { agg := false, ck := [.fn], bytes := 8, td := .other }),
    (277, { agg := false, ck := [.fn], bytes := 8, td := .other }),
    (278, { agg := false, ck := [.fn], bytes := 8, td := .other }),
    (279, { agg := false, ck := [.fn], bytes := 8, td := .other }),
    (280, { agg := false, ck := [.fn], bytes := 8, td := .other }),
    (281, { agg := false, ck := [.fn], bytes := 8, td := .other }),
    (282, { agg := false, ck := [.fn], bytes := 8, td := .other }),
    (283, { agg := false, ck := [.fn], bytes := 8, td := .other }),
    (284, { agg := false, ck := [.fn], bytes := 8, td := .other }),
    (285, { agg := false, ck := [.fn], bytes := 8, td := .other }),
    (287, { agg := false, ck := [.fn], bytes := 8, td := .other }),
    (288, { agg := false, ck := [.fn], bytes := 8, td := .other }),
    (290, { agg := false, ck := [.fn], bytes := 8, td := .other }),
    (291, { agg := false, ck := [.fn], bytes := 8, td := .other }),
    (292, { agg := true, ck := [.int .u8, .int .u8, .int .u8, .int .u8, .int .u8, .int .u8, .int .u8, .int .u8, .int .u8, .int .u8, .int .u8, .int .u8, .int .u8, .int .u8, .int .u8, .int .u8, .int .u8, .int .u8, .int .u8, .int .u8, .int .u8, .int .u8, .int .u8, .int .u8], bytes := 24, td := .arr 24 5 }),
    (293, { agg := false, ck := [.int .u64], bytes := 8, td := .plain }),
    (294, { agg := false, ck := [.fn], bytes := 8, td := .other }),
    (295, { agg := false, ck := [.fn], bytes := 8, td := .other }),
    (297, { agg := false, ck := [.fn], bytes := 8, td := .other }),
    (299, { agg := false, ck := [.fn], bytes := 8, td := .other }),
    (300, { agg := false, ck := [.fn], bytes := 8, td := .other }),
    (301, { agg := false, ck := [.fn], bytes := 8, td := .other }),
    (302, { agg := false, ck := [.fn], bytes := 8, td := .other }),
    (303, { agg := false, ck := [.fn], bytes := 8, td := .other }),
    (304, { agg := false, ck := [.int .u64], bytes := 8, td := .plain }),
    (305, { agg := false, ck := [.fn], bytes := 8, td := .other }),
    (306, { agg := false, ck := [.fn], bytes := 8, td := .other }),
    (308, { agg := false, ck := [.fn], bytes := 8, td := .other }),
    (309, { agg := false, ck := [.fn], bytes := 8, td := .other }),
    (310, { agg := false, ck := [.fn], bytes := 8, td := .other }),
    (311, { agg := false, ck := [.fn], bytes := 8, td := .other }),
    (312, { agg := false, ck := [.fn], bytes := 8, td := .other }),
    (313, { agg := false, ck := [.fn], bytes := 8, td := .other }),
    (314, { agg := false, ck := [.fn], bytes := 8, td := .other }),
    (315, { agg := false, ck := [.fn], bytes := 8, td := .other }),
    (316, { agg := false, ck := [.fn], bytes := 8, td := .other }),
    (317, { agg := false, ck := [.map], bytes := 8, td := .map 9 84 }),
    (318, { agg := false, ck := [.fn], bytes := 8, td := .other }),
    (319, { agg := false, ck := [.fn], bytes := 8, td := .other }),
    (320, { agg := false, ck := [.fn], bytes := 8, td := .other }),
    (322, { agg := false, ck := [.fn], bytes := 8, td := .other }),
    (323, { agg := false, ck := [.fn], bytes := 8, td := .other }),
    (324, { agg := false, ck := [.fn], bytes := 8, td := .other }),
    (325, { agg := false, ck := [.fn], bytes := 8, td := .other }),
    (326, { agg := true, ck := [.int .u64, .int .u64, .int .u64, .int .u64, .int .u64, .int .u64, .int .u64, .int .u64, .int .u64, .int .u64, .int .u64, .int .u64, .int .u64, .int .u64, .int .u64, .int .u64, .int .u64, .int .u64, .int .u64, .int .u64], bytes := 160, td := .arr 20 293 }),
    (327, { agg := false, ck := [.int .u32], bytes := 4, td := .plain }),
    (328, { agg := true, ck := [.int .u8, .int .u8, .int .u8, .int .u8, .int .u8, .int .u8, .int .u8, .int .u8, .int .u8, .int .u8, .int .u8, .int .u8, .int .u8, .int .u8, .int .u8, .int .u8, .int .u8, .int .u8, .int .u8, .int .u8, .int .u8, .int .u8, .int .u8, .int .u8, .int .u8, .int .u8, .int .u8, .int .u8, .int .u8, .int .u8, .int .u8, .int .u8, .int .u8, .int .u8, .int .u8, .int .u8, .int .u8, .int .u8, .int .u8, .int .u8, .int .u8, .int .u8, .int .u8, .int .u8, .int .u8, .int .u8, .int .u8, .int .u8, .int .u8, .int .u8, .int .u8, .int .u8, .int .u8, .int .u8, .int .u8, .int .u8, .int .u8, .int .u8, .int .u8, .int .u8, .int .u8, .int .u8, .int .u8, .int .u8, .int .u8], bytes := 65, td := .arr 65 5 }),
    (329, { agg := false, ck := [.fn], bytes := 8, td := .other }),
    (330, { agg := false, ck := [.int .i64], bytes := 8, td := .plain }),
    (332, { agg := false, ck := [.fn], bytes := 8, td := .other }),
    (333, { agg := false, ck := [.fn], bytes := 8, td := .other }),
    (334, { agg := false, ck := [.fn], bytes := 8, td := .other }),
    (336, { agg := false, ck := [.fn], bytes := 8, td := .other }),
    (337, { agg := false, ck := [.fn], bytes := 8, td := .other }),
    (338, { agg := false, ck := [.fn], bytes := 8, td := .other }),
    (339, { agg := false, ck := [.fn], bytes := 8, td := .other }),
    (340, { agg := false, ck := [.fn], bytes := 8, td := .other }),
    (341, { agg := false, ck := [.fn], bytes := 8, td := .other }),
    (342, { agg := false, ck := [.fn], bytes := 8, td := .other }),
    (343, { agg := false, ck := [.fn], bytes := 8, td := .other }),
    (345, { agg := false, ck := [.fn], bytes := 8, td := .other }),
    (346, { agg := true, ck := [.int .i64, .int .i64, .int .i64, .int .i64, .int .i64, .int .i64, .int .i64, .int .i64, .int .i64, .int .i64, .int .i64, .int .i64], bytes := 96, td := .arr 12 3 }),
    (347, { agg := false, ck := [.int .u64], bytes := 8, td := .plain }),
    (348, { agg := false, ck := [.fn], bytes := 8, td := .other }),
    (349, { agg := false, ck := [.fn], bytes := 8, td := .other }),
    (350, { agg := false, ck := [.fn], bytes := 8, td := .other }),
    (351, { agg := false, ck := [.ptr], bytes := 8, td := .ptr 3 }),
    (352, { agg := false, ck := [.fn], bytes := 8, td := .other }),
    (353, { agg := true, ck := [.int .u8, .int .u8, .int .u8, .int .u8, .int .u8, .int .u8, .int .u8, .int .u8, .int .u8, .int .u8, .int .u8, .int .u8, .int .u8, .int .u8, .int .u8, .int .u8, .int .u8, .int .u8, .int .u8, .int .u8, .int .u8, .int .u8, .int .u8, .int .u8, .int .u8, .int .u8, .int .u8, .int .u8, .int .u8, .int .u8, .int .u8, .int .u8, .int .u8, .int .u8, .int .u8, .int .u8, .int .u8, .int .u8, .int .u8, .int .u8, .int .u8, .int .u8, .int .u8, .int .u8, .int .u8, .int .u8, .int .u8, .int .u8, .int .u8, .int .u8, .int .u8, .int .u8, .int .u8, .int .u8, .int .u8, .int .u8, .int .u8, .int .u8, .int .u8, .int .u8, .int .u8, .int .u8, .int .u8, .int .u8, .int .u8, .int .u8, .int .u8, .int .u8, .int .u8, .int .u8, .int .u8, .int .u8, .int .u8, .int .u8, .int .u8, .int .u8, .int .u8, .int .u8, .int .u8, .int .u8, .int .u8, .int .u8, .int .u8, .int .u8, .int .u8, .int .u8, .int .u8, .int .u8, .int .u8, .int .u8, .int .u8, .int .u8, .int .u8, .int .u8, .int .u8, .int .u8, .int .u8, .int .u8, .int .u8, .int .u8, .int .u8, .int .u8, .int .u8, .int .u8, .int .u8, .int .u8, .int .u8, .int .u8, .int .u8, .int .u8, .int .u8, .int .u8, .int .u8, .int .u8, .int .u8, .int .u8, .int .u8, .int .u8, .int .u8, .int .u8, .int .u8, .int .u8, .int .u8, .int .u8, .int .u8, .int .u8, .int .u8, .int .u8, .int .u8, .int .u8, .int .u8, .int .u8, .int .u8, .int .u8, .int .u8, .int .u8, .int .u8, .int .u8, .int .u8, .int .u8, .int .u8, .int .u8, .int .u8, .int .u8, .int .u8, .int .u8, .int .u8, .int .u8, .int .u8, .int .u8, .int .u8, .int .u8, .int .u8, .int .u8, .int .u8, .int .u8, .int .u8, .int .u8, .int .u8, .int .u8, .int .u8, .int .u8, .int .u8, .int .u8, .int .u8, .int .u8, .int .u8, .int .u8, .int .u8, .int .u8, .int .u8, .int .u8, .int .u8, .int .u8, .int .u8, .int .u8, .int .u8, .int .u8, .int .u8, .int .u8, .int .u8, .int .u8, .int .u8, .int .u8, .int .u8, .int .u8, .int .u8, .int .u8, .int .u8, .int .u8, .int .u8, .int .u8, .int .u8, .int .u8, .int .u8, .int .u8, .int .u8, .int .u8, .int .u8, .int .u8, .int .u8, .int .u8, .int .u8, .int .u8, .int .u8, .int .u8, .int .u8, .int .u8, .int .u8, .int .u8, .int .u8, .int .u8, .int .u8, .int .u8, .int .u8, .int .u8, .int .u8, .int .u8, .int .u8, .int .u8, .int .u8, .int .u8, .int .u8, .int .u8, .int .u8, .int .u8, .int .u8, .int .u8, .int .u8, .int .u8, .int .u8, .int .u8, .int .u8, .int .u8, .int .u8, .int .u8, .int .u8, .int .u8, .int .u8, .int .u8, .int .u8, .int .u8, .int .u8, .int .u8, .int .u8, .int .u8, .int .u8, .int .u8, .int .u8, .int .u8, .int .u8, .int .u8, .int .u8, .int .u8, .int .u8, .int .u8], bytes := 256, td := .arr 256 5 }),
    (354, { agg := true, ck := [.int .u8, .int .u8], bytes := 2, td := .struct [(0, 5), (1, 5)], eq := true }),
    (355, { agg := true, ck := [.int .u8, .int .u8], bytes := 2, td := .struct [(0, 5), (1, 5)], eq := true }),
    (356, { agg := true, ck := [.int .u8, .int .u8, .int .u8, .int .u8, .int .u8, .int .u8, .int .u8, .int .u8, .int .u8, .int .u8, .int .u8, .int .u8, .int .u8, .int .u8, .int .u8, .int .u8, .int .u8, .int .u8, .int .u8, .int .u8, .int .u8, .int .u8, .int .u8, .int .u8, .int .u8, .int .u8, .int .u8, .int .u8, .int .u8, .int .u8, .int .u8, .int .u8], bytes := 32, td := .arr 16 355 }),
    (358, { agg := false, ck := [.fn], bytes := 8, td := .other }),
    (360, { agg := false, ck := [.fn], bytes := 8, td := .other }),
    (361, { agg := true, ck := [.int .u8, .int .u8, .int .u8, .int .u8, .int .u8, .int .u8, .int .u8, .int .u8, .int .u8, .int .u8, .int .u8, .int .u8, .int .u8, .int .u8, .int .u8, .int .u8, .int .u8, .int .u8, .int .u8, .int .u8, .int .u8, .int .u8, .int .u8, .int .u8, .int .u8, .int .u8, .int .u8, .int .u8, .int .u8, .int .u8, .int .u8, .int .u8], bytes := 32, td := .arr 32 5 }),
    (362, { agg := true, ck := [.int .u8, .int .u8, .int .u8, .int .u8, .int .u8, .int .u8, .int .u8, .int .u8, .int .u8, .int .u8, .int .u8, .int .u8, .int .u8, .int .u8, .int .u8, .int .u8, .int .u8, .int .u8, .int .u8, .int .u8, .int .u8, .int .u8, .int .u8, .int .u8, .int .u8, .int .u8, .int .u8, .int .u8, .int .u8, .int .u8, .int .u8, .int .u8, .int .u8, .int .u8, .int .u8, .int .u8, .int .u8, .int .u8, .int .u8, .int .u8, .int .u8, .int .u8, .int .u8, .int .u8, .int .u8, .int .u8, .int .u8, .int .u8, .int .u8, .int .u8, .int .u8, .int .u8, .int .u8, .int .u8, .int .u8, .int .u8, .int .u8, .int .u8, .int .u8, .int .u8, .int .u8, .int .u8, .int .u8, .int .u8], bytes := 64, td := .arr 64 5 }),
    (363, { agg := false, ck := [.ptr], bytes := 8, td := .ptr 347 }),
    (365, { agg := false, ck := [.fn], bytes := 8, td := .other }),
    (366, { agg := false, ck := [.fn], bytes := 8, td := .other }),
    (367, { agg := false, ck := [.fn], bytes := 8, td := .other }),
    (368, { agg := false, ck := [.fn], bytes := 8, td := .other }),
    (369, { agg := false, ck := [.fn], bytes := 8, td := .other }),
    (370, { agg := false, ck := [.fn], bytes := 8, td := .other }),
    (372, { agg := false, ck := [.fn], bytes := 8, td := .other }),
    (373, { agg := false, ck := [.fn], bytes := 8, td := .other }),
    (374, { agg := false, ck := [.fn], bytes := 8, td := .other }),
    (375, { agg := false, ck := [.fn], bytes := 8, td := .other }),
    (376, { agg := false, ck := [.fn], bytes := 8, td := .other }),
    (377, { agg := false, ck := [.fn], bytes := 8, td := .other }),
    (378, { agg := false, ck := [.fn], bytes := 8, td := .other }),
    (379, { agg := false, ck := [.fn], bytes := 8, td := .other }),
    (380, { agg := true, ck := [.ptr, .ptr, .ptr, .str], bytes := 40, td := .struct [(0, 17), (1, 17), (2, 17), (3, 9)] }),
    (381, { agg := true, ck := [.ptr, .ptr, .ptr, .str], bytes := 40, td := .struct [(0, 17), (1, 17), (2, 17), (3, 9)] }),
    (385, { agg := false, ck := [.int .u8], bytes := 1, td := .plain }),
    (386, { agg := false, ck := [.int .u8], bytes := 1, td := .plain }),
    (387, { agg := false, ck := [.fn], bytes := 8, td := .other }),
    (388, { agg := false, ck := [.int .i32], bytes := 4, td := .plain }),
    (389, { agg := false, ck := [.int .i32], bytes := 4, td := .plain }),
    (390, { agg := true, ck := [.int .u64, .int .u64, .int .u32, .int .u8, .int .u8, .int .u8, .int .u8, .fn, .ptr, .int .i32, .int .i32], bytes := 48, td := .struct [(0, 12), (1, 12), (2, 327), (3, 385), (4, 5), (5, 5), (6, 386), (7, 387), (8, 238), (9, 388), (10, 389)] }),
    (391, { agg := true, ck := [.int .u64, .int .u64, .int .u32, .int .u8, .int .u8, .int .u8, .int .u8, .fn, .ptr, .int .i32, .int .i32], bytes := 48, td := .struct [(0, 12), (1, 12), (2, 327), (3, 385), (4, 5), (5, 5), (6, 386), (7, 387), (8, 238), (9, 388), (10, 389)] })]
def E_0 : Env := { te := te_0 }
/-- colonnade/colonnadelaw18.PlanOver -/
def fi3 : Fi := { keep := [3, 4, 6, 7, 8, 9, 10, 11, 12, 13, 14], sc := [], lp := [] }
/-- colonnade/plan.AggType -/
def fi5 : Fi := { keep := [2, 4, 5, 6, 7, 8, 36, 39, 50, 55, 60], sc := [], lp := [] }
/-- colonnade/colonnaderef18.AggType -/
def fi6 : Fi := { keep := [2, 4, 5, 6, 7, 8, 37, 43, 55, 65, 69], sc := [], lp := [] }
/-- colonnade/plan.WinType -/
def fi7 : Fi := { keep := [2, 4, 5, 6, 7, 8, 9, 10, 30, 102, 107, 119], sc := [(2, (.q 0 (.q 1 (.q 2 (.q 3 (.q 4 (.q 5 (.q 6 (.q 7 (.q 8 (.q 9 (.q 10 (.q 11 (.q 12 (.q 13 (.q 14 (.q 15 (.q 16 (.q 17 .done)))))))))))))))))))], lp := [] }
/-- colonnade/colonnaderef18.WinType -/
def fi8 : Fi := { keep := [2, 4, 5, 6, 7, 8, 9, 10, 13, 29, 42, 57, 66], sc := [(4, (.q 0 (.q 1 (.q 2 (.q 4 (.q 5 (.one 3 [2, 1, 0] (.one 6 [5, 4] (.q 7 .done)))))))))], lp := [(7, ([1, 2, 4, 5, 6, 7, 8], [9, 38]))] }
/-- colonnade/colonnadelaw18.begun -/
def fi9 : Fi := { keep := [0, 1, 2, 3, 5, 6, 7, 8], sc := [], lp := [] }
/-- colonnade/plan.whole -/
def fi13 : Fi := { keep := [0], sc := [], lp := [] }
/-- colonnade/expr.Check -/
def fi14 : Fi := { keep := [2, 4, 5, 6, 7, 26, 35], sc := [], lp := [] }
/-- colonnade/plan.number -/
def fi15 : Fi := { keep := [1, 2], sc := [], lp := [] }
/-- colonnade/colonnaderef14.Check -/
def fi16 : Fi := { keep := [2, 4, 5, 6, 7, 8, 12, 20, 36, 45], sc := [], lp := [(2, ([1, 2, 4, 5, 6], [19]))] }
/-- colonnade/colonnaderef18.number -/
def fi17 : Fi := { keep := [1, 2], sc := [], lp := [] }
/-- colonnade/plan.framed -/
def fi18 : Fi := { keep := [2, 5, 22], sc := [], lp := [] }
/-- colonnade/plan.checks -/
def fi19 : Fi := { keep := [4, 5, 6, 8, 9, 10, 11, 12, 13, 14, 24], sc := [], lp := [(3, ([1, 4, 5, 6, 11, 12, 13], [8, 9, 20, 28, 29]))] }
/-- slices.Concat[[]colonnade/api.Expr,colonnade/api.Expr] -/
def fi20 : Fi := { keep := [2, 3, 5, 6, 8, 9, 10, 11, 12, 20, 25, 26, 27, 28], sc := [], lp := [(3, ([0, 2, 3, 9, 10, 11], [])), (11, ([2, 6, 25, 26, 27], [33]))] }
/-- colonnade/colonnaderef18.mayWin -/
def fi21 : Fi := { keep := [1, 2, 3, 4, 5, 6, 30, 38], sc := [], lp := [] }
/-- colonnade/colonnaderef17.Parse -/
def fi22 : Fi := { keep := [2, 3, 4, 5, 6, 7, 8, 16, 28], sc := [(7, (.q 0 (.q 1 (.q 2 (.q 3 (.q 4 (.q 5 (.q 6 (.q 7 (.q 8 (.one 9 [0] (.q 10 (.q 11 .done)))))))))))))], lp := [] }
/-- colonnade/plan.Bind -/
def fi23 : Fi := { keep := [2, 4, 5, 6, 7, 8, 9, 11, 12, 14, 23, 33, 35, 36, 37, 38], sc := [], lp := [(9, ([4, 5, 6, 7, 12, 35, 36, 37], [14, 44, 45]))] }
/-- slices.Equal[[]string,string] -/
def fi24 : Fi := { keep := [4, 5, 10, 12, 13, 14, 24], sc := [(6, (.q 0 (.q 1 (.q 2 (.q 3 (.q 4 (.q 5 (.q 6 (.q 7 (.q 8 .done))))))))))], lp := [(4, ([0, 1, 4, 12, 13], []))] }
/-- colonnade/plan.Show -/
def fi25 : Fi := { keep := [1, 2, 3, 4, 5, 6, 8, 10, 12, 21, 29, 40, 45, 46, 47, 48, 61, 80, 81, 82, 83, 93, 94, 95, 96, 112, 120, 121, 122, 123], sc := [(2, (.q 0 (.q 1 (.q 2 (.one 3 [2, 1, 0] (.one 4 [] (.q 5 .done)))))))], lp := [(10, ([1, 2, 4, 45, 46, 47], [6, 54, 55, 56, 68, 69, 70])), (18, ([1, 2, 4, 80, 81, 82], [8, 88, 89, 90])), (23, ([1, 2, 4, 93, 94, 95], [10, 101, 102, 103])), (30, ([2, 4, 120, 121, 122], [12, 128, 129, 130]))] }
/-- colonnade/colonnaderef14.Common -/
def fi34 : Fi := { keep := [2, 3, 4, 5, 6, 7, 11, 40], sc := [(7, (.q 0 (.q 1 (.q 2 (.q 3 (.q 4 (.q 5 (.q 6 (.q 7 (.q 8 (.q 9 (.q 10 (.q 11 .done)))))))))))))], lp := [(5, ([0, 2, 3, 4, 5, 6, 7], [31]))] }
/-- slices.ContainsFunc[[]colonnade/api.Type,colonnade/api.Type] -/
def fi38 : Fi := { keep := [4], sc := [], lp := [] }
/-- colonnade/expr.Check$1 -/
def fi39 : Fi := { keep := [1, 2], sc := [], lp := [] }
/-- colonnade/value.CheckType -/
def fi40 : Fi := { keep := [1, 2, 26], sc := [], lp := [] }
/-- colonnade/expr.Nodes -/
def fi41 : Fi := { keep := [1, 2, 3, 5, 7, 8, 9, 10], sc := [], lp := [(3, ([2, 3, 7, 8, 9], [5, 15]))] }
/-- colonnade/expr.deep -/
def fi42 : Fi := { keep := [1, 2, 3, 5, 7, 8, 9, 10], sc := [], lp := [(3, ([2, 3, 7, 8, 9], [5, 15]))] }
/-- colonnade/expr.may -/
def fi43 : Fi := { keep := [2, 3, 4, 5, 6, 7, 8, 9, 25, 26, 39, 47, 59, 67, 74, 83, 87], sc := [(2, (.q 0 (.q 1 (.q 2 (.q 3 (.q 4 (.q 5 (.q 6 (.q 7 (.q 8 (.q 9 (.q 10 (.q 11 (.q 12 (.q 13 .done)))))))))))))))], lp := [] }
/-- colonnade/expr.typed -/
def fi44 : Fi := { keep := [2, 4, 5, 6, 8, 9, 10, 11, 12, 13, 14, 15, 16, 17, 18, 20, 21, 22, 23, 33, 44, 45, 52, 57, 67, 74, 77, 82, 87, 119, 138], sc := [(18, (.q 0 (.q 1 (.q 2 (.q 3 (.q 4 (.q 5 (.q 6 (.one 7 [6, 5, 4, 3, 2, 1] (.one 8 [0] (.q 9 .done))))))))))), (22, (.q 0 (.q 1 (.one 2 [1] (.one 3 [0] (.q 4 .done)))))), (28, (.q 0 (.q 1 (.one 2 [1] (.one 3 [0] (.q 4 .done)))))), (30, (.q 0 (.q 1 (.q 2 (.q 3 (.q 4 (.q 5 (.one 6 [] (.q 7 (.one 8 [7, 5, 4, 3, 2, 1, 0] .done)))))))))), (31, (.q 0 (.q 1 (.q 2 (.q 3 (.q 4 (.q 5 (.q 6 (.q 7 (.q 8 (.q 9 (.q 10 (.q 11 (.q 12 (.q 13 (.q 14 (.q 15 (.q 16 (.one 17 [16, 15, 14, 13, 12, 11, 10, 9, 8, 7, 6, 5, 4, 3, 2] (.q 18 (.q 19 (.q 20 (.one 21 [20, 19, 18] (.q 22 (.q 23 (.one 24 [1, 0] (.q 25 .done))))))))))))))))))))))))))), (38, (.q 0 (.q 1 (.q 2 (.q 3 (.q 4 (.q 5 (.q 6 (.q 7 (.q 8 (.q 9 .done))))))))))), (40, (.q 0 (.q 1 (.q 2 (.q 3 (.one 4 [3] (.one 5 [2, 1, 0] (.q 6 (.q 7 (.one 8 [7, 6] (.q 9 .done)))))))))))], lp := [(3, ([1, 2, 4, 5, 6, 20, 21, 22], [8, 9, 29, 37, 38])), (36, ([2, 4, 5, 6, 11, 13, 16, 17, 18], []))] }
/-- colonnade/colonnaderef02.CheckType -/
def fi45 : Fi := { keep := [1, 2, 30], sc := [], lp := [] }
/-- colonnade/colonnaderef14.Nodes -/
def fi46 : Fi := { keep := [1, 2, 3, 4, 9], sc := [], lp := [(3, ([1, 2, 3, 4], [18]))] }
/-- colonnade/colonnaderef14.depth -/
def fi47 : Fi := { keep := [1, 2, 3, 4, 9], sc := [], lp := [(3, ([1, 2, 3, 4], [18]))] }
/-- colonnade/colonnaderef14.form -/
def fi48 : Fi := { keep := [2, 4, 5, 6, 7, 20, 21, 38, 50, 66, 100, 105, 115], sc := [], lp := [(19, ([1, 2, 4, 7], [114]))] }
/-- colonnade/colonnaderef14.typed -/
def fi49 : Fi := { keep := [2, 4, 5, 6, 7, 8, 9, 14, 28, 35, 36, 43, 48, 58, 65, 68, 76, 87, 92], sc := [(15, (.q 1 (.q 2 (.q 3 (.q 4 (.q 5 (.q 6 (.one 0 [] (.one 7 [6, 5, 4, 3, 2, 1] (.one 8 [] (.q 9 .done))))))))))), (26, (.q 0 (.q 1 (.q 2 (.q 3 (.q 4 (.q 5 (.q 6 (.q 7 (.one 8 [7, 6, 5, 4, 3, 2] (.one 9 [1, 0] (.q 10 .done))))))))))))], lp := [(3, ([1, 2, 4, 5, 6, 7], [8, 24, 32, 33]))] }
/-- slices.ContainsFunc[[]colonnade/api.Bound,colonnade/api.Bound] -/
def fi50 : Fi := { keep := [4], sc := [], lp := [] }
/-- colonnade/plan.framed$1 -/
def fi51 : Fi := { keep := [1, 2], sc := [], lp := [] }
/-- colonnade/colonnaderef18.frame -/
def fi53 : Fi := { keep := [2, 3, 4, 5, 9, 63], sc := [], lp := [(2, ([0, 2, 3], [4]))] }
/-- colonnade/colonnaderef17.begin -/
def fi54 : Fi := { keep := [2, 3, 4, 5, 6, 7, 15, 20], sc := [], lp := [] }
/-- (*colonnade/colonnaderef17.parser).stmt -/
def fi55 : Fi := { keep := [2, 3, 4, 5, 10, 18, 25, 35, 45, 61, 74, 90], sc := [], lp := [(4, ([0, 2, 3, 4, 5], [18]))] }
/-- (*colonnade/colonnaderef17.parser).ends -/
def fi56 : Fi := { keep := [11], sc := [(0, (.q 0 (.q 1 (.q 2 (.q 3 (.q 4 (.q 5 (.q 6 (.q 7 (.q 8 (.q 9 .done)))))))))))], lp := [] }
/-- colonnade/plan.question -/
def fi57 : Fi := { keep := [2, 4, 5, 6, 7, 8, 10, 11, 12, 13, 14, 15, 17, 18, 20, 22, 23, 24, 25, 30, 40, 53, 62, 65, 68, 84, 96, 97, 98, 99, 111], sc := [(20, (.q 0 (.q 1 (.q 2 (.q 3 (.q 4 (.q 5 (.one 6 [2, 1, 0] (.q 7 .done))))))))), (31, (.q 0 (.q 1 (.q 2 (.q 5 (.q 6 (.q 7 (.q 8 (.alt 3 [2] (.alt 4 [1, 0] (.q 11 (.one 9 [8, 7] (.one 10 [6, 5] (.one 12 [11] (.q 13 (.one 14 [13] .done)))))) (.one 9 [8, 7] (.one 4 [1, 0] (.q 11 (.one 10 [6, 5] (.one 12 [11] (.q 13 (.one 14 [13] .done)))))))) (.one 9 [8, 7] (.one 3 [2] (.one 4 [1, 0] (.q 11 (.one 10 [6, 5] (.one 12 [11] (.q 13 (.one 14 [13] .done)))))))))))))))))], lp := [(4, ([1, 2, 4, 5, 6, 7, 8, 22, 23, 24], [10, 11, 29, 35, 45, 46, 49, 50])), (26, ([4, 5, 6, 14, 15, 96, 97, 98], [17, 18, 19, 106, 117, 118, 123, 124]))] }
/-- colonnade/plan.Check -/
def fi58 : Fi := { keep := [2, 4, 5, 13], sc := [], lp := [] }
/-- colonnade/plan.word -/
def fi59 : Fi := { keep := [4, 12], sc := [], lp := [] }
/-- colonnade/expr.Show -/
def fi60 : Fi := { keep := [1, 2, 3, 5, 7, 8, 14, 23, 24, 25, 26], sc := [], lp := [(8, ([2, 3, 23, 24, 25], [5, 31, 32, 33]))] }
/-- colonnade/plan.shown -/
def fi61 : Fi := { keep := [4, 5, 6, 7, 8, 9, 10, 11, 29], sc := [], lp := [(3, ([1, 4, 5, 8, 9, 10], [7, 17, 18, 19, 31, 32]))] }
/-- colonnade/plan.agg -/
def fi62 : Fi := { keep := [1, 2, 3, 10], sc := [], lp := [] }
/-- colonnade/num.FormatInt -/
def fi64 : Fi := { keep := [2], sc := [], lp := [] }
/-- colonnade/colonnaderef14.number -/
def fi69 : Fi := { keep := [1, 2], sc := [], lp := [] }
/-- slices.IndexFunc[[]colonnade/api.Type,colonnade/api.Type] -/
def fi70 : Fi := { keep := [4, 5, 7, 8, 9, 16], sc := [], lp := [(2, ([0, 1, 4, 7, 8], [16]))] }
/-- colonnade/value.scaled -/
def fi71 : Fi := { keep := [2], sc := [], lp := [] }
/-- colonnade/value.Check -/
def fi72 : Fi := { keep := [1, 2, 3, 4, 5, 10, 18, 27, 41, 50, 64, 77], sc := [], lp := [] }
/-- slices.ContainsFunc[[]colonnade/api.Expr,colonnade/api.Expr] -/
def fi73 : Fi := { keep := [4], sc := [], lp := [] }
/-- colonnade/expr.may$1 -/
def fi74 : Fi := { keep := [2, 3], sc := [], lp := [] }
/-- colonnade/expr.typed$1 -/
def fi75 : Fi := { keep := [2, 3], sc := [], lp := [] }
/-- colonnade/expr.typed$1$1 -/
def fi76 : Fi := { keep := [2, 3], sc := [], lp := [] }
/-- colonnade/value.Alike -/
def fi77 : Fi := { keep := [2, 3, 4], sc := [(1, (.q 0 (.q 1 (.q 2 (.q 3 (.q 4 (.q 5 (.q 6 (.q 7 (.q 8 (.q 9 (.q 10 (.q 12 (.q 13 (.one 11 [10, 9, 8, 7, 6, 5, 4, 3, 2, 1, 0] (.one 14 [13, 12] (.q 15 (.q 16 (.q 17 .done)))))))))))))))))))], lp := [] }
/-- colonnade/expr.number -/
def fi78 : Fi := { keep := [1, 2], sc := [], lp := [] }
/-- colonnade/expr.common -/
def fi79 : Fi := { keep := [2, 3, 4, 5, 7, 12, 13, 14, 15, 18, 22], sc := [], lp := [(4, ([2, 3, 4, 5, 12, 13, 14], [7, 24, 27]))] }
/-- colonnade/expr.results -/
def fi80 : Fi := { keep := [2, 4, 5, 6, 9, 14], sc := [], lp := [(5, ([1, 4, 5, 6], [22, 23]))] }
/-- colonnade/expr.arith -/
def fi81 : Fi := { keep := [6, 7, 8, 9, 10, 11, 23, 26, 34, 40, 63, 76, 80], sc := [(1, (.q 0 (.q 1 (.q 2 (.q 3 (.q 4 (.q 5 (.q 6 (.q 7 (.q 8 (.alt 9 [] (.one 10 [] (.one 11 [2, 1, 0] (.one 12 [8, 7, 6, 5, 4, 3] .done))) (.one 10 [] (.one 9 [] (.one 11 [2, 1, 0] (.one 12 [8, 7, 6, 5, 4, 3] .done))))))))))))))), (8, (.q 0 (.q 1 (.one 2 [1] (.one 3 [0] (.q 4 .done)))))), (10, (.q 0 (.q 1 (.q 2 (.q 3 (.q 4 (.q 5 (.q 6 (.q 7 (.q 8 (.q 9 (.q 10 (.q 11 (.one 12 [5, 4, 3, 2, 1, 0] (.q 13 .done))))))))))))))), (17, (.q 0 (.q 1 (.q 2 (.q 3 (.q 4 (.q 5 (.q 6 (.q 7 (.q 8 (.q 9 (.q 10 (.q 11 (.q 12 (.q 13 (.q 14 (.q 15 (.q 16 (.q 17 (.q 18 (.q 19 (.q 20 (.q 21 (.q 22 (.one 23 [17, 16, 15, 14, 13, 12, 11, 10, 9, 8, 7, 6, 5, 4, 3, 2, 1, 0] (.q 24 .done))))))))))))))))))))))))))], lp := [] }
/-- colonnade/colonnaderef14.arity -/
def fi82 : Fi := { keep := [4, 5, 6, 11, 19, 28], sc := [], lp := [] }
/-- colonnade/colonnaderef02.Check -/
def fi83 : Fi := { keep := [1, 2, 3, 4, 5, 10, 15, 26, 38, 42, 53, 60, 71], sc := [], lp := [] }
/-- colonnade/colonnaderef14.kind -/
def fi84 : Fi := { keep := [2], sc := [], lp := [] }
/-- colonnade/colonnaderef02.Alike -/
def fi85 : Fi := { keep := [2, 3, 4], sc := [(1, (.q 0 (.q 1 (.q 3 (.q 4 (.one 2 [1, 0] (.one 5 [4, 3] (.q 6 (.q 7 (.q 8 (.q 9 (.q 10 (.q 11 (.q 12 (.q 13 (.q 14 (.q 15 (.q 16 (.q 17 .done)))))))))))))))))))], lp := [] }
/-- colonnade/colonnaderef14.all -/
def fi86 : Fi := { keep := [4, 5, 9, 18], sc := [], lp := [(2, ([0, 1, 4, 5], []))] }
/-- colonnade/colonnaderef14.result -/
def fi87 : Fi := { keep := [2, 4, 5, 6, 7, 8, 9, 10, 11, 20, 47], sc := [], lp := [(4, ([1, 2, 4, 5, 6, 7, 8], [31, 32])), (9, ([1, 2, 4, 5, 9, 10, 11], []))] }
/-- colonnade/colonnaderef14.way -/
def fi88 : Fi := { keep := [2, 4], sc := [], lp := [] }
/-- colonnade/colonnaderef14.arith -/
def fi89 : Fi := { keep := [4, 5, 6, 7, 8, 9, 33, 34, 39, 43, 45, 62, 64, 82], sc := [(14, (.q 0 (.q 1 (.q 2 (.q 3 (.q 4 (.q 5 (.q 6 (.q 7 (.q 8 (.q 9 (.q 10 (.q 11 (.q 12 (.q 13 (.q 14 (.one 15 [7, 6, 5, 4, 3, 2, 1, 0] (.q 16 .done)))))))))))))))))), (21, (.q 1 (.q 2 (.q 3 (.one 0 [] (.q 4 (.q 5 (.q 6 (.q 7 (.q 8 (.q 9 (.q 10 (.q 11 (.q 12 (.q 13 (.q 14 (.q 15 (.q 16 (.q 17 (.q 18 (.q 19 (.q 20 (.q 21 (.q 22 (.one 23 [17, 16, 15, 14, 13, 12, 11, 10, 9, 8, 7, 6, 5, 4, 3, 2, 1] (.q 24 .done))))))))))))))))))))))))))], lp := [] }
/-- slices.IndexFunc[[]colonnade/api.Bound,colonnade/api.Bound] -/
def fi90 : Fi := { keep := [4, 5, 7, 8, 9, 16], sc := [], lp := [(2, ([0, 1, 4, 7, 8], [16]))] }
/-- colonnade/colonnaderef16.Tokens -/
def fi91 : Fi := { keep := [2, 3, 4, 5, 6, 7, 10, 18], sc := [], lp := [] }
/-- (*colonnade/colonnaderef17.parser).has -/
def fi92 : Fi := { keep := [4, 7], sc := [], lp := [] }
/-- (*colonnade/colonnaderef17.parser).must -/
def fi93 : Fi := { keep := [4, 8, 17], sc := [], lp := [(1, ([0, 1, 4], [16, 19]))] }
/-- (*colonnade/colonnaderef17.parser).name -/
def fi95 : Fi := { keep := [2, 3, 13], sc := [], lp := [] }
/-- (*colonnade/colonnaderef17.parser).one -/
def fi97 : Fi := { keep := [4, 7], sc := [], lp := [] }
/-- (*colonnade/colonnaderef17.parser).is -/
def fi99 : Fi := { keep := [4, 5], sc := [], lp := [] }
/-- (*colonnade/colonnaderef17.parser).question -/
def fi100 : Fi := { keep := [2, 3, 9, 21, 29], sc := [(4, (.q 0 (.q 1 (.q 2 (.one 3 [2] (.one 4 [] (.one 5 [1, 0] (.q 6 (.one 7 [6] .done)))))))))], lp := [(2, ([0, 2, 3], [9, 11, 12, 16, 17, 18]))] }
/-- colonnade/plan.entire -/
def fi102 : Fi := { keep := [1, 2], sc := [], lp := [] }
/-- colonnade/plan.core -/
def fi103 : Fi := { keep := [2, 4, 5, 6, 7, 8, 9, 10, 19, 33, 50, 67, 79, 91], sc := [(9, (.q 0 (.q 1 (.q 2 (.q 3 (.q 5 (.q 6 (.one 4 [3] (.one 7 [6, 5] (.one 8 [] (.one 9 [] (.one 10 [2, 1, 0] (.q 11 (.q 12 (.q 13 (.q 14 (.one 15 [12, 11] (.q 16 (.q 17 .done)))))))))))))))))))], lp := [] }
/-- colonnade/plan.plain -/
def fi105 : Fi := { keep := [2, 3, 5, 9, 10, 11, 12], sc := [(5, (.q 0 (.q 1 (.q 2 (.q 3 (.q 4 (.q 5 (.q 6 (.one 7 [6, 5] (.one 8 [4, 3, 2, 1] (.q 9 (.q 10 (.one 11 [10, 9, 0] .done)))))))))))))], lp := [(3, ([2, 3, 9, 10, 11], [5, 22, 23]))] }
/-- (*colonnade/plan.scope).term -/
def fi106 : Fi := { keep := [3, 4, 5, 6, 7, 8, 9, 17, 31], sc := [(4, (.q 0 (.q 1 (.q 2 (.q 3 (.q 4 (.alt 5 [4, 3, 2, 1, 0] (.q 6 (.q 7 (.q 8 (.one 9 [] (.one 10 [7, 6] (.q 11 .done)))))) (.one 9 [] (.one 5 [4, 3, 2, 1, 0] (.q 6 (.q 7 (.q 8 (.one 10 [7, 6] (.q 11 .done)))))))))))))), (7, (.q 0 (.q 1 (.one 2 [0] (.one 3 [1] (.q 4 .done))))))], lp := [] }
/-- colonnade/plan.Nodes -/
def fi107 : Fi := { keep := [1, 2, 3, 5, 7, 8, 9, 10], sc := [], lp := [(3, ([2, 3, 7, 8, 9], [5, 15]))] }
/-- colonnade/plan.may -/
def fi108 : Fi := { keep := [1, 2, 3, 4, 5, 6, 21, 22, 29, 39, 49, 88, 105, 117, 141, 143], sc := [(2, (.q 0 (.q 1 (.q 2 (.q 3 (.q 4 (.q 5 (.q 6 (.q 7 .done))))))))), (13, (.q 0 (.q 1 (.q 2 (.q 3 (.q 4 (.q 5 (.q 6 (.q 7 (.q 8 (.one 9 [8, 1, 0] (.q 10 (.one 11 [10, 3, 2] (.q 12 (.one 13 [12, 5, 4] (.q 14 (.one 15 [14, 7, 6] .done))))))))))))))))), (16, (.q 0 (.q 1 (.q 2 (.q 3 (.q 4 (.q 5 (.q 6 (.q 7 (.q 8 (.q 9 (.q 10 (.q 11 (.q 12 (.q 13 (.one 14 [13, 5, 4, 1, 0] (.q 15 (.one 16 [15, 3, 2] (.q 17 .done))))))))))))))))))), (18, (.q 0 (.q 1 (.q 2 (.q 3 (.q 4 (.q 5 (.q 6 (.q 7 (.q 8 (.q 9 (.one 10 [9, 3, 2, 1, 0] (.q 11 .done))))))))))))), (20, (.q 0 (.q 1 (.q 2 (.q 3 (.q 4 (.q 5 (.q 6 (.q 7 (.q 8 (.q 9 (.q 10 (.q 11 (.q 12 (.q 13 (.q 14 (.q 15 (.q 16 (.q 17 (.q 18 (.q 19 (.one 20 [19, 14, 13, 12, 11, 10, 9, 8, 7, 6, 1, 0] (.q 21 (.one 22 [21, 3, 2] (.q 23 (.one 24 [23, 5, 4] (.q 25 .done)))))))))))))))))))))))))))], lp := [] }
/-- colonnade/plan.columns -/
def fi109 : Fi := { keep := [2, 4, 5, 6, 8, 9, 10, 11, 12, 14, 15, 16, 17, 27, 52, 54], sc := [], lp := [(3, ([1, 2, 4, 5, 6, 14, 15, 16], [8, 23, 31, 32]))] }
/-- colonnade/value.Show -/
def fi110 : Fi := { keep := [1, 2, 3, 4, 8, 11, 21, 26, 36, 50, 61, 67], sc := [], lp := [] }
/-- colonnade/expr.word -/
def fi111 : Fi := { keep := [1, 2, 3, 4, 5, 8, 26, 38, 46, 60], sc := [], lp := [] }
/-- colonnade/num.Fits -/
def fi120 : Fi := { keep := [2], sc := [], lp := [] }
/-- slices.IndexFunc[[]colonnade/api.Expr,colonnade/api.Expr] -/
def fi121 : Fi := { keep := [4, 5, 7, 8, 9, 16], sc := [], lp := [(2, ([0, 1, 4, 7, 8], [16]))] }
/-- colonnade/value.family -/
def fi122 : Fi := { keep := [2, 4], sc := [], lp := [] }
/-- colonnade/colonnaderef01.Fits -/
def fi123 : Fi := { keep := [2], sc := [], lp := [] }
/-- colonnade/colonnaderef02.family -/
def fi124 : Fi := { keep := [2, 4], sc := [], lp := [] }
/-- colonnade/colonnaderef14.Results -/
def fi125 : Fi := { keep := [4, 5, 6, 9, 24], sc := [], lp := [(3, ([0, 1, 4, 5, 6], [27, 28]))] }
/-- colonnade/colonnaderef16.Known -/
def fi126 : Fi := { keep := [2, 3, 4, 5, 6, 7, 8, 9, 15, 24], sc := [], lp := [(3, ([0, 2, 3, 4, 5, 6], [7, 19, 29, 30, 33]))] }
/-- (*colonnade/colonnaderef17.parser).here -/
def fi128 : Fi := { keep := [2, 19], sc := [(1, (.q 0 (.q 1 (.q 2 (.q 3 (.q 4 (.q 5 (.q 6 (.q 7 (.q 8 (.q 9 (.q 10 (.q 11 (.q 12 (.q 13 (.q 14 (.q 15 (.q 16 .done)))))))))))))))))), (3, (.q 0 (.q 1 (.q 2 (.q 3 (.q 4 (.q 5 (.q 6 (.q 7 (.q 8 (.q 9 (.one 10 [9, 8, 7, 6, 5, 4, 3, 2, 1, 0] .done))))))))))))], lp := [] }
/-- colonnade/colonnaderef17.Reserved -/
def fi129 : Fi := { keep := [2, 3, 4, 9, 17], sc := [], lp := [(3, ([0, 2, 3, 4], []))] }
/-- (*colonnade/colonnaderef17.parser).list -/
def fi130 : Fi := { keep := [4, 5, 11], sc := [], lp := [(2, ([0, 1, 4, 5], [11, 15, 16, 17]))] }
/-- (*colonnade/colonnaderef17.parser).term -/
def fi131 : Fi := { keep := [4, 5, 8, 14], sc := [(5, (.q 0 (.q 1 (.q 2 (.one 3 [2, 1] (.one 4 [0] (.one 5 [] .done)))))))], lp := [(4, ([0, 1, 4, 5], [14, 18, 19]))] }
/-- (*colonnade/colonnaderef17.parser).core -/
def fi132 : Fi := { keep := [2, 3, 4, 5, 17, 38, 62], sc := [(6, (.q 0 (.q 1 (.q 2 (.one 3 [2] (.one 4 [] (.one 5 [1, 0] (.q 6 (.one 7 [6] .done)))))))))], lp := [(5, ([0, 2, 3], [17, 21, 22, 23])), (9, ([0, 2, 3], [5, 36, 41, 43, 46, 47, 49, 50, 55, 56]))] }
/-- (*colonnade/colonnaderef17.parser).whole -/
def fi134 : Fi := { keep := [4, 5, 6, 7, 27], sc := [], lp := [] }
/-- slices.ContainsFunc[[]colonnade/api.From,colonnade/api.From] -/
def fi135 : Fi := { keep := [4], sc := [], lp := [] }
/-- colonnade/plan.from -/
def fi137 : Fi := { keep := [2, 4, 5, 6, 7, 8, 9, 10, 11, 12, 13, 14, 15, 16, 17, 20, 21, 22, 23, 35, 40, 45, 56, 73, 111], sc := [(19, (.q 0 (.q 2 (.q 3 (.q 4 (.alt 1 [0] (.alt 5 [4, 3, 2] (.q 6 (.q 7 (.q 8 (.one 9 [] (.one 10 [7, 6] (.q 11 .done)))))) (.one 9 [] (.one 5 [4, 3, 2] (.q 6 (.q 7 (.q 8 (.one 10 [7, 6] (.q 11 .done)))))))) (.one 9 [] (.one 1 [0] (.one 5 [4, 3, 2] (.q 6 (.q 7 (.q 8 (.one 10 [7, 6] (.q 11 .done)))))))))))))), (23, (.q 0 (.q 1 (.q 2 (.q 3 (.q 4 (.q 9 (.one 5 [4] (.q 6 (.q 7 (.q 8 (.one 10 [9] (.q 11 (.q 12 (.q 13 (.one 14 [13, 12, 11, 8, 7, 6, 3, 2, 1, 0] (.q 15 (.q 16 (.q 17 (.q 18 (.q 19 (.one 20 [19, 16, 15] (.q 21 (.one 22 [21, 17] (.q 23 (.one 24 [23, 18] .done))))))))))))))))))))))))))], lp := [(3, ([1, 4, 5, 6, 7, 20, 21, 22], [9, 10, 14, 16, 31, 51, 61, 62, 65, 69, 80, 88, 93, 97]))] }
/-- (*colonnade/plan.scope).filter -/
def fi138 : Fi := { keep := [4, 6, 7, 8, 9, 10, 13, 30], sc := [], lp := [] }
/-- colonnade/plan.once -/
def fi139 : Fi := { keep := [4, 5, 7, 8, 9, 10, 11], sc := [], lp := [(3, ([1, 4, 5, 8, 9, 10], [7, 17]))] }
/-- colonnade/plan.asked -/
def fi140 : Fi := { keep := [1, 2, 3, 5, 7, 8, 9, 10, 15], sc := [], lp := [(3, ([2, 3, 7, 8, 9], [5, 19, 20]))] }
/-- (*colonnade/plan.scope).group -/
def fi141 : Fi := { keep := [5, 6, 8, 9, 10, 11, 12, 14, 15, 16, 17, 19, 20, 21, 22, 23, 34, 35, 36, 37, 48, 62, 63, 64, 65, 76, 95], sc := [(19, (.q 0 (.q 1 (.q 2 (.q 3 (.q 4 (.alt 5 [4, 3, 2, 1, 0] (.q 6 (.q 7 (.q 8 (.one 9 [] (.one 10 [7, 6] (.q 11 .done)))))) (.one 9 [] (.one 5 [4, 3, 2, 1, 0] (.q 6 (.q 7 (.q 8 (.one 10 [7, 6] (.q 11 .done))))))))))))))], lp := [(4, ([0, 3, 8, 9, 10, 11, 12, 34, 35, 36], [14, 15, 16, 43, 54, 55, 60])), (13, ([0, 8, 9, 10, 11, 12, 62, 63, 64], [19, 22, 23, 72, 91, 101, 102, 107]))] }
/-- slices.Concat[[]colonnade/api.Term,colonnade/api.Term] -/
def fi142 : Fi := { keep := [2, 3, 5, 6, 8, 9, 10, 11, 12, 20, 25, 26, 27, 28], sc := [], lp := [(3, ([0, 2, 3, 9, 10, 11], [])), (11, ([2, 6, 25, 26, 27], [33]))] }
/-- (*colonnade/plan.scope).windows -/
def fi143 : Fi := { keep := [4, 5, 6, 7, 8, 9, 10, 11, 13, 14, 15, 16, 22, 30, 31, 32, 33, 44], sc := [(4, (.q 0 (.q 3 (.alt 1 [0] (.q 2 (.alt 4 [3] (.one 5 [] (.one 6 [2] (.q 7 .done))) (.one 5 [] (.one 4 [3] (.one 6 [2] (.q 7 .done)))))) (.alt 4 [3] (.alt 1 [0] (.q 2 (.one 5 [] (.one 6 [2] (.q 7 .done)))) (.one 5 [] (.one 1 [0] (.q 2 (.one 6 [2] (.q 7 .done)))))) (.one 5 [] (.alt 1 [0] (.q 2 (.one 4 [3] (.one 6 [2] (.q 7 .done)))) (.one 4 [3] (.one 1 [0] (.q 2 (.one 6 [2] (.q 7 .done))))))))))))], lp := [(6, ([0, 6, 7, 8, 10, 11, 30, 31, 32], [13, 14, 15, 39, 50, 51, 56]))] }
/-- (*colonnade/plan.scope).project -/
def fi144 : Fi := { keep := [4, 5, 6, 7, 8, 9, 10, 12, 13, 14, 15, 16, 17, 18, 23, 24, 25, 26, 30, 34, 39, 40, 41, 42, 71, 83, 102, 105], sc := [(12, (.q 0 (.q 1 (.q 2 (.q 3 (.q 6 (.q 7 (.q 8 (.q 9 (.q 10 (.q 11 (.alt 4 [3, 2] (.alt 5 [1, 0] (.q 14 (.one 12 [11, 10, 9, 8, 7] (.one 13 [6] (.one 15 [14] (.q 16 .done))))) (.one 12 [11, 10, 9, 8, 7] (.one 5 [1, 0] (.q 14 (.one 13 [6] (.one 15 [14] (.q 16 .done))))))) (.one 12 [11, 10, 9, 8, 7] (.one 4 [3, 2] (.one 5 [1, 0] (.q 14 (.one 13 [6] (.one 15 [14] (.q 16 .done))))))))))))))))))), (20, (.q 0 (.q 1 (.q 2 (.q 5 (.q 6 (.q 7 (.q 8 (.alt 3 [2] (.alt 4 [1, 0] (.q 11 (.one 9 [8, 7, 6] (.one 10 [5] (.one 12 [11] (.q 13 .done))))) (.one 9 [8, 7, 6] (.one 4 [1, 0] (.q 11 (.one 10 [5] (.one 12 [11] (.q 13 .done))))))) (.one 9 [8, 7, 6] (.one 3 [2] (.one 4 [1, 0] (.q 11 (.one 10 [5] (.one 12 [11] (.q 13 .done))))))))))))))))], lp := [(4, ([0, 5, 6, 7, 8, 9, 10, 23, 24, 25], [12, 14, 15, 16, 50, 51, 58, 59, 66, 90, 91, 96, 97])), (10, ([0, 5, 6, 7, 8, 9, 10, 12, 23, 24, 25, 26, 27, 28, 29, 30, 31, 32, 33, 34, 35, 36, 37, 38, 39, 40, 41], [14, 50, 51, 58, 59]))] }
/-- (*colonnade/plan.scope).bind -/
def fi149 : Fi := { keep := [3, 4, 5, 6, 7, 8, 9, 11, 12, 13, 21, 31, 32, 47, 49, 54, 68, 69, 70, 71, 81], sc := [], lp := [(17, ([0, 4, 5, 9, 68, 69, 70], [11, 12, 77, 87, 88]))] }
/-- colonnade/plan.Same -/
def fi150 : Fi := { keep := [2, 3, 4], sc := [], lp := [] }
/-- slices.ContainsFunc[[]colonnade/api.Plan,colonnade/api.Plan] -/
def fi151 : Fi := { keep := [4], sc := [], lp := [] }
/-- colonnade/plan.may$1 -/
def fi152 : Fi := { keep := [1, 2], sc := [], lp := [] }
/-- colonnade/plan.node -/
def fi153 : Fi := { keep := [3, 4, 6, 7, 8, 9, 10, 12, 13, 14, 15, 16, 17, 18, 20, 21, 23, 24, 34, 37, 49, 53, 54, 61, 62, 63, 64, 76, 84, 94, 119, 121, 123, 135, 136, 137, 138, 142], sc := [(8, (.q 0 (.q 1 (.q 2 (.q 3 (.q 4 (.q 5 (.q 6 (.one 7 [6, 5, 4, 3, 2, 1, 0] (.q 8 (.q 9 (.q 10 (.q 11 .done))))))))))))), (17, (.q 0 (.q 1 (.q 2 (.q 3 (.alt 4 [3, 2, 1, 0] (.q 5 (.q 6 (.q 7 (.one 8 [] (.one 9 [6, 5] (.q 10 .done)))))) (.one 8 [] (.one 4 [3, 2, 1, 0] (.q 5 (.q 6 (.q 7 (.one 9 [6, 5] (.q 10 .done))))))))))))), (24, (.q 0 (.q 1 (.q 2 (.q 3 (.q 4 (.one 5 [4, 3, 2, 1, 0] (.q 6 (.q 7 (.q 8 (.q 9 .done))))))))))), (27, (.q 0 (.q 1 (.q 2 (.q 3 (.q 4 (.one 5 [4, 3, 2, 1, 0] (.q 6 (.q 7 (.q 8 (.q 9 (.q 10 .done)))))))))))), (33, (.q 0 (.q 1 (.q 2 (.q 3 (.q 4 (.one 5 [4, 3, 2, 1, 0] (.q 6 (.q 7 (.q 8 (.q 9 (.q 10 .done)))))))))))), (39, (.q 0 (.q 1 (.q 2 (.q 3 (.one 4 [3, 2, 1, 0] (.q 5 (.q 6 (.q 7 (.one 8 [6, 5] (.q 9 .done)))))))))))], lp := [(15, ([4, 6, 7, 10, 61, 62, 63], [12, 13, 72, 80, 81])), (35, ([4, 6, 7, 17, 18, 135, 136, 137], [20, 21, 148, 153, 154]))] }
/-- colonnade/colonnaderef16.pass -/
def fi163 : Fi := { keep := [1, 4, 8, 10, 17, 38], sc := [], lp := [(1, ([0, 1, 4], [14, 26])), (6, ([0, 1, 4, 5, 6, 7, 8, 10, 11, 12, 13, 14, 17, 18, 19, 20, 21, 22, 23, 24, 25, 26, 27, 28], []))] }
/-- colonnade/colonnaderef16.one -/
def fi164 : Fi := { keep := [4, 5, 6, 7, 18, 29], sc := [], lp := [] }
/-- colonnade/colonnaderef17.Words -/
def fi165 : Fi := { keep := [0], sc := [], lp := [] }
/-- (*colonnade/colonnaderef17.parser).deep -/
def fi166 : Fi := { keep := [4, 25], sc := [(1, (.q 0 (.q 1 (.q 2 (.q 3 (.q 4 (.q 5 (.q 6 (.q 7 (.q 8 (.q 9 (.q 10 (.q 11 (.q 12 (.q 13 (.q 14 (.q 15 (.q 16 (.q 17 (.q 18 (.q 19 (.q 20 .done))))))))))))))))))))))], lp := [] }
/-- (*colonnade/colonnaderef17.parser).conj -/
def fi167 : Fi := { keep := [4, 5, 10], sc := [(3, (.q 0 (.q 1 (.q 2 (.one 3 [2, 1] (.one 4 [0] (.one 5 [] .done)))))))], lp := [(2, ([0, 1, 4, 5], [10, 14, 15]))] }
/-- colonnade/colonnaderef17.two -/
def fi168 : Fi := { keep := [6, 7, 8], sc := [], lp := [] }
/-- (*colonnade/colonnaderef17.parser).item -/
def fi169 : Fi := { keep := [2, 4], sc := [], lp := [] }
/-- (*colonnade/colonnaderef17.parser).as -/
def fi170 : Fi := { keep := [2, 4], sc := [], lp := [] }
/-- (*colonnade/colonnaderef17.parser).join -/
def fi171 : Fi := { keep := [2, 3, 4, 9, 17, 24], sc := [], lp := [(3, ([0, 2, 3, 4], [17, 19, 20]))] }
/-- colonnade/colonnaderef01.ParseInt -/
def fi172 : Fi := { keep := [0, 2, 3, 4, 5, 6, 15, 20, 27], sc := [], lp := [] }
/-- slices.IndexFunc[[]colonnade/api.From,colonnade/api.From] -/
def fi173 : Fi := { keep := [4, 5, 7, 8, 9, 16], sc := [], lp := [(2, ([0, 1, 4, 7, 8], [16]))] }
/-- colonnade/schema.Lookup -/
def fi174 : Fi := { keep := [4, 5, 6, 11], sc := [], lp := [] }
/-- colonnade/plan.of -/
def fi175 : Fi := { keep := [2, 4, 5, 7, 9, 10, 11, 12], sc := [], lp := [(3, ([1, 4, 5, 9, 10, 11], [7, 22, 23]))] }
/-- colonnade/plan.gather -/
def fi177 : Fi := { keep := [3, 7, 9, 13, 22, 23, 24, 25, 34, 35, 36, 37], sc := [], lp := [(4, ([1, 2, 3, 22, 23, 24], [7, 31])), (9, ([1, 2, 34, 35, 36], [9, 44]))] }
/-- colonnade/plan.once$1 -/
def fi178 : Fi := { keep := [2, 6], sc := [(2, (.q 0 (.q 1 (.q 2 (.one 3 [] (.one 4 [2, 1, 0] (.q 5 (.alt 6 [5] (.one 7 [] .done) (.one 7 [] (.one 6 [5] .done))))))))))], lp := [] }
/-- slices.ContainsFunc[[]colonnade/api.Term,colonnade/api.Term] -/
def fi179 : Fi := { keep := [4], sc := [], lp := [] }
/-- colonnade/plan.once$1$1 -/
def fi180 : Fi := { keep := [2, 3], sc := [], lp := [] }
/-- colonnade/parse.SameTerm -/
def fi181 : Fi := { keep := [2, 3, 4], sc := [], lp := [] }
/-- (*colonnade/plan.scope).know -/
def fi182 : Fi := { keep := [4, 5], sc := [(1, (.q 0 (.q 1 (.q 2 (.q 3 (.q 4 (.q 5 (.q 6 (.q 9 (.q 10 (.q 11 (.q 12 (.q 13 (.q 14 (.q 15 (.q 16 (.q 17 (.alt 7 [6] (.alt 8 [5, 4, 3, 2] (.one 18 [17, 16, 15, 14, 13] (.one 19 [12, 11, 10, 9] (.q 20 (.q 21 (.one 22 [21, 20, 0] (.q 23 (.q 24 (.one 25 [24, 23, 1] .done)))))))) (.one 18 [17, 16, 15, 14, 13] (.one 8 [5, 4, 3, 2] (.one 19 [12, 11, 10, 9] (.q 20 (.q 21 (.one 22 [21, 20, 0] (.q 23 (.q 24 (.one 25 [24, 23, 1] .done)))))))))) (.one 18 [17, 16, 15, 14, 13] (.one 7 [6] (.one 8 [5, 4, 3, 2] (.one 19 [12, 11, 10, 9] (.q 20 (.q 21 (.one 22 [21, 20, 0] (.q 23 (.q 24 (.one 25 [24, 23, 1] .done)))))))))))))))))))))))))))), (2, (.q 0 (.q 1 (.q 2 (.q 3 (.q 4 (.q 5 (.one 6 [5] (.one 7 [4, 3, 2, 1] (.q 8 (.q 9 (.one 10 [9, 8, 0] .done))))))))))))], lp := [] }
/-- (*colonnade/plan.scope).terms -/
def fi183 : Fi := { keep := [4, 5, 6, 8, 9, 11, 12, 13, 14, 15, 26], sc := [], lp := [(3, ([0, 4, 5, 6, 12, 13, 14], [8, 9, 10, 21, 30, 31]))] }
/-- slices.IndexFunc[[]colonnade/api.Term,colonnade/api.Term] -/
def fi188 : Fi := { keep := [4, 5, 7, 8, 9, 16], sc := [], lp := [(2, ([0, 1, 4, 7, 8], [16]))] }
/-- (*colonnade/plan.scope).bind$1 -/
def fi189 : Fi := { keep := [2, 3], sc := [], lp := [] }
/-- (*colonnade/plan.scope).find -/
def fi190 : Fi := { keep := [3, 4, 5, 6, 7, 8, 9, 14, 15, 16, 17, 35, 52, 53, 55], sc := [(6, (.q 0 (.q 1 (.q 2 (.q 3 (.q 4 (.q 5 (.q 7 (.alt 6 [5, 4, 3] (.one 8 [7] (.one 9 [] (.one 10 [2, 1, 0] .done))) (.one 8 [7] (.one 6 [5, 4, 3] (.one 9 [] (.one 10 [2, 1, 0] .done)))))))))))))], lp := [(3, ([3, 4, 5, 6, 14, 15, 16], [8, 44, 45]))] }
/-- slices.Equal[[]bool,bool] -/
def fi191 : Fi := { keep := [4, 5, 10, 12, 13, 14, 24], sc := [(6, (.q 0 (.q 1 (.q 2 (.q 3 (.q 4 (.q 5 (.q 6 (.q 7 (.q 8 .done))))))))))], lp := [(4, ([0, 1, 4, 12, 13], []))] }
/-- colonnade/plan.sameExprs -/
def fi192 : Fi := { keep := [4], sc := [], lp := [] }
/-- slices.EqualFunc[[]colonnade/api.Plan,[]colonnade/api.Plan,colonnade/api.Plan,colonnade/api.Plan] -/
def fi193 : Fi := { keep := [6, 7, 8, 9, 14, 15, 16, 17, 18, 30], sc := [], lp := [(4, ([1, 2, 6, 15, 16, 17], [8, 9, 29]))] }
/-- slices.EqualFunc[[]colonnade/api.Agg,[]colonnade/api.Agg,colonnade/api.Agg,colonnade/api.Agg] -/
def fi194 : Fi := { keep := [6, 7, 8, 9, 14, 15, 16, 17, 18, 30], sc := [], lp := [(4, ([1, 2, 6, 15, 16, 17], [8, 9, 29]))] }
/-- colonnade/plan.Same$1 -/
def fi195 : Fi := { keep := [2, 3, 4], sc := [], lp := [] }
/-- slices.EqualFunc[[]colonnade/api.Win,[]colonnade/api.Win,colonnade/api.Win,colonnade/api.Win] -/
def fi196 : Fi := { keep := [6, 7, 8, 9, 14, 15, 16, 17, 18, 30], sc := [], lp := [(4, ([1, 2, 6, 15, 16, 17], [8, 9, 29]))] }
/-- slices.Equal[[]colonnade/api.Bound,colonnade/api.Bound] -/
def fi198 : Fi := { keep := [4, 5, 10, 12, 13, 14, 24], sc := [(6, (.q 0 (.q 1 (.q 2 (.q 3 (.q 4 (.q 5 (.q 6 (.q 7 (.q 8 .done))))))))))], lp := [(4, ([0, 1, 4, 12, 13], []))] }
/-- slices.IndexFunc[[]colonnade/api.Plan,colonnade/api.Plan] -/
def fi199 : Fi := { keep := [4, 5, 7, 8, 9, 16], sc := [], lp := [(2, ([0, 1, 4, 7, 8], [16]))] }
/-- colonnade/schema.Types -/
def fi200 : Fi := { keep := [1, 2, 3, 5, 7, 8, 9, 10], sc := [], lp := [(3, ([2, 3, 7, 8, 9], [5, 16, 17]))] }
/-- colonnade/num.scale -/
def fi206 : Fi := { keep := [2], sc := [], lp := [] }
/-- colonnade/colonnaderef16.space -/
def fi220 : Fi := { keep := [2], sc := [], lp := [] }
/-- colonnade/colonnaderef16.at -/
def fi221 : Fi := { keep := [4, 8], sc := [], lp := [] }
/-- colonnade/colonnaderef16.letter -/
def fi222 : Fi := { keep := [2], sc := [], lp := [] }
/-- colonnade/colonnaderef16.word -/
def fi223 : Fi := { keep := [1, 4, 5, 6, 7, 8, 9, 27, 36], sc := [], lp := [(3, ([0, 1, 4, 5, 6, 7, 8], [20, 25, 41, 42]))] }
/-- colonnade/colonnaderef16.digit -/
def fi224 : Fi := { keep := [2], sc := [], lp := [] }
/-- colonnade/colonnaderef16.number -/
def fi225 : Fi := { keep := [1, 4, 5, 6, 7, 18, 31, 43], sc := [(8, (.q 0 (.q 1 (.q 2 (.q 3 (.q 4 (.q 5 (.q 6 (.q 7 (.q 8 (.q 9 (.q 10 (.q 11 (.q 12 (.q 13 (.one 14 [13, 12, 11, 10, 9, 8, 7] (.one 15 [] (.q 16 (.q 17 (.one 18 [5, 4, 3, 2, 1, 0] (.q 19 (.q 20 .done))))))))))))))))))))))], lp := [(2, ([0, 1, 4, 5, 6, 7], [17])), (6, ([0, 1, 4, 5, 6, 7], [42]))] }
/-- colonnade/colonnaderef16.sign -/
def fi227 : Fi := { keep := [4, 5, 6, 7, 8, 9, 10, 17, 36, 45, 54], sc := [(11, (.q 0 (.q 1 (.q 2 (.q 3 (.q 4 (.q 5 (.q 6 .done))))))))], lp := [(9, ([0, 1, 4, 5, 6, 7, 9, 10], []))] }
/-- (*colonnade/colonnaderef17.parser).not -/
def fi228 : Fi := { keep := [4, 7, 14], sc := [], lp := [] }
/-- colonnade/colonnaderef01.digits -/
def fi229 : Fi := { keep := [2, 3, 7, 19], sc := [], lp := [(2, ([0, 2, 3], []))] }
/-- colonnade/colonnaderef01.read -/
def fi230 : Fi := { keep := [4, 5, 6, 7, 8, 12, 25], sc := [], lp := [(3, ([0, 1, 4, 5, 6, 7], []))] }
/-- colonnade/colonnaderef01.signed -/
def fi231 : Fi := { keep := [4, 5, 10, 15], sc := [], lp := [] }
/-- colonnade/schema.at -/
def fi232 : Fi := { keep := [3, 4], sc := [], lp := [] }
/-- colonnade/parse.sameTerms -/
def fi234 : Fi := { keep := [4], sc := [], lp := [] }
/-- slices.EqualFunc[[]colonnade/api.Key,[]colonnade/api.Key,colonnade/api.Key,colonnade/api.Key] -/
def fi235 : Fi := { keep := [6, 7, 8, 9, 14, 15, 16, 17, 18, 30], sc := [], lp := [(4, ([1, 2, 6, 15, 16, 17], [8, 9, 29]))] }
/-- slices.EqualFunc[[]colonnade/api.Expr,[]colonnade/api.Expr,colonnade/api.Expr,colonnade/api.Expr] -/
def fi239 : Fi := { keep := [6, 7, 8, 9, 14, 15, 16, 17, 18, 30], sc := [], lp := [(4, ([1, 2, 6, 15, 16, 17], [8, 9, 29]))] }
/-- colonnade/expr.Same -/
def fi240 : Fi := { keep := [2, 3, 4], sc := [], lp := [] }
/-- internal/strconv.bool2[int] -/
def fi252 : Fi := { keep := [2, 3], sc := [], lp := [] }
/-- internal/strconv.isPowerOfTwo -/
def fi253 : Fi := { keep := [2], sc := [], lp := [] }
/-- cmp.Less[int] -/
def fi261 : Fi := { keep := [4], sc := [], lp := [] }
/-- (*colonnade/colonnaderef17.parser).test -/
def fi265 : Fi := { keep := [4, 5, 6, 7, 8, 16, 24, 34, 44], sc := [(7, (.q 0 (.q 1 (.q 2 (.q 3 (.q 4 (.one 5 [4, 3] (.one 6 [2, 1, 0] (.one 7 [] .done)))))))))], lp := [(4, ([0, 1, 4, 5, 6, 7], [24, 30, 31]))] }
/-- slices.IndexFunc[[]colonnade/api.Def,colonnade/api.Def] -/
def fi266 : Fi := { keep := [4, 5, 7, 8, 9, 16], sc := [], lp := [(2, ([0, 1, 4, 7, 8], [16]))] }
/-- colonnade/schema.at$1 -/
def fi267 : Fi := { keep := [2, 3], sc := [], lp := [] }
/-- slices.EqualFunc[[]colonnade/api.Term,[]colonnade/api.Term,colonnade/api.Term,colonnade/api.Term] -/
def fi268 : Fi := { keep := [6, 7, 8, 9, 14, 15, 16, 17, 18, 30], sc := [], lp := [(4, ([1, 2, 6, 15, 16, 17], [8, 9, 29]))] }
/-- cmp.isNaN[int] -/
def fi285 : Fi := { keep := [2], sc := [], lp := [] }
/-- (*colonnade/colonnaderef17.parser).sum -/
def fi286 : Fi := { keep := [4, 5, 10, 18, 26], sc := [(4, (.q 0 (.q 1 (.q 2 (.one 3 [2, 1] (.one 4 [0] (.one 5 [] .done))))))), (6, (.q 0 (.q 1 (.q 2 (.one 3 [2, 1] (.one 4 [0] (.one 5 [] .done))))))), (8, (.q 0 (.q 1 (.q 2 (.one 3 [2, 1] (.one 4 [0] (.one 5 [] .done)))))))], lp := [(3, ([0, 1, 4, 5], [12, 16, 17, 20, 24, 25, 28, 32, 33]))] }
/-- (*colonnade/colonnaderef17.parser).product -/
def fi294 : Fi := { keep := [4, 5, 10, 18, 26], sc := [(4, (.q 0 (.q 1 (.q 2 (.one 3 [2, 1] (.one 4 [0] (.one 5 [] .done))))))), (6, (.q 0 (.q 1 (.q 2 (.one 3 [2, 1] (.one 4 [0] (.one 5 [] .done))))))), (8, (.q 0 (.q 1 (.q 2 (.one 3 [2, 1] (.one 4 [0] (.one 5 [] .done)))))))], lp := [(3, ([0, 1, 4, 5], [12, 16, 17, 20, 24, 25, 28, 32, 33]))] }
/-- (*colonnade/colonnaderef17.parser).unary -/
def fi297 : Fi := { keep := [4, 7, 14], sc := [], lp := [] }
/-- (*colonnade/colonnaderef17.parser).part -/
def fi298 : Fi := { keep := [4, 5, 6, 7, 10, 16, 31, 42, 58], sc := [], lp := [] }
/-- (*colonnade/colonnaderef17.parser).number -/
def fi299 : Fi := { keep := [2, 3, 4, 5, 6, 7, 8, 15, 26, 38], sc := [], lp := [(4, ([0, 2, 3, 4, 5], []))] }
/-- colonnade/colonnaderef17.constant -/
def fi300 : Fi := { keep := [1, 2], sc := [], lp := [] }
/-- (*colonnade/colonnaderef17.parser).call -/
def fi302 : Fi := { keep := [4, 5, 6, 7, 8, 9, 14, 22, 24, 35, 40, 45, 51, 56, 62, 84], sc := [], lp := [(3, ([0, 1, 4, 5, 6], [22, 29, 34]))] }
/-- colonnade/colonnaderef02.OfInt -/
def fi303 : Fi := { keep := [2], sc := [], lp := [] }
/-- colonnade/colonnaderef02.OfDec -/
def fi305 : Fi := { keep := [4], sc := [], lp := [] }
/-- (*colonnade/colonnaderef17.parser).value -/
def fi306 : Fi := { keep := [6, 7, 19, 38], sc := [], lp := [] }
/-- colonnade/colonnaderef02.OfBool -/
def fi308 : Fi := { keep := [2, 3, 6], sc := [], lp := [] }
/-- colonnade/colonnaderef02.None -/
def fi309 : Fi := { keep := [1, 2], sc := [], lp := [] }
/-- colonnade/colonnaderef02.OfDay -/
def fi314 : Fi := { keep := [2], sc := [], lp := [] }
theorem E_ok : EnvOk Tryz.prog E_0 := envOk_of (by kernel_rfl)
theorem it_ok : ItOk Tryz.prog E_0 := fun _ _ _ h => h.elim
theorem mixed : Tryz.prog.follows .mixedOrders = true := by kernel_rfl
end Go.Proofs.Tryz
/- Expressions as data, and what the program's functions over them come to. -/
namespace Go.Ex
open Go Go.Dm

/-- A number of 64 bits. -/
def in64 (n : Int) : Prop := -9223372036854775808 ≤ n ∧ n < 9223372036854775808

structure Ty where
  k : Int
  sc : Int
  deriving DecidableEq
structure AV where
  t : Ty
  nul : Bool
  n : Int
  s : ByteArray
abbrev Ty.cs (t : Ty) : List D := [.v (.int .i64 t.k), .v (.int .i64 t.sc)]
abbrev AV.cs (v : AV) : List D := [.v (.int .i64 v.t.k), .v (.int .i64 v.t.sc), .v (.bool v.nul), .v (.int .i64 v.n), .v (.string v.s)]

/-- An expression. -/
inductive EX where
  | mk (op sub : Int) (ty : Ty) (v : AV) (args : List EX)
def EX.op : EX → Int | .mk a _ _ _ _ => a

mutual
/-- Its cells. -/
def cells : EX → List D
  | .mk op sub ty v args => [.v (.int .i64 op), .v (.int .i64 sub), .v (.int .i64 ty.k), .v (.int .i64 ty.sc), .v (.int .i64 v.t.k), .v (.int .i64 v.t.sc), .v (.bool v.nul), .v (.int .i64 v.n), .v (.string v.s), .sl (cellsL args)]
def cellsL : List EX → List (List D)
  | [] => []
  | e :: r => cells e :: cellsL r
end
theorem cellsL_map : ∀ l : List EX, cellsL l = l.map cells
  | [] => by simp [cellsL]
  | e :: r => by simp [cellsL, cellsL_map r]
theorem cellsL_len (l : List EX) : (cellsL l).length = l.length := by rw [cellsL_map, List.length_map]
theorem cellsL_get {l : List EX} {i : Nat} {e : EX} (h : l[i]? = some e) : (cellsL l)[i]? = some (cells e) := by rw [cellsL_map, List.getElem?_map, h]; rfl
theorem cellsL_all {l : List EX} : ∀ c ∈ cellsL l, c.length = 10 := by
  intro c hc
  rw [cellsL_map] at hc
  obtain ⟨e, _, rfl⟩ := List.mem_map.1 hc
  cases e; simp [cells]
theorem cellsL_append (a b : List EX) : cellsL (a ++ b) = cellsL a ++ cellsL b := by simp [cellsL_map]

mutual
/-- How great it is. -/
def size : EX → Nat
  | .mk _ _ _ _ args => sizeL args + 1
def sizeL : List EX → Nat
  | [] => 0
  | e :: r => size e + sizeL r
end
theorem size_mem {l : List EX} {e : EX} (h : e ∈ l) : size e ≤ sizeL l := by
  induction l with
  | nil => cases h
  | cons a r ih =>
    simp only [sizeL]
    cases h with
    | head => omega
    | tail _ h => have := ih h; omega
theorem size_arg {op sub : Int} {ty : Ty} {v : AV} {args : List EX} {e : EX} (h : e ∈ args) : size e < size (.mk op sub ty v args) := by
  have := size_mem h
  simp only [size]; omega

mutual
/-- All its numbers are numbers of 64 bits. -/
def fits : EX → Prop
  | .mk op sub ty v args => (in64 op ∧ in64 sub ∧ in64 ty.k ∧ in64 ty.sc ∧ in64 v.t.k ∧ in64 v.t.sc ∧ in64 v.n) ∧ args.length ≤ 1353245080300 ∧ fitsL args
def fitsL : List EX → Prop
  | [] => True
  | e :: r => fits e ∧ fitsL r
end
theorem fitsL_mem {l : List EX} {e : EX} (hl : fitsL l) (h : e ∈ l) : fits e := by
  induction l with
  | nil => cases h
  | cons a r ih =>
    simp only [fitsL] at hl
    cases h with
    | head => exact hl.1
    | tail _ h => exact ih hl.2 h

mutual
/-- How many nodes it has, as the program counts them. -/
def nodes : EX → Int
  | .mk _ _ _ _ args => nodesL 1 args
def nodesL (n : Int) : List EX → Int
  | [] => n
  | e :: r => nodesL (IntKind.i64.wrap (n + nodes e)) r
end
theorem nodesL_snoc (l : List EX) (e : EX) : ∀ n, nodesL n (l ++ [e]) = IntKind.i64.wrap (nodesL n l + nodes e) := by
  induction l with
  | nil => intro n; simp [nodesL]
  | cons a r ih => intro n; simp only [List.cons_append, nodesL]; exact ih _
mutual
/-- How many stand one within the other, as the program counts them. -/
def deep : EX → Int
  | .mk _ _ _ _ args => IntKind.i64.wrap (deepL 0 args + 1)
def deepL (n : Int) : List EX → Int
  | [] => n
  | e :: r => deepL (if n < deep e then deep e else n) r
end
theorem deepL_snoc (l : List EX) (e : EX) : ∀ n, deepL n (l ++ [e]) = if deepL n l < deep e then deep e else deepL n l := by
  induction l with
  | nil =>
    intro n
    have h1 : deepL n [] = n := by simp only [deepL]
    have h2 : deepL n [e] = (if n < deep e then deep e else n) := by simp only [deepL]
    rw [List.nil_append, h2, h1]
  | cons a r ih => intro n; simp only [List.cons_append, deepL]; exact ih _
end Go.Ex
namespace Go.Ex
open Go Go.Dm
end Go.Ex
namespace Go.Proofs.Tryz
open Go Go.Dm Go.Ex
set_option maxRecDepth 100000
variable {gl : Nat → Option Obj}
theorem wrap_i64_of {n : Int} (h1 : -9223372036854775808 ≤ n) (h2 : n < 9223372036854775808) : IntKind.i64.wrap n = n := by
  simp [IntKind.wrap, IntKind.signed, IntKind.bits]; split <;> omega
theorem wrap_next {i : Nat} (h : i < 9223372036854775807) : IntKind.i64.wrap ((i : Int) + 1) = ((i + 1 : Nat) : Int) := by
  rw [wrap_i64_of (by omega) (by omega)]; omega
def C_n : CallT := fun _ _ _ => False
theorem C_n_ok : CallsOk prog gl C_n := fun _ _ _ h => h.elim
def encX (op sub : Int) (t : Ty) (v : Go.Ex.AV) (es : List (List D)) : List D := [.v (.int .i64 op), .v (.int .i64 sub), .v (.int .i64 t.k), .v (.int .i64 t.sc), .v (.int .i64 v.t.k), .v (.int .i64 v.t.sc), .v (.bool v.nul), .v (.int .i64 v.n), .v (.string v.s), .sl es]
theorem cells_mk (op sub : Int) (t : Ty) (v : Go.Ex.AV) (args : List EX) : cells (.mk op sub t v args) = encX op sub t v (cellsL args) := by simp [cells, encX]
theorem fits_mk {op sub : Int} {t : Ty} {v : Go.Ex.AV} {args : List EX} (h : fits (.mk op sub t v args)) : (in64 op ∧ in64 sub ∧ in64 t.k ∧ in64 t.sc ∧ in64 v.t.k ∧ in64 v.t.sc ∧ in64 v.n) ∧ args.length ≤ 1353245080300 ∧ fitsL args := by
  simpa [fits] using h
/-- The next argument. -/
theorem arg_get {l : List EX} {i : Nat} (hi : i < l.length) : ∃ op sub t v a, l[i] = .mk op sub t v a ∧ (cellsL l)[((i : Nat) : Int).toNat]? = some (encX op sub t v (cellsL a)) := by
  rcases h : l[i] with ⟨op, sub, t, v, a⟩
  refine ⟨op, sub, t, v, a, rfl, ?_⟩
  rw [Int.toNat_natCast, ← cells_mk, ← h]
  exact cellsL_get (List.getElem?_eq_getElem hi)
/-- Nodes. -/
def c_61 (n : Nat) (a : List R) (K : List R → List (List D) → Prop) : Prop := match a with
  | [.agg x] => ∃ e : EX, x = cells e ∧ size e < n ∧ fits e ∧ K [.d (.v (.int .i64 (nodes e)))] []
  | _ => False
def C_f61 (n : Nat) : CallT := addC C_n 41 (c_61 n)
def st_61 (op sub : Int) (t : Ty) (v : Go.Ex.AV) (args : List EX) (x : Nat) : St := { tm := [(2, .d (.v (.int .i64 0))), (3, .d (.v (.int .i64 (nodesL 1 (args.take x))))), (7, .d (.sl (cellsL args))), (8, .d (.v (.int .i64 ((cellsL args).length : Int)))), (9, .d (.v (.int .i64 (x : Int))))], hp := [(1, .box [.d (.v (.int .i64 op)), .d (.v (.int .i64 sub)), .d (.v (.int .i64 t.k)), .d (.v (.int .i64 t.sc)), .d (.v (.int .i64 v.t.k)), .d (.v (.int .i64 v.t.sc)), .d (.v (.bool v.nul)), .d (.v (.int .i64 v.n)), .d (.v (.string v.s)), .d (.sl (cellsL args))])], kn := [], gd := [] }
def inv_n (l : List EX) (m : Nat) (x : Nat) : Prop := x ≤ l.length ∧ m = l.length - x
def fx_61 (op sub : Int) (t : Ty) (v : Go.Ex.AV) (args : List EX) : Fi := { fi41 with lx := [(3, { X := Nat, sh := st_61 op sub t v args, P := fun _ => inv_n args })] }
theorem vc61 (n : Nat) (op sub : Int) (t : Ty) (v : Go.Ex.AV) (args : List EX) (Q : List R → List (List D) → Prop) : vc E_0 (C_f61 n) noI (fx_61 op sub t v args) (f41.body.getD .skip) f41.results.toList [.agg (encX op sub t v (cellsL args))] Q = ( ∃ (es : List (List D)), D.sl (cellsL args) = D.sl es ∧ ∃ (x0 : { X := Nat, sh := st_61 op sub t v args, P := fun (x : Nat) => inv_n args : LX }.X), ({ tm := [((2 : Nat), V.d (D.v (Value.int .i64 0))), ((3 : Nat), V.d (D.v (Value.int .i64 1))), ((7 : Nat), V.d (D.sl (cellsL args))), ((8 : Nat), V.d (D.v (Value.int .i64 (↑es.length : Int)))), ((9 : Nat), V.d (D.v (Value.int .i64 0)))], hp := [((1 : Nat), B.box [V.d (D.v (Value.int .i64 op)), V.d (D.v (Value.int .i64 sub)), V.d (D.v (Value.int .i64 t.1)), V.d (D.v (Value.int .i64 t.2)), V.d (D.v (Value.int .i64 v.1.1)), V.d (D.v (Value.int .i64 v.1.2)), V.d (D.v (Value.bool v.2)), V.d (D.v (Value.int .i64 v.3)), V.d (D.v (Value.string v.4)), V.d (D.sl (cellsL args))])], kn := [], gd := [] : St } = { tm := [((2 : Nat), V.d (D.v (Value.int .i64 0))), ((3 : Nat), V.d (D.v (Value.int .i64 (nodesL (1 : Int) (List.take x0 args))))), ((7 : Nat), V.d (D.sl (cellsL args))), ((8 : Nat), V.d (D.v (Value.int .i64 (↑(cellsL args).length : Int)))), ((9 : Nat), V.d (D.v (Value.int .i64 (↑x0 : Int))))], hp := [((1 : Nat), B.box [V.d (D.v (Value.int .i64 op)), V.d (D.v (Value.int .i64 sub)), V.d (D.v (Value.int .i64 t.1)), V.d (D.v (Value.int .i64 t.2)), V.d (D.v (Value.int .i64 v.1.1)), V.d (D.v (Value.int .i64 v.1.2)), V.d (D.v (Value.bool v.2)), V.d (D.v (Value.int .i64 v.3)), V.d (D.v (Value.string v.4)), V.d (D.sl (cellsL args))])], kn := [], gd := [] : St } ∧ ∃ (n : Nat), inv_n args n x0) ∧ ∀ (n_1 : Nat) (x : { X := Nat, sh := st_61 op sub t v args, P := fun (x : Nat) => inv_n args : LX }.X), inv_n args n_1 x → (decide ((↑x : Int) < (↑(cellsL args).length : Int)) = true → ∃ (es : List (List D)), D.sl (cellsL args) = D.sl es ∧ ((0 : Int) ≤ (↑x : Int) ∧ (↑x : Int) < (↑es.length : Int)) ∧ ∃ (cells : List D), es[(↑x : Int).toNat]? = some cells ∧ cells.length = (10 : Nat) ∧ ∃ (n_2 : Int), ∃ (n_3 : Int), ∃ (n_4 : Int), ∃ (n_5 : Int), ∃ (n_6 : Int), ∃ (n_7 : Int), ∃ (b : Bool), ∃ (n_8 : Int), ∃ (b_1 : ByteArray), ∃ (es : List (List D)), cut ((0 : Nat)) ((10 : Nat)) cells = some [D.v (Value.int .i64 n_2), D.v (Value.int .i64 n_3), D.v (Value.int .i64 n_4), D.v (Value.int .i64 n_5), D.v (Value.int .i64 n_6), D.v (Value.int .i64 n_7), D.v (Value.bool b), D.v (Value.int .i64 n_8), D.v (Value.string b_1), D.sl es] ∧ ∃ (e : EX), [D.v (Value.int .i64 n_2), D.v (Value.int .i64 n_3), D.v (Value.int .i64 n_4), D.v (Value.int .i64 n_5), D.v (Value.int .i64 n_6), D.v (Value.int .i64 n_7), D.v (Value.bool b), D.v (Value.int .i64 n_8), D.v (Value.string b_1), D.sl es] = Ex.cells e ∧ size e < n ∧ fits e ∧ ∃ (m : Nat), ∃ (x' : { X := Nat, sh := st_61 op sub t v args, P := fun (x : Nat) => inv_n args : LX }.X), m < n_1 ∧ { tm := [((2 : Nat), V.d (D.v (Value.int .i64 0))), ((3 : Nat), V.d (D.v (Value.int .i64 (IntKind.i64.wrap (nodesL (1 : Int) (List.take x args) + nodes e))))), ((7 : Nat), V.d (D.sl (cellsL args))), ((8 : Nat), V.d (D.v (Value.int .i64 (↑(cellsL args).length : Int)))), ((9 : Nat), V.d (D.v (Value.int .i64 (IntKind.i64.wrap ((↑x : Int) + (1 : Int))))))], hp := [((1 : Nat), B.box [V.d (D.v (Value.int .i64 op)), V.d (D.v (Value.int .i64 sub)), V.d (D.v (Value.int .i64 t.1)), V.d (D.v (Value.int .i64 t.2)), V.d (D.v (Value.int .i64 v.1.1)), V.d (D.v (Value.int .i64 v.1.2)), V.d (D.v (Value.bool v.2)), V.d (D.v (Value.int .i64 v.3)), V.d (D.v (Value.string v.4)), V.d (D.sl (cellsL args))])], kn := [], gd := [] : St } = { tm := [((2 : Nat), V.d (D.v (Value.int .i64 0))), ((3 : Nat), V.d (D.v (Value.int .i64 (nodesL (1 : Int) (List.take x' args))))), ((7 : Nat), V.d (D.sl (cellsL args))), ((8 : Nat), V.d (D.v (Value.int .i64 (↑(cellsL args).length : Int)))), ((9 : Nat), V.d (D.v (Value.int .i64 (↑x' : Int))))], hp := [((1 : Nat), B.box [V.d (D.v (Value.int .i64 op)), V.d (D.v (Value.int .i64 sub)), V.d (D.v (Value.int .i64 t.1)), V.d (D.v (Value.int .i64 t.2)), V.d (D.v (Value.int .i64 v.1.1)), V.d (D.v (Value.int .i64 v.1.2)), V.d (D.v (Value.bool v.2)), V.d (D.v (Value.int .i64 v.3)), V.d (D.v (Value.string v.4)), V.d (D.sl (cellsL args))])], kn := [], gd := [] : St } ∧ inv_n args m x') ∧ (decide ((↑x : Int) < (↑(cellsL args).length : Int)) = false → Q [.d (.v (.int .i64 (nodesL (1 : Int) (List.take x args))))] [])) := by kernel_rfl
theorem ct61 : ∀ (n : Nat) (e : EX), size e < n → fits e → Ct prog gl 41 [.agg (cells e)] (gives [.d (.v (.int .i64 (nodes e)))])
  | 0, e, h, _ => absurd h (Nat.not_lt_zero _)
  | n + 1, .mk op sub t v args, h, hf => by
    have hC : CallsOk prog gl (C_f61 n) := addC_ok C_n_ok (fun a K hk => by
      unfold c_61 at hk
      split at hk
      · obtain ⟨e, rfl, h1, h2, h3⟩ := hk
        exact (ct61 n e h1 h2).gives h3
      · exact hk.elim)
    rw [cells_mk]
    refine ct_of_vc E_ok hC ioK_no it_ok mixed (fn := f41) (body := f41.body.getD .skip) (by kernel_rfl) (by kernel_rfl) (by kernel_rfl) (fi := fx_61 op sub t v args) (by kernel_rfl) (by kernel_rfl) ⟨_, _, rfl, rfl⟩ ?_
    rw [vc61]
    obtain ⟨_, hl, hfl⟩ := fits_mk hf
    have hsz : ∀ e ∈ args, size e < n := fun e he => by have := size_arg (op := op) (sub := sub) (ty := t) (v := v) he; omega
    refine ⟨cellsL args, rfl, (0 : Nat), ⟨by simp only [List.take_zero, nodesL]; rfl, args.length, Nat.zero_le _, rfl⟩, fun m (x : Nat) hx => ⟨fun hi => ?_, fun hi => ?_⟩⟩
    · have hi : x < args.length := by simpa [cellsL_len] using hi
      obtain ⟨op', sub', t', v', a', he, hget⟩ := arg_get hi
      have hm := hx.2
      refine ⟨cellsL args, rfl, ⟨by omega, by rw [cellsL_len]; omega⟩, _, hget, rfl, op', sub', t'.k, t'.sc, v'.t.k, v'.t.sc, v'.nul, v'.n, v'.s, cellsL a', rfl, args[x], by rw [he, cells_mk]; rfl, hsz _ (List.getElem_mem hi), fitsL_mem hfl (List.getElem_mem hi), args.length - (x + 1), x + 1, by omega, ?_, hi, rfl⟩
      rw [wrap_next (by omega), List.take_add_one, List.getElem?_eq_getElem hi, Option.toList_some, nodesL_snoc]
    · have hi : ¬ x < args.length := by simpa [cellsL_len] using hi
      rw [List.take_of_length_le (by omega)]
      refine ⟨?_, rfl⟩
      simp only [nodes]
def c_62 (n : Nat) (a : List R) (K : List R → List (List D) → Prop) : Prop := match a with
  | [.agg x] => ∃ e : EX, x = cells e ∧ size e < n ∧ fits e ∧ K [.d (.v (.int .i64 (deep e)))] []
  | _ => False
def C_f62 (n : Nat) : CallT := addC C_n 42 (c_62 n)
def st_62 (op sub : Int) (t : Ty) (v : Go.Ex.AV) (args : List EX) (x : Nat) : St := { tm := [(2, .d (.v (.int .i64 0))), (3, .d (.v (.int .i64 (deepL 0 (args.take x))))), (7, .d (.sl (cellsL args))), (8, .d (.v (.int .i64 ((cellsL args).length : Int)))), (9, .d (.v (.int .i64 (x : Int))))], hp := [(1, .box [.d (.v (.int .i64 op)), .d (.v (.int .i64 sub)), .d (.v (.int .i64 t.k)), .d (.v (.int .i64 t.sc)), .d (.v (.int .i64 v.t.k)), .d (.v (.int .i64 v.t.sc)), .d (.v (.bool v.nul)), .d (.v (.int .i64 v.n)), .d (.v (.string v.s)), .d (.sl (cellsL args))])], kn := [], gd := [] }
def fx_62 (op sub : Int) (t : Ty) (v : Go.Ex.AV) (args : List EX) : Fi := { fi42 with lx := [(3, { X := Nat, sh := st_62 op sub t v args, P := fun _ => inv_n args })] }
theorem vc62 (n : Nat) (op sub : Int) (t : Ty) (v : Go.Ex.AV) (args : List EX) (Q : List R → List (List D) → Prop) : vc E_0 (C_f62 n) noI (fx_62 op sub t v args) (f42.body.getD .skip) f42.results.toList [.agg (encX op sub t v (cellsL args))] Q = ( ∃ (es : List (List D)), D.sl (cellsL args) = D.sl es ∧ ∃ (x0 : { X := Nat, sh := st_62 op sub t v args, P := fun (x : Nat) => inv_n args : LX }.X), ({ tm := [((2 : Nat), V.d (D.v (Value.int .i64 0))), ((3 : Nat), V.d (D.v (Value.int .i64 0))), ((7 : Nat), V.d (D.sl (cellsL args))), ((8 : Nat), V.d (D.v (Value.int .i64 (↑es.length : Int)))), ((9 : Nat), V.d (D.v (Value.int .i64 0)))], hp := [((1 : Nat), B.box [V.d (D.v (Value.int .i64 op)), V.d (D.v (Value.int .i64 sub)), V.d (D.v (Value.int .i64 t.1)), V.d (D.v (Value.int .i64 t.2)), V.d (D.v (Value.int .i64 v.1.1)), V.d (D.v (Value.int .i64 v.1.2)), V.d (D.v (Value.bool v.2)), V.d (D.v (Value.int .i64 v.3)), V.d (D.v (Value.string v.4)), V.d (D.sl (cellsL args))])], kn := [], gd := [] : St } = { tm := [((2 : Nat), V.d (D.v (Value.int .i64 0))), ((3 : Nat), V.d (D.v (Value.int .i64 (deepL (0 : Int) (List.take x0 args))))), ((7 : Nat), V.d (D.sl (cellsL args))), ((8 : Nat), V.d (D.v (Value.int .i64 (↑(cellsL args).length : Int)))), ((9 : Nat), V.d (D.v (Value.int .i64 (↑x0 : Int))))], hp := [((1 : Nat), B.box [V.d (D.v (Value.int .i64 op)), V.d (D.v (Value.int .i64 sub)), V.d (D.v (Value.int .i64 t.1)), V.d (D.v (Value.int .i64 t.2)), V.d (D.v (Value.int .i64 v.1.1)), V.d (D.v (Value.int .i64 v.1.2)), V.d (D.v (Value.bool v.2)), V.d (D.v (Value.int .i64 v.3)), V.d (D.v (Value.string v.4)), V.d (D.sl (cellsL args))])], kn := [], gd := [] : St } ∧ ∃ (n : Nat), inv_n args n x0) ∧ ∀ (n_1 : Nat) (x : { X := Nat, sh := st_62 op sub t v args, P := fun (x : Nat) => inv_n args : LX }.X), inv_n args n_1 x → (decide ((↑x : Int) < (↑(cellsL args).length : Int)) = true → ∃ (es : List (List D)), D.sl (cellsL args) = D.sl es ∧ ((0 : Int) ≤ (↑x : Int) ∧ (↑x : Int) < (↑es.length : Int)) ∧ ∃ (cells : List D), es[(↑x : Int).toNat]? = some cells ∧ cells.length = (10 : Nat) ∧ ∃ (n_2 : Int), ∃ (n_3 : Int), ∃ (n_4 : Int), ∃ (n_5 : Int), ∃ (n_6 : Int), ∃ (n_7 : Int), ∃ (b : Bool), ∃ (n_8 : Int), ∃ (b_1 : ByteArray), ∃ (es : List (List D)), cut ((0 : Nat)) ((10 : Nat)) cells = some [D.v (Value.int .i64 n_2), D.v (Value.int .i64 n_3), D.v (Value.int .i64 n_4), D.v (Value.int .i64 n_5), D.v (Value.int .i64 n_6), D.v (Value.int .i64 n_7), D.v (Value.bool b), D.v (Value.int .i64 n_8), D.v (Value.string b_1), D.sl es] ∧ ∃ (e : EX), [D.v (Value.int .i64 n_2), D.v (Value.int .i64 n_3), D.v (Value.int .i64 n_4), D.v (Value.int .i64 n_5), D.v (Value.int .i64 n_6), D.v (Value.int .i64 n_7), D.v (Value.bool b), D.v (Value.int .i64 n_8), D.v (Value.string b_1), D.sl es] = Ex.cells e ∧ size e < n ∧ fits e ∧ ∃ (m : Nat), ∃ (x' : { X := Nat, sh := st_62 op sub t v args, P := fun (x : Nat) => inv_n args : LX }.X), m < n_1 ∧ { tm := [((2 : Nat), V.d (D.v (Value.int .i64 0))), ((3 : Nat), V.d (D.v (Value.int .i64 (if deep e > deepL (0 : Int) (List.take x args) then deep e else deepL (0 : Int) (List.take x args))))), ((7 : Nat), V.d (D.sl (cellsL args))), ((8 : Nat), V.d (D.v (Value.int .i64 (↑(cellsL args).length : Int)))), ((9 : Nat), V.d (D.v (Value.int .i64 (IntKind.i64.wrap ((↑x : Int) + (1 : Int))))))], hp := [((1 : Nat), B.box [V.d (D.v (Value.int .i64 op)), V.d (D.v (Value.int .i64 sub)), V.d (D.v (Value.int .i64 t.1)), V.d (D.v (Value.int .i64 t.2)), V.d (D.v (Value.int .i64 v.1.1)), V.d (D.v (Value.int .i64 v.1.2)), V.d (D.v (Value.bool v.2)), V.d (D.v (Value.int .i64 v.3)), V.d (D.v (Value.string v.4)), V.d (D.sl (cellsL args))])], kn := [], gd := [] : St } = { tm := [((2 : Nat), V.d (D.v (Value.int .i64 0))), ((3 : Nat), V.d (D.v (Value.int .i64 (deepL (0 : Int) (List.take x' args))))), ((7 : Nat), V.d (D.sl (cellsL args))), ((8 : Nat), V.d (D.v (Value.int .i64 (↑(cellsL args).length : Int)))), ((9 : Nat), V.d (D.v (Value.int .i64 (↑x' : Int))))], hp := [((1 : Nat), B.box [V.d (D.v (Value.int .i64 op)), V.d (D.v (Value.int .i64 sub)), V.d (D.v (Value.int .i64 t.1)), V.d (D.v (Value.int .i64 t.2)), V.d (D.v (Value.int .i64 v.1.1)), V.d (D.v (Value.int .i64 v.1.2)), V.d (D.v (Value.bool v.2)), V.d (D.v (Value.int .i64 v.3)), V.d (D.v (Value.string v.4)), V.d (D.sl (cellsL args))])], kn := [], gd := [] : St } ∧ inv_n args m x') ∧ (decide ((↑x : Int) < (↑(cellsL args).length : Int)) = false → Q [.d (.v (.int .i64 (IntKind.i64.wrap (deepL (0 : Int) (List.take x args) + (1 : Int)))))] [])) := by kernel_rfl

end Go.Proofs.Tryz
