/- A part of the proof: contracts of functions, by a verified generator of conditions; no condition of its own. -/
import Derived.Test.YtfohenhmlfiijaaGreatDoorDm21
import Derived.Test.YtfohenhmlfiijaaGreatDoorProg
import Derived.KernelRfl
namespace Go.Proofs.Tryz
open Go Go.Dm
set_option maxRecDepth 100000
def te_0 : List (Nat × TI) := [
    (1, { agg := false, ck := [.fn], bytes := 8, td := .other }),
    (2, { agg := false, ck := [.int .i64], bytes := 8, td := .plain }),
    (3, { agg := false, ck := [.int .i64], bytes := 8, td := .plain }),
    (4, { agg := false, ck := [.bool], bytes := 1, td := .plain }),
    (5, { agg := false, ck := [.int .u8], bytes := 1, td := .plain }),
    (6, { agg := false, ck := [.int .u8], bytes := 1, td := .plain }),
    (7, { agg := true, ck := [.int .i64, .int .i64, .bool, .int .u8], bytes := 24, td := .struct [(0, 2), (1, 3), (2, 4), (3, 6)], eq := true }),
    (8, { agg := true, ck := [.int .i64, .int .i64, .bool, .int .u8], bytes := 24, td := .struct [(0, 2), (1, 3), (2, 4), (3, 6)], eq := true }),
    (9, { agg := false, ck := [.str], bytes := 16, td := .plain }),
    (10, { agg := false, ck := [.str], bytes := 16, td := .plain }),
    (11, { agg := false, ck := [.str], bytes := 16, td := .plain }),
    (12, { agg := false, ck := [.int .u64], bytes := 8, td := .plain }),
    (13, { agg := true, ck := [.str, .int .u64], bytes := 24, td := .struct [(0, 9), (1, 12)] }),
    (14, { agg := true, ck := [.str, .int .u64], bytes := 24, td := .struct [(0, 9), (1, 12)] }),
    (15, { agg := false, ck := [.ptr], bytes := 8, td := .ptr 220 }),
    (16, { agg := false, ck := [.ptr], bytes := 8, td := .ptr 223 }),
    (17, { agg := false, ck := [.ptr], bytes := 8, td := .ptr 230 }),
    (18, { agg := true, ck := [.ptr], bytes := 8, td := .struct [(0, 17)] }),
    (19, { agg := true, ck := [.ptr], bytes := 8, td := .struct [(0, 17)] }),
    (20, { agg := false, ck := [.iface], bytes := 16, td := .iface }),
    (21, { agg := false, ck := [.int .i32], bytes := 4, td := .plain }),
    (22, { agg := true, ck := [.int .i64, .int .i64], bytes := 16, td := .struct [(0, 3), (1, 3)], eq := true }),
    (23, { agg := true, ck := [.int .i64, .int .i64], bytes := 16, td := .struct [(0, 3), (1, 3)], eq := true }),
    (24, { agg := true, ck := [.int .i64, .int .i64, .bool, .int .i64, .str], bytes := 48, td := .struct [(0, 23), (2, 4), (3, 2), (4, 9)], eq := true }),
    (25, { agg := true, ck := [.int .i64, .int .i64, .bool, .int .i64, .str], bytes := 48, td := .struct [(0, 23), (2, 4), (3, 2), (4, 9)], eq := true }),
    (26, { agg := false, ck := [.sl], bytes := 24, td := .slice 28 }),
    (27, { agg := true, ck := [.int .i64, .int .i64, .int .i64, .int .i64, .int .i64, .int .i64, .bool, .int .i64, .str, .sl], bytes := 104, td := .struct [(0, 3), (1, 3), (2, 23), (4, 25), (9, 26)] }),
    (28, { agg := true, ck := [.int .i64, .int .i64, .int .i64, .int .i64, .int .i64, .int .i64, .bool, .int .i64, .str, .sl], bytes := 104, td := .struct [(0, 3), (1, 3), (2, 23), (4, 25), (9, 26)] }),
    (29, { agg := false, ck := [.sl], bytes := 24, td := .slice 25 }),
    (30, { agg := false, ck := [.int .i64], bytes := 8, td := .plain }),
    (32, { agg := false, ck := [.fn], bytes := 8, td := .other }),
    (34, { agg := false, ck := [.fn], bytes := 8, td := .other }),
    (35, { agg := false, ck := [.sl], bytes := 24, td := .slice 23 }),
    (36, { agg := false, ck := [.fn], bytes := 8, td := .other }),
    (37, { agg := false, ck := [.fn], bytes := 8, td := .other }),
    (38, { agg := false, ck := [.fn], bytes := 8, td := .other }),
    (39, { agg := false, ck := [.fn], bytes := 8, td := .other }),
    (40, { agg := false, ck := [.sl], bytes := 24, td := .slice 3 }),
    (42, { agg := false, ck := [.fn], bytes := 8, td := .other }),
    (43, { agg := false, ck := [.fn], bytes := 8, td := .other }),
    (44, { agg := false, ck := [.fn], bytes := 8, td := .other }),
    (45, { agg := false, ck := [.fn], bytes := 8, td := .other }),
    (46, { agg := false, ck := [.fn], bytes := 8, td := .other }),
    (47, { agg := false, ck := [.fn], bytes := 8, td := .other }),
    (49, { agg := false, ck := [.ptr], bytes := 8, td := .ptr 51 }),
    (50, { agg := true, ck := [.sl, .sl], bytes := 48, td := .struct [(0, 29), (1, 35)] }),
    (51, { agg := true, ck := [.sl, .sl], bytes := 48, td := .struct [(0, 29), (1, 35)] }),
    (52, { agg := false, ck := [.fn], bytes := 8, td := .other }),
    (53, { agg := false, ck := [.fn], bytes := 8, td := .other }),
    (54, { agg := false, ck := [.fn], bytes := 8, td := .other }),
    (55, { agg := false, ck := [.fn], bytes := 8, td := .other }),
    (56, { agg := false, ck := [.fn], bytes := 8, td := .other }),
    (57, { agg := false, ck := [.fn], bytes := 8, td := .other }),
    (59, { agg := false, ck := [.fn], bytes := 8, td := .other }),
    (60, { agg := false, ck := [.fn], bytes := 8, td := .other }),
    (61, { agg := false, ck := [.fn], bytes := 8, td := .other }),
    (62, { agg := false, ck := [.fn], bytes := 8, td := .other }),
    (63, { agg := false, ck := [.fn], bytes := 8, td := .other }),
    (64, { agg := false, ck := [.fn], bytes := 8, td := .other }),
    (65, { agg := false, ck := [.fn], bytes := 8, td := .other }),
    (67, { agg := false, ck := [.fn], bytes := 8, td := .other }),
    (68, { agg := false, ck := [.fn], bytes := 8, td := .other }),
    (69, { agg := false, ck := [.fn], bytes := 8, td := .other }),
    (70, { agg := false, ck := [.fn], bytes := 8, td := .other }),
    (71, { agg := false, ck := [.fn], bytes := 8, td := .other }),
    (72, { agg := false, ck := [.fn], bytes := 8, td := .other }),
    (73, { agg := false, ck := [.fn], bytes := 8, td := .other }),
    (74, { agg := false, ck := [.fn], bytes := 8, td := .other }),
    (75, { agg := false, ck := [.fn], bytes := 8, td := .other }),
    (76, { agg := false, ck := [.fn], bytes := 8, td := .other }),
    (77, { agg := false, ck := [.fn], bytes := 8, td := .other }),
    (78, { agg := false, ck := [.fn], bytes := 8, td := .other }),
    (79, { agg := false, ck := [.fn], bytes := 8, td := .other }),
    (80, { agg := false, ck := [.fn], bytes := 8, td := .other }),
    (81, { agg := false, ck := [.fn], bytes := 8, td := .other }),
    (82, { agg := false, ck := [.fn], bytes := 8, td := .other }),
    (83, { agg := false, ck := [.fn], bytes := 8, td := .other }),
    (84, { agg := false, ck := [.sl], bytes := 24, td := .slice 9 }),
    (85, { agg := false, ck := [.fn], bytes := 8, td := .other }),
    (86, { agg := false, ck := [.fn], bytes := 8, td := .other }),
    (87, { agg := false, ck := [.fn], bytes := 8, td := .other }),
    (89, { agg := false, ck := [.fn], bytes := 8, td := .other }),
    (90, { agg := false, ck := [.fn], bytes := 8, td := .other }),
    (91, { agg := false, ck := [.fn], bytes := 8, td := .other }),
    (92, { agg := false, ck := [.fn], bytes := 8, td := .other }),
    (93, { agg := false, ck := [.fn], bytes := 8, td := .other }),
    (95, { agg := false, ck := [.fn], bytes := 8, td := .other }),
    (96, { agg := false, ck := [.fn], bytes := 8, td := .other }),
    (97, { agg := false, ck := [.fn], bytes := 8, td := .other }),
    (98, { agg := false, ck := [.fn], bytes := 8, td := .other }),
    (99, { agg := false, ck := [.fn], bytes := 8, td := .other }),
    (101, { agg := false, ck := [.fn], bytes := 8, td := .other }),
    (102, { agg := false, ck := [.fn], bytes := 8, td := .other }),
    (103, { agg := true, ck := [.str, .str, .str, .str, .str, .str, .str, .str, .str, .str, .str, .str, .str, .str, .str, .str, .str, .str, .str], bytes := 304, td := .arr 19 9 }),
    (104, { agg := true, ck := [.str, .str, .str, .str, .str, .str, .str], bytes := 112, td := .arr 7 9 }),
    (105, { agg := false, ck := [.ptr], bytes := 8, td := .ptr 108 }),
    (106, { agg := false, ck := [.sl], bytes := 24, td := .slice 5 }),
    (107, { agg := true, ck := [.ptr, .sl], bytes := 32, td := .struct [(0, 105), (1, 106)] }),
    (108, { agg := true, ck := [.ptr, .sl], bytes := 32, td := .struct [(0, 105), (1, 106)] }),
    (109, { agg := false, ck := [.fn], bytes := 8, td := .other }),
    (110, { agg := false, ck := [.iface], bytes := 16, td := .iface }),
    (111, { agg := false, ck := [.iface], bytes := 16, td := .iface }),
    (113, { agg := false, ck := [.fn], bytes := 8, td := .other }),
    (114, { agg := false, ck := [.fn], bytes := 8, td := .other }),
    (115, { agg := false, ck := [.fn], bytes := 8, td := .other }),
    (116, { agg := false, ck := [.fn], bytes := 8, td := .other }),
    (117, { agg := false, ck := [.fn], bytes := 8, td := .other }),
    (118, { agg := false, ck := [.fn], bytes := 8, td := .other }),
    (119, { agg := false, ck := [.fn], bytes := 8, td := .other }),
    (120, { agg := true, ck := [.bool, .bool, .bool, .bool, .bool, .bool, .bool], bytes := 7, td := .arr 7 4 }),
    (121, { agg := false, ck := [.fn], bytes := 8, td := .other }),
    (122, { agg := false, ck := [.int .u64], bytes := 8, td := .plain }),
    (123, { agg := true, ck := [.int .i64, .int .u64], bytes := 16, td := .struct [(0, 2), (1, 122)], eq := true }),
    (124, { agg := true, ck := [.int .i64, .int .u64], bytes := 16, td := .struct [(0, 2), (1, 122)], eq := true }),
    (125, { agg := false, ck := [.fn], bytes := 8, td := .other }),
    (126, { agg := false, ck := [.fn], bytes := 8, td := .other }),
    (128, { agg := false, ck := [.fn], bytes := 8, td := .other }),
    (129, { agg := false, ck := [.fn], bytes := 8, td := .other }),
    (131, { agg := false, ck := [.fn], bytes := 8, td := .other }),
    (132, { agg := false, ck := [.fn], bytes := 8, td := .other }),
    (133, { agg := false, ck := [.ptr], bytes := 8, td := .ptr 5 }),
    (134, { agg := false, ck := [.map], bytes := 8, td := .map 9 2 }),
    (136, { agg := false, ck := [.fn], bytes := 8, td := .other }),
    (137, { agg := false, ck := [.fn], bytes := 8, td := .other }),
    (139, { agg := false, ck := [.fn], bytes := 8, td := .other }),
    (140, { agg := false, ck := [.fn], bytes := 8, td := .other }),
    (141, { agg := false, ck := [.fn], bytes := 8, td := .other }),
    (142, { agg := false, ck := [.fn], bytes := 8, td := .other }),
    (143, { agg := false, ck := [.fn], bytes := 8, td := .other }),
    (144, { agg := false, ck := [.fn], bytes := 8, td := .other }),
    (145, { agg := false, ck := [.int .u64], bytes := 8, td := .plain }),
    (146, { agg := true, ck := [.int .u8, .int .u8, .int .u8, .int .u8, .int .u8, .int .u8, .int .u8, .int .u8, .int .u8, .int .u8, .int .u8, .int .u8, .int .u8, .int .u8, .int .u8, .int .u8, .int .u8, .int .u8, .int .u8, .int .u8, .int .u8, .int .u8, .int .u8, .int .u8], bytes := 24, td := .arr 24 5 }),
    (147, { agg := false, ck := [.fn], bytes := 8, td := .other }),
    (148, { agg := false, ck := [.fn], bytes := 8, td := .other }),
    (150, { agg := false, ck := [.fn], bytes := 8, td := .other }),
    (152, { agg := false, ck := [.fn], bytes := 8, td := .other }),
    (153, { agg := false, ck := [.fn], bytes := 8, td := .other }),
    (155, { agg := false, ck := [.fn], bytes := 8, td := .other }),
    (156, { agg := false, ck := [.fn], bytes := 8, td := .other }),
    (157, { agg := false, ck := [.fn], bytes := 8, td := .other }),
    (158, { agg := false, ck := [.fn], bytes := 8, td := .other }),
    (159, { agg := false, ck := [.fn], bytes := 8, td := .other }),
    (160, { agg := false, ck := [.fn], bytes := 8, td := .other }),
    (162, { agg := false, ck := [.fn], bytes := 8, td := .other }),
    (164, { agg := false, ck := [.fn], bytes := 8, td := .other }),
    (165, { agg := false, ck := [.fn], bytes := 8, td := .other }),
    (166, { agg := false, ck := [.fn], bytes := 8, td := .other }),
    (167, { agg := true, ck := [.int .u64, .int .u64, .int .u64, .int .u64, .int .u64, .int .u64, .int .u64, .int .u64, .int .u64, .int .u64, .int .u64, .int .u64, .int .u64, .int .u64, .int .u64, .int .u64, .int .u64, .int .u64, .int .u64, .int .u64], bytes := 160, td := .arr 20 122 }),
    (168, { agg := false, ck := [.int .u32], bytes := 4, td := .plain }),
    (169, { agg := true, ck := [.int .u8, .int .u8, .int .u8, .int .u8, .int .u8, .int .u8, .int .u8, .int .u8, .int .u8, .int .u8, .int .u8, .int .u8, .int .u8, .int .u8, .int .u8, .int .u8, .int .u8, .int .u8, .int .u8, .int .u8, .int .u8, .int .u8, .int .u8, .int .u8, .int .u8, .int .u8, .int .u8, .int .u8, .int .u8, .int .u8, .int .u8, .int .u8, .int .u8, .int .u8, .int .u8, .int .u8, .int .u8, .int .u8, .int .u8, .int .u8, .int .u8, .int .u8, .int .u8, .int .u8, .int .u8, .int .u8, .int .u8, .int .u8, .int .u8, .int .u8, .int .u8, .int .u8, .int .u8, .int .u8, .int .u8, .int .u8, .int .u8, .int .u8, .int .u8, .int .u8, .int .u8, .int .u8, .int .u8, .int .u8, .int .u8], bytes := 65, td := .arr 65 5 }),
    (170, { agg := false, ck := [.fn], bytes := 8, td := .other }),
    (171, { agg := false, ck := [.fn], bytes := 8, td := .other }),
    (172, { agg := false, ck := [.fn], bytes := 8, td := .other }),
    (173, { agg := false, ck := [.fn], bytes := 8, td := .other }),
    (175, { agg := false, ck := [.fn], bytes := 8, td := .other }),
    (176, { agg := false, ck := [.fn], bytes := 8, td := .other }),
    (177, { agg := true, ck := [.int .i64, .int .i64, .int .i64, .int .i64, .int .i64, .int .i64, .int .i64, .int .i64, .int .i64, .int .i64, .int .i64, .int .i64], bytes := 96, td := .arr 12 3 }),
    (178, { agg := false, ck := [.fn], bytes := 8, td := .other }),
    (179, { agg := false, ck := [.fn], bytes := 8, td := .other }),
    (180, { agg := false, ck := [.fn], bytes := 8, td := .other }),
    (181, { agg := false, ck := [.fn], bytes := 8, td := .other }),
    (182, { agg := false, ck := [.fn], bytes := 8, td := .other }),
    (183, { agg := true, ck := [.int .u8, .int .u8, .int .u8, .int .u8, .int .u8, .int .u8, .int .u8, .int .u8, .int .u8, .int .u8, .int .u8, .int .u8, .int .u8, .int .u8, .int .u8, .int .u8, .int .u8, .int .u8, .int .u8, .int .u8, .int .u8, .int .u8, .int .u8, .int .u8, .int .u8, .int .u8, .int .u8, .int .u8, .int .u8, .int .u8, .int .u8, .int .u8, .int .u8, .int .u8, .int .u8, .int .u8, .int .u8, .int .u8, .int .u8, .int .u8, .int .u8, .int .u8, .int .u8, .int .u8, .int .u8, .int .u8, .int .u8, .int .u8, .int .u8, .int .u8, .int .u8, .int .u8, .int .u8, .int .u8, .int .u8, .int .u8, .int .u8, .int .u8, .int .u8, .int .u8, .int .u8, .int .u8, .int .u8, .int .u8, .int .u8, .int .u8, .int .u8, .int .u8, .int .u8, .int .u8, .int .u8, .int .u8, .int .u8, .int .u8, .int .u8, .int .u8, .int .u8, .int .u8, .int .u8, .int .u8, .int .u8, .int .u8, .int .u8, .int .u8, .int .u8, .int .u8, .int .u8, .int .u8, .int .u8, .int .u8, .int .u8, .int .u8, .int .u8, .int .u8, .int .u8, .int .u8, .int .u8, .int .u8, .int .u8, .int .u8, .int .u8, .int .u8, .int .u8, .int .u8, .int .u8, .int .u8, .int .u8, .int .u8, .int .u8, .int .u8, .int .u8, .int .u8, .int .u8, .int .u8, .int .u8, .int .u8, .int .u8, .int .u8, .int .u8, .int .u8, .int .u8, .int .u8, .int .u8, .int .u8, .int .u8, .int .u8, .int .u8, .int .u8, .int .u8, .int .u8, .int .u8, .int .u8, .int .u8, .int .u8, .int .u8, .int .u8, .int .u8, .int .u8, .int .u8, .int .u8, .int .u8, .int .u8, .int .u8, .int .u8, .int .u8, .int .u8, .int .u8, .int .u8, .int .u8, .int .u8, .int .u8, .int .u8, .int .u8, .int .u8, .int .u8, .int .u8, .int .u8, .int .u8, .int .u8, .int .u8, .int .u8, .int .u8, .int .u8, .int .u8, .int .u8, .int .u8, .int .u8, .int .u8, .int .u8, .int .u8, .int .u8, .int .u8, .int .u8, .int .u8, .int .u8, .int .u8, .int .u8, .int .u8, .int .u8, .int .u8, .int .u8, .int .u8, .int .u8, .int .u8, .int .u8, .int .u8, .int .u8, .int .u8, .int .u8, .int .u8, .int .u8, .int .u8, .int .u8, .int .u8, .int .u8, .int .u8, .int .u8, .int .u8, .int .u8, .int .u8, .int .u8, .int .u8, .int .u8, .int .u8, .int .u8, .int .u8, .int .u8, .int .u8, .int .u8, .int .u8, .int .u8, .int .u8, .int .u8, .int .u8, .int .u8, .int .u8, .int .u8, .int .u8, .int .u8, .int .u8, .int .u8, .int .u8, .int .u8, .int .u8, .int .u8, .int .u8, .int .u8, .int .u8, .int .u8, .int .u8, .int .u8, .int .u8, .int .u8, .int .u8, .int .u8, .int .u8, .int .u8, .int .u8, .int .u8, .int .u8, .int .u8, .int .u8, .int .u8, .int .u8, .int .u8, .int .u8, .int .u8, .int .u8, .int .u8, .int .u8, .int .u8, .int .u8, .int .u8, .int .u8, .int .u8, .int .u8], bytes := 256, td := .arr 256 5 }),
    (184, { agg := true, ck := [.int .u8, .int .u8], bytes := 2, td := .struct [(0, 5), (1, 5)], eq := true }),
    (185, { agg := true, ck := [.int .u8, .int .u8], bytes := 2, td := .struct [(0, 5), (1, 5)], eq := true }),
    (186, { agg := true, ck := [.int .u8, .int .u8, .int .u8, .int .u8, .int .u8, .int .u8, .int .u8, .int .u8, .int .u8, .int .u8, .int .u8, .int .u8, .int .u8, .int .u8, .int .u8, .int .u8, .int .u8, .int .u8, .int .u8, .int .u8, .int .u8, .int .u8, .int .u8, .int .u8, .int .u8, .int .u8, .int .u8, .int .u8, .int .u8, .int .u8, .int .u8, .int .u8], bytes := 32, td := .arr 16 185 }),
    (188, { agg := false, ck := [.fn], bytes := 8, td := .other }),
    (190, { agg := false, ck := [.fn], bytes := 8, td := .other }),
    (191, { agg := false, ck := [.fn], bytes := 8, td := .other }),
    (192, { agg := false, ck := [.fn], bytes := 8, td := .other }),
    (193, { agg := true, ck := [.bool, .bool, .bool, .bool, .bool, .bool, .bool, .bool, .bool, .bool, .bool, .bool, .bool, .bool, .bool, .bool, .bool, .bool, .bool, .bool, .bool, .bool, .bool, .bool, .bool, .bool, .bool, .bool, .bool, .bool, .bool, .bool, .bool, .bool, .bool, .bool, .bool, .bool, .bool, .bool, .bool, .bool, .bool, .bool, .bool, .bool, .bool, .bool, .bool, .bool, .bool, .bool, .bool, .bool, .bool, .bool, .bool, .bool, .bool, .bool, .bool, .bool, .bool, .bool, .bool, .bool, .bool, .bool, .bool, .bool, .bool, .bool, .bool, .bool, .bool, .bool, .bool, .bool, .bool, .bool, .bool, .bool, .bool, .bool, .bool, .bool, .bool, .bool, .bool, .bool, .bool, .bool, .bool, .bool, .bool, .bool, .bool, .bool, .bool, .bool, .bool, .bool, .bool, .bool, .bool, .bool, .bool, .bool, .bool, .bool, .bool, .bool, .bool, .bool, .bool, .bool, .bool, .bool, .bool, .bool, .bool, .bool, .bool, .bool, .bool, .bool, .bool, .bool, .bool, .bool, .bool, .bool, .bool, .bool, .bool, .bool, .bool, .bool, .bool, .bool, .bool, .bool, .bool, .bool, .bool, .bool, .bool, .bool, .bool, .bool, .bool, .bool, .bool, .bool, .bool, .bool, .bool, .bool, .bool, .bool, .bool, .bool, .bool, .bool, .bool, .bool, .bool, .bool, .bool, .bool, .bool, .bool, .bool, .bool, .bool, .bool, .bool, .bool, .bool, .bool, .bool, .bool, .bool, .bool, .bool, .bool, .bool, .bool, .bool, .bool, .bool, .bool, .bool, .bool, .bool, .bool, .bool, .bool, .bool, .bool, .bool, .bool, .bool, .bool, .bool, .bool, .bool, .bool, .bool, .bool, .bool, .bool, .bool, .bool, .bool, .bool, .bool, .bool, .bool, .bool, .bool, .bool, .bool, .bool, .bool, .bool, .bool, .bool, .bool, .bool, .bool, .bool, .bool, .bool, .bool, .bool, .bool, .bool, .bool, .bool, .bool, .bool, .bool, .bool, .bool, .bool, .bool, .bool, .bool, .bool, .bool, .bool, .bool, .bool, .bool, .bool], bytes := 256, td := .arr 256 4 }),
    (194, { agg := true, ck := [.bool, .bool, .bool, .bool, .bool, .bool, .bool, .bool, .bool, .bool, .bool, .bool, .bool, .bool, .bool, .bool, .bool, .bool, .bool, .bool, .bool, .bool, .bool, .bool, .bool, .bool, .bool, .bool, .bool, .bool, .bool, .bool, .bool, .bool, .bool, .bool, .bool, .bool, .bool, .bool, .bool, .bool, .bool, .bool, .bool, .bool, .bool, .bool, .bool, .bool, .bool, .bool, .bool, .bool, .bool, .bool, .bool, .bool, .bool, .bool, .bool, .bool, .bool, .bool, .bool, .bool, .bool, .bool, .bool, .bool, .bool, .bool, .bool, .bool, .bool, .bool, .bool, .bool, .bool, .bool, .bool, .bool, .bool, .bool, .bool, .bool, .bool, .bool, .bool, .bool, .bool, .bool, .bool, .bool, .bool, .bool, .bool, .bool, .bool, .bool, .bool, .bool, .bool, .bool, .bool, .bool, .bool, .bool, .bool, .bool, .bool, .bool, .bool, .bool, .bool, .bool, .bool, .bool, .bool, .bool, .bool, .bool, .bool, .bool, .bool, .bool, .bool, .bool, .bool, .bool, .bool, .bool, .bool, .bool, .bool, .bool, .bool, .bool, .bool, .bool, .bool, .bool, .bool, .bool, .bool, .bool, .bool, .bool, .bool, .bool, .bool, .bool, .bool, .bool, .bool, .bool, .bool, .bool, .bool, .bool, .bool, .bool, .bool, .bool, .bool, .bool, .bool, .bool, .bool, .bool, .bool, .bool, .bool, .bool, .bool, .bool, .bool, .bool, .bool, .bool, .bool, .bool, .bool, .bool, .bool, .bool, .bool, .bool, .bool, .bool, .bool, .bool, .bool, .bool, .bool, .bool, .bool, .bool, .bool, .bool, .bool, .bool, .bool, .bool, .bool, .bool, .bool, .bool, .bool, .bool, .bool, .bool, .bool, .bool, .bool, .bool, .bool, .bool, .bool, .bool, .bool, .bool, .bool, .bool, .bool, .bool, .bool, .bool, .bool, .bool, .bool, .bool, .bool, .bool, .bool, .bool, .bool, .bool, .bool, .bool, .bool, .bool, .bool, .bool, .bool, .bool, .bool, .bool, .bool, .bool, .bool, .bool, .bool, .bool, .bool, .bool], bytes := 256, td := .arr 256 4 }),
    (196, { agg := false, ck := [.fn], bytes := 8, td := .other }),
    (197, { agg := false, ck := [.fn], bytes := 8, td := .other }),
    (198, { agg := false, ck := [.ptr], bytes := 8, td := .ptr 194 }),
    (199, { agg := false, ck := [.int .i64], bytes := 8, td := .plain }),
    (201, { agg := false, ck := [.fn], bytes := 8, td := .other }),
    (202, { agg := false, ck := [.ptr], bytes := 8, td := .ptr 212 }),
    (203, { agg := false, ck := [.fn], bytes := 8, td := .other }),
    (204, { agg := false, ck := [.fn], bytes := 8, td := .other }),
    (205, { agg := true, ck := [.int .u8, .int .u8, .int .u8, .int .u8, .int .u8, .int .u8, .int .u8, .int .u8, .int .u8, .int .u8, .int .u8, .int .u8, .int .u8, .int .u8, .int .u8, .int .u8, .int .u8, .int .u8, .int .u8, .int .u8, .int .u8, .int .u8, .int .u8, .int .u8, .int .u8, .int .u8, .int .u8, .int .u8, .int .u8, .int .u8, .int .u8, .int .u8], bytes := 32, td := .arr 32 5 }),
    (206, { agg := true, ck := [.int .u8, .int .u8, .int .u8, .int .u8, .int .u8, .int .u8, .int .u8, .int .u8, .int .u8, .int .u8, .int .u8, .int .u8, .int .u8, .int .u8, .int .u8, .int .u8, .int .u8, .int .u8, .int .u8, .int .u8, .int .u8, .int .u8, .int .u8, .int .u8, .int .u8, .int .u8, .int .u8, .int .u8, .int .u8, .int .u8, .int .u8, .int .u8, .int .u8, .int .u8, .int .u8, .int .u8, .int .u8, .int .u8, .int .u8, .int .u8, .int .u8, .int .u8, .int .u8, .int .u8, .int .u8, .int .u8, .int .u8, .int .u8, .int .u8, .int .u8, .int .u8, .int .u8, .int .u8, .int .u8, .int .u8, .int .u8, .int .u8, .int .u8, .int .u8, .int .u8, .int .u8, .int .u8, .int .u8, .int .u8], bytes := 64, td := .arr 64 5 }),
    (207, { agg := false, ck := [.fn], bytes := 8, td := .other }),
    (208, { agg := false, ck := [.fn], bytes := 8, td := .other }),
    (209, { agg := false, ck := [.fn], bytes := 8, td := .other }),
    (210, { agg := false, ck := [.fn], bytes := 8, td := .other }),
    (211, { agg := true, ck := [.str, .str, .iface], bytes := 48, td := .struct [(0, 9), (1, 9), (2, 111)] }),
    (212, { agg := true, ck := [.str, .str, .iface], bytes := 48, td := .struct [(0, 9), (1, 9), (2, 111)] }),
    (213, { agg := false, ck := [.fn], bytes := 8, td := .other }),
    (214, { agg := false, ck := [.fn], bytes := 8, td := .other }),
    (215, { agg := false, ck := [.ptr], bytes := 8, td := .ptr 217 }),
    (216, { agg := true, ck := [.str], bytes := 16, td := .struct [(0, 9)], eq := true }),
    (217, { agg := true, ck := [.str], bytes := 16, td := .struct [(0, 9)], eq := true }),
    (218, { agg := false, ck := [.fn], bytes := 8, td := .other }),
    (219, { agg := true, ck := [.ptr, .ptr, .ptr, .str], bytes := 40, td := .struct [(0, 17), (1, 17), (2, 17), (3, 9)] }),
    (220, { agg := true, ck := [.ptr, .ptr, .ptr, .str], bytes := 40, td := .struct [(0, 17), (1, 17), (2, 17), (3, 9)] }),
    (224, { agg := false, ck := [.int .u8], bytes := 1, td := .plain }),
    (225, { agg := false, ck := [.int .u8], bytes := 1, td := .plain }),
    (226, { agg := false, ck := [.fn], bytes := 8, td := .other }),
    (227, { agg := false, ck := [.int .i32], bytes := 4, td := .plain }),
    (228, { agg := false, ck := [.int .i32], bytes := 4, td := .plain }),
    (229, { agg := true, ck := [.int .u64, .int .u64, .int .u32, .int .u8, .int .u8, .int .u8, .int .u8, .fn, .ptr, .int .i32, .int .i32], bytes := 48, td := .struct [(0, 12), (1, 12), (2, 168), (3, 224), (4, 5), (5, 5), (6, 225), (7, 226), (8, 133), (9, 227), (10, 228)] }),
    (230, { agg := true, ck := [.int .u64, .int .u64, .int .u32, .int .u8, .int .u8, .int .u8, .int .u8, .fn, .ptr, .int .i32, .int .i32], bytes := 48, td := .struct [(0, 12), (1, 12), (2, 168), (3, 224), (4, 5), (5, 5), (6, 225), (7, 226), (8, 133), (9, 227), (10, 228)] })]
def E_0 : Env := { te := te_0 }
/-- colonnade/colonnadelaw14.ExprSafe -/
def fi5 : Fi := { keep := [2, 4, 6, 8, 17, 19, 20, 21, 22, 27], sc := [(1, (.one 0 [] (.q 1 (.q 2 (.q 3 (.q 4 (.one 5 [4, 2, 1] (.one 6 [3] (.q 7 (.q 8 .done))))))))))], lp := [(4, ([1, 2, 4, 19, 20, 21], [6, 26]))] }
/-- colonnade/expr.Eval -/
def fi6 : Fi := { keep := [2, 4, 5, 7, 8, 9, 18, 22, 35], sc := [(1, (.q 0 (.q 1 (.alt 2 [1] (.alt 3 [0] (.q 4 (.q 5 (.q 6 (.one 7 [] (.one 8 [5, 4] (.q 9 .done)))))) (.one 7 [] (.one 3 [0] (.q 4 (.q 5 (.q 6 (.one 8 [5, 4] (.q 9 .done)))))))) (.one 7 [] (.one 2 [1] (.one 3 [0] (.q 4 (.q 5 (.q 6 (.one 8 [5, 4] (.q 9 .done)))))))))))), (6, (.q 0 (.q 1 (.q 5 (.alt 2 [1] (.q 3 (.alt 4 [3, 0] (.alt 6 [5] (.q 7 (.q 8 (.q 9 (.one 10 [] (.one 11 [8, 7] (.q 12 .done)))))) (.one 10 [] (.one 6 [5] (.q 7 (.q 8 (.q 9 (.one 11 [8, 7] (.q 12 .done)))))))) (.one 10 [] (.one 4 [3, 0] (.one 6 [5] (.q 7 (.q 8 (.q 9 (.one 11 [8, 7] (.q 12 .done)))))))))) (.one 10 [] (.one 2 [1] (.q 3 (.one 4 [3, 0] (.one 6 [5] (.q 7 (.q 8 (.q 9 (.one 11 [8, 7] (.q 12 .done)))))))))))))))], lp := [] }
/-- colonnade/expr.Check -/
def fi7 : Fi := { keep := [2, 4, 5, 6, 7, 26, 35], sc := [], lp := [] }
/-- colonnade/colonnaderef14.Types -/
def fi8 : Fi := { keep := [2, 3, 4, 8], sc := [], lp := [(3, ([0, 2, 3, 4], [17, 18]))] }
/-- colonnade/colonnadelaw14.begun -/
def fi9 : Fi := { keep := [0, 1, 2, 3, 4, 5, 7], sc := [(5, (.q 0 (.one 1 [] (.q 2 (.q 3 (.q 4 (.q 5 (.q 6 (.q 7 (.q 8 (.q 9 (.q 10 (.q 11 (.q 12 (.q 13 (.one 14 [13, 12, 11, 10, 9, 8, 7, 6, 5, 4, 3, 2, 0] (.q 15 (.one 16 [15] (.q 17 (.q 18 (.q 19 .done)))))))))))))))))))))], lp := [] }
/-- colonnade/colonnaderef02.Check -/
def fi10 : Fi := { keep := [1, 2, 3, 4, 5, 10, 15, 26, 38, 42, 53, 60, 71], sc := [], lp := [] }
/-- colonnade/expr.Safe -/
def fi15 : Fi := { keep := [2, 4, 6], sc := [], lp := [] }
/-- colonnade/expr.types -/
def fi16 : Fi := { keep := [2, 3, 5, 6, 7, 8, 9], sc := [], lp := [(3, ([2, 3, 6, 7, 8], [5, 15, 16]))] }
/-- slices.ContainsFunc[[]colonnade/api.Value,colonnade/api.Value] -/
def fi17 : Fi := { keep := [4], sc := [], lp := [] }
/-- colonnade/expr.Eval$1 -/
def fi18 : Fi := { keep := [1, 2], sc := [], lp := [] }
/-- colonnade/value.Check -/
def fi19 : Fi := { keep := [1, 2, 3, 4, 5, 10, 18, 27, 41, 50, 64, 77], sc := [], lp := [] }
/-- (*colonnade/expr.eval).of -/
def fi20 : Fi := { keep := [3, 4, 5, 6, 8, 9, 10, 11, 12, 14, 15, 16, 17, 18, 19, 20, 21, 22, 33, 34, 44, 48, 56, 71, 83, 90, 104, 107, 132, 135, 136, 137, 138, 154, 165, 166, 167, 168, 179, 191, 197], sc := [(1, (.q 0 (.q 1 (.q 2 (.q 3 (.q 4 (.alt 5 [4, 3, 2, 1, 0] (.q 6 (.q 7 (.q 8 (.one 9 [] (.one 10 [7, 6] (.q 11 .done)))))) (.one 9 [] (.one 5 [4, 3, 2, 1, 0] (.q 6 (.q 7 (.q 8 (.one 10 [7, 6] (.q 11 .done)))))))))))))), (4, (.q 0 (.q 1 (.q 2 (.q 3 (.q 4 (.q 5 (.q 6 (.q 7 (.one 8 [7, 6, 5, 4, 3, 2, 1, 0] (.q 9 .done))))))))))), (14, (.q 0 (.q 1 (.q 2 (.q 3 (.q 4 (.q 5 (.q 6 (.one 7 [6, 5, 4, 3, 2, 1, 0] (.q 8 (.q 9 (.one 10 [9, 8] (.q 11 .done))))))))))))), (23, (.q 0 (.q 1 (.q 2 (.q 3 (.q 4 (.q 5 (.q 6 (.q 7 (.one 8 [7, 6, 5, 4, 3, 2, 1, 0] (.q 9 (.q 10 (.one 11 [10, 9] (.q 12 .done)))))))))))))), (24, (.q 0 (.q 1 (.q 2 (.q 3 (.q 4 (.q 5 (.q 6 (.q 7 (.q 8 (.q 9 (.one 10 [9, 8, 7, 6, 5, 4, 3, 2, 1, 0] (.q 11 (.q 12 (.one 13 [12, 11] (.q 14 .done)))))))))))))))), (42, (.q 0 (.q 1 (.q 2 (.q 3 (.q 4 (.q 5 (.q 6 (.q 7 (.q 8 (.one 9 [8, 4, 3, 2, 1, 0] (.q 10 .done))))))))))))], lp := [(17, ([0, 3, 4, 5, 6, 10], [100, 116])), (27, ([0, 3, 4, 5, 6, 135, 136, 137], [14, 15, 145])), (37, ([0, 3, 4, 5, 6, 17, 18, 165, 166, 167], [20, 21, 175]))] }
/-- slices.ContainsFunc[[]colonnade/api.Type,colonnade/api.Type] -/
def fi21 : Fi := { keep := [4], sc := [], lp := [] }
/-- colonnade/expr.Check$1 -/
def fi22 : Fi := { keep := [1, 2], sc := [], lp := [] }
/-- colonnade/value.CheckType -/
def fi23 : Fi := { keep := [1, 2, 26], sc := [], lp := [] }
/-- colonnade/expr.Nodes -/
def fi24 : Fi := { keep := [1, 2, 3, 5, 7, 8, 9, 10], sc := [], lp := [(3, ([2, 3, 7, 8, 9], [5, 15]))] }
/-- colonnade/expr.deep -/
def fi25 : Fi := { keep := [1, 2, 3, 5, 7, 8, 9, 10], sc := [], lp := [(3, ([2, 3, 7, 8, 9], [5, 15]))] }
/-- colonnade/expr.may -/
def fi26 : Fi := { keep := [2, 3, 4, 5, 6, 7, 8, 9, 25, 26, 39, 47, 59, 67, 74, 83, 87], sc := [(2, (.q 0 (.q 1 (.q 2 (.q 3 (.q 4 (.q 5 (.q 6 (.q 7 (.q 8 (.q 9 (.q 10 (.q 11 (.q 12 (.q 13 .done)))))))))))))))], lp := [] }
/-- colonnade/expr.typed -/
def fi27 : Fi := { keep := [2, 4, 5, 6, 8, 9, 10, 11, 12, 13, 14, 15, 16, 17, 18, 20, 21, 22, 23, 33, 44, 45, 52, 57, 67, 74, 77, 82, 87, 119, 138], sc := [(18, (.q 0 (.q 1 (.q 2 (.q 3 (.q 4 (.q 5 (.q 6 (.one 7 [6, 5, 4, 3, 2, 1] (.one 8 [0] (.q 9 .done))))))))))), (22, (.q 0 (.q 1 (.one 2 [1] (.one 3 [0] (.q 4 .done)))))), (28, (.q 0 (.q 1 (.one 2 [1] (.one 3 [0] (.q 4 .done)))))), (30, (.q 0 (.q 1 (.q 2 (.q 3 (.q 4 (.q 5 (.one 6 [] (.q 7 (.one 8 [7, 5, 4, 3, 2, 1, 0] .done)))))))))), (31, (.q 0 (.q 1 (.q 2 (.q 3 (.q 4 (.q 5 (.q 6 (.q 7 (.q 8 (.q 9 (.q 10 (.q 11 (.q 12 (.q 13 (.q 14 (.q 15 (.q 16 (.one 17 [16, 15, 14, 13, 12, 11, 10, 9, 8, 7, 6, 5, 4, 3, 2] (.q 18 (.q 19 (.q 20 (.one 21 [20, 19, 18] (.q 22 (.q 23 (.one 24 [1, 0] (.q 25 .done))))))))))))))))))))))))))), (38, (.q 0 (.q 1 (.q 2 (.q 3 (.q 4 (.q 5 (.q 6 (.q 7 (.q 8 (.q 9 .done))))))))))), (40, (.q 0 (.q 1 (.q 2 (.q 3 (.one 4 [3] (.one 5 [2, 1, 0] (.q 6 (.q 7 (.one 8 [7, 6] (.q 9 .done)))))))))))], lp := [(3, ([1, 2, 4, 5, 6, 20, 21, 22], [8, 9, 29, 37, 38])), (36, ([2, 4, 5, 6, 11, 13, 16, 17, 18], []))] }
/-- colonnade/colonnaderef02.OfInt -/
def fi28 : Fi := { keep := [2], sc := [], lp := [] }
/-- colonnade/expr.Show -/
def fi29 : Fi := { keep := [1, 2, 3, 5, 7, 8, 14, 23, 24, 25, 26], sc := [], lp := [(8, ([2, 3, 23, 24, 25], [5, 31, 32, 33]))] }
/-- colonnade/colonnaderef02.CheckType -/
def fi30 : Fi := { keep := [1, 2, 30], sc := [], lp := [] }
/-- colonnade/colonnaderef01.Fits -/
def fi31 : Fi := { keep := [2], sc := [], lp := [] }
/-- colonnade/expr.safe -/
def fi33 : Fi := { keep := [2, 4, 5, 7, 8, 11, 12, 13, 14, 20, 33, 34, 42, 56], sc := [(20, (.q 0 (.q 1 (.q 2 (.q 3 (.q 4 (.q 5 (.q 6 (.q 7 (.q 8 (.q 9 (.q 10 (.q 11 (.q 12 .done))))))))))))))], lp := [(3, ([1, 2, 4, 5, 11, 12, 13], [7, 8, 19, 24, 29, 30]))] }
/-- slices.IndexFunc[[]colonnade/api.Value,colonnade/api.Value] -/
def fi34 : Fi := { keep := [4, 5, 7, 8, 9, 16], sc := [], lp := [(2, ([0, 1, 4, 7, 8], [16]))] }
/-- colonnade/num.Fits -/
def fi35 : Fi := { keep := [2], sc := [], lp := [] }
/-- (*colonnade/expr.eval).logic -/
def fi36 : Fi := { keep := [3, 4, 5, 6, 7, 8, 9, 10, 13, 29], sc := [], lp := [] }
/-- (*colonnade/expr.eval).truth -/
def fi37 : Fi := { keep := [3, 4, 5, 6, 7, 8], sc := [], lp := [] }
/-- colonnade/expr.lift -/
def fi38 : Fi := { keep := [2, 4], sc := [], lp := [] }
/-- colonnade/value.Not -/
def fi39 : Fi := { keep := [2, 3, 4, 6], sc := [], lp := [] }
/-- (*colonnade/expr.eval).as -/
def fi40 : Fi := { keep := [4, 5, 6, 7, 8, 9, 10, 11, 19], sc := [], lp := [] }
/-- colonnade/value.None -/
def fi41 : Fi := { keep := [1, 2], sc := [], lp := [] }
/-- colonnade/value.OfBool -/
def fi42 : Fi := { keep := [2, 3], sc := [], lp := [] }
/-- colonnade/expr.reckon -/
def fi43 : Fi := { keep := [3, 4, 6, 7, 8, 9, 10, 12, 13, 14, 15, 16, 17, 28, 29, 41, 53, 66, 84, 87, 88, 98, 108, 118, 128, 138], sc := [(1, (.q 0 (.q 1 (.q 2 (.q 3 (.q 4 (.q 5 (.q 6 (.q 7 (.q 8 (.alt 9 [] (.one 10 [] (.one 11 [2, 1, 0] (.one 12 [8, 7, 6, 5, 4, 3] .done))) (.one 10 [] (.one 9 [] (.one 11 [2, 1, 0] (.one 12 [8, 7, 6, 5, 4, 3] .done))))))))))))))), (8, (.q 0 (.q 1 (.one 2 [1] (.q 3 (.one 4 [0] (.q 5 .done))))))), (33, (.q 0 (.q 1 (.q 2 (.q 3 (.q 4 (.one 5 [4, 3, 2, 1] (.q 6 (.q 7 (.one 8 [0] (.q 9 .done)))))))))))], lp := [] }
/-- slices.IndexFunc[[]colonnade/api.Type,colonnade/api.Type] -/
def fi44 : Fi := { keep := [4, 5, 7, 8, 9, 16], sc := [], lp := [(2, ([0, 1, 4, 7, 8], [16]))] }
/-- colonnade/value.scaled -/
def fi45 : Fi := { keep := [2], sc := [], lp := [] }
/-- slices.ContainsFunc[[]colonnade/api.Expr,colonnade/api.Expr] -/
def fi46 : Fi := { keep := [4], sc := [], lp := [] }
/-- colonnade/expr.may$1 -/
def fi47 : Fi := { keep := [2, 3], sc := [], lp := [] }
/-- colonnade/expr.typed$1 -/
def fi48 : Fi := { keep := [2, 3], sc := [], lp := [] }
/-- colonnade/expr.typed$1$1 -/
def fi49 : Fi := { keep := [2, 3], sc := [], lp := [] }
/-- colonnade/value.Alike -/
def fi50 : Fi := { keep := [2, 3, 4], sc := [(1, (.q 0 (.q 1 (.q 2 (.q 3 (.q 4 (.q 5 (.q 6 (.q 7 (.q 8 (.q 9 (.q 10 (.q 12 (.q 13 (.one 11 [10, 9, 8, 7, 6, 5, 4, 3, 2, 1, 0] (.one 14 [13, 12] (.q 15 (.q 16 (.q 17 .done)))))))))))))))))))], lp := [] }
/-- colonnade/expr.number -/
def fi51 : Fi := { keep := [1, 2], sc := [], lp := [] }
/-- colonnade/expr.common -/
def fi52 : Fi := { keep := [2, 3, 4, 5, 7, 12, 13, 14, 15, 18, 22], sc := [], lp := [(4, ([2, 3, 4, 5, 12, 13, 14], [7, 24, 27]))] }
/-- colonnade/expr.results -/
def fi53 : Fi := { keep := [2, 4, 5, 6, 9, 14], sc := [], lp := [(5, ([1, 4, 5, 6], [22, 23]))] }
/-- colonnade/expr.arith -/
def fi54 : Fi := { keep := [6, 7, 8, 9, 10, 11, 23, 26, 34, 40, 63, 76, 80], sc := [(1, (.q 0 (.q 1 (.q 2 (.q 3 (.q 4 (.q 5 (.q 6 (.q 7 (.q 8 (.alt 9 [] (.one 10 [] (.one 11 [2, 1, 0] (.one 12 [8, 7, 6, 5, 4, 3] .done))) (.one 10 [] (.one 9 [] (.one 11 [2, 1, 0] (.one 12 [8, 7, 6, 5, 4, 3] .done))))))))))))))), (8, (.q 0 (.q 1 (.one 2 [1] (.one 3 [0] (.q 4 .done)))))), (10, (.q 0 (.q 1 (.q 2 (.q 3 (.q 4 (.q 5 (.q 6 (.q 7 (.q 8 (.q 9 (.q 10 (.q 11 (.one 12 [5, 4, 3, 2, 1, 0] (.q 13 .done))))))))))))))), (17, (.q 0 (.q 1 (.q 2 (.q 3 (.q 4 (.q 5 (.q 6 (.q 7 (.q 8 (.q 9 (.q 10 (.q 11 (.q 12 (.q 13 (.q 14 (.q 15 (.q 16 (.q 17 (.q 18 (.q 19 (.q 20 (.q 21 (.q 22 (.one 23 [17, 16, 15, 14, 13, 12, 11, 10, 9, 8, 7, 6, 5, 4, 3, 2, 1, 0] (.q 24 .done))))))))))))))))))))))))))], lp := [] }
/-- colonnade/num.FormatInt -/
def fi55 : Fi := { keep := [2], sc := [], lp := [] }
/-- colonnade/value.Show -/
def fi56 : Fi := { keep := [1, 2, 3, 4, 8, 11, 21, 26, 36, 50, 61, 67], sc := [], lp := [] }
/-- colonnade/expr.word -/
def fi57 : Fi := { keep := [1, 2, 3, 4, 5, 8, 26, 38, 46, 60], sc := [], lp := [] }
/-- slices.Compact[[]colonnade/api.Type,colonnade/api.Type] -/
def fi59 : Fi := { keep := [2, 3, 4, 5, 8, 13, 25, 32, 44], sc := [(6, (.q 0 (.q 1 (.q 2 (.q 3 (.q 4 (.q 5 (.q 6 (.q 7 (.q 8 (.q 9 .done))))))))))), (11, (.q 0 (.q 1 (.q 2 (.q 3 (.q 4 (.q 5 (.q 6 (.q 7 (.q 8 (.q 9 .done)))))))))))], lp := [(4, ([0, 2, 3], [])), (9, ([0, 2, 3, 4, 5, 10, 11, 12, 13, 16, 17, 18, 19, 20, 21, 22, 23, 24, 25, 26, 27, 28], []))] }
/-- slices.Clone[[]colonnade/api.Type,colonnade/api.Type] -/
def fi60 : Fi := { keep := [2, 4], sc := [], lp := [] }
/-- colonnade/value.And -/
def fi61 : Fi := { keep := [4, 5, 12], sc := [], lp := [] }
/-- colonnade/value.Or -/
def fi62 : Fi := { keep := [4, 5, 12], sc := [], lp := [] }
/-- colonnade/value.Truth -/
def fi63 : Fi := { keep := [1, 2, 3, 4, 9, 12], sc := [], lp := [] }
/-- colonnade/value.Cast -/
def fi64 : Fi := { keep := [2, 3, 4, 5, 6, 7, 8, 9, 13, 19, 50, 55, 63, 72, 84, 106], sc := [(5, (.q 0 (.q 1 (.q 2 (.q 3 (.q 4 (.q 5 (.q 6 (.q 7 (.q 8 (.q 9 (.q 10 (.q 11 (.q 12 (.q 13 (.q 14 (.q 15 (.q 16 (.q 17 (.q 18 (.q 19 (.q 20 (.q 21 (.q 23 (.q 24 (.one 22 [21, 20, 19, 18, 17, 16, 15, 14, 13, 12, 11, 10, 9, 8, 7, 6, 5, 4, 3, 2, 1, 0] (.one 25 [24, 23] (.q 26 (.q 27 (.q 28 (.q 29 .done))))))))))))))))))))))))))))))), (17, (.q 0 (.q 1 (.q 2 (.q 4 (.q 5 (.one 3 [2] (.one 6 [5, 4, 1, 0] (.q 7 (.q 8 (.q 9 (.q 10 (.q 11 .done)))))))))))))], lp := [] }
/-- colonnade/value.of -/
def fi65 : Fi := { keep := [8], sc := [], lp := [] }
/-- colonnade/value.Test -/
def fi66 : Fi := { keep := [4, 5, 6, 7, 8, 9, 16, 23, 47], sc := [], lp := [] }
/-- colonnade/value.OfText -/
def fi67 : Fi := { keep := [2], sc := [], lp := [] }
/-- colonnade/value.OfInt -/
def fi68 : Fi := { keep := [2], sc := [], lp := [] }
/-- colonnade/num.Add -/
def fi69 : Fi := { keep := [4, 5, 6, 15], sc := [], lp := [] }
/-- colonnade/num.Sub -/
def fi70 : Fi := { keep := [4, 5, 6, 15], sc := [], lp := [] }
/-- colonnade/num.Mul -/
def fi71 : Fi := { keep := [4, 5], sc := [], lp := [] }
/-- colonnade/num.Div -/
def fi72 : Fi := { keep := [4, 5, 6, 9], sc := [], lp := [] }
/-- colonnade/num.Rem -/
def fi73 : Fi := { keep := [4, 5, 6, 7, 9], sc := [], lp := [] }
/-- colonnade/num.Neg -/
def fi74 : Fi := { keep := [2, 3], sc := [], lp := [] }
/-- slices.IndexFunc[[]colonnade/api.Expr,colonnade/api.Expr] -/
def fi75 : Fi := { keep := [4, 5, 7, 8, 9, 16], sc := [], lp := [(2, ([0, 1, 4, 7, 8], [16]))] }
/-- colonnade/value.family -/
def fi76 : Fi := { keep := [2, 4], sc := [], lp := [] }
/-- colonnade/num.FormatDec -/
def fi79 : Fi := { keep := [4, 5, 6, 7, 10, 22, 37], sc := [(6, (.q 0 (.q 1 (.q 2 (.q 3 (.q 4 (.q 5 (.q 6 (.q 7 (.q 8 (.q 9 (.q 10 (.q 11 (.q 12 (.q 13 (.q 14 .done))))))))))))))))], lp := [] }
/-- colonnade/num.FormatDay -/
def fi80 : Fi := { keep := [2, 3, 4, 5, 6, 7, 16], sc := [], lp := [] }
/-- colonnade/value.texted -/
def fi84 : Fi := { keep := [1, 2, 3, 4, 10, 15], sc := [], lp := [] }
/-- colonnade/value.read -/
def fi85 : Fi := { keep := [3, 4, 5, 6, 7, 8, 9, 10, 12, 13, 25, 26, 33, 42, 51, 59], sc := [], lp := [] }
/-- colonnade/num.Scale -/
def fi86 : Fi := { keep := [6, 7, 8, 10, 11, 12, 14, 15, 16, 25, 29, 52, 67, 75], sc := [(12, (.q 0 (.q 1 (.q 2 (.q 3 (.q 4 (.q 5 (.q 6 (.q 7 .done)))))))))], lp := [] }
/-- colonnade/value.places -/
def fi87 : Fi := { keep := [1, 2, 6], sc := [], lp := [] }
/-- colonnade/value.held -/
def fi88 : Fi := { keep := [2, 3, 4, 5, 8, 9, 16], sc := [(6, (.q 0 (.q 2 (.one 1 [0] (.one 3 [2] (.q 4 (.q 5 .done))))))), (7, (.q 0 (.q 1 (.q 3 (.q 4 (.one 2 [1, 0] (.one 5 [4, 3] (.one 6 [] (.q 7 .done)))))))))], lp := [] }
/-- colonnade/num.Narrow -/
def fi89 : Fi := { keep := [1, 2, 3, 10], sc := [], lp := [] }
/-- colonnade/num.WideMul -/
def fi90 : Fi := { keep := [4, 5, 6, 7, 8, 9, 10, 55, 62], sc := [], lp := [] }
/-- colonnade/num.scale -/
def fi93 : Fi := { keep := [2], sc := [], lp := [] }
/-- strings.CutPrefix -/
def fi94 : Fi := { keep := [4, 5], sc := [], lp := [] }
/-- colonnade/num.pad -/
def fi95 : Fi := { keep := [4], sc := [], lp := [] }
/-- colonnade/num.Civil -/
def fi96 : Fi := { keep := [0, 2, 3, 4, 5, 6, 7, 8, 14, 24, 31, 42], sc := [], lp := [(5, ([0, 2, 3, 4, 5, 6], [22])), (7, ([0, 2, 3, 4, 5, 6], [29])), (11, ([2, 3, 4, 5, 6, 7, 8], [41, 48]))] }
/-- colonnade/value.capitals -/
def fi100 : Fi := { keep := [2], sc := [], lp := [] }
/-- colonnade/num.ParseInt -/
def fi101 : Fi := { keep := [2, 3, 4, 5, 9, 16], sc := [], lp := [] }
/-- colonnade/num.ParseDec -/
def fi102 : Fi := { keep := [2, 3, 4, 5, 6, 7, 8, 9, 17, 29, 46, 49], sc := [], lp := [] }
/-- colonnade/num.ParseDay -/
def fi103 : Fi := { keep := [2, 3, 4, 6, 8, 34], sc := [(1, (.q 0 (.q 1 (.q 2 (.q 3 (.q 4 (.q 5 (.q 6 (.q 7 (.q 8 (.q 9 (.q 10 (.q 11 (.q 12 (.q 13 (.q 14 (.q 15 (.q 16 (.q 17 (.q 18 (.q 19 (.q 20 (.q 21 (.one 22 [21, 20, 19, 18, 17, 16, 15, 14, 13, 12, 11, 10, 9, 8, 7, 6, 5, 4, 3, 2, 1, 0] (.q 23 (.q 24 .done))))))))))))))))))))))))))], lp := [] }
/-- colonnade/num.Pow10 -/
def fi104 : Fi := { keep := [2, 3, 4, 7, 8, 9, 10], sc := [], lp := [(5, ([2, 3, 4, 8, 9], []))] }
/-- colonnade/value.three[string] -/
def fi105 : Fi := { keep := [4, 5, 9], sc := [], lp := [] }
/-- colonnade/num.WideCmp -/
def fi106 : Fi := { keep := [2, 3, 4, 5, 9], sc := [], lp := [] }
/-- colonnade/value.wide -/
def fi107 : Fi := { keep := [2, 4, 5], sc := [], lp := [] }
/-- colonnade/value.three[int64] -/
def fi108 : Fi := { keep := [4, 5, 9], sc := [], lp := [] }
/-- internal/stringslite.CutPrefix -/
def fi116 : Fi := { keep := [4, 5, 9], sc := [], lp := [] }
/-- colonnade/num.years -/
def fi118 : Fi := { keep := [2, 3], sc := [], lp := [] }
/-- colonnade/num.month -/
def fi119 : Fi := { keep := [4, 5, 11], sc := [], lp := [] }
/-- colonnade/value.capitals$1 -/
def fi124 : Fi := { keep := [2, 8], sc := [], lp := [] }
/-- colonnade/num.digits -/
def fi125 : Fi := { keep := [2], sc := [], lp := [] }
/-- strings.TrimPrefix -/
def fi126 : Fi := { keep := [4], sc := [], lp := [] }
/-- colonnade/num.Day -/
def fi130 : Fi := { keep := [6, 7, 8, 9, 34, 43], sc := [], lp := [(5, ([0, 1, 6, 7, 8, 9], [49]))] }
/-- internal/strconv.bool2[int] -/
def fi133 : Fi := { keep := [2, 3], sc := [], lp := [] }
/-- internal/strconv.isPowerOfTwo -/
def fi134 : Fi := { keep := [2], sc := [], lp := [] }
/-- internal/stringslite.HasPrefix -/
def fi140 : Fi := { keep := [4], sc := [], lp := [] }
/-- colonnade/num.leap -/
def fi144 : Fi := { keep := [2, 15], sc := [], lp := [] }
/-- unicode/utf8.RuneLen -/
def fi145 : Fi := { keep := [2, 3, 6, 9, 12, 19, 22], sc := [], lp := [] }
/-- internal/stringslite.TrimPrefix -/
def fi150 : Fi := { keep := [4, 7], sc := [], lp := [] }
/-- internal/strconv.lower -/
def fi182 : Fi := { keep := [2], sc := [], lp := [] }
/-- unicode/utf8.RuneStart -/
def fi187 : Fi := { keep := [2], sc := [], lp := [] }
/-- unicode/utf8.ValidRune -/
def fi189 : Fi := { keep := [2, 3, 10], sc := [], lp := [] }
theorem E_ok : EnvOk Tryz.prog E_0 := envOk_of (by kernel_rfl)
theorem it_ok : ItOk Tryz.prog E_0 := fun _ _ _ h => h.elim
theorem mixed : Tryz.prog.follows .mixedOrders = true := by kernel_rfl
end Go.Proofs.Tryz
/- Expressions as data, and what the program's functions over them come to. -/
namespace Go.Ex
open Go Go.Dm

/-- A number of 64 bits. -/
def in64 (n : Int) : Prop := -9223372036854775808 ≤ n ∧ n < 9223372036854775808

structure Ty where
  k : Int
  sc : Int
  deriving DecidableEq
structure AV where
  t : Ty
  nul : Bool
  n : Int
  s : ByteArray
abbrev Ty.cs (t : Ty) : List D := [.v (.int .i64 t.k), .v (.int .i64 t.sc)]
abbrev AV.cs (v : AV) : List D := [.v (.int .i64 v.t.k), .v (.int .i64 v.t.sc), .v (.bool v.nul), .v (.int .i64 v.n), .v (.string v.s)]

/-- An expression. -/
inductive EX where
  | mk (op sub : Int) (ty : Ty) (v : AV) (args : List EX)
def EX.op : EX → Int | .mk a _ _ _ _ => a

mutual
/-- Its cells. -/
def cells : EX → List D
  | .mk op sub ty v args => [.v (.int .i64 op), .v (.int .i64 sub), .v (.int .i64 ty.k), .v (.int .i64 ty.sc), .v (.int .i64 v.t.k), .v (.int .i64 v.t.sc), .v (.bool v.nul), .v (.int .i64 v.n), .v (.string v.s), .sl (cellsL args)]
def cellsL : List EX → List (List D)
  | [] => []
  | e :: r => cells e :: cellsL r
end
theorem cellsL_map : ∀ l : List EX, cellsL l = l.map cells
  | [] => by simp [cellsL]
  | e :: r => by simp [cellsL, cellsL_map r]
theorem cellsL_len (l : List EX) : (cellsL l).length = l.length := by rw [cellsL_map, List.length_map]
theorem cellsL_get {l : List EX} {i : Nat} {e : EX} (h : l[i]? = some e) : (cellsL l)[i]? = some (cells e) := by rw [cellsL_map, List.getElem?_map, h]; rfl

mutual
/-- How great it is. -/
def size : EX → Nat
  | .mk _ _ _ _ args => sizeL args + 1
def sizeL : List EX → Nat
  | [] => 0
  | e :: r => size e + sizeL r
end
theorem size_mem {l : List EX} {e : EX} (h : e ∈ l) : size e ≤ sizeL l := by
  induction l with
  | nil => cases h
  | cons a r ih =>
    simp only [sizeL]
    cases h with
    | head => omega
    | tail _ h => have := ih h; omega
theorem size_arg {op sub : Int} {ty : Ty} {v : AV} {args : List EX} {e : EX} (h : e ∈ args) : size e < size (.mk op sub ty v args) := by
  have := size_mem h
  simp only [size]; omega

mutual
/-- All its numbers are numbers of 64 bits. -/
def fits : EX → Prop
  | .mk op sub ty v args => (in64 op ∧ in64 sub ∧ in64 ty.k ∧ in64 ty.sc ∧ in64 v.t.k ∧ in64 v.t.sc ∧ in64 v.n) ∧ args.length ≤ 1353245080300 ∧ fitsL args
def fitsL : List EX → Prop
  | [] => True
  | e :: r => fits e ∧ fitsL r
end
theorem fitsL_mem {l : List EX} {e : EX} (hl : fitsL l) (h : e ∈ l) : fits e := by
  induction l with
  | nil => cases h
  | cons a r ih =>
    simp only [fitsL] at hl
    cases h with
    | head => exact hl.1
    | tail _ h => exact ih hl.2 h

mutual
/-- How many nodes it has, as the program counts them. -/
def nodes : EX → Int
  | .mk _ _ _ _ args => nodesL 1 args
def nodesL (n : Int) : List EX → Int
  | [] => n
  | e :: r => nodesL (IntKind.i64.wrap (n + nodes e)) r
end
theorem nodesL_snoc (l : List EX) (e : EX) : ∀ n, nodesL n (l ++ [e]) = IntKind.i64.wrap (nodesL n l + nodes e) := by
  induction l with
  | nil => intro n; simp [nodesL]
  | cons a r ih => intro n; simp only [List.cons_append, nodesL]; exact ih _
mutual
/-- How many stand one within the other, as the program counts them. -/
def deep : EX → Int
  | .mk _ _ _ _ args => IntKind.i64.wrap (deepL 0 args + 1)
def deepL (n : Int) : List EX → Int
  | [] => n
  | e :: r => deepL (if n < deep e then deep e else n) r
end
theorem deepL_snoc (l : List EX) (e : EX) : ∀ n, deepL n (l ++ [e]) = if deepL n l < deep e then deep e else deepL n l := by
  induction l with
  | nil =>
    intro n
    have h1 : deepL n [] = n := by simp only [deepL]
    have h2 : deepL n [e] = (if n < deep e then deep e else n) := by simp only [deepL]
    rw [List.nil_append, h2, h1]
  | cons a r ih => intro n; simp only [List.cons_append, deepL]; exact ih _
end Go.Ex
namespace Go.Ex
open Go Go.Dm
end Go.Ex
namespace Go.Proofs.Tryz
open Go Go.Dm Go.Ex
set_option maxRecDepth 100000
variable {gl : Nat → Option Obj}
theorem wrap_i64_of {n : Int} (h1 : -9223372036854775808 ≤ n) (h2 : n < 9223372036854775808) : IntKind.i64.wrap n = n := by
  simp [IntKind.wrap, IntKind.signed, IntKind.bits]; split <;> omega
theorem wrap_next {i : Nat} (h : i < 9223372036854775807) : IntKind.i64.wrap ((i : Int) + 1) = ((i + 1 : Nat) : Int) := by
  rw [wrap_i64_of (by omega) (by omega)]; omega
def C_n : CallT := fun _ _ _ => False
theorem C_n_ok : CallsOk prog gl C_n := fun _ _ _ h => h.elim
def encX (op sub : Int) (t : Ty) (v : Go.Ex.AV) (es : List (List D)) : List D := [.v (.int .i64 op), .v (.int .i64 sub), .v (.int .i64 t.k), .v (.int .i64 t.sc), .v (.int .i64 v.t.k), .v (.int .i64 v.t.sc), .v (.bool v.nul), .v (.int .i64 v.n), .v (.string v.s), .sl es]
theorem cells_mk (op sub : Int) (t : Ty) (v : Go.Ex.AV) (args : List EX) : cells (.mk op sub t v args) = encX op sub t v (cellsL args) := by simp [cells, encX]
theorem fits_mk {op sub : Int} {t : Ty} {v : Go.Ex.AV} {args : List EX} (h : fits (.mk op sub t v args)) : (in64 op ∧ in64 sub ∧ in64 t.k ∧ in64 t.sc ∧ in64 v.t.k ∧ in64 v.t.sc ∧ in64 v.n) ∧ args.length ≤ 1353245080300 ∧ fitsL args := by
  simpa [fits] using h
/-- The next argument. -/
theorem arg_get {l : List EX} {i : Nat} (hi : i < l.length) : ∃ op sub t v a, l[i] = .mk op sub t v a ∧ (cellsL l)[((i : Nat) : Int).toNat]? = some (encX op sub t v (cellsL a)) := by
  rcases h : l[i] with ⟨op, sub, t, v, a⟩
  refine ⟨op, sub, t, v, a, rfl, ?_⟩
  rw [Int.toNat_natCast, ← cells_mk, ← h]
  exact cellsL_get (List.getElem?_eq_getElem hi)
/-- Nodes. -/
def c_61 (n : Nat) (a : List R) (K : List R → List (List D) → Prop) : Prop := match a with
  | [.agg x] => ∃ e : EX, x = cells e ∧ size e < n ∧ fits e ∧ K [.d (.v (.int .i64 (nodes e)))] []
  | _ => False
def C_f61 (n : Nat) : CallT := addC C_n 24 (c_61 n)
def st_61 (op sub : Int) (t : Ty) (v : Go.Ex.AV) (args : List EX) (x : Nat) : St := { tm := [(2, .d (.v (.int .i64 0))), (3, .d (.v (.int .i64 (nodesL 1 (args.take x))))), (7, .d (.sl (cellsL args))), (8, .d (.v (.int .i64 ((cellsL args).length : Int)))), (9, .d (.v (.int .i64 (x : Int))))], hp := [(1, .box [.d (.v (.int .i64 op)), .d (.v (.int .i64 sub)), .d (.v (.int .i64 t.k)), .d (.v (.int .i64 t.sc)), .d (.v (.int .i64 v.t.k)), .d (.v (.int .i64 v.t.sc)), .d (.v (.bool v.nul)), .d (.v (.int .i64 v.n)), .d (.v (.string v.s)), .d (.sl (cellsL args))])], kn := [], gd := [] }
def inv_n (l : List EX) (m : Nat) (x : Nat) : Prop := x ≤ l.length ∧ m = l.length - x
def fx_61 (op sub : Int) (t : Ty) (v : Go.Ex.AV) (args : List EX) : Fi := { fi24 with lx := [(3, { X := Nat, sh := st_61 op sub t v args, P := fun _ => inv_n args })] }
theorem vc61 (n : Nat) (op sub : Int) (t : Ty) (v : Go.Ex.AV) (args : List EX) (Q : List R → List (List D) → Prop) : vc E_0 (C_f61 n) noI (fx_61 op sub t v args) (f24.body.getD .skip) f24.results.toList [.agg (encX op sub t v (cellsL args))] Q = ( ∃ (es : List (List D)), D.sl (cellsL args) = D.sl es ∧ ∃ (x0 : Nat), ({ tm := [(2, .i 0), (3, .i 1), (7, .d (.sl (cellsL args))), (8, .i (↑es.length : Int)), (9, .i 0)], hp := [(1, .box [.i op, .i sub, .i t.1, .i t.2, .i v.1.1, .i v.1.2, .d (.v (.bool v.2)), .i v.3, .d (.v (.string v.4)), .d (.sl (cellsL args))])], kn := [], gd := [] : St } = { tm := [(2, .i 0), (3, .i (nodesL (1 : Int) (List.take x0 args))), (7, .d (.sl (cellsL args))), (8, .i (↑(cellsL args).length : Int)), (9, .i (↑x0 : Int))], hp := [(1, .box [.i op, .i sub, .i t.1, .i t.2, .i v.1.1, .i v.1.2, .d (.v (.bool v.2)), .i v.3, .d (.v (.string v.4)), .d (.sl (cellsL args))])], kn := [], gd := [] : St } ∧ ∃ (n : Nat), inv_n args n x0) ∧ ∀ (n_1 : Nat) (x : Nat), inv_n args n_1 x → (decide ((↑x : Int) < (↑(cellsL args).length : Int)) = true → ∃ (es : List (List D)), D.sl (cellsL args) = D.sl es ∧ (0 ≤ (↑x : Int) ∧ (↑x : Int) < (↑es.length : Int)) ∧ ∃ (cells : List D), es[(↑x : Int).toNat]? = some cells ∧ cells.length = 10 ∧ ∃ (n_2 n_3 n_4 n_5 n_6 n_7 : Int), ∃ (b : Bool), ∃ (n_8 : Int), ∃ (b_1 : ByteArray), ∃ (es : List (List D)), cut 0 10 cells = some [D.i n_2, D.i n_3, D.i n_4, D.i n_5, D.i n_6, D.i n_7, D.v (.bool b), D.i n_8, D.v (.string b_1), D.sl es] ∧ ∃ (e : EX), [D.i n_2, D.i n_3, D.i n_4, D.i n_5, D.i n_6, D.i n_7, D.v (.bool b), D.i n_8, D.v (.string b_1), D.sl es] = Ex.cells e ∧ size e < n ∧ fits e ∧ ∃ (m x' : Nat), m < n_1 ∧ { tm := [(2, .i 0), (3, .i (IntKind.i64.wrap (nodesL (1 : Int) (List.take x args) + nodes e))), (7, .d (.sl (cellsL args))), (8, .i (↑(cellsL args).length : Int)), (9, .i (IntKind.i64.wrap ((↑x : Int) + 1)))], hp := [(1, .box [.i op, .i sub, .i t.1, .i t.2, .i v.1.1, .i v.1.2, .d (.v (.bool v.2)), .i v.3, .d (.v (.string v.4)), .d (.sl (cellsL args))])], kn := [], gd := [] : St } = { tm := [(2, .i 0), (3, .i (nodesL (1 : Int) (List.take x' args))), (7, .d (.sl (cellsL args))), (8, .i (↑(cellsL args).length : Int)), (9, .i (↑x' : Int))], hp := [(1, .box [.i op, .i sub, .i t.1, .i t.2, .i v.1.1, .i v.1.2, .d (.v (.bool v.2)), .i v.3, .d (.v (.string v.4)), .d (.sl (cellsL args))])], kn := [], gd := [] : St } ∧ inv_n args m x') ∧ (decide ((↑x : Int) < (↑(cellsL args).length : Int)) = false → Q [.d (.i (nodesL (1 : Int) (List.take x args)))] [])) := by kernel_rfl
theorem ct61 : ∀ (n : Nat) (e : EX), size e < n → fits e → Ct prog gl 24 [.agg (cells e)] (gives [.d (.v (.int .i64 (nodes e)))])
  | 0, e, h, _ => absurd h (Nat.not_lt_zero _)
  | n + 1, .mk op sub t v args, h, hf => by
    have hC : CallsOk prog gl (C_f61 n) := addC_ok C_n_ok (fun a K hk => by
      unfold c_61 at hk
      split at hk
      · obtain ⟨e, rfl, h1, h2, h3⟩ := hk
        exact (ct61 n e h1 h2).gives h3
      · exact hk.elim)
    rw [cells_mk]
    refine ct_of_vc E_ok hC ioK_no it_ok mixed (fn := f24) (body := f24.body.getD .skip) (by kernel_rfl) (by kernel_rfl) (by kernel_rfl) (fi := fx_61 op sub t v args) (by kernel_rfl) (by kernel_rfl) ⟨_, _, rfl, rfl⟩ ?_
    rw [vc61]
    obtain ⟨_, hl, hfl⟩ := fits_mk hf
    have hsz : ∀ e ∈ args, size e < n := fun e he => by have := size_arg (op := op) (sub := sub) (ty := t) (v := v) he; omega
    refine ⟨cellsL args, rfl, (0 : Nat), ⟨by simp only [List.take_zero, nodesL]; rfl, args.length, Nat.zero_le _, rfl⟩, fun m (x : Nat) hx => ⟨fun hi => ?_, fun hi => ?_⟩⟩
    · have hi : x < args.length := by simpa [cellsL_len] using hi
      obtain ⟨op', sub', t', v', a', he, hget⟩ := arg_get hi
      have hm := hx.2
      refine ⟨cellsL args, rfl, ⟨by omega, by rw [cellsL_len]; omega⟩, _, hget, rfl, op', sub', t'.k, t'.sc, v'.t.k, v'.t.sc, v'.nul, v'.n, v'.s, cellsL a', rfl, args[x], by rw [he, cells_mk]; rfl, hsz _ (List.getElem_mem hi), fitsL_mem hfl (List.getElem_mem hi), args.length - (x + 1), x + 1, by omega, ?_, hi, rfl⟩
      rw [wrap_next (by omega), List.take_add_one, List.getElem?_eq_getElem hi, Option.toList_some, nodesL_snoc]
    · have hi : ¬ x < args.length := by simpa [cellsL_len] using hi
      rw [List.take_of_length_le (by omega)]
      refine ⟨?_, rfl⟩
      simp only [nodes]
def c_62 (n : Nat) (a : List R) (K : List R → List (List D) → Prop) : Prop := match a with
  | [.agg x] => ∃ e : EX, x = cells e ∧ size e < n ∧ fits e ∧ K [.d (.v (.int .i64 (deep e)))] []
  | _ => False
def C_f62 (n : Nat) : CallT := addC C_n 25 (c_62 n)
def st_62 (op sub : Int) (t : Ty) (v : Go.Ex.AV) (args : List EX) (x : Nat) : St := { tm := [(2, .d (.v (.int .i64 0))), (3, .d (.v (.int .i64 (deepL 0 (args.take x))))), (7, .d (.sl (cellsL args))), (8, .d (.v (.int .i64 ((cellsL args).length : Int)))), (9, .d (.v (.int .i64 (x : Int))))], hp := [(1, .box [.d (.v (.int .i64 op)), .d (.v (.int .i64 sub)), .d (.v (.int .i64 t.k)), .d (.v (.int .i64 t.sc)), .d (.v (.int .i64 v.t.k)), .d (.v (.int .i64 v.t.sc)), .d (.v (.bool v.nul)), .d (.v (.int .i64 v.n)), .d (.v (.string v.s)), .d (.sl (cellsL args))])], kn := [], gd := [] }
def fx_62 (op sub : Int) (t : Ty) (v : Go.Ex.AV) (args : List EX) : Fi := { fi25 with lx := [(3, { X := Nat, sh := st_62 op sub t v args, P := fun _ => inv_n args })] }
theorem vc62 (n : Nat) (op sub : Int) (t : Ty) (v : Go.Ex.AV) (args : List EX) (Q : List R → List (List D) → Prop) : vc E_0 (C_f62 n) noI (fx_62 op sub t v args) (f25.body.getD .skip) f25.results.toList [.agg (encX op sub t v (cellsL args))] Q = ( ∃ (es : List (List D)), D.sl (cellsL args) = D.sl es ∧ ∃ (x0 : Nat), ({ tm := [(2, .i 0), (3, .i 0), (7, .d (.sl (cellsL args))), (8, .i (↑es.length : Int)), (9, .i 0)], hp := [(1, .box [.i op, .i sub, .i t.1, .i t.2, .i v.1.1, .i v.1.2, .d (.v (.bool v.2)), .i v.3, .d (.v (.string v.4)), .d (.sl (cellsL args))])], kn := [], gd := [] : St } = { tm := [(2, .i 0), (3, .i (deepL (0 : Int) (List.take x0 args))), (7, .d (.sl (cellsL args))), (8, .i (↑(cellsL args).length : Int)), (9, .i (↑x0 : Int))], hp := [(1, .box [.i op, .i sub, .i t.1, .i t.2, .i v.1.1, .i v.1.2, .d (.v (.bool v.2)), .i v.3, .d (.v (.string v.4)), .d (.sl (cellsL args))])], kn := [], gd := [] : St } ∧ ∃ (n : Nat), inv_n args n x0) ∧ ∀ (n_1 : Nat) (x : Nat), inv_n args n_1 x → (decide ((↑x : Int) < (↑(cellsL args).length : Int)) = true → ∃ (es : List (List D)), D.sl (cellsL args) = D.sl es ∧ (0 ≤ (↑x : Int) ∧ (↑x : Int) < (↑es.length : Int)) ∧ ∃ (cells : List D), es[(↑x : Int).toNat]? = some cells ∧ cells.length = 10 ∧ ∃ (n_2 n_3 n_4 n_5 n_6 n_7 : Int), ∃ (b : Bool), ∃ (n_8 : Int), ∃ (b_1 : ByteArray), ∃ (es : List (List D)), cut 0 10 cells = some [D.i n_2, D.i n_3, D.i n_4, D.i n_5, D.i n_6, D.i n_7, D.v (.bool b), D.i n_8, D.v (.string b_1), D.sl es] ∧ ∃ (e : EX), [D.i n_2, D.i n_3, D.i n_4, D.i n_5, D.i n_6, D.i n_7, D.v (.bool b), D.i n_8, D.v (.string b_1), D.sl es] = Ex.cells e ∧ size e < n ∧ fits e ∧ ∃ (m x' : Nat), m < n_1 ∧ { tm := [(2, .i 0), (3, .i (if deep e > deepL (0 : Int) (List.take x args) then deep e else deepL (0 : Int) (List.take x args))), (7, .d (.sl (cellsL args))), (8, .i (↑(cellsL args).length : Int)), (9, .i (IntKind.i64.wrap ((↑x : Int) + 1)))], hp := [(1, .box [.i op, .i sub, .i t.1, .i t.2, .i v.1.1, .i v.1.2, .d (.v (.bool v.2)), .i v.3, .d (.v (.string v.4)), .d (.sl (cellsL args))])], kn := [], gd := [] : St } = { tm := [(2, .i 0), (3, .i (deepL (0 : Int) (List.take x' args))), (7, .d (.sl (cellsL args))), (8, .i (↑(cellsL args).length : Int)), (9, .i (↑x' : Int))], hp := [(1, .box [.i op, .i sub, .i t.1, .i t.2, .i v.1.1, .i v.1.2, .d (.v (.bool v.2)), .i v.3, .d (.v (.string v.4)), .d (.sl (cellsL args))])], kn := [], gd := [] : St } ∧ inv_n args m x') ∧ (decide ((↑x : Int) < (↑(cellsL args).length : Int)) = false → Q [.d (.i (IntKind.i64.wrap (deepL (0 : Int) (List.take x args) + (1 : Int))))] [])) := by kernel_rfl

end Go.Proofs.Tryz
