/- A part of the proof: contracts of functions, by a verified generator of conditions; no condition of its own. -/
import Derived.Test.YtckihdaalmgbiaaGreatDoorDm21
import Derived.Test.YtckihdaalmgbiaaGreatDoorProg
import Derived.KernelRfl
namespace Go.Proofs.Tryz
open Go Go.Dm
set_option maxRecDepth 100000
def te_0 : List (Nat × TI) := [
    (1, { agg := false, ck := [.fn], bytes := 8, td := .other }),
    (2, { agg := false, ck := [.int .i64], bytes := 8, td := .plain }),
    (3, { agg := false, ck := [.int .i64], bytes := 8, td := .plain }),
    (4, { agg := false, ck := [.bool], bytes := 1, td := .plain }),
    (5, { agg := false, ck := [.int .u8], bytes := 1, td := .plain }),
    (6, { agg := false, ck := [.int .u8], bytes := 1, td := .plain }),
    (7, { agg := true, ck := [.int .i64, .int .i64, .bool, .int .u8], bytes := 24, td := .struct [(0, 2), (1, 3), (2, 4), (3, 6)], eq := true }),
    (8, { agg := true, ck := [.int .i64, .int .i64, .bool, .int .u8], bytes := 24, td := .struct [(0, 2), (1, 3), (2, 4), (3, 6)], eq := true }),
    (9, { agg := false, ck := [.str], bytes := 16, td := .plain }),
    (10, { agg := false, ck := [.str], bytes := 16, td := .plain }),
    (11, { agg := false, ck := [.str], bytes := 16, td := .plain }),
    (12, { agg := false, ck := [.int .u64], bytes := 8, td := .plain }),
    (13, { agg := true, ck := [.str, .int .u64], bytes := 24, td := .struct [(0, 9), (1, 12)] }),
    (14, { agg := true, ck := [.str, .int .u64], bytes := 24, td := .struct [(0, 9), (1, 12)] }),
    (15, { agg := false, ck := [.ptr], bytes := 8, td := .ptr 261 }),
    (16, { agg := false, ck := [.ptr], bytes := 8, td := .ptr 264 }),
    (17, { agg := false, ck := [.ptr], bytes := 8, td := .ptr 271 }),
    (18, { agg := true, ck := [.ptr], bytes := 8, td := .struct [(0, 17)] }),
    (19, { agg := true, ck := [.ptr], bytes := 8, td := .struct [(0, 17)] }),
    (20, { agg := false, ck := [.iface], bytes := 16, td := .other }),
    (21, { agg := false, ck := [.int .i32], bytes := 4, td := .plain }),
    (22, { agg := true, ck := [.int .i64, .int .i64], bytes := 16, td := .struct [(0, 3), (1, 3)], eq := true }),
    (23, { agg := true, ck := [.int .i64, .int .i64], bytes := 16, td := .struct [(0, 3), (1, 3)], eq := true }),
    (24, { agg := true, ck := [.int .i64, .int .i64, .bool, .int .i64, .str], bytes := 48, td := .struct [(0, 23), (2, 4), (3, 2), (4, 9)], eq := true }),
    (25, { agg := true, ck := [.int .i64, .int .i64, .bool, .int .i64, .str], bytes := 48, td := .struct [(0, 23), (2, 4), (3, 2), (4, 9)], eq := true }),
    (26, { agg := false, ck := [.sl], bytes := 24, td := .slice 28 }),
    (27, { agg := true, ck := [.int .i64, .int .i64, .int .i64, .int .i64, .int .i64, .int .i64, .bool, .int .i64, .str, .sl], bytes := 104, td := .struct [(0, 3), (1, 3), (2, 23), (4, 25), (9, 26)] }),
    (28, { agg := true, ck := [.int .i64, .int .i64, .int .i64, .int .i64, .int .i64, .int .i64, .bool, .int .i64, .str, .sl], bytes := 104, td := .struct [(0, 3), (1, 3), (2, 23), (4, 25), (9, 26)] }),
    (29, { agg := false, ck := [.sl], bytes := 24, td := .slice 23 }),
    (30, { agg := false, ck := [.int .i64], bytes := 8, td := .plain }),
    (32, { agg := false, ck := [.fn], bytes := 8, td := .other }),
    (33, { agg := false, ck := [.fn], bytes := 8, td := .other }),
    (34, { agg := false, ck := [.fn], bytes := 8, td := .other }),
    (35, { agg := false, ck := [.fn], bytes := 8, td := .other }),
    (36, { agg := false, ck := [.fn], bytes := 8, td := .other }),
    (37, { agg := false, ck := [.sl], bytes := 24, td := .slice 25 }),
    (38, { agg := false, ck := [.fn], bytes := 8, td := .other }),
    (40, { agg := false, ck := [.fn], bytes := 8, td := .other }),
    (42, { agg := false, ck := [.fn], bytes := 8, td := .other }),
    (43, { agg := false, ck := [.fn], bytes := 8, td := .other }),
    (45, { agg := false, ck := [.fn], bytes := 8, td := .other }),
    (46, { agg := false, ck := [.fn], bytes := 8, td := .other }),
    (47, { agg := false, ck := [.sl], bytes := 24, td := .slice 57 }),
    (49, { agg := false, ck := [.fn], bytes := 8, td := .other }),
    (50, { agg := false, ck := [.fn], bytes := 8, td := .other }),
    (51, { agg := false, ck := [.fn], bytes := 8, td := .other }),
    (52, { agg := false, ck := [.fn], bytes := 8, td := .other }),
    (53, { agg := false, ck := [.fn], bytes := 8, td := .other }),
    (54, { agg := true, ck := [.int .i64, .int .i64, .int .i64, .bool, .int .i64, .str], bytes := 56, td := .struct [(0, 3), (1, 25)], eq := true }),
    (55, { agg := true, ck := [.int .i64, .int .i64, .int .i64, .bool, .int .i64, .str], bytes := 56, td := .struct [(0, 3), (1, 25)], eq := true }),
    (56, { agg := true, ck := [.int .i64, .int .i64, .int .i64, .int .i64, .bool, .int .i64, .str], bytes := 64, td := .struct [(0, 3), (1, 55)], eq := true }),
    (57, { agg := true, ck := [.int .i64, .int .i64, .int .i64, .int .i64, .bool, .int .i64, .str], bytes := 64, td := .struct [(0, 3), (1, 55)], eq := true }),
    (58, { agg := false, ck := [.fn], bytes := 8, td := .other }),
    (59, { agg := false, ck := [.fn], bytes := 8, td := .other }),
    (60, { agg := false, ck := [.fn], bytes := 8, td := .other }),
    (61, { agg := false, ck := [.fn], bytes := 8, td := .other }),
    (62, { agg := false, ck := [.fn], bytes := 8, td := .other }),
    (63, { agg := false, ck := [.fn], bytes := 8, td := .other }),
    (64, { agg := false, ck := [.fn], bytes := 8, td := .other }),
    (65, { agg := false, ck := [.fn], bytes := 8, td := .other }),
    (66, { agg := false, ck := [.fn], bytes := 8, td := .other }),
    (68, { agg := false, ck := [.fn], bytes := 8, td := .other }),
    (69, { agg := false, ck := [.fn], bytes := 8, td := .other }),
    (71, { agg := false, ck := [.fn], bytes := 8, td := .other }),
    (72, { agg := false, ck := [.fn], bytes := 8, td := .other }),
    (73, { agg := false, ck := [.fn], bytes := 8, td := .other }),
    (74, { agg := false, ck := [.fn], bytes := 8, td := .other }),
    (75, { agg := false, ck := [.fn], bytes := 8, td := .other }),
    (76, { agg := false, ck := [.fn], bytes := 8, td := .other }),
    (77, { agg := false, ck := [.fn], bytes := 8, td := .other }),
    (78, { agg := false, ck := [.fn], bytes := 8, td := .other }),
    (79, { agg := false, ck := [.fn], bytes := 8, td := .other }),
    (80, { agg := true, ck := [.int .i64, .int .i64, .int .i64, .int .i64, .int .i64, .int .i64, .int .i64], bytes := 56, td := .arr 7 3 }),
    (81, { agg := false, ck := [.fn], bytes := 8, td := .other }),
    (82, { agg := false, ck := [.fn], bytes := 8, td := .other }),
    (83, { agg := false, ck := [.fn], bytes := 8, td := .other }),
    (84, { agg := false, ck := [.fn], bytes := 8, td := .other }),
    (85, { agg := false, ck := [.fn], bytes := 8, td := .other }),
    (86, { agg := false, ck := [.fn], bytes := 8, td := .other }),
    (87, { agg := false, ck := [.fn], bytes := 8, td := .other }),
    (88, { agg := false, ck := [.fn], bytes := 8, td := .other }),
    (89, { agg := false, ck := [.fn], bytes := 8, td := .other }),
    (90, { agg := false, ck := [.fn], bytes := 8, td := .other }),
    (91, { agg := false, ck := [.fn], bytes := 8, td := .other }),
    (92, { agg := false, ck := [.fn], bytes := 8, td := .other }),
    (93, { agg := false, ck := [.fn], bytes := 8, td := .other }),
    (94, { agg := false, ck := [.fn], bytes := 8, td := .other }),
    (95, { agg := false, ck := [.fn], bytes := 8, td := .other }),
    (96, { agg := false, ck := [.fn], bytes := 8, td := .other }),
    (97, { agg := false, ck := [.fn], bytes := 8, td := .other }),
    (98, { agg := false, ck := [.fn], bytes := 8, td := .other }),
    (99, { agg := false, ck := [.fn], bytes := 8, td := .other }),
    (100, { agg := false, ck := [.sl], bytes := 24, td := .slice 26 }),
    (101, { agg := false, ck := [.fn], bytes := 8, td := .other }),
    (102, { agg := false, ck := [.fn], bytes := 8, td := .other }),
    (103, { agg := false, ck := [.fn], bytes := 8, td := .other }),
    (104, { agg := false, ck := [.fn], bytes := 8, td := .other }),
    (105, { agg := false, ck := [.fn], bytes := 8, td := .other }),
    (106, { agg := false, ck := [.fn], bytes := 8, td := .other }),
    (107, { agg := false, ck := [.fn], bytes := 8, td := .other }),
    (108, { agg := false, ck := [.fn], bytes := 8, td := .other }),
    (109, { agg := false, ck := [.fn], bytes := 8, td := .other }),
    (110, { agg := false, ck := [.ptr], bytes := 8, td := .ptr 112 }),
    (111, { agg := true, ck := [.sl, .sl], bytes := 48, td := .struct [(0, 37), (1, 29)] }),
    (112, { agg := true, ck := [.sl, .sl], bytes := 48, td := .struct [(0, 37), (1, 29)] }),
    (113, { agg := false, ck := [.fn], bytes := 8, td := .other }),
    (114, { agg := false, ck := [.fn], bytes := 8, td := .other }),
    (115, { agg := false, ck := [.fn], bytes := 8, td := .other }),
    (116, { agg := false, ck := [.fn], bytes := 8, td := .other }),
    (117, { agg := false, ck := [.fn], bytes := 8, td := .other }),
    (118, { agg := false, ck := [.int .u64], bytes := 8, td := .plain }),
    (119, { agg := false, ck := [.fn], bytes := 8, td := .other }),
    (121, { agg := false, ck := [.fn], bytes := 8, td := .other }),
    (122, { agg := false, ck := [.sl], bytes := 24, td := .slice 5 }),
    (123, { agg := false, ck := [.fn], bytes := 8, td := .other }),
    (124, { agg := false, ck := [.sl], bytes := 24, td := .slice 9 }),
    (125, { agg := false, ck := [.sl], bytes := 24, td := .slice 3 }),
    (126, { agg := false, ck := [.fn], bytes := 8, td := .other }),
    (127, { agg := false, ck := [.fn], bytes := 8, td := .other }),
    (128, { agg := false, ck := [.fn], bytes := 8, td := .other }),
    (130, { agg := false, ck := [.fn], bytes := 8, td := .other }),
    (131, { agg := false, ck := [.fn], bytes := 8, td := .other }),
    (132, { agg := false, ck := [.fn], bytes := 8, td := .other }),
    (134, { agg := false, ck := [.fn], bytes := 8, td := .other }),
    (135, { agg := false, ck := [.fn], bytes := 8, td := .other }),
    (137, { agg := false, ck := [.fn], bytes := 8, td := .other }),
    (138, { agg := false, ck := [.fn], bytes := 8, td := .other }),
    (139, { agg := false, ck := [.fn], bytes := 8, td := .other }),
    (140, { agg := false, ck := [.fn], bytes := 8, td := .other }),
    (142, { agg := false, ck := [.fn], bytes := 8, td := .other }),
    (143, { agg := false, ck := [.fn], bytes := 8, td := .other }),
    (144, { agg := false, ck := [.fn], bytes := 8, td := .other }),
    (145, { agg := false, ck := [.fn], bytes := 8, td := .other }),
    (146, { agg := false, ck := [.fn], bytes := 8, td := .other }),
    (147, { agg := false, ck := [.fn], bytes := 8, td := .other }),
    (148, { agg := false, ck := [.fn], bytes := 8, td := .other }),
    (149, { agg := false, ck := [.fn], bytes := 8, td := .other }),
    (150, { agg := false, ck := [.fn], bytes := 8, td := .other }),
    (152, { agg := false, ck := [.fn], bytes := 8, td := .other }),
    (153, { agg := false, ck := [.fn], bytes := 8, td := .other }),
    (154, { agg := false, ck := [.fn], bytes := 8, td := .other }),
    (155, { agg := false, ck := [.fn], bytes := 8, td := .other }),
    (156, { agg := false, ck := [.fn], bytes := 8, td := .other }),
    (157, { agg := true, ck := [.int .i64, .int .u64], bytes := 16, td := .struct [(0, 2), (1, 118)], eq := true }),
    (158, { agg := true, ck := [.int .i64, .int .u64], bytes := 16, td := .struct [(0, 2), (1, 118)], eq := true }),
    (159, { agg := false, ck := [.fn], bytes := 8, td := .other }),
    (161, { agg := false, ck := [.fn], bytes := 8, td := .other }),
    (162, { agg := false, ck := [.fn], bytes := 8, td := .other }),
    (163, { agg := true, ck := [.bool, .bool, .bool, .bool, .bool, .bool, .bool], bytes := 7, td := .arr 7 4 }),
    (164, { agg := false, ck := [.fn], bytes := 8, td := .other }),
    (165, { agg := false, ck := [.fn], bytes := 8, td := .other }),
    (167, { agg := false, ck := [.fn], bytes := 8, td := .other }),
    (168, { agg := false, ck := [.fn], bytes := 8, td := .other }),
    (169, { agg := false, ck := [.int .u64], bytes := 8, td := .plain }),
    (170, { agg := false, ck := [.map], bytes := 8, td := .other }),
    (172, { agg := false, ck := [.fn], bytes := 8, td := .other }),
    (173, { agg := false, ck := [.fn], bytes := 8, td := .other }),
    (174, { agg := false, ck := [.fn], bytes := 8, td := .other }),
    (175, { agg := false, ck := [.fn], bytes := 8, td := .other }),
    (176, { agg := false, ck := [.fn], bytes := 8, td := .other }),
    (177, { agg := false, ck := [.fn], bytes := 8, td := .other }),
    (178, { agg := false, ck := [.fn], bytes := 8, td := .other }),
    (179, { agg := false, ck := [.iface], bytes := 16, td := .other }),
    (180, { agg := false, ck := [.iface], bytes := 16, td := .other }),
    (182, { agg := false, ck := [.fn], bytes := 8, td := .other }),
    (184, { agg := false, ck := [.fn], bytes := 8, td := .other }),
    (186, { agg := false, ck := [.fn], bytes := 8, td := .other }),
    (187, { agg := false, ck := [.fn], bytes := 8, td := .other }),
    (188, { agg := false, ck := [.fn], bytes := 8, td := .other }),
    (190, { agg := false, ck := [.fn], bytes := 8, td := .other }),
    (191, { agg := false, ck := [.fn], bytes := 8, td := .other }),
    (192, { agg := false, ck := [.fn], bytes := 8, td := .other }),
    (193, { agg := false, ck := [.ptr], bytes := 8, td := .ptr 195 }),
    (194, { agg := true, ck := [.ptr, .sl], bytes := 32, td := .struct [(0, 193), (1, 122)] }),
    (195, { agg := true, ck := [.ptr, .sl], bytes := 32, td := .struct [(0, 193), (1, 122)] }),
    (197, { agg := false, ck := [.fn], bytes := 8, td := .other }),
    (198, { agg := false, ck := [.fn], bytes := 8, td := .other }),
    (199, { agg := false, ck := [.fn], bytes := 8, td := .other }),
    (200, { agg := false, ck := [.fn], bytes := 8, td := .other }),
    (201, { agg := false, ck := [.fn], bytes := 8, td := .other }),
    (202, { agg := false, ck := [.fn], bytes := 8, td := .other }),
    (203, { agg := false, ck := [.fn], bytes := 8, td := .other }),
    (204, { agg := false, ck := [.fn], bytes := 8, td := .other }),
    (205, { agg := false, ck := [.fn], bytes := 8, td := .other }),
    (206, { agg := false, ck := [.ptr], bytes := 8, td := .ptr 5 }),
    (207, { agg := false, ck := [.fn], bytes := 8, td := .other }),
    (211, { agg := false, ck := [.fn], bytes := 8, td := .other }),
    (212, { agg := false, ck := [.fn], bytes := 8, td := .other }),
    (213, { agg := false, ck := [.ptr], bytes := 8, td := .ptr 209 }),
    (214, { agg := false, ck := [.fn], bytes := 8, td := .other }),
    (215, { agg := false, ck := [.int .i64], bytes := 8, td := .plain }),
    (217, { agg := false, ck := [.fn], bytes := 8, td := .other }),
    (218, { agg := false, ck := [.ptr], bytes := 8, td := .ptr 243 }),
    (219, { agg := false, ck := [.fn], bytes := 8, td := .other }),
    (220, { agg := false, ck := [.fn], bytes := 8, td := .other }),
    (221, { agg := true, ck := [.int .i64, .int .i64, .int .i64, .int .i64, .int .i64, .int .i64, .int .i64, .int .i64, .int .i64, .int .i64, .int .i64, .int .i64], bytes := 96, td := .arr 12 3 }),
    (222, { agg := true, ck := [.int .u8, .int .u8, .int .u8, .int .u8, .int .u8, .int .u8, .int .u8, .int .u8, .int .u8, .int .u8, .int .u8, .int .u8, .int .u8, .int .u8, .int .u8, .int .u8, .int .u8, .int .u8, .int .u8, .int .u8, .int .u8, .int .u8, .int .u8, .int .u8], bytes := 24, td := .arr 24 5 }),
    (223, { agg := false, ck := [.fn], bytes := 8, td := .other }),
    (224, { agg := false, ck := [.fn], bytes := 8, td := .other }),
    (226, { agg := false, ck := [.fn], bytes := 8, td := .other }),
    (227, { agg := false, ck := [.fn], bytes := 8, td := .other }),
    (228, { agg := false, ck := [.fn], bytes := 8, td := .other }),
    (230, { agg := false, ck := [.fn], bytes := 8, td := .other }),
    (232, { agg := true, ck := [.int .u8, .int .u8], bytes := 2, td := .struct [(0, 5), (1, 5)], eq := true }),
    (233, { agg := true, ck := [.int .u8, .int .u8], bytes := 2, td := .struct [(0, 5), (1, 5)], eq := true }),
    (234, { agg := true, ck := [.int .u8, .int .u8, .int .u8, .int .u8, .int .u8, .int .u8, .int .u8, .int .u8, .int .u8, .int .u8, .int .u8, .int .u8, .int .u8, .int .u8, .int .u8, .int .u8, .int .u8, .int .u8, .int .u8, .int .u8, .int .u8, .int .u8, .int .u8, .int .u8, .int .u8, .int .u8, .int .u8, .int .u8, .int .u8, .int .u8, .int .u8, .int .u8], bytes := 32, td := .arr 16 233 }),
    (236, { agg := false, ck := [.fn], bytes := 8, td := .other }),
    (237, { agg := false, ck := [.fn], bytes := 8, td := .other }),
    (238, { agg := false, ck := [.int .u32], bytes := 4, td := .plain }),
    (239, { agg := false, ck := [.fn], bytes := 8, td := .other }),
    (240, { agg := false, ck := [.fn], bytes := 8, td := .other }),
    (241, { agg := false, ck := [.fn], bytes := 8, td := .other }),
    (242, { agg := true, ck := [.str, .str, .iface], bytes := 48, td := .struct [(0, 9), (1, 9), (2, 180)] }),
    (243, { agg := true, ck := [.str, .str, .iface], bytes := 48, td := .struct [(0, 9), (1, 9), (2, 180)] }),
    (244, { agg := false, ck := [.fn], bytes := 8, td := .other }),
    (245, { agg := false, ck := [.fn], bytes := 8, td := .other }),
    (246, { agg := true, ck := [.int .u64, .int .u64, .int .u64, .int .u64, .int .u64, .int .u64, .int .u64, .int .u64, .int .u64, .int .u64, .int .u64, .int .u64, .int .u64, .int .u64, .int .u64, .int .u64, .int .u64, .int .u64, .int .u64, .int .u64], bytes := 160, td := .arr 20 118 }),
    (248, { agg := false, ck := [.fn], bytes := 8, td := .other }),
    (250, { agg := false, ck := [.fn], bytes := 8, td := .other }),
    (251, { agg := false, ck := [.fn], bytes := 8, td := .other }),
    (252, { agg := false, ck := [.ptr], bytes := 8, td := .ptr 254 }),
    (253, { agg := true, ck := [.str], bytes := 16, td := .struct [(0, 9)], eq := true }),
    (254, { agg := true, ck := [.str], bytes := 16, td := .struct [(0, 9)], eq := true }),
    (255, { agg := false, ck := [.fn], bytes := 8, td := .other }),
    (256, { agg := false, ck := [.fn], bytes := 8, td := .other }),
    (257, { agg := false, ck := [.fn], bytes := 8, td := .other }),
    (258, { agg := true, ck := [.int .u8, .int .u8, .int .u8, .int .u8, .int .u8, .int .u8, .int .u8, .int .u8, .int .u8, .int .u8, .int .u8, .int .u8, .int .u8, .int .u8, .int .u8, .int .u8, .int .u8, .int .u8, .int .u8, .int .u8, .int .u8, .int .u8, .int .u8, .int .u8, .int .u8, .int .u8, .int .u8, .int .u8, .int .u8, .int .u8, .int .u8, .int .u8], bytes := 32, td := .arr 32 5 }),
    (259, { agg := true, ck := [.int .u8, .int .u8, .int .u8, .int .u8, .int .u8, .int .u8, .int .u8, .int .u8, .int .u8, .int .u8, .int .u8, .int .u8, .int .u8, .int .u8, .int .u8, .int .u8, .int .u8, .int .u8, .int .u8, .int .u8, .int .u8, .int .u8, .int .u8, .int .u8, .int .u8, .int .u8, .int .u8, .int .u8, .int .u8, .int .u8, .int .u8, .int .u8, .int .u8, .int .u8, .int .u8, .int .u8, .int .u8, .int .u8, .int .u8, .int .u8, .int .u8, .int .u8, .int .u8, .int .u8, .int .u8, .int .u8, .int .u8, .int .u8, .int .u8, .int .u8, .int .u8, .int .u8, .int .u8, .int .u8, .int .u8, .int .u8, .int .u8, .int .u8, .int .u8, .int .u8, .int .u8, .int .u8, .int .u8, .int .u8], bytes := 64, td := .arr 64 5 }),
    (260, { agg := true, ck := [.ptr, .ptr, .ptr, .str], bytes := 40, td := .struct [(0, 17), (1, 17), (2, 17), (3, 9)] }),
    (261, { agg := true, ck := [.ptr, .ptr, .ptr, .str], bytes := 40, td := .struct [(0, 17), (1, 17), (2, 17), (3, 9)] }),
    (265, { agg := false, ck := [.int .u8], bytes := 1, td := .plain }),
    (266, { agg := false, ck := [.int .u8], bytes := 1, td := .plain }),
    (267, { agg := false, ck := [.fn], bytes := 8, td := .other }),
    (268, { agg := false, ck := [.int .i32], bytes := 4, td := .plain }),
    (269, { agg := false, ck := [.int .i32], bytes := 4, td := .plain }),
    (270, { agg := true, ck := [.int .u64, .int .u64, .int .u32, .int .u8, .int .u8, .int .u8, .int .u8, .fn, .ptr, .int .i32, .int .i32], bytes := 48, td := .struct [(0, 12), (1, 12), (2, 238), (3, 265), (4, 5), (5, 5), (6, 266), (7, 267), (8, 206), (9, 268), (10, 269)] }),
    (271, { agg := true, ck := [.int .u64, .int .u64, .int .u32, .int .u8, .int .u8, .int .u8, .int .u8, .fn, .ptr, .int .i32, .int .i32], bytes := 48, td := .struct [(0, 12), (1, 12), (2, 238), (3, 265), (4, 5), (5, 5), (6, 266), (7, 267), (8, 206), (9, 268), (10, 269)] })]
def E_0 : Env := { te := te_0 }
/-- gosem.cut.init -/
def fi2 : Fi := { keep := [], sc := [], lp := [] }
/-- colonnade/colonnadelaw20.RewriteFolds -/
def fi3 : Fi := { keep := [2, 4, 5, 6, 7, 8], sc := [], lp := [] }
/-- colonnade/colonnadelaw20.RewriteValues -/
def fi4 : Fi := { keep := [2, 4, 5, 6, 7, 8, 10, 11, 12, 13, 14, 15, 16, 17, 31], sc := [], lp := [] }
/-- colonnade/colonnadelaw20.RewriteParts -/
def fi5 : Fi := { keep := [3, 6, 7, 8, 9, 10, 11, 12, 13, 14], sc := [(5, (.one 0 [] (.q 1 (.q 2 (.q 4 (.one 3 [2, 1] (.one 5 [4] (.one 6 [] (.q 7 (.q 8 (.q 9 (.q 10 (.one 11 [10, 9, 8, 7] (.q 12 (.q 13 (.q 14 (.q 15 (.q 16 (.q 17 (.q 18 (.q 19 (.q 20 (.one 21 [20, 19, 18, 17, 16, 15, 14, 13, 12] (.q 22 (.q 23 (.q 24 (.q 25 (.q 26 (.q 27 (.q 28 .done))))))))))))))))))))))))))))))], lp := [] }
/-- colonnade/rewrite.Fold -/
def fi6 : Fi := { keep := [2, 4, 5, 7, 15], sc := [], lp := [] }
/-- colonnade/colonnaderef20.Fold -/
def fi7 : Fi := { keep := [2, 4, 5, 7, 15], sc := [], lp := [] }
/-- colonnade/colonnadelaw20.begun -/
def fi8 : Fi := { keep := [0, 1, 2, 3], sc := [], lp := [] }
/-- colonnade/colonnaderef14.Same -/
def fi9 : Fi := { keep := [2, 3, 4, 5, 40, 45, 59], sc := [(6, (.q 0 (.q 1 (.q 2 (.q 3 (.q 4 (.q 5 (.q 6 (.q 7 (.q 8 (.q 9 (.one 10 [9, 8, 7, 6, 5, 4, 3, 2, 1, 0] (.q 11 .done)))))))))))))], lp := [(4, ([2, 3, 4, 5], [58]))] }
/-- colonnade/colonnaderef14.Types -/
def fi10 : Fi := { keep := [2, 3, 4, 8], sc := [], lp := [(3, ([0, 2, 3, 4], [17, 18]))] }
/-- colonnade/colonnaderef14.Check -/
def fi11 : Fi := { keep := [2, 4, 5, 6, 7, 8, 12, 20, 36, 45], sc := [], lp := [(2, ([1, 2, 4, 5, 6], [19]))] }
/-- colonnade/colonnaderef14.Eval -/
def fi12 : Fi := { keep := [2, 4, 5, 6, 8, 9, 10, 11, 21, 27, 35, 45], sc := [], lp := [(6, ([1, 2, 4, 5, 6, 9], [34]))] }
/-- colonnade/rewrite.Both -/
def fi13 : Fi := { keep := [2, 3, 4, 5, 6, 7, 8, 9, 10, 15], sc := [], lp := [(3, ([0, 2, 3, 4, 7, 8, 9], [6, 18]))] }
/-- colonnade/colonnaderef20.Both -/
def fi14 : Fi := { keep := [2, 3, 4, 5, 8, 16], sc := [(7, (.q 0 (.q 1 (.q 2 (.q 3 (.q 4 (.one 5 [4, 3, 2, 1, 0] (.q 6 (.one 7 [6] .done)))))))))], lp := [(5, ([0, 2, 3, 4, 5], [24]))] }
/-- colonnade/rewrite.Wheres -/
def fi15 : Fi := { keep := [2, 4, 5, 6, 7, 8, 10, 23, 25, 26, 27, 28, 49], sc := [(10, (.q 0 (.q 1 (.q 2 (.q 3 (.q 4 (.q 5 (.q 6 (.q 7 (.q 8 (.q 9 (.q 10 (.q 11 (.q 12 (.q 13 (.q 14 (.one 15 [14, 13, 12, 11, 10, 9, 8, 7, 6, 5, 4, 3, 2, 1] (.one 16 [0] (.q 17 .done)))))))))))))))))))], lp := [(6, ([4, 5, 8, 25, 26, 27], [10, 65, 66]))] }
/-- colonnade/colonnaderef20.Wheres -/
def fi16 : Fi := { keep := [2, 4, 5, 6, 7, 8, 9, 10, 11, 24, 30, 55], sc := [(12, (.q 0 (.q 1 (.q 2 (.q 3 (.q 4 (.q 5 (.q 6 (.q 7 (.q 8 (.q 9 (.q 10 (.q 11 (.q 12 (.q 13 (.q 14 (.one 15 [14, 13, 12, 11, 10, 9, 8, 7, 6, 5, 4, 3, 2, 1] (.one 16 [0] (.q 17 .done)))))))))))))))))))], lp := [(7, ([4, 5, 8, 9, 10], [11, 71, 72]))] }
/-- slices.EqualFunc[[]colonnade/api.Expr,[]colonnade/api.Expr,colonnade/api.Expr,colonnade/api.Expr] -/
def fi17 : Fi := { keep := [6, 7, 8, 9, 14, 15, 16, 17, 18, 30], sc := [], lp := [(4, ([1, 2, 6, 15, 16, 17], [8, 9, 29]))] }
/-- colonnade/rewrite.Parts -/
def fi18 : Fi := { keep := [1, 2, 11], sc := [(2, (.q 0 (.q 1 (.q 2 (.q 3 (.q 5 (.q 6 (.q 7 (.q 8 (.one 4 [3, 2, 1, 0] (.one 9 [8, 7, 6, 5] (.one 10 [] (.one 11 [] (.q 12 .done))))))))))))))], lp := [] }
/-- colonnade/colonnaderef20.Parts -/
def fi19 : Fi := { keep := [1, 2, 11], sc := [(3, (.q 0 (.q 1 (.q 2 (.q 3 (.q 5 (.q 6 (.q 7 (.q 8 (.one 4 [3, 2, 1, 0] (.one 9 [8, 7, 6, 5] (.one 10 [] (.q 11 .done)))))))))))))], lp := [] }
/-- slices.Equal[[]colonnade/api.Where,colonnade/api.Where] -/
def fi20 : Fi := { keep := [4, 5, 10, 12, 13, 14, 24], sc := [(6, (.q 0 (.q 1 (.q 2 (.q 3 (.q 4 (.q 5 (.q 6 (.q 7 (.q 8 .done))))))))))], lp := [(4, ([0, 1, 4, 12, 13], []))] }
/-- colonnade/expr.Check -/
def fi21 : Fi := { keep := [2, 4, 5, 6, 7, 26, 35], sc := [], lp := [] }
/-- colonnade/rewrite.fold -/
def fi22 : Fi := { keep := [2, 4, 5, 6, 7, 8, 9, 10, 11, 13, 14, 15, 16, 32, 39, 43, 44, 58, 63, 72, 79, 80, 86, 94, 116, 118, 132], sc := [(10, (.q 0 (.q 1 (.q 2 (.q 3 (.q 4 (.q 5 (.q 6 (.q 7 (.alt 8 [] (.one 9 [] (.one 10 [3, 2, 1, 0] (.one 11 [7, 6, 5, 4] .done))) (.one 9 [] (.one 8 [] (.one 10 [3, 2, 1, 0] (.one 11 [7, 6, 5, 4] .done))))))))))))))], lp := [] }
/-- colonnade/colonnaderef20.fold -/
def fi23 : Fi := { keep := [2, 4, 5, 6, 7, 8, 9, 10, 11, 23, 45, 52, 56, 57, 62, 66, 71, 85], sc := [], lp := [(5, ([1, 2, 4, 5, 6, 7], [8, 32, 36, 37]))] }
/-- colonnade/colonnadelaw20.num -/
def fi24 : Fi := { keep := [2], sc := [], lp := [] }
/-- colonnade/colonnaderef02.OfBool -/
def fi25 : Fi := { keep := [2, 3, 6], sc := [], lp := [] }
/-- colonnade/colonnaderef14.Show -/
def fi26 : Fi := { keep := [1, 2, 3, 4, 6, 7, 13, 25], sc := [], lp := [(8, ([1, 2, 3, 4], [34]))] }
/-- colonnade/colonnaderef02.CheckType -/
def fi27 : Fi := { keep := [1, 2, 30], sc := [], lp := [] }
/-- colonnade/colonnaderef14.Nodes -/
def fi28 : Fi := { keep := [1, 2, 3, 4, 9], sc := [], lp := [(3, ([1, 2, 3, 4], [18]))] }
/-- colonnade/colonnaderef14.depth -/
def fi29 : Fi := { keep := [1, 2, 3, 4, 9], sc := [], lp := [(3, ([1, 2, 3, 4], [18]))] }
/-- colonnade/colonnaderef14.form -/
def fi30 : Fi := { keep := [2, 4, 5, 6, 7, 20, 21, 38, 50, 66, 100, 105, 115], sc := [], lp := [(19, ([1, 2, 4, 7], [114]))] }
/-- colonnade/colonnaderef14.typed -/
def fi31 : Fi := { keep := [2, 4, 5, 6, 7, 8, 9, 14, 28, 35, 36, 43, 48, 58, 65, 68, 76, 87, 92], sc := [(15, (.q 1 (.q 2 (.q 3 (.q 4 (.q 5 (.q 6 (.one 0 [] (.one 7 [6, 5, 4, 3, 2, 1] (.one 8 [] (.q 9 .done))))))))))), (26, (.q 0 (.q 1 (.q 2 (.q 3 (.q 4 (.q 5 (.q 6 (.q 7 (.one 8 [7, 6, 5, 4, 3, 2] (.one 9 [1, 0] (.q 10 .done))))))))))))], lp := [(3, ([1, 2, 4, 5, 6, 7], [8, 24, 32, 33]))] }
/-- colonnade/colonnaderef02.Check -/
def fi32 : Fi := { keep := [1, 2, 3, 4, 5, 10, 15, 26, 38, 42, 53, 60, 71], sc := [], lp := [] }
/-- colonnade/colonnaderef14.Value -/
def fi33 : Fi := { keep := [3, 6, 7, 8, 10, 11, 12, 13, 14, 15, 16, 17, 25, 26, 33, 37, 46, 55, 61, 81, 94, 109, 121, 122, 130, 134, 144], sc := [(36, (.q 0 (.q 1 (.q 2 (.q 3 (.q 4 (.one 5 [4, 3, 2, 1, 0] (.q 6 (.q 7 (.one 8 [7, 6] (.q 9 .done)))))))))))], lp := [(14, ([1, 2, 3, 6, 7, 8, 10], [11, 72, 85])), (23, ([1, 2, 3, 6, 7, 8, 13, 14, 15], [16, 105, 118, 119]))] }
/-- slices.Concat[[]colonnade/api.Expr,colonnade/api.Expr] -/
def fi34 : Fi := { keep := [2, 3, 5, 6, 8, 9, 10, 11, 12, 20, 25, 26, 27, 28], sc := [], lp := [(3, ([0, 2, 3, 9, 10, 11], [])), (11, ([2, 6, 25, 26, 27], [33]))] }
/-- slices.ContainsFunc[[]colonnade/api.Type,colonnade/api.Type] -/
def fi35 : Fi := { keep := [4], sc := [], lp := [] }
/-- colonnade/expr.Check$1 -/
def fi36 : Fi := { keep := [1, 2], sc := [], lp := [] }
/-- colonnade/value.CheckType -/
def fi37 : Fi := { keep := [1, 2, 26], sc := [], lp := [] }
/-- colonnade/expr.Nodes -/
def fi38 : Fi := { keep := [1, 2, 3, 5, 7, 8, 9, 10], sc := [], lp := [(3, ([2, 3, 7, 8, 9], [5, 15]))] }
/-- colonnade/expr.deep -/
def fi39 : Fi := { keep := [1, 2, 3, 5, 7, 8, 9, 10], sc := [], lp := [(3, ([2, 3, 7, 8, 9], [5, 15]))] }
/-- colonnade/expr.may -/
def fi40 : Fi := { keep := [2, 3, 4, 5, 6, 7, 8, 9, 25, 26, 39, 47, 59, 67, 74, 83, 87], sc := [(2, (.q 0 (.q 1 (.q 2 (.q 3 (.q 4 (.q 5 (.q 6 (.q 7 (.q 8 (.q 9 (.q 10 (.q 11 (.q 12 (.q 13 .done)))))))))))))))], lp := [] }
/-- colonnade/expr.typed -/
def fi41 : Fi := { keep := [2, 4, 5, 6, 8, 9, 10, 11, 12, 13, 14, 15, 16, 17, 18, 20, 21, 22, 23, 33, 44, 45, 52, 57, 67, 74, 77, 82, 87, 119, 138], sc := [(18, (.q 0 (.q 1 (.q 2 (.q 3 (.q 4 (.q 5 (.q 6 (.one 7 [6, 5, 4, 3, 2, 1] (.one 8 [0] (.q 9 .done))))))))))), (22, (.q 0 (.q 1 (.one 2 [1] (.one 3 [0] (.q 4 .done)))))), (28, (.q 0 (.q 1 (.one 2 [1] (.one 3 [0] (.q 4 .done)))))), (30, (.q 0 (.q 1 (.q 2 (.q 3 (.q 4 (.q 5 (.one 6 [] (.q 7 (.one 8 [7, 5, 4, 3, 2, 1, 0] .done)))))))))), (31, (.q 0 (.q 1 (.q 2 (.q 3 (.q 4 (.q 5 (.q 6 (.q 7 (.q 8 (.q 9 (.q 10 (.q 11 (.q 12 (.q 13 (.q 14 (.q 15 (.q 16 (.one 17 [16, 15, 14, 13, 12, 11, 10, 9, 8, 7, 6, 5, 4, 3, 2] (.q 18 (.q 19 (.q 20 (.one 21 [20, 19, 18] (.q 22 (.q 23 (.one 24 [1, 0] (.q 25 .done))))))))))))))))))))))))))), (38, (.q 0 (.q 1 (.q 2 (.q 3 (.q 4 (.q 5 (.q 6 (.q 7 (.q 8 (.q 9 .done))))))))))), (40, (.q 0 (.q 1 (.q 2 (.q 3 (.one 4 [3] (.one 5 [2, 1, 0] (.q 6 (.q 7 (.one 8 [7, 6] (.q 9 .done)))))))))))], lp := [(3, ([1, 2, 4, 5, 6, 20, 21, 22], [8, 9, 29, 37, 38])), (36, ([2, 4, 5, 6, 11, 13, 16, 17, 18], []))] }
/-- colonnade/rewrite.folds -/
def fi42 : Fi := { keep := [4, 5, 7, 8, 9, 10, 11], sc := [], lp := [(3, ([1, 4, 5, 8, 9, 10], [7, 17, 18, 19]))] }
/-- slices.ContainsFunc[[]colonnade/api.Expr,colonnade/api.Expr] -/
def fi43 : Fi := { keep := [4], sc := [], lp := [] }
/-- colonnade/rewrite.fold$1 -/
def fi44 : Fi := { keep := [1, 2], sc := [], lp := [] }
/-- colonnade/expr.Eval -/
def fi45 : Fi := { keep := [2, 4, 5, 7, 8, 9, 18, 22, 35], sc := [(1, (.q 0 (.q 1 (.alt 2 [1] (.alt 3 [0] (.q 4 (.q 5 (.q 6 (.one 7 [] (.one 8 [5, 4] (.q 9 .done)))))) (.one 7 [] (.one 3 [0] (.q 4 (.q 5 (.q 6 (.one 8 [5, 4] (.q 9 .done)))))))) (.one 7 [] (.one 2 [1] (.one 3 [0] (.q 4 (.q 5 (.q 6 (.one 8 [5, 4] (.q 9 .done)))))))))))), (6, (.q 0 (.q 1 (.q 5 (.alt 2 [1] (.q 3 (.alt 4 [3, 0] (.alt 6 [5] (.q 7 (.q 8 (.q 9 (.one 10 [] (.one 11 [8, 7] (.q 12 .done)))))) (.one 10 [] (.one 6 [5] (.q 7 (.q 8 (.q 9 (.one 11 [8, 7] (.q 12 .done)))))))) (.one 10 [] (.one 4 [3, 0] (.one 6 [5] (.q 7 (.q 8 (.q 9 (.one 11 [8, 7] (.q 12 .done)))))))))) (.one 10 [] (.one 2 [1] (.q 3 (.one 4 [3, 0] (.one 6 [5] (.q 7 (.q 8 (.q 9 (.one 11 [8, 7] (.q 12 .done)))))))))))))))], lp := [] }
/-- colonnade/rewrite.isBool -/
def fi46 : Fi := { keep := [2, 4], sc := [(1, (.q 0 (.q 1 (.q 2 (.q 3 (.q 4 (.q 5 (.q 6 (.one 7 [6, 3, 2, 1, 0] (.q 8 (.q 9 (.q 10 .done))))))))))))], lp := [] }
/-- colonnade/rewrite.branch -/
def fi47 : Fi := { keep := [1, 2, 3, 4, 5, 21, 22, 26, 34, 40], sc := [], lp := [(4, ([1, 2, 3, 4], [26, 37]))] }
/-- colonnade/colonnaderef20.constant -/
def fi48 : Fi := { keep := [1, 2], sc := [], lp := [] }
/-- colonnade/colonnaderef20.logic -/
def fi49 : Fi := { keep := [1, 2, 3, 4, 5, 17, 22, 28], sc := [], lp := [] }
/-- colonnade/colonnaderef20.not -/
def fi50 : Fi := { keep := [1, 2, 3, 10, 17], sc := [], lp := [] }
/-- colonnade/colonnaderef20.cases -/
def fi51 : Fi := { keep := [2, 4, 5, 6, 7, 8, 9, 10, 11, 13, 14, 27, 36, 45, 59, 84], sc := [(11, (.q 0 (.q 1 (.q 2 (.q 3 (.q 4 (.q 5 (.q 6 (.q 7 (.one 8 [7, 6, 5, 4, 3, 2, 1] (.one 9 [0] (.q 10 .done))))))))))))], lp := [(5, ([1, 2, 4, 5, 6, 7, 8], [9, 36, 54, 55]))] }
/-- colonnade/colonnaderef02.OfInt -/
def fi52 : Fi := { keep := [2], sc := [], lp := [] }
/-- colonnade/colonnaderef01.FormatInt -/
def fi53 : Fi := { keep := [2, 4], sc := [], lp := [] }
/-- colonnade/colonnaderef02.Show -/
def fi54 : Fi := { keep := [1, 2, 3, 4, 5, 6, 7, 8, 9, 11, 17, 18, 22, 23, 26, 38, 41, 48, 55, 70, 79], sc := [], lp := [(19, ([1, 2, 6, 7], [57, 58, 64, 65]))] }
/-- colonnade/colonnaderef14.word -/
def fi55 : Fi := { keep := [1, 2, 3, 4, 7, 9, 10, 12, 14, 16, 18, 20, 24, 33, 50], sc := [], lp := [] }
/-- colonnade/colonnaderef14.arity -/
def fi56 : Fi := { keep := [4, 5, 6, 11, 19, 28], sc := [], lp := [] }
/-- colonnade/colonnaderef14.kind -/
def fi57 : Fi := { keep := [2], sc := [], lp := [] }
/-- colonnade/colonnaderef02.Alike -/
def fi58 : Fi := { keep := [2, 3, 4], sc := [(1, (.q 0 (.q 1 (.q 3 (.q 4 (.one 2 [1, 0] (.one 5 [4, 3] (.q 6 (.q 7 (.q 8 (.q 9 (.q 10 (.q 11 (.q 12 (.q 13 (.q 14 (.q 15 (.q 16 (.q 17 .done)))))))))))))))))))], lp := [] }
/-- colonnade/colonnaderef14.all -/
def fi59 : Fi := { keep := [4, 5, 9, 18], sc := [], lp := [(2, ([0, 1, 4, 5], []))] }
/-- colonnade/colonnaderef14.result -/
def fi60 : Fi := { keep := [2, 4, 5, 6, 7, 8, 9, 10, 11, 20, 47], sc := [], lp := [(4, ([1, 2, 4, 5, 6, 7, 8], [31, 32])), (9, ([1, 2, 4, 5, 9, 10, 11], []))] }
/-- colonnade/colonnaderef14.way -/
def fi61 : Fi := { keep := [2, 4], sc := [], lp := [] }
/-- colonnade/colonnaderef14.arith -/
def fi62 : Fi := { keep := [4, 5, 6, 7, 8, 9, 33, 34, 39, 43, 45, 62, 64, 82], sc := [(14, (.q 0 (.q 1 (.q 2 (.q 3 (.q 4 (.q 5 (.q 6 (.q 7 (.q 8 (.q 9 (.q 10 (.q 11 (.q 12 (.q 13 (.q 14 (.one 15 [7, 6, 5, 4, 3, 2, 1, 0] (.q 16 .done)))))))))))))))))), (21, (.q 1 (.q 2 (.q 3 (.one 0 [] (.q 4 (.q 5 (.q 6 (.q 7 (.q 8 (.q 9 (.q 10 (.q 11 (.q 12 (.q 13 (.q 14 (.q 15 (.q 16 (.q 17 (.q 18 (.q 19 (.q 20 (.q 21 (.q 22 (.one 23 [17, 16, 15, 14, 13, 12, 11, 10, 9, 8, 7, 6, 5, 4, 3, 2, 1] (.q 24 .done))))))))))))))))))))))))))], lp := [] }
/-- colonnade/colonnaderef01.Fits -/
def fi63 : Fi := { keep := [2], sc := [], lp := [] }
/-- colonnade/colonnaderef14.logic -/
def fi64 : Fi := { keep := [3, 6, 7, 8, 9, 10, 11, 23, 42, 56, 60], sc := [], lp := [] }
/-- colonnade/colonnaderef14.choice -/
def fi65 : Fi := { keep := [4, 5, 8, 9, 10, 11, 12, 13, 14, 15, 16, 25, 40, 44], sc := [], lp := [(4, ([2, 3, 4, 5, 8, 9, 10, 11, 12], [13, 36, 43]))] }
/-- colonnade/colonnaderef14.as -/
def fi66 : Fi := { keep := [3, 4, 6, 7, 8, 9, 11], sc := [], lp := [] }
/-- colonnade/colonnaderef02.None -/
def fi67 : Fi := { keep := [1, 2], sc := [], lp := [] }
/-- colonnade/colonnaderef14.Truth -/
def fi68 : Fi := { keep := [2, 4], sc := [], lp := [] }
/-- colonnade/colonnaderef02.Not -/
def fi69 : Fi := { keep := [2, 3, 4, 6], sc := [], lp := [] }
/-- colonnade/colonnaderef14.truth -/
def fi70 : Fi := { keep := [1, 2, 3], sc := [], lp := [] }
/-- colonnade/colonnaderef14.reckon -/
def fi71 : Fi := { keep := [3, 4, 6, 7, 8, 9, 10, 12, 13, 14, 15, 16, 17, 28, 29, 41, 57, 70, 88, 126], sc := [(8, (.q 0 (.q 1 (.q 2 (.q 3 (.q 4 (.q 6 (.q 7 (.q 8 (.q 9 (.q 10 (.q 11 (.q 12 (.q 13 (.one 5 [4, 3, 2, 1, 0] (.one 14 [] (.q 15 .done)))))))))))))))))], lp := [] }
/-- slices.Grow[[]colonnade/api.Expr,colonnade/api.Expr] -/
def fi72 : Fi := { keep := [0, 1, 4, 6, 16], sc := [], lp := [] }
/-- slices.IndexFunc[[]colonnade/api.Type,colonnade/api.Type] -/
def fi73 : Fi := { keep := [4, 5, 7, 8, 9, 16], sc := [], lp := [(2, ([0, 1, 4, 7, 8], [16]))] }
/-- colonnade/value.scaled -/
def fi74 : Fi := { keep := [2], sc := [], lp := [] }
/-- colonnade/value.Check -/
def fi75 : Fi := { keep := [1, 2, 3, 4, 5, 10, 18, 27, 41, 50, 64, 77], sc := [], lp := [] }
/-- colonnade/expr.may$1 -/
def fi76 : Fi := { keep := [2, 3], sc := [], lp := [] }
/-- colonnade/expr.typed$1 -/
def fi77 : Fi := { keep := [2, 3], sc := [], lp := [] }
/-- colonnade/expr.typed$1$1 -/
def fi78 : Fi := { keep := [2, 3], sc := [], lp := [] }
/-- colonnade/value.Alike -/
def fi79 : Fi := { keep := [2, 3, 4], sc := [(1, (.q 0 (.q 1 (.q 2 (.q 3 (.q 4 (.q 5 (.q 6 (.q 7 (.q 8 (.q 9 (.q 10 (.q 12 (.q 13 (.one 11 [10, 9, 8, 7, 6, 5, 4, 3, 2, 1, 0] (.one 14 [13, 12] (.q 15 (.q 16 (.q 17 .done)))))))))))))))))))], lp := [] }
/-- colonnade/expr.number -/
def fi80 : Fi := { keep := [1, 2], sc := [], lp := [] }
/-- colonnade/expr.common -/
def fi81 : Fi := { keep := [2, 3, 4, 5, 7, 12, 13, 14, 15, 18, 22], sc := [], lp := [(4, ([2, 3, 4, 5, 12, 13, 14], [7, 24, 27]))] }
/-- colonnade/expr.results -/
def fi82 : Fi := { keep := [2, 4, 5, 6, 9, 14], sc := [], lp := [(5, ([1, 4, 5, 6], [22, 23]))] }
/-- colonnade/expr.arith -/
def fi83 : Fi := { keep := [6, 7, 8, 9, 10, 11, 23, 26, 34, 40, 63, 76, 80], sc := [(1, (.q 0 (.q 1 (.q 2 (.q 3 (.q 4 (.q 5 (.q 6 (.q 7 (.q 8 (.alt 9 [] (.one 10 [] (.one 11 [2, 1, 0] (.one 12 [8, 7, 6, 5, 4, 3] .done))) (.one 10 [] (.one 9 [] (.one 11 [2, 1, 0] (.one 12 [8, 7, 6, 5, 4, 3] .done))))))))))))))), (8, (.q 0 (.q 1 (.one 2 [1] (.one 3 [0] (.q 4 .done)))))), (10, (.q 0 (.q 1 (.q 2 (.q 3 (.q 4 (.q 5 (.q 6 (.q 7 (.q 8 (.q 9 (.q 10 (.q 11 (.one 12 [5, 4, 3, 2, 1, 0] (.q 13 .done))))))))))))))), (17, (.q 0 (.q 1 (.q 2 (.q 3 (.q 4 (.q 5 (.q 6 (.q 7 (.q 8 (.q 9 (.q 10 (.q 11 (.q 12 (.q 13 (.q 14 (.q 15 (.q 16 (.q 17 (.q 18 (.q 19 (.q 20 (.q 21 (.q 22 (.one 23 [17, 16, 15, 14, 13, 12, 11, 10, 9, 8, 7, 6, 5, 4, 3, 2, 1, 0] (.q 24 .done))))))))))))))))))))))))))], lp := [] }
/-- slices.IndexFunc[[]colonnade/api.Expr,colonnade/api.Expr] -/
def fi84 : Fi := { keep := [4, 5, 7, 8, 9, 16], sc := [], lp := [(2, ([0, 1, 4, 7, 8], [16]))] }
/-- colonnade/expr.types -/
def fi85 : Fi := { keep := [2, 3, 5, 6, 7, 8, 9], sc := [], lp := [(3, ([2, 3, 6, 7, 8], [5, 15, 16]))] }
/-- slices.ContainsFunc[[]colonnade/api.Value,colonnade/api.Value] -/
def fi86 : Fi := { keep := [4], sc := [], lp := [] }
/-- colonnade/expr.Eval$1 -/
def fi87 : Fi := { keep := [1, 2], sc := [], lp := [] }
/-- (*colonnade/expr.eval).of -/
def fi88 : Fi := { keep := [3, 4, 5, 6, 8, 9, 10, 11, 12, 14, 15, 16, 17, 18, 19, 20, 21, 22, 33, 34, 44, 48, 56, 71, 83, 90, 104, 107, 132, 135, 136, 137, 138, 154, 165, 166, 167, 168, 179, 191, 197], sc := [(1, (.q 0 (.q 1 (.q 2 (.q 3 (.q 4 (.alt 5 [4, 3, 2, 1, 0] (.q 6 (.q 7 (.q 8 (.one 9 [] (.one 10 [7, 6] (.q 11 .done)))))) (.one 9 [] (.one 5 [4, 3, 2, 1, 0] (.q 6 (.q 7 (.q 8 (.one 10 [7, 6] (.q 11 .done)))))))))))))), (4, (.q 0 (.q 1 (.q 2 (.q 3 (.q 4 (.q 5 (.q 6 (.q 7 (.one 8 [7, 6, 5, 4, 3, 2, 1, 0] (.q 9 .done))))))))))), (14, (.q 0 (.q 1 (.q 2 (.q 3 (.q 4 (.q 5 (.q 6 (.one 7 [6, 5, 4, 3, 2, 1, 0] (.q 8 (.q 9 (.one 10 [9, 8] (.q 11 .done))))))))))))), (23, (.q 0 (.q 1 (.q 2 (.q 3 (.q 4 (.q 5 (.q 6 (.q 7 (.one 8 [7, 6, 5, 4, 3, 2, 1, 0] (.q 9 (.q 10 (.one 11 [10, 9] (.q 12 .done)))))))))))))), (24, (.q 0 (.q 1 (.q 2 (.q 3 (.q 4 (.q 5 (.q 6 (.q 7 (.q 8 (.q 9 (.one 10 [9, 8, 7, 6, 5, 4, 3, 2, 1, 0] (.q 11 (.q 12 (.one 13 [12, 11] (.q 14 .done)))))))))))))))), (42, (.q 0 (.q 1 (.q 2 (.q 3 (.q 4 (.q 5 (.q 6 (.q 7 (.q 8 (.one 9 [8, 4, 3, 2, 1, 0] (.q 10 .done))))))))))))], lp := [(17, ([0, 3, 4, 5, 6, 10], [100, 116])), (27, ([0, 3, 4, 5, 6, 135, 136, 137], [14, 15, 145])), (37, ([0, 3, 4, 5, 6, 17, 18, 165, 166, 167], [20, 21, 175]))] }
/-- colonnade/value.OfBool -/
def fi89 : Fi := { keep := [2, 3], sc := [], lp := [] }
/-- slices.Chunk[[]colonnade/api.Expr,colonnade/api.Expr] -/
def fi90 : Fi := { keep := [2, 3, 4, 6], sc := [], lp := [] }
/-- colonnade/colonnaderef20.is -/
def fi91 : Fi := { keep := [2, 4], sc := [(1, (.q 0 (.q 1 (.q 2 (.q 3 (.q 4 (.q 5 (.q 6 (.one 7 [6, 3, 2, 1, 0] (.q 8 (.q 9 (.q 10 .done))))))))))))], lp := [] }
/-- colonnade/colonnaderef20.turned -/
def fi92 : Fi := { keep := [2, 3, 4, 6, 8, 10, 12], sc := [], lp := [] }
/-- colonnade/colonnaderef01.plain -/
def fi93 : Fi := { keep := [0, 4, 5, 13], sc := [], lp := [(2, ([0, 1, 4, 5], [18]))] }
/-- colonnade/colonnaderef01.amount -/
def fi94 : Fi := { keep := [2, 4], sc := [], lp := [] }
/-- colonnade/colonnaderef01.FormatDec -/
def fi95 : Fi := { keep := [4, 5, 6, 12, 19, 35], sc := [(5, (.q 0 (.q 1 (.q 2 (.q 3 (.q 4 (.q 5 (.q 6 (.q 7 (.q 8 (.q 9 (.q 10 (.q 11 (.q 12 (.q 13 (.q 14 .done))))))))))))))))], lp := [] }
/-- colonnade/colonnaderef01.FormatDay -/
def fi96 : Fi := { keep := [2, 3, 4, 5, 6, 7, 16], sc := [], lp := [] }
/-- colonnade/colonnaderef02.family -/
def fi97 : Fi := { keep := [2, 4], sc := [], lp := [] }
/-- colonnade/colonnaderef14.Results -/
def fi98 : Fi := { keep := [4, 5, 6, 9, 24], sc := [], lp := [(3, ([0, 1, 4, 5, 6], [27, 28]))] }
/-- colonnade/colonnaderef14.Common -/
def fi99 : Fi := { keep := [2, 3, 4, 5, 6, 7, 11, 40], sc := [(7, (.q 0 (.q 1 (.q 2 (.q 3 (.q 4 (.q 5 (.q 6 (.q 7 (.q 8 (.q 9 (.q 10 (.q 11 .done)))))))))))))], lp := [(5, ([0, 2, 3, 4, 5, 6, 7], [31]))] }
/-- colonnade/colonnaderef14.number -/
def fi100 : Fi := { keep := [1, 2], sc := [], lp := [] }
/-- colonnade/colonnaderef02.And -/
def fi101 : Fi := { keep := [4, 10, 16], sc := [], lp := [] }
/-- colonnade/colonnaderef02.Or -/
def fi102 : Fi := { keep := [4], sc := [], lp := [] }
/-- colonnade/colonnaderef02.Cast -/
def fi103 : Fi := { keep := [2, 3, 4, 5, 6, 7, 8, 9, 10, 11, 15, 25, 28, 33, 37, 42, 47, 64, 78, 91], sc := [(22, (.q 0 (.q 1 (.q 2 (.q 4 (.q 5 (.one 3 [2] (.one 6 [5, 4, 1, 0] (.q 7 (.q 8 (.q 9 (.q 10 (.q 11 .done)))))))))))))], lp := [] }
/-- colonnade/colonnaderef02.Truth -/
def fi104 : Fi := { keep := [1, 2, 3, 7, 9, 12], sc := [], lp := [] }
/-- colonnade/colonnaderef02.Test -/
def fi105 : Fi := { keep := [4, 5, 6, 7, 8, 9, 15, 21, 27, 31, 32, 36, 40, 44, 48, 52, 56], sc := [], lp := [] }
/-- colonnade/colonnaderef02.OfText -/
def fi106 : Fi := { keep := [2], sc := [], lp := [] }
/-- colonnade/colonnaderef14.by -/
def fi107 : Fi := { keep := [6, 7, 8, 9, 16, 23, 30, 37], sc := [], lp := [] }
/-- colonnade/num.Fits -/
def fi108 : Fi := { keep := [2], sc := [], lp := [] }
/-- colonnade/value.family -/
def fi109 : Fi := { keep := [2, 4], sc := [], lp := [] }
/-- slices.IndexFunc[[]colonnade/api.Value,colonnade/api.Value] -/
def fi110 : Fi := { keep := [4, 5, 7, 8, 9, 16], sc := [], lp := [(2, ([0, 1, 4, 7, 8], [16]))] }
/-- (*colonnade/expr.eval).logic -/
def fi111 : Fi := { keep := [3, 4, 5, 6, 7, 8, 9, 10, 13, 29], sc := [], lp := [] }
/-- (*colonnade/expr.eval).truth -/
def fi112 : Fi := { keep := [3, 4, 5, 6, 7, 8], sc := [], lp := [] }
/-- colonnade/expr.lift -/
def fi113 : Fi := { keep := [2, 4], sc := [], lp := [] }
/-- colonnade/value.Not -/
def fi114 : Fi := { keep := [2, 3, 4, 6], sc := [], lp := [] }
/-- (*colonnade/expr.eval).as -/
def fi115 : Fi := { keep := [4, 5, 6, 7, 8, 9, 10, 11, 19], sc := [], lp := [] }
/-- colonnade/value.None -/
def fi116 : Fi := { keep := [1, 2], sc := [], lp := [] }
/-- colonnade/expr.reckon -/
def fi117 : Fi := { keep := [3, 4, 6, 7, 8, 9, 10, 12, 13, 14, 15, 16, 17, 28, 29, 41, 53, 66, 84, 87, 88, 98, 108, 118, 128, 138], sc := [(1, (.q 0 (.q 1 (.q 2 (.q 3 (.q 4 (.q 5 (.q 6 (.q 7 (.q 8 (.alt 9 [] (.one 10 [] (.one 11 [2, 1, 0] (.one 12 [8, 7, 6, 5, 4, 3] .done))) (.one 10 [] (.one 9 [] (.one 11 [2, 1, 0] (.one 12 [8, 7, 6, 5, 4, 3] .done))))))))))))))), (8, (.q 0 (.q 1 (.one 2 [1] (.q 3 (.one 4 [0] (.q 5 .done))))))), (33, (.q 0 (.q 1 (.q 2 (.q 3 (.q 4 (.one 5 [4, 3, 2, 1] (.q 6 (.q 7 (.one 8 [0] (.q 9 .done)))))))))))], lp := [] }
/-- colonnade/value.of -/
def fi118 : Fi := { keep := [8], sc := [], lp := [] }
/-- slices.Chunk[[]colonnade/api.Expr,colonnade/api.Expr]$1 -/
def fi119 : Fi := { keep := [4, 5, 9, 30], sc := [(3, (.q 0 (.q 1 (.q 2 (.q 3 (.q 4 (.q 5 (.q 6 .done))))))))], lp := [(1, ([0, 1, 2, 4], [29]))] }
/-- colonnade/colonnaderef01.Civil -/
def fi120 : Fi := { keep := [0, 2, 3, 4, 5, 6, 7, 8, 14, 24, 35], sc := [], lp := [(5, ([0, 2, 3, 4, 5, 6], [22])), (9, ([2, 3, 4, 5, 6, 7, 8], [34, 39]))] }
/-- colonnade/colonnaderef02.way -/
def fi121 : Fi := { keep := [4], sc := [], lp := [] }
/-- colonnade/colonnaderef02.read -/
def fi122 : Fi := { keep := [3, 4, 5, 6, 7, 8, 9, 10, 11, 12, 13, 17, 18, 22, 26, 29, 39, 41, 50, 62, 64, 74], sc := [], lp := [] }
/-- colonnade/colonnaderef01.Scale -/
def fi123 : Fi := { keep := [6, 7, 8, 10, 11, 12, 14, 15, 29, 32, 35, 55, 77], sc := [], lp := [] }
/-- colonnade/colonnaderef02.scale -/
def fi124 : Fi := { keep := [1, 2, 6], sc := [], lp := [] }
/-- colonnade/colonnaderef02.compare -/
def fi125 : Fi := { keep := [2, 3, 4, 5, 6, 8, 13], sc := [(3, (.q 0 (.q 2 (.one 1 [0] (.one 3 [2] (.q 4 (.q 5 .done))))))), (6, (.q 0 (.q 1 (.q 2 (.q 4 (.q 5 (.q 6 (.one 3 [2, 1, 0] (.one 7 [6, 5, 4] (.one 8 [] (.q 9 .done)))))))))))], lp := [] }
/-- colonnade/colonnaderef01.Add -/
def fi126 : Fi := { keep := [4, 5, 23], sc := [], lp := [] }
/-- colonnade/colonnaderef01.Sub -/
def fi127 : Fi := { keep := [4, 5, 23], sc := [], lp := [] }
/-- colonnade/colonnaderef01.Mul -/
def fi128 : Fi := { keep := [4, 5, 6, 7, 17], sc := [], lp := [] }
/-- colonnade/colonnaderef01.Div -/
def fi129 : Fi := { keep := [4, 5, 7], sc := [], lp := [] }
/-- colonnade/colonnaderef01.Rem -/
def fi130 : Fi := { keep := [4, 5, 7], sc := [], lp := [] }
/-- colonnade/colonnaderef01.Neg -/
def fi131 : Fi := { keep := [2, 3], sc := [], lp := [] }
/-- colonnade/value.And -/
def fi132 : Fi := { keep := [4, 5, 12], sc := [], lp := [] }
/-- colonnade/value.Or -/
def fi133 : Fi := { keep := [4, 5, 12], sc := [], lp := [] }
/-- colonnade/value.Truth -/
def fi134 : Fi := { keep := [1, 2, 3, 4, 9, 12], sc := [], lp := [] }
/-- colonnade/value.Cast -/
def fi135 : Fi := { keep := [2, 3, 4, 5, 6, 7, 8, 9, 13, 19, 50, 55, 63, 72, 84, 106], sc := [(5, (.q 0 (.q 1 (.q 2 (.q 3 (.q 4 (.q 5 (.q 6 (.q 7 (.q 8 (.q 9 (.q 10 (.q 11 (.q 12 (.q 13 (.q 14 (.q 15 (.q 16 (.q 17 (.q 18 (.q 19 (.q 20 (.q 21 (.q 23 (.q 24 (.one 22 [21, 20, 19, 18, 17, 16, 15, 14, 13, 12, 11, 10, 9, 8, 7, 6, 5, 4, 3, 2, 1, 0] (.one 25 [24, 23] (.q 26 (.q 27 (.q 28 (.q 29 .done))))))))))))))))))))))))))))))), (17, (.q 0 (.q 1 (.q 2 (.q 4 (.q 5 (.one 3 [2] (.one 6 [5, 4, 1, 0] (.q 7 (.q 8 (.q 9 (.q 10 (.q 11 .done)))))))))))))], lp := [] }
/-- colonnade/value.Test -/
def fi136 : Fi := { keep := [4, 5, 6, 7, 8, 9, 16, 23, 47], sc := [], lp := [] }
/-- colonnade/value.OfText -/
def fi137 : Fi := { keep := [2], sc := [], lp := [] }
/-- colonnade/value.OfInt -/
def fi138 : Fi := { keep := [2], sc := [], lp := [] }
/-- colonnade/num.Add -/
def fi139 : Fi := { keep := [4, 5, 6, 15], sc := [], lp := [] }
/-- colonnade/num.Sub -/
def fi140 : Fi := { keep := [4, 5, 6, 15], sc := [], lp := [] }
/-- colonnade/num.Mul -/
def fi141 : Fi := { keep := [4, 5], sc := [], lp := [] }
/-- colonnade/num.Div -/
def fi142 : Fi := { keep := [4, 5, 6, 9], sc := [], lp := [] }
/-- colonnade/num.Rem -/
def fi143 : Fi := { keep := [4, 5, 6, 7, 9], sc := [], lp := [] }
/-- colonnade/num.Neg -/
def fi144 : Fi := { keep := [2, 3], sc := [], lp := [] }
/-- colonnade/colonnaderef01.before -/
def fi145 : Fi := { keep := [2, 3], sc := [], lp := [] }
/-- colonnade/colonnaderef01.length -/
def fi146 : Fi := { keep := [4, 5, 6, 11, 14], sc := [], lp := [] }
/-- colonnade/colonnaderef02.upper -/
def fi147 : Fi := { keep := [2, 3, 4, 10, 24], sc := [], lp := [(3, ([2, 3, 4], []))] }
/-- colonnade/colonnaderef01.ParseInt -/
def fi148 : Fi := { keep := [0, 2, 3, 4, 5, 6, 15, 20, 27], sc := [], lp := [] }
/-- colonnade/colonnaderef01.ParseDec -/
def fi149 : Fi := { keep := [0, 2, 3, 4, 5, 6, 7, 8, 9, 10, 11, 12, 21, 33, 42, 49, 52, 55, 64], sc := [], lp := [(5, ([0, 2, 3, 4, 5, 6], []))] }
/-- colonnade/colonnaderef01.ParseDay -/
def fi150 : Fi := { keep := [2, 3, 4, 6, 8, 40], sc := [], lp := [] }
/-- colonnade/colonnaderef01.Pow10 -/
def fi151 : Fi := { keep := [2, 3, 4, 5, 11, 14], sc := [], lp := [(5, ([0, 2, 3, 4, 5], []))] }
/-- colonnade/colonnaderef01.signed -/
def fi152 : Fi := { keep := [4, 5, 10, 15], sc := [], lp := [] }
/-- colonnade/colonnaderef02.sign -/
def fi153 : Fi := { keep := [4, 5, 6], sc := [], lp := [] }
/-- colonnade/colonnaderef01.WideCmp -/
def fi154 : Fi := { keep := [2, 3, 4, 5, 25], sc := [], lp := [] }
/-- colonnade/colonnaderef01.WideMul -/
def fi155 : Fi := { keep := [4, 5, 6, 19, 29], sc := [], lp := [] }
/-- colonnade/colonnaderef01.product -/
def fi156 : Fi := { keep := [4, 5, 6, 7, 8], sc := [], lp := [] }
/-- colonnade/value.texted -/
def fi157 : Fi := { keep := [1, 2, 3, 4, 10, 15], sc := [], lp := [] }
/-- colonnade/value.read -/
def fi158 : Fi := { keep := [3, 4, 5, 6, 7, 8, 9, 10, 12, 13, 25, 26, 33, 42, 51, 59], sc := [], lp := [] }
/-- colonnade/num.Scale -/
def fi159 : Fi := { keep := [6, 7, 8, 10, 11, 12, 14, 15, 16, 25, 29, 52, 67, 75], sc := [(12, (.q 0 (.q 1 (.q 2 (.q 3 (.q 4 (.q 5 (.q 6 (.q 7 .done)))))))))], lp := [] }
/-- colonnade/value.places -/
def fi160 : Fi := { keep := [1, 2, 6], sc := [], lp := [] }
/-- colonnade/value.held -/
def fi161 : Fi := { keep := [2, 3, 4, 5, 8, 9, 16], sc := [(6, (.q 0 (.q 2 (.one 1 [0] (.one 3 [2] (.q 4 (.q 5 .done))))))), (7, (.q 0 (.q 1 (.q 3 (.q 4 (.one 2 [1, 0] (.one 5 [4, 3] (.one 6 [] (.q 7 .done)))))))))], lp := [] }
/-- colonnade/num.Narrow -/
def fi162 : Fi := { keep := [1, 2, 3, 10], sc := [], lp := [] }
/-- colonnade/num.WideMul -/
def fi163 : Fi := { keep := [4, 5, 6, 7, 8, 9, 10, 55, 62], sc := [], lp := [] }
/-- colonnade/colonnaderef01.leap -/
def fi164 : Fi := { keep := [2], sc := [], lp := [] }
/-- colonnade/colonnaderef01.digits -/
def fi165 : Fi := { keep := [2, 3, 7, 19], sc := [], lp := [(2, ([0, 2, 3], []))] }
/-- colonnade/colonnaderef01.read -/
def fi166 : Fi := { keep := [4, 5, 6, 7, 8, 12, 25], sc := [], lp := [(3, ([0, 1, 4, 5, 6, 7], []))] }
/-- colonnade/colonnaderef01.Day -/
def fi167 : Fi := { keep := [6, 7, 8, 9, 34, 43], sc := [], lp := [(5, ([0, 1, 6, 7, 8, 9], [49]))] }
/-- colonnade/value.Show -/
def fi168 : Fi := { keep := [1, 2, 3, 4, 8, 11, 21, 26, 36, 50, 61, 67], sc := [], lp := [] }
/-- colonnade/value.capitals -/
def fi169 : Fi := { keep := [2], sc := [], lp := [] }
/-- colonnade/num.ParseInt -/
def fi170 : Fi := { keep := [2, 3, 4, 5, 9, 16], sc := [], lp := [] }
/-- colonnade/num.ParseDec -/
def fi171 : Fi := { keep := [2, 3, 4, 5, 6, 7, 8, 9, 17, 29, 46, 49], sc := [], lp := [] }
/-- colonnade/num.ParseDay -/
def fi172 : Fi := { keep := [2, 3, 4, 6, 8, 34], sc := [(1, (.q 0 (.q 1 (.q 2 (.q 3 (.q 4 (.q 5 (.q 6 (.q 7 (.q 8 (.q 9 (.q 10 (.q 11 (.q 12 (.q 13 (.q 14 (.q 15 (.q 16 (.q 17 (.q 18 (.q 19 (.q 20 (.q 21 (.one 22 [21, 20, 19, 18, 17, 16, 15, 14, 13, 12, 11, 10, 9, 8, 7, 6, 5, 4, 3, 2, 1, 0] (.q 23 (.q 24 .done))))))))))))))))))))))))))], lp := [] }
/-- colonnade/num.scale -/
def fi173 : Fi := { keep := [2], sc := [], lp := [] }
/-- colonnade/num.Pow10 -/
def fi174 : Fi := { keep := [2, 3, 4, 7, 8, 9, 10], sc := [], lp := [(5, ([2, 3, 4, 8, 9], []))] }
/-- colonnade/value.three[string] -/
def fi175 : Fi := { keep := [4, 5, 9], sc := [], lp := [] }
/-- colonnade/num.WideCmp -/
def fi176 : Fi := { keep := [2, 3, 4, 5, 9], sc := [], lp := [] }
/-- colonnade/value.wide -/
def fi177 : Fi := { keep := [2, 4, 5], sc := [], lp := [] }
/-- colonnade/value.three[int64] -/
def fi178 : Fi := { keep := [4, 5, 9], sc := [], lp := [] }
/-- colonnade/num.FormatInt -/
def fi179 : Fi := { keep := [2], sc := [], lp := [] }
/-- strings.ReplaceAll -/
def fi180 : Fi := { keep := [6], sc := [], lp := [] }
/-- colonnade/num.FormatDec -/
def fi181 : Fi := { keep := [4, 5, 6, 7, 10, 22, 37], sc := [(6, (.q 0 (.q 1 (.q 2 (.q 3 (.q 4 (.q 5 (.q 6 (.q 7 (.q 8 (.q 9 (.q 10 (.q 11 (.q 12 (.q 13 (.q 14 .done))))))))))))))))], lp := [] }
/-- colonnade/num.FormatDay -/
def fi182 : Fi := { keep := [2, 3, 4, 5, 6, 7, 16], sc := [], lp := [] }
/-- strings.Map -/
def fi183 : Fi := { keep := [1, 4, 5, 6, 7, 8, 9, 11, 12, 14, 15, 16, 28, 30, 44, 56, 65, 68, 69, 70, 76, 78], sc := [], lp := [(3, ([0, 1, 4, 5, 14], [21, 35, 46, 50, 54, 58])), (20, ([0, 4, 5, 68], [74, 81, 83]))] }
/-- colonnade/value.capitals$1 -/
def fi184 : Fi := { keep := [2, 8], sc := [], lp := [] }
/-- colonnade/num.digits -/
def fi185 : Fi := { keep := [2], sc := [], lp := [] }
/-- strings.TrimPrefix -/
def fi186 : Fi := { keep := [4], sc := [], lp := [] }
/-- strconv.ParseInt -/
def fi187 : Fi := { keep := [6, 7, 8, 17], sc := [], lp := [] }
/-- strings.Cut -/
def fi188 : Fi := { keep := [4, 5, 6], sc := [], lp := [] }
/-- strconv.Atoi -/
def fi189 : Fi := { keep := [2, 3, 4, 5, 12], sc := [], lp := [] }
/-- colonnade/num.Day -/
def fi190 : Fi := { keep := [6, 7, 8, 9, 34, 43], sc := [], lp := [(5, ([0, 1, 6, 7, 8, 9], [49]))] }
/-- strconv.FormatInt -/
def fi191 : Fi := { keep := [4], sc := [], lp := [] }
/-- strings.Replace -/
def fi192 : Fi := { keep := [3, 8, 9, 10, 11, 12, 14, 15, 22, 28, 36, 51, 52, 53, 54, 77, 78, 79], sc := [], lp := [(13, ([0, 1, 2, 8, 10, 11, 52, 53], [60, 66, 68])), (21, ([0, 2, 8, 10, 11, 77, 78], [84, 94, 96]))] }
/-- strings.CutPrefix -/
def fi193 : Fi := { keep := [4, 5], sc := [], lp := [] }
/-- colonnade/num.pad -/
def fi194 : Fi := { keep := [4], sc := [], lp := [] }
/-- colonnade/num.Civil -/
def fi195 : Fi := { keep := [0, 2, 3, 4, 5, 6, 7, 8, 14, 24, 31, 42], sc := [], lp := [(5, ([0, 2, 3, 4, 5, 6], [22])), (7, ([0, 2, 3, 4, 5, 6], [29])), (11, ([2, 3, 4, 5, 6, 7, 8], [41, 48]))] }
/-- strconv.Itoa -/
def fi196 : Fi := { keep := [2], sc := [], lp := [] }
/-- unicode/utf8.DecodeRuneInString -/
def fi197 : Fi := { keep := [2, 3, 10], sc := [], lp := [] }
/-- unicode/utf8.RuneLen -/
def fi198 : Fi := { keep := [2, 3, 6, 9, 12, 19, 22], sc := [], lp := [] }
/-- (*strings.Builder).Grow -/
def fi199 : Fi := { keep := [7, 21], sc := [(3, (.q 0 (.q 1 (.q 2 (.q 3 (.q 4 (.q 5 (.q 6 (.q 7 (.q 8 (.q 9 (.q 10 (.q 11 (.q 12 .done))))))))))))))], lp := [] }
/-- (*strings.Builder).WriteString -/
def fi200 : Fi := { keep := [4, 5], sc := [], lp := [] }
/-- (*strings.Builder).WriteRune -/
def fi201 : Fi := { keep := [4, 5, 6], sc := [], lp := [] }
/-- (*strings.Builder).Cap -/
def fi202 : Fi := { keep := [2], sc := [], lp := [] }
/-- (*strings.Builder).WriteByte -/
def fi203 : Fi := { keep := [4], sc := [], lp := [] }
/-- (*strings.Builder).String -/
def fi204 : Fi := { keep := [2], sc := [(1, (.q 0 (.q 1 (.q 2 (.q 3 (.q 4 (.q 5 (.q 6 (.q 7 (.q 8 (.q 9 (.q 10 (.q 11 .done)))))))))))))], lp := [] }
/-- strings.Trim -/
def fi205 : Fi := { keep := [4, 5, 6, 12, 21, 34], sc := [(4, (.q 0 (.q 1 (.q 2 (.q 4 (.q 5 (.one 3 [2, 1, 0] (.one 6 [5, 4] (.q 7 .done)))))))))], lp := [] }
/-- internal/stringslite.TrimPrefix -/
def fi206 : Fi := { keep := [4, 7], sc := [], lp := [] }
/-- internal/strconv.ParseInt -/
def fi207 : Fi := { keep := [0, 2, 6, 7, 8, 9, 10, 11, 13, 16, 17, 21, 38, 41, 52, 62, 69], sc := [], lp := [] }
/-- strconv.toError -/
def fi208 : Fi := { keep := [10, 11, 12, 19, 26, 34], sc := [], lp := [] }
/-- internal/stringslite.Cut -/
def fi209 : Fi := { keep := [4, 5, 6, 7, 12], sc := [(3, (.q 0 (.q 1 (.q 2 (.q 3 (.q 4 (.q 5 (.q 6 (.q 7 (.q 8 (.q 9 (.q 10 (.q 11 .done)))))))))))))], lp := [] }
/-- internal/strconv.Atoi -/
def fi210 : Fi := { keep := [0, 2, 3, 4, 5, 6, 8, 9, 10, 30, 39, 44, 47, 48, 49, 50, 56, 66], sc := [], lp := [(10, ([0, 2, 3, 5, 6, 47, 48, 49], []))] }
/-- colonnade/num.month -/
def fi211 : Fi := { keep := [4, 5, 11], sc := [], lp := [] }
/-- colonnade/num.years -/
def fi212 : Fi := { keep := [2, 3], sc := [], lp := [] }
/-- internal/strconv.FormatInt -/
def fi213 : Fi := { keep := [4, 5, 6, 7, 9, 11, 17, 23, 34], sc := [], lp := [] }
/-- strings.Count -/
def fi214 : Fi := { keep := [0, 4, 5, 6, 9, 15, 24], sc := [], lp := [(6, ([0, 1, 4, 5], [22]))] }
/-- strings.Index -/
def fi215 : Fi := { keep := [4], sc := [], lp := [] }
/-- internal/stringslite.CutPrefix -/
def fi216 : Fi := { keep := [4, 5, 9], sc := [], lp := [] }
/-- strings.Repeat -/
def fi217 : Fi := { keep := [4, 5, 6, 7, 8, 9, 10, 11, 12, 14, 18, 34, 40, 42, 43, 49, 58, 67, 76, 85, 96, 104, 113], sc := [], lp := [(38, ([4, 7, 8, 9], [111, 115, 117, 120, 123]))] }
/-- internal/strconv.Itoa -/
def fi218 : Fi := { keep := [2], sc := [], lp := [] }
/-- unicode/utf8.decodeRuneInStringSlow -/
def fi219 : Fi := { keep := [2, 3, 4, 5, 6, 7, 8, 9, 10, 11, 12, 16, 23, 45, 57, 59, 75, 77, 98], sc := [], lp := [] }
/-- (*strings.Builder).copyCheck -/
def fi220 : Fi := { keep := [6, 19], sc := [], lp := [] }
/-- (*strings.Builder).grow -/
def fi221 : Fi := { keep := [4], sc := [(0, (.q 0 (.q 1 (.q 2 (.q 3 (.q 4 (.q 5 (.q 6 (.q 7 (.q 9 (.q 10 (.q 11 (.q 12 (.q 13 (.one 8 [7, 6, 5, 4, 3, 2, 1, 0] (.q 14 (.q 15 .done)))))))))))))))))], lp := [] }
/-- unicode/utf8.AppendRune -/
def fi222 : Fi := { keep := [4, 7], sc := [], lp := [] }
/-- strings.trimLeftByte -/
def fi223 : Fi := { keep := [0, 4, 13], sc := [], lp := [(1, ([0, 1, 4], []))] }
/-- strings.trimRightByte -/
def fi224 : Fi := { keep := [0, 4, 16], sc := [], lp := [(1, ([0, 1, 4], []))] }
/-- strings.makeASCIISet -/
def fi225 : Fi := { keep := [2, 3, 4, 5, 9, 16], sc := [], lp := [(2, ([0, 2, 3, 4], []))] }
/-- strings.trimLeftASCII -/
def fi226 : Fi := { keep := [0, 4, 7, 12], sc := [], lp := [(1, ([0, 1, 4], [11]))] }
/-- strings.trimRightASCII -/
def fi227 : Fi := { keep := [0, 4, 7, 15], sc := [], lp := [(1, ([0, 1, 4], [14]))] }
/-- strings.trimLeftUnicode -/
def fi228 : Fi := { keep := [0, 4, 5, 6, 9, 18], sc := [], lp := [(1, ([0, 1, 4], [12, 17]))] }
/-- strings.trimRightUnicode -/
def fi229 : Fi := { keep := [0, 4, 5, 6, 9, 17, 26], sc := [], lp := [(1, ([0, 1, 4], [20, 25]))] }
/-- internal/stringslite.HasPrefix -/
def fi230 : Fi := { keep := [4], sc := [], lp := [] }
/-- internal/strconv.ParseUint -/
def fi231 : Fi := { keep := [0, 1, 2, 6, 7, 8, 9, 10, 11, 12, 13, 15, 16, 17, 19, 25, 32, 37, 40, 52, 64, 77, 83, 85, 90, 92, 99, 100, 101, 102, 106, 112, 121, 137, 141, 159, 169], sc := [], lp := [(36, ([1, 6, 7, 8, 9, 10, 11, 12, 13, 99, 100, 101], [123, 127, 131]))] }
/-- strconv.syntaxError -/
def fi232 : Fi := { keep := [4], sc := [(1, (.q 0 (.q 1 (.q 3 (.one 2 [1] (.q 4 (.one 5 [4, 3, 0] (.q 6 .done))))))))], lp := [] }
/-- strconv.rangeError -/
def fi233 : Fi := { keep := [4], sc := [(1, (.q 0 (.q 1 (.q 3 (.one 2 [1] (.q 4 (.one 5 [4, 3, 0] (.q 6 .done))))))))], lp := [] }
/-- strconv.baseError -/
def fi234 : Fi := { keep := [6], sc := [], lp := [] }
/-- strconv.bitSizeError -/
def fi235 : Fi := { keep := [6], sc := [], lp := [] }
/-- internal/stringslite.Index -/
def fi236 : Fi := { keep := [4, 5, 6, 7, 8, 9, 10, 11, 12, 13, 16, 24, 31, 36, 59, 64, 73, 93, 107, 114, 132, 139], sc := [], lp := [(15, ([0, 1, 4, 5, 6, 7, 8, 9, 10], [71, 105, 112, 137]))] }
/-- colonnade/num.leap -/
def fi237 : Fi := { keep := [2, 15], sc := [], lp := [] }
/-- internal/strconv.small -/
def fi238 : Fi := { keep := [2, 4], sc := [], lp := [] }
/-- internal/strconv.numDigits -/
def fi239 : Fi := { keep := [2, 3], sc := [], lp := [] }
/-- internal/strconv.formatBase10 -/
def fi240 : Fi := { keep := [1, 4, 5, 6, 7, 8, 9, 10, 11, 12, 13, 14, 15, 16, 20, 99, 139, 161], sc := [(7, (.q 0 (.q 1 (.q 2 (.q 3 (.q 4 (.q 5 (.q 6 (.q 7 (.q 8 (.q 9 (.q 10 (.q 11 (.one 12 [11, 8, 7, 6, 2, 1, 0] (.q 13 (.one 14 [13, 10, 9, 5, 4, 3] .done)))))))))))))))), (8, (.q 0 (.q 1 (.q 2 (.q 3 (.q 4 (.q 5 (.q 6 (.q 7 (.q 8 (.q 9 (.q 10 (.q 11 (.one 12 [11, 8, 7, 6, 2, 1, 0] (.q 13 (.one 14 [13, 10, 9, 5, 4, 3] .done)))))))))))))))), (9, (.q 0 (.q 1 (.q 2 (.q 3 (.q 4 (.q 5 (.q 6 (.q 7 (.q 8 (.q 9 (.q 10 (.q 11 (.one 12 [11, 8, 7, 6, 2, 1, 0] (.q 13 (.one 14 [13, 10, 9, 5, 4, 3] .done)))))))))))))))), (10, (.q 0 (.q 1 (.q 2 (.q 3 (.q 4 (.q 5 (.q 6 (.q 7 (.q 8 (.q 9 (.q 10 (.q 11 (.one 12 [11, 8, 7, 6, 2, 1, 0] (.q 13 (.one 14 [13, 10, 9, 5, 4, 3] .done)))))))))))))))), (17, (.q 0 (.q 1 (.q 2 (.q 3 (.q 4 (.q 5 (.q 6 (.q 7 (.q 8 (.q 9 (.q 10 (.q 11 (.one 12 [11, 8, 7, 6, 2, 1, 0] (.q 13 (.one 14 [13, 10, 9, 5, 4, 3] .done)))))))))))))))), (18, (.q 0 (.q 1 (.q 2 (.q 3 (.q 4 (.q 5 (.q 6 (.q 7 (.q 8 (.q 9 (.q 10 (.q 11 (.one 12 [11, 8, 7, 6, 2, 1, 0] (.q 13 (.one 14 [13, 10, 9, 5, 4, 3] .done)))))))))))))))), (23, (.q 0 (.q 1 (.q 2 (.q 3 (.q 4 (.q 5 (.q 6 (.q 7 (.q 8 (.q 9 (.q 10 (.q 11 (.one 12 [11, 8, 7, 6, 2, 1, 0] (.q 13 (.one 14 [13, 10, 9, 5, 4, 3] .done))))))))))))))))], lp := [(1, ([0, 1, 4], []))] }
/-- internal/strconv.formatBits -/
def fi241 : Fi := { keep := [1, 10, 11, 12, 13, 14, 15, 16, 17, 18, 28, 30, 34, 46, 68, 89, 94], sc := [], lp := [(11, ([0, 1, 3, 4, 10, 11, 12, 13, 14, 15, 16], [])), (18, ([0, 1, 3, 4, 10, 11, 12, 13, 17], []))] }
/-- unicode/utf8.RuneCountInString -/
def fi242 : Fi := { keep := [2, 4, 6], sc := [], lp := [(2, ([2, 4], []))] }
/-- math/bits.Mul -/
def fi244 : Fi := { keep := [4, 5, 6, 7, 8, 9], sc := [], lp := [] }
/-- strings.HasPrefix -/
def fi245 : Fi := { keep := [4], sc := [], lp := [] }
/-- (*strings.Builder).Len -/
def fi246 : Fi := { keep := [2], sc := [], lp := [] }
/-- unicode/utf8.appendRuneNonASCII -/
def fi249 : Fi := { keep := [4, 5, 11, 25, 50], sc := [], lp := [] }
/-- (*strings.asciiSet).contains -/
def fi250 : Fi := { keep := [4], sc := [], lp := [] }
/-- strings.ContainsRune -/
def fi251 : Fi := { keep := [4], sc := [], lp := [] }
/-- unicode/utf8.DecodeLastRuneInString -/
def fi252 : Fi := { keep := [2, 3, 4, 5, 6, 10, 18, 27, 33, 35, 48], sc := [], lp := [(10, ([0, 2, 3, 4, 5, 6], [33]))] }
/-- internal/strconv.lower -/
def fi253 : Fi := { keep := [2], sc := [], lp := [] }
/-- internal/strconv.underscoreOK -/
def fi254 : Fi := { keep := [0, 2, 3, 4, 5, 18, 46, 54, 83, 87, 89, 91], sc := [], lp := [(10, ([0, 2, 3, 4, 5], [73, 80]))] }
/-- internal/stringslite.Clone -/
def fi255 : Fi := { keep := [2, 3, 6], sc := [], lp := [] }
/-- errors.New -/
def fi256 : Fi := { keep := [2], sc := [], lp := [] }
/-- internal/stringslite.IndexByte -/
def fi257 : Fi := { keep := [4], sc := [], lp := [] }
/-- internal/bytealg.Cutover -/
def fi259 : Fi := { keep := [2], sc := [], lp := [] }
/-- internal/bytealg.IndexRabinKarp[string] -/
def fi260 : Fi := { keep := [4, 5, 6, 7, 8, 9, 10, 20, 39, 44, 77], sc := [], lp := [(5, ([0, 1, 4, 5, 6, 7, 8, 9], [])), (11, ([0, 1, 4, 5, 6, 7, 8, 10], []))] }
/-- internal/strconv.log10Pow2 -/
def fi261 : Fi := { keep := [2], sc := [], lp := [] }
/-- math/bits.Len64 -/
def fi262 : Fi := { keep := [0, 2, 4, 8, 14], sc := [], lp := [] }
/-- internal/strconv.bool2[int] -/
def fi263 : Fi := { keep := [2, 3], sc := [], lp := [] }
/-- internal/strconv.isPowerOfTwo -/
def fi264 : Fi := { keep := [2], sc := [], lp := [] }
/-- math/bits.TrailingZeros -/
def fi265 : Fi := { keep := [2], sc := [], lp := [] }
/-- math/bits.Mul32 -/
def fi266 : Fi := { keep := [4, 5, 6], sc := [], lp := [] }
/-- math/bits.Mul64 -/
def fi267 : Fi := { keep := [4, 5, 6, 7, 8, 9, 10, 11, 12, 13], sc := [], lp := [] }
/-- strings.IndexRune -/
def fi268 : Fi := { keep := [4, 5, 6, 7, 8, 9, 10, 11, 12, 13, 14, 15, 16, 26, 33, 43, 51, 64, 98, 108, 124, 139, 143, 156, 160, 171, 175, 176, 177, 181, 183], sc := [(6, (.q 0 (.q 1 (.q 2 (.q 3 (.q 4 (.q 5 (.q 6 .done)))))))), (7, (.q 0 (.q 1 (.q 2 (.q 3 (.q 4 (.q 5 (.q 6 (.one 7 [6, 5, 4, 3, 2, 1, 0] (.q 8 .done)))))))))), (14, (.q 0 (.q 1 (.q 2 (.q 3 (.q 4 (.q 5 (.q 6 (.q 7 (.q 8 (.q 9 (.q 10 .done)))))))))))), (31, (.q 0 (.q 1 (.q 2 (.q 3 (.q 4 (.q 5 (.q 6 (.q 7 (.q 8 (.q 9 (.q 10 .done))))))))))))], lp := [(38, ([4, 175], [])), (5, ([0, 1, 4, 7, 8, 9, 10], [41, 75])), (12, ([0, 1, 4, 7, 8, 9, 10, 11, 12, 23, 24, 25, 26, 27, 28, 29, 30, 31, 32, 33, 34, 35, 36, 37, 38, 39, 40, 41, 42, 43, 44, 45, 46, 47], [])), (25, ([0, 4, 7, 8, 9, 14, 15], [])), (29, ([0, 4, 7, 8, 9, 14, 15, 16, 121, 122, 123, 124, 127, 128, 129, 130, 131, 132, 133, 134, 135, 136, 137, 138, 139], []))] }
/-- unicode/utf8.RuneStart -/
def fi269 : Fi := { keep := [2], sc := [], lp := [] }
/-- internal/bytealg.hashStr[string] -/
def fi271 : Fi := { keep := [2, 3, 4, 5, 6, 7, 8, 12, 25, 30], sc := [], lp := [(3, ([0, 2, 3, 4, 5], [])), (8, ([2, 3, 4, 6, 7, 8], []))] }
/-- math/bits.TrailingZeros32 -/
def fi272 : Fi := { keep := [2, 4], sc := [], lp := [] }
/-- math/bits.TrailingZeros64 -/
def fi273 : Fi := { keep := [2, 4], sc := [], lp := [] }
/-- strings.IndexByte -/
def fi274 : Fi := { keep := [4], sc := [], lp := [] }
/-- unicode/utf8.ValidRune -/
def fi275 : Fi := { keep := [2, 3, 10], sc := [], lp := [] }
/-- gosem.cut.vars -/
def fi305 : Fi := { keep := [], sc := [], lp := [] }
theorem E_ok : EnvOk Tryz.prog E_0 := envOk_of (by kernel_rfl)
theorem it_ok : ItOk Tryz.prog E_0 := fun _ _ _ h => h.elim
theorem mixed : Tryz.prog.follows .mixedOrders = true := by kernel_rfl
end Go.Proofs.Tryz
/- Expressions as data, and what the program's functions over them come to. -/
namespace Go.Ex
open Go Go.Dm

/-- A number of 64 bits. -/
def in64 (n : Int) : Prop := -9223372036854775808 ≤ n ∧ n < 9223372036854775808

structure Ty where
  k : Int
  sc : Int
  deriving DecidableEq
structure AV where
  t : Ty
  nul : Bool
  n : Int
  s : ByteArray
abbrev Ty.cs (t : Ty) : List D := [.v (.int .i64 t.k), .v (.int .i64 t.sc)]
abbrev AV.cs (v : AV) : List D := [.v (.int .i64 v.t.k), .v (.int .i64 v.t.sc), .v (.bool v.nul), .v (.int .i64 v.n), .v (.string v.s)]
theorem AV.ext {a b : AV} (h1 : a.t.k = b.t.k) (h2 : a.t.sc = b.t.sc) (h3 : a.nul = b.nul) (h4 : a.n = b.n) (h5 : a.s = b.s) : a = b := by
  rcases a with ⟨⟨_, _⟩, _, _, _⟩; rcases b with ⟨⟨_, _⟩, _, _, _⟩; simp_all

/-- An expression. -/
inductive EX where
  | mk (op sub : Int) (ty : Ty) (v : AV) (args : List EX)
def EX.op : EX → Int | .mk a _ _ _ _ => a
def EX.sub : EX → Int | .mk _ a _ _ _ => a
def EX.ty : EX → Ty | .mk _ _ a _ _ => a
def EX.v : EX → AV | .mk _ _ _ a _ => a
def EX.args : EX → List EX | .mk _ _ _ _ a => a

mutual
/-- Its cells. -/
def cells : EX → List D
  | .mk op sub ty v args => [.v (.int .i64 op), .v (.int .i64 sub), .v (.int .i64 ty.k), .v (.int .i64 ty.sc), .v (.int .i64 v.t.k), .v (.int .i64 v.t.sc), .v (.bool v.nul), .v (.int .i64 v.n), .v (.string v.s), .sl (cellsL args)]
def cellsL : List EX → List (List D)
  | [] => []
  | e :: r => cells e :: cellsL r
end
theorem cellsL_map : ∀ l : List EX, cellsL l = l.map cells
  | [] => by simp [cellsL]
  | e :: r => by simp [cellsL, cellsL_map r]
theorem cellsL_len (l : List EX) : (cellsL l).length = l.length := by rw [cellsL_map, List.length_map]
theorem cellsL_get {l : List EX} {i : Nat} {e : EX} (h : l[i]? = some e) : (cellsL l)[i]? = some (cells e) := by rw [cellsL_map, List.getElem?_map, h]; rfl
theorem cellsL_all {l : List EX} : ∀ c ∈ cellsL l, c.length = 10 := by
  intro c hc
  rw [cellsL_map] at hc
  obtain ⟨e, _, rfl⟩ := List.mem_map.1 hc
  cases e; simp [cells]
theorem cellsL_append (a b : List EX) : cellsL (a ++ b) = cellsL a ++ cellsL b := by simp [cellsL_map]
theorem cellsL_take (l : List EX) (i : Nat) : cellsL (l.take i) = (cellsL l).take i := by simp [cellsL_map, List.map_take]
mutual
/-- The expression that cells are. -/
theorem cells_inj : ∀ {a b : EX}, cells a = cells b → a = b
  | .mk o s t v l, .mk o' s' t' v' l', h => by
    simp only [cells, List.cons.injEq, D.v.injEq, Value.int.injEq, Value.bool.injEq, Value.string.injEq, D.sl.injEq, true_and, and_true] at h
    obtain ⟨h1, h2, h3, h4, h5, h6, h7, h8, h9, h10⟩ := h
    have := cellsL_inj h10
    rcases t with ⟨_, _⟩; rcases t' with ⟨_, _⟩
    have hv : v = v' := AV.ext h5 h6 h7 h8 h9
    simp_all
theorem cellsL_inj : ∀ {a b : List EX}, cellsL a = cellsL b → a = b
  | [], [], _ => rfl
  | [], _ :: _, h => by simp [cellsL] at h
  | _ :: _, [], h => by simp [cellsL] at h
  | a :: l, b :: r, h => by
    simp only [cellsL, List.cons.injEq] at h
    rw [cells_inj h.1, cellsL_inj h.2]
end

mutual
/-- How great it is. -/
def size : EX → Nat
  | .mk _ _ _ _ args => sizeL args + 1
def sizeL : List EX → Nat
  | [] => 0
  | e :: r => size e + sizeL r
end
theorem size_mem {l : List EX} {e : EX} (h : e ∈ l) : size e ≤ sizeL l := by
  induction l with
  | nil => cases h
  | cons a r ih =>
    simp only [sizeL]
    cases h with
    | head => omega
    | tail _ h => have := ih h; omega
theorem size_arg {op sub : Int} {ty : Ty} {v : AV} {args : List EX} {e : EX} (h : e ∈ args) : size e < size (.mk op sub ty v args) := by
  have := size_mem h
  simp only [size]; omega

mutual
/-- All its numbers are numbers of 64 bits. -/
def fits : EX → Prop
  | .mk op sub ty v args => (in64 op ∧ in64 sub ∧ in64 ty.k ∧ in64 ty.sc ∧ in64 v.t.k ∧ in64 v.t.sc ∧ in64 v.n) ∧ args.length ≤ 1353245080300 ∧ fitsL args
def fitsL : List EX → Prop
  | [] => True
  | e :: r => fits e ∧ fitsL r
end
theorem fitsL_mem {l : List EX} {e : EX} (hl : fitsL l) (h : e ∈ l) : fits e := by
  induction l with
  | nil => cases h
  | cons a r ih =>
    simp only [fitsL] at hl
    cases h with
    | head => exact hl.1
    | tail _ h => exact ih hl.2 h

mutual
/-- How many nodes it has, as the program counts them. -/
def nodes : EX → Int
  | .mk _ _ _ _ args => nodesL 1 args
def nodesL (n : Int) : List EX → Int
  | [] => n
  | e :: r => nodesL (IntKind.i64.wrap (n + nodes e)) r
end
theorem nodesL_snoc (l : List EX) (e : EX) : ∀ n, nodesL n (l ++ [e]) = IntKind.i64.wrap (nodesL n l + nodes e) := by
  induction l with
  | nil => intro n; simp [nodesL]
  | cons a r ih => intro n; simp only [List.cons_append, nodesL]; exact ih _
mutual
/-- How many stand one within the other, as the program counts them. -/
def deep : EX → Int
  | .mk _ _ _ _ args => IntKind.i64.wrap (deepL 0 args + 1)
def deepL (n : Int) : List EX → Int
  | [] => n
  | e :: r => deepL (if n < deep e then deep e else n) r
end
theorem deepL_snoc (l : List EX) (e : EX) : ∀ n, deepL n (l ++ [e]) = if deepL n l < deep e then deep e else deepL n l := by
  induction l with
  | nil =>
    intro n
    have h1 : deepL n [] = n := by simp only [deepL]
    have h2 : deepL n [e] = (if n < deep e then deep e else n) := by simp only [deepL]
    rw [List.nil_append, h2, h1]
  | cons a r ih => intro n; simp only [List.cons_append, deepL]; exact ih _
end Go.Ex
namespace Go.Ex
open Go Go.Dm
open Classical in
/-- Are they the same? -/
noncomputable def sameE (a b : EX) : Bool := decide (a = b)
open Classical in
noncomputable def sameL (a b : List EX) : Bool := decide (a = b)
def newSub (to : List Int) (op sub : Int) : Option Int := if op = 1 then (if sub < 0 then none else match to[sub.toNat]? with | none => none | some s => if s < 0 then none else some s) else some sub
mutual
/-- An expression with other columns; none: it may not be. -/
def shiftE (to : List Int) : EX → Option EX
  | .mk op sub t v args =>
    match newSub to op sub, shiftL to args with
    | some s, some l => some (.mk op s t v l)
    | _, _ => none
def shiftL (to : List Int) : List EX → Option (List EX)
  | [] => some []
  | e :: r => match shiftE to e, shiftL to r with
    | some x, some l => some (x :: l)
    | _, _ => none
end
theorem shiftL_append (to : List Int) (l r : List EX) : shiftL to (l ++ r) = match shiftL to l, shiftL to r with | some a, some b => some (a ++ b) | _, _ => none := by
  induction l with
  | nil => simp only [List.nil_append, shiftL]; cases shiftL to r <;> rfl
  | cons e l ih =>
    simp only [List.cons_append, shiftL, ih]
    cases shiftE to e <;> cases shiftL to l <;> cases shiftL to r <;> rfl
end Go.Ex
namespace Go.Proofs.Tryz
open Go Go.Dm Go.Ex
set_option maxRecDepth 100000
variable {gl : Nat → Option Obj}
theorem wrap_i64_of {n : Int} (h1 : -9223372036854775808 ≤ n) (h2 : n < 9223372036854775808) : IntKind.i64.wrap n = n := by
  simp [IntKind.wrap, IntKind.signed, IntKind.bits]; split <;> omega
theorem wrap_next {i : Nat} (h : i < 9223372036854775807) : IntKind.i64.wrap ((i : Int) + 1) = ((i + 1 : Nat) : Int) := by
  rw [wrap_i64_of (by omega) (by omega)]; omega
def C_n : CallT := fun _ _ _ => False
theorem C_n_ok : CallsOk prog gl C_n := fun _ _ _ h => h.elim
def encX (op sub : Int) (t : Ty) (v : Go.Ex.AV) (es : List (List D)) : List D := [.v (.int .i64 op), .v (.int .i64 sub), .v (.int .i64 t.k), .v (.int .i64 t.sc), .v (.int .i64 v.t.k), .v (.int .i64 v.t.sc), .v (.bool v.nul), .v (.int .i64 v.n), .v (.string v.s), .sl es]
theorem cells_mk (op sub : Int) (t : Ty) (v : Go.Ex.AV) (args : List EX) : cells (.mk op sub t v args) = encX op sub t v (cellsL args) := by simp [cells, encX]
theorem fits_mk {op sub : Int} {t : Ty} {v : Go.Ex.AV} {args : List EX} (h : fits (.mk op sub t v args)) : (in64 op ∧ in64 sub ∧ in64 t.k ∧ in64 t.sc ∧ in64 v.t.k ∧ in64 v.t.sc ∧ in64 v.n) ∧ args.length ≤ 1353245080300 ∧ fitsL args := by
  simpa [fits] using h
/-- The next argument. -/
theorem arg_get {l : List EX} {i : Nat} (hi : i < l.length) : ∃ op sub t v a, l[i] = .mk op sub t v a ∧ (cellsL l)[((i : Nat) : Int).toNat]? = some (encX op sub t v (cellsL a)) := by
  rcases h : l[i] with ⟨op, sub, t, v, a⟩
  refine ⟨op, sub, t, v, a, rfl, ?_⟩
  rw [Int.toNat_natCast, ← cells_mk, ← h]
  exact cellsL_get (List.getElem?_eq_getElem hi)
/-- Nodes. -/
def c_61 (n : Nat) (a : List R) (K : List R → List (List D) → Prop) : Prop := match a with
  | [.agg x] => ∃ e : EX, x = cells e ∧ size e < n ∧ fits e ∧ K [.d (.v (.int .i64 (nodes e)))] []
  | _ => False
def C_f61 (n : Nat) : CallT := addC C_n 38 (c_61 n)
def st_61 (op sub : Int) (t : Ty) (v : Go.Ex.AV) (args : List EX) (x : Nat) : St := { tm := [(2, .d (.v (.int .i64 0))), (3, .d (.v (.int .i64 (nodesL 1 (args.take x))))), (7, .d (.sl (cellsL args))), (8, .d (.v (.int .i64 ((cellsL args).length : Int)))), (9, .d (.v (.int .i64 (x : Int))))], hp := [(1, .box [.d (.v (.int .i64 op)), .d (.v (.int .i64 sub)), .d (.v (.int .i64 t.k)), .d (.v (.int .i64 t.sc)), .d (.v (.int .i64 v.t.k)), .d (.v (.int .i64 v.t.sc)), .d (.v (.bool v.nul)), .d (.v (.int .i64 v.n)), .d (.v (.string v.s)), .d (.sl (cellsL args))])], kn := [], gd := [] }
def inv_n (l : List EX) (m : Nat) (x : Nat) : Prop := x ≤ l.length ∧ m = l.length - x
def fx_61 (op sub : Int) (t : Ty) (v : Go.Ex.AV) (args : List EX) : Fi := { fi38 with lx := [(3, { X := Nat, sh := st_61 op sub t v args, P := fun _ => inv_n args })] }
theorem vc61 (n : Nat) (op sub : Int) (t : Ty) (v : Go.Ex.AV) (args : List EX) (Q : List R → List (List D) → Prop) : vc E_0 (C_f61 n) noI (fx_61 op sub t v args) (f38.body.getD .skip) f38.results.toList [.agg (encX op sub t v (cellsL args))] Q = (
  ∃ (es : List (List D)), D.sl (cellsL args) = D.sl es ∧ ∃ (x0 : { X := Nat, sh := st_61 op sub t v args, P := fun (x : Nat) => inv_n args : LX }.X), ({ tm := [((2 : Nat), V.d (D.v (Value.int IntKind.i64 (0 : Int)))), ((3 : Nat), V.d (D.v (Value.int IntKind.i64 (1 : Int)))), ((7 : Nat), V.d (D.sl (cellsL args))), ((8 : Nat), V.d (D.v (Value.int IntKind.i64 (↑es.length : Int)))), ((9 : Nat), V.d (D.v (Value.int IntKind.i64 (0 : Int))))], hp := [((1 : Nat), B.box [V.d (D.v (Value.int IntKind.i64 op)), V.d (D.v (Value.int IntKind.i64 sub)), V.d (D.v (Value.int IntKind.i64 t.1)), V.d (D.v (Value.int IntKind.i64 t.2)), V.d (D.v (Value.int IntKind.i64 v.1.1)), V.d (D.v (Value.int IntKind.i64 v.1.2)), V.d (D.v (Value.bool v.2)), V.d (D.v (Value.int IntKind.i64 v.3)), V.d (D.v (Value.string v.4)), V.d (D.sl (cellsL args))])], kn := [], gd := [] : St }
  = { tm := [((2 : Nat), V.d (D.v (Value.int IntKind.i64 (0 : Int)))), ((3 : Nat), V.d (D.v (Value.int IntKind.i64 (nodesL (1 : Int) (List.take x0 args))))), ((7 : Nat), V.d (D.sl (cellsL args))), ((8 : Nat), V.d (D.v (Value.int IntKind.i64 (↑(cellsL args).length : Int)))), ((9 : Nat), V.d (D.v (Value.int IntKind.i64 (↑x0 : Int))))], hp := [((1 : Nat), B.box [V.d (D.v (Value.int IntKind.i64 op)), V.d (D.v (Value.int IntKind.i64 sub)), V.d (D.v (Value.int IntKind.i64 t.1)), V.d (D.v (Value.int IntKind.i64 t.2)), V.d (D.v (Value.int IntKind.i64 v.1.1)), V.d (D.v (Value.int IntKind.i64 v.1.2)), V.d (D.v (Value.bool v.2)), V.d (D.v (Value.int IntKind.i64 v.3)), V.d (D.v (Value.string v.4)), V.d (D.sl (cellsL args))])], kn := [], gd := [] : St }
  ∧ ∃ (n : Nat), inv_n args n x0) ∧ ∀ (n_1 : Nat) (x : { X := Nat, sh := st_61 op sub t v args, P := fun (x : Nat) => inv_n args : LX }.X), inv_n args
  n_1 x → (decide ((↑x : Int) < (↑(cellsL args).length : Int)) = true → ∃ (es : List (List D)), D.sl (cellsL args) = D.sl es ∧ ((0 : Int) ≤ (↑x : Int)
  ∧ (↑x : Int) < (↑es.length : Int)) ∧ ∃ (cells : List D), es[(↑x : Int).toNat]? = some cells ∧ cells.length = (10 : Nat) ∧ ∃ (n_2 : Int), ∃ (n_3 :
  Int), ∃ (n_4 : Int), ∃ (n_5 : Int), ∃ (n_6 : Int), ∃ (n_7 : Int), ∃ (b : Bool), ∃ (n_8 : Int), ∃ (b_1 : ByteArray), ∃ (es : List (List D)), cut ((0 :
  Nat)) ((10 : Nat)) cells = some [D.v (Value.int IntKind.i64 n_2), D.v (Value.int IntKind.i64 n_3), D.v (Value.int IntKind.i64 n_4), D.v (Value.int
  IntKind.i64 n_5), D.v (Value.int IntKind.i64 n_6), D.v (Value.int IntKind.i64 n_7), D.v (Value.bool b), D.v (Value.int IntKind.i64 n_8), D.v
  (Value.string b_1), D.sl es] ∧ ∃ (e : EX), [D.v (Value.int IntKind.i64 n_2), D.v (Value.int IntKind.i64 n_3), D.v (Value.int IntKind.i64 n_4), D.v
  (Value.int IntKind.i64 n_5), D.v (Value.int IntKind.i64 n_6), D.v (Value.int IntKind.i64 n_7), D.v (Value.bool b), D.v (Value.int IntKind.i64 n_8),
  D.v (Value.string b_1), D.sl es] = Ex.cells e ∧ size e < n ∧ fits e ∧ ∃ (m : Nat), ∃ (x' : { X := Nat, sh := st_61 op sub t v args, P := fun (x : Nat) => inv_n args : LX }.X),
  m < n_1 ∧ { tm := [((2 : Nat), V.d (D.v (Value.int IntKind.i64 (0 : Int)))), ((3 : Nat), V.d (D.v (Value.int IntKind.i64 (IntKind.i64.wrap (nodesL (1 : Int) (List.take x args) + nodes e))))), ((7 : Nat), V.d (D.sl (cellsL args))), ((8 : Nat), V.d (D.v (Value.int IntKind.i64 (↑(cellsL args).length : Int)))), ((9 : Nat), V.d (D.v (Value.int IntKind.i64 (IntKind.i64.wrap ((↑x : Int) + (1 : Int))))))], hp := [((1 : Nat), B.box [V.d (D.v (Value.int IntKind.i64 op)), V.d (D.v (Value.int IntKind.i64 sub)), V.d (D.v (Value.int IntKind.i64 t.1)), V.d (D.v (Value.int IntKind.i64 t.2)), V.d (D.v (Value.int IntKind.i64 v.1.1)), V.d (D.v (Value.int IntKind.i64 v.1.2)), V.d (D.v (Value.bool v.2)), V.d (D.v (Value.int IntKind.i64 v.3)), V.d (D.v (Value.string v.4)), V.d (D.sl (cellsL args))])], kn := [], gd := [] : St }
  = { tm := [((2 : Nat), V.d (D.v (Value.int IntKind.i64 (0 : Int)))), ((3 : Nat), V.d (D.v (Value.int IntKind.i64 (nodesL (1 : Int) (List.take x' args))))), ((7 : Nat), V.d (D.sl (cellsL args))), ((8 : Nat), V.d (D.v (Value.int IntKind.i64 (↑(cellsL args).length : Int)))), ((9 : Nat), V.d (D.v (Value.int IntKind.i64 (↑x' : Int))))], hp := [((1 : Nat), B.box [V.d (D.v (Value.int IntKind.i64 op)), V.d (D.v (Value.int IntKind.i64 sub)), V.d (D.v (Value.int IntKind.i64 t.1)), V.d (D.v (Value.int IntKind.i64 t.2)), V.d (D.v (Value.int IntKind.i64 v.1.1)), V.d (D.v (Value.int IntKind.i64 v.1.2)), V.d (D.v (Value.bool v.2)), V.d (D.v (Value.int IntKind.i64 v.3)), V.d (D.v (Value.string v.4)), V.d (D.sl (cellsL args))])], kn := [], gd := [] : St }
  ∧ inv_n args m x') ∧ (decide ((↑x : Int) < (↑(cellsL args).length : Int)) = false → Q [R.d (D.v (Value.int IntKind.i64 (nodesL (1 : Int) (List.take x
  args))))] [])) := by kernel_rfl
theorem ct61 : ∀ (n : Nat) (e : EX), size e < n → fits e → Ct prog gl 38 [.agg (cells e)] (gives [.d (.v (.int .i64 (nodes e)))])
  | 0, e, h, _ => absurd h (Nat.not_lt_zero _)
  | n + 1, .mk op sub t v args, h, hf => by
    have hC : CallsOk prog gl (C_f61 n) := addC_ok C_n_ok (fun a K hk => by
      unfold c_61 at hk
      split at hk
      · obtain ⟨e, rfl, h1, h2, h3⟩ := hk
        exact (ct61 n e h1 h2).gives h3
      · exact hk.elim)
    rw [cells_mk]
    refine ct_of_vc E_ok hC ioK_no it_ok mixed (fn := f38) (body := f38.body.getD .skip) (by kernel_rfl) (by kernel_rfl) (by kernel_rfl) (fi := fx_61 op sub t v args) (by kernel_rfl) (by kernel_rfl) ⟨_, _, rfl, rfl⟩ ?_
    rw [vc61]
    obtain ⟨_, hl, hfl⟩ := fits_mk hf
    have hsz : ∀ e ∈ args, size e < n := fun e he => by have := size_arg (op := op) (sub := sub) (ty := t) (v := v) he; omega
    refine ⟨cellsL args, rfl, (0 : Nat), ⟨by simp only [List.take_zero, nodesL]; rfl, args.length, Nat.zero_le _, rfl⟩, fun m (x : Nat) hx => ⟨fun hi => ?_, fun hi => ?_⟩⟩
    · have hi : x < args.length := by simpa [cellsL_len] using hi
      obtain ⟨op', sub', t', v', a', he, hget⟩ := arg_get hi
      have hm := hx.2
      refine ⟨cellsL args, rfl, ⟨by omega, by rw [cellsL_len]; omega⟩, _, hget, rfl, op', sub', t'.k, t'.sc, v'.t.k, v'.t.sc, v'.nul, v'.n, v'.s, cellsL a', rfl, args[x], by rw [he, cells_mk]; rfl, hsz _ (List.getElem_mem hi), fitsL_mem hfl (List.getElem_mem hi), args.length - (x + 1), x + 1, by omega, ?_, hi, rfl⟩
      rw [wrap_next (by omega), List.take_add_one, List.getElem?_eq_getElem hi, Option.toList_some, nodesL_snoc]
    · have hi : ¬ x < args.length := by simpa [cellsL_len] using hi
      rw [List.take_of_length_le (by omega)]
      refine ⟨?_, rfl⟩
      simp only [nodes]
def c_62 (n : Nat) (a : List R) (K : List R → List (List D) → Prop) : Prop := match a with
  | [.agg x] => ∃ e : EX, x = cells e ∧ size e < n ∧ fits e ∧ K [.d (.v (.int .i64 (deep e)))] []
  | _ => False
def C_f62 (n : Nat) : CallT := addC C_n 39 (c_62 n)
def st_62 (op sub : Int) (t : Ty) (v : Go.Ex.AV) (args : List EX) (x : Nat) : St := { tm := [(2, .d (.v (.int .i64 0))), (3, .d (.v (.int .i64 (deepL 0 (args.take x))))), (7, .d (.sl (cellsL args))), (8, .d (.v (.int .i64 ((cellsL args).length : Int)))), (9, .d (.v (.int .i64 (x : Int))))], hp := [(1, .box [.d (.v (.int .i64 op)), .d (.v (.int .i64 sub)), .d (.v (.int .i64 t.k)), .d (.v (.int .i64 t.sc)), .d (.v (.int .i64 v.t.k)), .d (.v (.int .i64 v.t.sc)), .d (.v (.bool v.nul)), .d (.v (.int .i64 v.n)), .d (.v (.string v.s)), .d (.sl (cellsL args))])], kn := [], gd := [] }
def fx_62 (op sub : Int) (t : Ty) (v : Go.Ex.AV) (args : List EX) : Fi := { fi39 with lx := [(3, { X := Nat, sh := st_62 op sub t v args, P := fun _ => inv_n args })] }
theorem vc62 (n : Nat) (op sub : Int) (t : Ty) (v : Go.Ex.AV) (args : List EX) (Q : List R → List (List D) → Prop) : vc E_0 (C_f62 n) noI (fx_62 op sub t v args) (f39.body.getD .skip) f39.results.toList [.agg (encX op sub t v (cellsL args))] Q = (
  ∃ (es : List (List D)), D.sl (cellsL args) = D.sl es ∧ ∃ (x0 : { X := Nat, sh := st_62 op sub t v args, P := fun (x : Nat) => inv_n args : LX }.X), ({ tm := [((2 : Nat), V.d (D.v (Value.int IntKind.i64 (0 : Int)))), ((3 : Nat), V.d (D.v (Value.int IntKind.i64 (0 : Int)))), ((7 : Nat), V.d (D.sl (cellsL args))), ((8 : Nat), V.d (D.v (Value.int IntKind.i64 (↑es.length : Int)))), ((9 : Nat), V.d (D.v (Value.int IntKind.i64 (0 : Int))))], hp := [((1 : Nat), B.box [V.d (D.v (Value.int IntKind.i64 op)), V.d (D.v (Value.int IntKind.i64 sub)), V.d (D.v (Value.int IntKind.i64 t.1)), V.d (D.v (Value.int IntKind.i64 t.2)), V.d (D.v (Value.int IntKind.i64 v.1.1)), V.d (D.v (Value.int IntKind.i64 v.1.2)), V.d (D.v (Value.bool v.2)), V.d (D.v (Value.int IntKind.i64 v.3)), V.d (D.v (Value.string v.4)), V.d (D.sl (cellsL args))])], kn := [], gd := [] : St }
  = { tm := [((2 : Nat), V.d (D.v (Value.int IntKind.i64 (0 : Int)))), ((3 : Nat), V.d (D.v (Value.int IntKind.i64 (deepL (0 : Int) (List.take x0 args))))), ((7 : Nat), V.d (D.sl (cellsL args))), ((8 : Nat), V.d (D.v (Value.int IntKind.i64 (↑(cellsL args).length : Int)))), ((9 : Nat), V.d (D.v (Value.int IntKind.i64 (↑x0 : Int))))], hp := [((1 : Nat), B.box [V.d (D.v (Value.int IntKind.i64 op)), V.d (D.v (Value.int IntKind.i64 sub)), V.d (D.v (Value.int IntKind.i64 t.1)), V.d (D.v (Value.int IntKind.i64 t.2)), V.d (D.v (Value.int IntKind.i64 v.1.1)), V.d (D.v (Value.int IntKind.i64 v.1.2)), V.d (D.v (Value.bool v.2)), V.d (D.v (Value.int IntKind.i64 v.3)), V.d (D.v (Value.string v.4)), V.d (D.sl (cellsL args))])], kn := [], gd := [] : St }
  ∧ ∃ (n : Nat), inv_n args n x0) ∧ ∀ (n_1 : Nat) (x : { X := Nat, sh := st_62 op sub t v args, P := fun (x : Nat) => inv_n args : LX }.X), inv_n args
  n_1 x → (decide ((↑x : Int) < (↑(cellsL args).length : Int)) = true → ∃ (es : List (List D)), D.sl (cellsL args) = D.sl es ∧ ((0 : Int) ≤ (↑x : Int)
  ∧ (↑x : Int) < (↑es.length : Int)) ∧ ∃ (cells : List D), es[(↑x : Int).toNat]? = some cells ∧ cells.length = (10 : Nat) ∧ ∃ (n_2 : Int), ∃ (n_3 :
  Int), ∃ (n_4 : Int), ∃ (n_5 : Int), ∃ (n_6 : Int), ∃ (n_7 : Int), ∃ (b : Bool), ∃ (n_8 : Int), ∃ (b_1 : ByteArray), ∃ (es : List (List D)), cut ((0 :
  Nat)) ((10 : Nat)) cells = some [D.v (Value.int IntKind.i64 n_2), D.v (Value.int IntKind.i64 n_3), D.v (Value.int IntKind.i64 n_4), D.v (Value.int
  IntKind.i64 n_5), D.v (Value.int IntKind.i64 n_6), D.v (Value.int IntKind.i64 n_7), D.v (Value.bool b), D.v (Value.int IntKind.i64 n_8), D.v
  (Value.string b_1), D.sl es] ∧ ∃ (e : EX), [D.v (Value.int IntKind.i64 n_2), D.v (Value.int IntKind.i64 n_3), D.v (Value.int IntKind.i64 n_4), D.v
  (Value.int IntKind.i64 n_5), D.v (Value.int IntKind.i64 n_6), D.v (Value.int IntKind.i64 n_7), D.v (Value.bool b), D.v (Value.int IntKind.i64 n_8),
  D.v (Value.string b_1), D.sl es] = Ex.cells e ∧ size e < n ∧ fits e ∧ ∃ (m : Nat), ∃ (x' : { X := Nat, sh := st_62 op sub t v args, P := fun (x : Nat) => inv_n args : LX }.X),
  m < n_1 ∧ { tm := [((2 : Nat), V.d (D.v (Value.int IntKind.i64 (0 : Int)))), ((3 : Nat), V.d (D.v (Value.int IntKind.i64 (if deep e > deepL (0 : Int) (List.take x args) then deep e else deepL (0 : Int) (List.take x args))))), ((7 : Nat), V.d (D.sl (cellsL args))), ((8 : Nat), V.d (D.v (Value.int IntKind.i64 (↑(cellsL args).length : Int)))), ((9 : Nat), V.d (D.v (Value.int IntKind.i64 (IntKind.i64.wrap ((↑x : Int) + (1 : Int))))))], hp := [((1 : Nat), B.box [V.d (D.v (Value.int IntKind.i64 op)), V.d (D.v (Value.int IntKind.i64 sub)), V.d (D.v (Value.int IntKind.i64 t.1)), V.d (D.v (Value.int IntKind.i64 t.2)), V.d (D.v (Value.int IntKind.i64 v.1.1)), V.d (D.v (Value.int IntKind.i64 v.1.2)), V.d (D.v (Value.bool v.2)), V.d (D.v (Value.int IntKind.i64 v.3)), V.d (D.v (Value.string v.4)), V.d (D.sl (cellsL args))])], kn := [], gd := [] : St }
  = { tm := [((2 : Nat), V.d (D.v (Value.int IntKind.i64 (0 : Int)))), ((3 : Nat), V.d (D.v (Value.int IntKind.i64 (deepL (0 : Int) (List.take x' args))))), ((7 : Nat), V.d (D.sl (cellsL args))), ((8 : Nat), V.d (D.v (Value.int IntKind.i64 (↑(cellsL args).length : Int)))), ((9 : Nat), V.d (D.v (Value.int IntKind.i64 (↑x' : Int))))], hp := [((1 : Nat), B.box [V.d (D.v (Value.int IntKind.i64 op)), V.d (D.v (Value.int IntKind.i64 sub)), V.d (D.v (Value.int IntKind.i64 t.1)), V.d (D.v (Value.int IntKind.i64 t.2)), V.d (D.v (Value.int IntKind.i64 v.1.1)), V.d (D.v (Value.int IntKind.i64 v.1.2)), V.d (D.v (Value.bool v.2)), V.d (D.v (Value.int IntKind.i64 v.3)), V.d (D.v (Value.string v.4)), V.d (D.sl (cellsL args))])], kn := [], gd := [] : St }
  ∧ inv_n args m x') ∧ (decide ((↑x : Int) < (↑(cellsL args).length : Int)) = false → Q [R.d (D.v (Value.int IntKind.i64 (IntKind.i64.wrap (deepL (0 :
  Int) (List.take x args) + (1 : Int)))))] [])) := by kernel_rfl

end Go.Proofs.Tryz
