/- A part of the proof: contracts of functions, by a verified generator of conditions; no condition of its own. -/
import Derived.Test.YtfohenhmlfiijaaGreatDoorDm21
import Derived.Test.YtfohenhmlfiijaaGreatDoorProg
import Derived.KernelRfl
namespace Go.Proofs.Tryz
open Go Go.Dm
set_option maxRecDepth 100000
def te_0 : List (Nat × TI) := [
    (1, { agg := false, ck := [.fn], bytes := 8, td := .other }),
    (2, { agg := false, ck := [.int .i64], bytes := 8, td := .plain }),
    (3, { agg := false, ck := [.int .i64], bytes := 8, td := .plain }),
    (4, { agg := false, ck := [.bool], bytes := 1, td := .plain }),
    (5, { agg := false, ck := [.int .u8], bytes := 1, td := .plain }),
    (6, { agg := false, ck := [.int .u8], bytes := 1, td := .plain }),
    (7, { agg := true, ck := [.int .i64, .int .i64, .bool, .int .u8], bytes := 24, td := .struct [(0, 2), (1, 3), (2, 4), (3, 6)], eq := true }),
    (8, { agg := true, ck := [.int .i64, .int .i64, .bool, .int .u8], bytes := 24, td := .struct [(0, 2), (1, 3), (2, 4), (3, 6)], eq := true }),
    (9, { agg := false, ck := [.str], bytes := 16, td := .plain }),
    (10, { agg := false, ck := [.str], bytes := 16, td := .plain }),
    (11, { agg := false, ck := [.str], bytes := 16, td := .plain }),
    (12, { agg := false, ck := [.int .u64], bytes := 8, td := .plain }),
    (13, { agg := true, ck := [.str, .int .u64], bytes := 24, td := .struct [(0, 9), (1, 12)] }),
    (14, { agg := true, ck := [.str, .int .u64], bytes := 24, td := .struct [(0, 9), (1, 12)] }),
    (15, { agg := false, ck := [.ptr], bytes := 8, td := .ptr 220 }),
    (16, { agg := false, ck := [.ptr], bytes := 8, td := .ptr 223 }),
    (17, { agg := false, ck := [.ptr], bytes := 8, td := .ptr 230 }),
    (18, { agg := true, ck := [.ptr], bytes := 8, td := .struct [(0, 17)] }),
    (19, { agg := true, ck := [.ptr], bytes := 8, td := .struct [(0, 17)] }),
    (20, { agg := false, ck := [.iface], bytes := 16, td := .other }),
    (21, { agg := false, ck := [.int .i32], bytes := 4, td := .plain }),
    (22, { agg := true, ck := [.int .i64, .int .i64], bytes := 16, td := .struct [(0, 3), (1, 3)], eq := true }),
    (23, { agg := true, ck := [.int .i64, .int .i64], bytes := 16, td := .struct [(0, 3), (1, 3)], eq := true }),
    (24, { agg := true, ck := [.int .i64, .int .i64, .bool, .int .i64, .str], bytes := 48, td := .struct [(0, 23), (2, 4), (3, 2), (4, 9)], eq := true }),
    (25, { agg := true, ck := [.int .i64, .int .i64, .bool, .int .i64, .str], bytes := 48, td := .struct [(0, 23), (2, 4), (3, 2), (4, 9)], eq := true }),
    (26, { agg := false, ck := [.sl], bytes := 24, td := .slice 28 }),
    (27, { agg := true, ck := [.int .i64, .int .i64, .int .i64, .int .i64, .int .i64, .int .i64, .bool, .int .i64, .str, .sl], bytes := 104, td := .struct [(0, 3), (1, 3), (2, 23), (4, 25), (9, 26)] }),
    (28, { agg := true, ck := [.int .i64, .int .i64, .int .i64, .int .i64, .int .i64, .int .i64, .bool, .int .i64, .str, .sl], bytes := 104, td := .struct [(0, 3), (1, 3), (2, 23), (4, 25), (9, 26)] }),
    (29, { agg := false, ck := [.sl], bytes := 24, td := .slice 25 }),
    (30, { agg := false, ck := [.int .i64], bytes := 8, td := .plain }),
    (32, { agg := false, ck := [.fn], bytes := 8, td := .other }),
    (34, { agg := false, ck := [.fn], bytes := 8, td := .other }),
    (35, { agg := false, ck := [.sl], bytes := 24, td := .slice 23 }),
    (36, { agg := false, ck := [.fn], bytes := 8, td := .other }),
    (37, { agg := false, ck := [.fn], bytes := 8, td := .other }),
    (38, { agg := false, ck := [.fn], bytes := 8, td := .other }),
    (39, { agg := false, ck := [.fn], bytes := 8, td := .other }),
    (40, { agg := false, ck := [.sl], bytes := 24, td := .slice 3 }),
    (42, { agg := false, ck := [.fn], bytes := 8, td := .other }),
    (43, { agg := false, ck := [.fn], bytes := 8, td := .other }),
    (44, { agg := false, ck := [.fn], bytes := 8, td := .other }),
    (45, { agg := false, ck := [.fn], bytes := 8, td := .other }),
    (46, { agg := false, ck := [.fn], bytes := 8, td := .other }),
    (47, { agg := false, ck := [.fn], bytes := 8, td := .other }),
    (49, { agg := false, ck := [.ptr], bytes := 8, td := .ptr 51 }),
    (50, { agg := true, ck := [.sl, .sl], bytes := 48, td := .struct [(0, 29), (1, 35)] }),
    (51, { agg := true, ck := [.sl, .sl], bytes := 48, td := .struct [(0, 29), (1, 35)] }),
    (52, { agg := false, ck := [.fn], bytes := 8, td := .other }),
    (53, { agg := false, ck := [.fn], bytes := 8, td := .other }),
    (54, { agg := false, ck := [.fn], bytes := 8, td := .other }),
    (55, { agg := false, ck := [.fn], bytes := 8, td := .other }),
    (56, { agg := false, ck := [.fn], bytes := 8, td := .other }),
    (57, { agg := false, ck := [.fn], bytes := 8, td := .other }),
    (59, { agg := false, ck := [.fn], bytes := 8, td := .other }),
    (60, { agg := false, ck := [.fn], bytes := 8, td := .other }),
    (61, { agg := false, ck := [.fn], bytes := 8, td := .other }),
    (62, { agg := false, ck := [.fn], bytes := 8, td := .other }),
    (63, { agg := false, ck := [.fn], bytes := 8, td := .other }),
    (64, { agg := false, ck := [.fn], bytes := 8, td := .other }),
    (65, { agg := false, ck := [.fn], bytes := 8, td := .other }),
    (67, { agg := false, ck := [.fn], bytes := 8, td := .other }),
    (68, { agg := false, ck := [.fn], bytes := 8, td := .other }),
    (69, { agg := false, ck := [.fn], bytes := 8, td := .other }),
    (70, { agg := false, ck := [.fn], bytes := 8, td := .other }),
    (71, { agg := false, ck := [.fn], bytes := 8, td := .other }),
    (72, { agg := false, ck := [.fn], bytes := 8, td := .other }),
    (73, { agg := false, ck := [.fn], bytes := 8, td := .other }),
    (74, { agg := false, ck := [.fn], bytes := 8, td := .other }),
    (75, { agg := false, ck := [.fn], bytes := 8, td := .other }),
    (76, { agg := false, ck := [.fn], bytes := 8, td := .other }),
    (77, { agg := false, ck := [.fn], bytes := 8, td := .other }),
    (78, { agg := false, ck := [.fn], bytes := 8, td := .other }),
    (79, { agg := false, ck := [.fn], bytes := 8, td := .other }),
    (80, { agg := false, ck := [.fn], bytes := 8, td := .other }),
    (81, { agg := false, ck := [.fn], bytes := 8, td := .other }),
    (82, { agg := false, ck := [.fn], bytes := 8, td := .other }),
    (83, { agg := false, ck := [.fn], bytes := 8, td := .other }),
    (84, { agg := false, ck := [.sl], bytes := 24, td := .slice 9 }),
    (85, { agg := false, ck := [.fn], bytes := 8, td := .other }),
    (86, { agg := false, ck := [.fn], bytes := 8, td := .other }),
    (87, { agg := false, ck := [.fn], bytes := 8, td := .other }),
    (89, { agg := false, ck := [.fn], bytes := 8, td := .other }),
    (90, { agg := false, ck := [.fn], bytes := 8, td := .other }),
    (91, { agg := false, ck := [.fn], bytes := 8, td := .other }),
    (92, { agg := false, ck := [.fn], bytes := 8, td := .other }),
    (93, { agg := false, ck := [.fn], bytes := 8, td := .other }),
    (95, { agg := false, ck := [.fn], bytes := 8, td := .other }),
    (96, { agg := false, ck := [.fn], bytes := 8, td := .other }),
    (97, { agg := false, ck := [.fn], bytes := 8, td := .other }),
    (98, { agg := false, ck := [.fn], bytes := 8, td := .other }),
    (99, { agg := false, ck := [.fn], bytes := 8, td := .other }),
    (101, { agg := false, ck := [.fn], bytes := 8, td := .other }),
    (102, { agg := false, ck := [.fn], bytes := 8, td := .other }),
    (103, { agg := true, ck := [.str, .str, .str, .str, .str, .str, .str, .str, .str, .str, .str, .str, .str, .str, .str, .str, .str, .str, .str], bytes := 304, td := .arr 19 9 }),
    (104, { agg := true, ck := [.str, .str, .str, .str, .str, .str, .str], bytes := 112, td := .arr 7 9 }),
    (105, { agg := false, ck := [.ptr], bytes := 8, td := .ptr 108 }),
    (106, { agg := false, ck := [.sl], bytes := 24, td := .slice 5 }),
    (107, { agg := true, ck := [.ptr, .sl], bytes := 32, td := .struct [(0, 105), (1, 106)] }),
    (108, { agg := true, ck := [.ptr, .sl], bytes := 32, td := .struct [(0, 105), (1, 106)] }),
    (109, { agg := false, ck := [.fn], bytes := 8, td := .other }),
    (110, { agg := false, ck := [.iface], bytes := 16, td := .other }),
    (111, { agg := false, ck := [.iface], bytes := 16, td := .other }),
    (113, { agg := false, ck := [.fn], bytes := 8, td := .other }),
    (114, { agg := false, ck := [.fn], bytes := 8, td := .other }),
    (115, { agg := false, ck := [.fn], bytes := 8, td := .other }),
    (116, { agg := false, ck := [.fn], bytes := 8, td := .other }),
    (117, { agg := false, ck := [.fn], bytes := 8, td := .other }),
    (118, { agg := false, ck := [.fn], bytes := 8, td := .other }),
    (119, { agg := false, ck := [.fn], bytes := 8, td := .other }),
    (120, { agg := true, ck := [.bool, .bool, .bool, .bool, .bool, .bool, .bool], bytes := 7, td := .arr 7 4 }),
    (121, { agg := false, ck := [.fn], bytes := 8, td := .other }),
    (122, { agg := false, ck := [.int .u64], bytes := 8, td := .plain }),
    (123, { agg := true, ck := [.int .i64, .int .u64], bytes := 16, td := .struct [(0, 2), (1, 122)], eq := true }),
    (124, { agg := true, ck := [.int .i64, .int .u64], bytes := 16, td := .struct [(0, 2), (1, 122)], eq := true }),
    (125, { agg := false, ck := [.fn], bytes := 8, td := .other }),
    (126, { agg := false, ck := [.fn], bytes := 8, td := .other }),
    (128, { agg := false, ck := [.fn], bytes := 8, td := .other }),
    (129, { agg := false, ck := [.fn], bytes := 8, td := .other }),
    (131, { agg := false, ck := [.fn], bytes := 8, td := .other }),
    (132, { agg := false, ck := [.fn], bytes := 8, td := .other }),
    (133, { agg := false, ck := [.ptr], bytes := 8, td := .ptr 5 }),
    (134, { agg := false, ck := [.map], bytes := 8, td := .other }),
    (136, { agg := false, ck := [.fn], bytes := 8, td := .other }),
    (137, { agg := false, ck := [.fn], bytes := 8, td := .other }),
    (139, { agg := false, ck := [.fn], bytes := 8, td := .other }),
    (140, { agg := false, ck := [.fn], bytes := 8, td := .other }),
    (141, { agg := false, ck := [.fn], bytes := 8, td := .other }),
    (142, { agg := false, ck := [.fn], bytes := 8, td := .other }),
    (143, { agg := false, ck := [.fn], bytes := 8, td := .other }),
    (144, { agg := false, ck := [.fn], bytes := 8, td := .other }),
    (145, { agg := false, ck := [.int .u64], bytes := 8, td := .plain }),
    (146, { agg := true, ck := [.int .u8, .int .u8, .int .u8, .int .u8, .int .u8, .int .u8, .int .u8, .int .u8, .int .u8, .int .u8, .int .u8, .int .u8, .int .u8, .int .u8, .int .u8, .int .u8, .int .u8, .int .u8, .int .u8, .int .u8, .int .u8, .int .u8, .int .u8, .int .u8], bytes := 24, td := .arr 24 5 }),
    (147, { agg := false, ck := [.fn], bytes := 8, td := .other }),
    (148, { agg := false, ck := [.fn], bytes := 8, td := .other }),
    (150, { agg := false, ck := [.fn], bytes := 8, td := .other }),
    (152, { agg := false, ck := [.fn], bytes := 8, td := .other }),
    (153, { agg := false, ck := [.fn], bytes := 8, td := .other }),
    (155, { agg := false, ck := [.fn], bytes := 8, td := .other }),
    (156, { agg := false, ck := [.fn], bytes := 8, td := .other }),
    (157, { agg := false, ck := [.fn], bytes := 8, td := .other }),
    (158, { agg := false, ck := [.fn], bytes := 8, td := .other }),
    (159, { agg := false, ck := [.fn], bytes := 8, td := .other }),
    (160, { agg := false, ck := [.fn], bytes := 8, td := .other }),
    (162, { agg := false, ck := [.fn], bytes := 8, td := .other }),
    (164, { agg := false, ck := [.fn], bytes := 8, td := .other }),
    (165, { agg := false, ck := [.fn], bytes := 8, td := .other }),
    (166, { agg := false, ck := [.fn], bytes := 8, td := .other }),
    (167, { agg := true, ck := [.int .u64, .int .u64, .int .u64, .int .u64, .int .u64, .int .u64, .int .u64, .int .u64, .int .u64, .int .u64, .int .u64, .int .u64, .int .u64, .int .u64, .int .u64, .int .u64, .int .u64, .int .u64, .int .u64, .int .u64], bytes := 160, td := .arr 20 122 }),
    (168, { agg := false, ck := [.int .u32], bytes := 4, td := .plain }),
    (170, { agg := false, ck := [.fn], bytes := 8, td := .other }),
    (171, { agg := false, ck := [.fn], bytes := 8, td := .other }),
    (172, { agg := false, ck := [.fn], bytes := 8, td := .other }),
    (173, { agg := false, ck := [.fn], bytes := 8, td := .other }),
    (175, { agg := false, ck := [.fn], bytes := 8, td := .other }),
    (176, { agg := false, ck := [.fn], bytes := 8, td := .other }),
    (177, { agg := true, ck := [.int .i64, .int .i64, .int .i64, .int .i64, .int .i64, .int .i64, .int .i64, .int .i64, .int .i64, .int .i64, .int .i64, .int .i64], bytes := 96, td := .arr 12 3 }),
    (178, { agg := false, ck := [.fn], bytes := 8, td := .other }),
    (179, { agg := false, ck := [.fn], bytes := 8, td := .other }),
    (180, { agg := false, ck := [.fn], bytes := 8, td := .other }),
    (181, { agg := false, ck := [.fn], bytes := 8, td := .other }),
    (182, { agg := false, ck := [.fn], bytes := 8, td := .other }),
    (184, { agg := true, ck := [.int .u8, .int .u8], bytes := 2, td := .struct [(0, 5), (1, 5)], eq := true }),
    (185, { agg := true, ck := [.int .u8, .int .u8], bytes := 2, td := .struct [(0, 5), (1, 5)], eq := true }),
    (186, { agg := true, ck := [.int .u8, .int .u8, .int .u8, .int .u8, .int .u8, .int .u8, .int .u8, .int .u8, .int .u8, .int .u8, .int .u8, .int .u8, .int .u8, .int .u8, .int .u8, .int .u8, .int .u8, .int .u8, .int .u8, .int .u8, .int .u8, .int .u8, .int .u8, .int .u8, .int .u8, .int .u8, .int .u8, .int .u8, .int .u8, .int .u8, .int .u8, .int .u8], bytes := 32, td := .arr 16 185 }),
    (188, { agg := false, ck := [.fn], bytes := 8, td := .other }),
    (190, { agg := false, ck := [.fn], bytes := 8, td := .other }),
    (191, { agg := false, ck := [.fn], bytes := 8, td := .other }),
    (192, { agg := false, ck := [.fn], bytes := 8, td := .other }),
    (196, { agg := false, ck := [.fn], bytes := 8, td := .other }),
    (197, { agg := false, ck := [.fn], bytes := 8, td := .other }),
    (198, { agg := false, ck := [.ptr], bytes := 8, td := .ptr 194 }),
    (199, { agg := false, ck := [.int .i64], bytes := 8, td := .plain }),
    (201, { agg := false, ck := [.fn], bytes := 8, td := .other }),
    (202, { agg := false, ck := [.ptr], bytes := 8, td := .ptr 212 }),
    (203, { agg := false, ck := [.fn], bytes := 8, td := .other }),
    (204, { agg := false, ck := [.fn], bytes := 8, td := .other }),
    (205, { agg := true, ck := [.int .u8, .int .u8, .int .u8, .int .u8, .int .u8, .int .u8, .int .u8, .int .u8, .int .u8, .int .u8, .int .u8, .int .u8, .int .u8, .int .u8, .int .u8, .int .u8, .int .u8, .int .u8, .int .u8, .int .u8, .int .u8, .int .u8, .int .u8, .int .u8, .int .u8, .int .u8, .int .u8, .int .u8, .int .u8, .int .u8, .int .u8, .int .u8], bytes := 32, td := .arr 32 5 }),
    (206, { agg := true, ck := [.int .u8, .int .u8, .int .u8, .int .u8, .int .u8, .int .u8, .int .u8, .int .u8, .int .u8, .int .u8, .int .u8, .int .u8, .int .u8, .int .u8, .int .u8, .int .u8, .int .u8, .int .u8, .int .u8, .int .u8, .int .u8, .int .u8, .int .u8, .int .u8, .int .u8, .int .u8, .int .u8, .int .u8, .int .u8, .int .u8, .int .u8, .int .u8, .int .u8, .int .u8, .int .u8, .int .u8, .int .u8, .int .u8, .int .u8, .int .u8, .int .u8, .int .u8, .int .u8, .int .u8, .int .u8, .int .u8, .int .u8, .int .u8, .int .u8, .int .u8, .int .u8, .int .u8, .int .u8, .int .u8, .int .u8, .int .u8, .int .u8, .int .u8, .int .u8, .int .u8, .int .u8, .int .u8, .int .u8, .int .u8], bytes := 64, td := .arr 64 5 }),
    (207, { agg := false, ck := [.fn], bytes := 8, td := .other }),
    (208, { agg := false, ck := [.fn], bytes := 8, td := .other }),
    (209, { agg := false, ck := [.fn], bytes := 8, td := .other }),
    (210, { agg := false, ck := [.fn], bytes := 8, td := .other }),
    (211, { agg := true, ck := [.str, .str, .iface], bytes := 48, td := .struct [(0, 9), (1, 9), (2, 111)] }),
    (212, { agg := true, ck := [.str, .str, .iface], bytes := 48, td := .struct [(0, 9), (1, 9), (2, 111)] }),
    (213, { agg := false, ck := [.fn], bytes := 8, td := .other }),
    (214, { agg := false, ck := [.fn], bytes := 8, td := .other }),
    (215, { agg := false, ck := [.ptr], bytes := 8, td := .ptr 217 }),
    (216, { agg := true, ck := [.str], bytes := 16, td := .struct [(0, 9)], eq := true }),
    (217, { agg := true, ck := [.str], bytes := 16, td := .struct [(0, 9)], eq := true }),
    (218, { agg := false, ck := [.fn], bytes := 8, td := .other }),
    (219, { agg := true, ck := [.ptr, .ptr, .ptr, .str], bytes := 40, td := .struct [(0, 17), (1, 17), (2, 17), (3, 9)] }),
    (220, { agg := true, ck := [.ptr, .ptr, .ptr, .str], bytes := 40, td := .struct [(0, 17), (1, 17), (2, 17), (3, 9)] }),
    (224, { agg := false, ck := [.int .u8], bytes := 1, td := .plain }),
    (225, { agg := false, ck := [.int .u8], bytes := 1, td := .plain }),
    (226, { agg := false, ck := [.fn], bytes := 8, td := .other }),
    (227, { agg := false, ck := [.int .i32], bytes := 4, td := .plain }),
    (228, { agg := false, ck := [.int .i32], bytes := 4, td := .plain }),
    (229, { agg := true, ck := [.int .u64, .int .u64, .int .u32, .int .u8, .int .u8, .int .u8, .int .u8, .fn, .ptr, .int .i32, .int .i32], bytes := 48, td := .struct [(0, 12), (1, 12), (2, 168), (3, 224), (4, 5), (5, 5), (6, 225), (7, 226), (8, 133), (9, 227), (10, 228)] }),
    (230, { agg := true, ck := [.int .u64, .int .u64, .int .u32, .int .u8, .int .u8, .int .u8, .int .u8, .fn, .ptr, .int .i32, .int .i32], bytes := 48, td := .struct [(0, 12), (1, 12), (2, 168), (3, 224), (4, 5), (5, 5), (6, 225), (7, 226), (8, 133), (9, 227), (10, 228)] })]
def E_0 : Env := { te := te_0 }
/-- gosem.cut.init -/
def fi2 : Fi := { keep := [], sc := [], lp := [] }
/-- colonnade/colonnadelaw14.ExprTyped -/
def fi3 : Fi := { keep := [2, 4, 5, 6, 7, 8, 23, 25], sc := [(2, (.q 0 (.q 1 (.alt 2 [1] (.alt 3 [0] (.q 4 (.q 5 (.q 6 (.one 7 [] (.one 8 [5, 4] (.q 9 .done)))))) (.one 7 [] (.one 3 [0] (.q 4 (.q 5 (.q 6 (.one 8 [5, 4] (.q 9 .done)))))))) (.one 7 [] (.one 2 [1] (.one 3 [0] (.q 4 (.q 5 (.q 6 (.one 8 [5, 4] (.q 9 .done))))))))))))], lp := [] }
/-- colonnade/colonnadelaw14.ExprShifts -/
def fi4 : Fi := { keep := [3, 4, 6, 7, 8, 9, 10], sc := [(3, (.one 0 [] (.q 1 (.q 2 (.q 3 (.one 4 [3, 2, 1] (.q 5 (.q 6 (.q 7 (.q 8 (.q 9 (.q 10 (.q 11 (.q 12 (.q 13 (.q 15 (.q 16 (.one 14 [13, 12, 11, 10, 9, 8, 7, 6, 5] (.one 17 [16, 15] (.q 18 (.q 19 (.q 20 (.q 21 (.q 22 (.one 23 [22, 21, 20, 19, 18] (.q 24 (.q 25 .done)))))))))))))))))))))))))))], lp := [] }
/-- colonnade/colonnadelaw14.ExprSafe -/
def fi5 : Fi := { keep := [2, 4, 6, 8, 17, 19, 20, 21, 22, 27], sc := [(1, (.one 0 [] (.q 1 (.q 2 (.q 3 (.q 4 (.one 5 [4, 2, 1] (.one 6 [3] (.q 7 (.q 8 .done))))))))))], lp := [(4, ([1, 2, 4, 19, 20, 21], [6, 26]))] }
/-- colonnade/expr.Eval -/
def fi6 : Fi := { keep := [2, 4, 5, 7, 8, 9, 18, 22, 35], sc := [(1, (.q 0 (.q 1 (.alt 2 [1] (.alt 3 [0] (.q 4 (.q 5 (.q 6 (.one 7 [] (.one 8 [5, 4] (.q 9 .done)))))) (.one 7 [] (.one 3 [0] (.q 4 (.q 5 (.q 6 (.one 8 [5, 4] (.q 9 .done)))))))) (.one 7 [] (.one 2 [1] (.one 3 [0] (.q 4 (.q 5 (.q 6 (.one 8 [5, 4] (.q 9 .done)))))))))))), (6, (.q 0 (.q 1 (.q 5 (.alt 2 [1] (.q 3 (.alt 4 [3, 0] (.alt 6 [5] (.q 7 (.q 8 (.q 9 (.one 10 [] (.one 11 [8, 7] (.q 12 .done)))))) (.one 10 [] (.one 6 [5] (.q 7 (.q 8 (.q 9 (.one 11 [8, 7] (.q 12 .done)))))))) (.one 10 [] (.one 4 [3, 0] (.one 6 [5] (.q 7 (.q 8 (.q 9 (.one 11 [8, 7] (.q 12 .done)))))))))) (.one 10 [] (.one 2 [1] (.q 3 (.one 4 [3, 0] (.one 6 [5] (.q 7 (.q 8 (.q 9 (.one 11 [8, 7] (.q 12 .done)))))))))))))))], lp := [] }
/-- colonnade/expr.Check -/
def fi7 : Fi := { keep := [2, 4, 5, 6, 7, 26, 35], sc := [], lp := [] }
/-- colonnade/colonnaderef14.Types -/
def fi8 : Fi := { keep := [2, 3, 4, 8], sc := [], lp := [(3, ([0, 2, 3, 4], [17, 18]))] }
/-- colonnade/colonnadelaw14.begun -/
def fi9 : Fi := { keep := [0, 1, 2, 3, 4, 5, 7], sc := [(5, (.q 0 (.one 1 [] (.q 2 (.q 3 (.q 4 (.q 5 (.q 6 (.q 7 (.q 8 (.q 9 (.q 10 (.q 11 (.q 12 (.q 13 (.one 14 [13, 12, 11, 10, 9, 8, 7, 6, 5, 4, 3, 2, 0] (.q 15 (.one 16 [15] (.q 17 (.q 18 (.q 19 .done)))))))))))))))))))))], lp := [] }
/-- colonnade/colonnaderef02.Check -/
def fi10 : Fi := { keep := [1, 2, 3, 4, 5, 10, 15, 26, 38, 42, 53, 60, 71], sc := [], lp := [] }
/-- colonnade/expr.Shift -/
def fi11 : Fi := { keep := [2, 4, 5, 6, 8, 9, 10, 13, 31, 40, 41, 42, 43, 53], sc := [], lp := [(7, ([1, 2, 4, 5, 6, 40, 41, 42], [8, 9, 49, 58, 59]))] }
/-- colonnade/colonnaderef14.Shift -/
def fi12 : Fi := { keep := [2, 4, 5, 6, 7, 8, 9, 21, 39, 51, 65], sc := [], lp := [(7, ([1, 2, 4, 5, 6, 7], [8, 61, 71, 72]))] }
/-- colonnade/colonnaderef14.Same -/
def fi13 : Fi := { keep := [2, 3, 4, 5, 40, 45, 59], sc := [(6, (.q 0 (.q 1 (.q 2 (.q 3 (.q 4 (.q 5 (.q 6 (.q 7 (.q 8 (.q 9 (.one 10 [9, 8, 7, 6, 5, 4, 3, 2, 1, 0] (.q 11 .done)))))))))))))], lp := [(4, ([2, 3, 4, 5], [58]))] }
/-- colonnade/expr.Same -/
def fi14 : Fi := { keep := [2, 3, 4], sc := [], lp := [] }
/-- colonnade/expr.Safe -/
def fi15 : Fi := { keep := [2, 4, 6], sc := [], lp := [] }
/-- colonnade/expr.types -/
def fi16 : Fi := { keep := [2, 3, 5, 6, 7, 8, 9], sc := [], lp := [(3, ([2, 3, 6, 7, 8], [5, 15, 16]))] }
/-- slices.ContainsFunc[[]colonnade/api.Value,colonnade/api.Value] -/
def fi17 : Fi := { keep := [4], sc := [], lp := [] }
/-- colonnade/expr.Eval$1 -/
def fi18 : Fi := { keep := [1, 2], sc := [], lp := [] }
/-- colonnade/value.Check -/
def fi19 : Fi := { keep := [1, 2, 3, 4, 5, 10, 18, 27, 41, 50, 64, 77], sc := [], lp := [] }
/-- (*colonnade/expr.eval).of -/
def fi20 : Fi := { keep := [3, 4, 5, 6, 8, 9, 10, 11, 12, 14, 15, 16, 17, 18, 19, 20, 21, 22, 33, 34, 44, 48, 56, 71, 83, 90, 104, 107, 132, 135, 136, 137, 138, 154, 165, 166, 167, 168, 179, 191, 197], sc := [(1, (.q 0 (.q 1 (.q 2 (.q 3 (.q 4 (.alt 5 [4, 3, 2, 1, 0] (.q 6 (.q 7 (.q 8 (.one 9 [] (.one 10 [7, 6] (.q 11 .done)))))) (.one 9 [] (.one 5 [4, 3, 2, 1, 0] (.q 6 (.q 7 (.q 8 (.one 10 [7, 6] (.q 11 .done)))))))))))))), (4, (.q 0 (.q 1 (.q 2 (.q 3 (.q 4 (.q 5 (.q 6 (.q 7 (.one 8 [7, 6, 5, 4, 3, 2, 1, 0] (.q 9 .done))))))))))), (14, (.q 0 (.q 1 (.q 2 (.q 3 (.q 4 (.q 5 (.q 6 (.one 7 [6, 5, 4, 3, 2, 1, 0] (.q 8 (.q 9 (.one 10 [9, 8] (.q 11 .done))))))))))))), (23, (.q 0 (.q 1 (.q 2 (.q 3 (.q 4 (.q 5 (.q 6 (.q 7 (.one 8 [7, 6, 5, 4, 3, 2, 1, 0] (.q 9 (.q 10 (.one 11 [10, 9] (.q 12 .done)))))))))))))), (24, (.q 0 (.q 1 (.q 2 (.q 3 (.q 4 (.q 5 (.q 6 (.q 7 (.q 8 (.q 9 (.one 10 [9, 8, 7, 6, 5, 4, 3, 2, 1, 0] (.q 11 (.q 12 (.one 13 [12, 11] (.q 14 .done)))))))))))))))), (42, (.q 0 (.q 1 (.q 2 (.q 3 (.q 4 (.q 5 (.q 6 (.q 7 (.q 8 (.one 9 [8, 4, 3, 2, 1, 0] (.q 10 .done))))))))))))], lp := [(17, ([0, 3, 4, 5, 6, 10], [100, 116])), (27, ([0, 3, 4, 5, 6, 135, 136, 137], [14, 15, 145])), (37, ([0, 3, 4, 5, 6, 17, 18, 165, 166, 167], [20, 21, 175]))] }
/-- slices.ContainsFunc[[]colonnade/api.Type,colonnade/api.Type] -/
def fi21 : Fi := { keep := [4], sc := [], lp := [] }
/-- colonnade/expr.Check$1 -/
def fi22 : Fi := { keep := [1, 2], sc := [], lp := [] }
/-- colonnade/value.CheckType -/
def fi23 : Fi := { keep := [1, 2, 26], sc := [], lp := [] }
/-- colonnade/expr.Nodes -/
def fi24 : Fi := { keep := [1, 2, 3, 5, 7, 8, 9, 10], sc := [], lp := [(3, ([2, 3, 7, 8, 9], [5, 15]))] }
/-- colonnade/expr.deep -/
def fi25 : Fi := { keep := [1, 2, 3, 5, 7, 8, 9, 10], sc := [], lp := [(3, ([2, 3, 7, 8, 9], [5, 15]))] }
/-- colonnade/expr.may -/
def fi26 : Fi := { keep := [2, 3, 4, 5, 6, 7, 8, 9, 25, 26, 39, 47, 59, 67, 74, 83, 87], sc := [(2, (.q 0 (.q 1 (.q 2 (.q 3 (.q 4 (.q 5 (.q 6 (.q 7 (.q 8 (.q 9 (.q 10 (.q 11 (.q 12 (.q 13 .done)))))))))))))))], lp := [] }
/-- colonnade/expr.typed -/
def fi27 : Fi := { keep := [2, 4, 5, 6, 8, 9, 10, 11, 12, 13, 14, 15, 16, 17, 18, 20, 21, 22, 23, 33, 44, 45, 52, 57, 67, 74, 77, 82, 87, 119, 138], sc := [(18, (.q 0 (.q 1 (.q 2 (.q 3 (.q 4 (.q 5 (.q 6 (.one 7 [6, 5, 4, 3, 2, 1] (.one 8 [0] (.q 9 .done))))))))))), (22, (.q 0 (.q 1 (.one 2 [1] (.one 3 [0] (.q 4 .done)))))), (28, (.q 0 (.q 1 (.one 2 [1] (.one 3 [0] (.q 4 .done)))))), (30, (.q 0 (.q 1 (.q 2 (.q 3 (.q 4 (.q 5 (.one 6 [] (.q 7 (.one 8 [7, 5, 4, 3, 2, 1, 0] .done)))))))))), (31, (.q 0 (.q 1 (.q 2 (.q 3 (.q 4 (.q 5 (.q 6 (.q 7 (.q 8 (.q 9 (.q 10 (.q 11 (.q 12 (.q 13 (.q 14 (.q 15 (.q 16 (.one 17 [16, 15, 14, 13, 12, 11, 10, 9, 8, 7, 6, 5, 4, 3, 2] (.q 18 (.q 19 (.q 20 (.one 21 [20, 19, 18] (.q 22 (.q 23 (.one 24 [1, 0] (.q 25 .done))))))))))))))))))))))))))), (38, (.q 0 (.q 1 (.q 2 (.q 3 (.q 4 (.q 5 (.q 6 (.q 7 (.q 8 (.q 9 .done))))))))))), (40, (.q 0 (.q 1 (.q 2 (.q 3 (.one 4 [3] (.one 5 [2, 1, 0] (.q 6 (.q 7 (.one 8 [7, 6] (.q 9 .done)))))))))))], lp := [(3, ([1, 2, 4, 5, 6, 20, 21, 22], [8, 9, 29, 37, 38])), (36, ([2, 4, 5, 6, 11, 13, 16, 17, 18], []))] }
/-- colonnade/colonnaderef02.OfInt -/
def fi28 : Fi := { keep := [2], sc := [], lp := [] }
/-- colonnade/expr.Show -/
def fi29 : Fi := { keep := [1, 2, 3, 5, 7, 8, 14, 23, 24, 25, 26], sc := [], lp := [(8, ([2, 3, 23, 24, 25], [5, 31, 32, 33]))] }
/-- colonnade/colonnaderef02.CheckType -/
def fi30 : Fi := { keep := [1, 2, 30], sc := [], lp := [] }
/-- colonnade/colonnaderef01.Fits -/
def fi31 : Fi := { keep := [2], sc := [], lp := [] }
/-- slices.EqualFunc[[]colonnade/api.Expr,[]colonnade/api.Expr,colonnade/api.Expr,colonnade/api.Expr] -/
def fi32 : Fi := { keep := [6, 7, 8, 9, 14, 15, 16, 17, 18, 30], sc := [], lp := [(4, ([1, 2, 6, 15, 16, 17], [8, 9, 29]))] }
/-- colonnade/expr.safe -/
def fi33 : Fi := { keep := [2, 4, 5, 7, 8, 11, 12, 13, 14, 20, 33, 34, 42, 56], sc := [(20, (.q 0 (.q 1 (.q 2 (.q 3 (.q 4 (.q 5 (.q 6 (.q 7 (.q 8 (.q 9 (.q 10 (.q 11 (.q 12 .done))))))))))))))], lp := [(3, ([1, 2, 4, 5, 11, 12, 13], [7, 8, 19, 24, 29, 30]))] }
/-- slices.IndexFunc[[]colonnade/api.Value,colonnade/api.Value] -/
def fi34 : Fi := { keep := [4, 5, 7, 8, 9, 16], sc := [], lp := [(2, ([0, 1, 4, 7, 8], [16]))] }
/-- colonnade/num.Fits -/
def fi35 : Fi := { keep := [2], sc := [], lp := [] }
/-- (*colonnade/expr.eval).logic -/
def fi36 : Fi := { keep := [3, 4, 5, 6, 7, 8, 9, 10, 13, 29], sc := [], lp := [] }
/-- (*colonnade/expr.eval).truth -/
def fi37 : Fi := { keep := [3, 4, 5, 6, 7, 8], sc := [], lp := [] }
/-- colonnade/expr.lift -/
def fi38 : Fi := { keep := [2, 4], sc := [], lp := [] }
/-- colonnade/value.Not -/
def fi39 : Fi := { keep := [2, 3, 4, 6], sc := [], lp := [] }
/-- (*colonnade/expr.eval).as -/
def fi40 : Fi := { keep := [4, 5, 6, 7, 8, 9, 10, 11, 19], sc := [], lp := [] }
/-- colonnade/value.None -/
def fi41 : Fi := { keep := [1, 2], sc := [], lp := [] }
/-- colonnade/value.OfBool -/
def fi42 : Fi := { keep := [2, 3], sc := [], lp := [] }
/-- colonnade/expr.reckon -/
def fi43 : Fi := { keep := [3, 4, 6, 7, 8, 9, 10, 12, 13, 14, 15, 16, 17, 28, 29, 41, 53, 66, 84, 87, 88, 98, 108, 118, 128, 138], sc := [(1, (.q 0 (.q 1 (.q 2 (.q 3 (.q 4 (.q 5 (.q 6 (.q 7 (.q 8 (.alt 9 [] (.one 10 [] (.one 11 [2, 1, 0] (.one 12 [8, 7, 6, 5, 4, 3] .done))) (.one 10 [] (.one 9 [] (.one 11 [2, 1, 0] (.one 12 [8, 7, 6, 5, 4, 3] .done))))))))))))))), (8, (.q 0 (.q 1 (.one 2 [1] (.q 3 (.one 4 [0] (.q 5 .done))))))), (33, (.q 0 (.q 1 (.q 2 (.q 3 (.q 4 (.one 5 [4, 3, 2, 1] (.q 6 (.q 7 (.one 8 [0] (.q 9 .done)))))))))))], lp := [] }
/-- slices.IndexFunc[[]colonnade/api.Type,colonnade/api.Type] -/
def fi44 : Fi := { keep := [4, 5, 7, 8, 9, 16], sc := [], lp := [(2, ([0, 1, 4, 7, 8], [16]))] }
/-- colonnade/value.scaled -/
def fi45 : Fi := { keep := [2], sc := [], lp := [] }
/-- slices.ContainsFunc[[]colonnade/api.Expr,colonnade/api.Expr] -/
def fi46 : Fi := { keep := [4], sc := [], lp := [] }
/-- colonnade/expr.may$1 -/
def fi47 : Fi := { keep := [2, 3], sc := [], lp := [] }
/-- colonnade/expr.typed$1 -/
def fi48 : Fi := { keep := [2, 3], sc := [], lp := [] }
/-- colonnade/expr.typed$1$1 -/
def fi49 : Fi := { keep := [2, 3], sc := [], lp := [] }
/-- colonnade/value.Alike -/
def fi50 : Fi := { keep := [2, 3, 4], sc := [(1, (.q 0 (.q 1 (.q 2 (.q 3 (.q 4 (.q 5 (.q 6 (.q 7 (.q 8 (.q 9 (.q 10 (.q 12 (.q 13 (.one 11 [10, 9, 8, 7, 6, 5, 4, 3, 2, 1, 0] (.one 14 [13, 12] (.q 15 (.q 16 (.q 17 .done)))))))))))))))))))], lp := [] }
/-- colonnade/expr.number -/
def fi51 : Fi := { keep := [1, 2], sc := [], lp := [] }
/-- colonnade/expr.common -/
def fi52 : Fi := { keep := [2, 3, 4, 5, 7, 12, 13, 14, 15, 18, 22], sc := [], lp := [(4, ([2, 3, 4, 5, 12, 13, 14], [7, 24, 27]))] }
/-- colonnade/expr.results -/
def fi53 : Fi := { keep := [2, 4, 5, 6, 9, 14], sc := [], lp := [(5, ([1, 4, 5, 6], [22, 23]))] }
/-- colonnade/expr.arith -/
def fi54 : Fi := { keep := [6, 7, 8, 9, 10, 11, 23, 26, 34, 40, 63, 76, 80], sc := [(1, (.q 0 (.q 1 (.q 2 (.q 3 (.q 4 (.q 5 (.q 6 (.q 7 (.q 8 (.alt 9 [] (.one 10 [] (.one 11 [2, 1, 0] (.one 12 [8, 7, 6, 5, 4, 3] .done))) (.one 10 [] (.one 9 [] (.one 11 [2, 1, 0] (.one 12 [8, 7, 6, 5, 4, 3] .done))))))))))))))), (8, (.q 0 (.q 1 (.one 2 [1] (.one 3 [0] (.q 4 .done)))))), (10, (.q 0 (.q 1 (.q 2 (.q 3 (.q 4 (.q 5 (.q 6 (.q 7 (.q 8 (.q 9 (.q 10 (.q 11 (.one 12 [5, 4, 3, 2, 1, 0] (.q 13 .done))))))))))))))), (17, (.q 0 (.q 1 (.q 2 (.q 3 (.q 4 (.q 5 (.q 6 (.q 7 (.q 8 (.q 9 (.q 10 (.q 11 (.q 12 (.q 13 (.q 14 (.q 15 (.q 16 (.q 17 (.q 18 (.q 19 (.q 20 (.q 21 (.q 22 (.one 23 [17, 16, 15, 14, 13, 12, 11, 10, 9, 8, 7, 6, 5, 4, 3, 2, 1, 0] (.q 24 .done))))))))))))))))))))))))))], lp := [] }
/-- colonnade/num.FormatInt -/
def fi55 : Fi := { keep := [2], sc := [], lp := [] }
/-- colonnade/value.Show -/
def fi56 : Fi := { keep := [1, 2, 3, 4, 8, 11, 21, 26, 36, 50, 61, 67], sc := [], lp := [] }
/-- colonnade/expr.word -/
def fi57 : Fi := { keep := [1, 2, 3, 4, 5, 8, 26, 38, 46, 60], sc := [], lp := [] }
/-- strings.Join -/
def fi58 : Fi := { keep := [4, 5, 7, 8, 10, 12, 13, 15, 22, 29, 39, 40, 41, 42, 49, 63, 64, 65, 66], sc := [], lp := [(12, ([0, 1, 4, 5, 39, 40, 41], [])), (22, ([1, 4, 8, 63, 64, 65], [70, 72]))] }
/-- slices.Compact[[]colonnade/api.Type,colonnade/api.Type] -/
def fi59 : Fi := { keep := [2, 3, 4, 5, 8, 13, 25, 32, 44], sc := [(6, (.q 0 (.q 1 (.q 2 (.q 3 (.q 4 (.q 5 (.q 6 (.q 7 (.q 8 (.q 9 .done))))))))))), (11, (.q 0 (.q 1 (.q 2 (.q 3 (.q 4 (.q 5 (.q 6 (.q 7 (.q 8 (.q 9 .done)))))))))))], lp := [(4, ([0, 2, 3], [])), (9, ([0, 2, 3, 4, 5, 10, 11, 12, 13, 16, 17, 18, 19, 20, 21, 22, 23, 24, 25, 26, 27, 28], []))] }
/-- slices.Clone[[]colonnade/api.Type,colonnade/api.Type] -/
def fi60 : Fi := { keep := [2, 4], sc := [], lp := [] }
/-- colonnade/value.And -/
def fi61 : Fi := { keep := [4, 5, 12], sc := [], lp := [] }
/-- colonnade/value.Or -/
def fi62 : Fi := { keep := [4, 5, 12], sc := [], lp := [] }
/-- colonnade/value.Truth -/
def fi63 : Fi := { keep := [1, 2, 3, 4, 9, 12], sc := [], lp := [] }
/-- colonnade/value.Cast -/
def fi64 : Fi := { keep := [2, 3, 4, 5, 6, 7, 8, 9, 13, 19, 50, 55, 63, 72, 84, 106], sc := [(5, (.q 0 (.q 1 (.q 2 (.q 3 (.q 4 (.q 5 (.q 6 (.q 7 (.q 8 (.q 9 (.q 10 (.q 11 (.q 12 (.q 13 (.q 14 (.q 15 (.q 16 (.q 17 (.q 18 (.q 19 (.q 20 (.q 21 (.q 23 (.q 24 (.one 22 [21, 20, 19, 18, 17, 16, 15, 14, 13, 12, 11, 10, 9, 8, 7, 6, 5, 4, 3, 2, 1, 0] (.one 25 [24, 23] (.q 26 (.q 27 (.q 28 (.q 29 .done))))))))))))))))))))))))))))))), (17, (.q 0 (.q 1 (.q 2 (.q 4 (.q 5 (.one 3 [2] (.one 6 [5, 4, 1, 0] (.q 7 (.q 8 (.q 9 (.q 10 (.q 11 .done)))))))))))))], lp := [] }
/-- colonnade/value.of -/
def fi65 : Fi := { keep := [8], sc := [], lp := [] }
/-- colonnade/value.Test -/
def fi66 : Fi := { keep := [4, 5, 6, 7, 8, 9, 16, 23, 47], sc := [], lp := [] }
/-- colonnade/value.OfText -/
def fi67 : Fi := { keep := [2], sc := [], lp := [] }
/-- colonnade/value.OfInt -/
def fi68 : Fi := { keep := [2], sc := [], lp := [] }
/-- colonnade/num.Add -/
def fi69 : Fi := { keep := [4, 5, 6, 15], sc := [], lp := [] }
/-- colonnade/num.Sub -/
def fi70 : Fi := { keep := [4, 5, 6, 15], sc := [], lp := [] }
/-- colonnade/num.Mul -/
def fi71 : Fi := { keep := [4, 5], sc := [], lp := [] }
/-- colonnade/num.Div -/
def fi72 : Fi := { keep := [4, 5, 6, 9], sc := [], lp := [] }
/-- colonnade/num.Rem -/
def fi73 : Fi := { keep := [4, 5, 6, 7, 9], sc := [], lp := [] }
/-- colonnade/num.Neg -/
def fi74 : Fi := { keep := [2, 3], sc := [], lp := [] }
/-- slices.IndexFunc[[]colonnade/api.Expr,colonnade/api.Expr] -/
def fi75 : Fi := { keep := [4, 5, 7, 8, 9, 16], sc := [], lp := [(2, ([0, 1, 4, 7, 8], [16]))] }
/-- colonnade/value.family -/
def fi76 : Fi := { keep := [2, 4], sc := [], lp := [] }
/-- strconv.FormatInt -/
def fi77 : Fi := { keep := [4], sc := [], lp := [] }
/-- strings.ReplaceAll -/
def fi78 : Fi := { keep := [6], sc := [], lp := [] }
/-- colonnade/num.FormatDec -/
def fi79 : Fi := { keep := [4, 5, 6, 7, 10, 22, 37], sc := [(6, (.q 0 (.q 1 (.q 2 (.q 3 (.q 4 (.q 5 (.q 6 (.q 7 (.q 8 (.q 9 (.q 10 (.q 11 (.q 12 (.q 13 (.q 14 .done))))))))))))))))], lp := [] }
/-- colonnade/num.FormatDay -/
def fi80 : Fi := { keep := [2, 3, 4, 5, 6, 7, 16], sc := [], lp := [] }
/-- (*strings.Builder).Grow -/
def fi81 : Fi := { keep := [7, 21], sc := [(3, (.q 0 (.q 1 (.q 2 (.q 3 (.q 4 (.q 5 (.q 6 (.q 7 (.q 8 (.q 9 (.q 10 (.q 11 (.q 12 .done))))))))))))))], lp := [] }
/-- (*strings.Builder).WriteString -/
def fi82 : Fi := { keep := [4, 5], sc := [], lp := [] }
/-- (*strings.Builder).String -/
def fi83 : Fi := { keep := [2], sc := [(1, (.q 0 (.q 1 (.q 2 (.q 3 (.q 4 (.q 5 (.q 6 (.q 7 (.q 8 (.q 9 (.q 10 (.q 11 .done)))))))))))))], lp := [] }
/-- colonnade/value.texted -/
def fi84 : Fi := { keep := [1, 2, 3, 4, 10, 15], sc := [], lp := [] }
/-- colonnade/value.read -/
def fi85 : Fi := { keep := [3, 4, 5, 6, 7, 8, 9, 10, 12, 13, 25, 26, 33, 42, 51, 59], sc := [], lp := [] }
/-- colonnade/num.Scale -/
def fi86 : Fi := { keep := [6, 7, 8, 10, 11, 12, 14, 15, 16, 25, 29, 52, 67, 75], sc := [(12, (.q 0 (.q 1 (.q 2 (.q 3 (.q 4 (.q 5 (.q 6 (.q 7 .done)))))))))], lp := [] }
/-- colonnade/value.places -/
def fi87 : Fi := { keep := [1, 2, 6], sc := [], lp := [] }
/-- colonnade/value.held -/
def fi88 : Fi := { keep := [2, 3, 4, 5, 8, 9, 16], sc := [(6, (.q 0 (.q 2 (.one 1 [0] (.one 3 [2] (.q 4 (.q 5 .done))))))), (7, (.q 0 (.q 1 (.q 3 (.q 4 (.one 2 [1, 0] (.one 5 [4, 3] (.one 6 [] (.q 7 .done)))))))))], lp := [] }
/-- colonnade/num.Narrow -/
def fi89 : Fi := { keep := [1, 2, 3, 10], sc := [], lp := [] }
/-- colonnade/num.WideMul -/
def fi90 : Fi := { keep := [4, 5, 6, 7, 8, 9, 10, 55, 62], sc := [], lp := [] }
/-- internal/strconv.FormatInt -/
def fi91 : Fi := { keep := [4, 5, 6, 7, 9, 11, 17, 23, 34], sc := [], lp := [] }
/-- strings.Replace -/
def fi92 : Fi := { keep := [3, 8, 9, 10, 11, 12, 14, 15, 22, 28, 36, 51, 52, 53, 54, 77, 78, 79], sc := [], lp := [(13, ([0, 1, 2, 8, 10, 11, 52, 53], [60, 66, 68])), (21, ([0, 2, 8, 10, 11, 77, 78], [84, 94, 96]))] }
/-- colonnade/num.scale -/
def fi93 : Fi := { keep := [2], sc := [], lp := [] }
/-- strings.CutPrefix -/
def fi94 : Fi := { keep := [4, 5], sc := [], lp := [] }
/-- colonnade/num.pad -/
def fi95 : Fi := { keep := [4], sc := [], lp := [] }
/-- colonnade/num.Civil -/
def fi96 : Fi := { keep := [0, 2, 3, 4, 5, 6, 7, 8, 14, 24, 31, 42], sc := [], lp := [(5, ([0, 2, 3, 4, 5, 6], [22])), (7, ([0, 2, 3, 4, 5, 6], [29])), (11, ([2, 3, 4, 5, 6, 7, 8], [41, 48]))] }
/-- strconv.Itoa -/
def fi97 : Fi := { keep := [2], sc := [], lp := [] }
/-- (*strings.Builder).copyCheck -/
def fi98 : Fi := { keep := [6, 19], sc := [], lp := [] }
/-- (*strings.Builder).grow -/
def fi99 : Fi := { keep := [4], sc := [(0, (.q 0 (.q 1 (.q 2 (.q 3 (.q 4 (.q 5 (.q 6 (.q 7 (.q 9 (.q 10 (.q 11 (.q 12 (.q 13 (.one 8 [7, 6, 5, 4, 3, 2, 1, 0] (.q 14 (.q 15 .done)))))))))))))))))], lp := [] }
/-- colonnade/value.capitals -/
def fi100 : Fi := { keep := [2], sc := [], lp := [] }
/-- colonnade/num.ParseInt -/
def fi101 : Fi := { keep := [2, 3, 4, 5, 9, 16], sc := [], lp := [] }
/-- colonnade/num.ParseDec -/
def fi102 : Fi := { keep := [2, 3, 4, 5, 6, 7, 8, 9, 17, 29, 46, 49], sc := [], lp := [] }
/-- colonnade/num.ParseDay -/
def fi103 : Fi := { keep := [2, 3, 4, 6, 8, 34], sc := [(1, (.q 0 (.q 1 (.q 2 (.q 3 (.q 4 (.q 5 (.q 6 (.q 7 (.q 8 (.q 9 (.q 10 (.q 11 (.q 12 (.q 13 (.q 14 (.q 15 (.q 16 (.q 17 (.q 18 (.q 19 (.q 20 (.q 21 (.one 22 [21, 20, 19, 18, 17, 16, 15, 14, 13, 12, 11, 10, 9, 8, 7, 6, 5, 4, 3, 2, 1, 0] (.q 23 (.q 24 .done))))))))))))))))))))))))))], lp := [] }
/-- colonnade/num.Pow10 -/
def fi104 : Fi := { keep := [2, 3, 4, 7, 8, 9, 10], sc := [], lp := [(5, ([2, 3, 4, 8, 9], []))] }
/-- colonnade/value.three[string] -/
def fi105 : Fi := { keep := [4, 5, 9], sc := [], lp := [] }
/-- colonnade/num.WideCmp -/
def fi106 : Fi := { keep := [2, 3, 4, 5, 9], sc := [], lp := [] }
/-- colonnade/value.wide -/
def fi107 : Fi := { keep := [2, 4, 5], sc := [], lp := [] }
/-- colonnade/value.three[int64] -/
def fi108 : Fi := { keep := [4, 5, 9], sc := [], lp := [] }
/-- internal/strconv.small -/
def fi109 : Fi := { keep := [2, 4], sc := [], lp := [] }
/-- internal/strconv.numDigits -/
def fi110 : Fi := { keep := [2, 3], sc := [], lp := [] }
/-- internal/strconv.formatBase10 -/
def fi111 : Fi := { keep := [1, 4, 5, 6, 7, 8, 9, 10, 11, 12, 13, 14, 15, 16, 20, 99, 139, 161], sc := [(7, (.q 0 (.q 1 (.q 2 (.q 3 (.q 4 (.q 5 (.q 6 (.q 7 (.q 8 (.q 9 (.q 10 (.q 11 (.one 12 [11, 8, 7, 6, 2, 1, 0] (.q 13 (.one 14 [13, 10, 9, 5, 4, 3] .done)))))))))))))))), (8, (.q 0 (.q 1 (.q 2 (.q 3 (.q 4 (.q 5 (.q 6 (.q 7 (.q 8 (.q 9 (.q 10 (.q 11 (.one 12 [11, 8, 7, 6, 2, 1, 0] (.q 13 (.one 14 [13, 10, 9, 5, 4, 3] .done)))))))))))))))), (9, (.q 0 (.q 1 (.q 2 (.q 3 (.q 4 (.q 5 (.q 6 (.q 7 (.q 8 (.q 9 (.q 10 (.q 11 (.one 12 [11, 8, 7, 6, 2, 1, 0] (.q 13 (.one 14 [13, 10, 9, 5, 4, 3] .done)))))))))))))))), (10, (.q 0 (.q 1 (.q 2 (.q 3 (.q 4 (.q 5 (.q 6 (.q 7 (.q 8 (.q 9 (.q 10 (.q 11 (.one 12 [11, 8, 7, 6, 2, 1, 0] (.q 13 (.one 14 [13, 10, 9, 5, 4, 3] .done)))))))))))))))), (17, (.q 0 (.q 1 (.q 2 (.q 3 (.q 4 (.q 5 (.q 6 (.q 7 (.q 8 (.q 9 (.q 10 (.q 11 (.one 12 [11, 8, 7, 6, 2, 1, 0] (.q 13 (.one 14 [13, 10, 9, 5, 4, 3] .done)))))))))))))))), (18, (.q 0 (.q 1 (.q 2 (.q 3 (.q 4 (.q 5 (.q 6 (.q 7 (.q 8 (.q 9 (.q 10 (.q 11 (.one 12 [11, 8, 7, 6, 2, 1, 0] (.q 13 (.one 14 [13, 10, 9, 5, 4, 3] .done)))))))))))))))), (23, (.q 0 (.q 1 (.q 2 (.q 3 (.q 4 (.q 5 (.q 6 (.q 7 (.q 8 (.q 9 (.q 10 (.q 11 (.one 12 [11, 8, 7, 6, 2, 1, 0] (.q 13 (.one 14 [13, 10, 9, 5, 4, 3] .done))))))))))))))))], lp := [(1, ([0, 1, 4], []))] }
/-- internal/strconv.formatBits -/
def fi112 : Fi := { keep := [1, 10, 11, 12, 13, 14, 15, 16, 17, 18, 28, 30, 34, 46, 68, 89, 94], sc := [], lp := [(11, ([0, 1, 3, 4, 10, 11, 12, 13, 14, 15, 16], [])), (18, ([0, 1, 3, 4, 10, 11, 12, 13, 17], []))] }
/-- strings.Count -/
def fi113 : Fi := { keep := [0, 4, 5, 6, 9, 15, 24], sc := [], lp := [(6, ([0, 1, 4, 5], [22]))] }
/-- strings.Index -/
def fi114 : Fi := { keep := [4], sc := [], lp := [] }
/-- unicode/utf8.DecodeRuneInString -/
def fi115 : Fi := { keep := [2, 3, 10], sc := [], lp := [] }
/-- internal/stringslite.CutPrefix -/
def fi116 : Fi := { keep := [4, 5, 9], sc := [], lp := [] }
/-- strings.Repeat -/
def fi117 : Fi := { keep := [4, 5, 6, 7, 8, 9, 10, 11, 12, 14, 18, 34, 40, 42, 43, 49, 58, 67, 76, 85, 96, 104, 113], sc := [], lp := [(38, ([4, 7, 8, 9], [111, 115, 117, 120, 123]))] }
/-- colonnade/num.years -/
def fi118 : Fi := { keep := [2, 3], sc := [], lp := [] }
/-- colonnade/num.month -/
def fi119 : Fi := { keep := [4, 5, 11], sc := [], lp := [] }
/-- internal/strconv.Itoa -/
def fi120 : Fi := { keep := [2], sc := [], lp := [] }
/-- strings.Map -/
def fi123 : Fi := { keep := [1, 4, 5, 6, 7, 8, 9, 11, 12, 14, 15, 16, 28, 30, 44, 56, 65, 68, 69, 70, 76, 78], sc := [], lp := [(3, ([0, 1, 4, 5, 14], [21, 35, 46, 50, 54, 58])), (20, ([0, 4, 5, 68], [74, 81, 83]))] }
/-- colonnade/value.capitals$1 -/
def fi124 : Fi := { keep := [2, 8], sc := [], lp := [] }
/-- colonnade/num.digits -/
def fi125 : Fi := { keep := [2], sc := [], lp := [] }
/-- strings.TrimPrefix -/
def fi126 : Fi := { keep := [4], sc := [], lp := [] }
/-- strconv.ParseInt -/
def fi127 : Fi := { keep := [6, 7, 8, 17], sc := [], lp := [] }
/-- strings.Cut -/
def fi128 : Fi := { keep := [4, 5, 6], sc := [], lp := [] }
/-- strconv.Atoi -/
def fi129 : Fi := { keep := [2, 3, 4, 5, 12], sc := [], lp := [] }
/-- colonnade/num.Day -/
def fi130 : Fi := { keep := [6, 7, 8, 9, 34, 43], sc := [], lp := [(5, ([0, 1, 6, 7, 8, 9], [49]))] }
/-- internal/strconv.log10Pow2 -/
def fi131 : Fi := { keep := [2], sc := [], lp := [] }
/-- math/bits.Len64 -/
def fi132 : Fi := { keep := [0, 2, 4, 8, 14], sc := [], lp := [] }
/-- internal/strconv.bool2[int] -/
def fi133 : Fi := { keep := [2, 3], sc := [], lp := [] }
/-- internal/strconv.isPowerOfTwo -/
def fi134 : Fi := { keep := [2], sc := [], lp := [] }
/-- math/bits.TrailingZeros -/
def fi135 : Fi := { keep := [2], sc := [], lp := [] }
/-- unicode/utf8.RuneCountInString -/
def fi136 : Fi := { keep := [2, 4, 6], sc := [], lp := [(2, ([2, 4], []))] }
/-- internal/stringslite.Index -/
def fi138 : Fi := { keep := [4, 5, 6, 7, 8, 9, 10, 11, 12, 13, 16, 24, 31, 36, 59, 64, 73, 93, 107, 114, 132, 139], sc := [], lp := [(15, ([0, 1, 4, 5, 6, 7, 8, 9, 10], [71, 105, 112, 137]))] }
/-- unicode/utf8.decodeRuneInStringSlow -/
def fi139 : Fi := { keep := [2, 3, 4, 5, 6, 7, 8, 9, 10, 11, 12, 16, 23, 45, 57, 59, 75, 77, 98], sc := [], lp := [] }
/-- internal/stringslite.HasPrefix -/
def fi140 : Fi := { keep := [4], sc := [], lp := [] }
/-- math/bits.Mul -/
def fi141 : Fi := { keep := [4, 5, 6, 7, 8, 9], sc := [], lp := [] }
/-- strings.HasPrefix -/
def fi142 : Fi := { keep := [4], sc := [], lp := [] }
/-- (*strings.Builder).Len -/
def fi143 : Fi := { keep := [2], sc := [], lp := [] }
/-- colonnade/num.leap -/
def fi144 : Fi := { keep := [2, 15], sc := [], lp := [] }
/-- unicode/utf8.RuneLen -/
def fi145 : Fi := { keep := [2, 3, 6, 9, 12, 19, 22], sc := [], lp := [] }
/-- (*strings.Builder).WriteRune -/
def fi146 : Fi := { keep := [4, 5, 6], sc := [], lp := [] }
/-- (*strings.Builder).Cap -/
def fi147 : Fi := { keep := [2], sc := [], lp := [] }
/-- (*strings.Builder).WriteByte -/
def fi148 : Fi := { keep := [4], sc := [], lp := [] }
/-- strings.Trim -/
def fi149 : Fi := { keep := [4, 5, 6, 12, 21, 34], sc := [(4, (.q 0 (.q 1 (.q 2 (.q 4 (.q 5 (.one 3 [2, 1, 0] (.one 6 [5, 4] (.q 7 .done)))))))))], lp := [] }
/-- internal/stringslite.TrimPrefix -/
def fi150 : Fi := { keep := [4, 7], sc := [], lp := [] }
/-- internal/strconv.ParseInt -/
def fi151 : Fi := { keep := [0, 2, 6, 7, 8, 9, 10, 11, 13, 16, 17, 21, 38, 41, 52, 62, 69], sc := [], lp := [] }
/-- strconv.toError -/
def fi152 : Fi := { keep := [10, 11, 12, 19, 26, 34], sc := [], lp := [] }
/-- internal/stringslite.Cut -/
def fi153 : Fi := { keep := [4, 5, 6, 7, 12], sc := [(3, (.q 0 (.q 1 (.q 2 (.q 3 (.q 4 (.q 5 (.q 6 (.q 7 (.q 8 (.q 9 (.q 10 (.q 11 .done)))))))))))))], lp := [] }
/-- internal/strconv.Atoi -/
def fi154 : Fi := { keep := [0, 2, 3, 4, 5, 6, 8, 9, 10, 30, 39, 44, 47, 48, 49, 50, 56, 66], sc := [], lp := [(10, ([0, 2, 3, 5, 6, 47, 48, 49], []))] }
/-- math/bits.TrailingZeros32 -/
def fi155 : Fi := { keep := [2, 4], sc := [], lp := [] }
/-- math/bits.TrailingZeros64 -/
def fi156 : Fi := { keep := [2, 4], sc := [], lp := [] }
/-- internal/stringslite.IndexByte -/
def fi157 : Fi := { keep := [4], sc := [], lp := [] }
/-- internal/bytealg.Cutover -/
def fi159 : Fi := { keep := [2], sc := [], lp := [] }
/-- internal/bytealg.IndexRabinKarp[string] -/
def fi160 : Fi := { keep := [4, 5, 6, 7, 8, 9, 10, 20, 39, 44, 77], sc := [], lp := [(5, ([0, 1, 4, 5, 6, 7, 8, 9], [])), (11, ([0, 1, 4, 5, 6, 7, 8, 10], []))] }
/-- math/bits.Mul32 -/
def fi161 : Fi := { keep := [4, 5, 6], sc := [], lp := [] }
/-- math/bits.Mul64 -/
def fi162 : Fi := { keep := [4, 5, 6, 7, 8, 9, 10, 11, 12, 13], sc := [], lp := [] }
/-- unicode/utf8.AppendRune -/
def fi163 : Fi := { keep := [4, 7], sc := [], lp := [] }
/-- strings.trimLeftByte -/
def fi164 : Fi := { keep := [0, 4, 13], sc := [], lp := [(1, ([0, 1, 4], []))] }
/-- strings.trimRightByte -/
def fi165 : Fi := { keep := [0, 4, 16], sc := [], lp := [(1, ([0, 1, 4], []))] }
/-- strings.makeASCIISet -/
def fi166 : Fi := { keep := [2, 3, 4, 5, 9, 16], sc := [], lp := [(2, ([0, 2, 3, 4], []))] }
/-- strings.trimLeftASCII -/
def fi167 : Fi := { keep := [0, 4, 7, 12], sc := [], lp := [(1, ([0, 1, 4], [11]))] }
/-- strings.trimRightASCII -/
def fi168 : Fi := { keep := [0, 4, 7, 15], sc := [], lp := [(1, ([0, 1, 4], [14]))] }
/-- strings.trimLeftUnicode -/
def fi169 : Fi := { keep := [0, 4, 5, 6, 9, 18], sc := [], lp := [(1, ([0, 1, 4], [12, 17]))] }
/-- strings.trimRightUnicode -/
def fi170 : Fi := { keep := [0, 4, 5, 6, 9, 17, 26], sc := [], lp := [(1, ([0, 1, 4], [20, 25]))] }
/-- internal/strconv.ParseUint -/
def fi171 : Fi := { keep := [0, 1, 2, 6, 7, 8, 9, 10, 11, 12, 13, 15, 16, 17, 19, 25, 32, 37, 40, 52, 64, 77, 83, 85, 90, 92, 99, 100, 101, 102, 106, 112, 121, 137, 141, 159, 169], sc := [], lp := [(36, ([1, 6, 7, 8, 9, 10, 11, 12, 13, 99, 100, 101], [123, 127, 131]))] }
/-- strconv.syntaxError -/
def fi172 : Fi := { keep := [4], sc := [(1, (.q 0 (.q 1 (.q 3 (.one 2 [1] (.q 4 (.one 5 [4, 3, 0] (.q 6 .done))))))))], lp := [] }
/-- strconv.rangeError -/
def fi173 : Fi := { keep := [4], sc := [(1, (.q 0 (.q 1 (.q 3 (.one 2 [1] (.q 4 (.one 5 [4, 3, 0] (.q 6 .done))))))))], lp := [] }
/-- strconv.baseError -/
def fi174 : Fi := { keep := [6], sc := [], lp := [] }
/-- strconv.bitSizeError -/
def fi175 : Fi := { keep := [6], sc := [], lp := [] }
/-- internal/bytealg.hashStr[string] -/
def fi177 : Fi := { keep := [2, 3, 4, 5, 6, 7, 8, 12, 25, 30], sc := [], lp := [(3, ([0, 2, 3, 4, 5], [])), (8, ([2, 3, 4, 6, 7, 8], []))] }
/-- unicode/utf8.appendRuneNonASCII -/
def fi178 : Fi := { keep := [4, 5, 11, 25, 50], sc := [], lp := [] }
/-- (*strings.asciiSet).contains -/
def fi179 : Fi := { keep := [4], sc := [], lp := [] }
/-- strings.ContainsRune -/
def fi180 : Fi := { keep := [4], sc := [], lp := [] }
/-- unicode/utf8.DecodeLastRuneInString -/
def fi181 : Fi := { keep := [2, 3, 4, 5, 6, 10, 18, 27, 33, 35, 48], sc := [], lp := [(10, ([0, 2, 3, 4, 5, 6], [33]))] }
/-- internal/strconv.lower -/
def fi182 : Fi := { keep := [2], sc := [], lp := [] }
/-- internal/strconv.underscoreOK -/
def fi183 : Fi := { keep := [0, 2, 3, 4, 5, 18, 46, 54, 83, 87, 89, 91], sc := [], lp := [(10, ([0, 2, 3, 4, 5], [73, 80]))] }
/-- internal/stringslite.Clone -/
def fi184 : Fi := { keep := [2, 3, 6], sc := [], lp := [] }
/-- errors.New -/
def fi185 : Fi := { keep := [2], sc := [], lp := [] }
/-- strings.IndexRune -/
def fi186 : Fi := { keep := [4, 5, 6, 7, 8, 9, 10, 11, 12, 13, 14, 15, 16, 26, 33, 43, 51, 64, 98, 108, 124, 139, 143, 156, 160, 171, 175, 176, 177, 181, 183], sc := [(6, (.q 0 (.q 1 (.q 2 (.q 3 (.q 4 (.q 5 (.q 6 .done)))))))), (7, (.q 0 (.q 1 (.q 2 (.q 3 (.q 4 (.q 5 (.q 6 (.one 7 [6, 5, 4, 3, 2, 1, 0] (.q 8 .done)))))))))), (14, (.q 0 (.q 1 (.q 2 (.q 3 (.q 4 (.q 5 (.q 6 (.q 7 (.q 8 (.q 9 (.q 10 .done)))))))))))), (31, (.q 0 (.q 1 (.q 2 (.q 3 (.q 4 (.q 5 (.q 6 (.q 7 (.q 8 (.q 9 (.q 10 .done))))))))))))], lp := [(38, ([4, 175], [])), (5, ([0, 1, 4, 7, 8, 9, 10], [41, 75])), (12, ([0, 1, 4, 7, 8, 9, 10, 11, 12, 23, 24, 25, 26, 27, 28, 29, 30, 31, 32, 33, 34, 35, 36, 37, 38, 39, 40, 41, 42, 43, 44, 45, 46, 47], [])), (25, ([0, 4, 7, 8, 9, 14, 15], [])), (29, ([0, 4, 7, 8, 9, 14, 15, 16, 121, 122, 123, 124, 127, 128, 129, 130, 131, 132, 133, 134, 135, 136, 137, 138, 139], []))] }
/-- unicode/utf8.RuneStart -/
def fi187 : Fi := { keep := [2], sc := [], lp := [] }
/-- strings.IndexByte -/
def fi188 : Fi := { keep := [4], sc := [], lp := [] }
/-- unicode/utf8.ValidRune -/
def fi189 : Fi := { keep := [2, 3, 10], sc := [], lp := [] }
/-- gosem.cut.vars -/
def fi219 : Fi := { keep := [], sc := [], lp := [] }
theorem E_ok : EnvOk Tryz.prog E_0 := envOk_of (by kernel_rfl)
theorem it_ok : ItOk Tryz.prog E_0 := fun _ _ _ h => h.elim
theorem mixed : Tryz.prog.follows .mixedOrders = true := by kernel_rfl
end Go.Proofs.Tryz
