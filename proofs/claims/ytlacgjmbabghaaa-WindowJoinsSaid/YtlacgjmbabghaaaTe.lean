/- A part of the proof: contracts of functions, by a verified generator of conditions; no condition of its own. -/
import Derived.Test.YtlacgjmbabghaaaDm21
import Derived.Test.YtlacgjmbabghaaaProg
import Derived.KernelRfl
namespace Go.Proofs.Try
open Go Go.Dm
set_option maxRecDepth 100000
def te_0 : List (Nat × TI) := [
    (1, { agg := false, ck := [.fn], bytes := 8, td := .other }),
    (2, { agg := false, ck := [.int .i64], bytes := 8, td := .plain }),
    (3, { agg := false, ck := [.int .i64], bytes := 8, td := .plain }),
    (4, { agg := false, ck := [.bool], bytes := 1, td := .plain }),
    (5, { agg := false, ck := [.int .u8], bytes := 1, td := .plain }),
    (6, { agg := false, ck := [.int .u8], bytes := 1, td := .plain }),
    (7, { agg := true, ck := [.int .i64, .int .i64, .bool, .int .u8], bytes := 24, td := .struct [(0, 2), (1, 3), (2, 4), (3, 6)], eq := true }),
    (8, { agg := true, ck := [.int .i64, .int .i64, .bool, .int .u8], bytes := 24, td := .struct [(0, 2), (1, 3), (2, 4), (3, 6)], eq := true }),
    (9, { agg := false, ck := [.str], bytes := 16, td := .plain }),
    (10, { agg := false, ck := [.str], bytes := 16, td := .plain }),
    (11, { agg := false, ck := [.str], bytes := 16, td := .plain }),
    (12, { agg := false, ck := [.int .u64], bytes := 8, td := .plain }),
    (13, { agg := true, ck := [.str, .int .u64], bytes := 24, td := .struct [(0, 9), (1, 12)] }),
    (14, { agg := true, ck := [.str, .int .u64], bytes := 24, td := .struct [(0, 9), (1, 12)] }),
    (15, { agg := false, ck := [.ptr], bytes := 8, td := .ptr 125 }),
    (16, { agg := false, ck := [.ptr], bytes := 8, td := .ptr 128 }),
    (17, { agg := false, ck := [.ptr], bytes := 8, td := .ptr 136 }),
    (18, { agg := true, ck := [.ptr], bytes := 8, td := .struct [(0, 17)] }),
    (19, { agg := true, ck := [.ptr], bytes := 8, td := .struct [(0, 17)] }),
    (20, { agg := false, ck := [.iface], bytes := 16, td := .other }),
    (21, { agg := false, ck := [.int .i32], bytes := 4, td := .plain }),
    (22, { agg := true, ck := [.int .i64, .int .i64], bytes := 16, td := .struct [(0, 3), (1, 3)], eq := true }),
    (23, { agg := true, ck := [.int .i64, .int .i64], bytes := 16, td := .struct [(0, 3), (1, 3)], eq := true }),
    (24, { agg := false, ck := [.sl], bytes := 24, td := .slice 37 }),
    (25, { agg := false, ck := [.sl], bytes := 24, td := .slice 34 }),
    (26, { agg := false, ck := [.ptr], bytes := 8, td := .ptr 55 }),
    (27, { agg := false, ck := [.int .i64], bytes := 8, td := .plain }),
    (29, { agg := false, ck := [.fn], bytes := 8, td := .other }),
    (30, { agg := false, ck := [.ptr], bytes := 8, td := .ptr 68 }),
    (32, { agg := false, ck := [.fn], bytes := 8, td := .other }),
    (33, { agg := false, ck := [.fn], bytes := 8, td := .other }),
    (34, { agg := true, ck := [.int .i64, .int .i64], bytes := 16, td := .arr 2 3 }),
    (35, { agg := false, ck := [.fn], bytes := 8, td := .other }),
    (36, { agg := true, ck := [.int .i64, .int .i64, .bool, .int .i64, .str], bytes := 48, td := .struct [(0, 23), (2, 4), (3, 2), (4, 9)], eq := true }),
    (37, { agg := true, ck := [.int .i64, .int .i64, .bool, .int .i64, .str], bytes := 48, td := .struct [(0, 23), (2, 4), (3, 2), (4, 9)], eq := true }),
    (39, { agg := false, ck := [.fn], bytes := 8, td := .other }),
    (40, { agg := false, ck := [.fn], bytes := 8, td := .other }),
    (41, { agg := false, ck := [.int .u64], bytes := 8, td := .plain }),
    (42, { agg := false, ck := [.fn], bytes := 8, td := .other }),
    (43, { agg := false, ck := [.fn], bytes := 8, td := .other }),
    (44, { agg := false, ck := [.sl], bytes := 24, td := .slice 2 }),
    (45, { agg := false, ck := [.fn], bytes := 8, td := .other }),
    (46, { agg := false, ck := [.sl], bytes := 24, td := .slice 3 }),
    (47, { agg := false, ck := [.fn], bytes := 8, td := .other }),
    (48, { agg := false, ck := [.fn], bytes := 8, td := .other }),
    (49, { agg := false, ck := [.fn], bytes := 8, td := .other }),
    (50, { agg := false, ck := [.fn], bytes := 8, td := .other }),
    (51, { agg := false, ck := [.fn], bytes := 8, td := .other }),
    (52, { agg := false, ck := [.fn], bytes := 8, td := .other }),
    (53, { agg := false, ck := [.sl], bytes := 24, td := .slice 56 }),
    (54, { agg := true, ck := [.int .i64, .int .i64, .int .i64, .sl, .int .i64], bytes := 56, td := .struct [(0, 3), (1, 23), (3, 53), (4, 2)] }),
    (55, { agg := true, ck := [.int .i64, .int .i64, .int .i64, .sl, .int .i64], bytes := 56, td := .struct [(0, 3), (1, 23), (3, 53), (4, 2)] }),
    (56, { agg := false, ck := [.sl], bytes := 24, td := .slice 61 }),
    (57, { agg := false, ck := [.int .u64], bytes := 8, td := .plain }),
    (58, { agg := true, ck := [.int .i64, .int .u64], bytes := 16, td := .struct [(0, 2), (1, 57)], eq := true }),
    (59, { agg := true, ck := [.int .i64, .int .u64], bytes := 16, td := .struct [(0, 2), (1, 57)], eq := true }),
    (60, { agg := true, ck := [.int .i64, .int .i64, .int .u64, .int .i64, .int .i64, .bool, .int .i64, .str], bytes := 72, td := .struct [(0, 2), (1, 59), (3, 37)], eq := true }),
    (61, { agg := true, ck := [.int .i64, .int .i64, .int .u64, .int .i64, .int .i64, .bool, .int .i64, .str], bytes := 72, td := .struct [(0, 2), (1, 59), (3, 37)], eq := true }),
    (62, { agg := false, ck := [.fn], bytes := 8, td := .other }),
    (63, { agg := false, ck := [.fn], bytes := 8, td := .other }),
    (64, { agg := false, ck := [.fn], bytes := 8, td := .other }),
    (65, { agg := false, ck := [.fn], bytes := 8, td := .other }),
    (66, { agg := false, ck := [.fn], bytes := 8, td := .other }),
    (67, { agg := true, ck := [.int .i64, .int .i64, .int .i64, .sl], bytes := 48, td := .struct [(0, 3), (1, 23), (3, 24)] }),
    (68, { agg := true, ck := [.int .i64, .int .i64, .int .i64, .sl], bytes := 48, td := .struct [(0, 3), (1, 23), (3, 24)] }),
    (69, { agg := false, ck := [.fn], bytes := 8, td := .other }),
    (70, { agg := false, ck := [.fn], bytes := 8, td := .other }),
    (71, { agg := false, ck := [.fn], bytes := 8, td := .other }),
    (73, { agg := false, ck := [.fn], bytes := 8, td := .other }),
    (74, { agg := false, ck := [.fn], bytes := 8, td := .other }),
    (75, { agg := false, ck := [.int .u32], bytes := 4, td := .plain }),
    (76, { agg := false, ck := [.fn], bytes := 8, td := .other }),
    (77, { agg := false, ck := [.fn], bytes := 8, td := .other }),
    (78, { agg := false, ck := [.fn], bytes := 8, td := .other }),
    (79, { agg := false, ck := [.fn], bytes := 8, td := .other }),
    (80, { agg := false, ck := [.fn], bytes := 8, td := .other }),
    (81, { agg := false, ck := [.fn], bytes := 8, td := .other }),
    (82, { agg := false, ck := [.fn], bytes := 8, td := .other }),
    (83, { agg := false, ck := [.fn], bytes := 8, td := .other }),
    (85, { agg := false, ck := [.fn], bytes := 8, td := .other }),
    (86, { agg := false, ck := [.fn], bytes := 8, td := .other }),
    (87, { agg := false, ck := [.int .i64], bytes := 8, td := .plain }),
    (89, { agg := false, ck := [.fn], bytes := 8, td := .other }),
    (90, { agg := false, ck := [.fn], bytes := 8, td := .other }),
    (91, { agg := false, ck := [.fn], bytes := 8, td := .other }),
    (92, { agg := false, ck := [.fn], bytes := 8, td := .other }),
    (94, { agg := false, ck := [.fn], bytes := 8, td := .other }),
    (95, { agg := false, ck := [.sl], bytes := 24, td := .slice 59 }),
    (96, { agg := false, ck := [.fn], bytes := 8, td := .other }),
    (97, { agg := false, ck := [.fn], bytes := 8, td := .other }),
    (98, { agg := false, ck := [.fn], bytes := 8, td := .other }),
    (99, { agg := false, ck := [.fn], bytes := 8, td := .other }),
    (101, { agg := false, ck := [.fn], bytes := 8, td := .other }),
    (102, { agg := false, ck := [.int .u64], bytes := 8, td := .plain }),
    (103, { agg := false, ck := [.fn], bytes := 8, td := .other }),
    (104, { agg := false, ck := [.fn], bytes := 8, td := .other }),
    (105, { agg := false, ck := [.fn], bytes := 8, td := .other }),
    (106, { agg := false, ck := [.ptr], bytes := 8, td := .ptr 3 }),
    (107, { agg := false, ck := [.fn], bytes := 8, td := .other }),
    (108, { agg := false, ck := [.fn], bytes := 8, td := .other }),
    (109, { agg := false, ck := [.fn], bytes := 8, td := .other }),
    (110, { agg := false, ck := [.fn], bytes := 8, td := .other }),
    (111, { agg := false, ck := [.fn], bytes := 8, td := .other }),
    (112, { agg := false, ck := [.fn], bytes := 8, td := .other }),
    (113, { agg := false, ck := [.fn], bytes := 8, td := .other }),
    (114, { agg := false, ck := [.fn], bytes := 8, td := .other }),
    (115, { agg := false, ck := [.ptr], bytes := 8, td := .ptr 102 }),
    (117, { agg := false, ck := [.fn], bytes := 8, td := .other }),
    (118, { agg := false, ck := [.fn], bytes := 8, td := .other }),
    (119, { agg := false, ck := [.fn], bytes := 8, td := .other }),
    (121, { agg := false, ck := [.fn], bytes := 8, td := .other }),
    (122, { agg := false, ck := [.fn], bytes := 8, td := .other }),
    (123, { agg := false, ck := [.fn], bytes := 8, td := .other }),
    (124, { agg := true, ck := [.ptr, .ptr, .ptr, .str], bytes := 40, td := .struct [(0, 17), (1, 17), (2, 17), (3, 9)] }),
    (125, { agg := true, ck := [.ptr, .ptr, .ptr, .str], bytes := 40, td := .struct [(0, 17), (1, 17), (2, 17), (3, 9)] }),
    (129, { agg := false, ck := [.int .u8], bytes := 1, td := .plain }),
    (130, { agg := false, ck := [.int .u8], bytes := 1, td := .plain }),
    (131, { agg := false, ck := [.fn], bytes := 8, td := .other }),
    (132, { agg := false, ck := [.ptr], bytes := 8, td := .ptr 5 }),
    (133, { agg := false, ck := [.int .i32], bytes := 4, td := .plain }),
    (134, { agg := false, ck := [.int .i32], bytes := 4, td := .plain }),
    (135, { agg := true, ck := [.int .u64, .int .u64, .int .u32, .int .u8, .int .u8, .int .u8, .int .u8, .fn, .ptr, .int .i32, .int .i32], bytes := 48, td := .struct [(0, 12), (1, 12), (2, 75), (3, 129), (4, 5), (5, 5), (6, 130), (7, 131), (8, 132), (9, 133), (10, 134)] }),
    (136, { agg := true, ck := [.int .u64, .int .u64, .int .u32, .int .u8, .int .u8, .int .u8, .int .u8, .fn, .ptr, .int .i32, .int .i32], bytes := 48, td := .struct [(0, 12), (1, 12), (2, 75), (3, 129), (4, 5), (5, 5), (6, 130), (7, 131), (8, 132), (9, 133), (10, 134)] })]
def E_0 : Env := { te := te_0 }
/-- gosem.cut.init -/
def fi2 : Fi := { keep := [], sc := [], lp := [] }
/-- colonnade/colonnadelaw24.WindowTrees -/
def fi3 : Fi := { keep := [5, 8, 9, 10, 11, 12, 14, 15, 16, 17, 18, 19, 47, 49, 50, 51, 52, 53, 102], sc := [], lp := [(8, ([2, 8, 9, 11, 50, 51, 52], [14, 16, 18, 57, 64, 73, 86, 92, 99]))] }
/-- colonnade/colonnadelaw24.WindowJoins -/
def fi4 : Fi := { keep := [10, 11, 12, 14, 15, 16, 17, 18, 19, 20, 21, 22, 28, 29, 30, 31, 58, 121, 123, 127, 128, 138], sc := [(11, (.q 0 (.q 1 (.q 2 (.q 3 (.q 4 (.q 5 (.q 6 (.q 7 (.q 8 (.q 9 (.q 10 (.q 11 (.q 12 (.q 13 (.q 14 (.one 15 [14, 13, 12, 11, 10, 9, 8, 7, 6, 5, 4, 3, 2, 1, 0] (.q 16 .done)))))))))))))))))), (13, (.q 0 (.q 1 (.q 2 (.q 3 (.q 4 (.q 5 (.q 6 (.alt 7 [6, 5, 4, 3, 2, 1, 0] (.q 8 (.q 9 (.q 10 (.one 11 [] (.one 12 [9, 8] (.q 13 .done)))))) (.one 11 [] (.one 7 [6, 5, 4, 3, 2, 1, 0] (.q 8 (.q 9 (.q 10 (.one 12 [9, 8] (.q 13 .done)))))))))))))))), (14, (.q 0 (.q 1 (.q 2 (.q 3 (.q 4 (.q 5 (.q 6 (.q 7 (.alt 8 [7, 6, 5, 4, 3, 2, 1, 0] (.q 9 (.q 10 (.q 11 (.one 12 [] (.one 13 [10, 9] (.q 14 .done)))))) (.one 12 [] (.one 8 [7, 6, 5, 4, 3, 2, 1, 0] (.q 9 (.q 10 (.q 11 (.one 13 [10, 9] (.q 14 .done))))))))))))))))), (15, (.q 0 (.q 1 (.q 2 (.q 3 (.q 4 (.q 5 (.q 6 (.alt 7 [6, 5, 4, 3, 2, 1, 0] (.q 8 (.q 9 (.q 10 (.one 11 [] (.one 12 [9, 8] (.q 13 .done)))))) (.one 11 [] (.one 7 [6, 5, 4, 3, 2, 1, 0] (.q 8 (.q 9 (.q 10 (.one 12 [9, 8] (.q 13 .done))))))))))))))))], lp := [(4, ([0, 2, 3, 4, 10, 11, 12, 28, 29, 30], [37, 38, 39]))] }
/-- colonnade/window.NewTree -/
def fi5 : Fi := { keep := [4, 6, 7, 8, 9, 11, 12, 13, 14, 15, 40, 43, 46, 51, 52, 53, 54, 59, 77, 79, 80, 86], sc := [(14, (.q 0 (.q 1 (.q 3 (.one 2 [1, 0] (.q 4 (.one 5 [4, 3] .done))))))), (24, (.q 0 (.q 1 (.q 2 (.q 3 (.q 4 (.one 5 [4, 3, 2, 1, 0] (.one 6 [] .done)))))))), (26, (.q 0 (.q 1 (.q 2 (.q 3 (.q 4 (.q 5 (.one 6 [5] (.one 7 [4, 3, 2, 1] (.q 8 (.q 9 (.one 10 [9, 8, 0] .done))))))))))))], lp := [(10, ([6, 7, 8, 9, 51, 52, 53], [11, 12, 62, 67, 68])), (18, ([6, 7, 8, 9], [13, 15, 79, 92, 95, 96, 103, 104])), (21, ([6, 7, 8, 9, 13, 75, 76, 77, 78, 79], [15, 92, 95, 96]))] }
/-- colonnade/colonnaderef24.NewTree -/
def fi6 : Fi := { keep := [4, 6, 7, 8, 33, 37, 54, 57], sc := [(6, (.q 0 (.q 1 (.q 2 (.q 3 (.q 4 (.q 5 (.q 6 (.q 7 (.q 8 (.q 9 (.q 10 (.q 11 (.one 12 [11, 10, 9, 8, 7, 6, 5, 4, 3, 2, 1, 0] (.q 13 (.q 14 .done))))))))))))))))], lp := [(4, ([0, 2, 4, 6, 7, 8], [52]))] }
/-- colonnade/colonnadelaw24.begun -/
def fi7 : Fi := { keep := [0, 1, 2, 3, 4, 5, 6, 24], sc := [(2, (.q 0 (.q 3 (.one 1 [] (.one 2 [] (.one 4 [3] (.one 5 [] (.one 6 [] (.one 7 [0] (.q 8 (.q 9 (.q 10 (.q 11 (.q 12 .done)))))))))))))), (7, (.q 0 (.one 1 [] (.q 2 (.q 3 (.q 4 (.q 5 (.q 6 (.q 7 (.q 8 (.q 9 (.one 10 [9, 7, 6, 5, 4, 3, 2, 0] (.q 11 (.q 12 (.q 13 (.q 14 (.q 15 (.q 16 (.q 17 (.q 18 (.one 19 [18, 17, 16, 15, 14, 13, 12, 11, 8] (.q 20 (.q 21 (.q 22 .done))))))))))))))))))))))))], lp := [] }
/-- (*colonnade/window.Tree).Looked -/
def fi8 : Fi := { keep := [2, 4], sc := [], lp := [] }
/-- (*colonnade/window.Tree).Over -/
def fi9 : Fi := { keep := [1, 2, 3, 6, 7, 8, 9, 10, 12, 32, 37, 42, 56], sc := [(17, (.q 0 (.q 1 (.q 2 (.q 3 (.q 4 (.q 5 (.q 6 (.q 7 (.q 8 (.one 9 [8, 7, 6, 5, 4, 3, 2, 1, 0] (.q 10 (.q 11 (.one 12 [11, 10] (.q 13 .done)))))))))))))))], lp := [(8, ([1, 2, 3, 6, 7, 8, 9, 10], [46, 60]))] }
/-- (*colonnade/colonnaderef24.Tree).Over -/
def fi10 : Fi := { keep := [6, 7, 8, 9, 10, 11, 33, 38, 49, 74], sc := [(9, (.q 0 (.q 1 (.q 2 (.q 3 (.q 4 (.q 5 (.q 6 (.q 7 (.q 8 (.alt 9 [8, 7, 6, 5, 4, 3, 2, 1, 0] (.q 10 (.q 11 (.q 12 (.one 13 [] (.one 14 [11, 10] (.q 15 .done)))))) (.one 13 [] (.one 9 [8, 7, 6, 5, 4, 3, 2, 1, 0] (.q 10 (.q 11 (.q 12 (.one 14 [11, 10] (.q 15 .done))))))))))))))))))], lp := [(5, ([0, 2, 6, 7, 8, 9], [58, 59]))] }
/-- math/bits.Len -/
def fi11 : Fi := { keep := [2], sc := [], lp := [] }
/-- (*colonnade/window.Tree).Len -/
def fi12 : Fi := { keep := [2, 4], sc := [], lp := [] }
/-- colonnade/colonnaderef02.OfInt -/
def fi13 : Fi := { keep := [2], sc := [], lp := [] }
/-- slices.Sort[[]int,int] -/
def fi14 : Fi := { keep := [2], sc := [], lp := [] }
/-- colonnade/value.CheckType -/
def fi15 : Fi := { keep := [1, 2, 26], sc := [], lp := [] }
/-- slices.ContainsFunc[[]colonnade/api.Value,colonnade/api.Value] -/
def fi16 : Fi := { keep := [4], sc := [], lp := [] }
/-- colonnade/window.NewTree$1 -/
def fi17 : Fi := { keep := [2, 3], sc := [], lp := [] }
/-- colonnade/value.Check -/
def fi18 : Fi := { keep := [1, 2, 3, 4, 5, 10, 18, 27, 41, 50, 64, 77], sc := [], lp := [] }
/-- colonnade/num.WideOf -/
def fi19 : Fi := { keep := [2], sc := [], lp := [] }
/-- slices.Chunk[[]colonnade/window.sum,colonnade/window.sum] -/
def fi20 : Fi := { keep := [2, 3, 4, 6], sc := [], lp := [] }
/-- (*colonnade/window.Tree).join -/
def fi21 : Fi := { keep := [4, 5, 6, 7, 8, 9, 14, 57], sc := [(5, (.q 0 (.q 1 (.q 2 (.q 3 (.q 4 (.q 5 (.q 6 (.q 7 (.q 8 (.q 11 (.q 12 (.alt 9 [8, 7, 6, 5] (.alt 10 [] (.q 13 (.one 14 [] (.one 15 [13, 12, 11, 4, 3, 2, 1, 0] .done))) (.one 14 [] (.one 10 [] (.q 13 (.one 15 [13, 12, 11, 4, 3, 2, 1, 0] .done))))) (.one 14 [] (.one 9 [8, 7, 6, 5] (.one 10 [] (.q 13 (.one 15 [13, 12, 11, 4, 3, 2, 1, 0] .done))))))))))))))))))], lp := [] }
/-- colonnade/colonnaderef02.CheckType -/
def fi22 : Fi := { keep := [1, 2, 30], sc := [], lp := [] }
/-- colonnade/colonnaderef02.Check -/
def fi23 : Fi := { keep := [1, 2, 3, 4, 5, 10, 15, 26, 38, 42, 53, 60, 71], sc := [], lp := [] }
/-- colonnade/colonnaderef02.None -/
def fi24 : Fi := { keep := [1, 2], sc := [], lp := [] }
/-- (*colonnade/window.Tree).none -/
def fi25 : Fi := { keep := [2], sc := [], lp := [] }
/-- (*colonnade/window.Tree).Over$1 -/
def fi26 : Fi := { keep := [], sc := [(1, (.q 0 (.q 1 (.q 2 (.q 3 (.q 4 (.q 5 (.q 6 (.q 7 (.q 8 (.q 9 (.q 10 (.q 11 (.one 12 [11, 10, 9, 8, 7, 6, 5, 4, 3, 2, 1, 0] (.one 13 [] .done)))))))))))))))], lp := [] }
/-- colonnade/window.out -/
def fi27 : Fi := { keep := [4, 5, 6, 7, 8, 9, 10, 11, 17, 23, 43], sc := [], lp := [] }
/-- colonnade/colonnaderef19.Over -/
def fi28 : Fi := { keep := [5, 6, 7], sc := [], lp := [] }
/-- math/bits.Len32 -/
def fi29 : Fi := { keep := [0, 2, 4, 8], sc := [], lp := [] }
/-- math/bits.Len64 -/
def fi30 : Fi := { keep := [0, 2, 4, 8, 14], sc := [], lp := [] }
/-- slices.pdqsortOrdered[int] -/
def fi31 : Fi := { keep := [1, 2, 3, 8, 9, 10, 11, 12, 13, 14, 15, 16, 17, 18, 23, 29, 35, 50, 68, 72, 87, 113], sc := [(17, (.q 0 (.q 1 (.q 2 (.q 3 (.q 4 (.q 5 (.q 6 (.q 7 (.q 8 (.q 9 (.q 10 (.q 11 (.one 12 [11, 10, 9, 8, 7, 6, 5, 4, 3, 2, 1, 0] (.q 13 (.q 14 .done))))))))))))))))], lp := [(2, ([0, 1, 2, 3, 8, 9], [27, 33, 39, 46, 54, 72, 85, 92, 99, 121, 132]))] }
/-- colonnade/value.scaled -/
def fi32 : Fi := { keep := [2], sc := [], lp := [] }
/-- slices.IndexFunc[[]colonnade/api.Value,colonnade/api.Value] -/
def fi33 : Fi := { keep := [4, 5, 7, 8, 9, 16], sc := [], lp := [(2, ([0, 1, 4, 7, 8], [16]))] }
/-- colonnade/num.Fits -/
def fi34 : Fi := { keep := [2], sc := [], lp := [] }
/-- slices.Chunk[[]colonnade/window.sum,colonnade/window.sum]$1 -/
def fi35 : Fi := { keep := [4, 5, 9, 30], sc := [(3, (.q 0 (.q 1 (.q 2 (.q 3 (.q 4 (.q 5 (.q 6 .done))))))))], lp := [(1, ([0, 1, 2, 4], [29]))] }
/-- colonnade/num.WideAdd -/
def fi36 : Fi := { keep := [2, 3, 5, 6, 7, 8, 9, 28], sc := [], lp := [(3, ([2, 3, 6, 7, 8], [5]))] }
/-- colonnade/value.Order -/
def fi37 : Fi := { keep := [2, 3, 4, 5, 12, 15, 18], sc := [(9, (.q 0 (.q 1 (.q 2 (.q 4 (.q 5 (.q 6 (.one 3 [2, 1, 0] (.one 7 [6, 5, 4] (.one 8 [] (.q 9 .done)))))))))))], lp := [] }
/-- colonnade/colonnaderef01.Fits -/
def fi38 : Fi := { keep := [2], sc := [], lp := [] }
/-- colonnade/value.OfInt -/
def fi39 : Fi := { keep := [2], sc := [], lp := [] }
/-- colonnade/value.None -/
def fi40 : Fi := { keep := [1, 2], sc := [], lp := [] }
/-- colonnade/num.Narrow -/
def fi41 : Fi := { keep := [1, 2, 3, 10], sc := [], lp := [] }
/-- colonnade/colonnaderef19.over -/
def fi42 : Fi := { keep := [5, 6, 7, 8, 9, 10, 11, 12, 14, 20, 24, 40, 62], sc := [(12, (.q 0 (.q 1 (.q 2 (.q 3 (.q 4 (.one 5 [4, 3, 2, 1, 0] (.q 6 .done))))))))], lp := [(10, ([0, 1, 6, 7, 10, 11], [48]))] }
/-- slices.insertionSortOrdered[int] -/
def fi43 : Fi := { keep := [6, 7, 12, 30], sc := [(4, (.q 0 (.q 1 (.q 2 (.q 3 (.q 4 (.q 5 (.q 6 (.q 7 (.q 8 (.q 9 (.q 10 (.q 11 (.q 12 (.one 13 [12, 11, 10, 9, 8, 7, 6, 5, 4, 3, 2, 1, 0] (.q 14 .done)))))))))))))))), (6, (.q 0 (.q 1 (.q 2 (.q 3 (.q 4 (.q 5 (.q 6 (.q 7 (.q 8 (.q 9 (.q 10 (.q 11 (.q 12 (.q 13 (.q 14 (.one 15 [14, 13, 12, 11, 10, 9, 8, 7, 6, 5, 1, 0] (.q 16 (.one 17 [16, 4, 3, 2] .done)))))))))))))))))))], lp := [(1, ([0, 1, 2, 6], [29])), (4, ([0, 1, 2, 6, 7, 10, 11, 12, 15], [29]))] }
/-- slices.heapSortOrdered[int] -/
def fi44 : Fi := { keep := [6, 7, 8, 9, 10, 19, 30], sc := [(10, (.q 0 (.q 1 (.q 2 (.q 3 (.q 4 (.q 5 (.q 6 (.q 7 (.q 8 (.q 9 (.q 10 (.q 11 (.q 12 (.q 13 (.q 14 (.q 15 (.q 16 (.one 17 [16, 15, 14, 13, 12, 11, 10, 9, 8, 7, 6, 1, 0] (.q 18 (.one 19 [18, 5, 4, 3, 2] .done)))))))))))))))))))))], lp := [(4, ([0, 6, 7, 8, 9], [26])), (8, ([0, 6, 7, 10], [55]))] }
/-- slices.breakPatternsOrdered[int] -/
def fi45 : Fi := { keep := [6, 7, 8, 9, 10, 15, 33, 43], sc := [(10, (.q 0 (.q 1 (.q 2 (.q 3 (.q 4 (.q 5 (.q 6 (.q 7 (.q 8 (.q 9 (.q 10 (.q 11 (.q 12 (.q 13 (.q 14 (.q 15 (.q 16 (.one 17 [16, 15, 14, 13, 12, 11, 10, 9, 8, 7, 6, 1, 0] (.q 18 (.one 19 [18, 5, 4, 3, 2] .done)))))))))))))))))))))], lp := [(5, ([0, 1, 6, 7, 8, 9], [36]))] }
/-- slices.choosePivotOrdered[int] -/
def fi46 : Fi := { keep := [6, 7, 8, 9, 10, 11, 12, 32, 34, 49, 51, 54], sc := [], lp := [] }
/-- slices.reverseRangeOrdered[int] -/
def fi47 : Fi := { keep := [6, 7, 13], sc := [(3, (.q 0 (.q 1 (.q 2 (.q 3 (.q 4 (.q 5 (.q 6 (.q 7 (.q 8 (.q 9 (.q 10 (.q 11 (.q 12 (.one 13 [12, 11, 10, 9, 8, 7, 6, 5, 4, 1, 0] (.q 14 (.one 15 [14, 3, 2] .done)))))))))))))))))], lp := [(2, ([0, 6, 7], []))] }
/-- slices.partialInsertionSortOrdered[int] -/
def fi48 : Fi := { keep := [6, 7, 8, 9, 10, 14, 32, 37, 41, 61, 65, 78, 98, 103, 116], sc := [(5, (.q 0 (.q 1 (.q 2 (.q 3 (.q 4 (.q 5 (.q 6 (.q 7 (.q 8 (.q 9 (.q 10 (.q 11 (.q 12 (.one 13 [12, 11, 10, 9, 8, 7, 6, 5, 4, 3, 2, 1, 0] (.q 14 (.q 15 .done))))))))))))))))), (11, (.q 0 (.q 1 (.q 2 (.q 3 (.q 4 (.q 5 (.q 6 (.q 7 (.q 8 (.q 9 (.q 10 (.q 11 (.q 12 (.q 13 (.q 14 (.one 15 [14, 13, 12, 11, 10, 9, 8, 7, 6, 5, 1, 0] (.q 16 (.one 17 [16, 4, 3, 2] .done))))))))))))))))))), (16, (.q 0 (.q 1 (.q 2 (.q 3 (.q 4 (.q 5 (.q 6 (.q 7 (.q 8 (.one 9 [8, 7, 6, 5, 4, 3, 2, 1, 0] (.q 10 .done)))))))))))), (17, (.q 0 (.q 1 (.q 2 (.q 3 (.q 4 (.q 5 (.q 6 (.q 7 (.q 8 (.q 9 (.q 10 (.q 11 (.q 12 (.q 13 (.q 14 (.one 15 [14, 13, 12, 11, 10, 9, 8, 7, 6, 5, 1, 0] (.q 16 (.one 17 [16, 4, 3, 2] .done))))))))))))))))))), (22, (.q 0 (.q 1 (.q 2 (.q 3 (.q 4 (.q 5 (.q 6 (.q 7 (.q 8 (.one 9 [8, 7, 6, 5, 4, 3, 2, 1, 0] (.q 10 .done)))))))))))), (23, (.q 0 (.q 1 (.q 2 (.q 3 (.q 4 (.q 5 (.q 6 (.q 7 (.q 8 (.q 9 (.q 10 (.q 11 (.q 12 (.q 13 (.q 14 (.one 15 [14, 13, 12, 11, 10, 9, 8, 7, 6, 5, 1, 0] (.q 16 (.one 17 [16, 4, 3, 2] .done)))))))))))))))))))], lp := [(3, ([0, 1, 2, 6, 7, 8], [30, 77, 115])), (5, ([0, 1, 2, 6, 7, 8, 13, 14], [30])), (14, ([0, 1, 2, 6, 7, 8, 9, 13, 14, 17, 18, 19, 20, 21, 22, 23, 24, 25, 26, 27, 28, 29, 30, 31, 32, 33, 34, 35, 36, 37, 38, 39, 40, 41, 42, 43, 44, 45, 46, 47, 48, 49, 50, 51, 52, 53, 54, 55, 56, 57, 58, 59, 60, 61, 62, 63], [77])), (20, ([0, 1, 2, 6, 7, 8, 9, 10, 13, 14, 17, 18, 19, 20, 21, 22, 23, 24, 25, 26, 27, 28, 29, 30, 31, 32, 33, 34, 35, 36, 37, 38, 39, 40, 41, 42, 43, 44, 45, 46, 47, 48, 49, 50, 51, 52, 53, 54, 55, 56, 57, 58, 59, 60, 61, 62, 63, 64, 65, 66, 67, 68, 69, 70, 71, 72, 73, 74, 75, 76, 77, 78, 79, 80, 81, 82, 83, 84, 85, 86, 87, 88, 89, 90, 91, 92, 93, 94, 95, 96, 97, 98, 99, 100], [115]))] }
/-- cmp.Less[int] -/
def fi49 : Fi := { keep := [4], sc := [], lp := [] }
/-- slices.partitionEqualOrdered[int] -/
def fi50 : Fi := { keep := [8, 9, 10, 43, 59, 64], sc := [(1, (.q 0 (.q 1 (.q 2 (.q 3 (.q 4 (.q 5 (.q 6 (.q 7 (.q 8 (.q 9 (.q 10 (.q 11 (.q 12 (.one 13 [12, 11, 10, 9, 8, 7, 6, 5, 4, 1, 0] (.q 14 (.one 15 [14, 3, 2] .done))))))))))))))))), (3, (.q 0 (.q 1 (.q 2 (.q 3 (.q 4 (.q 5 (.q 6 (.q 7 (.q 8 (.q 9 (.q 10 (.q 11 (.one 12 [11, 10, 9, 8, 7, 6, 5, 4, 3, 2, 1, 0] (.q 13 (.q 14 .done)))))))))))))))), (5, (.q 0 (.q 1 (.q 2 (.q 3 (.q 4 (.q 5 (.q 6 (.q 7 (.q 8 (.q 9 (.q 10 (.q 11 (.one 12 [11, 10, 9, 8, 7, 6, 5, 4, 3, 2, 1, 0] (.q 13 .done))))))))))))))), (8, (.q 0 (.q 1 (.q 2 (.q 3 (.q 4 (.q 5 (.q 6 (.q 7 (.q 8 (.q 9 (.q 10 (.q 11 (.q 12 (.one 13 [12, 11, 10, 9, 8, 7, 6, 5, 4, 1, 0] (.q 14 (.one 15 [14, 3, 2] .done)))))))))))))))))], lp := [(3, ([0, 1, 8, 9, 10], [41, 58])), (3, ([0, 1, 8, 9, 10], [41])), (5, ([0, 1, 8, 9, 10, 29, 30, 31, 32, 33, 34, 35, 36, 37, 38, 39, 40, 41, 42, 43, 44, 45], [58]))] }
/-- slices.partitionOrdered[int] -/
def fi51 : Fi := { keep := [8, 9, 10, 11, 43, 60, 65, 112, 129, 134], sc := [(1, (.q 0 (.q 1 (.q 2 (.q 3 (.q 4 (.q 5 (.q 6 (.q 7 (.q 8 (.q 9 (.q 10 (.q 11 (.q 12 (.one 13 [12, 11, 10, 9, 8, 7, 6, 5, 4, 1, 0] (.q 14 (.one 15 [14, 3, 2] .done))))))))))))))))), (3, (.q 0 (.q 1 (.q 2 (.q 3 (.q 4 (.q 5 (.q 6 (.q 7 (.q 8 (.q 9 (.q 10 (.q 11 (.one 12 [11, 10, 9, 8, 7, 6, 5, 4, 3, 2, 1, 0] (.q 13 .done))))))))))))))), (5, (.q 0 (.q 1 (.q 2 (.q 3 (.q 4 (.q 5 (.q 6 (.q 7 (.q 8 (.q 9 (.q 10 (.q 11 (.one 12 [11, 10, 9, 8, 7, 6, 5, 4, 3, 2, 1, 0] (.q 13 (.q 14 .done)))))))))))))))), (8, (.q 0 (.q 1 (.q 2 (.q 3 (.q 4 (.q 5 (.q 6 (.q 7 (.q 8 (.q 9 (.q 10 (.q 11 (.q 12 (.one 13 [12, 11, 10, 9, 8, 7, 6, 5, 4, 1, 0] (.q 14 (.one 15 [14, 3, 2] .done))))))))))))))))), (10, (.q 0 (.q 1 (.q 2 (.q 3 (.q 4 (.q 5 (.q 6 (.q 7 (.q 8 (.q 9 (.q 10 (.q 11 (.q 12 (.one 13 [12, 11, 10, 9, 8, 7, 6, 5, 4, 1, 0] (.q 14 (.one 15 [14, 3, 2] .done))))))))))))))))), (13, (.q 0 (.q 1 (.q 2 (.q 3 (.q 4 (.q 5 (.q 6 (.q 7 (.q 8 (.q 9 (.q 10 (.q 11 (.one 12 [11, 10, 9, 8, 7, 6, 5, 4, 3, 2, 1, 0] (.q 13 .done))))))))))))))), (15, (.q 0 (.q 1 (.q 2 (.q 3 (.q 4 (.q 5 (.q 6 (.q 7 (.q 8 (.q 9 (.q 10 (.q 11 (.one 12 [11, 10, 9, 8, 7, 6, 5, 4, 3, 2, 1, 0] (.q 13 (.q 14 .done)))))))))))))))), (18, (.q 0 (.q 1 (.q 2 (.q 3 (.q 4 (.q 5 (.q 6 (.q 7 (.q 8 (.q 9 (.q 10 (.q 11 (.q 12 (.one 13 [12, 11, 10, 9, 8, 7, 6, 5, 4, 1, 0] (.q 14 (.one 15 [14, 3, 2] .done))))))))))))))))), (21, (.q 0 (.q 1 (.q 2 (.q 3 (.q 4 (.q 5 (.q 6 (.q 7 (.q 8 (.q 9 (.q 10 (.q 11 (.q 12 (.one 13 [12, 11, 10, 9, 8, 7, 6, 5, 4, 1, 0] (.q 14 (.one 15 [14, 3, 2] .done)))))))))))))))))], lp := [(3, ([0, 1, 8, 9, 10, 11], [42])), (5, ([0, 1, 8, 9, 10, 11], [58])), (13, ([0, 1, 8, 9, 10, 11], [111, 127])), (13, ([0, 1, 8, 9, 10, 11], [111])), (15, ([0, 1, 8, 9, 10, 11, 99, 100, 101, 102, 103, 104, 105, 106, 107, 108, 109, 110, 111, 112, 113, 114], [127]))] }
/-- colonnade/value.Alike -/
def fi52 : Fi := { keep := [2, 3, 4], sc := [(1, (.q 0 (.q 1 (.q 2 (.q 3 (.q 4 (.q 5 (.q 6 (.q 7 (.q 8 (.q 9 (.q 10 (.q 12 (.q 13 (.one 11 [10, 9, 8, 7, 6, 5, 4, 3, 2, 1, 0] (.one 14 [13, 12] (.q 15 (.q 16 (.q 17 .done)))))))))))))))))))], lp := [] }
/-- colonnade/value.held -/
def fi53 : Fi := { keep := [2, 3, 4, 5, 8, 9, 16], sc := [(6, (.q 0 (.q 2 (.one 1 [0] (.one 3 [2] (.q 4 (.q 5 .done))))))), (7, (.q 0 (.q 1 (.q 3 (.q 4 (.one 2 [1, 0] (.one 5 [4, 3] (.one 6 [] (.q 7 .done)))))))))], lp := [] }
/-- colonnade/value.three[int] -/
def fi54 : Fi := { keep := [4, 5, 9], sc := [], lp := [] }
/-- colonnade/value.family -/
def fi55 : Fi := { keep := [2, 4], sc := [], lp := [] }
/-- colonnade/value.of -/
def fi56 : Fi := { keep := [8], sc := [], lp := [] }
/-- colonnade/colonnaderef19.sum -/
def fi57 : Fi := { keep := [2, 3, 4, 5, 6, 7, 11], sc := [], lp := [(3, ([0, 2, 3, 4, 5], [20, 21, 22]))] }
/-- colonnade/colonnaderef02.Order -/
def fi58 : Fi := { keep := [2, 3, 4, 10, 30], sc := [(5, (.q 0 (.q 1 (.q 2 (.q 4 (.q 5 (.q 6 (.q 9 (.q 10 (.q 11 (.q 13 (.q 14 (.q 15 (.one 3 [2, 1, 0] (.one 7 [6, 5, 4] (.q 8 (.one 12 [11, 10, 9] (.one 16 [15, 14, 13] (.q 17 (.one 18 [17, 8] (.q 19 .done)))))))))))))))))))))], lp := [] }
/-- slices.siftDownOrdered[int] -/
def fi59 : Fi := { keep := [8, 9, 16, 36, 52], sc := [(3, (.q 0 (.q 1 (.q 2 (.q 3 (.q 4 (.q 5 (.q 6 (.q 7 (.q 8 (.q 9 (.q 10 (.q 11 (.q 12 (.q 13 (.q 14 (.q 15 (.q 16 (.q 17 (.one 18 [17, 16, 15, 14, 13, 12, 11, 10, 9, 8, 7, 6, 5, 4, 3, 2, 1, 0] (.q 19 .done))))))))))))))))))))), (5, (.q 0 (.q 1 (.q 2 (.q 3 (.q 4 (.q 5 (.q 6 (.q 7 (.q 8 (.q 9 (.q 10 (.q 11 (.one 12 [11, 10, 9, 8, 7, 6, 5, 4, 3, 2, 1, 0] (.q 13 .done))))))))))))))), (6, (.q 0 (.q 1 (.q 2 (.q 3 (.q 4 (.q 5 (.q 6 (.q 7 (.q 8 (.q 9 (.q 10 (.q 11 (.q 12 (.q 13 (.q 14 (.q 15 (.q 16 (.q 17 (.q 18 (.q 19 (.q 20 (.one 21 [20, 19, 18, 17, 16, 15, 14, 13, 12, 11, 10, 9, 8, 3, 2, 1, 0] (.q 22 (.one 23 [22, 7, 6, 5, 4] .done)))))))))))))))))))))))))], lp := [(1, ([0, 2, 3, 8], [35, 51]))] }
/-- slices.nextPowerOfTwo -/
def fi60 : Fi := { keep := [2], sc := [], lp := [] }
/-- (*slices.xorshift).Next -/
def fi61 : Fi := { keep := [2], sc := [(1, (.q 0 (.q 1 (.q 2 (.q 3 (.q 4 (.q 5 (.q 6 (.q 7 (.q 8 (.one 9 [8, 7, 6, 5, 4, 3, 2, 1, 0] .done))))))))))), (2, (.q 0 (.q 1 (.q 2 (.q 3 (.q 4 (.q 5 (.q 6 (.q 7 (.q 8 (.one 9 [8, 7, 6, 5, 4, 3, 2, 1, 0] .done))))))))))), (3, (.q 0 (.q 1 (.q 2 (.q 3 (.q 4 (.q 5 (.q 6 (.q 7 (.q 8 (.one 9 [8, 7, 6, 5, 4, 3, 2, 1, 0] .done)))))))))))], lp := [] }
/-- slices.medianAdjacentOrdered[int] -/
def fi62 : Fi := { keep := [6], sc := [], lp := [] }
/-- slices.medianOrdered[int] -/
def fi63 : Fi := { keep := [1, 2, 10], sc := [], lp := [] }
/-- cmp.isNaN[int] -/
def fi64 : Fi := { keep := [2], sc := [], lp := [] }
/-- colonnade/value.three[string] -/
def fi65 : Fi := { keep := [4, 5, 9], sc := [], lp := [] }
/-- colonnade/value.places -/
def fi66 : Fi := { keep := [1, 2, 6], sc := [], lp := [] }
/-- colonnade/num.WideCmp -/
def fi67 : Fi := { keep := [2, 3, 4, 5, 9], sc := [], lp := [] }
/-- colonnade/value.wide -/
def fi68 : Fi := { keep := [2, 4, 5], sc := [], lp := [] }
/-- colonnade/value.three[int64] -/
def fi69 : Fi := { keep := [4, 5, 9], sc := [], lp := [] }
/-- colonnade/colonnaderef01.WideOf -/
def fi70 : Fi := { keep := [2, 3, 8], sc := [], lp := [] }
/-- colonnade/colonnaderef01.Narrow -/
def fi71 : Fi := { keep := [1, 2, 3, 4, 11], sc := [(2, (.q 0 (.q 2 (.one 1 [0] (.q 3 .done)))))], lp := [] }
/-- colonnade/colonnaderef01.WideAdd -/
def fi72 : Fi := { keep := [2, 3, 4, 5, 9, 28], sc := [], lp := [(4, ([0, 2, 3, 4, 5], []))] }
/-- colonnade/colonnaderef02.sign -/
def fi73 : Fi := { keep := [4, 5, 6], sc := [], lp := [] }
/-- colonnade/colonnaderef02.Alike -/
def fi74 : Fi := { keep := [2, 3, 4], sc := [(1, (.q 0 (.q 1 (.q 3 (.q 4 (.one 2 [1, 0] (.one 5 [4, 3] (.q 6 (.q 7 (.q 8 (.q 9 (.q 10 (.q 11 (.q 12 (.q 13 (.q 14 (.q 15 (.q 16 (.q 17 .done)))))))))))))))))))], lp := [] }
/-- colonnade/colonnaderef02.compare -/
def fi75 : Fi := { keep := [2, 3, 4, 5, 6, 8, 13], sc := [(3, (.q 0 (.q 2 (.one 1 [0] (.one 3 [2] (.q 4 (.q 5 .done))))))), (6, (.q 0 (.q 1 (.q 2 (.q 4 (.q 5 (.q 6 (.one 3 [2, 1, 0] (.one 7 [6, 5, 4] (.one 8 [] (.q 9 .done)))))))))))], lp := [] }
/-- colonnade/colonnaderef02.family -/
def fi76 : Fi := { keep := [2, 4], sc := [], lp := [] }
/-- slices.order2Ordered[int] -/
def fi77 : Fi := { keep := [8, 9, 18], sc := [(1, (.q 0 (.q 1 (.q 2 (.q 3 (.q 4 (.q 5 (.q 6 (.q 7 (.one 8 [7, 6, 5, 4, 3, 2, 1, 0] .done))))))))))], lp := [] }
/-- colonnade/num.Pow10 -/
def fi78 : Fi := { keep := [2, 3, 4, 7, 8, 9, 10], sc := [], lp := [(5, ([2, 3, 4, 8, 9], []))] }
/-- colonnade/num.WideMul -/
def fi79 : Fi := { keep := [4, 5, 6, 7, 8, 9, 10, 55, 62], sc := [], lp := [] }
/-- colonnade/colonnaderef02.scale -/
def fi80 : Fi := { keep := [1, 2, 6], sc := [], lp := [] }
/-- colonnade/colonnaderef01.Pow10 -/
def fi81 : Fi := { keep := [2, 3, 4, 5, 11, 14], sc := [], lp := [(5, ([0, 2, 3, 4, 5], []))] }
/-- colonnade/colonnaderef01.WideCmp -/
def fi82 : Fi := { keep := [2, 3, 4, 5, 25], sc := [], lp := [] }
/-- colonnade/colonnaderef01.WideMul -/
def fi83 : Fi := { keep := [4, 5, 6, 19, 29], sc := [], lp := [] }
/-- colonnade/num.scale -/
def fi84 : Fi := { keep := [2], sc := [], lp := [] }
/-- colonnade/colonnaderef01.product -/
def fi85 : Fi := { keep := [4, 5, 6, 7, 8], sc := [], lp := [] }
/-- colonnade/colonnaderef01.amount -/
def fi86 : Fi := { keep := [2, 4], sc := [], lp := [] }
theorem E_ok : EnvOk Try.prog E_0 := envOk_of (by kernel_rfl)
theorem it_ok : ItOk Try.prog E_0 := fun _ _ _ h => h.elim
theorem mixed : Try.prog.follows .mixedOrders = true := by kernel_rfl
end Go.Proofs.Try
