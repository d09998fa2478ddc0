/- The tables of the seat: types, annotations (written by a program), and that the kernel finds them right. -/
import Derived.Test.YtjcbojcnfdlfaaaProg
import Derived.KernelRfl
import Derived.Test.YtjcbojcnfdlfaaaSxD
import Derived.Test.YtjcbojcnfdlfaaaSxD
namespace Go.Proofs.Ytjcbojcnfdlfaaa
open Go.Sx
def tbl : List (Nat × TI) := [
  (2, ⟨.prim, 1, 8, [.p (.int .i64 0)]⟩),
  (3, ⟨.prim, 1, 8, [.p (.int .i64 0)]⟩),
  (4, ⟨.prim, 1, 1, [.p (.bool false)]⟩),
  (5, ⟨.prim, 1, 1, [.p (.int .u8 0)]⟩),
  (6, ⟨.prim, 1, 1, [.p (.int .u8 0)]⟩),
  (7, ⟨.strct [(0, 1, false), (1, 1, false), (2, 1, false), (3, 1, false)], 4, 24, [.p (.int .i64 0), .p (.int .i64 0), .p (.bool false), .p (.int .u8 0)]⟩),
  (8, ⟨.strct [(0, 1, false), (1, 1, false), (2, 1, false), (3, 1, false)], 4, 24, [.p (.int .i64 0), .p (.int .i64 0), .p (.bool false), .p (.int .u8 0)]⟩),
  (9, ⟨.prim, 1, 16, [.p (.string ⟨#[]⟩)]⟩),
  (10, ⟨.prim, 1, 16, [.p (.string ⟨#[]⟩)]⟩),
  (11, ⟨.prim, 1, 16, [.p (.string ⟨#[]⟩)]⟩),
  (12, ⟨.prim, 1, 8, [.p (.int .u64 0)]⟩),
  (13, ⟨.strct [(0, 1, false), (1, 1, false)], 2, 24, [.p (.string ⟨#[]⟩), .p (.int .u64 0)]⟩),
  (14, ⟨.strct [(0, 1, false), (1, 1, false)], 2, 24, [.p (.string ⟨#[]⟩), .p (.int .u64 0)]⟩),
  (15, ⟨.ptr 222, 1, 8, [.p (.pointer none)]⟩),
  (16, ⟨.ptr 225, 1, 8, [.p (.pointer none)]⟩),
  (17, ⟨.ptr 235, 1, 8, [.p (.pointer none)]⟩),
  (18, ⟨.strct [(0, 1, false)], 1, 8, [.p (.pointer none)]⟩),
  (19, ⟨.strct [(0, 1, false)], 1, 8, [.p (.pointer none)]⟩),
  (21, ⟨.prim, 1, 4, [.p (.int .i32 0)]⟩),
  (22, ⟨.slc 72, 1, 24, [.sl .own 18 []]⟩),
  (23, ⟨.slc 142, 1, 24, [.sl .own 8 []]⟩),
  (24, ⟨.slc 145, 1, 24, [.sl .own 2 []]⟩),
  (25, ⟨.strct [(0, 1, false), (1, 1, false), (2, 1, false)], 3, 72, [.sl .own 18 [], .sl .own 8 [], .sl .own 2 []]⟩),
  (26, ⟨.strct [(0, 1, false), (1, 1, false), (2, 1, false)], 3, 72, [.sl .own 18 [], .sl .own 8 [], .sl .own 2 []]⟩),
  (29, ⟨.slc 76, 1, 24, [.sl .own 18 []]⟩),
  (30, ⟨.slc 59, 1, 24, [.sl .own 8 []]⟩),
  (31, ⟨.slc 146, 1, 24, [.sl .own 2 []]⟩),
  (32, ⟨.strct [(0, 1, false), (1, 1, false), (2, 1, false)], 3, 72, [.sl .own 18 [], .sl .own 8 [], .sl .own 2 []]⟩),
  (33, ⟨.strct [(0, 1, false), (1, 1, false), (2, 1, false)], 3, 72, [.sl .own 18 [], .sl .own 8 [], .sl .own 2 []]⟩),
  (37, ⟨.slc 165, 1, 24, [.sl .own 9 []]⟩),
  (38, ⟨.strct [(0, 3, true), (3, 1, false), (4, 1, false)], 5, 104, [.sl .own 18 [], .sl .own 8 [], .sl .own 2 [], .p (.int .i64 0), .sl .own 9 []]⟩),
  (39, ⟨.strct [(0, 3, true), (3, 1, false), (4, 1, false)], 5, 104, [.sl .own 18 [], .sl .own 8 [], .sl .own 2 [], .p (.int .i64 0), .sl .own 9 []]⟩),
  (44, ⟨.slc 5, 1, 24, [.sl .own 1 []]⟩),
  (45, ⟨.slc 51, 1, 24, [.sl .own 2 []]⟩),
  (50, ⟨.strct [(0, 1, false), (1, 1, false)], 2, 24, [.p (.int .i64 0), .p (.string ⟨#[]⟩)]⟩),
  (51, ⟨.strct [(0, 1, false), (1, 1, false)], 2, 24, [.p (.int .i64 0), .p (.string ⟨#[]⟩)]⟩),
  (55, ⟨.strct [(0, 1, false), (1, 1, false), (2, 1, false)], 3, 40, [.p (.int .i64 0), .p (.int .i64 0), .sl .own 2 []]⟩),
  (56, ⟨.strct [(0, 1, false), (1, 1, false), (2, 1, false)], 3, 40, [.p (.int .i64 0), .p (.int .i64 0), .sl .own 2 []]⟩),
  (58, ⟨.strct [(0, 1, false), (1, 1, false), (2, 1, false), (3, 1, false), (4, 1, false), (5, 1, false), (6, 1, false), (7, 1, false)], 8, 88, [.p (.int .i64 0), .p (.int .i64 0), .p (.int .i64 0), .p (.int .i64 0), .p (.int .i64 0), .p (.int .i64 0), .p (.string ⟨#[]⟩), .sl .own 2 []]⟩),
  (59, ⟨.strct [(0, 1, false), (1, 1, false), (2, 1, false), (3, 1, false), (4, 1, false), (5, 1, false), (6, 1, false), (7, 1, false)], 8, 88, [.p (.int .i64 0), .p (.int .i64 0), .p (.int .i64 0), .p (.int .i64 0), .p (.int .i64 0), .p (.int .i64 0), .p (.string ⟨#[]⟩), .sl .own 2 []]⟩),
  (65, ⟨.slc 176, 1, 24, [.sl .own 2 []]⟩),
  (66, ⟨.strct [(0, 1, false), (1, 1, false), (2, 1, false)], 3, 40, [.p (.int .i64 0), .p (.int .i64 0), .sl .own 2 []]⟩),
  (67, ⟨.strct [(0, 1, false), (1, 1, false), (2, 1, false)], 3, 40, [.p (.int .i64 0), .p (.int .i64 0), .sl .own 2 []]⟩),
  (68, ⟨.slc 9, 1, 24, [.sl .own 1 []]⟩),
  (69, ⟨.slc 3, 1, 24, [.sl .own 1 []]⟩),
  (70, ⟨.slc 178, 1, 24, [.sl .own 2 []]⟩),
  (71, ⟨.strct [(0, 1, false), (1, 1, false), (2, 1, false), (3, 3, true), (6, 3, true), (9, 1, false), (10, 1, false), (11, 1, false), (12, 1, false), (13, 1, false), (14, 1, false), (15, 1, false), (16, 1, false), (17, 1, false)], 18, 248, [.p (.int .i64 0), .p (.int .i64 0), .p (.bool false), .p (.int .i64 0), .p (.int .i64 0), .sl .own 2 [], .p (.int .i64 0), .p (.int .i64 0), .sl .own 2 [], .sl .own 8 [], .sl .own 1 [], .p (.bool false), .p (.bool false), .p (.int .i64 0), .sl .own 1 [], .sl .own 2 [], .sl .own 2 [], .p (.int .i64 0)]⟩),
  (72, ⟨.strct [(0, 1, false), (1, 1, false), (2, 1, false), (3, 3, true), (6, 3, true), (9, 1, false), (10, 1, false), (11, 1, false), (12, 1, false), (13, 1, false), (14, 1, false), (15, 1, false), (16, 1, false), (17, 1, false)], 18, 248, [.p (.int .i64 0), .p (.int .i64 0), .p (.bool false), .p (.int .i64 0), .p (.int .i64 0), .sl .own 2 [], .p (.int .i64 0), .p (.int .i64 0), .sl .own 2 [], .sl .own 8 [], .sl .own 1 [], .p (.bool false), .p (.bool false), .p (.int .i64 0), .sl .own 1 [], .sl .own 2 [], .sl .own 2 [], .p (.int .i64 0)]⟩),
  (74, ⟨.slc 134, 1, 24, [.sl .own 2 []]⟩),
  (75, ⟨.strct [(0, 1, false), (1, 1, false), (2, 1, false), (3, 3, true), (6, 3, true), (9, 1, false), (10, 1, false), (11, 1, false), (12, 1, false), (13, 1, false), (14, 1, false), (15, 1, false), (16, 1, false), (17, 1, false)], 18, 248, [.p (.int .i64 0), .p (.int .i64 0), .p (.bool false), .p (.int .i64 0), .p (.int .i64 0), .sl .own 2 [], .p (.int .i64 0), .p (.int .i64 0), .sl .own 2 [], .sl .own 8 [], .sl .own 1 [], .p (.bool false), .p (.bool false), .p (.int .i64 0), .sl .own 1 [], .sl .own 2 [], .sl .own 2 [], .p (.int .i64 0)]⟩),
  (76, ⟨.strct [(0, 1, false), (1, 1, false), (2, 1, false), (3, 3, true), (6, 3, true), (9, 1, false), (10, 1, false), (11, 1, false), (12, 1, false), (13, 1, false), (14, 1, false), (15, 1, false), (16, 1, false), (17, 1, false)], 18, 248, [.p (.int .i64 0), .p (.int .i64 0), .p (.bool false), .p (.int .i64 0), .p (.int .i64 0), .sl .own 2 [], .p (.int .i64 0), .p (.int .i64 0), .sl .own 2 [], .sl .own 8 [], .sl .own 1 [], .p (.bool false), .p (.bool false), .p (.int .i64 0), .sl .own 1 [], .sl .own 2 [], .sl .own 2 [], .p (.int .i64 0)]⟩),
  (103, ⟨.ptr 172, 1, 8, [.p (.pointer none)]⟩),
  (133, ⟨.strct [(0, 1, false), (1, 1, false)], 2, 32, [.p (.int .i64 0), .sl .own 1 []]⟩),
  (134, ⟨.strct [(0, 1, false), (1, 1, false)], 2, 32, [.p (.int .i64 0), .sl .own 1 []]⟩),
  (141, ⟨.strct [(0, 1, false), (1, 1, false), (2, 1, false), (3, 1, false), (4, 1, false), (5, 1, false), (6, 1, false), (7, 1, false)], 8, 88, [.p (.int .i64 0), .p (.int .i64 0), .p (.int .i64 0), .p (.int .i64 0), .p (.int .i64 0), .p (.int .i64 0), .p (.string ⟨#[]⟩), .sl .own 2 []]⟩),
  (142, ⟨.strct [(0, 1, false), (1, 1, false), (2, 1, false), (3, 1, false), (4, 1, false), (5, 1, false), (6, 1, false), (7, 1, false)], 8, 88, [.p (.int .i64 0), .p (.int .i64 0), .p (.int .i64 0), .p (.int .i64 0), .p (.int .i64 0), .p (.int .i64 0), .p (.string ⟨#[]⟩), .sl .own 2 []]⟩),
  (144, ⟨.strct [(0, 1, false), (1, 1, false)], 2, 24, [.p (.int .i64 0), .p (.string ⟨#[]⟩)]⟩),
  (145, ⟨.strct [(0, 1, false), (1, 1, false)], 2, 24, [.p (.int .i64 0), .p (.string ⟨#[]⟩)]⟩),
  (146, ⟨.strct [(0, 1, false), (1, 1, false)], 2, 24, [.p (.int .i64 0), .p (.string ⟨#[]⟩)]⟩),
  (149, ⟨.ptr 33, 1, 8, [.p (.pointer none)]⟩),
  (156, ⟨.slc 193, 1, 24, [.sl .own 3 []]⟩),
  (157, ⟨.slc 195, 1, 24, [.sl .own 6 []]⟩),
  (158, ⟨.strct [(0, 1, false), (1, 1, false)], 2, 48, [.sl .own 3 [], .sl .own 6 []]⟩),
  (159, ⟨.strct [(0, 1, false), (1, 1, false)], 2, 48, [.sl .own 3 [], .sl .own 6 []]⟩),
  (160, ⟨.strct [(0, 1, false), (1, 1, false), (2, 2, true)], 4, 72, [.p (.string ⟨#[]⟩), .p (.int .i64 0), .sl .own 3 [], .sl .own 6 []]⟩),
  (161, ⟨.strct [(0, 1, false), (1, 1, false), (2, 2, true)], 4, 72, [.p (.string ⟨#[]⟩), .p (.int .i64 0), .sl .own 3 [], .sl .own 6 []]⟩),
  (162, ⟨.strct [(0, 1, false), (1, 1, false), (2, 1, false)], 3, 24, [.p (.int .i64 0), .p (.int .i64 0), .p (.bool false)]⟩),
  (163, ⟨.strct [(0, 1, false), (1, 1, false), (2, 1, false)], 3, 24, [.p (.int .i64 0), .p (.int .i64 0), .p (.bool false)]⟩),
  (164, ⟨.strct [(0, 4, true), (4, 1, false), (5, 1, false), (6, 3, true)], 9, 112, [.p (.string ⟨#[]⟩), .p (.int .i64 0), .sl .own 3 [], .sl .own 6 [], .p (.int .i64 0), .p (.int .i64 0), .p (.int .i64 0), .p (.int .i64 0), .p (.bool false)]⟩),
  (165, ⟨.strct [(0, 4, true), (4, 1, false), (5, 1, false), (6, 3, true)], 9, 112, [.p (.string ⟨#[]⟩), .p (.int .i64 0), .sl .own 3 [], .sl .own 6 [], .p (.int .i64 0), .p (.int .i64 0), .p (.int .i64 0), .p (.int .i64 0), .p (.bool false)]⟩),
  (171, ⟨.strct [(0, 1, false), (1, 1, false)], 2, 32, [.sl .own 1 [], .p (.int .i64 0)]⟩),
  (172, ⟨.strct [(0, 1, false), (1, 1, false)], 2, 32, [.sl .own 1 [], .p (.int .i64 0)]⟩),
  (176, ⟨.strct [(0, 1, false), (1, 1, false)], 2, 24, [.p (.int .i64 0), .p (.string ⟨#[]⟩)]⟩),
  (178, ⟨.strct [(0, 1, false), (1, 1, false)], 2, 32, [.p (.int .i64 0), .sl .own 1 []]⟩),
  (183, ⟨.ptr 76, 1, 8, [.p (.pointer none)]⟩),
  (189, ⟨.mp 51 3, 1, 8, [.p (.map none)]⟩),
  (192, ⟨.strct [(0, 1, false), (1, 1, false), (2, 1, false)], 3, 40, [.p (.string ⟨#[]⟩), .p (.string ⟨#[]⟩), .p (.int .i64 0)]⟩),
  (193, ⟨.strct [(0, 1, false), (1, 1, false), (2, 1, false)], 3, 40, [.p (.string ⟨#[]⟩), .p (.string ⟨#[]⟩), .p (.int .i64 0)]⟩),
  (194, ⟨.strct [(0, 1, false), (1, 1, false), (2, 1, false), (3, 1, false), (4, 1, false), (5, 1, false)], 6, 80, [.p (.int .i64 0), .p (.string ⟨#[]⟩), .p (.string ⟨#[]⟩), .p (.int .i64 0), .p (.string ⟨#[]⟩), .p (.string ⟨#[]⟩)]⟩),
  (195, ⟨.strct [(0, 1, false), (1, 1, false), (2, 1, false), (3, 1, false), (4, 1, false), (5, 1, false)], 6, 80, [.p (.int .i64 0), .p (.string ⟨#[]⟩), .p (.string ⟨#[]⟩), .p (.int .i64 0), .p (.string ⟨#[]⟩), .p (.string ⟨#[]⟩)]⟩),
  (197, ⟨.strct [(0, 1, false), (1, 1, false), (2, 1, false)], 3, 32, [.p (.int .i64 0), .p (.int .i64 0), .p (.string ⟨#[]⟩)]⟩),
  (198, ⟨.strct [(0, 1, false), (1, 1, false), (2, 1, false)], 3, 32, [.p (.int .i64 0), .p (.int .i64 0), .p (.string ⟨#[]⟩)]⟩),
  (221, ⟨.strct [(0, 1, false), (1, 1, false), (2, 1, false), (3, 1, false)], 4, 40, [.p (.pointer none), .p (.pointer none), .p (.pointer none), .p (.string ⟨#[]⟩)]⟩),
  (222, ⟨.strct [(0, 1, false), (1, 1, false), (2, 1, false), (3, 1, false)], 4, 40, [.p (.pointer none), .p (.pointer none), .p (.pointer none), .p (.string ⟨#[]⟩)]⟩),
  (227, ⟨.prim, 1, 4, [.p (.int .u32 0)]⟩),
  (228, ⟨.prim, 1, 1, [.p (.int .u8 0)]⟩),
  (229, ⟨.prim, 1, 1, [.p (.int .u8 0)]⟩),
  (231, ⟨.ptr 5, 1, 8, [.p (.pointer none)]⟩),
  (232, ⟨.prim, 1, 4, [.p (.int .i32 0)]⟩),
  (233, ⟨.prim, 1, 4, [.p (.int .i32 0)]⟩)]
/-- loop.example/wharflog/laws.FnExactRecWish -/
def a6 : Ann := { draws := lookD [(12, [([7], [34]), ([2], [35]), ([2, 35], [36]), ([7, 34, 36], [37]), ([37], [38])])] [] }
/-- loop.example/wharflog/impl.RecDiskOk -/
def a27 : Ann := { heads := lookD [(0, [1, 25, 26, 27])] [], ends := lookT [(0, [])] }
/-- loop.example/wharflog/spec.RecDiskOk -/
def a28 : Ann := { heads := lookD [(0, [1, 3])] [], ends := lookT [(0, [])], draws := lookD [(6, [([1], [30]), ([1, 30], [31]), ([3], [32]), ([1, 31, 32], [33]), ([1, 33], [34]), ([1, 34], [35]), ([1], [36]), ([1, 36], [37]), ([35, 37], [38]), ([38], [39]), ([3, 39], [40]), ([1, 39], [41]), ([1, 39, 41], [42]), ([39, 40, 42], [43]), ([39, 43], [44]), ([1, 44], [45]), ([1, 44, 45], [46]), ([3, 44], [47]), ([1, 44, 46, 47], [48]), ([1, 44, 48], [49]), ([1, 44, 49], [50]), ([44, 50], [51]), ([39, 44, 51], [52]), ([39, 52], [53])])] [] }
/-- loop.example/wharflog/impl.RecMessageOk -/
def a29 : Ann := {}
/-- loop.example/wharflog/spec.RecMessageOk -/
def a30 : Ann := {}
/-- loop.example/wharflog/laws.szRecorder -/
def a31 : Ann := {}
/-- loop.example/wharflog/spec.RecWish -/
def a32 : Ann := {}
/-- loop.example/wharflog/laws.toRecorder -/
def a33 : Ann := {}
/-- loop.example/wharflog/impl.RecWish -/
def a34 : Ann := {}
/-- loop.example/wharflog/laws.eqRecorder -/
def a35 : Ann := {}
/-- loop.example/wharflog/laws.markRecorder -/
def a36 : Ann := { modes := [.io, .shr], keep := [0], mir := [(0, 2)] }
/-- loop.example/wharflog/laws.heldRecorder -/
def a37 : Ann := {}
/-- loop.example/wharflog/spec.RecValid -/
def a44 : Ann := { heads := lookD [(0, [1, 3])] [], ends := lookT [(0, [1])], draws := lookD [(6, [([1], [53]), ([1, 53], [54]), ([3], [55]), ([1, 54, 55], [56]), ([1, 56], [57]), ([1], [58]), ([1, 58], [59]), ([1, 57, 59], [60]), ([60], [61]), ([61], [62]), ([1, 62], [63]), ([1, 62, 63], [64]), ([3, 62], [65]), ([1, 62, 64, 65], [66]), ([1, 62, 66], [67]), ([1, 62, 67], [68]), ([1, 62], [69]), ([1, 62, 69], [70]), ([62, 68, 70], [71]), ([62, 71], [72])])] [] }
/-- loop.example/wharflog/impl.RecValid -/
def a45 : Ann := { heads := lookD [(4, [1, 107, 108, 109]), (2, [1, 86, 87, 88]), (0, [1, 66, 67, 68])] [], ends := lookT [(4, [1]), (2, [1]), (0, [1])], draws := lookD [(18, [([8], [114]), ([8, 114], [115]), ([115], [116]), ([116], [117]), ([117], [118]), ([8, 118], [119]), ([8, 118, 119], [120]), ([1, 118], [121]), ([1, 118, 121], [122]), ([8, 118, 120, 122], [123]), ([118, 123], [124]), ([118, 124], [125]), ([125], [126]), ([7, 126], [127]), ([126, 127], [128]), ([126, 128], [129]), ([8, 129], [130]), ([8, 129, 130], [131]), ([1, 129], [132]), ([1, 129, 132], [133]), ([7, 129], [134]), ([129, 134], [135]), ([1, 129, 133, 135], [136]), ([1, 129, 136], [137]), ([1, 129, 137], [138]), ([129, 131, 138], [139]), ([126, 129, 139], [140]), ([126, 140], [141])])] [] }
/-- loop.example/wharflog/laws.szRecMessageS -/
def a48 : Ann := { heads := lookD [(0, [0, 1, 5])] [], ends := lookT [(0, [1])] }
/-- loop.example/wharflog/laws.toRecMessageS -/
def a55 : Ann := { heads := lookD [(0, [0, 3, 4])] [], ends := lookT [(0, [3])] }
/-- loop.example/wharflog/laws.eqRecMessageS -/
def a60 : Ann := { heads := lookD [(0, [0, 1, 5])] [], ends := lookT [(0, [])], draws := lookD [(6, [([0], [17]), ([5], [18]), ([0, 17, 18], [19]), ([0, 19], [20]), ([1], [21]), ([5], [22]), ([1, 21, 22], [23]), ([1, 23], [24]), ([0, 1, 20, 24], [25]), ([25], [26])])] [] }
/-- loop.example/wharflog/spec.l12Slots -/
def a71 : Ann := {}
/-- loop.example/wharflog/impl.within -/
def a73 : Ann := {}
/-- loop.example/wharflog/spec.l12In -/
def a74 : Ann := {}
/-- loop.example/wharflog/impl.slotsOk -/
def a80 : Ann := { heads := lookD [(0, [0, 8, 9, 10])] [], ends := lookT [(0, [])] }
/-- loop.example/wharflog/spec.l12SlotsOk -/
def a81 : Ann := { heads := lookD [(0, [0, 3])] [], ends := lookT [(0, [])] }
/-- loop.example/wharflog/laws.szRecDisk -/
def a82 : Ann := {}
/-- loop.example/wharflog/laws.szStringS -/
def a83 : Ann := { heads := lookD [(0, [0, 1, 5])] [], ends := lookT [(0, [1])] }
/-- loop.example/wharflog/laws.szIntS -/
def a84 : Ann := {}
/-- loop.example/wharflog/laws.szRecSlotS -/
def a85 : Ann := { heads := lookD [(0, [0, 1, 5])] [], ends := lookT [(0, [1])] }
/-- loop.example/wharflog/laws.szRecAckS -/
def a86 : Ann := { heads := lookD [(0, [0, 1, 5])] [], ends := lookT [(0, [1])] }
/-- loop.example/wharflog/spec.l13Copy -/
def a87 : Ann := { heads := lookD [(0, [1, 2, 3, 4])] [], ends := lookT [(0, [1, 2, 3])], draws := lookD [(11, [([3], [39]), ([1], [40]), ([1, 40], [41]), ([4], [42]), ([1, 41, 42], [43]), ([1, 43], [44]), ([1, 44], [45]), ([], [46]), ([1], [47]), ([1, 47], [48]), ([4], [49]), ([1, 48, 49], [50]), ([1, 50], [51]), ([1, 51], [52]), ([1, 46, 52], [46, 53]), ([45, 53], [45, 53, 54]), ([54], [54, 55]), ([3, 39, 55], [3, 39, 55, 56]), ([56], [3, 56])])] [] }
/-- loop.example/wharflog/spec.l14Wish -/
def a88 : Ann := { modes := [.mv, .shr], heads := lookD [(0, [1, 2, 4, 5])] [], ends := lookT [(0, [1, 2, 4])] }
/-- loop.example/wharflog/laws.toRecDisk -/
def a89 : Ann := {}
/-- loop.example/wharflog/laws.toStringS -/
def a90 : Ann := { heads := lookD [(0, [0, 3, 4])] [], ends := lookT [(0, [3])] }
/-- loop.example/wharflog/laws.toIntS -/
def a91 : Ann := { heads := lookD [(0, [0, 3, 4])] [], ends := lookT [(0, [3])] }
/-- loop.example/wharflog/laws.toRecSlotS -/
def a92 : Ann := { heads := lookD [(0, [0, 3, 4])] [], ends := lookT [(0, [3])] }
/-- loop.example/wharflog/laws.toRecAckS -/
def a93 : Ann := { heads := lookD [(0, [0, 3, 4])] [], ends := lookT [(0, [3])] }
/-- loop.example/wharflog/impl.clone -/
def a94 : Ann := { heads := lookD [(0, [1, 2, 3, 31, 32, 33])] [], ends := lookT [(0, [1, 2, 3])], draws := lookD [(1, [([1], [6]), ([1, 6], [7]), ([1, 7], [8]), ([1], [9]), ([1, 9], [10]), ([1, 10], [11]), ([1], [12]), ([1, 8, 12], [1, 8, 12]), ([1], [13]), ([1, 11, 13], [1, 11, 13])]), (10, [([3], [37]), ([5], [38]), ([5, 38], [39]), ([5], [40]), ([5, 40], [41]), ([5, 41], [42]), ([39, 42], [39, 42, 43]), ([43], [43, 44]), ([3, 37, 44], [3, 37, 44, 45]), ([45], [3, 45])])] [] }
/-- (*loop.example/wharflog/impl.Recorder).wish -/
def a95 : Ann := { keep := [0] }
/-- loop.example/wharflog/laws.eqRecDisk -/
def a96 : Ann := {}
/-- loop.example/wharflog/laws.eqStringS -/
def a97 : Ann := { heads := lookD [(0, [0, 1, 5])] [], ends := lookT [(0, [])], draws := lookD [(6, [([0], [17]), ([5], [18]), ([0, 17, 18], [19]), ([0, 19], [20]), ([1], [21]), ([5], [22]), ([1, 21, 22], [23]), ([1, 23], [24]), ([20, 24], [25])])] [] }
/-- loop.example/wharflog/laws.eqIntS -/
def a98 : Ann := { heads := lookD [(0, [0, 1, 5])] [], ends := lookT [(0, [])], draws := lookD [(6, [([0], [17]), ([5], [18]), ([0, 17, 18], [19]), ([0, 19], [20]), ([1], [21]), ([5], [22]), ([1, 21, 22], [23]), ([1, 23], [24]), ([20, 24], [25])])] [] }
/-- loop.example/wharflog/laws.eqRecSlotS -/
def a99 : Ann := { heads := lookD [(0, [0, 1, 5])] [], ends := lookT [(0, [])], draws := lookD [(6, [([0], [17]), ([5], [18]), ([0, 17, 18], [19]), ([0, 19], [20]), ([1], [21]), ([5], [22]), ([1, 21, 22], [23]), ([1, 23], [24]), ([20, 24], [25]), ([25], [26])])] [] }
/-- loop.example/wharflog/laws.eqRecAckS -/
def a100 : Ann := { heads := lookD [(0, [0, 1, 5])] [], ends := lookT [(0, [])], draws := lookD [(6, [([0], [17]), ([5], [18]), ([0, 17, 18], [19]), ([0, 19], [20]), ([1], [21]), ([5], [22]), ([1, 21, 22], [23]), ([1, 23], [24]), ([0, 1, 20, 24], [25]), ([25], [26])])] [] }
/-- loop.example/wharflog/laws.markRecDisk -/
def a101 : Ann := { modes := [.io, .shr], keep := [0], mir := [(0, 2)] }
/-- loop.example/wharflog/laws.markRecMessageS -/
def a102 : Ann := { modes := [.io, .shr], keep := [0], heads := lookD [(0, [0, 1, 5])] [], ends := lookT [(0, [0, 1])] }
/-- loop.example/wharflog/laws.markStringS -/
def a103 : Ann := { modes := [.io, .shr], keep := [0], heads := lookD [(0, [0, 1, 5])] [], ends := lookT [(0, [0, 1])] }
/-- loop.example/wharflog/laws.markIntS -/
def a104 : Ann := { modes := [.io, .shr], keep := [0], heads := lookD [(0, [0, 1, 5])] [], ends := lookT [(0, [0, 1])] }
/-- loop.example/wharflog/laws.markRecSlotS -/
def a105 : Ann := { modes := [.io, .shr], keep := [0], heads := lookD [(0, [0, 1, 5])] [], ends := lookT [(0, [0, 1])] }
/-- loop.example/wharflog/laws.markRecAckS -/
def a106 : Ann := { modes := [.io, .shr], keep := [0], heads := lookD [(0, [0, 1, 5])] [], ends := lookT [(0, [0, 1])] }
/-- loop.example/wharflog/laws.heldRecDisk -/
def a107 : Ann := {}
/-- loop.example/wharflog/laws.heldRecMessageS -/
def a108 : Ann := { heads := lookD [(0, [0, 1, 5])] [], ends := lookT [(0, [1])], draws := lookD [(22, [([0], [66]), ([5], [67]), ([0, 66, 67], [68]), ([0, 68], [69]), ([0, 69], [70]), ([1], [71]), ([71], [72]), ([70, 72], [73])])] [] }
/-- loop.example/wharflog/laws.heldStringS -/
def a109 : Ann := { heads := lookD [(0, [0, 1, 5])] [], ends := lookT [(0, [1])], draws := lookD [(4, [([0], [12]), ([5], [13]), ([0, 12, 13], [14]), ([0, 14], [15]), ([1], [16]), ([16], [17]), ([15, 17], [18])])] [] }
/-- loop.example/wharflog/laws.heldIntS -/
def a110 : Ann := { heads := lookD [(0, [0, 1, 5])] [], ends := lookT [(0, [1])] }
/-- loop.example/wharflog/laws.heldRecSlotS -/
def a111 : Ann := { heads := lookD [(0, [0, 1, 5])] [], ends := lookT [(0, [1])], draws := lookD [(7, [([0], [21]), ([5], [22]), ([0, 21, 22], [23]), ([0, 23], [24]), ([0, 24], [25]), ([1], [26]), ([26], [27]), ([25, 27], [28])])] [] }
/-- loop.example/wharflog/laws.heldRecAckS -/
def a112 : Ann := { heads := lookD [(0, [0, 1, 5])] [], ends := lookT [(0, [1])] }
/-- loop.example/wharflog/spec.l12Disk -/
def a118 : Ann := {}
/-- loop.example/wharflog/spec.l13WishesOk -/
def a119 : Ann := { heads := lookD [(2, [0, 3, 4]), (0, [0, 3])] [], ends := lookT [(2, [0, 3]), (0, [])], draws := lookD [(11, [([0], [33]), ([4], [34]), ([0, 33, 34], [35]), ([0, 35], [36]), ([0], [37]), ([3], [38]), ([0, 37, 38], [39]), ([0, 39], [40]), ([36, 40], [41])])] [] }
/-- loop.example/wharflog/spec.l13Numbers -/
def a120 : Ann := { heads := lookD [(0, [0, 1, 5])] [], ends := lookT [(0, [])], draws := lookD [(4, [([0], [12]), ([5], [13]), ([0, 12, 13], [14]), ([0, 14], [15]), ([1], [16]), ([15, 16], [17]), ([17], [18]), ([18], [19]), ([5, 19], [20]), ([19, 20], [21]), ([19, 21], [22]), ([0, 22], [23]), ([5, 22], [24]), ([22, 24], [25]), ([0, 22, 23, 25], [26]), ([0, 22, 26], [27]), ([0, 22], [28]), ([5, 22], [29]), ([0, 22, 28, 29], [30]), ([0, 22, 30], [31]), ([22, 27, 31], [32]), ([19, 22, 32], [33]), ([19, 33], [34])])] [] }
/-- loop.example/wharflog/spec.l13AcksOk -/
def a121 : Ann := { heads := lookD [(0, [0, 1, 5])] [], ends := lookT [(0, [])], draws := lookD [(4, [([0], [12]), ([5], [13]), ([0, 12, 13], [14]), ([0, 14], [15]), ([0, 15], [16]), ([16], [17]), ([17], [18]), ([18], [19]), ([0, 19], [20]), ([5, 19], [21]), ([0, 19, 20, 21], [22]), ([0, 19, 22], [23]), ([0, 19, 23], [24]), ([1, 19], [25]), ([0, 19, 24, 25], [26]), ([19, 26], [27]), ([19, 27], [28]), ([28], [29]), ([5, 29], [30]), ([29, 30], [31]), ([29, 31], [32]), ([0, 32], [33]), ([5, 32], [34]), ([32, 34], [35]), ([0, 32, 33, 35], [36]), ([0, 32, 36], [37]), ([0, 32, 37], [38]), ([0, 32], [39]), ([5, 32], [40]), ([0, 32, 39, 40], [41]), ([0, 32, 41], [42]), ([0, 32, 42], [43]), ([32, 38, 43], [44]), ([29, 32, 44], [45]), ([29, 45], [46])])] [] }
/-- loop.example/wharflog/spec.l13Quiet -/
def a122 : Ann := {}
/-- loop.example/wharflog/impl.people -/
def a123 : Ann := { heads := lookD [(0, [0, 1, 7, 8, 9])] [], ends := lookT [(0, [])] }
/-- slices.Contains[[]string,string] -/
def a124 : Ann := {}
/-- loop.example/wharflog/laws.szRecMessage -/
def a125 : Ann := {}
/-- loop.example/wharflog/laws.toRecMessage -/
def a127 : Ann := {}
/-- loop.example/wharflog/laws.eqRecMessage -/
def a132 : Ann := {}
/-- loop.example/wharflog/laws.markText -/
def a139 : Ann := { heads := lookD [(0, [0, 3])] [], ends := lookT [(0, [3])] }
/-- loop.example/wharflog/laws.szRecSlot -/
def a148 : Ann := {}
/-- loop.example/wharflog/laws.szRecAck -/
def a149 : Ann := {}
/-- loop.example/wharflog/spec.l13Messages -/
def a150 : Ann := { heads := lookD [(0, [0, 3, 4])] [], ends := lookT [(0, [3])] }
/-- loop.example/wharflog/spec.l14Has -/
def a151 : Ann := { heads := lookD [(0, [0, 1, 5])] [], ends := lookT [(0, [])] }
/-- loop.example/wharflog/laws.toRecSlot -/
def a152 : Ann := {}
/-- loop.example/wharflog/laws.toRecAck -/
def a153 : Ann := {}
/-- loop.example/wharflog/impl.cloneDisk -/
def a154 : Ann := {}
/-- loop.example/wharflog/impl.cloneMessages -/
def a155 : Ann := { heads := lookD [(0, [0, 3, 6, 7, 8])] [], ends := lookT [(0, [3])] }
/-- loop.example/wharflog/impl.cloneSlots -/
def a156 : Ann := {}
/-- (*loop.example/wharflog/impl.Recorder).known -/
def a157 : Ann := { keep := [0], heads := lookD [(0, [0, 1, 17, 18, 19])] [], ends := lookT [(0, [0])], draws := lookD [(1, [([0], [7]), ([0, 7], [8]), ([0, 8], [9]), ([0, 9], [10]), ([0, 10], [11]), ([0], [12]), ([0, 12], [13]), ([0, 13], [14]), ([0, 14], [15]), ([0, 15], [16]), ([0, 11, 16], [17]), ([0, 17], [18]), ([], [19])])] [] }
/-- loop.example/wharflog/laws.eqRecSlot -/
def a158 : Ann := {}
/-- loop.example/wharflog/laws.eqRecAck -/
def a159 : Ann := {}
/-- slices.Index[[]string,string] -/
def a164 : Ann := { heads := lookD [(0, [0, 1, 7, 8])] [], ends := lookT [(0, [])] }
/-- loop.example/wharflog/spec.l13Message -/
def a172 : Ann := {}
def anns : List (Nat × Ann) := [(6, a6), (27, a27), (28, a28), (29, a29), (30, a30), (31, a31), (32, a32), (33, a33), (34, a34), (35, a35), (36, a36), (37, a37), (44, a44), (45, a45), (48, a48), (55, a55), (60, a60), (71, a71), (73, a73), (74, a74), (80, a80), (81, a81), (82, a82), (83, a83), (84, a84), (85, a85), (86, a86), (87, a87), (88, a88), (89, a89), (90, a90), (91, a91), (92, a92), (93, a93), (94, a94), (95, a95), (96, a96), (97, a97), (98, a98), (99, a99), (100, a100), (101, a101), (102, a102), (103, a103), (104, a104), (105, a105), (106, a106), (107, a107), (108, a108), (109, a109), (110, a110), (111, a111), (112, a112), (118, a118), (119, a119), (120, a120), (121, a121), (122, a122), (123, a123), (124, a124), (125, a125), (127, a127), (132, a132), (139, a139), (148, a148), (149, a149), (150, a150), (151, a151), (152, a152), (153, a153), (154, a154), (155, a155), (156, a156), (157, a157), (158, a158), (159, a159), (164, a164), (172, a172)]
def eqs : List Nat := [51]
def E : Env := ⟨lookT tbl, fun t => eqs.contains t, lookD anns {}, []⟩
set_option maxRecDepth 100000
theorem eT : E.T 2 = some ⟨.prim, 1, 8, [.p (.int .i64 0)]⟩ ∧
  E.T 3 = some ⟨.prim, 1, 8, [.p (.int .i64 0)]⟩ ∧
  E.T 4 = some ⟨.prim, 1, 1, [.p (.bool false)]⟩ ∧
  E.T 5 = some ⟨.prim, 1, 1, [.p (.int .u8 0)]⟩ ∧
  E.T 6 = some ⟨.prim, 1, 1, [.p (.int .u8 0)]⟩ ∧
  E.T 7 = some ⟨.strct [(0, 1, false), (1, 1, false), (2, 1, false), (3, 1, false)], 4, 24, [.p (.int .i64 0), .p (.int .i64 0), .p (.bool false), .p (.int .u8 0)]⟩ ∧
  E.T 8 = some ⟨.strct [(0, 1, false), (1, 1, false), (2, 1, false), (3, 1, false)], 4, 24, [.p (.int .i64 0), .p (.int .i64 0), .p (.bool false), .p (.int .u8 0)]⟩ ∧
  E.T 9 = some ⟨.prim, 1, 16, [.p (.string ⟨#[]⟩)]⟩ ∧
  E.T 10 = some ⟨.prim, 1, 16, [.p (.string ⟨#[]⟩)]⟩ ∧
  E.T 11 = some ⟨.prim, 1, 16, [.p (.string ⟨#[]⟩)]⟩ ∧
  E.T 12 = some ⟨.prim, 1, 8, [.p (.int .u64 0)]⟩ ∧
  E.T 13 = some ⟨.strct [(0, 1, false), (1, 1, false)], 2, 24, [.p (.string ⟨#[]⟩), .p (.int .u64 0)]⟩ ∧
  E.T 14 = some ⟨.strct [(0, 1, false), (1, 1, false)], 2, 24, [.p (.string ⟨#[]⟩), .p (.int .u64 0)]⟩ ∧
  E.T 15 = some ⟨.ptr 222, 1, 8, [.p (.pointer none)]⟩ ∧
  E.T 16 = some ⟨.ptr 225, 1, 8, [.p (.pointer none)]⟩ ∧
  E.T 17 = some ⟨.ptr 235, 1, 8, [.p (.pointer none)]⟩ ∧
  E.T 18 = some ⟨.strct [(0, 1, false)], 1, 8, [.p (.pointer none)]⟩ ∧
  E.T 19 = some ⟨.strct [(0, 1, false)], 1, 8, [.p (.pointer none)]⟩ ∧
  E.T 21 = some ⟨.prim, 1, 4, [.p (.int .i32 0)]⟩ ∧
  E.T 22 = some ⟨.slc 72, 1, 24, [.sl .own 18 []]⟩ ∧
  E.T 23 = some ⟨.slc 142, 1, 24, [.sl .own 8 []]⟩ ∧
  E.T 24 = some ⟨.slc 145, 1, 24, [.sl .own 2 []]⟩ ∧
  E.T 25 = some ⟨.strct [(0, 1, false), (1, 1, false), (2, 1, false)], 3, 72, [.sl .own 18 [], .sl .own 8 [], .sl .own 2 []]⟩ ∧
  E.T 26 = some ⟨.strct [(0, 1, false), (1, 1, false), (2, 1, false)], 3, 72, [.sl .own 18 [], .sl .own 8 [], .sl .own 2 []]⟩ ∧
  E.T 29 = some ⟨.slc 76, 1, 24, [.sl .own 18 []]⟩ ∧
  E.T 30 = some ⟨.slc 59, 1, 24, [.sl .own 8 []]⟩ ∧
  E.T 31 = some ⟨.slc 146, 1, 24, [.sl .own 2 []]⟩ ∧
  E.T 32 = some ⟨.strct [(0, 1, false), (1, 1, false), (2, 1, false)], 3, 72, [.sl .own 18 [], .sl .own 8 [], .sl .own 2 []]⟩ ∧
  E.T 33 = some ⟨.strct [(0, 1, false), (1, 1, false), (2, 1, false)], 3, 72, [.sl .own 18 [], .sl .own 8 [], .sl .own 2 []]⟩ ∧
  E.T 37 = some ⟨.slc 165, 1, 24, [.sl .own 9 []]⟩ ∧
  E.T 38 = some ⟨.strct [(0, 3, true), (3, 1, false), (4, 1, false)], 5, 104, [.sl .own 18 [], .sl .own 8 [], .sl .own 2 [], .p (.int .i64 0), .sl .own 9 []]⟩ ∧
  E.T 39 = some ⟨.strct [(0, 3, true), (3, 1, false), (4, 1, false)], 5, 104, [.sl .own 18 [], .sl .own 8 [], .sl .own 2 [], .p (.int .i64 0), .sl .own 9 []]⟩ ∧
  E.T 44 = some ⟨.slc 5, 1, 24, [.sl .own 1 []]⟩ ∧
  E.T 45 = some ⟨.slc 51, 1, 24, [.sl .own 2 []]⟩ ∧
  E.T 50 = some ⟨.strct [(0, 1, false), (1, 1, false)], 2, 24, [.p (.int .i64 0), .p (.string ⟨#[]⟩)]⟩ ∧
  E.T 51 = some ⟨.strct [(0, 1, false), (1, 1, false)], 2, 24, [.p (.int .i64 0), .p (.string ⟨#[]⟩)]⟩ ∧
  E.T 55 = some ⟨.strct [(0, 1, false), (1, 1, false), (2, 1, false)], 3, 40, [.p (.int .i64 0), .p (.int .i64 0), .sl .own 2 []]⟩ ∧
  E.T 56 = some ⟨.strct [(0, 1, false), (1, 1, false), (2, 1, false)], 3, 40, [.p (.int .i64 0), .p (.int .i64 0), .sl .own 2 []]⟩ ∧
  E.T 58 = some ⟨.strct [(0, 1, false), (1, 1, false), (2, 1, false), (3, 1, false), (4, 1, false), (5, 1, false), (6, 1, false), (7, 1, false)], 8, 88, [.p (.int .i64 0), .p (.int .i64 0), .p (.int .i64 0), .p (.int .i64 0), .p (.int .i64 0), .p (.int .i64 0), .p (.string ⟨#[]⟩), .sl .own 2 []]⟩ ∧
  E.T 59 = some ⟨.strct [(0, 1, false), (1, 1, false), (2, 1, false), (3, 1, false), (4, 1, false), (5, 1, false), (6, 1, false), (7, 1, false)], 8, 88, [.p (.int .i64 0), .p (.int .i64 0), .p (.int .i64 0), .p (.int .i64 0), .p (.int .i64 0), .p (.int .i64 0), .p (.string ⟨#[]⟩), .sl .own 2 []]⟩ ∧
  E.T 65 = some ⟨.slc 176, 1, 24, [.sl .own 2 []]⟩ ∧
  E.T 66 = some ⟨.strct [(0, 1, false), (1, 1, false), (2, 1, false)], 3, 40, [.p (.int .i64 0), .p (.int .i64 0), .sl .own 2 []]⟩ ∧
  E.T 67 = some ⟨.strct [(0, 1, false), (1, 1, false), (2, 1, false)], 3, 40, [.p (.int .i64 0), .p (.int .i64 0), .sl .own 2 []]⟩ ∧
  E.T 68 = some ⟨.slc 9, 1, 24, [.sl .own 1 []]⟩ ∧
  E.T 69 = some ⟨.slc 3, 1, 24, [.sl .own 1 []]⟩ ∧
  E.T 70 = some ⟨.slc 178, 1, 24, [.sl .own 2 []]⟩ ∧
  E.T 71 = some ⟨.strct [(0, 1, false), (1, 1, false), (2, 1, false), (3, 3, true), (6, 3, true), (9, 1, false), (10, 1, false), (11, 1, false), (12, 1, false), (13, 1, false), (14, 1, false), (15, 1, false), (16, 1, false), (17, 1, false)], 18, 248, [.p (.int .i64 0), .p (.int .i64 0), .p (.bool false), .p (.int .i64 0), .p (.int .i64 0), .sl .own 2 [], .p (.int .i64 0), .p (.int .i64 0), .sl .own 2 [], .sl .own 8 [], .sl .own 1 [], .p (.bool false), .p (.bool false), .p (.int .i64 0), .sl .own 1 [], .sl .own 2 [], .sl .own 2 [], .p (.int .i64 0)]⟩ ∧
  E.T 72 = some ⟨.strct [(0, 1, false), (1, 1, false), (2, 1, false), (3, 3, true), (6, 3, true), (9, 1, false), (10, 1, false), (11, 1, false), (12, 1, false), (13, 1, false), (14, 1, false), (15, 1, false), (16, 1, false), (17, 1, false)], 18, 248, [.p (.int .i64 0), .p (.int .i64 0), .p (.bool false), .p (.int .i64 0), .p (.int .i64 0), .sl .own 2 [], .p (.int .i64 0), .p (.int .i64 0), .sl .own 2 [], .sl .own 8 [], .sl .own 1 [], .p (.bool false), .p (.bool false), .p (.int .i64 0), .sl .own 1 [], .sl .own 2 [], .sl .own 2 [], .p (.int .i64 0)]⟩ ∧
  E.T 74 = some ⟨.slc 134, 1, 24, [.sl .own 2 []]⟩ ∧
  E.T 75 = some ⟨.strct [(0, 1, false), (1, 1, false), (2, 1, false), (3, 3, true), (6, 3, true), (9, 1, false), (10, 1, false), (11, 1, false), (12, 1, false), (13, 1, false), (14, 1, false), (15, 1, false), (16, 1, false), (17, 1, false)], 18, 248, [.p (.int .i64 0), .p (.int .i64 0), .p (.bool false), .p (.int .i64 0), .p (.int .i64 0), .sl .own 2 [], .p (.int .i64 0), .p (.int .i64 0), .sl .own 2 [], .sl .own 8 [], .sl .own 1 [], .p (.bool false), .p (.bool false), .p (.int .i64 0), .sl .own 1 [], .sl .own 2 [], .sl .own 2 [], .p (.int .i64 0)]⟩ ∧
  E.T 76 = some ⟨.strct [(0, 1, false), (1, 1, false), (2, 1, false), (3, 3, true), (6, 3, true), (9, 1, false), (10, 1, false), (11, 1, false), (12, 1, false), (13, 1, false), (14, 1, false), (15, 1, false), (16, 1, false), (17, 1, false)], 18, 248, [.p (.int .i64 0), .p (.int .i64 0), .p (.bool false), .p (.int .i64 0), .p (.int .i64 0), .sl .own 2 [], .p (.int .i64 0), .p (.int .i64 0), .sl .own 2 [], .sl .own 8 [], .sl .own 1 [], .p (.bool false), .p (.bool false), .p (.int .i64 0), .sl .own 1 [], .sl .own 2 [], .sl .own 2 [], .p (.int .i64 0)]⟩ ∧
  E.T 103 = some ⟨.ptr 172, 1, 8, [.p (.pointer none)]⟩ ∧
  E.T 133 = some ⟨.strct [(0, 1, false), (1, 1, false)], 2, 32, [.p (.int .i64 0), .sl .own 1 []]⟩ ∧
  E.T 134 = some ⟨.strct [(0, 1, false), (1, 1, false)], 2, 32, [.p (.int .i64 0), .sl .own 1 []]⟩ ∧
  E.T 141 = some ⟨.strct [(0, 1, false), (1, 1, false), (2, 1, false), (3, 1, false), (4, 1, false), (5, 1, false), (6, 1, false), (7, 1, false)], 8, 88, [.p (.int .i64 0), .p (.int .i64 0), .p (.int .i64 0), .p (.int .i64 0), .p (.int .i64 0), .p (.int .i64 0), .p (.string ⟨#[]⟩), .sl .own 2 []]⟩ ∧
  E.T 142 = some ⟨.strct [(0, 1, false), (1, 1, false), (2, 1, false), (3, 1, false), (4, 1, false), (5, 1, false), (6, 1, false), (7, 1, false)], 8, 88, [.p (.int .i64 0), .p (.int .i64 0), .p (.int .i64 0), .p (.int .i64 0), .p (.int .i64 0), .p (.int .i64 0), .p (.string ⟨#[]⟩), .sl .own 2 []]⟩ ∧
  E.T 144 = some ⟨.strct [(0, 1, false), (1, 1, false)], 2, 24, [.p (.int .i64 0), .p (.string ⟨#[]⟩)]⟩ ∧
  E.T 145 = some ⟨.strct [(0, 1, false), (1, 1, false)], 2, 24, [.p (.int .i64 0), .p (.string ⟨#[]⟩)]⟩ ∧
  E.T 146 = some ⟨.strct [(0, 1, false), (1, 1, false)], 2, 24, [.p (.int .i64 0), .p (.string ⟨#[]⟩)]⟩ ∧
  E.T 149 = some ⟨.ptr 33, 1, 8, [.p (.pointer none)]⟩ ∧
  E.T 156 = some ⟨.slc 193, 1, 24, [.sl .own 3 []]⟩ ∧
  E.T 157 = some ⟨.slc 195, 1, 24, [.sl .own 6 []]⟩ ∧
  E.T 158 = some ⟨.strct [(0, 1, false), (1, 1, false)], 2, 48, [.sl .own 3 [], .sl .own 6 []]⟩ ∧
  E.T 159 = some ⟨.strct [(0, 1, false), (1, 1, false)], 2, 48, [.sl .own 3 [], .sl .own 6 []]⟩ ∧
  E.T 160 = some ⟨.strct [(0, 1, false), (1, 1, false), (2, 2, true)], 4, 72, [.p (.string ⟨#[]⟩), .p (.int .i64 0), .sl .own 3 [], .sl .own 6 []]⟩ ∧
  E.T 161 = some ⟨.strct [(0, 1, false), (1, 1, false), (2, 2, true)], 4, 72, [.p (.string ⟨#[]⟩), .p (.int .i64 0), .sl .own 3 [], .sl .own 6 []]⟩ ∧
  E.T 162 = some ⟨.strct [(0, 1, false), (1, 1, false), (2, 1, false)], 3, 24, [.p (.int .i64 0), .p (.int .i64 0), .p (.bool false)]⟩ ∧
  E.T 163 = some ⟨.strct [(0, 1, false), (1, 1, false), (2, 1, false)], 3, 24, [.p (.int .i64 0), .p (.int .i64 0), .p (.bool false)]⟩ ∧
  E.T 164 = some ⟨.strct [(0, 4, true), (4, 1, false), (5, 1, false), (6, 3, true)], 9, 112, [.p (.string ⟨#[]⟩), .p (.int .i64 0), .sl .own 3 [], .sl .own 6 [], .p (.int .i64 0), .p (.int .i64 0), .p (.int .i64 0), .p (.int .i64 0), .p (.bool false)]⟩ ∧
  E.T 165 = some ⟨.strct [(0, 4, true), (4, 1, false), (5, 1, false), (6, 3, true)], 9, 112, [.p (.string ⟨#[]⟩), .p (.int .i64 0), .sl .own 3 [], .sl .own 6 [], .p (.int .i64 0), .p (.int .i64 0), .p (.int .i64 0), .p (.int .i64 0), .p (.bool false)]⟩ ∧
  E.T 171 = some ⟨.strct [(0, 1, false), (1, 1, false)], 2, 32, [.sl .own 1 [], .p (.int .i64 0)]⟩ ∧
  E.T 172 = some ⟨.strct [(0, 1, false), (1, 1, false)], 2, 32, [.sl .own 1 [], .p (.int .i64 0)]⟩ ∧
  E.T 176 = some ⟨.strct [(0, 1, false), (1, 1, false)], 2, 24, [.p (.int .i64 0), .p (.string ⟨#[]⟩)]⟩ ∧
  E.T 178 = some ⟨.strct [(0, 1, false), (1, 1, false)], 2, 32, [.p (.int .i64 0), .sl .own 1 []]⟩ ∧
  E.T 183 = some ⟨.ptr 76, 1, 8, [.p (.pointer none)]⟩ ∧
  E.T 189 = some ⟨.mp 51 3, 1, 8, [.p (.map none)]⟩ ∧
  E.T 192 = some ⟨.strct [(0, 1, false), (1, 1, false), (2, 1, false)], 3, 40, [.p (.string ⟨#[]⟩), .p (.string ⟨#[]⟩), .p (.int .i64 0)]⟩ ∧
  E.T 193 = some ⟨.strct [(0, 1, false), (1, 1, false), (2, 1, false)], 3, 40, [.p (.string ⟨#[]⟩), .p (.string ⟨#[]⟩), .p (.int .i64 0)]⟩ ∧
  E.T 194 = some ⟨.strct [(0, 1, false), (1, 1, false), (2, 1, false), (3, 1, false), (4, 1, false), (5, 1, false)], 6, 80, [.p (.int .i64 0), .p (.string ⟨#[]⟩), .p (.string ⟨#[]⟩), .p (.int .i64 0), .p (.string ⟨#[]⟩), .p (.string ⟨#[]⟩)]⟩ ∧
  E.T 195 = some ⟨.strct [(0, 1, false), (1, 1, false), (2, 1, false), (3, 1, false), (4, 1, false), (5, 1, false)], 6, 80, [.p (.int .i64 0), .p (.string ⟨#[]⟩), .p (.string ⟨#[]⟩), .p (.int .i64 0), .p (.string ⟨#[]⟩), .p (.string ⟨#[]⟩)]⟩ ∧
  E.T 197 = some ⟨.strct [(0, 1, false), (1, 1, false), (2, 1, false)], 3, 32, [.p (.int .i64 0), .p (.int .i64 0), .p (.string ⟨#[]⟩)]⟩ ∧
  E.T 198 = some ⟨.strct [(0, 1, false), (1, 1, false), (2, 1, false)], 3, 32, [.p (.int .i64 0), .p (.int .i64 0), .p (.string ⟨#[]⟩)]⟩ ∧
  E.T 221 = some ⟨.strct [(0, 1, false), (1, 1, false), (2, 1, false), (3, 1, false)], 4, 40, [.p (.pointer none), .p (.pointer none), .p (.pointer none), .p (.string ⟨#[]⟩)]⟩ ∧
  E.T 222 = some ⟨.strct [(0, 1, false), (1, 1, false), (2, 1, false), (3, 1, false)], 4, 40, [.p (.pointer none), .p (.pointer none), .p (.pointer none), .p (.string ⟨#[]⟩)]⟩ ∧
  E.T 227 = some ⟨.prim, 1, 4, [.p (.int .u32 0)]⟩ ∧
  E.T 228 = some ⟨.prim, 1, 1, [.p (.int .u8 0)]⟩ ∧
  E.T 229 = some ⟨.prim, 1, 1, [.p (.int .u8 0)]⟩ ∧
  E.T 231 = some ⟨.ptr 5, 1, 8, [.p (.pointer none)]⟩ ∧
  E.T 232 = some ⟨.prim, 1, 4, [.p (.int .i32 0)]⟩ ∧
  E.T 233 = some ⟨.prim, 1, 4, [.p (.int .i32 0)]⟩ := by
  refine ⟨?_, ?_, ?_, ?_, ?_, ?_, ?_, ?_, ?_, ?_, ?_, ?_, ?_, ?_, ?_, ?_, ?_, ?_, ?_, ?_, ?_, ?_, ?_, ?_, ?_, ?_, ?_, ?_, ?_, ?_, ?_, ?_, ?_, ?_, ?_, ?_, ?_, ?_, ?_, ?_, ?_, ?_, ?_, ?_, ?_, ?_, ?_, ?_, ?_, ?_, ?_, ?_, ?_, ?_, ?_, ?_, ?_, ?_, ?_, ?_, ?_, ?_, ?_, ?_, ?_, ?_, ?_, ?_, ?_, ?_, ?_, ?_, ?_, ?_, ?_, ?_, ?_, ?_, ?_, ?_, ?_, ?_, ?_, ?_, ?_, ?_, ?_, ?_, ?_, ?_⟩ <;> rfl
theorem eQ : E.eqT 51 = true := by
  rfl
theorem e6 : (E.ann 6).ext = false ∧ (E.ann 6).modes = [] ∧ (E.ann 6).keep = [] ∧ (E.ann 6).mir = [] ∧ (E.ann 6).draws 12 = [([7], [34]), ([2], [35]), ([2, 35], [36]), ([7, 34, 36], [37]), ([37], [38])] ∧ (E.ann 6).free 12 = none := by
  refine ⟨?_, ?_, ?_, ?_, ?_, ?_⟩ <;> rfl
theorem e27 : (E.ann 27).ext = false ∧ (E.ann 27).modes = [] ∧ (E.ann 27).keep = [] ∧ (E.ann 27).mir = [] ∧ (E.ann 27).heads 0 = [1, 25, 26, 27] ∧ (E.ann 27).rng 0 = none ∧ (E.ann 27).ends 0 = some [] ∧ (E.ann 27).ends 1 = none := by
  refine ⟨?_, ?_, ?_, ?_, ?_, ?_, ?_, ?_⟩ <;> rfl
theorem e28 : (E.ann 28).ext = false ∧ (E.ann 28).modes = [] ∧ (E.ann 28).keep = [] ∧ (E.ann 28).mir = [] ∧ (E.ann 28).heads 0 = [1, 3] ∧ (E.ann 28).rng 0 = none ∧ (E.ann 28).ends 0 = some [] ∧ (E.ann 28).ends 1 = none ∧ (E.ann 28).draws 6 = [([1], [30]), ([1, 30], [31]), ([3], [32]), ([1, 31, 32], [33]), ([1, 33], [34]), ([1, 34], [35]), ([1], [36]), ([1, 36], [37]), ([35, 37], [38]), ([38], [39]), ([3, 39], [40]), ([1, 39], [41]), ([1, 39, 41], [42]), ([39, 40, 42], [43]), ([39, 43], [44]), ([1, 44], [45]), ([1, 44, 45], [46]), ([3, 44], [47]), ([1, 44, 46, 47], [48]), ([1, 44, 48], [49]), ([1, 44, 49], [50]), ([44, 50], [51]), ([39, 44, 51], [52]), ([39, 52], [53])] ∧ (E.ann 28).free 6 = none := by
  refine ⟨?_, ?_, ?_, ?_, ?_, ?_, ?_, ?_, ?_, ?_⟩ <;> rfl
theorem e29 : (E.ann 29).ext = false ∧ (E.ann 29).modes = [] ∧ (E.ann 29).keep = [] ∧ (E.ann 29).mir = [] := by
  refine ⟨?_, ?_, ?_, ?_⟩ <;> rfl
theorem e30 : (E.ann 30).ext = false ∧ (E.ann 30).modes = [] ∧ (E.ann 30).keep = [] ∧ (E.ann 30).mir = [] := by
  refine ⟨?_, ?_, ?_, ?_⟩ <;> rfl
theorem e31 : (E.ann 31).ext = false ∧ (E.ann 31).modes = [] ∧ (E.ann 31).keep = [] ∧ (E.ann 31).mir = [] := by
  refine ⟨?_, ?_, ?_, ?_⟩ <;> rfl
theorem e32 : (E.ann 32).ext = false ∧ (E.ann 32).modes = [] ∧ (E.ann 32).keep = [] ∧ (E.ann 32).mir = [] := by
  refine ⟨?_, ?_, ?_, ?_⟩ <;> rfl
theorem e33 : (E.ann 33).ext = false ∧ (E.ann 33).modes = [] ∧ (E.ann 33).keep = [] ∧ (E.ann 33).mir = [] := by
  refine ⟨?_, ?_, ?_, ?_⟩ <;> rfl
theorem e34 : (E.ann 34).ext = false ∧ (E.ann 34).modes = [] ∧ (E.ann 34).keep = [] ∧ (E.ann 34).mir = [] := by
  refine ⟨?_, ?_, ?_, ?_⟩ <;> rfl
theorem e35 : (E.ann 35).ext = false ∧ (E.ann 35).modes = [] ∧ (E.ann 35).keep = [] ∧ (E.ann 35).mir = [] := by
  refine ⟨?_, ?_, ?_, ?_⟩ <;> rfl
theorem e36 : (E.ann 36).ext = false ∧ (E.ann 36).modes = [.io, .shr] ∧ (E.ann 36).keep = [0] ∧ (E.ann 36).mir = [(0, 2)] := by
  refine ⟨?_, ?_, ?_, ?_⟩ <;> rfl
theorem e37 : (E.ann 37).ext = false ∧ (E.ann 37).modes = [] ∧ (E.ann 37).keep = [] ∧ (E.ann 37).mir = [] := by
  refine ⟨?_, ?_, ?_, ?_⟩ <;> rfl
theorem e44 : (E.ann 44).ext = false ∧ (E.ann 44).modes = [] ∧ (E.ann 44).keep = [] ∧ (E.ann 44).mir = [] ∧ (E.ann 44).heads 0 = [1, 3] ∧ (E.ann 44).rng 0 = none ∧ (E.ann 44).ends 0 = some [1] ∧ (E.ann 44).ends 1 = none ∧ (E.ann 44).draws 6 = [([1], [53]), ([1, 53], [54]), ([3], [55]), ([1, 54, 55], [56]), ([1, 56], [57]), ([1], [58]), ([1, 58], [59]), ([1, 57, 59], [60]), ([60], [61]), ([61], [62]), ([1, 62], [63]), ([1, 62, 63], [64]), ([3, 62], [65]), ([1, 62, 64, 65], [66]), ([1, 62, 66], [67]), ([1, 62, 67], [68]), ([1, 62], [69]), ([1, 62, 69], [70]), ([62, 68, 70], [71]), ([62, 71], [72])] ∧ (E.ann 44).free 6 = none := by
  refine ⟨?_, ?_, ?_, ?_, ?_, ?_, ?_, ?_, ?_, ?_⟩ <;> rfl
theorem e45 : (E.ann 45).ext = false ∧ (E.ann 45).modes = [] ∧ (E.ann 45).keep = [] ∧ (E.ann 45).mir = [] ∧ (E.ann 45).heads 4 = [1, 107, 108, 109] ∧ (E.ann 45).heads 2 = [1, 86, 87, 88] ∧ (E.ann 45).heads 0 = [1, 66, 67, 68] ∧ (E.ann 45).rng 0 = none ∧ (E.ann 45).ends 0 = some [1] ∧ (E.ann 45).ends 1 = none ∧ (E.ann 45).rng 2 = none ∧ (E.ann 45).ends 2 = some [1] ∧ (E.ann 45).ends 3 = none ∧ (E.ann 45).rng 4 = none ∧ (E.ann 45).ends 4 = some [1] ∧ (E.ann 45).ends 5 = none ∧ (E.ann 45).draws 18 = [([8], [114]), ([8, 114], [115]), ([115], [116]), ([116], [117]), ([117], [118]), ([8, 118], [119]), ([8, 118, 119], [120]), ([1, 118], [121]), ([1, 118, 121], [122]), ([8, 118, 120, 122], [123]), ([118, 123], [124]), ([118, 124], [125]), ([125], [126]), ([7, 126], [127]), ([126, 127], [128]), ([126, 128], [129]), ([8, 129], [130]), ([8, 129, 130], [131]), ([1, 129], [132]), ([1, 129, 132], [133]), ([7, 129], [134]), ([129, 134], [135]), ([1, 129, 133, 135], [136]), ([1, 129, 136], [137]), ([1, 129, 137], [138]), ([129, 131, 138], [139]), ([126, 129, 139], [140]), ([126, 140], [141])] ∧ (E.ann 45).free 18 = none := by
  refine ⟨?_, ?_, ?_, ?_, ?_, ?_, ?_, ?_, ?_, ?_, ?_, ?_, ?_, ?_, ?_, ?_, ?_, ?_⟩ <;> rfl
theorem e48 : (E.ann 48).ext = false ∧ (E.ann 48).modes = [] ∧ (E.ann 48).keep = [] ∧ (E.ann 48).mir = [] ∧ (E.ann 48).heads 0 = [0, 1, 5] ∧ (E.ann 48).rng 0 = none ∧ (E.ann 48).ends 0 = some [1] ∧ (E.ann 48).ends 1 = none := by
  refine ⟨?_, ?_, ?_, ?_, ?_, ?_, ?_, ?_⟩ <;> rfl
theorem e55 : (E.ann 55).ext = false ∧ (E.ann 55).modes = [] ∧ (E.ann 55).keep = [] ∧ (E.ann 55).mir = [] ∧ (E.ann 55).heads 0 = [0, 3, 4] ∧ (E.ann 55).rng 0 = none ∧ (E.ann 55).ends 0 = some [3] ∧ (E.ann 55).ends 1 = none := by
  refine ⟨?_, ?_, ?_, ?_, ?_, ?_, ?_, ?_⟩ <;> rfl
theorem e60 : (E.ann 60).ext = false ∧ (E.ann 60).modes = [] ∧ (E.ann 60).keep = [] ∧ (E.ann 60).mir = [] ∧ (E.ann 60).heads 0 = [0, 1, 5] ∧ (E.ann 60).rng 0 = none ∧ (E.ann 60).ends 0 = some [] ∧ (E.ann 60).ends 1 = none ∧ (E.ann 60).draws 6 = [([0], [17]), ([5], [18]), ([0, 17, 18], [19]), ([0, 19], [20]), ([1], [21]), ([5], [22]), ([1, 21, 22], [23]), ([1, 23], [24]), ([0, 1, 20, 24], [25]), ([25], [26])] ∧ (E.ann 60).free 6 = none := by
  refine ⟨?_, ?_, ?_, ?_, ?_, ?_, ?_, ?_, ?_, ?_⟩ <;> rfl
theorem e71 : (E.ann 71).ext = false ∧ (E.ann 71).modes = [] ∧ (E.ann 71).keep = [] ∧ (E.ann 71).mir = [] := by
  refine ⟨?_, ?_, ?_, ?_⟩ <;> rfl
theorem e73 : (E.ann 73).ext = false ∧ (E.ann 73).modes = [] ∧ (E.ann 73).keep = [] ∧ (E.ann 73).mir = [] := by
  refine ⟨?_, ?_, ?_, ?_⟩ <;> rfl
theorem e74 : (E.ann 74).ext = false ∧ (E.ann 74).modes = [] ∧ (E.ann 74).keep = [] ∧ (E.ann 74).mir = [] := by
  refine ⟨?_, ?_, ?_, ?_⟩ <;> rfl
theorem e80 : (E.ann 80).ext = false ∧ (E.ann 80).modes = [] ∧ (E.ann 80).keep = [] ∧ (E.ann 80).mir = [] ∧ (E.ann 80).heads 0 = [0, 8, 9, 10] ∧ (E.ann 80).rng 0 = none ∧ (E.ann 80).ends 0 = some [] ∧ (E.ann 80).ends 1 = none := by
  refine ⟨?_, ?_, ?_, ?_, ?_, ?_, ?_, ?_⟩ <;> rfl
theorem e81 : (E.ann 81).ext = false ∧ (E.ann 81).modes = [] ∧ (E.ann 81).keep = [] ∧ (E.ann 81).mir = [] ∧ (E.ann 81).heads 0 = [0, 3] ∧ (E.ann 81).rng 0 = none ∧ (E.ann 81).ends 0 = some [] ∧ (E.ann 81).ends 1 = none := by
  refine ⟨?_, ?_, ?_, ?_, ?_, ?_, ?_, ?_⟩ <;> rfl
theorem e82 : (E.ann 82).ext = false ∧ (E.ann 82).modes = [] ∧ (E.ann 82).keep = [] ∧ (E.ann 82).mir = [] := by
  refine ⟨?_, ?_, ?_, ?_⟩ <;> rfl
theorem e83 : (E.ann 83).ext = false ∧ (E.ann 83).modes = [] ∧ (E.ann 83).keep = [] ∧ (E.ann 83).mir = [] ∧ (E.ann 83).heads 0 = [0, 1, 5] ∧ (E.ann 83).rng 0 = none ∧ (E.ann 83).ends 0 = some [1] ∧ (E.ann 83).ends 1 = none := by
  refine ⟨?_, ?_, ?_, ?_, ?_, ?_, ?_, ?_⟩ <;> rfl
theorem e84 : (E.ann 84).ext = false ∧ (E.ann 84).modes = [] ∧ (E.ann 84).keep = [] ∧ (E.ann 84).mir = [] := by
  refine ⟨?_, ?_, ?_, ?_⟩ <;> rfl
theorem e85 : (E.ann 85).ext = false ∧ (E.ann 85).modes = [] ∧ (E.ann 85).keep = [] ∧ (E.ann 85).mir = [] ∧ (E.ann 85).heads 0 = [0, 1, 5] ∧ (E.ann 85).rng 0 = none ∧ (E.ann 85).ends 0 = some [1] ∧ (E.ann 85).ends 1 = none := by
  refine ⟨?_, ?_, ?_, ?_, ?_, ?_, ?_, ?_⟩ <;> rfl
theorem e86 : (E.ann 86).ext = false ∧ (E.ann 86).modes = [] ∧ (E.ann 86).keep = [] ∧ (E.ann 86).mir = [] ∧ (E.ann 86).heads 0 = [0, 1, 5] ∧ (E.ann 86).rng 0 = none ∧ (E.ann 86).ends 0 = some [1] ∧ (E.ann 86).ends 1 = none := by
  refine ⟨?_, ?_, ?_, ?_, ?_, ?_, ?_, ?_⟩ <;> rfl
theorem e87 : (E.ann 87).ext = false ∧ (E.ann 87).modes = [] ∧ (E.ann 87).keep = [] ∧ (E.ann 87).mir = [] ∧ (E.ann 87).heads 0 = [1, 2, 3, 4] ∧ (E.ann 87).rng 0 = none ∧ (E.ann 87).ends 0 = some [1, 2, 3] ∧ (E.ann 87).ends 1 = none ∧ (E.ann 87).draws 11 = [([3], [39]), ([1], [40]), ([1, 40], [41]), ([4], [42]), ([1, 41, 42], [43]), ([1, 43], [44]), ([1, 44], [45]), ([], [46]), ([1], [47]), ([1, 47], [48]), ([4], [49]), ([1, 48, 49], [50]), ([1, 50], [51]), ([1, 51], [52]), ([1, 46, 52], [46, 53]), ([45, 53], [45, 53, 54]), ([54], [54, 55]), ([3, 39, 55], [3, 39, 55, 56]), ([56], [3, 56])] ∧ (E.ann 87).free 11 = none := by
  refine ⟨?_, ?_, ?_, ?_, ?_, ?_, ?_, ?_, ?_, ?_⟩ <;> rfl
theorem e88 : (E.ann 88).ext = false ∧ (E.ann 88).modes = [.mv, .shr] ∧ (E.ann 88).keep = [] ∧ (E.ann 88).mir = [] ∧ (E.ann 88).heads 0 = [1, 2, 4, 5] ∧ (E.ann 88).rng 0 = none ∧ (E.ann 88).ends 0 = some [1, 2, 4] ∧ (E.ann 88).ends 1 = none := by
  refine ⟨?_, ?_, ?_, ?_, ?_, ?_, ?_, ?_⟩ <;> rfl
theorem e89 : (E.ann 89).ext = false ∧ (E.ann 89).modes = [] ∧ (E.ann 89).keep = [] ∧ (E.ann 89).mir = [] := by
  refine ⟨?_, ?_, ?_, ?_⟩ <;> rfl
theorem e90 : (E.ann 90).ext = false ∧ (E.ann 90).modes = [] ∧ (E.ann 90).keep = [] ∧ (E.ann 90).mir = [] ∧ (E.ann 90).heads 0 = [0, 3, 4] ∧ (E.ann 90).rng 0 = none ∧ (E.ann 90).ends 0 = some [3] ∧ (E.ann 90).ends 1 = none := by
  refine ⟨?_, ?_, ?_, ?_, ?_, ?_, ?_, ?_⟩ <;> rfl
theorem e91 : (E.ann 91).ext = false ∧ (E.ann 91).modes = [] ∧ (E.ann 91).keep = [] ∧ (E.ann 91).mir = [] ∧ (E.ann 91).heads 0 = [0, 3, 4] ∧ (E.ann 91).rng 0 = none ∧ (E.ann 91).ends 0 = some [3] ∧ (E.ann 91).ends 1 = none := by
  refine ⟨?_, ?_, ?_, ?_, ?_, ?_, ?_, ?_⟩ <;> rfl
theorem e92 : (E.ann 92).ext = false ∧ (E.ann 92).modes = [] ∧ (E.ann 92).keep = [] ∧ (E.ann 92).mir = [] ∧ (E.ann 92).heads 0 = [0, 3, 4] ∧ (E.ann 92).rng 0 = none ∧ (E.ann 92).ends 0 = some [3] ∧ (E.ann 92).ends 1 = none := by
  refine ⟨?_, ?_, ?_, ?_, ?_, ?_, ?_, ?_⟩ <;> rfl
theorem e93 : (E.ann 93).ext = false ∧ (E.ann 93).modes = [] ∧ (E.ann 93).keep = [] ∧ (E.ann 93).mir = [] ∧ (E.ann 93).heads 0 = [0, 3, 4] ∧ (E.ann 93).rng 0 = none ∧ (E.ann 93).ends 0 = some [3] ∧ (E.ann 93).ends 1 = none := by
  refine ⟨?_, ?_, ?_, ?_, ?_, ?_, ?_, ?_⟩ <;> rfl
theorem e94 : (E.ann 94).ext = false ∧ (E.ann 94).modes = [] ∧ (E.ann 94).keep = [] ∧ (E.ann 94).mir = [] ∧ (E.ann 94).heads 0 = [1, 2, 3, 31, 32, 33] ∧ (E.ann 94).rng 0 = none ∧ (E.ann 94).ends 0 = some [1, 2, 3] ∧ (E.ann 94).ends 1 = none ∧ (E.ann 94).draws 1 = [([1], [6]), ([1, 6], [7]), ([1, 7], [8]), ([1], [9]), ([1, 9], [10]), ([1, 10], [11]), ([1], [12]), ([1, 8, 12], [1, 8, 12]), ([1], [13]), ([1, 11, 13], [1, 11, 13])] ∧ (E.ann 94).draws 10 = [([3], [37]), ([5], [38]), ([5, 38], [39]), ([5], [40]), ([5, 40], [41]), ([5, 41], [42]), ([39, 42], [39, 42, 43]), ([43], [43, 44]), ([3, 37, 44], [3, 37, 44, 45]), ([45], [3, 45])] ∧ (E.ann 94).free 1 = none ∧ (E.ann 94).free 10 = none := by
  refine ⟨?_, ?_, ?_, ?_, ?_, ?_, ?_, ?_, ?_, ?_, ?_, ?_⟩ <;> rfl
theorem e95 : (E.ann 95).ext = false ∧ (E.ann 95).modes = [] ∧ (E.ann 95).keep = [0] ∧ (E.ann 95).mir = [] := by
  refine ⟨?_, ?_, ?_, ?_⟩ <;> rfl
theorem e96 : (E.ann 96).ext = false ∧ (E.ann 96).modes = [] ∧ (E.ann 96).keep = [] ∧ (E.ann 96).mir = [] := by
  refine ⟨?_, ?_, ?_, ?_⟩ <;> rfl
theorem e97 : (E.ann 97).ext = false ∧ (E.ann 97).modes = [] ∧ (E.ann 97).keep = [] ∧ (E.ann 97).mir = [] ∧ (E.ann 97).heads 0 = [0, 1, 5] ∧ (E.ann 97).rng 0 = none ∧ (E.ann 97).ends 0 = some [] ∧ (E.ann 97).ends 1 = none ∧ (E.ann 97).draws 6 = [([0], [17]), ([5], [18]), ([0, 17, 18], [19]), ([0, 19], [20]), ([1], [21]), ([5], [22]), ([1, 21, 22], [23]), ([1, 23], [24]), ([20, 24], [25])] ∧ (E.ann 97).free 6 = none := by
  refine ⟨?_, ?_, ?_, ?_, ?_, ?_, ?_, ?_, ?_, ?_⟩ <;> rfl
theorem e98 : (E.ann 98).ext = false ∧ (E.ann 98).modes = [] ∧ (E.ann 98).keep = [] ∧ (E.ann 98).mir = [] ∧ (E.ann 98).heads 0 = [0, 1, 5] ∧ (E.ann 98).rng 0 = none ∧ (E.ann 98).ends 0 = some [] ∧ (E.ann 98).ends 1 = none ∧ (E.ann 98).draws 6 = [([0], [17]), ([5], [18]), ([0, 17, 18], [19]), ([0, 19], [20]), ([1], [21]), ([5], [22]), ([1, 21, 22], [23]), ([1, 23], [24]), ([20, 24], [25])] ∧ (E.ann 98).free 6 = none := by
  refine ⟨?_, ?_, ?_, ?_, ?_, ?_, ?_, ?_, ?_, ?_⟩ <;> rfl
theorem e99 : (E.ann 99).ext = false ∧ (E.ann 99).modes = [] ∧ (E.ann 99).keep = [] ∧ (E.ann 99).mir = [] ∧ (E.ann 99).heads 0 = [0, 1, 5] ∧ (E.ann 99).rng 0 = none ∧ (E.ann 99).ends 0 = some [] ∧ (E.ann 99).ends 1 = none ∧ (E.ann 99).draws 6 = [([0], [17]), ([5], [18]), ([0, 17, 18], [19]), ([0, 19], [20]), ([1], [21]), ([5], [22]), ([1, 21, 22], [23]), ([1, 23], [24]), ([20, 24], [25]), ([25], [26])] ∧ (E.ann 99).free 6 = none := by
  refine ⟨?_, ?_, ?_, ?_, ?_, ?_, ?_, ?_, ?_, ?_⟩ <;> rfl
theorem e100 : (E.ann 100).ext = false ∧ (E.ann 100).modes = [] ∧ (E.ann 100).keep = [] ∧ (E.ann 100).mir = [] ∧ (E.ann 100).heads 0 = [0, 1, 5] ∧ (E.ann 100).rng 0 = none ∧ (E.ann 100).ends 0 = some [] ∧ (E.ann 100).ends 1 = none ∧ (E.ann 100).draws 6 = [([0], [17]), ([5], [18]), ([0, 17, 18], [19]), ([0, 19], [20]), ([1], [21]), ([5], [22]), ([1, 21, 22], [23]), ([1, 23], [24]), ([0, 1, 20, 24], [25]), ([25], [26])] ∧ (E.ann 100).free 6 = none := by
  refine ⟨?_, ?_, ?_, ?_, ?_, ?_, ?_, ?_, ?_, ?_⟩ <;> rfl
theorem e101 : (E.ann 101).ext = false ∧ (E.ann 101).modes = [.io, .shr] ∧ (E.ann 101).keep = [0] ∧ (E.ann 101).mir = [(0, 2)] := by
  refine ⟨?_, ?_, ?_, ?_⟩ <;> rfl
theorem e102 : (E.ann 102).ext = false ∧ (E.ann 102).modes = [.io, .shr] ∧ (E.ann 102).keep = [0] ∧ (E.ann 102).mir = [] ∧ (E.ann 102).heads 0 = [0, 1, 5] ∧ (E.ann 102).rng 0 = none ∧ (E.ann 102).ends 0 = some [0, 1] ∧ (E.ann 102).ends 1 = none := by
  refine ⟨?_, ?_, ?_, ?_, ?_, ?_, ?_, ?_⟩ <;> rfl
theorem e103 : (E.ann 103).ext = false ∧ (E.ann 103).modes = [.io, .shr] ∧ (E.ann 103).keep = [0] ∧ (E.ann 103).mir = [] ∧ (E.ann 103).heads 0 = [0, 1, 5] ∧ (E.ann 103).rng 0 = none ∧ (E.ann 103).ends 0 = some [0, 1] ∧ (E.ann 103).ends 1 = none := by
  refine ⟨?_, ?_, ?_, ?_, ?_, ?_, ?_, ?_⟩ <;> rfl
theorem e104 : (E.ann 104).ext = false ∧ (E.ann 104).modes = [.io, .shr] ∧ (E.ann 104).keep = [0] ∧ (E.ann 104).mir = [] ∧ (E.ann 104).heads 0 = [0, 1, 5] ∧ (E.ann 104).rng 0 = none ∧ (E.ann 104).ends 0 = some [0, 1] ∧ (E.ann 104).ends 1 = none := by
  refine ⟨?_, ?_, ?_, ?_, ?_, ?_, ?_, ?_⟩ <;> rfl
theorem e105 : (E.ann 105).ext = false ∧ (E.ann 105).modes = [.io, .shr] ∧ (E.ann 105).keep = [0] ∧ (E.ann 105).mir = [] ∧ (E.ann 105).heads 0 = [0, 1, 5] ∧ (E.ann 105).rng 0 = none ∧ (E.ann 105).ends 0 = some [0, 1] ∧ (E.ann 105).ends 1 = none := by
  refine ⟨?_, ?_, ?_, ?_, ?_, ?_, ?_, ?_⟩ <;> rfl
theorem e106 : (E.ann 106).ext = false ∧ (E.ann 106).modes = [.io, .shr] ∧ (E.ann 106).keep = [0] ∧ (E.ann 106).mir = [] ∧ (E.ann 106).heads 0 = [0, 1, 5] ∧ (E.ann 106).rng 0 = none ∧ (E.ann 106).ends 0 = some [0, 1] ∧ (E.ann 106).ends 1 = none := by
  refine ⟨?_, ?_, ?_, ?_, ?_, ?_, ?_, ?_⟩ <;> rfl
theorem e107 : (E.ann 107).ext = false ∧ (E.ann 107).modes = [] ∧ (E.ann 107).keep = [] ∧ (E.ann 107).mir = [] := by
  refine ⟨?_, ?_, ?_, ?_⟩ <;> rfl
theorem e108 : (E.ann 108).ext = false ∧ (E.ann 108).modes = [] ∧ (E.ann 108).keep = [] ∧ (E.ann 108).mir = [] ∧ (E.ann 108).heads 0 = [0, 1, 5] ∧ (E.ann 108).rng 0 = none ∧ (E.ann 108).ends 0 = some [1] ∧ (E.ann 108).ends 1 = none ∧ (E.ann 108).draws 22 = [([0], [66]), ([5], [67]), ([0, 66, 67], [68]), ([0, 68], [69]), ([0, 69], [70]), ([1], [71]), ([71], [72]), ([70, 72], [73])] ∧ (E.ann 108).free 22 = none := by
  refine ⟨?_, ?_, ?_, ?_, ?_, ?_, ?_, ?_, ?_, ?_⟩ <;> rfl
theorem e109 : (E.ann 109).ext = false ∧ (E.ann 109).modes = [] ∧ (E.ann 109).keep = [] ∧ (E.ann 109).mir = [] ∧ (E.ann 109).heads 0 = [0, 1, 5] ∧ (E.ann 109).rng 0 = none ∧ (E.ann 109).ends 0 = some [1] ∧ (E.ann 109).ends 1 = none ∧ (E.ann 109).draws 4 = [([0], [12]), ([5], [13]), ([0, 12, 13], [14]), ([0, 14], [15]), ([1], [16]), ([16], [17]), ([15, 17], [18])] ∧ (E.ann 109).free 4 = none := by
  refine ⟨?_, ?_, ?_, ?_, ?_, ?_, ?_, ?_, ?_, ?_⟩ <;> rfl
theorem e110 : (E.ann 110).ext = false ∧ (E.ann 110).modes = [] ∧ (E.ann 110).keep = [] ∧ (E.ann 110).mir = [] ∧ (E.ann 110).heads 0 = [0, 1, 5] ∧ (E.ann 110).rng 0 = none ∧ (E.ann 110).ends 0 = some [1] ∧ (E.ann 110).ends 1 = none := by
  refine ⟨?_, ?_, ?_, ?_, ?_, ?_, ?_, ?_⟩ <;> rfl
theorem e111 : (E.ann 111).ext = false ∧ (E.ann 111).modes = [] ∧ (E.ann 111).keep = [] ∧ (E.ann 111).mir = [] ∧ (E.ann 111).heads 0 = [0, 1, 5] ∧ (E.ann 111).rng 0 = none ∧ (E.ann 111).ends 0 = some [1] ∧ (E.ann 111).ends 1 = none ∧ (E.ann 111).draws 7 = [([0], [21]), ([5], [22]), ([0, 21, 22], [23]), ([0, 23], [24]), ([0, 24], [25]), ([1], [26]), ([26], [27]), ([25, 27], [28])] ∧ (E.ann 111).free 7 = none := by
  refine ⟨?_, ?_, ?_, ?_, ?_, ?_, ?_, ?_, ?_, ?_⟩ <;> rfl
theorem e112 : (E.ann 112).ext = false ∧ (E.ann 112).modes = [] ∧ (E.ann 112).keep = [] ∧ (E.ann 112).mir = [] ∧ (E.ann 112).heads 0 = [0, 1, 5] ∧ (E.ann 112).rng 0 = none ∧ (E.ann 112).ends 0 = some [1] ∧ (E.ann 112).ends 1 = none := by
  refine ⟨?_, ?_, ?_, ?_, ?_, ?_, ?_, ?_⟩ <;> rfl
theorem e118 : (E.ann 118).ext = false ∧ (E.ann 118).modes = [] ∧ (E.ann 118).keep = [] ∧ (E.ann 118).mir = [] := by
  refine ⟨?_, ?_, ?_, ?_⟩ <;> rfl
theorem e119 : (E.ann 119).ext = false ∧ (E.ann 119).modes = [] ∧ (E.ann 119).keep = [] ∧ (E.ann 119).mir = [] ∧ (E.ann 119).heads 2 = [0, 3, 4] ∧ (E.ann 119).heads 0 = [0, 3] ∧ (E.ann 119).rng 0 = none ∧ (E.ann 119).ends 0 = some [] ∧ (E.ann 119).ends 1 = none ∧ (E.ann 119).rng 2 = none ∧ (E.ann 119).ends 2 = some [0, 3] ∧ (E.ann 119).ends 3 = none ∧ (E.ann 119).draws 11 = [([0], [33]), ([4], [34]), ([0, 33, 34], [35]), ([0, 35], [36]), ([0], [37]), ([3], [38]), ([0, 37, 38], [39]), ([0, 39], [40]), ([36, 40], [41])] ∧ (E.ann 119).free 11 = none := by
  refine ⟨?_, ?_, ?_, ?_, ?_, ?_, ?_, ?_, ?_, ?_, ?_, ?_, ?_, ?_⟩ <;> rfl
theorem e120 : (E.ann 120).ext = false ∧ (E.ann 120).modes = [] ∧ (E.ann 120).keep = [] ∧ (E.ann 120).mir = [] ∧ (E.ann 120).heads 0 = [0, 1, 5] ∧ (E.ann 120).rng 0 = none ∧ (E.ann 120).ends 0 = some [] ∧ (E.ann 120).ends 1 = none ∧ (E.ann 120).draws 4 = [([0], [12]), ([5], [13]), ([0, 12, 13], [14]), ([0, 14], [15]), ([1], [16]), ([15, 16], [17]), ([17], [18]), ([18], [19]), ([5, 19], [20]), ([19, 20], [21]), ([19, 21], [22]), ([0, 22], [23]), ([5, 22], [24]), ([22, 24], [25]), ([0, 22, 23, 25], [26]), ([0, 22, 26], [27]), ([0, 22], [28]), ([5, 22], [29]), ([0, 22, 28, 29], [30]), ([0, 22, 30], [31]), ([22, 27, 31], [32]), ([19, 22, 32], [33]), ([19, 33], [34])] ∧ (E.ann 120).free 4 = none := by
  refine ⟨?_, ?_, ?_, ?_, ?_, ?_, ?_, ?_, ?_, ?_⟩ <;> rfl
theorem e121 : (E.ann 121).ext = false ∧ (E.ann 121).modes = [] ∧ (E.ann 121).keep = [] ∧ (E.ann 121).mir = [] ∧ (E.ann 121).heads 0 = [0, 1, 5] ∧ (E.ann 121).rng 0 = none ∧ (E.ann 121).ends 0 = some [] ∧ (E.ann 121).ends 1 = none ∧ (E.ann 121).draws 4 = [([0], [12]), ([5], [13]), ([0, 12, 13], [14]), ([0, 14], [15]), ([0, 15], [16]), ([16], [17]), ([17], [18]), ([18], [19]), ([0, 19], [20]), ([5, 19], [21]), ([0, 19, 20, 21], [22]), ([0, 19, 22], [23]), ([0, 19, 23], [24]), ([1, 19], [25]), ([0, 19, 24, 25], [26]), ([19, 26], [27]), ([19, 27], [28]), ([28], [29]), ([5, 29], [30]), ([29, 30], [31]), ([29, 31], [32]), ([0, 32], [33]), ([5, 32], [34]), ([32, 34], [35]), ([0, 32, 33, 35], [36]), ([0, 32, 36], [37]), ([0, 32, 37], [38]), ([0, 32], [39]), ([5, 32], [40]), ([0, 32, 39, 40], [41]), ([0, 32, 41], [42]), ([0, 32, 42], [43]), ([32, 38, 43], [44]), ([29, 32, 44], [45]), ([29, 45], [46])] ∧ (E.ann 121).free 4 = none := by
  refine ⟨?_, ?_, ?_, ?_, ?_, ?_, ?_, ?_, ?_, ?_⟩ <;> rfl
theorem e122 : (E.ann 122).ext = false ∧ (E.ann 122).modes = [] ∧ (E.ann 122).keep = [] ∧ (E.ann 122).mir = [] := by
  refine ⟨?_, ?_, ?_, ?_⟩ <;> rfl
theorem e123 : (E.ann 123).ext = false ∧ (E.ann 123).modes = [] ∧ (E.ann 123).keep = [] ∧ (E.ann 123).mir = [] ∧ (E.ann 123).heads 0 = [0, 1, 7, 8, 9] ∧ (E.ann 123).rng 0 = none ∧ (E.ann 123).ends 0 = some [] ∧ (E.ann 123).ends 1 = none := by
  refine ⟨?_, ?_, ?_, ?_, ?_, ?_, ?_, ?_⟩ <;> rfl
theorem e124 : (E.ann 124).ext = false ∧ (E.ann 124).modes = [] ∧ (E.ann 124).keep = [] ∧ (E.ann 124).mir = [] := by
  refine ⟨?_, ?_, ?_, ?_⟩ <;> rfl
theorem e125 : (E.ann 125).ext = false ∧ (E.ann 125).modes = [] ∧ (E.ann 125).keep = [] ∧ (E.ann 125).mir = [] := by
  refine ⟨?_, ?_, ?_, ?_⟩ <;> rfl
theorem e127 : (E.ann 127).ext = false ∧ (E.ann 127).modes = [] ∧ (E.ann 127).keep = [] ∧ (E.ann 127).mir = [] := by
  refine ⟨?_, ?_, ?_, ?_⟩ <;> rfl
theorem e132 : (E.ann 132).ext = false ∧ (E.ann 132).modes = [] ∧ (E.ann 132).keep = [] ∧ (E.ann 132).mir = [] := by
  refine ⟨?_, ?_, ?_, ?_⟩ <;> rfl
theorem e139 : (E.ann 139).ext = false ∧ (E.ann 139).modes = [] ∧ (E.ann 139).keep = [] ∧ (E.ann 139).mir = [] ∧ (E.ann 139).heads 0 = [0, 3] ∧ (E.ann 139).rng 0 = none ∧ (E.ann 139).ends 0 = some [3] ∧ (E.ann 139).ends 1 = none := by
  refine ⟨?_, ?_, ?_, ?_, ?_, ?_, ?_, ?_⟩ <;> rfl
theorem e148 : (E.ann 148).ext = false ∧ (E.ann 148).modes = [] ∧ (E.ann 148).keep = [] ∧ (E.ann 148).mir = [] := by
  refine ⟨?_, ?_, ?_, ?_⟩ <;> rfl
theorem e149 : (E.ann 149).ext = false ∧ (E.ann 149).modes = [] ∧ (E.ann 149).keep = [] ∧ (E.ann 149).mir = [] := by
  refine ⟨?_, ?_, ?_, ?_⟩ <;> rfl
theorem e150 : (E.ann 150).ext = false ∧ (E.ann 150).modes = [] ∧ (E.ann 150).keep = [] ∧ (E.ann 150).mir = [] ∧ (E.ann 150).heads 0 = [0, 3, 4] ∧ (E.ann 150).rng 0 = none ∧ (E.ann 150).ends 0 = some [3] ∧ (E.ann 150).ends 1 = none := by
  refine ⟨?_, ?_, ?_, ?_, ?_, ?_, ?_, ?_⟩ <;> rfl
theorem e151 : (E.ann 151).ext = false ∧ (E.ann 151).modes = [] ∧ (E.ann 151).keep = [] ∧ (E.ann 151).mir = [] ∧ (E.ann 151).heads 0 = [0, 1, 5] ∧ (E.ann 151).rng 0 = none ∧ (E.ann 151).ends 0 = some [] ∧ (E.ann 151).ends 1 = none := by
  refine ⟨?_, ?_, ?_, ?_, ?_, ?_, ?_, ?_⟩ <;> rfl
theorem e152 : (E.ann 152).ext = false ∧ (E.ann 152).modes = [] ∧ (E.ann 152).keep = [] ∧ (E.ann 152).mir = [] := by
  refine ⟨?_, ?_, ?_, ?_⟩ <;> rfl
theorem e153 : (E.ann 153).ext = false ∧ (E.ann 153).modes = [] ∧ (E.ann 153).keep = [] ∧ (E.ann 153).mir = [] := by
  refine ⟨?_, ?_, ?_, ?_⟩ <;> rfl
theorem e154 : (E.ann 154).ext = false ∧ (E.ann 154).modes = [] ∧ (E.ann 154).keep = [] ∧ (E.ann 154).mir = [] := by
  refine ⟨?_, ?_, ?_, ?_⟩ <;> rfl
theorem e155 : (E.ann 155).ext = false ∧ (E.ann 155).modes = [] ∧ (E.ann 155).keep = [] ∧ (E.ann 155).mir = [] ∧ (E.ann 155).heads 0 = [0, 3, 6, 7, 8] ∧ (E.ann 155).rng 0 = none ∧ (E.ann 155).ends 0 = some [3] ∧ (E.ann 155).ends 1 = none := by
  refine ⟨?_, ?_, ?_, ?_, ?_, ?_, ?_, ?_⟩ <;> rfl
theorem e156 : (E.ann 156).ext = false ∧ (E.ann 156).modes = [] ∧ (E.ann 156).keep = [] ∧ (E.ann 156).mir = [] := by
  refine ⟨?_, ?_, ?_, ?_⟩ <;> rfl
theorem e157 : (E.ann 157).ext = false ∧ (E.ann 157).modes = [] ∧ (E.ann 157).keep = [0] ∧ (E.ann 157).mir = [] ∧ (E.ann 157).heads 0 = [0, 1, 17, 18, 19] ∧ (E.ann 157).rng 0 = none ∧ (E.ann 157).ends 0 = some [0] ∧ (E.ann 157).ends 1 = none ∧ (E.ann 157).draws 1 = [([0], [7]), ([0, 7], [8]), ([0, 8], [9]), ([0, 9], [10]), ([0, 10], [11]), ([0], [12]), ([0, 12], [13]), ([0, 13], [14]), ([0, 14], [15]), ([0, 15], [16]), ([0, 11, 16], [17]), ([0, 17], [18]), ([], [19])] ∧ (E.ann 157).free 1 = none := by
  refine ⟨?_, ?_, ?_, ?_, ?_, ?_, ?_, ?_, ?_, ?_⟩ <;> rfl
theorem e158 : (E.ann 158).ext = false ∧ (E.ann 158).modes = [] ∧ (E.ann 158).keep = [] ∧ (E.ann 158).mir = [] := by
  refine ⟨?_, ?_, ?_, ?_⟩ <;> rfl
theorem e159 : (E.ann 159).ext = false ∧ (E.ann 159).modes = [] ∧ (E.ann 159).keep = [] ∧ (E.ann 159).mir = [] := by
  refine ⟨?_, ?_, ?_, ?_⟩ <;> rfl
theorem e164 : (E.ann 164).ext = false ∧ (E.ann 164).modes = [] ∧ (E.ann 164).keep = [] ∧ (E.ann 164).mir = [] ∧ (E.ann 164).heads 0 = [0, 1, 7, 8] ∧ (E.ann 164).rng 0 = none ∧ (E.ann 164).ends 0 = some [] ∧ (E.ann 164).ends 1 = none := by
  refine ⟨?_, ?_, ?_, ?_, ?_, ?_, ?_, ?_⟩ <;> rfl
theorem e172 : (E.ann 172).ext = false ∧ (E.ann 172).modes = [] ∧ (E.ann 172).keep = [] ∧ (E.ann 172).mir = [] := by
  refine ⟨?_, ?_, ?_, ?_⟩ <;> rfl
theorem tblOk : tbl.all (fun p => tiB Try.prog p.1 p.2) = true := by kernel_rfl
theorem progOk : progB Try.prog E = true := by kernel_rfl
theorem eqsOk : eqs.all (fun t => match lookT tbl t with | some i => eqTB Try.prog t i | none => true) = true := by kernel_rfl
theorem extOk : ExtOk Try.prog E := extOk_none (by kernel_rfl)
theorem sound (f : FuncId) : CallOk Try.prog E (EV Try.prog E) f := EV_sound (by kernel_rfl) (tok_of tblOk) ⟨eqOk_list eqsOk, extOk⟩ progOk f
end Go.Proofs.Ytjcbojcnfdlfaaa

