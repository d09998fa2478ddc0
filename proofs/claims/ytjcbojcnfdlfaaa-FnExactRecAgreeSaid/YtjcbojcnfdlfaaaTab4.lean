/- The tables of the seat: types, annotations (written by a program), and that the kernel finds them right. -/
import Derived.Test.YtjcbojcnfdlfaaaProg
import Derived.KernelRfl
import Derived.Test.YtjcbojcnfdlfaaaSxD
namespace Go.Proofs.Ytjcbojcnfdlfaaa
open Go.Sx
def tbl : List (Nat × TI) := [
  (2, ⟨.prim, 1, 8, [.p (.int .i64 0)]⟩),
  (3, ⟨.prim, 1, 8, [.p (.int .i64 0)]⟩),
  (4, ⟨.prim, 1, 1, [.p (.bool false)]⟩),
  (5, ⟨.prim, 1, 1, [.p (.int .u8 0)]⟩),
  (6, ⟨.prim, 1, 1, [.p (.int .u8 0)]⟩),
  (7, ⟨.strct [(0, 1, false), (1, 1, false), (2, 1, false), (3, 1, false)], 4, 24, [.p (.int .i64 0), .p (.int .i64 0), .p (.bool false), .p (.int .u8 0)]⟩),
  (8, ⟨.strct [(0, 1, false), (1, 1, false), (2, 1, false), (3, 1, false)], 4, 24, [.p (.int .i64 0), .p (.int .i64 0), .p (.bool false), .p (.int .u8 0)]⟩),
  (9, ⟨.prim, 1, 16, [.p (.string ⟨#[]⟩)]⟩),
  (10, ⟨.prim, 1, 16, [.p (.string ⟨#[]⟩)]⟩),
  (11, ⟨.prim, 1, 16, [.p (.string ⟨#[]⟩)]⟩),
  (12, ⟨.prim, 1, 8, [.p (.int .u64 0)]⟩),
  (13, ⟨.strct [(0, 1, false), (1, 1, false)], 2, 24, [.p (.string ⟨#[]⟩), .p (.int .u64 0)]⟩),
  (14, ⟨.strct [(0, 1, false), (1, 1, false)], 2, 24, [.p (.string ⟨#[]⟩), .p (.int .u64 0)]⟩),
  (15, ⟨.ptr 222, 1, 8, [.p (.pointer none)]⟩),
  (16, ⟨.ptr 225, 1, 8, [.p (.pointer none)]⟩),
  (17, ⟨.ptr 235, 1, 8, [.p (.pointer none)]⟩),
  (18, ⟨.strct [(0, 1, false)], 1, 8, [.p (.pointer none)]⟩),
  (19, ⟨.strct [(0, 1, false)], 1, 8, [.p (.pointer none)]⟩),
  (21, ⟨.prim, 1, 4, [.p (.int .i32 0)]⟩),
  (22, ⟨.slc 72, 1, 24, [.sl .own 18 []]⟩),
  (23, ⟨.slc 142, 1, 24, [.sl .own 8 []]⟩),
  (24, ⟨.slc 145, 1, 24, [.sl .own 2 []]⟩),
  (25, ⟨.strct [(0, 1, false), (1, 1, false), (2, 1, false)], 3, 72, [.sl .own 18 [], .sl .own 8 [], .sl .own 2 []]⟩),
  (26, ⟨.strct [(0, 1, false), (1, 1, false), (2, 1, false)], 3, 72, [.sl .own 18 [], .sl .own 8 [], .sl .own 2 []]⟩),
  (29, ⟨.slc 76, 1, 24, [.sl .own 18 []]⟩),
  (30, ⟨.slc 59, 1, 24, [.sl .own 8 []]⟩),
  (31, ⟨.slc 146, 1, 24, [.sl .own 2 []]⟩),
  (32, ⟨.strct [(0, 1, false), (1, 1, false), (2, 1, false)], 3, 72, [.sl .own 18 [], .sl .own 8 [], .sl .own 2 []]⟩),
  (33, ⟨.strct [(0, 1, false), (1, 1, false), (2, 1, false)], 3, 72, [.sl .own 18 [], .sl .own 8 [], .sl .own 2 []]⟩),
  (37, ⟨.slc 165, 1, 24, [.sl .own 9 []]⟩),
  (38, ⟨.strct [(0, 3, true), (3, 1, false), (4, 1, false)], 5, 104, [.sl .own 18 [], .sl .own 8 [], .sl .own 2 [], .p (.int .i64 0), .sl .own 9 []]⟩),
  (39, ⟨.strct [(0, 3, true), (3, 1, false), (4, 1, false)], 5, 104, [.sl .own 18 [], .sl .own 8 [], .sl .own 2 [], .p (.int .i64 0), .sl .own 9 []]⟩),
  (44, ⟨.slc 5, 1, 24, [.sl .own 1 []]⟩),
  (45, ⟨.slc 51, 1, 24, [.sl .own 2 []]⟩),
  (50, ⟨.strct [(0, 1, false), (1, 1, false)], 2, 24, [.p (.int .i64 0), .p (.string ⟨#[]⟩)]⟩),
  (51, ⟨.strct [(0, 1, false), (1, 1, false)], 2, 24, [.p (.int .i64 0), .p (.string ⟨#[]⟩)]⟩),
  (55, ⟨.strct [(0, 1, false), (1, 1, false), (2, 1, false)], 3, 40, [.p (.int .i64 0), .p (.int .i64 0), .sl .own 2 []]⟩),
  (56, ⟨.strct [(0, 1, false), (1, 1, false), (2, 1, false)], 3, 40, [.p (.int .i64 0), .p (.int .i64 0), .sl .own 2 []]⟩),
  (58, ⟨.strct [(0, 1, false), (1, 1, false), (2, 1, false), (3, 1, false), (4, 1, false), (5, 1, false), (6, 1, false), (7, 1, false)], 8, 88, [.p (.int .i64 0), .p (.int .i64 0), .p (.int .i64 0), .p (.int .i64 0), .p (.int .i64 0), .p (.int .i64 0), .p (.string ⟨#[]⟩), .sl .own 2 []]⟩),
  (59, ⟨.strct [(0, 1, false), (1, 1, false), (2, 1, false), (3, 1, false), (4, 1, false), (5, 1, false), (6, 1, false), (7, 1, false)], 8, 88, [.p (.int .i64 0), .p (.int .i64 0), .p (.int .i64 0), .p (.int .i64 0), .p (.int .i64 0), .p (.int .i64 0), .p (.string ⟨#[]⟩), .sl .own 2 []]⟩),
  (65, ⟨.slc 176, 1, 24, [.sl .own 2 []]⟩),
  (66, ⟨.strct [(0, 1, false), (1, 1, false), (2, 1, false)], 3, 40, [.p (.int .i64 0), .p (.int .i64 0), .sl .own 2 []]⟩),
  (67, ⟨.strct [(0, 1, false), (1, 1, false), (2, 1, false)], 3, 40, [.p (.int .i64 0), .p (.int .i64 0), .sl .own 2 []]⟩),
  (68, ⟨.slc 9, 1, 24, [.sl .own 1 []]⟩),
  (69, ⟨.slc 3, 1, 24, [.sl .own 1 []]⟩),
  (70, ⟨.slc 178, 1, 24, [.sl .own 2 []]⟩),
  (71, ⟨.strct [(0, 1, false), (1, 1, false), (2, 1, false), (3, 3, true), (6, 3, true), (9, 1, false), (10, 1, false), (11, 1, false), (12, 1, false), (13, 1, false), (14, 1, false), (15, 1, false), (16, 1, false), (17, 1, false)], 18, 248, [.p (.int .i64 0), .p (.int .i64 0), .p (.bool false), .p (.int .i64 0), .p (.int .i64 0), .sl .own 2 [], .p (.int .i64 0), .p (.int .i64 0), .sl .own 2 [], .sl .own 8 [], .sl .own 1 [], .p (.bool false), .p (.bool false), .p (.int .i64 0), .sl .own 1 [], .sl .own 2 [], .sl .own 2 [], .p (.int .i64 0)]⟩),
  (72, ⟨.strct [(0, 1, false), (1, 1, false), (2, 1, false), (3, 3, true), (6, 3, true), (9, 1, false), (10, 1, false), (11, 1, false), (12, 1, false), (13, 1, false), (14, 1, false), (15, 1, false), (16, 1, false), (17, 1, false)], 18, 248, [.p (.int .i64 0), .p (.int .i64 0), .p (.bool false), .p (.int .i64 0), .p (.int .i64 0), .sl .own 2 [], .p (.int .i64 0), .p (.int .i64 0), .sl .own 2 [], .sl .own 8 [], .sl .own 1 [], .p (.bool false), .p (.bool false), .p (.int .i64 0), .sl .own 1 [], .sl .own 2 [], .sl .own 2 [], .p (.int .i64 0)]⟩),
  (74, ⟨.slc 134, 1, 24, [.sl .own 2 []]⟩),
  (75, ⟨.strct [(0, 1, false), (1, 1, false), (2, 1, false), (3, 3, true), (6, 3, true), (9, 1, false), (10, 1, false), (11, 1, false), (12, 1, false), (13, 1, false), (14, 1, false), (15, 1, false), (16, 1, false), (17, 1, false)], 18, 248, [.p (.int .i64 0), .p (.int .i64 0), .p (.bool false), .p (.int .i64 0), .p (.int .i64 0), .sl .own 2 [], .p (.int .i64 0), .p (.int .i64 0), .sl .own 2 [], .sl .own 8 [], .sl .own 1 [], .p (.bool false), .p (.bool false), .p (.int .i64 0), .sl .own 1 [], .sl .own 2 [], .sl .own 2 [], .p (.int .i64 0)]⟩),
  (76, ⟨.strct [(0, 1, false), (1, 1, false), (2, 1, false), (3, 3, true), (6, 3, true), (9, 1, false), (10, 1, false), (11, 1, false), (12, 1, false), (13, 1, false), (14, 1, false), (15, 1, false), (16, 1, false), (17, 1, false)], 18, 248, [.p (.int .i64 0), .p (.int .i64 0), .p (.bool false), .p (.int .i64 0), .p (.int .i64 0), .sl .own 2 [], .p (.int .i64 0), .p (.int .i64 0), .sl .own 2 [], .sl .own 8 [], .sl .own 1 [], .p (.bool false), .p (.bool false), .p (.int .i64 0), .sl .own 1 [], .sl .own 2 [], .sl .own 2 [], .p (.int .i64 0)]⟩),
  (103, ⟨.ptr 172, 1, 8, [.p (.pointer none)]⟩),
  (133, ⟨.strct [(0, 1, false), (1, 1, false)], 2, 32, [.p (.int .i64 0), .sl .own 1 []]⟩),
  (134, ⟨.strct [(0, 1, false), (1, 1, false)], 2, 32, [.p (.int .i64 0), .sl .own 1 []]⟩),
  (141, ⟨.strct [(0, 1, false), (1, 1, false), (2, 1, false), (3, 1, false), (4, 1, false), (5, 1, false), (6, 1, false), (7, 1, false)], 8, 88, [.p (.int .i64 0), .p (.int .i64 0), .p (.int .i64 0), .p (.int .i64 0), .p (.int .i64 0), .p (.int .i64 0), .p (.string ⟨#[]⟩), .sl .own 2 []]⟩),
  (142, ⟨.strct [(0, 1, false), (1, 1, false), (2, 1, false), (3, 1, false), (4, 1, false), (5, 1, false), (6, 1, false), (7, 1, false)], 8, 88, [.p (.int .i64 0), .p (.int .i64 0), .p (.int .i64 0), .p (.int .i64 0), .p (.int .i64 0), .p (.int .i64 0), .p (.string ⟨#[]⟩), .sl .own 2 []]⟩),
  (144, ⟨.strct [(0, 1, false), (1, 1, false)], 2, 24, [.p (.int .i64 0), .p (.string ⟨#[]⟩)]⟩),
  (145, ⟨.strct [(0, 1, false), (1, 1, false)], 2, 24, [.p (.int .i64 0), .p (.string ⟨#[]⟩)]⟩),
  (146, ⟨.strct [(0, 1, false), (1, 1, false)], 2, 24, [.p (.int .i64 0), .p (.string ⟨#[]⟩)]⟩),
  (149, ⟨.ptr 33, 1, 8, [.p (.pointer none)]⟩),
  (156, ⟨.slc 193, 1, 24, [.sl .own 3 []]⟩),
  (157, ⟨.slc 195, 1, 24, [.sl .own 6 []]⟩),
  (158, ⟨.strct [(0, 1, false), (1, 1, false)], 2, 48, [.sl .own 3 [], .sl .own 6 []]⟩),
  (159, ⟨.strct [(0, 1, false), (1, 1, false)], 2, 48, [.sl .own 3 [], .sl .own 6 []]⟩),
  (160, ⟨.strct [(0, 1, false), (1, 1, false), (2, 2, true)], 4, 72, [.p (.string ⟨#[]⟩), .p (.int .i64 0), .sl .own 3 [], .sl .own 6 []]⟩),
  (161, ⟨.strct [(0, 1, false), (1, 1, false), (2, 2, true)], 4, 72, [.p (.string ⟨#[]⟩), .p (.int .i64 0), .sl .own 3 [], .sl .own 6 []]⟩),
  (162, ⟨.strct [(0, 1, false), (1, 1, false), (2, 1, false)], 3, 24, [.p (.int .i64 0), .p (.int .i64 0), .p (.bool false)]⟩),
  (163, ⟨.strct [(0, 1, false), (1, 1, false), (2, 1, false)], 3, 24, [.p (.int .i64 0), .p (.int .i64 0), .p (.bool false)]⟩),
  (164, ⟨.strct [(0, 4, true), (4, 1, false), (5, 1, false), (6, 3, true)], 9, 112, [.p (.string ⟨#[]⟩), .p (.int .i64 0), .sl .own 3 [], .sl .own 6 [], .p (.int .i64 0), .p (.int .i64 0), .p (.int .i64 0), .p (.int .i64 0), .p (.bool false)]⟩),
  (165, ⟨.strct [(0, 4, true), (4, 1, false), (5, 1, false), (6, 3, true)], 9, 112, [.p (.string ⟨#[]⟩), .p (.int .i64 0), .sl .own 3 [], .sl .own 6 [], .p (.int .i64 0), .p (.int .i64 0), .p (.int .i64 0), .p (.int .i64 0), .p (.bool false)]⟩),
  (171, ⟨.strct [(0, 1, false), (1, 1, false)], 2, 32, [.sl .own 1 [], .p (.int .i64 0)]⟩),
  (172, ⟨.strct [(0, 1, false), (1, 1, false)], 2, 32, [.sl .own 1 [], .p (.int .i64 0)]⟩),
  (176, ⟨.strct [(0, 1, false), (1, 1, false)], 2, 24, [.p (.int .i64 0), .p (.string ⟨#[]⟩)]⟩),
  (178, ⟨.strct [(0, 1, false), (1, 1, false)], 2, 32, [.p (.int .i64 0), .sl .own 1 []]⟩),
  (183, ⟨.ptr 76, 1, 8, [.p (.pointer none)]⟩),
  (189, ⟨.mp 51 3, 1, 8, [.p (.map none)]⟩),
  (192, ⟨.strct [(0, 1, false), (1, 1, false), (2, 1, false)], 3, 40, [.p (.string ⟨#[]⟩), .p (.string ⟨#[]⟩), .p (.int .i64 0)]⟩),
  (193, ⟨.strct [(0, 1, false), (1, 1, false), (2, 1, false)], 3, 40, [.p (.string ⟨#[]⟩), .p (.string ⟨#[]⟩), .p (.int .i64 0)]⟩),
  (194, ⟨.strct [(0, 1, false), (1, 1, false), (2, 1, false), (3, 1, false), (4, 1, false), (5, 1, false)], 6, 80, [.p (.int .i64 0), .p (.string ⟨#[]⟩), .p (.string ⟨#[]⟩), .p (.int .i64 0), .p (.string ⟨#[]⟩), .p (.string ⟨#[]⟩)]⟩),
  (195, ⟨.strct [(0, 1, false), (1, 1, false), (2, 1, false), (3, 1, false), (4, 1, false), (5, 1, false)], 6, 80, [.p (.int .i64 0), .p (.string ⟨#[]⟩), .p (.string ⟨#[]⟩), .p (.int .i64 0), .p (.string ⟨#[]⟩), .p (.string ⟨#[]⟩)]⟩),
  (197, ⟨.strct [(0, 1, false), (1, 1, false), (2, 1, false)], 3, 32, [.p (.int .i64 0), .p (.int .i64 0), .p (.string ⟨#[]⟩)]⟩),
  (198, ⟨.strct [(0, 1, false), (1, 1, false), (2, 1, false)], 3, 32, [.p (.int .i64 0), .p (.int .i64 0), .p (.string ⟨#[]⟩)]⟩),
  (221, ⟨.strct [(0, 1, false), (1, 1, false), (2, 1, false), (3, 1, false)], 4, 40, [.p (.pointer none), .p (.pointer none), .p (.pointer none), .p (.string ⟨#[]⟩)]⟩),
  (222, ⟨.strct [(0, 1, false), (1, 1, false), (2, 1, false), (3, 1, false)], 4, 40, [.p (.pointer none), .p (.pointer none), .p (.pointer none), .p (.string ⟨#[]⟩)]⟩),
  (227, ⟨.prim, 1, 4, [.p (.int .u32 0)]⟩),
  (228, ⟨.prim, 1, 1, [.p (.int .u8 0)]⟩),
  (229, ⟨.prim, 1, 1, [.p (.int .u8 0)]⟩),
  (231, ⟨.ptr 5, 1, 8, [.p (.pointer none)]⟩),
  (232, ⟨.prim, 1, 4, [.p (.int .i32 0)]⟩),
  (233, ⟨.prim, 1, 4, [.p (.int .i32 0)]⟩)]
def a3 : Ann := { draws := lookD [(10, [([5], [22]), ([1], [23]), ([1, 23], [24]), ([5, 22, 24], [25]), ([25], [26])])] [] }
def a8 : Ann := {}
def a9 : Ann := { heads := lookD [(4, [1, 8]), (2, [1, 3, 4, 5]), (0, [1, 3])] [], ends := lookT [(4, []), (2, [1, 3]), (0, [1])] }
def a10 : Ann := {}
def a11 : Ann := {}
def a12 : Ann := {}
def a27 : Ann := { heads := lookD [(0, [1, 25, 26, 27])] [], ends := lookT [(0, [])] }
def a28 : Ann := { heads := lookD [(0, [1, 3])] [], ends := lookT [(0, [])], draws := lookD [(6, [([1], [30]), ([1, 30], [31]), ([3], [32]), ([1, 31, 32], [33]), ([1, 33], [34]), ([1, 34], [35]), ([1], [36]), ([1, 36], [37]), ([35, 37], [38]), ([38], [39]), ([3, 39], [40]), ([1, 39], [41]), ([1, 39, 41], [42]), ([39, 40, 42], [43]), ([39, 43], [44]), ([1, 44], [45]), ([1, 44, 45], [46]), ([3, 44], [47]), ([1, 44, 46, 47], [48]), ([1, 44, 48], [49]), ([1, 44, 49], [50]), ([44, 50], [51]), ([39, 44, 51], [52]), ([39, 52], [53])])] [] }
def a29 : Ann := {}
def a30 : Ann := {}
def a31 : Ann := {}
def a33 : Ann := {}
def a35 : Ann := {}
def a44 : Ann := { heads := lookD [(0, [1, 3])] [], ends := lookT [(0, [1])], draws := lookD [(6, [([1], [53]), ([1, 53], [54]), ([3], [55]), ([1, 54, 55], [56]), ([1, 56], [57]), ([1], [58]), ([1, 58], [59]), ([1, 57, 59], [60]), ([60], [61]), ([61], [62]), ([1, 62], [63]), ([1, 62, 63], [64]), ([3, 62], [65]), ([1, 62, 64, 65], [66]), ([1, 62, 66], [67]), ([1, 62, 67], [68]), ([1, 62], [69]), ([1, 62, 69], [70]), ([62, 68, 70], [71]), ([62, 71], [72])])] [] }
def a45 : Ann := { heads := lookD [(4, [1, 107, 108, 109]), (2, [1, 86, 87, 88]), (0, [1, 66, 67, 68])] [], ends := lookT [(4, [1]), (2, [1]), (0, [1])], draws := lookD [(18, [([8], [114]), ([8, 114], [115]), ([115], [116]), ([116], [117]), ([117], [118]), ([8, 118], [119]), ([8, 118, 119], [120]), ([1, 118], [121]), ([1, 118, 121], [122]), ([8, 118, 120, 122], [123]), ([118, 123], [124]), ([118, 124], [125]), ([125], [126]), ([7, 126], [127]), ([126, 127], [128]), ([126, 128], [129]), ([8, 129], [130]), ([8, 129, 130], [131]), ([1, 129], [132]), ([1, 129, 132], [133]), ([7, 129], [134]), ([129, 134], [135]), ([1, 129, 133, 135], [136]), ([1, 129, 136], [137]), ([1, 129, 137], [138]), ([129, 131, 138], [139]), ([126, 129, 139], [140]), ([126, 140], [141])])] [] }
def a47 : Ann := { heads := lookD [(0, [0, 1, 5])] [], ends := lookT [(0, [1])] }
def a48 : Ann := { heads := lookD [(0, [0, 1, 5])] [], ends := lookT [(0, [1])] }
def a49 : Ann := { heads := lookD [(0, [0, 1, 5])] [], ends := lookT [(0, [1])] }
def a50 : Ann := { heads := lookD [(4, [1, 6]), (2, [1, 3, 5]), (0, [1, 3, 4])] [], ends := lookT [(4, []), (2, [1]), (0, [1, 3])], draws := lookD [(17, [([1], [74]), ([1, 74], [75]), ([6], [76]), ([1, 75, 76], [77]), ([1, 77], [78]), ([1, 78], [79]), ([79], [80]), ([80], [81]), ([81], [82]), ([1, 82], [83]), ([1, 82, 83], [84]), ([6, 82], [85]), ([1, 82, 84, 85], [86]), ([1, 82, 86], [87]), ([1, 82, 87], [88]), ([82, 88], [89]), ([82, 89], [90]), ([82, 90], [91]), ([91], [92]), ([6, 92], [93]), ([92, 93], [94]), ([92, 94], [95]), ([1, 95], [96]), ([1, 95, 96], [97]), ([6, 95], [98]), ([95, 98], [99]), ([1, 95, 97, 99], [100]), ([1, 95, 100], [101]), ([1, 95, 101], [102]), ([1, 95], [103]), ([1, 95, 103], [104]), ([6, 95], [105]), ([1, 95, 104, 105], [106]), ([1, 95, 106], [107]), ([1, 95, 107], [108]), ([95, 102, 108], [109]), ([92, 95, 109], [110]), ([92, 110], [111])])] [] }
def a51 : Ann := { heads := lookD [(0, [1, 3, 4])] [], ends := lookT [(0, [3])] }
def a52 : Ann := { heads := lookD [(0, [1, 2, 6])] [], ends := lookT [(0, [])] }
def a53 : Ann := { heads := lookD [(2, [1, 2, 6, 7, 8, 9]), (0, [1, 2, 6])] [], ends := lookT [(2, [1, 2, 6, 7, 8]), (0, [])], draws := lookD [(11, [([1], [56]), ([10], [57]), ([10, 57], [58]), ([10, 58], [59]), ([56, 59], [60]), ([60], [61]), ([10, 61], [62]), ([10, 61, 62], [63]), ([1, 61], [64]), ([61, 64], [65]), ([10, 61, 63, 65], [66]), ([10, 61, 66], [67]), ([7, 61], [68]), ([7, 61, 68], [69]), ([1, 61], [70]), ([61, 70], [71]), ([7, 61, 69, 71], [72]), ([7, 61, 72], [73]), ([61, 67, 73], [74]), ([61, 74], [75])])] [] }
def a54 : Ann := { heads := lookD [(0, [0, 3, 4])] [], ends := lookT [(0, [3])] }
def a55 : Ann := { heads := lookD [(0, [0, 3, 4])] [], ends := lookT [(0, [3])] }
def a56 : Ann := { heads := lookD [(0, [0, 3, 4])] [], ends := lookT [(0, [3])] }
def a57 : Ann := { heads := lookD [(4, [1, 60, 61, 62]), (2, [1, 3, 48, 49, 50]), (0, [1, 3, 23, 24, 25])] [], ends := lookT [(4, []), (2, [1]), (0, [1, 3])], draws := lookD [(19, [([9], [67]), ([9, 67], [68]), ([68], [69]), ([69], [70]), ([70], [71]), ([9, 71], [72]), ([9, 71, 72], [73]), ([71, 73], [74]), ([71, 74], [75]), ([71, 75], [76]), ([76], [77]), ([8, 77], [78]), ([77, 78], [79]), ([77, 79], [80]), ([9, 80], [81]), ([9, 80, 81], [82]), ([1, 80], [83]), ([1, 80, 83], [84]), ([8, 80], [85]), ([80, 85], [86]), ([1, 80, 84, 86], [87]), ([1, 80, 87], [88]), ([1, 80, 88], [89]), ([80, 82, 89], [90]), ([77, 80, 90], [91]), ([77, 91], [92])])] [] }
def a58 : Ann := { keep := [0], heads := lookD [(4, [0, 8]), (2, [0, 17, 18, 27, 28, 29]), (0, [0, 17, 18])] [], ends := lookT [(4, [0]), (2, [0, 17, 18]), (0, [0])] }
def a59 : Ann := { heads := lookD [(0, [0, 1, 5])] [], ends := lookT [(0, [])], draws := lookD [(6, [([0], [17]), ([5], [18]), ([0, 17, 18], [19]), ([0, 19], [20]), ([1], [21]), ([5], [22]), ([1, 21, 22], [23]), ([1, 23], [24]), ([0, 1, 20, 24], [25]), ([25], [26])])] [] }
def a60 : Ann := { heads := lookD [(0, [0, 1, 5])] [], ends := lookT [(0, [])], draws := lookD [(6, [([0], [17]), ([5], [18]), ([0, 17, 18], [19]), ([0, 19], [20]), ([1], [21]), ([5], [22]), ([1, 21, 22], [23]), ([1, 23], [24]), ([0, 1, 20, 24], [25]), ([25], [26])])] [] }
def a61 : Ann := { heads := lookD [(0, [0, 1, 5])] [], ends := lookT [(0, [])], draws := lookD [(6, [([0], [17]), ([5], [18]), ([0, 17, 18], [19]), ([0, 19], [20]), ([1], [21]), ([5], [22]), ([1, 21, 22], [23]), ([1, 23], [24]), ([20, 24], [25]), ([25], [26])])] [] }
def a73 : Ann := {}
def a74 : Ann := {}
def a80 : Ann := { heads := lookD [(0, [0, 8, 9, 10])] [], ends := lookT [(0, [])] }
def a81 : Ann := { heads := lookD [(0, [0, 3])] [], ends := lookT [(0, [])] }
def a82 : Ann := {}
def a83 : Ann := { heads := lookD [(0, [0, 1, 5])] [], ends := lookT [(0, [1])] }
def a84 : Ann := {}
def a85 : Ann := { heads := lookD [(0, [0, 1, 5])] [], ends := lookT [(0, [1])] }
def a86 : Ann := { heads := lookD [(0, [0, 1, 5])] [], ends := lookT [(0, [1])] }
def a89 : Ann := {}
def a90 : Ann := { heads := lookD [(0, [0, 3, 4])] [], ends := lookT [(0, [3])] }
def a91 : Ann := { heads := lookD [(0, [0, 3, 4])] [], ends := lookT [(0, [3])] }
def a92 : Ann := { heads := lookD [(0, [0, 3, 4])] [], ends := lookT [(0, [3])] }
def a93 : Ann := { heads := lookD [(0, [0, 3, 4])] [], ends := lookT [(0, [3])] }
def a96 : Ann := {}
def a97 : Ann := { heads := lookD [(0, [0, 1, 5])] [], ends := lookT [(0, [])], draws := lookD [(6, [([0], [17]), ([5], [18]), ([0, 17, 18], [19]), ([0, 19], [20]), ([1], [21]), ([5], [22]), ([1, 21, 22], [23]), ([1, 23], [24]), ([20, 24], [25])])] [] }
def a98 : Ann := { heads := lookD [(0, [0, 1, 5])] [], ends := lookT [(0, [])], draws := lookD [(6, [([0], [17]), ([5], [18]), ([0, 17, 18], [19]), ([0, 19], [20]), ([1], [21]), ([5], [22]), ([1, 21, 22], [23]), ([1, 23], [24]), ([20, 24], [25])])] [] }
def a99 : Ann := { heads := lookD [(0, [0, 1, 5])] [], ends := lookT [(0, [])], draws := lookD [(6, [([0], [17]), ([5], [18]), ([0, 17, 18], [19]), ([0, 19], [20]), ([1], [21]), ([5], [22]), ([1, 21, 22], [23]), ([1, 23], [24]), ([20, 24], [25]), ([25], [26])])] [] }
def a100 : Ann := { heads := lookD [(0, [0, 1, 5])] [], ends := lookT [(0, [])], draws := lookD [(6, [([0], [17]), ([5], [18]), ([0, 17, 18], [19]), ([0, 19], [20]), ([1], [21]), ([5], [22]), ([1, 21, 22], [23]), ([1, 23], [24]), ([0, 1, 20, 24], [25]), ([25], [26])])] [] }
def a119 : Ann := { heads := lookD [(2, [0, 3, 4]), (0, [0, 3])] [], ends := lookT [(2, [0, 3]), (0, [])], draws := lookD [(11, [([0], [33]), ([4], [34]), ([0, 33, 34], [35]), ([0, 35], [36]), ([0], [37]), ([3], [38]), ([0, 37, 38], [39]), ([0, 39], [40]), ([36, 40], [41])])] [] }
def a120 : Ann := { heads := lookD [(0, [0, 1, 5])] [], ends := lookT [(0, [])], draws := lookD [(4, [([0], [12]), ([5], [13]), ([0, 12, 13], [14]), ([0, 14], [15]), ([1], [16]), ([15, 16], [17]), ([17], [18]), ([18], [19]), ([5, 19], [20]), ([19, 20], [21]), ([19, 21], [22]), ([0, 22], [23]), ([5, 22], [24]), ([22, 24], [25]), ([0, 22, 23, 25], [26]), ([0, 22, 26], [27]), ([0, 22], [28]), ([5, 22], [29]), ([0, 22, 28, 29], [30]), ([0, 22, 30], [31]), ([22, 27, 31], [32]), ([19, 22, 32], [33]), ([19, 33], [34])])] [] }
def a121 : Ann := { heads := lookD [(0, [0, 1, 5])] [], ends := lookT [(0, [])], draws := lookD [(4, [([0], [12]), ([5], [13]), ([0, 12, 13], [14]), ([0, 14], [15]), ([0, 15], [16]), ([16], [17]), ([17], [18]), ([18], [19]), ([0, 19], [20]), ([5, 19], [21]), ([0, 19, 20, 21], [22]), ([0, 19, 22], [23]), ([0, 19, 23], [24]), ([1, 19], [25]), ([0, 19, 24, 25], [26]), ([19, 26], [27]), ([19, 27], [28]), ([28], [29]), ([5, 29], [30]), ([29, 30], [31]), ([29, 31], [32]), ([0, 32], [33]), ([5, 32], [34]), ([32, 34], [35]), ([0, 32, 33, 35], [36]), ([0, 32, 36], [37]), ([0, 32, 37], [38]), ([0, 32], [39]), ([5, 32], [40]), ([0, 32, 39, 40], [41]), ([0, 32, 41], [42]), ([0, 32, 42], [43]), ([32, 38, 43], [44]), ([29, 32, 44], [45]), ([29, 45], [46])])] [] }
def a122 : Ann := {}
def a123 : Ann := { heads := lookD [(0, [0, 1, 7, 8, 9])] [], ends := lookT [(0, [])] }
def a124 : Ann := {}
def a125 : Ann := {}
def a126 : Ann := {}
def a127 : Ann := {}
def a128 : Ann := {}
def a129 : Ann := { keep := [0], heads := lookD [(0, [0, 3, 16, 17, 18])] [], ends := lookT [(0, [0, 3])], draws := lookD [(2, [([0], [6]), ([0, 6], [7]), ([0, 7], [8]), ([0, 8], [9]), ([0, 9], [10]), ([0], [11]), ([0, 11], [12]), ([0, 12], [13]), ([0, 13], [14]), ([0, 14], [15]), ([0, 10, 15], [16]), ([0, 16], [17]), ([], [18])])] [] }
def a130 : Ann := { keep := [0], heads := lookD [(0, [0, 1, 11, 12, 13])] [], ends := lookT [(0, [0])] }
def n131_7 : List DNode := [⟨[], [(0, 1, [0, 1, 6, 9, 14, 15, 16, 37]), (1, 2, [0, 1, 6, 9, 14, 15, 16, 38])]⟩, ⟨[0], [(1, 3, [0, 1, 6, 9, 14, 15, 16, 37, 38])]⟩, ⟨[1], [(0, 3, [0, 1, 6, 9, 14, 15, 16, 37, 38])]⟩, ⟨[0, 1], [(2, 4, [0, 1, 6, 9, 14, 15, 16, 37, 38, 39]), (4, 5, [0, 1, 6, 9, 14, 15, 16, 37, 38, 41])]⟩, ⟨[0, 1, 2], [(3, 6, [0, 1, 6, 9, 14, 15, 16, 37, 38, 40]), (4, 7, [0, 1, 6, 9, 14, 15, 16, 37, 39, 41])]⟩, ⟨[0, 1, 4], [(2, 7, [0, 1, 6, 9, 14, 15, 16, 37, 39, 41]), (5, 8, [0, 1, 6, 9, 14, 15, 16, 37, 38, 42])]⟩, ⟨[0, 1, 2, 3], [(4, 9, [0, 1, 6, 9, 14, 15, 16, 37, 40, 41])]⟩, ⟨[0, 1, 2, 4], [(3, 9, [0, 1, 6, 9, 14, 15, 16, 37, 40, 41]), (5, 10, [0, 1, 6, 9, 14, 15, 16, 37, 39, 42])]⟩, ⟨[0, 1, 4, 5], [(2, 10, [0, 1, 6, 9, 14, 15, 16, 37, 39, 42])]⟩, ⟨[0, 1, 2, 3, 4], [(5, 11, [0, 1, 6, 9, 14, 15, 16, 37, 40, 42])]⟩, ⟨[0, 1, 2, 4, 5], [(3, 11, [0, 1, 6, 9, 14, 15, 16, 37, 40, 42])]⟩, ⟨[0, 1, 2, 3, 4, 5], [(6, 12, [0, 1, 6, 9, 14, 15, 16])]⟩, ⟨[0, 1, 2, 3, 4, 5, 6], []⟩]
def a131 : Ann := { keep := [0], heads := lookD [(0, [0, 1, 6, 14, 15, 16])] [], ends := lookT [(0, [0])], draws := lookD [(7, []), (8, [([9], [43]), ([9, 43], [44]), ([44], [45]), ([45], [46]), ([6, 46], [47]), ([9, 46], [48]), ([6, 46, 47, 48], [49]), ([46, 49], [50]), ([0, 46], [51]), ([0, 46, 51], [52]), ([0, 46, 52], [53]), ([0, 46, 53], [54]), ([0, 46, 54], [55]), ([46, 50, 55], [56]), ([46, 56], [57])])] [], free := lookT [(7, n131_7)] }
def a132 : Ann := {}
def a133 : Ann := {}
def a148 : Ann := {}
def a149 : Ann := {}
def a152 : Ann := {}
def a153 : Ann := {}
def a158 : Ann := {}
def a159 : Ann := {}
def a164 : Ann := { heads := lookD [(0, [0, 1, 7, 8])] [], ends := lookT [(0, [])] }
def anns : List (Nat × Ann) := [(3, a3), (8, a8), (9, a9), (10, a10), (11, a11), (12, a12), (27, a27), (28, a28), (29, a29), (30, a30), (31, a31), (33, a33), (35, a35), (44, a44), (45, a45), (47, a47), (48, a48), (49, a49), (50, a50), (51, a51), (52, a52), (53, a53), (54, a54), (55, a55), (56, a56), (57, a57), (58, a58), (59, a59), (60, a60), (61, a61), (73, a73), (74, a74), (80, a80), (81, a81), (82, a82), (83, a83), (84, a84), (85, a85), (86, a86), (89, a89), (90, a90), (91, a91), (92, a92), (93, a93), (96, a96), (97, a97), (98, a98), (99, a99), (100, a100), (119, a119), (120, a120), (121, a121), (122, a122), (123, a123), (124, a124), (125, a125), (126, a126), (127, a127), (128, a128), (129, a129), (130, a130), (131, a131), (132, a132), (133, a133), (148, a148), (149, a149), (152, a152), (153, a153), (158, a158), (159, a159), (164, a164)]
def eqs : List Nat := [51]
def E : Env := ⟨lookT tbl, fun t => eqs.contains t, lookD anns {}, []⟩
set_option maxRecDepth 100000
theorem eT : E.T 2 = some ⟨.prim, 1, 8, [.p (.int .i64 0)]⟩ ∧
  E.T 3 = some ⟨.prim, 1, 8, [.p (.int .i64 0)]⟩ ∧
  E.T 4 = some ⟨.prim, 1, 1, [.p (.bool false)]⟩ ∧
  E.T 5 = some ⟨.prim, 1, 1, [.p (.int .u8 0)]⟩ ∧
  E.T 6 = some ⟨.prim, 1, 1, [.p (.int .u8 0)]⟩ ∧
  E.T 7 = some ⟨.strct [(0, 1, false), (1, 1, false), (2, 1, false), (3, 1, false)], 4, 24, [.p (.int .i64 0), .p (.int .i64 0), .p (.bool false), .p (.int .u8 0)]⟩ ∧
  E.T 8 = some ⟨.strct [(0, 1, false), (1, 1, false), (2, 1, false), (3, 1, false)], 4, 24, [.p (.int .i64 0), .p (.int .i64 0), .p (.bool false), .p (.int .u8 0)]⟩ ∧
  E.T 9 = some ⟨.prim, 1, 16, [.p (.string ⟨#[]⟩)]⟩ ∧
  E.T 10 = some ⟨.prim, 1, 16, [.p (.string ⟨#[]⟩)]⟩ ∧
  E.T 11 = some ⟨.prim, 1, 16, [.p (.string ⟨#[]⟩)]⟩ ∧
  E.T 12 = some ⟨.prim, 1, 8, [.p (.int .u64 0)]⟩ ∧
  E.T 13 = some ⟨.strct [(0, 1, false), (1, 1, false)], 2, 24, [.p (.string ⟨#[]⟩), .p (.int .u64 0)]⟩ ∧
  E.T 14 = some ⟨.strct [(0, 1, false), (1, 1, false)], 2, 24, [.p (.string ⟨#[]⟩), .p (.int .u64 0)]⟩ ∧
  E.T 15 = some ⟨.ptr 222, 1, 8, [.p (.pointer none)]⟩ ∧
  E.T 16 = some ⟨.ptr 225, 1, 8, [.p (.pointer none)]⟩ ∧
  E.T 17 = some ⟨.ptr 235, 1, 8, [.p (.pointer none)]⟩ ∧
  E.T 18 = some ⟨.strct [(0, 1, false)], 1, 8, [.p (.pointer none)]⟩ ∧
  E.T 19 = some ⟨.strct [(0, 1, false)], 1, 8, [.p (.pointer none)]⟩ ∧
  E.T 21 = some ⟨.prim, 1, 4, [.p (.int .i32 0)]⟩ ∧
  E.T 22 = some ⟨.slc 72, 1, 24, [.sl .own 18 []]⟩ ∧
  E.T 23 = some ⟨.slc 142, 1, 24, [.sl .own 8 []]⟩ ∧
  E.T 24 = some ⟨.slc 145, 1, 24, [.sl .own 2 []]⟩ ∧
  E.T 25 = some ⟨.strct [(0, 1, false), (1, 1, false), (2, 1, false)], 3, 72, [.sl .own 18 [], .sl .own 8 [], .sl .own 2 []]⟩ ∧
  E.T 26 = some ⟨.strct [(0, 1, false), (1, 1, false), (2, 1, false)], 3, 72, [.sl .own 18 [], .sl .own 8 [], .sl .own 2 []]⟩ ∧
  E.T 29 = some ⟨.slc 76, 1, 24, [.sl .own 18 []]⟩ ∧
  E.T 30 = some ⟨.slc 59, 1, 24, [.sl .own 8 []]⟩ ∧
  E.T 31 = some ⟨.slc 146, 1, 24, [.sl .own 2 []]⟩ ∧
  E.T 32 = some ⟨.strct [(0, 1, false), (1, 1, false), (2, 1, false)], 3, 72, [.sl .own 18 [], .sl .own 8 [], .sl .own 2 []]⟩ ∧
  E.T 33 = some ⟨.strct [(0, 1, false), (1, 1, false), (2, 1, false)], 3, 72, [.sl .own 18 [], .sl .own 8 [], .sl .own 2 []]⟩ ∧
  E.T 37 = some ⟨.slc 165, 1, 24, [.sl .own 9 []]⟩ ∧
  E.T 38 = some ⟨.strct [(0, 3, true), (3, 1, false), (4, 1, false)], 5, 104, [.sl .own 18 [], .sl .own 8 [], .sl .own 2 [], .p (.int .i64 0), .sl .own 9 []]⟩ ∧
  E.T 39 = some ⟨.strct [(0, 3, true), (3, 1, false), (4, 1, false)], 5, 104, [.sl .own 18 [], .sl .own 8 [], .sl .own 2 [], .p (.int .i64 0), .sl .own 9 []]⟩ ∧
  E.T 44 = some ⟨.slc 5, 1, 24, [.sl .own 1 []]⟩ ∧
  E.T 45 = some ⟨.slc 51, 1, 24, [.sl .own 2 []]⟩ ∧
  E.T 50 = some ⟨.strct [(0, 1, false), (1, 1, false)], 2, 24, [.p (.int .i64 0), .p (.string ⟨#[]⟩)]⟩ ∧
  E.T 51 = some ⟨.strct [(0, 1, false), (1, 1, false)], 2, 24, [.p (.int .i64 0), .p (.string ⟨#[]⟩)]⟩ ∧
  E.T 55 = some ⟨.strct [(0, 1, false), (1, 1, false), (2, 1, false)], 3, 40, [.p (.int .i64 0), .p (.int .i64 0), .sl .own 2 []]⟩ ∧
  E.T 56 = some ⟨.strct [(0, 1, false), (1, 1, false), (2, 1, false)], 3, 40, [.p (.int .i64 0), .p (.int .i64 0), .sl .own 2 []]⟩ ∧
  E.T 58 = some ⟨.strct [(0, 1, false), (1, 1, false), (2, 1, false), (3, 1, false), (4, 1, false), (5, 1, false), (6, 1, false), (7, 1, false)], 8, 88, [.p (.int .i64 0), .p (.int .i64 0), .p (.int .i64 0), .p (.int .i64 0), .p (.int .i64 0), .p (.int .i64 0), .p (.string ⟨#[]⟩), .sl .own 2 []]⟩ ∧
  E.T 59 = some ⟨.strct [(0, 1, false), (1, 1, false), (2, 1, false), (3, 1, false), (4, 1, false), (5, 1, false), (6, 1, false), (7, 1, false)], 8, 88, [.p (.int .i64 0), .p (.int .i64 0), .p (.int .i64 0), .p (.int .i64 0), .p (.int .i64 0), .p (.int .i64 0), .p (.string ⟨#[]⟩), .sl .own 2 []]⟩ ∧
  E.T 65 = some ⟨.slc 176, 1, 24, [.sl .own 2 []]⟩ ∧
  E.T 66 = some ⟨.strct [(0, 1, false), (1, 1, false), (2, 1, false)], 3, 40, [.p (.int .i64 0), .p (.int .i64 0), .sl .own 2 []]⟩ ∧
  E.T 67 = some ⟨.strct [(0, 1, false), (1, 1, false), (2, 1, false)], 3, 40, [.p (.int .i64 0), .p (.int .i64 0), .sl .own 2 []]⟩ ∧
  E.T 68 = some ⟨.slc 9, 1, 24, [.sl .own 1 []]⟩ ∧
  E.T 69 = some ⟨.slc 3, 1, 24, [.sl .own 1 []]⟩ ∧
  E.T 70 = some ⟨.slc 178, 1, 24, [.sl .own 2 []]⟩ ∧
  E.T 71 = some ⟨.strct [(0, 1, false), (1, 1, false), (2, 1, false), (3, 3, true), (6, 3, true), (9, 1, false), (10, 1, false), (11, 1, false), (12, 1, false), (13, 1, false), (14, 1, false), (15, 1, false), (16, 1, false), (17, 1, false)], 18, 248, [.p (.int .i64 0), .p (.int .i64 0), .p (.bool false), .p (.int .i64 0), .p (.int .i64 0), .sl .own 2 [], .p (.int .i64 0), .p (.int .i64 0), .sl .own 2 [], .sl .own 8 [], .sl .own 1 [], .p (.bool false), .p (.bool false), .p (.int .i64 0), .sl .own 1 [], .sl .own 2 [], .sl .own 2 [], .p (.int .i64 0)]⟩ ∧
  E.T 72 = some ⟨.strct [(0, 1, false), (1, 1, false), (2, 1, false), (3, 3, true), (6, 3, true), (9, 1, false), (10, 1, false), (11, 1, false), (12, 1, false), (13, 1, false), (14, 1, false), (15, 1, false), (16, 1, false), (17, 1, false)], 18, 248, [.p (.int .i64 0), .p (.int .i64 0), .p (.bool false), .p (.int .i64 0), .p (.int .i64 0), .sl .own 2 [], .p (.int .i64 0), .p (.int .i64 0), .sl .own 2 [], .sl .own 8 [], .sl .own 1 [], .p (.bool false), .p (.bool false), .p (.int .i64 0), .sl .own 1 [], .sl .own 2 [], .sl .own 2 [], .p (.int .i64 0)]⟩ ∧
  E.T 74 = some ⟨.slc 134, 1, 24, [.sl .own 2 []]⟩ ∧
  E.T 75 = some ⟨.strct [(0, 1, false), (1, 1, false), (2, 1, false), (3, 3, true), (6, 3, true), (9, 1, false), (10, 1, false), (11, 1, false), (12, 1, false), (13, 1, false), (14, 1, false), (15, 1, false), (16, 1, false), (17, 1, false)], 18, 248, [.p (.int .i64 0), .p (.int .i64 0), .p (.bool false), .p (.int .i64 0), .p (.int .i64 0), .sl .own 2 [], .p (.int .i64 0), .p (.int .i64 0), .sl .own 2 [], .sl .own 8 [], .sl .own 1 [], .p (.bool false), .p (.bool false), .p (.int .i64 0), .sl .own 1 [], .sl .own 2 [], .sl .own 2 [], .p (.int .i64 0)]⟩ ∧
  E.T 76 = some ⟨.strct [(0, 1, false), (1, 1, false), (2, 1, false), (3, 3, true), (6, 3, true), (9, 1, false), (10, 1, false), (11, 1, false), (12, 1, false), (13, 1, false), (14, 1, false), (15, 1, false), (16, 1, false), (17, 1, false)], 18, 248, [.p (.int .i64 0), .p (.int .i64 0), .p (.bool false), .p (.int .i64 0), .p (.int .i64 0), .sl .own 2 [], .p (.int .i64 0), .p (.int .i64 0), .sl .own 2 [], .sl .own 8 [], .sl .own 1 [], .p (.bool false), .p (.bool false), .p (.int .i64 0), .sl .own 1 [], .sl .own 2 [], .sl .own 2 [], .p (.int .i64 0)]⟩ ∧
  E.T 103 = some ⟨.ptr 172, 1, 8, [.p (.pointer none)]⟩ ∧
  E.T 133 = some ⟨.strct [(0, 1, false), (1, 1, false)], 2, 32, [.p (.int .i64 0), .sl .own 1 []]⟩ ∧
  E.T 134 = some ⟨.strct [(0, 1, false), (1, 1, false)], 2, 32, [.p (.int .i64 0), .sl .own 1 []]⟩ ∧
  E.T 141 = some ⟨.strct [(0, 1, false), (1, 1, false), (2, 1, false), (3, 1, false), (4, 1, false), (5, 1, false), (6, 1, false), (7, 1, false)], 8, 88, [.p (.int .i64 0), .p (.int .i64 0), .p (.int .i64 0), .p (.int .i64 0), .p (.int .i64 0), .p (.int .i64 0), .p (.string ⟨#[]⟩), .sl .own 2 []]⟩ ∧
  E.T 142 = some ⟨.strct [(0, 1, false), (1, 1, false), (2, 1, false), (3, 1, false), (4, 1, false), (5, 1, false), (6, 1, false), (7, 1, false)], 8, 88, [.p (.int .i64 0), .p (.int .i64 0), .p (.int .i64 0), .p (.int .i64 0), .p (.int .i64 0), .p (.int .i64 0), .p (.string ⟨#[]⟩), .sl .own 2 []]⟩ ∧
  E.T 144 = some ⟨.strct [(0, 1, false), (1, 1, false)], 2, 24, [.p (.int .i64 0), .p (.string ⟨#[]⟩)]⟩ ∧
  E.T 145 = some ⟨.strct [(0, 1, false), (1, 1, false)], 2, 24, [.p (.int .i64 0), .p (.string ⟨#[]⟩)]⟩ ∧
  E.T 146 = some ⟨.strct [(0, 1, false), (1, 1, false)], 2, 24, [.p (.int .i64 0), .p (.string ⟨#[]⟩)]⟩ ∧
  E.T 149 = some ⟨.ptr 33, 1, 8, [.p (.pointer none)]⟩ ∧
  E.T 156 = some ⟨.slc 193, 1, 24, [.sl .own 3 []]⟩ ∧
  E.T 157 = some ⟨.slc 195, 1, 24, [.sl .own 6 []]⟩ ∧
  E.T 158 = some ⟨.strct [(0, 1, false), (1, 1, false)], 2, 48, [.sl .own 3 [], .sl .own 6 []]⟩ ∧
  E.T 159 = some ⟨.strct [(0, 1, false), (1, 1, false)], 2, 48, [.sl .own 3 [], .sl .own 6 []]⟩ ∧
  E.T 160 = some ⟨.strct [(0, 1, false), (1, 1, false), (2, 2, true)], 4, 72, [.p (.string ⟨#[]⟩), .p (.int .i64 0), .sl .own 3 [], .sl .own 6 []]⟩ ∧
  E.T 161 = some ⟨.strct [(0, 1, false), (1, 1, false), (2, 2, true)], 4, 72, [.p (.string ⟨#[]⟩), .p (.int .i64 0), .sl .own 3 [], .sl .own 6 []]⟩ ∧
  E.T 162 = some ⟨.strct [(0, 1, false), (1, 1, false), (2, 1, false)], 3, 24, [.p (.int .i64 0), .p (.int .i64 0), .p (.bool false)]⟩ ∧
  E.T 163 = some ⟨.strct [(0, 1, false), (1, 1, false), (2, 1, false)], 3, 24, [.p (.int .i64 0), .p (.int .i64 0), .p (.bool false)]⟩ ∧
  E.T 164 = some ⟨.strct [(0, 4, true), (4, 1, false), (5, 1, false), (6, 3, true)], 9, 112, [.p (.string ⟨#[]⟩), .p (.int .i64 0), .sl .own 3 [], .sl .own 6 [], .p (.int .i64 0), .p (.int .i64 0), .p (.int .i64 0), .p (.int .i64 0), .p (.bool false)]⟩ ∧
  E.T 165 = some ⟨.strct [(0, 4, true), (4, 1, false), (5, 1, false), (6, 3, true)], 9, 112, [.p (.string ⟨#[]⟩), .p (.int .i64 0), .sl .own 3 [], .sl .own 6 [], .p (.int .i64 0), .p (.int .i64 0), .p (.int .i64 0), .p (.int .i64 0), .p (.bool false)]⟩ ∧
  E.T 171 = some ⟨.strct [(0, 1, false), (1, 1, false)], 2, 32, [.sl .own 1 [], .p (.int .i64 0)]⟩ ∧
  E.T 172 = some ⟨.strct [(0, 1, false), (1, 1, false)], 2, 32, [.sl .own 1 [], .p (.int .i64 0)]⟩ ∧
  E.T 176 = some ⟨.strct [(0, 1, false), (1, 1, false)], 2, 24, [.p (.int .i64 0), .p (.string ⟨#[]⟩)]⟩ ∧
  E.T 178 = some ⟨.strct [(0, 1, false), (1, 1, false)], 2, 32, [.p (.int .i64 0), .sl .own 1 []]⟩ ∧
  E.T 183 = some ⟨.ptr 76, 1, 8, [.p (.pointer none)]⟩ ∧
  E.T 189 = some ⟨.mp 51 3, 1, 8, [.p (.map none)]⟩ ∧
  E.T 192 = some ⟨.strct [(0, 1, false), (1, 1, false), (2, 1, false)], 3, 40, [.p (.string ⟨#[]⟩), .p (.string ⟨#[]⟩), .p (.int .i64 0)]⟩ ∧
  E.T 193 = some ⟨.strct [(0, 1, false), (1, 1, false), (2, 1, false)], 3, 40, [.p (.string ⟨#[]⟩), .p (.string ⟨#[]⟩), .p (.int .i64 0)]⟩ ∧
  E.T 194 = some ⟨.strct [(0, 1, false), (1, 1, false), (2, 1, false), (3, 1, false), (4, 1, false), (5, 1, false)], 6, 80, [.p (.int .i64 0), .p (.string ⟨#[]⟩), .p (.string ⟨#[]⟩), .p (.int .i64 0), .p (.string ⟨#[]⟩), .p (.string ⟨#[]⟩)]⟩ ∧
  E.T 195 = some ⟨.strct [(0, 1, false), (1, 1, false), (2, 1, false), (3, 1, false), (4, 1, false), (5, 1, false)], 6, 80, [.p (.int .i64 0), .p (.string ⟨#[]⟩), .p (.string ⟨#[]⟩), .p (.int .i64 0), .p (.string ⟨#[]⟩), .p (.string ⟨#[]⟩)]⟩ ∧
  E.T 197 = some ⟨.strct [(0, 1, false), (1, 1, false), (2, 1, false)], 3, 32, [.p (.int .i64 0), .p (.int .i64 0), .p (.string ⟨#[]⟩)]⟩ ∧
  E.T 198 = some ⟨.strct [(0, 1, false), (1, 1, false), (2, 1, false)], 3, 32, [.p (.int .i64 0), .p (.int .i64 0), .p (.string ⟨#[]⟩)]⟩ ∧
  E.T 221 = some ⟨.strct [(0, 1, false), (1, 1, false), (2, 1, false), (3, 1, false)], 4, 40, [.p (.pointer none), .p (.pointer none), .p (.pointer none), .p (.string ⟨#[]⟩)]⟩ ∧
  E.T 222 = some ⟨.strct [(0, 1, false), (1, 1, false), (2, 1, false), (3, 1, false)], 4, 40, [.p (.pointer none), .p (.pointer none), .p (.pointer none), .p (.string ⟨#[]⟩)]⟩ ∧
  E.T 227 = some ⟨.prim, 1, 4, [.p (.int .u32 0)]⟩ ∧
  E.T 228 = some ⟨.prim, 1, 1, [.p (.int .u8 0)]⟩ ∧
  E.T 229 = some ⟨.prim, 1, 1, [.p (.int .u8 0)]⟩ ∧
  E.T 231 = some ⟨.ptr 5, 1, 8, [.p (.pointer none)]⟩ ∧
  E.T 232 = some ⟨.prim, 1, 4, [.p (.int .i32 0)]⟩ ∧
  E.T 233 = some ⟨.prim, 1, 4, [.p (.int .i32 0)]⟩ := by
  refine ⟨?_, ?_, ?_, ?_, ?_, ?_, ?_, ?_, ?_, ?_, ?_, ?_, ?_, ?_, ?_, ?_, ?_, ?_, ?_, ?_, ?_, ?_, ?_, ?_, ?_, ?_, ?_, ?_, ?_, ?_, ?_, ?_, ?_, ?_, ?_, ?_, ?_, ?_, ?_, ?_, ?_, ?_, ?_, ?_, ?_, ?_, ?_, ?_, ?_, ?_, ?_, ?_, ?_, ?_, ?_, ?_, ?_, ?_, ?_, ?_, ?_, ?_, ?_, ?_, ?_, ?_, ?_, ?_, ?_, ?_, ?_, ?_, ?_, ?_, ?_, ?_, ?_, ?_, ?_, ?_, ?_, ?_, ?_, ?_, ?_, ?_, ?_, ?_, ?_, ?_⟩ <;> rfl
theorem eQ : E.eqT 51 = true := by
  rfl
theorem e3 : (E.ann 3).ext = false ∧ (E.ann 3).modes = [] ∧ (E.ann 3).keep = [] ∧ (E.ann 3).mir = [] ∧ (E.ann 3).draws 10 = [([5], [22]), ([1], [23]), ([1, 23], [24]), ([5, 22, 24], [25]), ([25], [26])] ∧ (E.ann 3).free 10 = none := by
  refine ⟨?_, ?_, ?_, ?_, ?_, ?_⟩ <;> rfl
theorem e8 : (E.ann 8).ext = false ∧ (E.ann 8).modes = [] ∧ (E.ann 8).keep = [] ∧ (E.ann 8).mir = [] := by
  refine ⟨?_, ?_, ?_, ?_⟩ <;> rfl
theorem e9 : (E.ann 9).ext = false ∧ (E.ann 9).modes = [] ∧ (E.ann 9).keep = [] ∧ (E.ann 9).mir = [] ∧ (E.ann 9).heads 4 = [1, 8] ∧ (E.ann 9).heads 2 = [1, 3, 4, 5] ∧ (E.ann 9).heads 0 = [1, 3] ∧ (E.ann 9).rng 0 = none ∧ (E.ann 9).ends 0 = some [1] ∧ (E.ann 9).ends 1 = none ∧ (E.ann 9).rng 2 = none ∧ (E.ann 9).ends 2 = some [1, 3] ∧ (E.ann 9).ends 3 = none ∧ (E.ann 9).rng 4 = none ∧ (E.ann 9).ends 4 = some [] ∧ (E.ann 9).ends 5 = none := by
  refine ⟨?_, ?_, ?_, ?_, ?_, ?_, ?_, ?_, ?_, ?_, ?_, ?_, ?_, ?_, ?_, ?_⟩ <;> rfl
theorem e10 : (E.ann 10).ext = false ∧ (E.ann 10).modes = [] ∧ (E.ann 10).keep = [] ∧ (E.ann 10).mir = [] := by
  refine ⟨?_, ?_, ?_, ?_⟩ <;> rfl
theorem e11 : (E.ann 11).ext = false ∧ (E.ann 11).modes = [] ∧ (E.ann 11).keep = [] ∧ (E.ann 11).mir = [] := by
  refine ⟨?_, ?_, ?_, ?_⟩ <;> rfl
theorem e12 : (E.ann 12).ext = false ∧ (E.ann 12).modes = [] ∧ (E.ann 12).keep = [] ∧ (E.ann 12).mir = [] := by
  refine ⟨?_, ?_, ?_, ?_⟩ <;> rfl
theorem e27 : (E.ann 27).ext = false ∧ (E.ann 27).modes = [] ∧ (E.ann 27).keep = [] ∧ (E.ann 27).mir = [] ∧ (E.ann 27).heads 0 = [1, 25, 26, 27] ∧ (E.ann 27).rng 0 = none ∧ (E.ann 27).ends 0 = some [] ∧ (E.ann 27).ends 1 = none := by
  refine ⟨?_, ?_, ?_, ?_, ?_, ?_, ?_, ?_⟩ <;> rfl
theorem e28 : (E.ann 28).ext = false ∧ (E.ann 28).modes = [] ∧ (E.ann 28).keep = [] ∧ (E.ann 28).mir = [] ∧ (E.ann 28).heads 0 = [1, 3] ∧ (E.ann 28).rng 0 = none ∧ (E.ann 28).ends 0 = some [] ∧ (E.ann 28).ends 1 = none ∧ (E.ann 28).draws 6 = [([1], [30]), ([1, 30], [31]), ([3], [32]), ([1, 31, 32], [33]), ([1, 33], [34]), ([1, 34], [35]), ([1], [36]), ([1, 36], [37]), ([35, 37], [38]), ([38], [39]), ([3, 39], [40]), ([1, 39], [41]), ([1, 39, 41], [42]), ([39, 40, 42], [43]), ([39, 43], [44]), ([1, 44], [45]), ([1, 44, 45], [46]), ([3, 44], [47]), ([1, 44, 46, 47], [48]), ([1, 44, 48], [49]), ([1, 44, 49], [50]), ([44, 50], [51]), ([39, 44, 51], [52]), ([39, 52], [53])] ∧ (E.ann 28).free 6 = none := by
  refine ⟨?_, ?_, ?_, ?_, ?_, ?_, ?_, ?_, ?_, ?_⟩ <;> rfl
theorem e29 : (E.ann 29).ext = false ∧ (E.ann 29).modes = [] ∧ (E.ann 29).keep = [] ∧ (E.ann 29).mir = [] := by
  refine ⟨?_, ?_, ?_, ?_⟩ <;> rfl
theorem e30 : (E.ann 30).ext = false ∧ (E.ann 30).modes = [] ∧ (E.ann 30).keep = [] ∧ (E.ann 30).mir = [] := by
  refine ⟨?_, ?_, ?_, ?_⟩ <;> rfl
theorem e31 : (E.ann 31).ext = false ∧ (E.ann 31).modes = [] ∧ (E.ann 31).keep = [] ∧ (E.ann 31).mir = [] := by
  refine ⟨?_, ?_, ?_, ?_⟩ <;> rfl
theorem e33 : (E.ann 33).ext = false ∧ (E.ann 33).modes = [] ∧ (E.ann 33).keep = [] ∧ (E.ann 33).mir = [] := by
  refine ⟨?_, ?_, ?_, ?_⟩ <;> rfl
theorem e35 : (E.ann 35).ext = false ∧ (E.ann 35).modes = [] ∧ (E.ann 35).keep = [] ∧ (E.ann 35).mir = [] := by
  refine ⟨?_, ?_, ?_, ?_⟩ <;> rfl
theorem e44 : (E.ann 44).ext = false ∧ (E.ann 44).modes = [] ∧ (E.ann 44).keep = [] ∧ (E.ann 44).mir = [] ∧ (E.ann 44).heads 0 = [1, 3] ∧ (E.ann 44).rng 0 = none ∧ (E.ann 44).ends 0 = some [1] ∧ (E.ann 44).ends 1 = none ∧ (E.ann 44).draws 6 = [([1], [53]), ([1, 53], [54]), ([3], [55]), ([1, 54, 55], [56]), ([1, 56], [57]), ([1], [58]), ([1, 58], [59]), ([1, 57, 59], [60]), ([60], [61]), ([61], [62]), ([1, 62], [63]), ([1, 62, 63], [64]), ([3, 62], [65]), ([1, 62, 64, 65], [66]), ([1, 62, 66], [67]), ([1, 62, 67], [68]), ([1, 62], [69]), ([1, 62, 69], [70]), ([62, 68, 70], [71]), ([62, 71], [72])] ∧ (E.ann 44).free 6 = none := by
  refine ⟨?_, ?_, ?_, ?_, ?_, ?_, ?_, ?_, ?_, ?_⟩ <;> rfl
theorem e45 : (E.ann 45).ext = false ∧ (E.ann 45).modes = [] ∧ (E.ann 45).keep = [] ∧ (E.ann 45).mir = [] ∧ (E.ann 45).heads 4 = [1, 107, 108, 109] ∧ (E.ann 45).heads 2 = [1, 86, 87, 88] ∧ (E.ann 45).heads 0 = [1, 66, 67, 68] ∧ (E.ann 45).rng 0 = none ∧ (E.ann 45).ends 0 = some [1] ∧ (E.ann 45).ends 1 = none ∧ (E.ann 45).rng 2 = none ∧ (E.ann 45).ends 2 = some [1] ∧ (E.ann 45).ends 3 = none ∧ (E.ann 45).rng 4 = none ∧ (E.ann 45).ends 4 = some [1] ∧ (E.ann 45).ends 5 = none ∧ (E.ann 45).draws 18 = [([8], [114]), ([8, 114], [115]), ([115], [116]), ([116], [117]), ([117], [118]), ([8, 118], [119]), ([8, 118, 119], [120]), ([1, 118], [121]), ([1, 118, 121], [122]), ([8, 118, 120, 122], [123]), ([118, 123], [124]), ([118, 124], [125]), ([125], [126]), ([7, 126], [127]), ([126, 127], [128]), ([126, 128], [129]), ([8, 129], [130]), ([8, 129, 130], [131]), ([1, 129], [132]), ([1, 129, 132], [133]), ([7, 129], [134]), ([129, 134], [135]), ([1, 129, 133, 135], [136]), ([1, 129, 136], [137]), ([1, 129, 137], [138]), ([129, 131, 138], [139]), ([126, 129, 139], [140]), ([126, 140], [141])] ∧ (E.ann 45).free 18 = none := by
  refine ⟨?_, ?_, ?_, ?_, ?_, ?_, ?_, ?_, ?_, ?_, ?_, ?_, ?_, ?_, ?_, ?_, ?_, ?_⟩ <;> rfl
theorem e47 : (E.ann 47).ext = false ∧ (E.ann 47).modes = [] ∧ (E.ann 47).keep = [] ∧ (E.ann 47).mir = [] ∧ (E.ann 47).heads 0 = [0, 1, 5] ∧ (E.ann 47).rng 0 = none ∧ (E.ann 47).ends 0 = some [1] ∧ (E.ann 47).ends 1 = none := by
  refine ⟨?_, ?_, ?_, ?_, ?_, ?_, ?_, ?_⟩ <;> rfl
theorem e48 : (E.ann 48).ext = false ∧ (E.ann 48).modes = [] ∧ (E.ann 48).keep = [] ∧ (E.ann 48).mir = [] ∧ (E.ann 48).heads 0 = [0, 1, 5] ∧ (E.ann 48).rng 0 = none ∧ (E.ann 48).ends 0 = some [1] ∧ (E.ann 48).ends 1 = none := by
  refine ⟨?_, ?_, ?_, ?_, ?_, ?_, ?_, ?_⟩ <;> rfl
theorem e49 : (E.ann 49).ext = false ∧ (E.ann 49).modes = [] ∧ (E.ann 49).keep = [] ∧ (E.ann 49).mir = [] ∧ (E.ann 49).heads 0 = [0, 1, 5] ∧ (E.ann 49).rng 0 = none ∧ (E.ann 49).ends 0 = some [1] ∧ (E.ann 49).ends 1 = none := by
  refine ⟨?_, ?_, ?_, ?_, ?_, ?_, ?_, ?_⟩ <;> rfl
theorem e50 : (E.ann 50).ext = false ∧ (E.ann 50).modes = [] ∧ (E.ann 50).keep = [] ∧ (E.ann 50).mir = [] ∧ (E.ann 50).heads 4 = [1, 6] ∧ (E.ann 50).heads 2 = [1, 3, 5] ∧ (E.ann 50).heads 0 = [1, 3, 4] ∧ (E.ann 50).rng 0 = none ∧ (E.ann 50).ends 0 = some [1, 3] ∧ (E.ann 50).ends 1 = none ∧ (E.ann 50).rng 2 = none ∧ (E.ann 50).ends 2 = some [1] ∧ (E.ann 50).ends 3 = none ∧ (E.ann 50).rng 4 = none ∧ (E.ann 50).ends 4 = some [] ∧ (E.ann 50).ends 5 = none ∧ (E.ann 50).draws 17 = [([1], [74]), ([1, 74], [75]), ([6], [76]), ([1, 75, 76], [77]), ([1, 77], [78]), ([1, 78], [79]), ([79], [80]), ([80], [81]), ([81], [82]), ([1, 82], [83]), ([1, 82, 83], [84]), ([6, 82], [85]), ([1, 82, 84, 85], [86]), ([1, 82, 86], [87]), ([1, 82, 87], [88]), ([82, 88], [89]), ([82, 89], [90]), ([82, 90], [91]), ([91], [92]), ([6, 92], [93]), ([92, 93], [94]), ([92, 94], [95]), ([1, 95], [96]), ([1, 95, 96], [97]), ([6, 95], [98]), ([95, 98], [99]), ([1, 95, 97, 99], [100]), ([1, 95, 100], [101]), ([1, 95, 101], [102]), ([1, 95], [103]), ([1, 95, 103], [104]), ([6, 95], [105]), ([1, 95, 104, 105], [106]), ([1, 95, 106], [107]), ([1, 95, 107], [108]), ([95, 102, 108], [109]), ([92, 95, 109], [110]), ([92, 110], [111])] ∧ (E.ann 50).free 17 = none := by
  refine ⟨?_, ?_, ?_, ?_, ?_, ?_, ?_, ?_, ?_, ?_, ?_, ?_, ?_, ?_, ?_, ?_, ?_, ?_⟩ <;> rfl
theorem e51 : (E.ann 51).ext = false ∧ (E.ann 51).modes = [] ∧ (E.ann 51).keep = [] ∧ (E.ann 51).mir = [] ∧ (E.ann 51).heads 0 = [1, 3, 4] ∧ (E.ann 51).rng 0 = none ∧ (E.ann 51).ends 0 = some [3] ∧ (E.ann 51).ends 1 = none := by
  refine ⟨?_, ?_, ?_, ?_, ?_, ?_, ?_, ?_⟩ <;> rfl
theorem e52 : (E.ann 52).ext = false ∧ (E.ann 52).modes = [] ∧ (E.ann 52).keep = [] ∧ (E.ann 52).mir = [] ∧ (E.ann 52).heads 0 = [1, 2, 6] ∧ (E.ann 52).rng 0 = none ∧ (E.ann 52).ends 0 = some [] ∧ (E.ann 52).ends 1 = none := by
  refine ⟨?_, ?_, ?_, ?_, ?_, ?_, ?_, ?_⟩ <;> rfl
theorem e53 : (E.ann 53).ext = false ∧ (E.ann 53).modes = [] ∧ (E.ann 53).keep = [] ∧ (E.ann 53).mir = [] ∧ (E.ann 53).heads 2 = [1, 2, 6, 7, 8, 9] ∧ (E.ann 53).heads 0 = [1, 2, 6] ∧ (E.ann 53).rng 0 = none ∧ (E.ann 53).ends 0 = some [] ∧ (E.ann 53).ends 1 = none ∧ (E.ann 53).rng 2 = none ∧ (E.ann 53).ends 2 = some [1, 2, 6, 7, 8] ∧ (E.ann 53).ends 3 = none ∧ (E.ann 53).draws 11 = [([1], [56]), ([10], [57]), ([10, 57], [58]), ([10, 58], [59]), ([56, 59], [60]), ([60], [61]), ([10, 61], [62]), ([10, 61, 62], [63]), ([1, 61], [64]), ([61, 64], [65]), ([10, 61, 63, 65], [66]), ([10, 61, 66], [67]), ([7, 61], [68]), ([7, 61, 68], [69]), ([1, 61], [70]), ([61, 70], [71]), ([7, 61, 69, 71], [72]), ([7, 61, 72], [73]), ([61, 67, 73], [74]), ([61, 74], [75])] ∧ (E.ann 53).free 11 = none := by
  refine ⟨?_, ?_, ?_, ?_, ?_, ?_, ?_, ?_, ?_, ?_, ?_, ?_, ?_, ?_⟩ <;> rfl
theorem e54 : (E.ann 54).ext = false ∧ (E.ann 54).modes = [] ∧ (E.ann 54).keep = [] ∧ (E.ann 54).mir = [] ∧ (E.ann 54).heads 0 = [0, 3, 4] ∧ (E.ann 54).rng 0 = none ∧ (E.ann 54).ends 0 = some [3] ∧ (E.ann 54).ends 1 = none := by
  refine ⟨?_, ?_, ?_, ?_, ?_, ?_, ?_, ?_⟩ <;> rfl
theorem e55 : (E.ann 55).ext = false ∧ (E.ann 55).modes = [] ∧ (E.ann 55).keep = [] ∧ (E.ann 55).mir = [] ∧ (E.ann 55).heads 0 = [0, 3, 4] ∧ (E.ann 55).rng 0 = none ∧ (E.ann 55).ends 0 = some [3] ∧ (E.ann 55).ends 1 = none := by
  refine ⟨?_, ?_, ?_, ?_, ?_, ?_, ?_, ?_⟩ <;> rfl
theorem e56 : (E.ann 56).ext = false ∧ (E.ann 56).modes = [] ∧ (E.ann 56).keep = [] ∧ (E.ann 56).mir = [] ∧ (E.ann 56).heads 0 = [0, 3, 4] ∧ (E.ann 56).rng 0 = none ∧ (E.ann 56).ends 0 = some [3] ∧ (E.ann 56).ends 1 = none := by
  refine ⟨?_, ?_, ?_, ?_, ?_, ?_, ?_, ?_⟩ <;> rfl
theorem e57 : (E.ann 57).ext = false ∧ (E.ann 57).modes = [] ∧ (E.ann 57).keep = [] ∧ (E.ann 57).mir = [] ∧ (E.ann 57).heads 4 = [1, 60, 61, 62] ∧ (E.ann 57).heads 2 = [1, 3, 48, 49, 50] ∧ (E.ann 57).heads 0 = [1, 3, 23, 24, 25] ∧ (E.ann 57).rng 0 = none ∧ (E.ann 57).ends 0 = some [1, 3] ∧ (E.ann 57).ends 1 = none ∧ (E.ann 57).rng 2 = none ∧ (E.ann 57).ends 2 = some [1] ∧ (E.ann 57).ends 3 = none ∧ (E.ann 57).rng 4 = none ∧ (E.ann 57).ends 4 = some [] ∧ (E.ann 57).ends 5 = none ∧ (E.ann 57).draws 19 = [([9], [67]), ([9, 67], [68]), ([68], [69]), ([69], [70]), ([70], [71]), ([9, 71], [72]), ([9, 71, 72], [73]), ([71, 73], [74]), ([71, 74], [75]), ([71, 75], [76]), ([76], [77]), ([8, 77], [78]), ([77, 78], [79]), ([77, 79], [80]), ([9, 80], [81]), ([9, 80, 81], [82]), ([1, 80], [83]), ([1, 80, 83], [84]), ([8, 80], [85]), ([80, 85], [86]), ([1, 80, 84, 86], [87]), ([1, 80, 87], [88]), ([1, 80, 88], [89]), ([80, 82, 89], [90]), ([77, 80, 90], [91]), ([77, 91], [92])] ∧ (E.ann 57).free 19 = none := by
  refine ⟨?_, ?_, ?_, ?_, ?_, ?_, ?_, ?_, ?_, ?_, ?_, ?_, ?_, ?_, ?_, ?_, ?_, ?_⟩ <;> rfl
theorem e58 : (E.ann 58).ext = false ∧ (E.ann 58).modes = [] ∧ (E.ann 58).keep = [0] ∧ (E.ann 58).mir = [] ∧ (E.ann 58).heads 4 = [0, 8] ∧ (E.ann 58).heads 2 = [0, 17, 18, 27, 28, 29] ∧ (E.ann 58).heads 0 = [0, 17, 18] ∧ (E.ann 58).rng 0 = none ∧ (E.ann 58).ends 0 = some [0] ∧ (E.ann 58).ends 1 = none ∧ (E.ann 58).rng 2 = none ∧ (E.ann 58).ends 2 = some [0, 17, 18] ∧ (E.ann 58).ends 3 = none ∧ (E.ann 58).rng 4 = none ∧ (E.ann 58).ends 4 = some [0] ∧ (E.ann 58).ends 5 = none := by
  refine ⟨?_, ?_, ?_, ?_, ?_, ?_, ?_, ?_, ?_, ?_, ?_, ?_, ?_, ?_, ?_, ?_⟩ <;> rfl
theorem e59 : (E.ann 59).ext = false ∧ (E.ann 59).modes = [] ∧ (E.ann 59).keep = [] ∧ (E.ann 59).mir = [] ∧ (E.ann 59).heads 0 = [0, 1, 5] ∧ (E.ann 59).rng 0 = none ∧ (E.ann 59).ends 0 = some [] ∧ (E.ann 59).ends 1 = none ∧ (E.ann 59).draws 6 = [([0], [17]), ([5], [18]), ([0, 17, 18], [19]), ([0, 19], [20]), ([1], [21]), ([5], [22]), ([1, 21, 22], [23]), ([1, 23], [24]), ([0, 1, 20, 24], [25]), ([25], [26])] ∧ (E.ann 59).free 6 = none := by
  refine ⟨?_, ?_, ?_, ?_, ?_, ?_, ?_, ?_, ?_, ?_⟩ <;> rfl
theorem e60 : (E.ann 60).ext = false ∧ (E.ann 60).modes = [] ∧ (E.ann 60).keep = [] ∧ (E.ann 60).mir = [] ∧ (E.ann 60).heads 0 = [0, 1, 5] ∧ (E.ann 60).rng 0 = none ∧ (E.ann 60).ends 0 = some [] ∧ (E.ann 60).ends 1 = none ∧ (E.ann 60).draws 6 = [([0], [17]), ([5], [18]), ([0, 17, 18], [19]), ([0, 19], [20]), ([1], [21]), ([5], [22]), ([1, 21, 22], [23]), ([1, 23], [24]), ([0, 1, 20, 24], [25]), ([25], [26])] ∧ (E.ann 60).free 6 = none := by
  refine ⟨?_, ?_, ?_, ?_, ?_, ?_, ?_, ?_, ?_, ?_⟩ <;> rfl
theorem e61 : (E.ann 61).ext = false ∧ (E.ann 61).modes = [] ∧ (E.ann 61).keep = [] ∧ (E.ann 61).mir = [] ∧ (E.ann 61).heads 0 = [0, 1, 5] ∧ (E.ann 61).rng 0 = none ∧ (E.ann 61).ends 0 = some [] ∧ (E.ann 61).ends 1 = none ∧ (E.ann 61).draws 6 = [([0], [17]), ([5], [18]), ([0, 17, 18], [19]), ([0, 19], [20]), ([1], [21]), ([5], [22]), ([1, 21, 22], [23]), ([1, 23], [24]), ([20, 24], [25]), ([25], [26])] ∧ (E.ann 61).free 6 = none := by
  refine ⟨?_, ?_, ?_, ?_, ?_, ?_, ?_, ?_, ?_, ?_⟩ <;> rfl
theorem e73 : (E.ann 73).ext = false ∧ (E.ann 73).modes = [] ∧ (E.ann 73).keep = [] ∧ (E.ann 73).mir = [] := by
  refine ⟨?_, ?_, ?_, ?_⟩ <;> rfl
theorem e74 : (E.ann 74).ext = false ∧ (E.ann 74).modes = [] ∧ (E.ann 74).keep = [] ∧ (E.ann 74).mir = [] := by
  refine ⟨?_, ?_, ?_, ?_⟩ <;> rfl
theorem e80 : (E.ann 80).ext = false ∧ (E.ann 80).modes = [] ∧ (E.ann 80).keep = [] ∧ (E.ann 80).mir = [] ∧ (E.ann 80).heads 0 = [0, 8, 9, 10] ∧ (E.ann 80).rng 0 = none ∧ (E.ann 80).ends 0 = some [] ∧ (E.ann 80).ends 1 = none := by
  refine ⟨?_, ?_, ?_, ?_, ?_, ?_, ?_, ?_⟩ <;> rfl
theorem e81 : (E.ann 81).ext = false ∧ (E.ann 81).modes = [] ∧ (E.ann 81).keep = [] ∧ (E.ann 81).mir = [] ∧ (E.ann 81).heads 0 = [0, 3] ∧ (E.ann 81).rng 0 = none ∧ (E.ann 81).ends 0 = some [] ∧ (E.ann 81).ends 1 = none := by
  refine ⟨?_, ?_, ?_, ?_, ?_, ?_, ?_, ?_⟩ <;> rfl
theorem e82 : (E.ann 82).ext = false ∧ (E.ann 82).modes = [] ∧ (E.ann 82).keep = [] ∧ (E.ann 82).mir = [] := by
  refine ⟨?_, ?_, ?_, ?_⟩ <;> rfl
theorem e83 : (E.ann 83).ext = false ∧ (E.ann 83).modes = [] ∧ (E.ann 83).keep = [] ∧ (E.ann 83).mir = [] ∧ (E.ann 83).heads 0 = [0, 1, 5] ∧ (E.ann 83).rng 0 = none ∧ (E.ann 83).ends 0 = some [1] ∧ (E.ann 83).ends 1 = none := by
  refine ⟨?_, ?_, ?_, ?_, ?_, ?_, ?_, ?_⟩ <;> rfl
theorem e84 : (E.ann 84).ext = false ∧ (E.ann 84).modes = [] ∧ (E.ann 84).keep = [] ∧ (E.ann 84).mir = [] := by
  refine ⟨?_, ?_, ?_, ?_⟩ <;> rfl
theorem e85 : (E.ann 85).ext = false ∧ (E.ann 85).modes = [] ∧ (E.ann 85).keep = [] ∧ (E.ann 85).mir = [] ∧ (E.ann 85).heads 0 = [0, 1, 5] ∧ (E.ann 85).rng 0 = none ∧ (E.ann 85).ends 0 = some [1] ∧ (E.ann 85).ends 1 = none := by
  refine ⟨?_, ?_, ?_, ?_, ?_, ?_, ?_, ?_⟩ <;> rfl
theorem e86 : (E.ann 86).ext = false ∧ (E.ann 86).modes = [] ∧ (E.ann 86).keep = [] ∧ (E.ann 86).mir = [] ∧ (E.ann 86).heads 0 = [0, 1, 5] ∧ (E.ann 86).rng 0 = none ∧ (E.ann 86).ends 0 = some [1] ∧ (E.ann 86).ends 1 = none := by
  refine ⟨?_, ?_, ?_, ?_, ?_, ?_, ?_, ?_⟩ <;> rfl
theorem e89 : (E.ann 89).ext = false ∧ (E.ann 89).modes = [] ∧ (E.ann 89).keep = [] ∧ (E.ann 89).mir = [] := by
  refine ⟨?_, ?_, ?_, ?_⟩ <;> rfl
theorem e90 : (E.ann 90).ext = false ∧ (E.ann 90).modes = [] ∧ (E.ann 90).keep = [] ∧ (E.ann 90).mir = [] ∧ (E.ann 90).heads 0 = [0, 3, 4] ∧ (E.ann 90).rng 0 = none ∧ (E.ann 90).ends 0 = some [3] ∧ (E.ann 90).ends 1 = none := by
  refine ⟨?_, ?_, ?_, ?_, ?_, ?_, ?_, ?_⟩ <;> rfl
theorem e91 : (E.ann 91).ext = false ∧ (E.ann 91).modes = [] ∧ (E.ann 91).keep = [] ∧ (E.ann 91).mir = [] ∧ (E.ann 91).heads 0 = [0, 3, 4] ∧ (E.ann 91).rng 0 = none ∧ (E.ann 91).ends 0 = some [3] ∧ (E.ann 91).ends 1 = none := by
  refine ⟨?_, ?_, ?_, ?_, ?_, ?_, ?_, ?_⟩ <;> rfl
theorem e92 : (E.ann 92).ext = false ∧ (E.ann 92).modes = [] ∧ (E.ann 92).keep = [] ∧ (E.ann 92).mir = [] ∧ (E.ann 92).heads 0 = [0, 3, 4] ∧ (E.ann 92).rng 0 = none ∧ (E.ann 92).ends 0 = some [3] ∧ (E.ann 92).ends 1 = none := by
  refine ⟨?_, ?_, ?_, ?_, ?_, ?_, ?_, ?_⟩ <;> rfl
theorem e93 : (E.ann 93).ext = false ∧ (E.ann 93).modes = [] ∧ (E.ann 93).keep = [] ∧ (E.ann 93).mir = [] ∧ (E.ann 93).heads 0 = [0, 3, 4] ∧ (E.ann 93).rng 0 = none ∧ (E.ann 93).ends 0 = some [3] ∧ (E.ann 93).ends 1 = none := by
  refine ⟨?_, ?_, ?_, ?_, ?_, ?_, ?_, ?_⟩ <;> rfl
theorem e96 : (E.ann 96).ext = false ∧ (E.ann 96).modes = [] ∧ (E.ann 96).keep = [] ∧ (E.ann 96).mir = [] := by
  refine ⟨?_, ?_, ?_, ?_⟩ <;> rfl
theorem e97 : (E.ann 97).ext = false ∧ (E.ann 97).modes = [] ∧ (E.ann 97).keep = [] ∧ (E.ann 97).mir = [] ∧ (E.ann 97).heads 0 = [0, 1, 5] ∧ (E.ann 97).rng 0 = none ∧ (E.ann 97).ends 0 = some [] ∧ (E.ann 97).ends 1 = none ∧ (E.ann 97).draws 6 = [([0], [17]), ([5], [18]), ([0, 17, 18], [19]), ([0, 19], [20]), ([1], [21]), ([5], [22]), ([1, 21, 22], [23]), ([1, 23], [24]), ([20, 24], [25])] ∧ (E.ann 97).free 6 = none := by
  refine ⟨?_, ?_, ?_, ?_, ?_, ?_, ?_, ?_, ?_, ?_⟩ <;> rfl
theorem e98 : (E.ann 98).ext = false ∧ (E.ann 98).modes = [] ∧ (E.ann 98).keep = [] ∧ (E.ann 98).mir = [] ∧ (E.ann 98).heads 0 = [0, 1, 5] ∧ (E.ann 98).rng 0 = none ∧ (E.ann 98).ends 0 = some [] ∧ (E.ann 98).ends 1 = none ∧ (E.ann 98).draws 6 = [([0], [17]), ([5], [18]), ([0, 17, 18], [19]), ([0, 19], [20]), ([1], [21]), ([5], [22]), ([1, 21, 22], [23]), ([1, 23], [24]), ([20, 24], [25])] ∧ (E.ann 98).free 6 = none := by
  refine ⟨?_, ?_, ?_, ?_, ?_, ?_, ?_, ?_, ?_, ?_⟩ <;> rfl
theorem e99 : (E.ann 99).ext = false ∧ (E.ann 99).modes = [] ∧ (E.ann 99).keep = [] ∧ (E.ann 99).mir = [] ∧ (E.ann 99).heads 0 = [0, 1, 5] ∧ (E.ann 99).rng 0 = none ∧ (E.ann 99).ends 0 = some [] ∧ (E.ann 99).ends 1 = none ∧ (E.ann 99).draws 6 = [([0], [17]), ([5], [18]), ([0, 17, 18], [19]), ([0, 19], [20]), ([1], [21]), ([5], [22]), ([1, 21, 22], [23]), ([1, 23], [24]), ([20, 24], [25]), ([25], [26])] ∧ (E.ann 99).free 6 = none := by
  refine ⟨?_, ?_, ?_, ?_, ?_, ?_, ?_, ?_, ?_, ?_⟩ <;> rfl
theorem e100 : (E.ann 100).ext = false ∧ (E.ann 100).modes = [] ∧ (E.ann 100).keep = [] ∧ (E.ann 100).mir = [] ∧ (E.ann 100).heads 0 = [0, 1, 5] ∧ (E.ann 100).rng 0 = none ∧ (E.ann 100).ends 0 = some [] ∧ (E.ann 100).ends 1 = none ∧ (E.ann 100).draws 6 = [([0], [17]), ([5], [18]), ([0, 17, 18], [19]), ([0, 19], [20]), ([1], [21]), ([5], [22]), ([1, 21, 22], [23]), ([1, 23], [24]), ([0, 1, 20, 24], [25]), ([25], [26])] ∧ (E.ann 100).free 6 = none := by
  refine ⟨?_, ?_, ?_, ?_, ?_, ?_, ?_, ?_, ?_, ?_⟩ <;> rfl
theorem e119 : (E.ann 119).ext = false ∧ (E.ann 119).modes = [] ∧ (E.ann 119).keep = [] ∧ (E.ann 119).mir = [] ∧ (E.ann 119).heads 2 = [0, 3, 4] ∧ (E.ann 119).heads 0 = [0, 3] ∧ (E.ann 119).rng 0 = none ∧ (E.ann 119).ends 0 = some [] ∧ (E.ann 119).ends 1 = none ∧ (E.ann 119).rng 2 = none ∧ (E.ann 119).ends 2 = some [0, 3] ∧ (E.ann 119).ends 3 = none ∧ (E.ann 119).draws 11 = [([0], [33]), ([4], [34]), ([0, 33, 34], [35]), ([0, 35], [36]), ([0], [37]), ([3], [38]), ([0, 37, 38], [39]), ([0, 39], [40]), ([36, 40], [41])] ∧ (E.ann 119).free 11 = none := by
  refine ⟨?_, ?_, ?_, ?_, ?_, ?_, ?_, ?_, ?_, ?_, ?_, ?_, ?_, ?_⟩ <;> rfl
theorem e120 : (E.ann 120).ext = false ∧ (E.ann 120).modes = [] ∧ (E.ann 120).keep = [] ∧ (E.ann 120).mir = [] ∧ (E.ann 120).heads 0 = [0, 1, 5] ∧ (E.ann 120).rng 0 = none ∧ (E.ann 120).ends 0 = some [] ∧ (E.ann 120).ends 1 = none ∧ (E.ann 120).draws 4 = [([0], [12]), ([5], [13]), ([0, 12, 13], [14]), ([0, 14], [15]), ([1], [16]), ([15, 16], [17]), ([17], [18]), ([18], [19]), ([5, 19], [20]), ([19, 20], [21]), ([19, 21], [22]), ([0, 22], [23]), ([5, 22], [24]), ([22, 24], [25]), ([0, 22, 23, 25], [26]), ([0, 22, 26], [27]), ([0, 22], [28]), ([5, 22], [29]), ([0, 22, 28, 29], [30]), ([0, 22, 30], [31]), ([22, 27, 31], [32]), ([19, 22, 32], [33]), ([19, 33], [34])] ∧ (E.ann 120).free 4 = none := by
  refine ⟨?_, ?_, ?_, ?_, ?_, ?_, ?_, ?_, ?_, ?_⟩ <;> rfl
theorem e121 : (E.ann 121).ext = false ∧ (E.ann 121).modes = [] ∧ (E.ann 121).keep = [] ∧ (E.ann 121).mir = [] ∧ (E.ann 121).heads 0 = [0, 1, 5] ∧ (E.ann 121).rng 0 = none ∧ (E.ann 121).ends 0 = some [] ∧ (E.ann 121).ends 1 = none ∧ (E.ann 121).draws 4 = [([0], [12]), ([5], [13]), ([0, 12, 13], [14]), ([0, 14], [15]), ([0, 15], [16]), ([16], [17]), ([17], [18]), ([18], [19]), ([0, 19], [20]), ([5, 19], [21]), ([0, 19, 20, 21], [22]), ([0, 19, 22], [23]), ([0, 19, 23], [24]), ([1, 19], [25]), ([0, 19, 24, 25], [26]), ([19, 26], [27]), ([19, 27], [28]), ([28], [29]), ([5, 29], [30]), ([29, 30], [31]), ([29, 31], [32]), ([0, 32], [33]), ([5, 32], [34]), ([32, 34], [35]), ([0, 32, 33, 35], [36]), ([0, 32, 36], [37]), ([0, 32, 37], [38]), ([0, 32], [39]), ([5, 32], [40]), ([0, 32, 39, 40], [41]), ([0, 32, 41], [42]), ([0, 32, 42], [43]), ([32, 38, 43], [44]), ([29, 32, 44], [45]), ([29, 45], [46])] ∧ (E.ann 121).free 4 = none := by
  refine ⟨?_, ?_, ?_, ?_, ?_, ?_, ?_, ?_, ?_, ?_⟩ <;> rfl
theorem e122 : (E.ann 122).ext = false ∧ (E.ann 122).modes = [] ∧ (E.ann 122).keep = [] ∧ (E.ann 122).mir = [] := by
  refine ⟨?_, ?_, ?_, ?_⟩ <;> rfl
theorem e123 : (E.ann 123).ext = false ∧ (E.ann 123).modes = [] ∧ (E.ann 123).keep = [] ∧ (E.ann 123).mir = [] ∧ (E.ann 123).heads 0 = [0, 1, 7, 8, 9] ∧ (E.ann 123).rng 0 = none ∧ (E.ann 123).ends 0 = some [] ∧ (E.ann 123).ends 1 = none := by
  refine ⟨?_, ?_, ?_, ?_, ?_, ?_, ?_, ?_⟩ <;> rfl
theorem e124 : (E.ann 124).ext = false ∧ (E.ann 124).modes = [] ∧ (E.ann 124).keep = [] ∧ (E.ann 124).mir = [] := by
  refine ⟨?_, ?_, ?_, ?_⟩ <;> rfl
theorem e125 : (E.ann 125).ext = false ∧ (E.ann 125).modes = [] ∧ (E.ann 125).keep = [] ∧ (E.ann 125).mir = [] := by
  refine ⟨?_, ?_, ?_, ?_⟩ <;> rfl
theorem e126 : (E.ann 126).ext = false ∧ (E.ann 126).modes = [] ∧ (E.ann 126).keep = [] ∧ (E.ann 126).mir = [] := by
  refine ⟨?_, ?_, ?_, ?_⟩ <;> rfl
theorem e127 : (E.ann 127).ext = false ∧ (E.ann 127).modes = [] ∧ (E.ann 127).keep = [] ∧ (E.ann 127).mir = [] := by
  refine ⟨?_, ?_, ?_, ?_⟩ <;> rfl
theorem e128 : (E.ann 128).ext = false ∧ (E.ann 128).modes = [] ∧ (E.ann 128).keep = [] ∧ (E.ann 128).mir = [] := by
  refine ⟨?_, ?_, ?_, ?_⟩ <;> rfl
theorem e129 : (E.ann 129).ext = false ∧ (E.ann 129).modes = [] ∧ (E.ann 129).keep = [0] ∧ (E.ann 129).mir = [] ∧ (E.ann 129).heads 0 = [0, 3, 16, 17, 18] ∧ (E.ann 129).rng 0 = none ∧ (E.ann 129).ends 0 = some [0, 3] ∧ (E.ann 129).ends 1 = none ∧ (E.ann 129).draws 2 = [([0], [6]), ([0, 6], [7]), ([0, 7], [8]), ([0, 8], [9]), ([0, 9], [10]), ([0], [11]), ([0, 11], [12]), ([0, 12], [13]), ([0, 13], [14]), ([0, 14], [15]), ([0, 10, 15], [16]), ([0, 16], [17]), ([], [18])] ∧ (E.ann 129).free 2 = none := by
  refine ⟨?_, ?_, ?_, ?_, ?_, ?_, ?_, ?_, ?_, ?_⟩ <;> rfl
theorem e130 : (E.ann 130).ext = false ∧ (E.ann 130).modes = [] ∧ (E.ann 130).keep = [0] ∧ (E.ann 130).mir = [] ∧ (E.ann 130).heads 0 = [0, 1, 11, 12, 13] ∧ (E.ann 130).rng 0 = none ∧ (E.ann 130).ends 0 = some [0] ∧ (E.ann 130).ends 1 = none := by
  refine ⟨?_, ?_, ?_, ?_, ?_, ?_, ?_, ?_⟩ <;> rfl
theorem e131 : (E.ann 131).ext = false ∧ (E.ann 131).modes = [] ∧ (E.ann 131).keep = [0] ∧ (E.ann 131).mir = [] ∧ (E.ann 131).heads 0 = [0, 1, 6, 14, 15, 16] ∧ (E.ann 131).rng 0 = none ∧ (E.ann 131).ends 0 = some [0] ∧ (E.ann 131).ends 1 = none ∧ (E.ann 131).draws 7 = [] ∧ (E.ann 131).draws 8 = [([9], [43]), ([9, 43], [44]), ([44], [45]), ([45], [46]), ([6, 46], [47]), ([9, 46], [48]), ([6, 46, 47, 48], [49]), ([46, 49], [50]), ([0, 46], [51]), ([0, 46, 51], [52]), ([0, 46, 52], [53]), ([0, 46, 53], [54]), ([0, 46, 54], [55]), ([46, 50, 55], [56]), ([46, 56], [57])] ∧ (E.ann 131).free 7 = some n131_7 ∧ (E.ann 131).free 8 = none := by
  refine ⟨?_, ?_, ?_, ?_, ?_, ?_, ?_, ?_, ?_, ?_, ?_, ?_⟩ <;> rfl
theorem e132 : (E.ann 132).ext = false ∧ (E.ann 132).modes = [] ∧ (E.ann 132).keep = [] ∧ (E.ann 132).mir = [] := by
  refine ⟨?_, ?_, ?_, ?_⟩ <;> rfl
theorem e133 : (E.ann 133).ext = false ∧ (E.ann 133).modes = [] ∧ (E.ann 133).keep = [] ∧ (E.ann 133).mir = [] := by
  refine ⟨?_, ?_, ?_, ?_⟩ <;> rfl
theorem e148 : (E.ann 148).ext = false ∧ (E.ann 148).modes = [] ∧ (E.ann 148).keep = [] ∧ (E.ann 148).mir = [] := by
  refine ⟨?_, ?_, ?_, ?_⟩ <;> rfl
theorem e149 : (E.ann 149).ext = false ∧ (E.ann 149).modes = [] ∧ (E.ann 149).keep = [] ∧ (E.ann 149).mir = [] := by
  refine ⟨?_, ?_, ?_, ?_⟩ <;> rfl
theorem e152 : (E.ann 152).ext = false ∧ (E.ann 152).modes = [] ∧ (E.ann 152).keep = [] ∧ (E.ann 152).mir = [] := by
  refine ⟨?_, ?_, ?_, ?_⟩ <;> rfl
theorem e153 : (E.ann 153).ext = false ∧ (E.ann 153).modes = [] ∧ (E.ann 153).keep = [] ∧ (E.ann 153).mir = [] := by
  refine ⟨?_, ?_, ?_, ?_⟩ <;> rfl
theorem e158 : (E.ann 158).ext = false ∧ (E.ann 158).modes = [] ∧ (E.ann 158).keep = [] ∧ (E.ann 158).mir = [] := by
  refine ⟨?_, ?_, ?_, ?_⟩ <;> rfl
theorem e159 : (E.ann 159).ext = false ∧ (E.ann 159).modes = [] ∧ (E.ann 159).keep = [] ∧ (E.ann 159).mir = [] := by
  refine ⟨?_, ?_, ?_, ?_⟩ <;> rfl
theorem e164 : (E.ann 164).ext = false ∧ (E.ann 164).modes = [] ∧ (E.ann 164).keep = [] ∧ (E.ann 164).mir = [] ∧ (E.ann 164).heads 0 = [0, 1, 7, 8] ∧ (E.ann 164).rng 0 = none ∧ (E.ann 164).ends 0 = some [] ∧ (E.ann 164).ends 1 = none := by
  refine ⟨?_, ?_, ?_, ?_, ?_, ?_, ?_, ?_⟩ <;> rfl
theorem tblOk : tbl.all (fun p => tiB Try.prog p.1 p.2) = true := by kernel_rfl
theorem progOk : progB Try.prog E = true := by kernel_rfl
theorem eqsOk : eqs.all (fun t => match lookT tbl t with | some i => eqTB Try.prog t i | none => true) = true := by kernel_rfl
theorem extOk : ExtOk Try.prog E := extOk_none (by kernel_rfl)
theorem sound (f : FuncId) : CallOk Try.prog E (EV Try.prog E) f := EV_sound (by kernel_rfl) (tok_of tblOk) ⟨eqOk_list eqsOk, extOk⟩ progOk f
end Go.Proofs.Ytjcbojcnfdlfaaa


