/- The tables of the seat: types, annotations (written by a program), and that the kernel finds them right. -/
import Derived.Test.YtnhgopjnnedhdaaProg
import Derived.KernelRfl
import Derived.Test.YtnhgopjnnedhdaaSxD
namespace Go.Proofs.Ytnhgopjnnedhdaa
open Go.Sx
def tbl : List (Nat × TI) := [
  (2, ⟨.prim, 1, 8, [.p (.int .i64 0)]⟩),
  (3, ⟨.prim, 1, 8, [.p (.int .i64 0)]⟩),
  (4, ⟨.prim, 1, 1, [.p (.bool false)]⟩),
  (5, ⟨.prim, 1, 1, [.p (.int .u8 0)]⟩),
  (6, ⟨.prim, 1, 1, [.p (.int .u8 0)]⟩),
  (7, ⟨.strct [(0, 1, false), (1, 1, false), (2, 1, false), (3, 1, false)], 4, 24, [.p (.int .i64 0), .p (.int .i64 0), .p (.bool false), .p (.int .u8 0)]⟩),
  (8, ⟨.strct [(0, 1, false), (1, 1, false), (2, 1, false), (3, 1, false)], 4, 24, [.p (.int .i64 0), .p (.int .i64 0), .p (.bool false), .p (.int .u8 0)]⟩),
  (9, ⟨.prim, 1, 16, [.p (.string ⟨#[]⟩)]⟩),
  (10, ⟨.prim, 1, 16, [.p (.string ⟨#[]⟩)]⟩),
  (11, ⟨.prim, 1, 16, [.p (.string ⟨#[]⟩)]⟩),
  (12, ⟨.prim, 1, 8, [.p (.int .u64 0)]⟩),
  (13, ⟨.strct [(0, 1, false), (1, 1, false)], 2, 24, [.p (.string ⟨#[]⟩), .p (.int .u64 0)]⟩),
  (14, ⟨.strct [(0, 1, false), (1, 1, false)], 2, 24, [.p (.string ⟨#[]⟩), .p (.int .u64 0)]⟩),
  (15, ⟨.ptr 120, 1, 8, [.p (.pointer none)]⟩),
  (16, ⟨.ptr 123, 1, 8, [.p (.pointer none)]⟩),
  (17, ⟨.ptr 133, 1, 8, [.p (.pointer none)]⟩),
  (18, ⟨.strct [(0, 1, false)], 1, 8, [.p (.pointer none)]⟩),
  (19, ⟨.strct [(0, 1, false)], 1, 8, [.p (.pointer none)]⟩),
  (21, ⟨.prim, 1, 4, [.p (.int .i32 0)]⟩),
  (22, ⟨.slc 57, 1, 24, [.sl .own 18 []]⟩),
  (23, ⟨.slc 60, 1, 24, [.sl .own 8 []]⟩),
  (24, ⟨.slc 63, 1, 24, [.sl .own 2 []]⟩),
  (25, ⟨.strct [(0, 1, false), (1, 1, false), (2, 1, false)], 3, 72, [.sl .own 18 [], .sl .own 8 [], .sl .own 2 []]⟩),
  (26, ⟨.strct [(0, 1, false), (1, 1, false), (2, 1, false)], 3, 72, [.sl .own 18 [], .sl .own 8 [], .sl .own 2 []]⟩),
  (30, ⟨.slc 71, 1, 24, [.sl .own 18 []]⟩),
  (31, ⟨.slc 74, 1, 24, [.sl .own 8 []]⟩),
  (32, ⟨.slc 75, 1, 24, [.sl .own 2 []]⟩),
  (33, ⟨.strct [(0, 1, false), (1, 1, false), (2, 1, false)], 3, 72, [.sl .own 18 [], .sl .own 8 [], .sl .own 2 []]⟩),
  (34, ⟨.strct [(0, 1, false), (1, 1, false), (2, 1, false)], 3, 72, [.sl .own 18 [], .sl .own 8 [], .sl .own 2 []]⟩),
  (50, ⟨.slc 110, 1, 24, [.sl .own 2 []]⟩),
  (51, ⟨.strct [(0, 1, false), (1, 1, false), (2, 1, false)], 3, 40, [.p (.int .i64 0), .p (.int .i64 0), .sl .own 2 []]⟩),
  (52, ⟨.strct [(0, 1, false), (1, 1, false), (2, 1, false)], 3, 40, [.p (.int .i64 0), .p (.int .i64 0), .sl .own 2 []]⟩),
  (53, ⟨.slc 9, 1, 24, [.sl .own 1 []]⟩),
  (54, ⟨.slc 3, 1, 24, [.sl .own 1 []]⟩),
  (55, ⟨.slc 112, 1, 24, [.sl .own 2 []]⟩),
  (56, ⟨.strct [(0, 1, false), (1, 1, false), (2, 1, false), (3, 3, true), (6, 3, true), (9, 1, false), (10, 1, false), (11, 1, false), (12, 1, false), (13, 1, false), (14, 1, false), (15, 1, false), (16, 1, false), (17, 1, false)], 18, 248, [.p (.int .i64 0), .p (.int .i64 0), .p (.bool false), .p (.int .i64 0), .p (.int .i64 0), .sl .own 2 [], .p (.int .i64 0), .p (.int .i64 0), .sl .own 2 [], .sl .own 8 [], .sl .own 1 [], .p (.bool false), .p (.bool false), .p (.int .i64 0), .sl .own 1 [], .sl .own 2 [], .sl .own 2 [], .p (.int .i64 0)]⟩),
  (57, ⟨.strct [(0, 1, false), (1, 1, false), (2, 1, false), (3, 3, true), (6, 3, true), (9, 1, false), (10, 1, false), (11, 1, false), (12, 1, false), (13, 1, false), (14, 1, false), (15, 1, false), (16, 1, false), (17, 1, false)], 18, 248, [.p (.int .i64 0), .p (.int .i64 0), .p (.bool false), .p (.int .i64 0), .p (.int .i64 0), .sl .own 2 [], .p (.int .i64 0), .p (.int .i64 0), .sl .own 2 [], .sl .own 8 [], .sl .own 1 [], .p (.bool false), .p (.bool false), .p (.int .i64 0), .sl .own 1 [], .sl .own 2 [], .sl .own 2 [], .p (.int .i64 0)]⟩),
  (59, ⟨.strct [(0, 1, false), (1, 1, false), (2, 1, false), (3, 1, false), (4, 1, false), (5, 1, false), (6, 1, false), (7, 1, false)], 8, 88, [.p (.int .i64 0), .p (.int .i64 0), .p (.int .i64 0), .p (.int .i64 0), .p (.int .i64 0), .p (.int .i64 0), .p (.string ⟨#[]⟩), .sl .own 2 []]⟩),
  (60, ⟨.strct [(0, 1, false), (1, 1, false), (2, 1, false), (3, 1, false), (4, 1, false), (5, 1, false), (6, 1, false), (7, 1, false)], 8, 88, [.p (.int .i64 0), .p (.int .i64 0), .p (.int .i64 0), .p (.int .i64 0), .p (.int .i64 0), .p (.int .i64 0), .p (.string ⟨#[]⟩), .sl .own 2 []]⟩),
  (62, ⟨.strct [(0, 1, false), (1, 1, false)], 2, 24, [.p (.int .i64 0), .p (.string ⟨#[]⟩)]⟩),
  (63, ⟨.strct [(0, 1, false), (1, 1, false)], 2, 24, [.p (.int .i64 0), .p (.string ⟨#[]⟩)]⟩),
  (66, ⟨.slc 77, 1, 24, [.sl .own 2 []]⟩),
  (67, ⟨.strct [(0, 1, false), (1, 1, false), (2, 1, false)], 3, 40, [.p (.int .i64 0), .p (.int .i64 0), .sl .own 2 []]⟩),
  (68, ⟨.strct [(0, 1, false), (1, 1, false), (2, 1, false)], 3, 40, [.p (.int .i64 0), .p (.int .i64 0), .sl .own 2 []]⟩),
  (69, ⟨.slc 103, 1, 24, [.sl .own 2 []]⟩),
  (70, ⟨.strct [(0, 1, false), (1, 1, false), (2, 1, false), (3, 3, true), (6, 3, true), (9, 1, false), (10, 1, false), (11, 1, false), (12, 1, false), (13, 1, false), (14, 1, false), (15, 1, false), (16, 1, false), (17, 1, false)], 18, 248, [.p (.int .i64 0), .p (.int .i64 0), .p (.bool false), .p (.int .i64 0), .p (.int .i64 0), .sl .own 2 [], .p (.int .i64 0), .p (.int .i64 0), .sl .own 2 [], .sl .own 8 [], .sl .own 1 [], .p (.bool false), .p (.bool false), .p (.int .i64 0), .sl .own 1 [], .sl .own 2 [], .sl .own 2 [], .p (.int .i64 0)]⟩),
  (71, ⟨.strct [(0, 1, false), (1, 1, false), (2, 1, false), (3, 3, true), (6, 3, true), (9, 1, false), (10, 1, false), (11, 1, false), (12, 1, false), (13, 1, false), (14, 1, false), (15, 1, false), (16, 1, false), (17, 1, false)], 18, 248, [.p (.int .i64 0), .p (.int .i64 0), .p (.bool false), .p (.int .i64 0), .p (.int .i64 0), .sl .own 2 [], .p (.int .i64 0), .p (.int .i64 0), .sl .own 2 [], .sl .own 8 [], .sl .own 1 [], .p (.bool false), .p (.bool false), .p (.int .i64 0), .sl .own 1 [], .sl .own 2 [], .sl .own 2 [], .p (.int .i64 0)]⟩),
  (73, ⟨.strct [(0, 1, false), (1, 1, false), (2, 1, false), (3, 1, false), (4, 1, false), (5, 1, false), (6, 1, false), (7, 1, false)], 8, 88, [.p (.int .i64 0), .p (.int .i64 0), .p (.int .i64 0), .p (.int .i64 0), .p (.int .i64 0), .p (.int .i64 0), .p (.string ⟨#[]⟩), .sl .own 2 []]⟩),
  (74, ⟨.strct [(0, 1, false), (1, 1, false), (2, 1, false), (3, 1, false), (4, 1, false), (5, 1, false), (6, 1, false), (7, 1, false)], 8, 88, [.p (.int .i64 0), .p (.int .i64 0), .p (.int .i64 0), .p (.int .i64 0), .p (.int .i64 0), .p (.int .i64 0), .p (.string ⟨#[]⟩), .sl .own 2 []]⟩),
  (75, ⟨.strct [(0, 1, false), (1, 1, false)], 2, 24, [.p (.int .i64 0), .p (.string ⟨#[]⟩)]⟩),
  (76, ⟨.strct [(0, 1, false), (1, 1, false)], 2, 24, [.p (.int .i64 0), .p (.string ⟨#[]⟩)]⟩),
  (77, ⟨.strct [(0, 1, false), (1, 1, false)], 2, 24, [.p (.int .i64 0), .p (.string ⟨#[]⟩)]⟩),
  (81, ⟨.ptr 34, 1, 8, [.p (.pointer none)]⟩),
  (82, ⟨.mp 77 3, 1, 8, [.p (.map none)]⟩),
  (102, ⟨.strct [(0, 1, false), (1, 1, false)], 2, 32, [.p (.int .i64 0), .sl .own 1 []]⟩),
  (103, ⟨.strct [(0, 1, false), (1, 1, false)], 2, 32, [.p (.int .i64 0), .sl .own 1 []]⟩),
  (110, ⟨.strct [(0, 1, false), (1, 1, false)], 2, 24, [.p (.int .i64 0), .p (.string ⟨#[]⟩)]⟩),
  (112, ⟨.strct [(0, 1, false), (1, 1, false)], 2, 32, [.p (.int .i64 0), .sl .own 1 []]⟩),
  (119, ⟨.strct [(0, 1, false), (1, 1, false), (2, 1, false), (3, 1, false)], 4, 40, [.p (.pointer none), .p (.pointer none), .p (.pointer none), .p (.string ⟨#[]⟩)]⟩),
  (120, ⟨.strct [(0, 1, false), (1, 1, false), (2, 1, false), (3, 1, false)], 4, 40, [.p (.pointer none), .p (.pointer none), .p (.pointer none), .p (.string ⟨#[]⟩)]⟩),
  (125, ⟨.prim, 1, 4, [.p (.int .u32 0)]⟩),
  (126, ⟨.prim, 1, 1, [.p (.int .u8 0)]⟩),
  (127, ⟨.prim, 1, 1, [.p (.int .u8 0)]⟩),
  (129, ⟨.ptr 5, 1, 8, [.p (.pointer none)]⟩),
  (130, ⟨.prim, 1, 4, [.p (.int .i32 0)]⟩),
  (131, ⟨.prim, 1, 4, [.p (.int .i32 0)]⟩)]
def a3 : Ann := { draws := lookD [(10, [([8], [39]), ([2], [40]), ([2, 40], [41]), ([8, 39, 41], [42]), ([42], [43])])] [] }
def a4 : Ann := {}
def a5 : Ann := {}
def a6 : Ann := {}
def a7 : Ann := {}
def a8 : Ann := {}
def a9 : Ann := { heads := lookD [(0, [0, 1, 5])] [], ends := lookT [(0, [1])] }
def a10 : Ann := { heads := lookD [(0, [0, 1, 5])] [], ends := lookT [(0, [1])] }
def a11 : Ann := { heads := lookD [(0, [0, 1, 5])] [], ends := lookT [(0, [1])] }
def a12 : Ann := { heads := lookD [(4, [1, 6]), (2, [1, 3, 5]), (0, [1, 3, 4])] [], ends := lookT [(4, []), (2, [1]), (0, [1, 3])], draws := lookD [(17, [([1], [74]), ([1, 74], [75]), ([6], [76]), ([1, 75, 76], [77]), ([1, 77], [78]), ([1, 78], [79]), ([79], [80]), ([80], [81]), ([81], [82]), ([1, 82], [83]), ([1, 82, 83], [84]), ([6, 82], [85]), ([1, 82, 84, 85], [86]), ([1, 82, 86], [87]), ([1, 82, 87], [88]), ([82, 88], [89]), ([82, 89], [90]), ([82, 90], [91]), ([91], [92]), ([6, 92], [93]), ([92, 93], [94]), ([92, 94], [95]), ([1, 95], [96]), ([1, 95, 96], [97]), ([6, 95], [98]), ([95, 98], [99]), ([1, 95, 97, 99], [100]), ([1, 95, 100], [101]), ([1, 95, 101], [102]), ([1, 95], [103]), ([1, 95, 103], [104]), ([6, 95], [105]), ([1, 95, 104, 105], [106]), ([1, 95, 106], [107]), ([1, 95, 107], [108]), ([95, 102, 108], [109]), ([92, 95, 109], [110]), ([92, 110], [111])])] [] }
def a13 : Ann := { heads := lookD [(2, [1, 2, 6, 7, 8, 9]), (0, [1, 2, 6])] [], ends := lookT [(2, [1, 2, 6, 7, 8]), (0, [])], draws := lookD [(11, [([1], [56]), ([10], [57]), ([10, 57], [58]), ([10, 58], [59]), ([56, 59], [60]), ([60], [61]), ([10, 61], [62]), ([10, 61, 62], [63]), ([1, 61], [64]), ([61, 64], [65]), ([10, 61, 63, 65], [66]), ([10, 61, 66], [67]), ([7, 61], [68]), ([7, 61, 68], [69]), ([1, 61], [70]), ([61, 70], [71]), ([7, 61, 69, 71], [72]), ([7, 61, 72], [73]), ([61, 67, 73], [74]), ([61, 74], [75])])] [] }
def a14 : Ann := { heads := lookD [(0, [0, 3, 4])] [], ends := lookT [(0, [3])] }
def a15 : Ann := { heads := lookD [(0, [0, 3, 4])] [], ends := lookT [(0, [3])] }
def a16 : Ann := { heads := lookD [(0, [0, 3, 4])] [], ends := lookT [(0, [3])] }
def a17 : Ann := { heads := lookD [(4, [1, 60, 61, 62]), (2, [1, 3, 48, 49, 50]), (0, [1, 3, 23, 24, 25])] [], ends := lookT [(4, []), (2, [1]), (0, [1, 3])], draws := lookD [(19, [([9], [67]), ([9, 67], [68]), ([68], [69]), ([69], [70]), ([70], [71]), ([9, 71], [72]), ([9, 71, 72], [73]), ([71, 73], [74]), ([71, 74], [75]), ([71, 75], [76]), ([76], [77]), ([8, 77], [78]), ([77, 78], [79]), ([77, 79], [80]), ([9, 80], [81]), ([9, 80, 81], [82]), ([1, 80], [83]), ([1, 80, 83], [84]), ([8, 80], [85]), ([80, 85], [86]), ([1, 80, 84, 86], [87]), ([1, 80, 87], [88]), ([1, 80, 88], [89]), ([80, 82, 89], [90]), ([77, 80, 90], [91]), ([77, 91], [92])])] [] }
def n18_7 : List DNode := [⟨[], [(0, 1, [0, 1, 6, 9, 14, 15, 16, 37]), (1, 2, [0, 1, 6, 9, 14, 15, 16, 38])]⟩, ⟨[0], [(1, 3, [0, 1, 6, 9, 14, 15, 16, 37, 38])]⟩, ⟨[1], [(0, 3, [0, 1, 6, 9, 14, 15, 16, 37, 38])]⟩, ⟨[0, 1], [(2, 4, [0, 1, 6, 9, 14, 15, 16, 37, 38, 39]), (4, 5, [0, 1, 6, 9, 14, 15, 16, 37, 38, 41])]⟩, ⟨[0, 1, 2], [(3, 6, [0, 1, 6, 9, 14, 15, 16, 37, 38, 40]), (4, 7, [0, 1, 6, 9, 14, 15, 16, 37, 39, 41])]⟩, ⟨[0, 1, 4], [(2, 7, [0, 1, 6, 9, 14, 15, 16, 37, 39, 41]), (5, 8, [0, 1, 6, 9, 14, 15, 16, 37, 38, 42])]⟩, ⟨[0, 1, 2, 3], [(4, 9, [0, 1, 6, 9, 14, 15, 16, 37, 40, 41])]⟩, ⟨[0, 1, 2, 4], [(3, 9, [0, 1, 6, 9, 14, 15, 16, 37, 40, 41]), (5, 10, [0, 1, 6, 9, 14, 15, 16, 37, 39, 42])]⟩, ⟨[0, 1, 4, 5], [(2, 10, [0, 1, 6, 9, 14, 15, 16, 37, 39, 42])]⟩, ⟨[0, 1, 2, 3, 4], [(5, 11, [0, 1, 6, 9, 14, 15, 16, 37, 40, 42])]⟩, ⟨[0, 1, 2, 4, 5], [(3, 11, [0, 1, 6, 9, 14, 15, 16, 37, 40, 42])]⟩, ⟨[0, 1, 2, 3, 4, 5], [(6, 12, [0, 1, 6, 9, 14, 15, 16])]⟩, ⟨[0, 1, 2, 3, 4, 5, 6], []⟩]
def a18 : Ann := { keep := [0], heads := lookD [(0, [0, 1, 6, 14, 15, 16])] [], ends := lookT [(0, [0])], draws := lookD [(7, []), (8, [([9], [43]), ([9, 43], [44]), ([44], [45]), ([45], [46]), ([6, 46], [47]), ([9, 46], [48]), ([6, 46, 47, 48], [49]), ([46, 49], [50]), ([0, 46], [51]), ([0, 46, 51], [52]), ([0, 46, 52], [53]), ([0, 46, 53], [54]), ([0, 46, 54], [55]), ([46, 50, 55], [56]), ([46, 56], [57])])] [], free := lookT [(7, n18_7)] }
def a19 : Ann := { heads := lookD [(0, [0, 1, 5])] [], ends := lookT [(0, [])], draws := lookD [(6, [([0], [17]), ([5], [18]), ([0, 17, 18], [19]), ([0, 19], [20]), ([1], [21]), ([5], [22]), ([1, 21, 22], [23]), ([1, 23], [24]), ([0, 1, 20, 24], [25]), ([25], [26])])] [] }
def a20 : Ann := { heads := lookD [(0, [0, 1, 5])] [], ends := lookT [(0, [])], draws := lookD [(6, [([0], [17]), ([5], [18]), ([0, 17, 18], [19]), ([0, 19], [20]), ([1], [21]), ([5], [22]), ([1, 21, 22], [23]), ([1, 23], [24]), ([0, 1, 20, 24], [25]), ([25], [26])])] [] }
def a21 : Ann := { heads := lookD [(0, [0, 1, 5])] [], ends := lookT [(0, [])], draws := lookD [(6, [([0], [17]), ([5], [18]), ([0, 17, 18], [19]), ([0, 19], [20]), ([1], [21]), ([5], [22]), ([1, 21, 22], [23]), ([1, 23], [24]), ([20, 24], [25]), ([25], [26])])] [] }
def a22 : Ann := {}
def a23 : Ann := {}
def a24 : Ann := {}
def a25 : Ann := {}
def a26 : Ann := { heads := lookD [(0, [1, 3])] [], ends := lookT [(0, [1])], draws := lookD [(6, [([1], [53]), ([1, 53], [54]), ([3], [55]), ([1, 54, 55], [56]), ([1, 56], [57]), ([1], [58]), ([1, 58], [59]), ([1, 57, 59], [60]), ([60], [61]), ([61], [62]), ([1, 62], [63]), ([1, 62, 63], [64]), ([3, 62], [65]), ([1, 62, 64, 65], [66]), ([1, 62, 66], [67]), ([1, 62, 67], [68]), ([1, 62], [69]), ([1, 62, 69], [70]), ([62, 68, 70], [71]), ([62, 71], [72])])] [] }
def a27 : Ann := {}
def a28 : Ann := {}
def a29 : Ann := {}
def a30 : Ann := {}
def a31 : Ann := {}
def a32 : Ann := { heads := lookD [(4, [1, 107, 108, 109]), (2, [1, 86, 87, 88]), (0, [1, 66, 67, 68])] [], ends := lookT [(4, [1]), (2, [1]), (0, [1])], draws := lookD [(18, [([8], [114]), ([8, 114], [115]), ([115], [116]), ([116], [117]), ([117], [118]), ([8, 118], [119]), ([8, 118, 119], [120]), ([1, 118], [121]), ([1, 118, 121], [122]), ([8, 118, 120, 122], [123]), ([118, 123], [124]), ([118, 124], [125]), ([125], [126]), ([7, 126], [127]), ([126, 127], [128]), ([126, 128], [129]), ([8, 129], [130]), ([8, 129, 130], [131]), ([1, 129], [132]), ([1, 129, 132], [133]), ([7, 129], [134]), ([129, 134], [135]), ([1, 129, 133, 135], [136]), ([1, 129, 136], [137]), ([1, 129, 137], [138]), ([129, 131, 138], [139]), ([126, 129, 139], [140]), ([126, 140], [141])])] [] }
def a33 : Ann := {}
def a34 : Ann := {}
def a35 : Ann := {}
def a36 : Ann := {}
def a37 : Ann := {}
def a38 : Ann := { heads := lookD [(0, [0, 1, 5])] [], ends := lookT [(0, [1])] }
def a39 : Ann := {}
def a40 : Ann := { heads := lookD [(0, [0, 1, 5])] [], ends := lookT [(0, [1])] }
def a41 : Ann := { heads := lookD [(0, [0, 1, 5])] [], ends := lookT [(0, [1])] }
def a42 : Ann := { heads := lookD [(0, [1, 3])] [], ends := lookT [(0, [])], draws := lookD [(6, [([1], [30]), ([1, 30], [31]), ([3], [32]), ([1, 31, 32], [33]), ([1, 33], [34]), ([1, 34], [35]), ([1], [36]), ([1, 36], [37]), ([35, 37], [38]), ([38], [39]), ([3, 39], [40]), ([1, 39], [41]), ([1, 39, 41], [42]), ([39, 40, 42], [43]), ([39, 43], [44]), ([1, 44], [45]), ([1, 44, 45], [46]), ([3, 44], [47]), ([1, 44, 46, 47], [48]), ([1, 44, 48], [49]), ([1, 44, 49], [50]), ([44, 50], [51]), ([39, 44, 51], [52]), ([39, 52], [53])])] [] }
def a43 : Ann := { heads := lookD [(2, [0, 3, 4]), (0, [0, 3])] [], ends := lookT [(2, [0, 3]), (0, [])], draws := lookD [(11, [([0], [33]), ([4], [34]), ([0, 33, 34], [35]), ([0, 35], [36]), ([0], [37]), ([3], [38]), ([0, 37, 38], [39]), ([0, 39], [40]), ([36, 40], [41])])] [] }
def a44 : Ann := { heads := lookD [(0, [0, 1, 5])] [], ends := lookT [(0, [])], draws := lookD [(4, [([0], [12]), ([5], [13]), ([0, 12, 13], [14]), ([0, 14], [15]), ([1], [16]), ([15, 16], [17]), ([17], [18]), ([18], [19]), ([5, 19], [20]), ([19, 20], [21]), ([19, 21], [22]), ([0, 22], [23]), ([5, 22], [24]), ([22, 24], [25]), ([0, 22, 23, 25], [26]), ([0, 22, 26], [27]), ([0, 22], [28]), ([5, 22], [29]), ([0, 22, 28, 29], [30]), ([0, 22, 30], [31]), ([22, 27, 31], [32]), ([19, 22, 32], [33]), ([19, 33], [34])])] [] }
def a45 : Ann := { heads := lookD [(0, [0, 3])] [], ends := lookT [(0, [])] }
def a46 : Ann := { heads := lookD [(0, [0, 1, 5])] [], ends := lookT [(0, [])], draws := lookD [(4, [([0], [12]), ([5], [13]), ([0, 12, 13], [14]), ([0, 14], [15]), ([0, 15], [16]), ([16], [17]), ([17], [18]), ([18], [19]), ([0, 19], [20]), ([5, 19], [21]), ([0, 19, 20, 21], [22]), ([0, 19, 22], [23]), ([0, 19, 23], [24]), ([1, 19], [25]), ([0, 19, 24, 25], [26]), ([19, 26], [27]), ([19, 27], [28]), ([28], [29]), ([5, 29], [30]), ([29, 30], [31]), ([29, 31], [32]), ([0, 32], [33]), ([5, 32], [34]), ([32, 34], [35]), ([0, 32, 33, 35], [36]), ([0, 32, 36], [37]), ([0, 32, 37], [38]), ([0, 32], [39]), ([5, 32], [40]), ([0, 32, 39, 40], [41]), ([0, 32, 41], [42]), ([0, 32, 42], [43]), ([32, 38, 43], [44]), ([29, 32, 44], [45]), ([29, 45], [46])])] [] }
def a47 : Ann := {}
def a48 : Ann := {}
def a49 : Ann := { heads := lookD [(0, [0, 3, 4])] [], ends := lookT [(0, [3])] }
def a50 : Ann := { heads := lookD [(0, [0, 3, 4])] [], ends := lookT [(0, [3])] }
def a51 : Ann := { heads := lookD [(0, [0, 3, 4])] [], ends := lookT [(0, [3])] }
def a52 : Ann := { heads := lookD [(0, [0, 3, 4])] [], ends := lookT [(0, [3])] }
def a53 : Ann := { heads := lookD [(0, [1, 25, 26, 27])] [], ends := lookT [(0, [])] }
def a54 : Ann := { heads := lookD [(0, [0, 1, 7, 8, 9])] [], ends := lookT [(0, [])] }
def a55 : Ann := { heads := lookD [(0, [0, 8, 9, 10])] [], ends := lookT [(0, [])] }
def a56 : Ann := {}
def a57 : Ann := {}
def a58 : Ann := { heads := lookD [(0, [0, 1, 5])] [], ends := lookT [(0, [])], draws := lookD [(6, [([0], [17]), ([5], [18]), ([0, 17, 18], [19]), ([0, 19], [20]), ([1], [21]), ([5], [22]), ([1, 21, 22], [23]), ([1, 23], [24]), ([20, 24], [25])])] [] }
def a59 : Ann := { heads := lookD [(0, [0, 1, 5])] [], ends := lookT [(0, [])], draws := lookD [(6, [([0], [17]), ([5], [18]), ([0, 17, 18], [19]), ([0, 19], [20]), ([1], [21]), ([5], [22]), ([1, 21, 22], [23]), ([1, 23], [24]), ([20, 24], [25])])] [] }
def a60 : Ann := { heads := lookD [(0, [0, 1, 5])] [], ends := lookT [(0, [])], draws := lookD [(6, [([0], [17]), ([5], [18]), ([0, 17, 18], [19]), ([0, 19], [20]), ([1], [21]), ([5], [22]), ([1, 21, 22], [23]), ([1, 23], [24]), ([20, 24], [25]), ([25], [26])])] [] }
def a61 : Ann := { heads := lookD [(0, [0, 1, 5])] [], ends := lookT [(0, [])], draws := lookD [(6, [([0], [17]), ([5], [18]), ([0, 17, 18], [19]), ([0, 19], [20]), ([1], [21]), ([5], [22]), ([1, 21, 22], [23]), ([1, 23], [24]), ([0, 1, 20, 24], [25]), ([25], [26])])] [] }
def a62 : Ann := {}
def a63 : Ann := {}
def a64 : Ann := {}
def a65 : Ann := {}
def a66 : Ann := { heads := lookD [(0, [0, 1, 7, 8])] [], ends := lookT [(0, [])] }
def a67 : Ann := {}
def a68 : Ann := {}
def anns : List (Nat × Ann) := [(3, a3), (4, a4), (5, a5), (6, a6), (7, a7), (8, a8), (9, a9), (10, a10), (11, a11), (12, a12), (13, a13), (14, a14), (15, a15), (16, a16), (17, a17), (18, a18), (19, a19), (20, a20), (21, a21), (22, a22), (23, a23), (24, a24), (25, a25), (26, a26), (27, a27), (28, a28), (29, a29), (30, a30), (31, a31), (32, a32), (33, a33), (34, a34), (35, a35), (36, a36), (37, a37), (38, a38), (39, a39), (40, a40), (41, a41), (42, a42), (43, a43), (44, a44), (45, a45), (46, a46), (47, a47), (48, a48), (49, a49), (50, a50), (51, a51), (52, a52), (53, a53), (54, a54), (55, a55), (56, a56), (57, a57), (58, a58), (59, a59), (60, a60), (61, a61), (62, a62), (63, a63), (64, a64), (65, a65), (66, a66), (67, a67), (68, a68)]
def eqs : List Nat := [77]
def E : Env := ⟨lookT tbl, fun t => eqs.contains t, lookD anns {}, []⟩
set_option maxRecDepth 100000
theorem eT : E.T 2 = some ⟨.prim, 1, 8, [.p (.int .i64 0)]⟩ ∧
  E.T 3 = some ⟨.prim, 1, 8, [.p (.int .i64 0)]⟩ ∧
  E.T 4 = some ⟨.prim, 1, 1, [.p (.bool false)]⟩ ∧
  E.T 5 = some ⟨.prim, 1, 1, [.p (.int .u8 0)]⟩ ∧
  E.T 6 = some ⟨.prim, 1, 1, [.p (.int .u8 0)]⟩ ∧
  E.T 7 = some ⟨.strct [(0, 1, false), (1, 1, false), (2, 1, false), (3, 1, false)], 4, 24, [.p (.int .i64 0), .p (.int .i64 0), .p (.bool false), .p (.int .u8 0)]⟩ ∧
  E.T 8 = some ⟨.strct [(0, 1, false), (1, 1, false), (2, 1, false), (3, 1, false)], 4, 24, [.p (.int .i64 0), .p (.int .i64 0), .p (.bool false), .p (.int .u8 0)]⟩ ∧
  E.T 9 = some ⟨.prim, 1, 16, [.p (.string ⟨#[]⟩)]⟩ ∧
  E.T 10 = some ⟨.prim, 1, 16, [.p (.string ⟨#[]⟩)]⟩ ∧
  E.T 11 = some ⟨.prim, 1, 16, [.p (.string ⟨#[]⟩)]⟩ ∧
  E.T 12 = some ⟨.prim, 1, 8, [.p (.int .u64 0)]⟩ ∧
  E.T 13 = some ⟨.strct [(0, 1, false), (1, 1, false)], 2, 24, [.p (.string ⟨#[]⟩), .p (.int .u64 0)]⟩ ∧
  E.T 14 = some ⟨.strct [(0, 1, false), (1, 1, false)], 2, 24, [.p (.string ⟨#[]⟩), .p (.int .u64 0)]⟩ ∧
  E.T 15 = some ⟨.ptr 120, 1, 8, [.p (.pointer none)]⟩ ∧
  E.T 16 = some ⟨.ptr 123, 1, 8, [.p (.pointer none)]⟩ ∧
  E.T 17 = some ⟨.ptr 133, 1, 8, [.p (.pointer none)]⟩ ∧
  E.T 18 = some ⟨.strct [(0, 1, false)], 1, 8, [.p (.pointer none)]⟩ ∧
  E.T 19 = some ⟨.strct [(0, 1, false)], 1, 8, [.p (.pointer none)]⟩ ∧
  E.T 21 = some ⟨.prim, 1, 4, [.p (.int .i32 0)]⟩ ∧
  E.T 22 = some ⟨.slc 57, 1, 24, [.sl .own 18 []]⟩ ∧
  E.T 23 = some ⟨.slc 60, 1, 24, [.sl .own 8 []]⟩ ∧
  E.T 24 = some ⟨.slc 63, 1, 24, [.sl .own 2 []]⟩ ∧
  E.T 25 = some ⟨.strct [(0, 1, false), (1, 1, false), (2, 1, false)], 3, 72, [.sl .own 18 [], .sl .own 8 [], .sl .own 2 []]⟩ ∧
  E.T 26 = some ⟨.strct [(0, 1, false), (1, 1, false), (2, 1, false)], 3, 72, [.sl .own 18 [], .sl .own 8 [], .sl .own 2 []]⟩ ∧
  E.T 30 = some ⟨.slc 71, 1, 24, [.sl .own 18 []]⟩ ∧
  E.T 31 = some ⟨.slc 74, 1, 24, [.sl .own 8 []]⟩ ∧
  E.T 32 = some ⟨.slc 75, 1, 24, [.sl .own 2 []]⟩ ∧
  E.T 33 = some ⟨.strct [(0, 1, false), (1, 1, false), (2, 1, false)], 3, 72, [.sl .own 18 [], .sl .own 8 [], .sl .own 2 []]⟩ ∧
  E.T 34 = some ⟨.strct [(0, 1, false), (1, 1, false), (2, 1, false)], 3, 72, [.sl .own 18 [], .sl .own 8 [], .sl .own 2 []]⟩ ∧
  E.T 50 = some ⟨.slc 110, 1, 24, [.sl .own 2 []]⟩ ∧
  E.T 51 = some ⟨.strct [(0, 1, false), (1, 1, false), (2, 1, false)], 3, 40, [.p (.int .i64 0), .p (.int .i64 0), .sl .own 2 []]⟩ ∧
  E.T 52 = some ⟨.strct [(0, 1, false), (1, 1, false), (2, 1, false)], 3, 40, [.p (.int .i64 0), .p (.int .i64 0), .sl .own 2 []]⟩ ∧
  E.T 53 = some ⟨.slc 9, 1, 24, [.sl .own 1 []]⟩ ∧
  E.T 54 = some ⟨.slc 3, 1, 24, [.sl .own 1 []]⟩ ∧
  E.T 55 = some ⟨.slc 112, 1, 24, [.sl .own 2 []]⟩ ∧
  E.T 56 = some ⟨.strct [(0, 1, false), (1, 1, false), (2, 1, false), (3, 3, true), (6, 3, true), (9, 1, false), (10, 1, false), (11, 1, false), (12, 1, false), (13, 1, false), (14, 1, false), (15, 1, false), (16, 1, false), (17, 1, false)], 18, 248, [.p (.int .i64 0), .p (.int .i64 0), .p (.bool false), .p (.int .i64 0), .p (.int .i64 0), .sl .own 2 [], .p (.int .i64 0), .p (.int .i64 0), .sl .own 2 [], .sl .own 8 [], .sl .own 1 [], .p (.bool false), .p (.bool false), .p (.int .i64 0), .sl .own 1 [], .sl .own 2 [], .sl .own 2 [], .p (.int .i64 0)]⟩ ∧
  E.T 57 = some ⟨.strct [(0, 1, false), (1, 1, false), (2, 1, false), (3, 3, true), (6, 3, true), (9, 1, false), (10, 1, false), (11, 1, false), (12, 1, false), (13, 1, false), (14, 1, false), (15, 1, false), (16, 1, false), (17, 1, false)], 18, 248, [.p (.int .i64 0), .p (.int .i64 0), .p (.bool false), .p (.int .i64 0), .p (.int .i64 0), .sl .own 2 [], .p (.int .i64 0), .p (.int .i64 0), .sl .own 2 [], .sl .own 8 [], .sl .own 1 [], .p (.bool false), .p (.bool false), .p (.int .i64 0), .sl .own 1 [], .sl .own 2 [], .sl .own 2 [], .p (.int .i64 0)]⟩ ∧
  E.T 59 = some ⟨.strct [(0, 1, false), (1, 1, false), (2, 1, false), (3, 1, false), (4, 1, false), (5, 1, false), (6, 1, false), (7, 1, false)], 8, 88, [.p (.int .i64 0), .p (.int .i64 0), .p (.int .i64 0), .p (.int .i64 0), .p (.int .i64 0), .p (.int .i64 0), .p (.string ⟨#[]⟩), .sl .own 2 []]⟩ ∧
  E.T 60 = some ⟨.strct [(0, 1, false), (1, 1, false), (2, 1, false), (3, 1, false), (4, 1, false), (5, 1, false), (6, 1, false), (7, 1, false)], 8, 88, [.p (.int .i64 0), .p (.int .i64 0), .p (.int .i64 0), .p (.int .i64 0), .p (.int .i64 0), .p (.int .i64 0), .p (.string ⟨#[]⟩), .sl .own 2 []]⟩ ∧
  E.T 62 = some ⟨.strct [(0, 1, false), (1, 1, false)], 2, 24, [.p (.int .i64 0), .p (.string ⟨#[]⟩)]⟩ ∧
  E.T 63 = some ⟨.strct [(0, 1, false), (1, 1, false)], 2, 24, [.p (.int .i64 0), .p (.string ⟨#[]⟩)]⟩ ∧
  E.T 66 = some ⟨.slc 77, 1, 24, [.sl .own 2 []]⟩ ∧
  E.T 67 = some ⟨.strct [(0, 1, false), (1, 1, false), (2, 1, false)], 3, 40, [.p (.int .i64 0), .p (.int .i64 0), .sl .own 2 []]⟩ ∧
  E.T 68 = some ⟨.strct [(0, 1, false), (1, 1, false), (2, 1, false)], 3, 40, [.p (.int .i64 0), .p (.int .i64 0), .sl .own 2 []]⟩ ∧
  E.T 69 = some ⟨.slc 103, 1, 24, [.sl .own 2 []]⟩ ∧
  E.T 70 = some ⟨.strct [(0, 1, false), (1, 1, false), (2, 1, false), (3, 3, true), (6, 3, true), (9, 1, false), (10, 1, false), (11, 1, false), (12, 1, false), (13, 1, false), (14, 1, false), (15, 1, false), (16, 1, false), (17, 1, false)], 18, 248, [.p (.int .i64 0), .p (.int .i64 0), .p (.bool false), .p (.int .i64 0), .p (.int .i64 0), .sl .own 2 [], .p (.int .i64 0), .p (.int .i64 0), .sl .own 2 [], .sl .own 8 [], .sl .own 1 [], .p (.bool false), .p (.bool false), .p (.int .i64 0), .sl .own 1 [], .sl .own 2 [], .sl .own 2 [], .p (.int .i64 0)]⟩ ∧
  E.T 71 = some ⟨.strct [(0, 1, false), (1, 1, false), (2, 1, false), (3, 3, true), (6, 3, true), (9, 1, false), (10, 1, false), (11, 1, false), (12, 1, false), (13, 1, false), (14, 1, false), (15, 1, false), (16, 1, false), (17, 1, false)], 18, 248, [.p (.int .i64 0), .p (.int .i64 0), .p (.bool false), .p (.int .i64 0), .p (.int .i64 0), .sl .own 2 [], .p (.int .i64 0), .p (.int .i64 0), .sl .own 2 [], .sl .own 8 [], .sl .own 1 [], .p (.bool false), .p (.bool false), .p (.int .i64 0), .sl .own 1 [], .sl .own 2 [], .sl .own 2 [], .p (.int .i64 0)]⟩ ∧
  E.T 73 = some ⟨.strct [(0, 1, false), (1, 1, false), (2, 1, false), (3, 1, false), (4, 1, false), (5, 1, false), (6, 1, false), (7, 1, false)], 8, 88, [.p (.int .i64 0), .p (.int .i64 0), .p (.int .i64 0), .p (.int .i64 0), .p (.int .i64 0), .p (.int .i64 0), .p (.string ⟨#[]⟩), .sl .own 2 []]⟩ ∧
  E.T 74 = some ⟨.strct [(0, 1, false), (1, 1, false), (2, 1, false), (3, 1, false), (4, 1, false), (5, 1, false), (6, 1, false), (7, 1, false)], 8, 88, [.p (.int .i64 0), .p (.int .i64 0), .p (.int .i64 0), .p (.int .i64 0), .p (.int .i64 0), .p (.int .i64 0), .p (.string ⟨#[]⟩), .sl .own 2 []]⟩ ∧
  E.T 75 = some ⟨.strct [(0, 1, false), (1, 1, false)], 2, 24, [.p (.int .i64 0), .p (.string ⟨#[]⟩)]⟩ ∧
  E.T 76 = some ⟨.strct [(0, 1, false), (1, 1, false)], 2, 24, [.p (.int .i64 0), .p (.string ⟨#[]⟩)]⟩ ∧
  E.T 77 = some ⟨.strct [(0, 1, false), (1, 1, false)], 2, 24, [.p (.int .i64 0), .p (.string ⟨#[]⟩)]⟩ ∧
  E.T 81 = some ⟨.ptr 34, 1, 8, [.p (.pointer none)]⟩ ∧
  E.T 82 = some ⟨.mp 77 3, 1, 8, [.p (.map none)]⟩ ∧
  E.T 102 = some ⟨.strct [(0, 1, false), (1, 1, false)], 2, 32, [.p (.int .i64 0), .sl .own 1 []]⟩ ∧
  E.T 103 = some ⟨.strct [(0, 1, false), (1, 1, false)], 2, 32, [.p (.int .i64 0), .sl .own 1 []]⟩ ∧
  E.T 110 = some ⟨.strct [(0, 1, false), (1, 1, false)], 2, 24, [.p (.int .i64 0), .p (.string ⟨#[]⟩)]⟩ ∧
  E.T 112 = some ⟨.strct [(0, 1, false), (1, 1, false)], 2, 32, [.p (.int .i64 0), .sl .own 1 []]⟩ ∧
  E.T 119 = some ⟨.strct [(0, 1, false), (1, 1, false), (2, 1, false), (3, 1, false)], 4, 40, [.p (.pointer none), .p (.pointer none), .p (.pointer none), .p (.string ⟨#[]⟩)]⟩ ∧
  E.T 120 = some ⟨.strct [(0, 1, false), (1, 1, false), (2, 1, false), (3, 1, false)], 4, 40, [.p (.pointer none), .p (.pointer none), .p (.pointer none), .p (.string ⟨#[]⟩)]⟩ ∧
  E.T 125 = some ⟨.prim, 1, 4, [.p (.int .u32 0)]⟩ ∧
  E.T 126 = some ⟨.prim, 1, 1, [.p (.int .u8 0)]⟩ ∧
  E.T 127 = some ⟨.prim, 1, 1, [.p (.int .u8 0)]⟩ ∧
  E.T 129 = some ⟨.ptr 5, 1, 8, [.p (.pointer none)]⟩ ∧
  E.T 130 = some ⟨.prim, 1, 4, [.p (.int .i32 0)]⟩ ∧
  E.T 131 = some ⟨.prim, 1, 4, [.p (.int .i32 0)]⟩ := by
  refine ⟨?_, ?_, ?_, ?_, ?_, ?_, ?_, ?_, ?_, ?_, ?_, ?_, ?_, ?_, ?_, ?_, ?_, ?_, ?_, ?_, ?_, ?_, ?_, ?_, ?_, ?_, ?_, ?_, ?_, ?_, ?_, ?_, ?_, ?_, ?_, ?_, ?_, ?_, ?_, ?_, ?_, ?_, ?_, ?_, ?_, ?_, ?_, ?_, ?_, ?_, ?_, ?_, ?_, ?_, ?_, ?_, ?_, ?_, ?_, ?_, ?_, ?_, ?_, ?_, ?_, ?_⟩ <;> rfl
theorem eQ : E.eqT 77 = true := by
  rfl
theorem e3 : (E.ann 3).ext = false ∧ (E.ann 3).modes = [] ∧ (E.ann 3).keep = [] ∧ (E.ann 3).mir = [] ∧ (E.ann 3).draws 10 = [([8], [39]), ([2], [40]), ([2, 40], [41]), ([8, 39, 41], [42]), ([42], [43])] ∧ (E.ann 3).free 10 = none := by
  refine ⟨?_, ?_, ?_, ?_, ?_, ?_⟩ <;> rfl
theorem e4 : (E.ann 4).ext = false ∧ (E.ann 4).modes = [] ∧ (E.ann 4).keep = [] ∧ (E.ann 4).mir = [] := by
  refine ⟨?_, ?_, ?_, ?_⟩ <;> rfl
theorem e5 : (E.ann 5).ext = false ∧ (E.ann 5).modes = [] ∧ (E.ann 5).keep = [] ∧ (E.ann 5).mir = [] := by
  refine ⟨?_, ?_, ?_, ?_⟩ <;> rfl
theorem e6 : (E.ann 6).ext = false ∧ (E.ann 6).modes = [] ∧ (E.ann 6).keep = [] ∧ (E.ann 6).mir = [] := by
  refine ⟨?_, ?_, ?_, ?_⟩ <;> rfl
theorem e7 : (E.ann 7).ext = false ∧ (E.ann 7).modes = [] ∧ (E.ann 7).keep = [] ∧ (E.ann 7).mir = [] := by
  refine ⟨?_, ?_, ?_, ?_⟩ <;> rfl
theorem e8 : (E.ann 8).ext = false ∧ (E.ann 8).modes = [] ∧ (E.ann 8).keep = [] ∧ (E.ann 8).mir = [] := by
  refine ⟨?_, ?_, ?_, ?_⟩ <;> rfl
theorem e9 : (E.ann 9).ext = false ∧ (E.ann 9).modes = [] ∧ (E.ann 9).keep = [] ∧ (E.ann 9).mir = [] ∧ (E.ann 9).heads 0 = [0, 1, 5] ∧ (E.ann 9).rng 0 = none ∧ (E.ann 9).ends 0 = some [1] ∧ (E.ann 9).ends 1 = none := by
  refine ⟨?_, ?_, ?_, ?_, ?_, ?_, ?_, ?_⟩ <;> rfl
theorem e10 : (E.ann 10).ext = false ∧ (E.ann 10).modes = [] ∧ (E.ann 10).keep = [] ∧ (E.ann 10).mir = [] ∧ (E.ann 10).heads 0 = [0, 1, 5] ∧ (E.ann 10).rng 0 = none ∧ (E.ann 10).ends 0 = some [1] ∧ (E.ann 10).ends 1 = none := by
  refine ⟨?_, ?_, ?_, ?_, ?_, ?_, ?_, ?_⟩ <;> rfl
theorem e11 : (E.ann 11).ext = false ∧ (E.ann 11).modes = [] ∧ (E.ann 11).keep = [] ∧ (E.ann 11).mir = [] ∧ (E.ann 11).heads 0 = [0, 1, 5] ∧ (E.ann 11).rng 0 = none ∧ (E.ann 11).ends 0 = some [1] ∧ (E.ann 11).ends 1 = none := by
  refine ⟨?_, ?_, ?_, ?_, ?_, ?_, ?_, ?_⟩ <;> rfl
theorem e12 : (E.ann 12).ext = false ∧ (E.ann 12).modes = [] ∧ (E.ann 12).keep = [] ∧ (E.ann 12).mir = [] ∧ (E.ann 12).heads 4 = [1, 6] ∧ (E.ann 12).heads 2 = [1, 3, 5] ∧ (E.ann 12).heads 0 = [1, 3, 4] ∧ (E.ann 12).rng 0 = none ∧ (E.ann 12).ends 0 = some [1, 3] ∧ (E.ann 12).ends 1 = none ∧ (E.ann 12).rng 2 = none ∧ (E.ann 12).ends 2 = some [1] ∧ (E.ann 12).ends 3 = none ∧ (E.ann 12).rng 4 = none ∧ (E.ann 12).ends 4 = some [] ∧ (E.ann 12).ends 5 = none ∧ (E.ann 12).draws 17 = [([1], [74]), ([1, 74], [75]), ([6], [76]), ([1, 75, 76], [77]), ([1, 77], [78]), ([1, 78], [79]), ([79], [80]), ([80], [81]), ([81], [82]), ([1, 82], [83]), ([1, 82, 83], [84]), ([6, 82], [85]), ([1, 82, 84, 85], [86]), ([1, 82, 86], [87]), ([1, 82, 87], [88]), ([82, 88], [89]), ([82, 89], [90]), ([82, 90], [91]), ([91], [92]), ([6, 92], [93]), ([92, 93], [94]), ([92, 94], [95]), ([1, 95], [96]), ([1, 95, 96], [97]), ([6, 95], [98]), ([95, 98], [99]), ([1, 95, 97, 99], [100]), ([1, 95, 100], [101]), ([1, 95, 101], [102]), ([1, 95], [103]), ([1, 95, 103], [104]), ([6, 95], [105]), ([1, 95, 104, 105], [106]), ([1, 95, 106], [107]), ([1, 95, 107], [108]), ([95, 102, 108], [109]), ([92, 95, 109], [110]), ([92, 110], [111])] ∧ (E.ann 12).free 17 = none := by
  refine ⟨?_, ?_, ?_, ?_, ?_, ?_, ?_, ?_, ?_, ?_, ?_, ?_, ?_, ?_, ?_, ?_, ?_, ?_⟩ <;> rfl
theorem e13 : (E.ann 13).ext = false ∧ (E.ann 13).modes = [] ∧ (E.ann 13).keep = [] ∧ (E.ann 13).mir = [] ∧ (E.ann 13).heads 2 = [1, 2, 6, 7, 8, 9] ∧ (E.ann 13).heads 0 = [1, 2, 6] ∧ (E.ann 13).rng 0 = none ∧ (E.ann 13).ends 0 = some [] ∧ (E.ann 13).ends 1 = none ∧ (E.ann 13).rng 2 = none ∧ (E.ann 13).ends 2 = some [1, 2, 6, 7, 8] ∧ (E.ann 13).ends 3 = none ∧ (E.ann 13).draws 11 = [([1], [56]), ([10], [57]), ([10, 57], [58]), ([10, 58], [59]), ([56, 59], [60]), ([60], [61]), ([10, 61], [62]), ([10, 61, 62], [63]), ([1, 61], [64]), ([61, 64], [65]), ([10, 61, 63, 65], [66]), ([10, 61, 66], [67]), ([7, 61], [68]), ([7, 61, 68], [69]), ([1, 61], [70]), ([61, 70], [71]), ([7, 61, 69, 71], [72]), ([7, 61, 72], [73]), ([61, 67, 73], [74]), ([61, 74], [75])] ∧ (E.ann 13).free 11 = none := by
  refine ⟨?_, ?_, ?_, ?_, ?_, ?_, ?_, ?_, ?_, ?_, ?_, ?_, ?_, ?_⟩ <;> rfl
theorem e14 : (E.ann 14).ext = false ∧ (E.ann 14).modes = [] ∧ (E.ann 14).keep = [] ∧ (E.ann 14).mir = [] ∧ (E.ann 14).heads 0 = [0, 3, 4] ∧ (E.ann 14).rng 0 = none ∧ (E.ann 14).ends 0 = some [3] ∧ (E.ann 14).ends 1 = none := by
  refine ⟨?_, ?_, ?_, ?_, ?_, ?_, ?_, ?_⟩ <;> rfl
theorem e15 : (E.ann 15).ext = false ∧ (E.ann 15).modes = [] ∧ (E.ann 15).keep = [] ∧ (E.ann 15).mir = [] ∧ (E.ann 15).heads 0 = [0, 3, 4] ∧ (E.ann 15).rng 0 = none ∧ (E.ann 15).ends 0 = some [3] ∧ (E.ann 15).ends 1 = none := by
  refine ⟨?_, ?_, ?_, ?_, ?_, ?_, ?_, ?_⟩ <;> rfl
theorem e16 : (E.ann 16).ext = false ∧ (E.ann 16).modes = [] ∧ (E.ann 16).keep = [] ∧ (E.ann 16).mir = [] ∧ (E.ann 16).heads 0 = [0, 3, 4] ∧ (E.ann 16).rng 0 = none ∧ (E.ann 16).ends 0 = some [3] ∧ (E.ann 16).ends 1 = none := by
  refine ⟨?_, ?_, ?_, ?_, ?_, ?_, ?_, ?_⟩ <;> rfl
theorem e17 : (E.ann 17).ext = false ∧ (E.ann 17).modes = [] ∧ (E.ann 17).keep = [] ∧ (E.ann 17).mir = [] ∧ (E.ann 17).heads 4 = [1, 60, 61, 62] ∧ (E.ann 17).heads 2 = [1, 3, 48, 49, 50] ∧ (E.ann 17).heads 0 = [1, 3, 23, 24, 25] ∧ (E.ann 17).rng 0 = none ∧ (E.ann 17).ends 0 = some [1, 3] ∧ (E.ann 17).ends 1 = none ∧ (E.ann 17).rng 2 = none ∧ (E.ann 17).ends 2 = some [1] ∧ (E.ann 17).ends 3 = none ∧ (E.ann 17).rng 4 = none ∧ (E.ann 17).ends 4 = some [] ∧ (E.ann 17).ends 5 = none ∧ (E.ann 17).draws 19 = [([9], [67]), ([9, 67], [68]), ([68], [69]), ([69], [70]), ([70], [71]), ([9, 71], [72]), ([9, 71, 72], [73]), ([71, 73], [74]), ([71, 74], [75]), ([71, 75], [76]), ([76], [77]), ([8, 77], [78]), ([77, 78], [79]), ([77, 79], [80]), ([9, 80], [81]), ([9, 80, 81], [82]), ([1, 80], [83]), ([1, 80, 83], [84]), ([8, 80], [85]), ([80, 85], [86]), ([1, 80, 84, 86], [87]), ([1, 80, 87], [88]), ([1, 80, 88], [89]), ([80, 82, 89], [90]), ([77, 80, 90], [91]), ([77, 91], [92])] ∧ (E.ann 17).free 19 = none := by
  refine ⟨?_, ?_, ?_, ?_, ?_, ?_, ?_, ?_, ?_, ?_, ?_, ?_, ?_, ?_, ?_, ?_, ?_, ?_⟩ <;> rfl
theorem e18 : (E.ann 18).ext = false ∧ (E.ann 18).modes = [] ∧ (E.ann 18).keep = [0] ∧ (E.ann 18).mir = [] ∧ (E.ann 18).heads 0 = [0, 1, 6, 14, 15, 16] ∧ (E.ann 18).rng 0 = none ∧ (E.ann 18).ends 0 = some [0] ∧ (E.ann 18).ends 1 = none ∧ (E.ann 18).draws 7 = [] ∧ (E.ann 18).draws 8 = [([9], [43]), ([9, 43], [44]), ([44], [45]), ([45], [46]), ([6, 46], [47]), ([9, 46], [48]), ([6, 46, 47, 48], [49]), ([46, 49], [50]), ([0, 46], [51]), ([0, 46, 51], [52]), ([0, 46, 52], [53]), ([0, 46, 53], [54]), ([0, 46, 54], [55]), ([46, 50, 55], [56]), ([46, 56], [57])] ∧ (E.ann 18).free 7 = some n18_7 ∧ (E.ann 18).free 8 = none := by
  refine ⟨?_, ?_, ?_, ?_, ?_, ?_, ?_, ?_, ?_, ?_, ?_, ?_⟩ <;> rfl
theorem e19 : (E.ann 19).ext = false ∧ (E.ann 19).modes = [] ∧ (E.ann 19).keep = [] ∧ (E.ann 19).mir = [] ∧ (E.ann 19).heads 0 = [0, 1, 5] ∧ (E.ann 19).rng 0 = none ∧ (E.ann 19).ends 0 = some [] ∧ (E.ann 19).ends 1 = none ∧ (E.ann 19).draws 6 = [([0], [17]), ([5], [18]), ([0, 17, 18], [19]), ([0, 19], [20]), ([1], [21]), ([5], [22]), ([1, 21, 22], [23]), ([1, 23], [24]), ([0, 1, 20, 24], [25]), ([25], [26])] ∧ (E.ann 19).free 6 = none := by
  refine ⟨?_, ?_, ?_, ?_, ?_, ?_, ?_, ?_, ?_, ?_⟩ <;> rfl
theorem e20 : (E.ann 20).ext = false ∧ (E.ann 20).modes = [] ∧ (E.ann 20).keep = [] ∧ (E.ann 20).mir = [] ∧ (E.ann 20).heads 0 = [0, 1, 5] ∧ (E.ann 20).rng 0 = none ∧ (E.ann 20).ends 0 = some [] ∧ (E.ann 20).ends 1 = none ∧ (E.ann 20).draws 6 = [([0], [17]), ([5], [18]), ([0, 17, 18], [19]), ([0, 19], [20]), ([1], [21]), ([5], [22]), ([1, 21, 22], [23]), ([1, 23], [24]), ([0, 1, 20, 24], [25]), ([25], [26])] ∧ (E.ann 20).free 6 = none := by
  refine ⟨?_, ?_, ?_, ?_, ?_, ?_, ?_, ?_, ?_, ?_⟩ <;> rfl
theorem e21 : (E.ann 21).ext = false ∧ (E.ann 21).modes = [] ∧ (E.ann 21).keep = [] ∧ (E.ann 21).mir = [] ∧ (E.ann 21).heads 0 = [0, 1, 5] ∧ (E.ann 21).rng 0 = none ∧ (E.ann 21).ends 0 = some [] ∧ (E.ann 21).ends 1 = none ∧ (E.ann 21).draws 6 = [([0], [17]), ([5], [18]), ([0, 17, 18], [19]), ([0, 19], [20]), ([1], [21]), ([5], [22]), ([1, 21, 22], [23]), ([1, 23], [24]), ([20, 24], [25]), ([25], [26])] ∧ (E.ann 21).free 6 = none := by
  refine ⟨?_, ?_, ?_, ?_, ?_, ?_, ?_, ?_, ?_, ?_⟩ <;> rfl
theorem e22 : (E.ann 22).ext = false ∧ (E.ann 22).modes = [] ∧ (E.ann 22).keep = [] ∧ (E.ann 22).mir = [] := by
  refine ⟨?_, ?_, ?_, ?_⟩ <;> rfl
theorem e23 : (E.ann 23).ext = false ∧ (E.ann 23).modes = [] ∧ (E.ann 23).keep = [] ∧ (E.ann 23).mir = [] := by
  refine ⟨?_, ?_, ?_, ?_⟩ <;> rfl
theorem e24 : (E.ann 24).ext = false ∧ (E.ann 24).modes = [] ∧ (E.ann 24).keep = [] ∧ (E.ann 24).mir = [] := by
  refine ⟨?_, ?_, ?_, ?_⟩ <;> rfl
theorem e25 : (E.ann 25).ext = false ∧ (E.ann 25).modes = [] ∧ (E.ann 25).keep = [] ∧ (E.ann 25).mir = [] := by
  refine ⟨?_, ?_, ?_, ?_⟩ <;> rfl
theorem e26 : (E.ann 26).ext = false ∧ (E.ann 26).modes = [] ∧ (E.ann 26).keep = [] ∧ (E.ann 26).mir = [] ∧ (E.ann 26).heads 0 = [1, 3] ∧ (E.ann 26).rng 0 = none ∧ (E.ann 26).ends 0 = some [1] ∧ (E.ann 26).ends 1 = none ∧ (E.ann 26).draws 6 = [([1], [53]), ([1, 53], [54]), ([3], [55]), ([1, 54, 55], [56]), ([1, 56], [57]), ([1], [58]), ([1, 58], [59]), ([1, 57, 59], [60]), ([60], [61]), ([61], [62]), ([1, 62], [63]), ([1, 62, 63], [64]), ([3, 62], [65]), ([1, 62, 64, 65], [66]), ([1, 62, 66], [67]), ([1, 62, 67], [68]), ([1, 62], [69]), ([1, 62, 69], [70]), ([62, 68, 70], [71]), ([62, 71], [72])] ∧ (E.ann 26).free 6 = none := by
  refine ⟨?_, ?_, ?_, ?_, ?_, ?_, ?_, ?_, ?_, ?_⟩ <;> rfl
theorem e27 : (E.ann 27).ext = false ∧ (E.ann 27).modes = [] ∧ (E.ann 27).keep = [] ∧ (E.ann 27).mir = [] := by
  refine ⟨?_, ?_, ?_, ?_⟩ <;> rfl
theorem e28 : (E.ann 28).ext = false ∧ (E.ann 28).modes = [] ∧ (E.ann 28).keep = [] ∧ (E.ann 28).mir = [] := by
  refine ⟨?_, ?_, ?_, ?_⟩ <;> rfl
theorem e29 : (E.ann 29).ext = false ∧ (E.ann 29).modes = [] ∧ (E.ann 29).keep = [] ∧ (E.ann 29).mir = [] := by
  refine ⟨?_, ?_, ?_, ?_⟩ <;> rfl
theorem e30 : (E.ann 30).ext = false ∧ (E.ann 30).modes = [] ∧ (E.ann 30).keep = [] ∧ (E.ann 30).mir = [] := by
  refine ⟨?_, ?_, ?_, ?_⟩ <;> rfl
theorem e31 : (E.ann 31).ext = false ∧ (E.ann 31).modes = [] ∧ (E.ann 31).keep = [] ∧ (E.ann 31).mir = [] := by
  refine ⟨?_, ?_, ?_, ?_⟩ <;> rfl
theorem e32 : (E.ann 32).ext = false ∧ (E.ann 32).modes = [] ∧ (E.ann 32).keep = [] ∧ (E.ann 32).mir = [] ∧ (E.ann 32).heads 4 = [1, 107, 108, 109] ∧ (E.ann 32).heads 2 = [1, 86, 87, 88] ∧ (E.ann 32).heads 0 = [1, 66, 67, 68] ∧ (E.ann 32).rng 0 = none ∧ (E.ann 32).ends 0 = some [1] ∧ (E.ann 32).ends 1 = none ∧ (E.ann 32).rng 2 = none ∧ (E.ann 32).ends 2 = some [1] ∧ (E.ann 32).ends 3 = none ∧ (E.ann 32).rng 4 = none ∧ (E.ann 32).ends 4 = some [1] ∧ (E.ann 32).ends 5 = none ∧ (E.ann 32).draws 18 = [([8], [114]), ([8, 114], [115]), ([115], [116]), ([116], [117]), ([117], [118]), ([8, 118], [119]), ([8, 118, 119], [120]), ([1, 118], [121]), ([1, 118, 121], [122]), ([8, 118, 120, 122], [123]), ([118, 123], [124]), ([118, 124], [125]), ([125], [126]), ([7, 126], [127]), ([126, 127], [128]), ([126, 128], [129]), ([8, 129], [130]), ([8, 129, 130], [131]), ([1, 129], [132]), ([1, 129, 132], [133]), ([7, 129], [134]), ([129, 134], [135]), ([1, 129, 133, 135], [136]), ([1, 129, 136], [137]), ([1, 129, 137], [138]), ([129, 131, 138], [139]), ([126, 129, 139], [140]), ([126, 140], [141])] ∧ (E.ann 32).free 18 = none := by
  refine ⟨?_, ?_, ?_, ?_, ?_, ?_, ?_, ?_, ?_, ?_, ?_, ?_, ?_, ?_, ?_, ?_, ?_, ?_⟩ <;> rfl
theorem e33 : (E.ann 33).ext = false ∧ (E.ann 33).modes = [] ∧ (E.ann 33).keep = [] ∧ (E.ann 33).mir = [] := by
  refine ⟨?_, ?_, ?_, ?_⟩ <;> rfl
theorem e34 : (E.ann 34).ext = false ∧ (E.ann 34).modes = [] ∧ (E.ann 34).keep = [] ∧ (E.ann 34).mir = [] := by
  refine ⟨?_, ?_, ?_, ?_⟩ <;> rfl
theorem e35 : (E.ann 35).ext = false ∧ (E.ann 35).modes = [] ∧ (E.ann 35).keep = [] ∧ (E.ann 35).mir = [] := by
  refine ⟨?_, ?_, ?_, ?_⟩ <;> rfl
theorem e36 : (E.ann 36).ext = false ∧ (E.ann 36).modes = [] ∧ (E.ann 36).keep = [] ∧ (E.ann 36).mir = [] := by
  refine ⟨?_, ?_, ?_, ?_⟩ <;> rfl
theorem e37 : (E.ann 37).ext = false ∧ (E.ann 37).modes = [] ∧ (E.ann 37).keep = [] ∧ (E.ann 37).mir = [] := by
  refine ⟨?_, ?_, ?_, ?_⟩ <;> rfl
theorem e38 : (E.ann 38).ext = false ∧ (E.ann 38).modes = [] ∧ (E.ann 38).keep = [] ∧ (E.ann 38).mir = [] ∧ (E.ann 38).heads 0 = [0, 1, 5] ∧ (E.ann 38).rng 0 = none ∧ (E.ann 38).ends 0 = some [1] ∧ (E.ann 38).ends 1 = none := by
  refine ⟨?_, ?_, ?_, ?_, ?_, ?_, ?_, ?_⟩ <;> rfl
theorem e39 : (E.ann 39).ext = false ∧ (E.ann 39).modes = [] ∧ (E.ann 39).keep = [] ∧ (E.ann 39).mir = [] := by
  refine ⟨?_, ?_, ?_, ?_⟩ <;> rfl
theorem e40 : (E.ann 40).ext = false ∧ (E.ann 40).modes = [] ∧ (E.ann 40).keep = [] ∧ (E.ann 40).mir = [] ∧ (E.ann 40).heads 0 = [0, 1, 5] ∧ (E.ann 40).rng 0 = none ∧ (E.ann 40).ends 0 = some [1] ∧ (E.ann 40).ends 1 = none := by
  refine ⟨?_, ?_, ?_, ?_, ?_, ?_, ?_, ?_⟩ <;> rfl
theorem e41 : (E.ann 41).ext = false ∧ (E.ann 41).modes = [] ∧ (E.ann 41).keep = [] ∧ (E.ann 41).mir = [] ∧ (E.ann 41).heads 0 = [0, 1, 5] ∧ (E.ann 41).rng 0 = none ∧ (E.ann 41).ends 0 = some [1] ∧ (E.ann 41).ends 1 = none := by
  refine ⟨?_, ?_, ?_, ?_, ?_, ?_, ?_, ?_⟩ <;> rfl
theorem e42 : (E.ann 42).ext = false ∧ (E.ann 42).modes = [] ∧ (E.ann 42).keep = [] ∧ (E.ann 42).mir = [] ∧ (E.ann 42).heads 0 = [1, 3] ∧ (E.ann 42).rng 0 = none ∧ (E.ann 42).ends 0 = some [] ∧ (E.ann 42).ends 1 = none ∧ (E.ann 42).draws 6 = [([1], [30]), ([1, 30], [31]), ([3], [32]), ([1, 31, 32], [33]), ([1, 33], [34]), ([1, 34], [35]), ([1], [36]), ([1, 36], [37]), ([35, 37], [38]), ([38], [39]), ([3, 39], [40]), ([1, 39], [41]), ([1, 39, 41], [42]), ([39, 40, 42], [43]), ([39, 43], [44]), ([1, 44], [45]), ([1, 44, 45], [46]), ([3, 44], [47]), ([1, 44, 46, 47], [48]), ([1, 44, 48], [49]), ([1, 44, 49], [50]), ([44, 50], [51]), ([39, 44, 51], [52]), ([39, 52], [53])] ∧ (E.ann 42).free 6 = none := by
  refine ⟨?_, ?_, ?_, ?_, ?_, ?_, ?_, ?_, ?_, ?_⟩ <;> rfl
theorem e43 : (E.ann 43).ext = false ∧ (E.ann 43).modes = [] ∧ (E.ann 43).keep = [] ∧ (E.ann 43).mir = [] ∧ (E.ann 43).heads 2 = [0, 3, 4] ∧ (E.ann 43).heads 0 = [0, 3] ∧ (E.ann 43).rng 0 = none ∧ (E.ann 43).ends 0 = some [] ∧ (E.ann 43).ends 1 = none ∧ (E.ann 43).rng 2 = none ∧ (E.ann 43).ends 2 = some [0, 3] ∧ (E.ann 43).ends 3 = none ∧ (E.ann 43).draws 11 = [([0], [33]), ([4], [34]), ([0, 33, 34], [35]), ([0, 35], [36]), ([0], [37]), ([3], [38]), ([0, 37, 38], [39]), ([0, 39], [40]), ([36, 40], [41])] ∧ (E.ann 43).free 11 = none := by
  refine ⟨?_, ?_, ?_, ?_, ?_, ?_, ?_, ?_, ?_, ?_, ?_, ?_, ?_, ?_⟩ <;> rfl
theorem e44 : (E.ann 44).ext = false ∧ (E.ann 44).modes = [] ∧ (E.ann 44).keep = [] ∧ (E.ann 44).mir = [] ∧ (E.ann 44).heads 0 = [0, 1, 5] ∧ (E.ann 44).rng 0 = none ∧ (E.ann 44).ends 0 = some [] ∧ (E.ann 44).ends 1 = none ∧ (E.ann 44).draws 4 = [([0], [12]), ([5], [13]), ([0, 12, 13], [14]), ([0, 14], [15]), ([1], [16]), ([15, 16], [17]), ([17], [18]), ([18], [19]), ([5, 19], [20]), ([19, 20], [21]), ([19, 21], [22]), ([0, 22], [23]), ([5, 22], [24]), ([22, 24], [25]), ([0, 22, 23, 25], [26]), ([0, 22, 26], [27]), ([0, 22], [28]), ([5, 22], [29]), ([0, 22, 28, 29], [30]), ([0, 22, 30], [31]), ([22, 27, 31], [32]), ([19, 22, 32], [33]), ([19, 33], [34])] ∧ (E.ann 44).free 4 = none := by
  refine ⟨?_, ?_, ?_, ?_, ?_, ?_, ?_, ?_, ?_, ?_⟩ <;> rfl
theorem e45 : (E.ann 45).ext = false ∧ (E.ann 45).modes = [] ∧ (E.ann 45).keep = [] ∧ (E.ann 45).mir = [] ∧ (E.ann 45).heads 0 = [0, 3] ∧ (E.ann 45).rng 0 = none ∧ (E.ann 45).ends 0 = some [] ∧ (E.ann 45).ends 1 = none := by
  refine ⟨?_, ?_, ?_, ?_, ?_, ?_, ?_, ?_⟩ <;> rfl
theorem e46 : (E.ann 46).ext = false ∧ (E.ann 46).modes = [] ∧ (E.ann 46).keep = [] ∧ (E.ann 46).mir = [] ∧ (E.ann 46).heads 0 = [0, 1, 5] ∧ (E.ann 46).rng 0 = none ∧ (E.ann 46).ends 0 = some [] ∧ (E.ann 46).ends 1 = none ∧ (E.ann 46).draws 4 = [([0], [12]), ([5], [13]), ([0, 12, 13], [14]), ([0, 14], [15]), ([0, 15], [16]), ([16], [17]), ([17], [18]), ([18], [19]), ([0, 19], [20]), ([5, 19], [21]), ([0, 19, 20, 21], [22]), ([0, 19, 22], [23]), ([0, 19, 23], [24]), ([1, 19], [25]), ([0, 19, 24, 25], [26]), ([19, 26], [27]), ([19, 27], [28]), ([28], [29]), ([5, 29], [30]), ([29, 30], [31]), ([29, 31], [32]), ([0, 32], [33]), ([5, 32], [34]), ([32, 34], [35]), ([0, 32, 33, 35], [36]), ([0, 32, 36], [37]), ([0, 32, 37], [38]), ([0, 32], [39]), ([5, 32], [40]), ([0, 32, 39, 40], [41]), ([0, 32, 41], [42]), ([0, 32, 42], [43]), ([32, 38, 43], [44]), ([29, 32, 44], [45]), ([29, 45], [46])] ∧ (E.ann 46).free 4 = none := by
  refine ⟨?_, ?_, ?_, ?_, ?_, ?_, ?_, ?_, ?_, ?_⟩ <;> rfl
theorem e47 : (E.ann 47).ext = false ∧ (E.ann 47).modes = [] ∧ (E.ann 47).keep = [] ∧ (E.ann 47).mir = [] := by
  refine ⟨?_, ?_, ?_, ?_⟩ <;> rfl
theorem e48 : (E.ann 48).ext = false ∧ (E.ann 48).modes = [] ∧ (E.ann 48).keep = [] ∧ (E.ann 48).mir = [] := by
  refine ⟨?_, ?_, ?_, ?_⟩ <;> rfl
theorem e49 : (E.ann 49).ext = false ∧ (E.ann 49).modes = [] ∧ (E.ann 49).keep = [] ∧ (E.ann 49).mir = [] ∧ (E.ann 49).heads 0 = [0, 3, 4] ∧ (E.ann 49).rng 0 = none ∧ (E.ann 49).ends 0 = some [3] ∧ (E.ann 49).ends 1 = none := by
  refine ⟨?_, ?_, ?_, ?_, ?_, ?_, ?_, ?_⟩ <;> rfl
theorem e50 : (E.ann 50).ext = false ∧ (E.ann 50).modes = [] ∧ (E.ann 50).keep = [] ∧ (E.ann 50).mir = [] ∧ (E.ann 50).heads 0 = [0, 3, 4] ∧ (E.ann 50).rng 0 = none ∧ (E.ann 50).ends 0 = some [3] ∧ (E.ann 50).ends 1 = none := by
  refine ⟨?_, ?_, ?_, ?_, ?_, ?_, ?_, ?_⟩ <;> rfl
theorem e51 : (E.ann 51).ext = false ∧ (E.ann 51).modes = [] ∧ (E.ann 51).keep = [] ∧ (E.ann 51).mir = [] ∧ (E.ann 51).heads 0 = [0, 3, 4] ∧ (E.ann 51).rng 0 = none ∧ (E.ann 51).ends 0 = some [3] ∧ (E.ann 51).ends 1 = none := by
  refine ⟨?_, ?_, ?_, ?_, ?_, ?_, ?_, ?_⟩ <;> rfl
theorem e52 : (E.ann 52).ext = false ∧ (E.ann 52).modes = [] ∧ (E.ann 52).keep = [] ∧ (E.ann 52).mir = [] ∧ (E.ann 52).heads 0 = [0, 3, 4] ∧ (E.ann 52).rng 0 = none ∧ (E.ann 52).ends 0 = some [3] ∧ (E.ann 52).ends 1 = none := by
  refine ⟨?_, ?_, ?_, ?_, ?_, ?_, ?_, ?_⟩ <;> rfl
theorem e53 : (E.ann 53).ext = false ∧ (E.ann 53).modes = [] ∧ (E.ann 53).keep = [] ∧ (E.ann 53).mir = [] ∧ (E.ann 53).heads 0 = [1, 25, 26, 27] ∧ (E.ann 53).rng 0 = none ∧ (E.ann 53).ends 0 = some [] ∧ (E.ann 53).ends 1 = none := by
  refine ⟨?_, ?_, ?_, ?_, ?_, ?_, ?_, ?_⟩ <;> rfl
theorem e54 : (E.ann 54).ext = false ∧ (E.ann 54).modes = [] ∧ (E.ann 54).keep = [] ∧ (E.ann 54).mir = [] ∧ (E.ann 54).heads 0 = [0, 1, 7, 8, 9] ∧ (E.ann 54).rng 0 = none ∧ (E.ann 54).ends 0 = some [] ∧ (E.ann 54).ends 1 = none := by
  refine ⟨?_, ?_, ?_, ?_, ?_, ?_, ?_, ?_⟩ <;> rfl
theorem e55 : (E.ann 55).ext = false ∧ (E.ann 55).modes = [] ∧ (E.ann 55).keep = [] ∧ (E.ann 55).mir = [] ∧ (E.ann 55).heads 0 = [0, 8, 9, 10] ∧ (E.ann 55).rng 0 = none ∧ (E.ann 55).ends 0 = some [] ∧ (E.ann 55).ends 1 = none := by
  refine ⟨?_, ?_, ?_, ?_, ?_, ?_, ?_, ?_⟩ <;> rfl
theorem e56 : (E.ann 56).ext = false ∧ (E.ann 56).modes = [] ∧ (E.ann 56).keep = [] ∧ (E.ann 56).mir = [] := by
  refine ⟨?_, ?_, ?_, ?_⟩ <;> rfl
theorem e57 : (E.ann 57).ext = false ∧ (E.ann 57).modes = [] ∧ (E.ann 57).keep = [] ∧ (E.ann 57).mir = [] := by
  refine ⟨?_, ?_, ?_, ?_⟩ <;> rfl
theorem e58 : (E.ann 58).ext = false ∧ (E.ann 58).modes = [] ∧ (E.ann 58).keep = [] ∧ (E.ann 58).mir = [] ∧ (E.ann 58).heads 0 = [0, 1, 5] ∧ (E.ann 58).rng 0 = none ∧ (E.ann 58).ends 0 = some [] ∧ (E.ann 58).ends 1 = none ∧ (E.ann 58).draws 6 = [([0], [17]), ([5], [18]), ([0, 17, 18], [19]), ([0, 19], [20]), ([1], [21]), ([5], [22]), ([1, 21, 22], [23]), ([1, 23], [24]), ([20, 24], [25])] ∧ (E.ann 58).free 6 = none := by
  refine ⟨?_, ?_, ?_, ?_, ?_, ?_, ?_, ?_, ?_, ?_⟩ <;> rfl
theorem e59 : (E.ann 59).ext = false ∧ (E.ann 59).modes = [] ∧ (E.ann 59).keep = [] ∧ (E.ann 59).mir = [] ∧ (E.ann 59).heads 0 = [0, 1, 5] ∧ (E.ann 59).rng 0 = none ∧ (E.ann 59).ends 0 = some [] ∧ (E.ann 59).ends 1 = none ∧ (E.ann 59).draws 6 = [([0], [17]), ([5], [18]), ([0, 17, 18], [19]), ([0, 19], [20]), ([1], [21]), ([5], [22]), ([1, 21, 22], [23]), ([1, 23], [24]), ([20, 24], [25])] ∧ (E.ann 59).free 6 = none := by
  refine ⟨?_, ?_, ?_, ?_, ?_, ?_, ?_, ?_, ?_, ?_⟩ <;> rfl
theorem e60 : (E.ann 60).ext = false ∧ (E.ann 60).modes = [] ∧ (E.ann 60).keep = [] ∧ (E.ann 60).mir = [] ∧ (E.ann 60).heads 0 = [0, 1, 5] ∧ (E.ann 60).rng 0 = none ∧ (E.ann 60).ends 0 = some [] ∧ (E.ann 60).ends 1 = none ∧ (E.ann 60).draws 6 = [([0], [17]), ([5], [18]), ([0, 17, 18], [19]), ([0, 19], [20]), ([1], [21]), ([5], [22]), ([1, 21, 22], [23]), ([1, 23], [24]), ([20, 24], [25]), ([25], [26])] ∧ (E.ann 60).free 6 = none := by
  refine ⟨?_, ?_, ?_, ?_, ?_, ?_, ?_, ?_, ?_, ?_⟩ <;> rfl
theorem e61 : (E.ann 61).ext = false ∧ (E.ann 61).modes = [] ∧ (E.ann 61).keep = [] ∧ (E.ann 61).mir = [] ∧ (E.ann 61).heads 0 = [0, 1, 5] ∧ (E.ann 61).rng 0 = none ∧ (E.ann 61).ends 0 = some [] ∧ (E.ann 61).ends 1 = none ∧ (E.ann 61).draws 6 = [([0], [17]), ([5], [18]), ([0, 17, 18], [19]), ([0, 19], [20]), ([1], [21]), ([5], [22]), ([1, 21, 22], [23]), ([1, 23], [24]), ([0, 1, 20, 24], [25]), ([25], [26])] ∧ (E.ann 61).free 6 = none := by
  refine ⟨?_, ?_, ?_, ?_, ?_, ?_, ?_, ?_, ?_, ?_⟩ <;> rfl
theorem e62 : (E.ann 62).ext = false ∧ (E.ann 62).modes = [] ∧ (E.ann 62).keep = [] ∧ (E.ann 62).mir = [] := by
  refine ⟨?_, ?_, ?_, ?_⟩ <;> rfl
theorem e63 : (E.ann 63).ext = false ∧ (E.ann 63).modes = [] ∧ (E.ann 63).keep = [] ∧ (E.ann 63).mir = [] := by
  refine ⟨?_, ?_, ?_, ?_⟩ <;> rfl
theorem e64 : (E.ann 64).ext = false ∧ (E.ann 64).modes = [] ∧ (E.ann 64).keep = [] ∧ (E.ann 64).mir = [] := by
  refine ⟨?_, ?_, ?_, ?_⟩ <;> rfl
theorem e65 : (E.ann 65).ext = false ∧ (E.ann 65).modes = [] ∧ (E.ann 65).keep = [] ∧ (E.ann 65).mir = [] := by
  refine ⟨?_, ?_, ?_, ?_⟩ <;> rfl
theorem e66 : (E.ann 66).ext = false ∧ (E.ann 66).modes = [] ∧ (E.ann 66).keep = [] ∧ (E.ann 66).mir = [] ∧ (E.ann 66).heads 0 = [0, 1, 7, 8] ∧ (E.ann 66).rng 0 = none ∧ (E.ann 66).ends 0 = some [] ∧ (E.ann 66).ends 1 = none := by
  refine ⟨?_, ?_, ?_, ?_, ?_, ?_, ?_, ?_⟩ <;> rfl
theorem e67 : (E.ann 67).ext = false ∧ (E.ann 67).modes = [] ∧ (E.ann 67).keep = [] ∧ (E.ann 67).mir = [] := by
  refine ⟨?_, ?_, ?_, ?_⟩ <;> rfl
theorem e68 : (E.ann 68).ext = false ∧ (E.ann 68).modes = [] ∧ (E.ann 68).keep = [] ∧ (E.ann 68).mir = [] := by
  refine ⟨?_, ?_, ?_, ?_⟩ <;> rfl
theorem tblOk : tbl.all (fun p => tiB Try.prog p.1 p.2) = true := by kernel_rfl
theorem progOk : progB Try.prog E = true := by kernel_rfl
theorem eqsOk : eqs.all (fun t => match lookT tbl t with | some i => eqTB Try.prog t i | none => true) = true := by kernel_rfl
theorem extOk : ExtOk Try.prog E := extOk_none (by kernel_rfl)
theorem sound (f : FuncId) : CallOk Try.prog E (EV Try.prog E) f := EV_sound (by kernel_rfl) (tok_of tblOk) ⟨eqOk_list eqsOk, extOk⟩ progOk f
end Go.Proofs.Ytnhgopjnnedhdaa


