/- The tables of the seat: types, annotations (written by a program), and that the kernel finds them right. -/
import Derived.Test.YtdjapblnmkghoaaProg
import Derived.KernelRfl
import Derived.Test.YtdjapblnmkghoaaSxD
import Derived.Test.YtdjapblnmkghoaaSxD
namespace Go.Proofs.Ytdjapblnmkghoaa
open Go.Sx
def tbl : List (Nat × TI) := [
  (2, ⟨.prim, 1, 8, [.p (.int .i64 0)]⟩),
  (3, ⟨.prim, 1, 8, [.p (.int .i64 0)]⟩),
  (4, ⟨.prim, 1, 1, [.p (.bool false)]⟩),
  (5, ⟨.prim, 1, 1, [.p (.int .u8 0)]⟩),
  (6, ⟨.prim, 1, 1, [.p (.int .u8 0)]⟩),
  (7, ⟨.strct [(0, 1, false), (1, 1, false), (2, 1, false), (3, 1, false)], 4, 24, [.p (.int .i64 0), .p (.int .i64 0), .p (.bool false), .p (.int .u8 0)]⟩),
  (8, ⟨.strct [(0, 1, false), (1, 1, false), (2, 1, false), (3, 1, false)], 4, 24, [.p (.int .i64 0), .p (.int .i64 0), .p (.bool false), .p (.int .u8 0)]⟩),
  (9, ⟨.prim, 1, 16, [.p (.string ⟨#[]⟩)]⟩),
  (10, ⟨.prim, 1, 16, [.p (.string ⟨#[]⟩)]⟩),
  (11, ⟨.prim, 1, 16, [.p (.string ⟨#[]⟩)]⟩),
  (12, ⟨.prim, 1, 8, [.p (.int .u64 0)]⟩),
  (13, ⟨.strct [(0, 1, false), (1, 1, false)], 2, 24, [.p (.string ⟨#[]⟩), .p (.int .u64 0)]⟩),
  (14, ⟨.strct [(0, 1, false), (1, 1, false)], 2, 24, [.p (.string ⟨#[]⟩), .p (.int .u64 0)]⟩),
  (15, ⟨.ptr 150, 1, 8, [.p (.pointer none)]⟩),
  (16, ⟨.ptr 153, 1, 8, [.p (.pointer none)]⟩),
  (17, ⟨.ptr 163, 1, 8, [.p (.pointer none)]⟩),
  (18, ⟨.strct [(0, 1, false)], 1, 8, [.p (.pointer none)]⟩),
  (19, ⟨.strct [(0, 1, false)], 1, 8, [.p (.pointer none)]⟩),
  (21, ⟨.prim, 1, 4, [.p (.int .i32 0)]⟩),
  (22, ⟨.slc 127, 1, 24, [.sl .own 7 []]⟩),
  (23, ⟨.slc 130, 1, 24, [.sl .own 9 []]⟩),
  (24, ⟨.slc 132, 1, 24, [.sl .own 5 []]⟩),
  (25, ⟨.strct [(0, 1, false), (1, 1, false), (2, 1, false), (3, 1, false), (4, 1, false)], 5, 88, [.p (.int .i64 0), .p (.int .i64 0), .sl .own 7 [], .sl .own 9 [], .sl .own 5 []]⟩),
  (26, ⟨.strct [(0, 1, false), (1, 1, false), (2, 1, false), (3, 1, false), (4, 1, false)], 5, 88, [.p (.int .i64 0), .p (.int .i64 0), .sl .own 7 [], .sl .own 9 [], .sl .own 5 []]⟩),
  (28, ⟨.slc 9, 1, 24, [.sl .own 1 []]⟩),
  (29, ⟨.strct [(0, 1, false), (1, 1, false), (2, 1, false), (3, 1, false), (4, 1, false), (5, 1, false), (6, 1, false)], 7, 96, [.p (.string ⟨#[]⟩), .p (.string ⟨#[]⟩), .p (.int .i64 0), .p (.int .i64 0), .p (.string ⟨#[]⟩), .p (.bool false), .sl .own 1 []]⟩),
  (30, ⟨.strct [(0, 1, false), (1, 1, false), (2, 1, false), (3, 1, false), (4, 1, false), (5, 1, false), (6, 1, false)], 7, 96, [.p (.string ⟨#[]⟩), .p (.string ⟨#[]⟩), .p (.int .i64 0), .p (.int .i64 0), .p (.string ⟨#[]⟩), .p (.bool false), .sl .own 1 []]⟩),
  (33, ⟨.slc 30, 1, 24, [.sl .own 7 []]⟩),
  (34, ⟨.slc 102, 1, 24, [.sl .own 9 []]⟩),
  (35, ⟨.slc 115, 1, 24, [.sl .own 5 []]⟩),
  (36, ⟨.strct [(0, 1, false), (1, 1, false), (2, 1, false), (3, 1, false), (4, 1, false)], 5, 88, [.p (.int .i64 0), .p (.int .i64 0), .sl .own 7 [], .sl .own 9 [], .sl .own 5 []]⟩),
  (37, ⟨.strct [(0, 1, false), (1, 1, false), (2, 1, false), (3, 1, false), (4, 1, false)], 5, 88, [.p (.int .i64 0), .p (.int .i64 0), .sl .own 7 [], .sl .own 9 [], .sl .own 5 []]⟩),
  (44, ⟨.strct [(0, 1, false), (1, 1, false), (2, 1, false), (3, 1, false), (4, 1, false)], 5, 72, [.p (.string ⟨#[]⟩), .p (.string ⟨#[]⟩), .p (.int .i64 0), .sl .own 7 [], .p (.int .i64 0)]⟩),
  (45, ⟨.strct [(0, 1, false), (1, 1, false), (2, 1, false), (3, 1, false), (4, 1, false)], 5, 72, [.p (.string ⟨#[]⟩), .p (.string ⟨#[]⟩), .p (.int .i64 0), .sl .own 7 [], .p (.int .i64 0)]⟩),
  (46, ⟨.strct [(0, 1, false), (1, 1, false), (2, 1, false)], 3, 40, [.p (.int .i64 0), .sl .own 9 [], .p (.int .i64 0)]⟩),
  (47, ⟨.strct [(0, 1, false), (1, 1, false), (2, 1, false)], 3, 40, [.p (.int .i64 0), .sl .own 9 [], .p (.int .i64 0)]⟩),
  (50, ⟨.strct [(0, 1, false), (1, 1, false), (2, 1, false), (3, 1, false), (4, 1, false)], 5, 72, [.p (.string ⟨#[]⟩), .p (.string ⟨#[]⟩), .p (.int .i64 0), .sl .own 7 [], .p (.int .i64 0)]⟩),
  (51, ⟨.strct [(0, 1, false), (1, 1, false), (2, 1, false), (3, 1, false), (4, 1, false)], 5, 72, [.p (.string ⟨#[]⟩), .p (.string ⟨#[]⟩), .p (.int .i64 0), .sl .own 7 [], .p (.int .i64 0)]⟩),
  (55, ⟨.strct [(0, 1, false), (1, 1, false), (2, 1, false)], 3, 40, [.p (.int .i64 0), .sl .own 9 [], .p (.int .i64 0)]⟩),
  (56, ⟨.strct [(0, 1, false), (1, 1, false), (2, 1, false)], 3, 40, [.p (.int .i64 0), .sl .own 9 [], .p (.int .i64 0)]⟩),
  (69, ⟨.strct [(0, 1, false), (1, 1, false), (2, 1, false)], 3, 40, [.p (.string ⟨#[]⟩), .p (.string ⟨#[]⟩), .p (.int .i64 0)]⟩),
  (70, ⟨.strct [(0, 1, false), (1, 1, false), (2, 1, false)], 3, 40, [.p (.string ⟨#[]⟩), .p (.string ⟨#[]⟩), .p (.int .i64 0)]⟩),
  (73, ⟨.strct [(0, 1, false), (1, 1, false), (2, 1, false)], 3, 40, [.p (.string ⟨#[]⟩), .p (.string ⟨#[]⟩), .p (.int .i64 0)]⟩),
  (92, ⟨.strct [(0, 1, false), (1, 1, false)], 2, 32, [.p (.string ⟨#[]⟩), .p (.string ⟨#[]⟩)]⟩),
  (93, ⟨.strct [(0, 1, false), (1, 1, false)], 2, 32, [.p (.string ⟨#[]⟩), .p (.string ⟨#[]⟩)]⟩),
  (101, ⟨.strct [(0, 1, false), (1, 1, false), (2, 7, true)], 9, 112, [.p (.int .i64 0), .p (.bool false), .p (.string ⟨#[]⟩), .p (.string ⟨#[]⟩), .p (.int .i64 0), .p (.int .i64 0), .p (.string ⟨#[]⟩), .p (.bool false), .sl .own 1 []]⟩),
  (102, ⟨.strct [(0, 1, false), (1, 1, false), (2, 7, true)], 9, 112, [.p (.int .i64 0), .p (.bool false), .p (.string ⟨#[]⟩), .p (.string ⟨#[]⟩), .p (.int .i64 0), .p (.int .i64 0), .p (.string ⟨#[]⟩), .p (.bool false), .sl .own 1 []]⟩),
  (108, ⟨.mp 3 4, 1, 8, [.p (.map none)]⟩),
  (109, ⟨.mp 93 30, 1, 8, [.p (.map none)]⟩),
  (112, ⟨.mp 93 102, 1, 8, [.p (.map none)]⟩),
  (114, ⟨.strct [(0, 1, false), (1, 1, false), (2, 1, false), (3, 1, false), (4, 1, false)], 5, 56, [.p (.string ⟨#[]⟩), .p (.int .i64 0), .p (.string ⟨#[]⟩), .p (.int .i64 0), .p (.int .i64 0)]⟩),
  (115, ⟨.strct [(0, 1, false), (1, 1, false), (2, 1, false), (3, 1, false), (4, 1, false)], 5, 56, [.p (.string ⟨#[]⟩), .p (.int .i64 0), .p (.string ⟨#[]⟩), .p (.int .i64 0), .p (.int .i64 0)]⟩),
  (123, ⟨.mp 93 4, 1, 8, [.p (.map none)]⟩),
  (127, ⟨.strct [(0, 1, false), (1, 1, false), (2, 1, false), (3, 1, false), (4, 1, false), (5, 1, false), (6, 1, false)], 7, 96, [.p (.string ⟨#[]⟩), .p (.string ⟨#[]⟩), .p (.int .i64 0), .p (.int .i64 0), .p (.string ⟨#[]⟩), .p (.bool false), .sl .own 1 []]⟩),
  (129, ⟨.strct [(0, 1, false), (1, 1, false), (2, 7, true)], 9, 112, [.p (.int .i64 0), .p (.bool false), .p (.string ⟨#[]⟩), .p (.string ⟨#[]⟩), .p (.int .i64 0), .p (.int .i64 0), .p (.string ⟨#[]⟩), .p (.bool false), .sl .own 1 []]⟩),
  (130, ⟨.strct [(0, 1, false), (1, 1, false), (2, 7, true)], 9, 112, [.p (.int .i64 0), .p (.bool false), .p (.string ⟨#[]⟩), .p (.string ⟨#[]⟩), .p (.int .i64 0), .p (.int .i64 0), .p (.string ⟨#[]⟩), .p (.bool false), .sl .own 1 []]⟩),
  (132, ⟨.strct [(0, 1, false), (1, 1, false), (2, 1, false), (3, 1, false), (4, 1, false)], 5, 56, [.p (.string ⟨#[]⟩), .p (.int .i64 0), .p (.string ⟨#[]⟩), .p (.int .i64 0), .p (.int .i64 0)]⟩),
  (146, ⟨.slc 5, 1, 24, [.sl .own 1 []]⟩),
  (149, ⟨.strct [(0, 1, false), (1, 1, false), (2, 1, false), (3, 1, false)], 4, 40, [.p (.pointer none), .p (.pointer none), .p (.pointer none), .p (.string ⟨#[]⟩)]⟩),
  (150, ⟨.strct [(0, 1, false), (1, 1, false), (2, 1, false), (3, 1, false)], 4, 40, [.p (.pointer none), .p (.pointer none), .p (.pointer none), .p (.string ⟨#[]⟩)]⟩),
  (155, ⟨.prim, 1, 4, [.p (.int .u32 0)]⟩),
  (156, ⟨.prim, 1, 1, [.p (.int .u8 0)]⟩),
  (157, ⟨.prim, 1, 1, [.p (.int .u8 0)]⟩),
  (159, ⟨.ptr 5, 1, 8, [.p (.pointer none)]⟩),
  (160, ⟨.prim, 1, 4, [.p (.int .i32 0)]⟩),
  (161, ⟨.prim, 1, 4, [.p (.int .i32 0)]⟩)]
/-- gosem.cut.init -/
def a2 : Ann := {}
/-- loop.example/wharflog/laws.FnExactBookFind -/
def a3 : Ann := { draws := lookD [(14, [([10], [55]), ([3], [56]), ([3, 56], [57]), ([10, 55, 57], [58]), ([58], [59])])] [] }
/-- loop.example/wharflog/laws.FnExactBookTake -/
def a4 : Ann := { draws := lookD [(8, []), (14, [([8], [54]), ([2], [55]), ([2, 55], [56]), ([8, 54, 56], [57]), ([57], [58])]), (16, [([9], [59]), ([3], [60]), ([3, 60], [61]), ([9, 59, 61], [62]), ([62], [63])]), (31, [])] [] }
/-- loop.example/wharflog/laws.FnExactBookValid -/
def a5 : Ann := { draws := lookD [(10, [([5], [22]), ([1], [23]), ([1, 23], [24]), ([5, 22, 24], [25]), ([25], [26])])] [] }
/-- loop.example/wharflog/laws.FnExactBookList -/
def a6 : Ann := { draws := lookD [(14, [([10], [55]), ([3], [56]), ([3, 56], [57]), ([10, 55, 57], [58]), ([58], [59])])] [] }
/-- loop.example/wharflog/laws.FnExactBookNext -/
def a7 : Ann := { draws := lookD [(8, [([3], [25]), ([3, 25], [26]), ([4], [27]), ([27], [28]), ([2], [29]), ([26, 28, 29], [30]), ([], [8]), ([8, 30], [8, 30])]), (10, [([9], [33]), ([4], [34]), ([34], [35]), ([2], [36]), ([9, 33, 35, 36], [37]), ([], [10]), ([10, 37], [10, 37])]), (13, [([9], [42]), ([3], [43]), ([3, 43], [44]), ([9, 42, 44], [45]), ([45], [46])]), (27, [([3], [69]), ([3, 69], [70]), ([4], [71]), ([71], [72]), ([2], [73]), ([70, 72, 73], [74]), ([], [14]), ([14, 74], [14, 74])])] [] }
/-- loop.example/wharflog/laws.FnExactBookRelist -/
def a8 : Ann := { draws := lookD [(8, [([2], [24]), ([2, 24], [25]), ([3], [26]), ([3, 26], [27]), ([25, 27], [28]), ([], [6]), ([6, 28], [6, 28])]), (14, [([7], [40]), ([2], [41]), ([2, 41], [42]), ([7, 40, 42], [43]), ([43], [44])]), (16, [([8], [45]), ([3], [46]), ([3, 46], [47]), ([8, 45, 47], [48]), ([48], [49])]), (31, [([2], [75]), ([2, 75], [76]), ([3], [77]), ([3, 77], [78]), ([76, 78], [79]), ([], [13]), ([13, 79], [13, 79])])] [] }
/-- loop.example/wharflog/laws.FnExactBookAt -/
def a9 : Ann := { draws := lookD [(10, [([8], [45]), ([2], [46]), ([2, 46], [47]), ([8, 45, 47], [48]), ([48], [49])])] [] }
/-- loop.example/wharflog/laws.FnExactBookCut -/
def a10 : Ann := { draws := lookD [(10, [([7], [31]), ([2], [32]), ([2, 32], [33]), ([7, 31, 33], [34]), ([34], [35])])] [] }
/-- loop.example/wharflog/laws.FnExactBookStep -/
def a11 : Ann := { draws := lookD [(8, []), (14, [([10], [58]), ([3], [59]), ([3, 59], [60]), ([10, 58, 60], [61]), ([61], [62])]), (16, [([11], [63]), ([4], [64]), ([4, 64], [65]), ([11, 63, 65], [66]), ([66], [67])]), (31, [])] [] }
/-- loop.example/wharflog/laws.szBook -/
def a12 : Ann := {}
/-- loop.example/wharflog/spec.BookFind -/
def a13 : Ann := { heads := lookD [(0, [1, 2, 3, 6, 8])] [], ends := lookT [(0, [6])] }
/-- loop.example/wharflog/laws.toBook -/
def a14 : Ann := {}
/-- loop.example/wharflog/impl.BookFind -/
def a15 : Ann := {}
/-- loop.example/wharflog/laws.eqBookObject -/
def a16 : Ann := {}
/-- loop.example/wharflog/laws.eqBook -/
def a17 : Ann := {}
/-- loop.example/wharflog/laws.markBook -/
def a18 : Ann := { modes := [.io, .shr], keep := [0], mir := [(0, 2)] }
/-- loop.example/wharflog/laws.markBookObject -/
def a19 : Ann := { modes := [.io, .shr], keep := [0], mir := [(0, 2)] }
/-- loop.example/wharflog/laws.heldBookObject -/
def a20 : Ann := {}
/-- loop.example/wharflog/laws.szBookMirror -/
def a21 : Ann := {}
/-- loop.example/wharflog/laws.szBookNews -/
def a22 : Ann := {}
/-- loop.example/wharflog/spec.BookTake -/
def a23 : Ann := { heads := lookD [(2, [3, 4, 6, 8]), (0, [2, 3, 4, 6, 7])] [], ends := lookT [(2, [3, 4, 6]), (0, [2, 3, 4, 6])], draws := lookD [(7, [([3], [23]), ([3, 23], [24]), ([7], [25]), ([25], [26]), ([3, 24, 26], [27]), ([3, 27], [28]), ([3, 28], [29]), ([3], [30]), ([3, 30], [31]), ([7], [32]), ([3, 31, 32], [33]), ([3, 33], [34]), ([3, 34], [35]), ([29, 35], [36])])] [] }
/-- loop.example/wharflog/laws.toBookMirror -/
def a24 : Ann := {}
/-- loop.example/wharflog/laws.toBookNews -/
def a25 : Ann := {}
/-- loop.example/wharflog/impl.BookTake -/
def a26 : Ann := { heads := lookD [(2, [3, 4, 6, 48, 49, 50]), (0, [3, 4, 6, 24, 25, 26])] [], ends := lookT [(2, [3, 4, 6]), (0, [3, 4, 6])], draws := lookD [(9, [([7], [31]), ([31], [32]), ([32], [33]), ([8, 33], [34]), ([8, 33, 34], [35]), ([3, 33], [36]), ([3, 33, 36], [37]), ([7, 33], [38]), ([33, 38], [39]), ([3, 33, 37, 39], [40]), ([3, 33, 40], [41]), ([3, 33, 41], [42]), ([33, 35, 42], [43]), ([33, 43], [44])]), (17, [([6], [61]), ([6, 61], [62]), ([10], [63]), ([10, 63], [64]), ([10, 64], [65]), ([6, 62, 65], [6, 62, 66]), ([6], [67]), ([6, 66, 67], [6, 66, 67])]), (18, [([6], [68]), ([6, 68], [69]), ([10], [70]), ([10, 70], [71]), ([10, 71], [72]), ([6, 69, 72], [6, 69, 72, 73]), ([6], [74]), ([6, 73, 74], [6, 73, 74])])] [] }
/-- loop.example/wharflog/laws.eqBookMirror -/
def a27 : Ann := {}
/-- loop.example/wharflog/laws.eqBookNews -/
def a28 : Ann := {}
/-- loop.example/wharflog/laws.markBookMirror -/
def a29 : Ann := { modes := [.io, .shr], keep := [0], mir := [(0, 2)] }
/-- loop.example/wharflog/laws.markBookNews -/
def a30 : Ann := { modes := [.io, .shr], keep := [0], mir := [(0, 2)] }
/-- loop.example/wharflog/laws.heldBookMirror -/
def a31 : Ann := {}
/-- loop.example/wharflog/spec.BookValid -/
def a32 : Ann := {}
/-- loop.example/wharflog/impl.BookValid -/
def a33 : Ann := { rng := lookT [(5, (204, 205)), (7, (229, 230))], heads := lookD [(9, [1, 251, 252, 253]), (7, [1, 7, 229]), (5, [1, 4, 7, 204]), (2, [1, 4, 7, 121, 122, 123]), (0, [1, 3, 4, 76, 77, 78])] [], ends := lookT [(9, []), (7, [1]), (5, [1, 4, 7]), (2, [1, 4, 7]), (0, [1, 4])], draws := lookD [(8, [([6], [83]), ([1], [84]), ([1, 84], [85]), ([6, 83, 85], [86]), ([86], [87]), ([87], [88]), ([3, 88], [89]), ([6, 88], [90]), ([6, 88, 90], [91]), ([3, 88, 89, 91], [92]), ([88, 92], [93]), ([93], [94]), ([5, 94], [95]), ([94, 95], [96]), ([94, 96], [97]), ([1, 97], [98]), ([1, 97, 98], [99]), ([5, 97], [100]), ([97, 100], [101]), ([1, 97, 99, 101], [102]), ([1, 97, 102], [103]), ([1, 97, 103], [104]), ([6, 97], [105]), ([6, 97, 105], [106]), ([97, 104, 106], [107]), ([97, 107], [108]), ([94, 97, 108], [109]), ([94, 109], [110])]), (11, [([4], [114]), ([6], [115]), ([6, 115], [116]), ([6], [117]), ([4, 6, 114, 116, 117], [4, 114])]), (30, [([7], [198]), ([10], [199]), ([10, 199], [200]), ([9], [201]), ([7, 9, 198, 200, 201], [7, 198])]), (50, [([23], [258]), ([23, 258], [259]), ([259], [260]), ([260], [261]), ([261], [262]), ([22, 262], [263]), ([262, 263], [264]), ([262, 264], [265]), ([23, 265], [266]), ([23, 265, 266], [267]), ([1, 265], [268]), ([1, 265, 268], [269]), ([22, 265], [270]), ([265, 270], [271]), ([1, 265, 269, 271], [272]), ([1, 265, 272], [273]), ([1, 265, 273], [274]), ([265, 267, 274], [275]), ([262, 265, 275], [276]), ([262, 276], [277]), ([277], [278]), ([23, 278], [279]), ([23, 278, 279], [280]), ([278, 280], [281]), ([278, 281], [282]), ([282], [283]), ([23, 283], [284]), ([23, 283, 284], [285]), ([283, 285], [286]), ([283, 286], [287]), ([287], [288]), ([23, 288], [289]), ([23, 288, 289], [290]), ([288, 290], [291]), ([288, 291], [292]), ([288, 292], [293]), ([293], [294]), ([23, 294], [295]), ([23, 294, 295], [296]), ([294, 296], [297]), ([294, 297], [298]), ([298], [299]), ([23, 299], [300]), ([23, 299, 300], [301]), ([299, 301], [302]), ([299, 302], [303]), ([303], [304]), ([23, 304], [305]), ([23, 304, 305], [306]), ([304, 306], [307]), ([304, 307], [308]), ([308], [309]), ([23, 309], [310]), ([23, 309, 310], [311]), ([1, 309], [312]), ([1, 309, 312], [313]), ([309, 311, 313], [314]), ([309, 314], [315])])] [] }
/-- loop.example/wharflog/spec.BookList -/
def a34 : Ann := { draws := lookD [(3, [([3], [12]), ([3, 12], [13]), ([1], [14]), ([2], [15]), ([3, 13, 14, 15], [16]), ([3], [17]), ([3, 17], [18]), ([16], [6, 16]), ([18], [7])])] [] }
/-- loop.example/wharflog/impl.BookList -/
def a35 : Ann := { heads := lookD [(0, [1, 2, 3, 8, 15, 16, 17])] [], ends := lookT [(0, [3, 8])], draws := lookD [(10, [([8], [31]), ([3], [32]), ([3, 32], [33]), ([8, 31], [6, 8, 31]), ([33], [7])])] [] }
/-- loop.example/wharflog/laws.eqBookObjectS -/
def a36 : Ann := { heads := lookD [(0, [0, 1, 5])] [], ends := lookT [(0, [])], draws := lookD [(6, [([0], [17]), ([5], [18]), ([0, 17, 18], [19]), ([0, 19], [20]), ([1], [21]), ([5], [22]), ([1, 21, 22], [23]), ([1, 23], [24]), ([0, 1, 20, 24], [25]), ([25], [26])])] [] }
/-- loop.example/wharflog/laws.markBookObjectS -/
def a37 : Ann := { modes := [.io, .shr], keep := [0], heads := lookD [(0, [0, 1, 5])] [], ends := lookT [(0, [0, 1])] }
/-- loop.example/wharflog/laws.heldBookObjectS -/
def a38 : Ann := { heads := lookD [(0, [0, 1, 5])] [], ends := lookT [(0, [1])], draws := lookD [(4, [([0], [12]), ([5], [13]), ([0, 12, 13], [14]), ([0, 14], [15]), ([0, 15], [16]), ([1], [17]), ([17], [18]), ([16, 18], [19])]), (7, [([0], [22]), ([5], [23]), ([0, 22, 23], [24]), ([0, 24], [25]), ([0, 25], [26]), ([1], [27]), ([27], [28]), ([26, 28], [29])]), (16, [([0], [50]), ([5], [51]), ([0, 50, 51], [52]), ([0, 52], [53]), ([0, 53], [54]), ([1], [55]), ([55], [56]), ([54, 56], [57])])] [] }
/-- loop.example/wharflog/laws.szBookWatch -/
def a39 : Ann := {}
/-- loop.example/wharflog/spec.BookNext -/
def a40 : Ann := {}
/-- loop.example/wharflog/laws.toBookWatch -/
def a41 : Ann := {}
/-- loop.example/wharflog/impl.BookNext -/
def a42 : Ann := { heads := lookD [(0, [2, 3, 4, 6, 7, 40, 41, 42])] [], ends := lookT [(0, [6, 7])] }
/-- loop.example/wharflog/laws.heldBookNews -/
def a43 : Ann := {}
/-- loop.example/wharflog/spec.BookRelist -/
def a44 : Ann := {}
/-- loop.example/wharflog/impl.BookRelist -/
def a45 : Ann := {}
/-- loop.example/wharflog/spec.BookAt -/
def a46 : Ann := { heads := lookD [(2, [1, 2, 6, 7, 9]), (0, [1, 2, 6, 7, 8])] [], ends := lookT [(2, [6, 7]), (0, [1, 2, 6, 7])], draws := lookD [(8, [([2], [32]), ([2, 32], [33]), ([8], [34]), ([2, 33, 34], [35]), ([2, 35], [36]), ([2, 36], [37]), ([2], [38]), ([2, 38], [39]), ([37, 39], [40])])] [] }
/-- loop.example/wharflog/impl.BookAt -/
def a47 : Ann := { heads := lookD [(2, [2, 6, 7, 79, 80, 81]), (0, [1, 2, 6, 7, 8, 31, 32, 33])] [], ends := lookT [(2, [6, 7]), (0, [2, 6, 7])] }
/-- loop.example/wharflog/spec.BookCut -/
def a48 : Ann := { heads := lookD [(0, [1, 4, 5])] [], ends := lookT [(0, [4, 5])] }
/-- loop.example/wharflog/impl.BookCut -/
def a49 : Ann := {}
/-- loop.example/wharflog/laws.heldBook -/
def a50 : Ann := {}
/-- loop.example/wharflog/spec.BookStep -/
def a51 : Ann := {}
/-- loop.example/wharflog/impl.BookStep -/
def a52 : Ann := {}
/-- loop.example/wharflog/laws.szBookObjectS -/
def a53 : Ann := { heads := lookD [(0, [0, 1, 5])] [], ends := lookT [(0, [1])] }
/-- loop.example/wharflog/laws.szBookChangeS -/
def a54 : Ann := { heads := lookD [(0, [0, 1, 5])] [], ends := lookT [(0, [1])] }
/-- loop.example/wharflog/laws.szBookTicketS -/
def a55 : Ann := { heads := lookD [(0, [0, 1, 5])] [], ends := lookT [(0, [1])] }
/-- loop.example/wharflog/spec.l1Object -/
def a56 : Ann := {}
/-- loop.example/wharflog/laws.toBookObjectS -/
def a57 : Ann := { heads := lookD [(0, [0, 3, 4])] [], ends := lookT [(0, [3])] }
/-- loop.example/wharflog/laws.toBookChangeS -/
def a58 : Ann := { heads := lookD [(0, [0, 3, 4])] [], ends := lookT [(0, [3])] }
/-- loop.example/wharflog/laws.toBookTicketS -/
def a59 : Ann := { heads := lookD [(0, [0, 3, 4])] [], ends := lookT [(0, [3])] }
/-- loop.example/wharflog/impl.at -/
def a60 : Ann := {}
/-- loop.example/wharflog/impl.copyObject -/
def a61 : Ann := {}
/-- loop.example/wharflog/laws.eqStringS -/
def a62 : Ann := { heads := lookD [(0, [0, 1, 5])] [], ends := lookT [(0, [])], draws := lookD [(6, [([0], [17]), ([5], [18]), ([0, 17, 18], [19]), ([0, 19], [20]), ([1], [21]), ([5], [22]), ([1, 21, 22], [23]), ([1, 23], [24]), ([20, 24], [25])])] [] }
/-- loop.example/wharflog/laws.eqBookChangeS -/
def a63 : Ann := { heads := lookD [(0, [0, 1, 5])] [], ends := lookT [(0, [])], draws := lookD [(6, [([0], [17]), ([5], [18]), ([0, 17, 18], [19]), ([0, 19], [20]), ([1], [21]), ([5], [22]), ([1, 21, 22], [23]), ([1, 23], [24]), ([0, 1, 20, 24], [25]), ([25], [26])])] [] }
/-- loop.example/wharflog/laws.eqBookTicketS -/
def a64 : Ann := { heads := lookD [(0, [0, 1, 5])] [], ends := lookT [(0, [])], draws := lookD [(6, [([0], [17]), ([5], [18]), ([0, 17, 18], [19]), ([0, 19], [20]), ([1], [21]), ([5], [22]), ([1, 21, 22], [23]), ([1, 23], [24]), ([20, 24], [25]), ([25], [26])])] [] }
/-- loop.example/wharflog/laws.markBookChangeS -/
def a65 : Ann := { modes := [.io, .shr], keep := [0], heads := lookD [(0, [0, 1, 5])] [], ends := lookT [(0, [0, 1])] }
/-- loop.example/wharflog/laws.markBookTicketS -/
def a66 : Ann := { modes := [.io, .shr], keep := [0], heads := lookD [(0, [0, 1, 5])] [], ends := lookT [(0, [0, 1])] }
/-- loop.example/wharflog/laws.markStringS -/
def a67 : Ann := { modes := [.io, .shr], keep := [0], heads := lookD [(0, [0, 1, 5])] [], ends := lookT [(0, [0, 1])] }
/-- loop.example/wharflog/laws.heldStringS -/
def a68 : Ann := { heads := lookD [(0, [0, 1, 5])] [], ends := lookT [(0, [1])], draws := lookD [(4, [([0], [12]), ([5], [13]), ([0, 12, 13], [14]), ([0, 14], [15]), ([1], [16]), ([16], [17]), ([15, 17], [18])])] [] }
/-- loop.example/wharflog/spec.l7Copy -/
def a69 : Ann := {}
/-- loop.example/wharflog/spec.l2Put -/
def a70 : Ann := { heads := lookD [(0, [0, 3, 5, 6, 7])] [], ends := lookT [(0, [3, 5, 6])], draws := lookD [(6, [([0], [18]), ([7], [19]), ([0, 18, 19], [20]), ([0, 20], [21]), ([3], [22]), ([3, 22], [23]), ([0, 3, 21, 23], [24]), ([24], [8])])] [] }
/-- loop.example/wharflog/impl.copyMirror -/
def a71 : Ann := {}
/-- loop.example/wharflog/impl.out -/
def a72 : Ann := { modes := [.mv, .shr] }
/-- loop.example/wharflog/impl.keyOf -/
def a73 : Ann := {}
/-- loop.example/wharflog/impl.put -/
def a74 : Ann := { modes := [.mv, .mv], heads := lookD [(0, [0, 3, 5, 6, 7, 19, 20, 21])] [], ends := lookT [(0, [0, 3, 6, 7])], draws := lookD [(11, [([9], [33]), ([9, 33], [34]), ([5], [35]), ([34, 35], [36])])] [] }
/-- loop.example/wharflog/spec.l1In -/
def a75 : Ann := {}
/-- loop.example/wharflog/spec.l1ObjectsOk -/
def a76 : Ann := { heads := lookD [(2, [1, 3, 4, 5]), (0, [1, 3])] [], ends := lookT [(2, [1, 3]), (0, [])], draws := lookD [(7, [([4], [22]), ([1], [23]), ([1, 23], [24]), ([4, 22, 24], [25]), ([25], [26]), ([26], [27]), ([4, 27], [28]), ([4, 27, 28], [29]), ([27, 29], [30]), ([4, 30], [31]), ([4, 30, 31], [32]), ([4, 30, 32], [33]), ([30, 33], [34]), ([27, 30, 34], [35]), ([27, 35], [36]), ([36], [37]), ([3, 37], [38]), ([37, 38], [39]), ([37, 39], [40]), ([1, 40], [41]), ([1, 40, 41], [42]), ([3, 40], [43]), ([40, 43], [44]), ([1, 40, 42, 44], [45]), ([1, 40, 45], [46]), ([4, 40], [47]), ([1, 4, 40, 46, 47], [48]), ([40, 48], [49]), ([37, 40, 49], [50]), ([37, 50], [51])]), (12, [([1], [57]), ([1, 57], [58]), ([5], [59]), ([1, 58, 59], [60]), ([1, 60], [61]), ([1, 61], [62]), ([4], [63]), ([4, 63], [64]), ([62, 64], [65])])] [] }
/-- loop.example/wharflog/spec.l1HistoryOk -/
def a77 : Ann := { heads := lookD [(4, [1, 9]), (2, [1, 7]), (0, [1, 3])] [], ends := lookT [(4, []), (2, [1]), (0, [1])], draws := lookD [(16, [([4], [116]), ([4, 116], [117]), ([1], [118]), ([1, 118], [119]), ([6], [120]), ([1, 119, 120], [121]), ([1, 121], [122]), ([1, 122], [123]), ([117, 123], [124]), ([124], [125]), ([4, 125], [126]), ([4, 125, 126], [127]), ([125, 127], [128]), ([125, 128], [129]), ([5, 129], [130]), ([5, 129, 130], [131]), ([1, 129], [132]), ([1, 129, 132], [133]), ([6, 129], [134]), ([1, 129, 133, 134], [135]), ([1, 129, 135], [136]), ([1, 129, 136], [137]), ([1, 129, 137], [138]), ([129, 131, 138], [139]), ([125, 129, 139], [140]), ([125, 140], [141])]), (21, [([1], [149]), ([1, 149], [150]), ([1], [151]), ([1, 151], [152]), ([7], [153]), ([1, 152, 153], [154]), ([1, 154], [155]), ([1], [156]), ([1, 156], [157]), ([1, 157], [158]), ([1, 150, 155, 158], [159]), ([159], [8])]), (22, [([8], [160]), ([160], [161]), ([161], [162]), ([1, 162], [163]), ([1, 162, 163], [164]), ([8, 162], [165]), ([1, 162, 164, 165], [166]), ([1, 162, 166], [167]), ([1, 162, 167], [168]), ([162, 168], [169]), ([1, 169], [170]), ([1, 169, 170], [171]), ([8, 169], [172]), ([1, 169, 171, 172], [173]), ([1, 169, 173], [174]), ([1, 169, 174], [175]), ([1, 169], [176]), ([1, 169, 176], [177]), ([7, 169], [178]), ([1, 169, 177, 178], [179]), ([1, 169, 179], [180]), ([1, 169, 175, 180], [181]), ([169, 181], [182]), ([162, 169, 182], [183]), ([162, 183], [184]), ([184], [185]), ([8, 185], [186]), ([185, 186], [187]), ([185, 187], [188]), ([1, 188], [189]), ([1, 188, 189], [190]), ([7, 188], [191]), ([1, 188, 190, 191], [192]), ([1, 188, 192], [193]), ([1, 188, 193], [194]), ([1, 188], [195]), ([1, 188, 195], [196]), ([188, 194, 196], [197]), ([185, 188, 197], [198]), ([185, 198], [199])])] [] }
/-- loop.example/wharflog/spec.l1TicketsOk -/
def a78 : Ann := { heads := lookD [(0, [1, 3])] [], ends := lookT [(0, [])], draws := lookD [(7, [([4], [21]), ([4, 21], [22]), ([22], [23]), ([23], [24]), ([24], [25]), ([3, 25], [26]), ([25, 26], [27]), ([25, 27], [28]), ([1, 28], [29]), ([1, 28, 29], [30]), ([3, 28], [31]), ([28, 31], [32]), ([1, 28, 30, 32], [33]), ([1, 28, 33], [34]), ([1, 28, 34], [35]), ([4, 28], [36]), ([4, 28, 36], [37]), ([28, 35, 37], [38]), ([25, 28, 38], [39]), ([25, 39], [40]), ([40], [41]), ([4, 41], [42]), ([4, 41, 42], [43]), ([41, 43], [44]), ([41, 44], [45]), ([41, 45], [46]), ([46], [47]), ([4, 47], [48]), ([4, 47, 48], [49]), ([47, 49], [50]), ([47, 50], [51]), ([47, 51], [52]), ([52], [53]), ([4, 53], [54]), ([4, 53, 54], [55]), ([53, 55], [56]), ([53, 56], [57]), ([53, 57], [58]), ([58], [59]), ([4, 59], [60]), ([4, 59, 60], [61]), ([1, 59], [62]), ([1, 59, 62], [63]), ([59, 61, 63], [64]), ([59, 64], [65]), ([59, 65], [66])])] [] }
/-- loop.example/wharflog/impl.objectOk -/
def a79 : Ann := {}
/-- (loop.example/wharflog/impl.key).compare -/
def a80 : Ann := {}
/-- loop.example/wharflog/impl.sameObject -/
def a81 : Ann := {}
/-- loop.example/wharflog/impl.isName -/
def a82 : Ann := { heads := lookD [(0, [0, 14, 15])] [], ends := lookT [(0, [])] }
/-- loop.example/wharflog/spec.l4List -/
def a83 : Ann := { heads := lookD [(0, [0, 1, 2, 7, 8])] [], ends := lookT [(0, [7])] }
/-- loop.example/wharflog/impl.seen -/
def a84 : Ann := {}
/-- loop.example/wharflog/laws.markText -/
def a85 : Ann := { heads := lookD [(0, [0, 3])] [], ends := lookT [(0, [3])] }
/-- loop.example/wharflog/spec.l6Next -/
def a86 : Ann := { heads := lookD [(0, [2, 3, 4, 6, 7, 8])] [], ends := lookT [(0, [6, 7])] }
/-- loop.example/wharflog/laws.heldBookChangeS -/
def a87 : Ann := { heads := lookD [(0, [0, 1, 5])] [], ends := lookT [(0, [1])], draws := lookD [(10, [([0], [32]), ([5], [33]), ([0, 32, 33], [34]), ([0, 34], [35]), ([0, 35], [36]), ([0, 36], [37]), ([1], [38]), ([38], [39]), ([37, 39], [40])]), (13, [([0], [43]), ([5], [44]), ([0, 43, 44], [45]), ([0, 45], [46]), ([0, 46], [47]), ([0, 47], [48]), ([1], [49]), ([49], [50]), ([48, 50], [51])]), (22, [([0], [74]), ([5], [75]), ([0, 74, 75], [76]), ([0, 76], [77]), ([0, 77], [78]), ([0, 78], [79]), ([1], [80]), ([80], [81]), ([79, 81], [82])])] [] }
/-- loop.example/wharflog/spec.l1Last -/
def a88 : Ann := { heads := lookD [(0, [0, 4, 7])] [], ends := lookT [(0, [])], draws := lookD [(4, [([0], [14]), ([7], [15]), ([0, 14, 15], [16]), ([0, 16], [17]), ([0, 17], [18]), ([4], [19]), ([0, 4, 18, 19], [20]), ([20], [21])])] [] }
/-- loop.example/wharflog/spec.l1Creation -/
def a89 : Ann := {}
/-- loop.example/wharflog/spec.l1Objects -/
def a90 : Ann := { heads := lookD [(0, [0, 3, 4])] [], ends := lookT [(0, [3])] }
/-- loop.example/wharflog/spec.l1Copy -/
def a91 : Ann := { draws := lookD [(1, [([1], [3]), ([1, 3], [4]), ([1], [5]), ([1, 5], [6]), ([1], [7]), ([1, 7], [8]), ([1, 8], [9]), ([1], [10]), ([1, 10], [11]), ([1, 11], [12]), ([], [13]), ([1], [14]), ([1, 14], [15]), ([1, 13, 15], [13, 16]), ([4, 6, 9, 12, 16], [4, 6, 9, 12, 16, 17]), ([2, 17], [2, 17])])] [] }
/-- loop.example/wharflog/impl.copyBook -/
def a92 : Ann := {}
/-- loop.example/wharflog/impl.copyChanges -/
def a93 : Ann := { heads := lookD [(0, [0, 3, 6, 7, 8])] [], ends := lookT [(0, [3])] }
/-- loop.example/wharflog/laws.heldBookTicketS -/
def a94 : Ann := { heads := lookD [(0, [0, 1, 5])] [], ends := lookT [(0, [1])], draws := lookD [(4, [([0], [12]), ([5], [13]), ([0, 12, 13], [14]), ([0, 14], [15]), ([0, 15], [16]), ([1], [17]), ([17], [18]), ([16, 18], [19])]), (10, [([0], [31]), ([5], [32]), ([0, 31, 32], [33]), ([0, 33], [34]), ([0, 34], [35]), ([1], [36]), ([36], [37]), ([35, 37], [38])])] [] }
/-- loop.example/wharflog/laws.szBookObject -/
def a95 : Ann := {}
/-- loop.example/wharflog/laws.szBookChange -/
def a96 : Ann := {}
/-- loop.example/wharflog/laws.szBookTicket -/
def a97 : Ann := {}
/-- loop.example/wharflog/laws.toBookObject -/
def a98 : Ann := {}
/-- loop.example/wharflog/laws.toBookChange -/
def a99 : Ann := {}
/-- loop.example/wharflog/laws.toBookTicket -/
def a100 : Ann := {}
/-- slices.IndexFunc[[]loop.example/wharflog/impl.BookObject,loop.example/wharflog/impl.BookObject] -/
def a101 : Ann := { heads := lookD [(0, [0, 1, 7, 8])] [], ends := lookT [(0, [])] }
/-- loop.example/wharflog/impl.at$1 -/
def a102 : Ann := { draws := lookD [(1, [([2], [4]), ([2, 4], [5]), ([1], [6]), ([5, 6], [7]), ([7], [3])])] [] }
/-- loop.example/wharflog/laws.eqBookChange -/
def a103 : Ann := {}
/-- loop.example/wharflog/laws.eqBookTicket -/
def a104 : Ann := {}
/-- loop.example/wharflog/spec.l1Key -/
def a105 : Ann := {}
/-- loop.example/wharflog/impl.copyObjects -/
def a106 : Ann := { heads := lookD [(0, [0, 3, 6, 7, 8])] [], ends := lookT [(0, [3])] }
/-- slices.DeleteFunc[[]loop.example/wharflog/impl.BookObject,loop.example/wharflog/impl.BookObject] -/
def a107 : Ann := { modes := [.mv, .shr], heads := lookD [(0, [0, 1, 5, 6])] [], ends := lookT [(0, [0, 5])] }
/-- loop.example/wharflog/impl.out$1 -/
def a108 : Ann := { draws := lookD [(1, [([2], [4]), ([2, 4], [5]), ([1], [6]), ([5, 6], [7]), ([7], [3])])] [] }
/-- loop.example/wharflog/impl.put$1 -/
def a109 : Ann := { draws := lookD [(1, [([2], [4]), ([2, 4], [5]), ([1], [6]), ([5, 6], [7]), ([7], [8]), ([8], [3])])] [] }
/-- loop.example/wharflog/spec.l1Parts -/
def a110 : Ann := {}
/-- loop.example/wharflog/spec.l1Same -/
def a111 : Ann := { heads := lookD [(0, [2, 3, 5])] [], ends := lookT [(0, [])], draws := lookD [(6, [([2], [62]), ([2, 62], [63]), ([5], [64]), ([2, 63, 64], [65]), ([2, 65], [66]), ([3], [67]), ([3, 67], [68]), ([5], [69]), ([3, 68, 69], [70]), ([3, 70], [71]), ([66, 71], [72])])] [] }
/-- loop.example/wharflog/spec.l1NameOk -/
def a112 : Ann := { heads := lookD [(0, [0, 3])] [], ends := lookT [(0, [])] }
/-- loop.example/wharflog/impl.rising -/
def a113 : Ann := { heads := lookD [(0, [0, 5, 6, 7])] [], ends := lookT [(0, [])] }
/-- strings.Compare -/
def a114 : Ann := {}
/-- slices.Equal[[]string,string] -/
def a115 : Ann := { heads := lookD [(0, [0, 1, 12, 13])] [], ends := lookT [(0, [])], draws := lookD [(6, [([0], [16]), ([5], [17]), ([0, 16, 17], [18]), ([0, 18], [19]), ([1], [20]), ([5], [21]), ([1, 20, 21], [22]), ([1, 22], [23]), ([19, 23], [24])])] [] }
/-- loop.example/wharflog/spec.l4Looks -/
def a116 : Ann := {}
/-- strings.HasPrefix -/
def a117 : Ann := {}
/-- loop.example/wharflog/spec.l1Changes -/
def a118 : Ann := { heads := lookD [(0, [0, 3, 4])] [], ends := lookT [(0, [3])] }
/-- loop.example/wharflog/laws.szStringS -/
def a119 : Ann := { heads := lookD [(0, [0, 1, 5])] [], ends := lookT [(0, [1])] }
/-- loop.example/wharflog/laws.toStringS -/
def a120 : Ann := { heads := lookD [(0, [0, 3, 4])] [], ends := lookT [(0, [3])] }
/-- loop.example/wharflog/spec.l1Ascending -/
def a121 : Ann := { heads := lookD [(0, [0, 3])] [], ends := lookT [(0, [])], draws := lookD [(4, [([0], [10]), ([3], [11]), ([0, 10, 11], [12]), ([0, 12], [13]), ([13], [14]), ([14], [15]), ([15], [16]), ([3, 16], [17]), ([16, 17], [18]), ([16, 18], [19]), ([0, 19], [20]), ([3, 19], [21]), ([19, 21], [22]), ([0, 19, 20, 22], [23]), ([0, 19, 23], [24]), ([0, 19], [25]), ([3, 19], [26]), ([0, 19, 25, 26], [27]), ([0, 19, 27], [28]), ([19, 24, 28], [29]), ([16, 19, 29], [30]), ([16, 30], [31])])] [] }
/-- internal/bytealg.CompareString -/
def a122 : Ann := {}
/-- internal/stringslite.HasPrefix -/
def a123 : Ann := {}
def a124 : Ann := { ext := true }
def anns : List (Nat × Ann) := [(2, a2), (3, a3), (4, a4), (5, a5), (6, a6), (7, a7), (8, a8), (9, a9), (10, a10), (11, a11), (12, a12), (13, a13), (14, a14), (15, a15), (16, a16), (17, a17), (18, a18), (19, a19), (20, a20), (21, a21), (22, a22), (23, a23), (24, a24), (25, a25), (26, a26), (27, a27), (28, a28), (29, a29), (30, a30), (31, a31), (32, a32), (33, a33), (34, a34), (35, a35), (36, a36), (37, a37), (38, a38), (39, a39), (40, a40), (41, a41), (42, a42), (43, a43), (44, a44), (45, a45), (46, a46), (47, a47), (48, a48), (49, a49), (50, a50), (51, a51), (52, a52), (53, a53), (54, a54), (55, a55), (56, a56), (57, a57), (58, a58), (59, a59), (60, a60), (61, a61), (62, a62), (63, a63), (64, a64), (65, a65), (66, a66), (67, a67), (68, a68), (69, a69), (70, a70), (71, a71), (72, a72), (73, a73), (74, a74), (75, a75), (76, a76), (77, a77), (78, a78), (79, a79), (80, a80), (81, a81), (82, a82), (83, a83), (84, a84), (85, a85), (86, a86), (87, a87), (88, a88), (89, a89), (90, a90), (91, a91), (92, a92), (93, a93), (94, a94), (95, a95), (96, a96), (97, a97), (98, a98), (99, a99), (100, a100), (101, a101), (102, a102), (103, a103), (104, a104), (105, a105), (106, a106), (107, a107), (108, a108), (109, a109), (110, a110), (111, a111), (112, a112), (113, a113), (114, a114), (115, a115), (116, a116), (117, a117), (118, a118), (119, a119), (120, a120), (121, a121), (122, a122), (123, a123), (124, a124)]
def eqs : List Nat := [93]
def E : Env := ⟨lookT tbl, fun t => eqs.contains t, lookD anns {}, []⟩
set_option maxRecDepth 100000
theorem eT : E.T 2 = some ⟨.prim, 1, 8, [.p (.int .i64 0)]⟩ ∧
  E.T 3 = some ⟨.prim, 1, 8, [.p (.int .i64 0)]⟩ ∧
  E.T 4 = some ⟨.prim, 1, 1, [.p (.bool false)]⟩ ∧
  E.T 5 = some ⟨.prim, 1, 1, [.p (.int .u8 0)]⟩ ∧
  E.T 6 = some ⟨.prim, 1, 1, [.p (.int .u8 0)]⟩ ∧
  E.T 7 = some ⟨.strct [(0, 1, false), (1, 1, false), (2, 1, false), (3, 1, false)], 4, 24, [.p (.int .i64 0), .p (.int .i64 0), .p (.bool false), .p (.int .u8 0)]⟩ ∧
  E.T 8 = some ⟨.strct [(0, 1, false), (1, 1, false), (2, 1, false), (3, 1, false)], 4, 24, [.p (.int .i64 0), .p (.int .i64 0), .p (.bool false), .p (.int .u8 0)]⟩ ∧
  E.T 9 = some ⟨.prim, 1, 16, [.p (.string ⟨#[]⟩)]⟩ ∧
  E.T 10 = some ⟨.prim, 1, 16, [.p (.string ⟨#[]⟩)]⟩ ∧
  E.T 11 = some ⟨.prim, 1, 16, [.p (.string ⟨#[]⟩)]⟩ ∧
  E.T 12 = some ⟨.prim, 1, 8, [.p (.int .u64 0)]⟩ ∧
  E.T 13 = some ⟨.strct [(0, 1, false), (1, 1, false)], 2, 24, [.p (.string ⟨#[]⟩), .p (.int .u64 0)]⟩ ∧
  E.T 14 = some ⟨.strct [(0, 1, false), (1, 1, false)], 2, 24, [.p (.string ⟨#[]⟩), .p (.int .u64 0)]⟩ ∧
  E.T 15 = some ⟨.ptr 150, 1, 8, [.p (.pointer none)]⟩ ∧
  E.T 16 = some ⟨.ptr 153, 1, 8, [.p (.pointer none)]⟩ ∧
  E.T 17 = some ⟨.ptr 163, 1, 8, [.p (.pointer none)]⟩ ∧
  E.T 18 = some ⟨.strct [(0, 1, false)], 1, 8, [.p (.pointer none)]⟩ ∧
  E.T 19 = some ⟨.strct [(0, 1, false)], 1, 8, [.p (.pointer none)]⟩ ∧
  E.T 21 = some ⟨.prim, 1, 4, [.p (.int .i32 0)]⟩ ∧
  E.T 22 = some ⟨.slc 127, 1, 24, [.sl .own 7 []]⟩ ∧
  E.T 23 = some ⟨.slc 130, 1, 24, [.sl .own 9 []]⟩ ∧
  E.T 24 = some ⟨.slc 132, 1, 24, [.sl .own 5 []]⟩ ∧
  E.T 25 = some ⟨.strct [(0, 1, false), (1, 1, false), (2, 1, false), (3, 1, false), (4, 1, false)], 5, 88, [.p (.int .i64 0), .p (.int .i64 0), .sl .own 7 [], .sl .own 9 [], .sl .own 5 []]⟩ ∧
  E.T 26 = some ⟨.strct [(0, 1, false), (1, 1, false), (2, 1, false), (3, 1, false), (4, 1, false)], 5, 88, [.p (.int .i64 0), .p (.int .i64 0), .sl .own 7 [], .sl .own 9 [], .sl .own 5 []]⟩ ∧
  E.T 28 = some ⟨.slc 9, 1, 24, [.sl .own 1 []]⟩ ∧
  E.T 29 = some ⟨.strct [(0, 1, false), (1, 1, false), (2, 1, false), (3, 1, false), (4, 1, false), (5, 1, false), (6, 1, false)], 7, 96, [.p (.string ⟨#[]⟩), .p (.string ⟨#[]⟩), .p (.int .i64 0), .p (.int .i64 0), .p (.string ⟨#[]⟩), .p (.bool false), .sl .own 1 []]⟩ ∧
  E.T 30 = some ⟨.strct [(0, 1, false), (1, 1, false), (2, 1, false), (3, 1, false), (4, 1, false), (5, 1, false), (6, 1, false)], 7, 96, [.p (.string ⟨#[]⟩), .p (.string ⟨#[]⟩), .p (.int .i64 0), .p (.int .i64 0), .p (.string ⟨#[]⟩), .p (.bool false), .sl .own 1 []]⟩ ∧
  E.T 33 = some ⟨.slc 30, 1, 24, [.sl .own 7 []]⟩ ∧
  E.T 34 = some ⟨.slc 102, 1, 24, [.sl .own 9 []]⟩ ∧
  E.T 35 = some ⟨.slc 115, 1, 24, [.sl .own 5 []]⟩ ∧
  E.T 36 = some ⟨.strct [(0, 1, false), (1, 1, false), (2, 1, false), (3, 1, false), (4, 1, false)], 5, 88, [.p (.int .i64 0), .p (.int .i64 0), .sl .own 7 [], .sl .own 9 [], .sl .own 5 []]⟩ ∧
  E.T 37 = some ⟨.strct [(0, 1, false), (1, 1, false), (2, 1, false), (3, 1, false), (4, 1, false)], 5, 88, [.p (.int .i64 0), .p (.int .i64 0), .sl .own 7 [], .sl .own 9 [], .sl .own 5 []]⟩ ∧
  E.T 44 = some ⟨.strct [(0, 1, false), (1, 1, false), (2, 1, false), (3, 1, false), (4, 1, false)], 5, 72, [.p (.string ⟨#[]⟩), .p (.string ⟨#[]⟩), .p (.int .i64 0), .sl .own 7 [], .p (.int .i64 0)]⟩ ∧
  E.T 45 = some ⟨.strct [(0, 1, false), (1, 1, false), (2, 1, false), (3, 1, false), (4, 1, false)], 5, 72, [.p (.string ⟨#[]⟩), .p (.string ⟨#[]⟩), .p (.int .i64 0), .sl .own 7 [], .p (.int .i64 0)]⟩ ∧
  E.T 46 = some ⟨.strct [(0, 1, false), (1, 1, false), (2, 1, false)], 3, 40, [.p (.int .i64 0), .sl .own 9 [], .p (.int .i64 0)]⟩ ∧
  E.T 47 = some ⟨.strct [(0, 1, false), (1, 1, false), (2, 1, false)], 3, 40, [.p (.int .i64 0), .sl .own 9 [], .p (.int .i64 0)]⟩ ∧
  E.T 50 = some ⟨.strct [(0, 1, false), (1, 1, false), (2, 1, false), (3, 1, false), (4, 1, false)], 5, 72, [.p (.string ⟨#[]⟩), .p (.string ⟨#[]⟩), .p (.int .i64 0), .sl .own 7 [], .p (.int .i64 0)]⟩ ∧
  E.T 51 = some ⟨.strct [(0, 1, false), (1, 1, false), (2, 1, false), (3, 1, false), (4, 1, false)], 5, 72, [.p (.string ⟨#[]⟩), .p (.string ⟨#[]⟩), .p (.int .i64 0), .sl .own 7 [], .p (.int .i64 0)]⟩ ∧
  E.T 55 = some ⟨.strct [(0, 1, false), (1, 1, false), (2, 1, false)], 3, 40, [.p (.int .i64 0), .sl .own 9 [], .p (.int .i64 0)]⟩ ∧
  E.T 56 = some ⟨.strct [(0, 1, false), (1, 1, false), (2, 1, false)], 3, 40, [.p (.int .i64 0), .sl .own 9 [], .p (.int .i64 0)]⟩ ∧
  E.T 69 = some ⟨.strct [(0, 1, false), (1, 1, false), (2, 1, false)], 3, 40, [.p (.string ⟨#[]⟩), .p (.string ⟨#[]⟩), .p (.int .i64 0)]⟩ ∧
  E.T 70 = some ⟨.strct [(0, 1, false), (1, 1, false), (2, 1, false)], 3, 40, [.p (.string ⟨#[]⟩), .p (.string ⟨#[]⟩), .p (.int .i64 0)]⟩ ∧
  E.T 73 = some ⟨.strct [(0, 1, false), (1, 1, false), (2, 1, false)], 3, 40, [.p (.string ⟨#[]⟩), .p (.string ⟨#[]⟩), .p (.int .i64 0)]⟩ ∧
  E.T 92 = some ⟨.strct [(0, 1, false), (1, 1, false)], 2, 32, [.p (.string ⟨#[]⟩), .p (.string ⟨#[]⟩)]⟩ ∧
  E.T 93 = some ⟨.strct [(0, 1, false), (1, 1, false)], 2, 32, [.p (.string ⟨#[]⟩), .p (.string ⟨#[]⟩)]⟩ ∧
  E.T 101 = some ⟨.strct [(0, 1, false), (1, 1, false), (2, 7, true)], 9, 112, [.p (.int .i64 0), .p (.bool false), .p (.string ⟨#[]⟩), .p (.string ⟨#[]⟩), .p (.int .i64 0), .p (.int .i64 0), .p (.string ⟨#[]⟩), .p (.bool false), .sl .own 1 []]⟩ ∧
  E.T 102 = some ⟨.strct [(0, 1, false), (1, 1, false), (2, 7, true)], 9, 112, [.p (.int .i64 0), .p (.bool false), .p (.string ⟨#[]⟩), .p (.string ⟨#[]⟩), .p (.int .i64 0), .p (.int .i64 0), .p (.string ⟨#[]⟩), .p (.bool false), .sl .own 1 []]⟩ ∧
  E.T 108 = some ⟨.mp 3 4, 1, 8, [.p (.map none)]⟩ ∧
  E.T 109 = some ⟨.mp 93 30, 1, 8, [.p (.map none)]⟩ ∧
  E.T 112 = some ⟨.mp 93 102, 1, 8, [.p (.map none)]⟩ ∧
  E.T 114 = some ⟨.strct [(0, 1, false), (1, 1, false), (2, 1, false), (3, 1, false), (4, 1, false)], 5, 56, [.p (.string ⟨#[]⟩), .p (.int .i64 0), .p (.string ⟨#[]⟩), .p (.int .i64 0), .p (.int .i64 0)]⟩ ∧
  E.T 115 = some ⟨.strct [(0, 1, false), (1, 1, false), (2, 1, false), (3, 1, false), (4, 1, false)], 5, 56, [.p (.string ⟨#[]⟩), .p (.int .i64 0), .p (.string ⟨#[]⟩), .p (.int .i64 0), .p (.int .i64 0)]⟩ ∧
  E.T 123 = some ⟨.mp 93 4, 1, 8, [.p (.map none)]⟩ ∧
  E.T 127 = some ⟨.strct [(0, 1, false), (1, 1, false), (2, 1, false), (3, 1, false), (4, 1, false), (5, 1, false), (6, 1, false)], 7, 96, [.p (.string ⟨#[]⟩), .p (.string ⟨#[]⟩), .p (.int .i64 0), .p (.int .i64 0), .p (.string ⟨#[]⟩), .p (.bool false), .sl .own 1 []]⟩ ∧
  E.T 129 = some ⟨.strct [(0, 1, false), (1, 1, false), (2, 7, true)], 9, 112, [.p (.int .i64 0), .p (.bool false), .p (.string ⟨#[]⟩), .p (.string ⟨#[]⟩), .p (.int .i64 0), .p (.int .i64 0), .p (.string ⟨#[]⟩), .p (.bool false), .sl .own 1 []]⟩ ∧
  E.T 130 = some ⟨.strct [(0, 1, false), (1, 1, false), (2, 7, true)], 9, 112, [.p (.int .i64 0), .p (.bool false), .p (.string ⟨#[]⟩), .p (.string ⟨#[]⟩), .p (.int .i64 0), .p (.int .i64 0), .p (.string ⟨#[]⟩), .p (.bool false), .sl .own 1 []]⟩ ∧
  E.T 132 = some ⟨.strct [(0, 1, false), (1, 1, false), (2, 1, false), (3, 1, false), (4, 1, false)], 5, 56, [.p (.string ⟨#[]⟩), .p (.int .i64 0), .p (.string ⟨#[]⟩), .p (.int .i64 0), .p (.int .i64 0)]⟩ ∧
  E.T 146 = some ⟨.slc 5, 1, 24, [.sl .own 1 []]⟩ ∧
  E.T 149 = some ⟨.strct [(0, 1, false), (1, 1, false), (2, 1, false), (3, 1, false)], 4, 40, [.p (.pointer none), .p (.pointer none), .p (.pointer none), .p (.string ⟨#[]⟩)]⟩ ∧
  E.T 150 = some ⟨.strct [(0, 1, false), (1, 1, false), (2, 1, false), (3, 1, false)], 4, 40, [.p (.pointer none), .p (.pointer none), .p (.pointer none), .p (.string ⟨#[]⟩)]⟩ ∧
  E.T 155 = some ⟨.prim, 1, 4, [.p (.int .u32 0)]⟩ ∧
  E.T 156 = some ⟨.prim, 1, 1, [.p (.int .u8 0)]⟩ ∧
  E.T 157 = some ⟨.prim, 1, 1, [.p (.int .u8 0)]⟩ ∧
  E.T 159 = some ⟨.ptr 5, 1, 8, [.p (.pointer none)]⟩ ∧
  E.T 160 = some ⟨.prim, 1, 4, [.p (.int .i32 0)]⟩ ∧
  E.T 161 = some ⟨.prim, 1, 4, [.p (.int .i32 0)]⟩ := by
  refine ⟨?_, ?_, ?_, ?_, ?_, ?_, ?_, ?_, ?_, ?_, ?_, ?_, ?_, ?_, ?_, ?_, ?_, ?_, ?_, ?_, ?_, ?_, ?_, ?_, ?_, ?_, ?_, ?_, ?_, ?_, ?_, ?_, ?_, ?_, ?_, ?_, ?_, ?_, ?_, ?_, ?_, ?_, ?_, ?_, ?_, ?_, ?_, ?_, ?_, ?_, ?_, ?_, ?_, ?_, ?_, ?_, ?_, ?_, ?_, ?_, ?_, ?_, ?_, ?_, ?_, ?_⟩ <;> rfl
theorem eQ : E.eqT 93 = true := by
  rfl
theorem e124 : (E.ann 124).ext = true := rfl
theorem e2 : (E.ann 2).ext = false ∧ (E.ann 2).modes = [] ∧ (E.ann 2).keep = [] ∧ (E.ann 2).mir = [] := by
  refine ⟨?_, ?_, ?_, ?_⟩ <;> rfl
theorem e3 : (E.ann 3).ext = false ∧ (E.ann 3).modes = [] ∧ (E.ann 3).keep = [] ∧ (E.ann 3).mir = [] ∧ (E.ann 3).draws 14 = [([10], [55]), ([3], [56]), ([3, 56], [57]), ([10, 55, 57], [58]), ([58], [59])] := by
  refine ⟨?_, ?_, ?_, ?_, ?_⟩ <;> rfl
theorem e4 : (E.ann 4).ext = false ∧ (E.ann 4).modes = [] ∧ (E.ann 4).keep = [] ∧ (E.ann 4).mir = [] ∧ (E.ann 4).draws 8 = [] ∧ (E.ann 4).draws 14 = [([8], [54]), ([2], [55]), ([2, 55], [56]), ([8, 54, 56], [57]), ([57], [58])] ∧ (E.ann 4).draws 16 = [([9], [59]), ([3], [60]), ([3, 60], [61]), ([9, 59, 61], [62]), ([62], [63])] ∧ (E.ann 4).draws 31 = [] := by
  refine ⟨?_, ?_, ?_, ?_, ?_, ?_, ?_, ?_⟩ <;> rfl
theorem e5 : (E.ann 5).ext = false ∧ (E.ann 5).modes = [] ∧ (E.ann 5).keep = [] ∧ (E.ann 5).mir = [] ∧ (E.ann 5).draws 10 = [([5], [22]), ([1], [23]), ([1, 23], [24]), ([5, 22, 24], [25]), ([25], [26])] := by
  refine ⟨?_, ?_, ?_, ?_, ?_⟩ <;> rfl
theorem e6 : (E.ann 6).ext = false ∧ (E.ann 6).modes = [] ∧ (E.ann 6).keep = [] ∧ (E.ann 6).mir = [] ∧ (E.ann 6).draws 14 = [([10], [55]), ([3], [56]), ([3, 56], [57]), ([10, 55, 57], [58]), ([58], [59])] := by
  refine ⟨?_, ?_, ?_, ?_, ?_⟩ <;> rfl
theorem e7 : (E.ann 7).ext = false ∧ (E.ann 7).modes = [] ∧ (E.ann 7).keep = [] ∧ (E.ann 7).mir = [] ∧ (E.ann 7).draws 8 = [([3], [25]), ([3, 25], [26]), ([4], [27]), ([27], [28]), ([2], [29]), ([26, 28, 29], [30]), ([], [8]), ([8, 30], [8, 30])] ∧ (E.ann 7).draws 10 = [([9], [33]), ([4], [34]), ([34], [35]), ([2], [36]), ([9, 33, 35, 36], [37]), ([], [10]), ([10, 37], [10, 37])] ∧ (E.ann 7).draws 13 = [([9], [42]), ([3], [43]), ([3, 43], [44]), ([9, 42, 44], [45]), ([45], [46])] ∧ (E.ann 7).draws 27 = [([3], [69]), ([3, 69], [70]), ([4], [71]), ([71], [72]), ([2], [73]), ([70, 72, 73], [74]), ([], [14]), ([14, 74], [14, 74])] := by
  refine ⟨?_, ?_, ?_, ?_, ?_, ?_, ?_, ?_⟩ <;> rfl
theorem e8 : (E.ann 8).ext = false ∧ (E.ann 8).modes = [] ∧ (E.ann 8).keep = [] ∧ (E.ann 8).mir = [] ∧ (E.ann 8).draws 8 = [([2], [24]), ([2, 24], [25]), ([3], [26]), ([3, 26], [27]), ([25, 27], [28]), ([], [6]), ([6, 28], [6, 28])] ∧ (E.ann 8).draws 14 = [([7], [40]), ([2], [41]), ([2, 41], [42]), ([7, 40, 42], [43]), ([43], [44])] ∧ (E.ann 8).draws 16 = [([8], [45]), ([3], [46]), ([3, 46], [47]), ([8, 45, 47], [48]), ([48], [49])] ∧ (E.ann 8).draws 31 = [([2], [75]), ([2, 75], [76]), ([3], [77]), ([3, 77], [78]), ([76, 78], [79]), ([], [13]), ([13, 79], [13, 79])] := by
  refine ⟨?_, ?_, ?_, ?_, ?_, ?_, ?_, ?_⟩ <;> rfl
theorem e9 : (E.ann 9).ext = false ∧ (E.ann 9).modes = [] ∧ (E.ann 9).keep = [] ∧ (E.ann 9).mir = [] ∧ (E.ann 9).draws 10 = [([8], [45]), ([2], [46]), ([2, 46], [47]), ([8, 45, 47], [48]), ([48], [49])] := by
  refine ⟨?_, ?_, ?_, ?_, ?_⟩ <;> rfl
theorem e10 : (E.ann 10).ext = false ∧ (E.ann 10).modes = [] ∧ (E.ann 10).keep = [] ∧ (E.ann 10).mir = [] ∧ (E.ann 10).draws 10 = [([7], [31]), ([2], [32]), ([2, 32], [33]), ([7, 31, 33], [34]), ([34], [35])] := by
  refine ⟨?_, ?_, ?_, ?_, ?_⟩ <;> rfl
theorem e11 : (E.ann 11).ext = false ∧ (E.ann 11).modes = [] ∧ (E.ann 11).keep = [] ∧ (E.ann 11).mir = [] ∧ (E.ann 11).draws 8 = [] ∧ (E.ann 11).draws 14 = [([10], [58]), ([3], [59]), ([3, 59], [60]), ([10, 58, 60], [61]), ([61], [62])] ∧ (E.ann 11).draws 16 = [([11], [63]), ([4], [64]), ([4, 64], [65]), ([11, 63, 65], [66]), ([66], [67])] ∧ (E.ann 11).draws 31 = [] := by
  refine ⟨?_, ?_, ?_, ?_, ?_, ?_, ?_, ?_⟩ <;> rfl
theorem e12 : (E.ann 12).ext = false ∧ (E.ann 12).modes = [] ∧ (E.ann 12).keep = [] ∧ (E.ann 12).mir = [] := by
  refine ⟨?_, ?_, ?_, ?_⟩ <;> rfl
theorem e13 : (E.ann 13).ext = false ∧ (E.ann 13).modes = [] ∧ (E.ann 13).keep = [] ∧ (E.ann 13).mir = [] ∧ (E.ann 13).heads 0 = [1, 2, 3, 6, 8] ∧ (E.ann 13).rng 0 = none ∧ (E.ann 13).ends 0 = some [6] ∧ (E.ann 13).ends 1 = none := by
  refine ⟨?_, ?_, ?_, ?_, ?_, ?_, ?_, ?_⟩ <;> rfl
theorem e14 : (E.ann 14).ext = false ∧ (E.ann 14).modes = [] ∧ (E.ann 14).keep = [] ∧ (E.ann 14).mir = [] := by
  refine ⟨?_, ?_, ?_, ?_⟩ <;> rfl
theorem e15 : (E.ann 15).ext = false ∧ (E.ann 15).modes = [] ∧ (E.ann 15).keep = [] ∧ (E.ann 15).mir = [] := by
  refine ⟨?_, ?_, ?_, ?_⟩ <;> rfl
theorem e16 : (E.ann 16).ext = false ∧ (E.ann 16).modes = [] ∧ (E.ann 16).keep = [] ∧ (E.ann 16).mir = [] := by
  refine ⟨?_, ?_, ?_, ?_⟩ <;> rfl
theorem e17 : (E.ann 17).ext = false ∧ (E.ann 17).modes = [] ∧ (E.ann 17).keep = [] ∧ (E.ann 17).mir = [] := by
  refine ⟨?_, ?_, ?_, ?_⟩ <;> rfl
theorem e18 : (E.ann 18).ext = false ∧ (E.ann 18).modes = [.io, .shr] ∧ (E.ann 18).keep = [0] ∧ (E.ann 18).mir = [(0, 2)] := by
  refine ⟨?_, ?_, ?_, ?_⟩ <;> rfl
theorem e19 : (E.ann 19).ext = false ∧ (E.ann 19).modes = [.io, .shr] ∧ (E.ann 19).keep = [0] ∧ (E.ann 19).mir = [(0, 2)] := by
  refine ⟨?_, ?_, ?_, ?_⟩ <;> rfl
theorem e20 : (E.ann 20).ext = false ∧ (E.ann 20).modes = [] ∧ (E.ann 20).keep = [] ∧ (E.ann 20).mir = [] := by
  refine ⟨?_, ?_, ?_, ?_⟩ <;> rfl
theorem e21 : (E.ann 21).ext = false ∧ (E.ann 21).modes = [] ∧ (E.ann 21).keep = [] ∧ (E.ann 21).mir = [] := by
  refine ⟨?_, ?_, ?_, ?_⟩ <;> rfl
theorem e22 : (E.ann 22).ext = false ∧ (E.ann 22).modes = [] ∧ (E.ann 22).keep = [] ∧ (E.ann 22).mir = [] := by
  refine ⟨?_, ?_, ?_, ?_⟩ <;> rfl
theorem e23 : (E.ann 23).ext = false ∧ (E.ann 23).modes = [] ∧ (E.ann 23).keep = [] ∧ (E.ann 23).mir = [] ∧ (E.ann 23).heads 2 = [3, 4, 6, 8] ∧ (E.ann 23).heads 0 = [2, 3, 4, 6, 7] ∧ (E.ann 23).rng 0 = none ∧ (E.ann 23).ends 0 = some [2, 3, 4, 6] ∧ (E.ann 23).ends 1 = none ∧ (E.ann 23).rng 2 = none ∧ (E.ann 23).ends 2 = some [3, 4, 6] ∧ (E.ann 23).ends 3 = none ∧ (E.ann 23).draws 7 = [([3], [23]), ([3, 23], [24]), ([7], [25]), ([25], [26]), ([3, 24, 26], [27]), ([3, 27], [28]), ([3, 28], [29]), ([3], [30]), ([3, 30], [31]), ([7], [32]), ([3, 31, 32], [33]), ([3, 33], [34]), ([3, 34], [35]), ([29, 35], [36])] := by
  refine ⟨?_, ?_, ?_, ?_, ?_, ?_, ?_, ?_, ?_, ?_, ?_, ?_, ?_⟩ <;> rfl
theorem e24 : (E.ann 24).ext = false ∧ (E.ann 24).modes = [] ∧ (E.ann 24).keep = [] ∧ (E.ann 24).mir = [] := by
  refine ⟨?_, ?_, ?_, ?_⟩ <;> rfl
theorem e25 : (E.ann 25).ext = false ∧ (E.ann 25).modes = [] ∧ (E.ann 25).keep = [] ∧ (E.ann 25).mir = [] := by
  refine ⟨?_, ?_, ?_, ?_⟩ <;> rfl
theorem e26 : (E.ann 26).ext = false ∧ (E.ann 26).modes = [] ∧ (E.ann 26).keep = [] ∧ (E.ann 26).mir = [] ∧ (E.ann 26).heads 2 = [3, 4, 6, 48, 49, 50] ∧ (E.ann 26).heads 0 = [3, 4, 6, 24, 25, 26] ∧ (E.ann 26).rng 0 = none ∧ (E.ann 26).ends 0 = some [3, 4, 6] ∧ (E.ann 26).ends 1 = none ∧ (E.ann 26).rng 2 = none ∧ (E.ann 26).ends 2 = some [3, 4, 6] ∧ (E.ann 26).ends 3 = none ∧ (E.ann 26).draws 9 = [([7], [31]), ([31], [32]), ([32], [33]), ([8, 33], [34]), ([8, 33, 34], [35]), ([3, 33], [36]), ([3, 33, 36], [37]), ([7, 33], [38]), ([33, 38], [39]), ([3, 33, 37, 39], [40]), ([3, 33, 40], [41]), ([3, 33, 41], [42]), ([33, 35, 42], [43]), ([33, 43], [44])] ∧ (E.ann 26).draws 17 = [([6], [61]), ([6, 61], [62]), ([10], [63]), ([10, 63], [64]), ([10, 64], [65]), ([6, 62, 65], [6, 62, 66]), ([6], [67]), ([6, 66, 67], [6, 66, 67])] ∧ (E.ann 26).draws 18 = [([6], [68]), ([6, 68], [69]), ([10], [70]), ([10, 70], [71]), ([10, 71], [72]), ([6, 69, 72], [6, 69, 72, 73]), ([6], [74]), ([6, 73, 74], [6, 73, 74])] := by
  refine ⟨?_, ?_, ?_, ?_, ?_, ?_, ?_, ?_, ?_, ?_, ?_, ?_, ?_, ?_, ?_⟩ <;> rfl
theorem e27 : (E.ann 27).ext = false ∧ (E.ann 27).modes = [] ∧ (E.ann 27).keep = [] ∧ (E.ann 27).mir = [] := by
  refine ⟨?_, ?_, ?_, ?_⟩ <;> rfl
theorem e28 : (E.ann 28).ext = false ∧ (E.ann 28).modes = [] ∧ (E.ann 28).keep = [] ∧ (E.ann 28).mir = [] := by
  refine ⟨?_, ?_, ?_, ?_⟩ <;> rfl
theorem e29 : (E.ann 29).ext = false ∧ (E.ann 29).modes = [.io, .shr] ∧ (E.ann 29).keep = [0] ∧ (E.ann 29).mir = [(0, 2)] := by
  refine ⟨?_, ?_, ?_, ?_⟩ <;> rfl
theorem e30 : (E.ann 30).ext = false ∧ (E.ann 30).modes = [.io, .shr] ∧ (E.ann 30).keep = [0] ∧ (E.ann 30).mir = [(0, 2)] := by
  refine ⟨?_, ?_, ?_, ?_⟩ <;> rfl
theorem e31 : (E.ann 31).ext = false ∧ (E.ann 31).modes = [] ∧ (E.ann 31).keep = [] ∧ (E.ann 31).mir = [] := by
  refine ⟨?_, ?_, ?_, ?_⟩ <;> rfl
theorem e32 : (E.ann 32).ext = false ∧ (E.ann 32).modes = [] ∧ (E.ann 32).keep = [] ∧ (E.ann 32).mir = [] := by
  refine ⟨?_, ?_, ?_, ?_⟩ <;> rfl
theorem e33 : (E.ann 33).ext = false ∧ (E.ann 33).modes = [] ∧ (E.ann 33).keep = [] ∧ (E.ann 33).mir = [] ∧ (E.ann 33).heads 9 = [1, 251, 252, 253] ∧ (E.ann 33).heads 7 = [1, 7, 229] ∧ (E.ann 33).heads 5 = [1, 4, 7, 204] ∧ (E.ann 33).heads 2 = [1, 4, 7, 121, 122, 123] ∧ (E.ann 33).heads 0 = [1, 3, 4, 76, 77, 78] ∧ (E.ann 33).rng 0 = none ∧ (E.ann 33).ends 0 = some [1, 4] ∧ (E.ann 33).ends 1 = none ∧ (E.ann 33).rng 2 = none ∧ (E.ann 33).ends 2 = some [1, 4, 7] ∧ (E.ann 33).ends 3 = none ∧ (E.ann 33).ends 4 = none ∧ (E.ann 33).rng 5 = some (204, 205) ∧ (E.ann 33).ends 5 = some [1, 4, 7] ∧ (E.ann 33).ends 6 = none ∧ (E.ann 33).rng 7 = some (229, 230) ∧ (E.ann 33).ends 7 = some [1] ∧ (E.ann 33).ends 8 = none ∧ (E.ann 33).rng 9 = none ∧ (E.ann 33).ends 9 = some [] ∧ (E.ann 33).ends 10 = none ∧ (E.ann 33).draws 8 = [([6], [83]), ([1], [84]), ([1, 84], [85]), ([6, 83, 85], [86]), ([86], [87]), ([87], [88]), ([3, 88], [89]), ([6, 88], [90]), ([6, 88, 90], [91]), ([3, 88, 89, 91], [92]), ([88, 92], [93]), ([93], [94]), ([5, 94], [95]), ([94, 95], [96]), ([94, 96], [97]), ([1, 97], [98]), ([1, 97, 98], [99]), ([5, 97], [100]), ([97, 100], [101]), ([1, 97, 99, 101], [102]), ([1, 97, 102], [103]), ([1, 97, 103], [104]), ([6, 97], [105]), ([6, 97, 105], [106]), ([97, 104, 106], [107]), ([97, 107], [108]), ([94, 97, 108], [109]), ([94, 109], [110])] ∧ (E.ann 33).draws 11 = [([4], [114]), ([6], [115]), ([6, 115], [116]), ([6], [117]), ([4, 6, 114, 116, 117], [4, 114])] ∧ (E.ann 33).draws 30 = [([7], [198]), ([10], [199]), ([10, 199], [200]), ([9], [201]), ([7, 9, 198, 200, 201], [7, 198])] ∧ (E.ann 33).draws 50 = [([23], [258]), ([23, 258], [259]), ([259], [260]), ([260], [261]), ([261], [262]), ([22, 262], [263]), ([262, 263], [264]), ([262, 264], [265]), ([23, 265], [266]), ([23, 265, 266], [267]), ([1, 265], [268]), ([1, 265, 268], [269]), ([22, 265], [270]), ([265, 270], [271]), ([1, 265, 269, 271], [272]), ([1, 265, 272], [273]), ([1, 265, 273], [274]), ([265, 267, 274], [275]), ([262, 265, 275], [276]), ([262, 276], [277]), ([277], [278]), ([23, 278], [279]), ([23, 278, 279], [280]), ([278, 280], [281]), ([278, 281], [282]), ([282], [283]), ([23, 283], [284]), ([23, 283, 284], [285]), ([283, 285], [286]), ([283, 286], [287]), ([287], [288]), ([23, 288], [289]), ([23, 288, 289], [290]), ([288, 290], [291]), ([288, 291], [292]), ([288, 292], [293]), ([293], [294]), ([23, 294], [295]), ([23, 294, 295], [296]), ([294, 296], [297]), ([294, 297], [298]), ([298], [299]), ([23, 299], [300]), ([23, 299, 300], [301]), ([299, 301], [302]), ([299, 302], [303]), ([303], [304]), ([23, 304], [305]), ([23, 304, 305], [306]), ([304, 306], [307]), ([304, 307], [308]), ([308], [309]), ([23, 309], [310]), ([23, 309, 310], [311]), ([1, 309], [312]), ([1, 309, 312], [313]), ([309, 311, 313], [314]), ([309, 314], [315])] := by
  refine ⟨?_, ?_, ?_, ?_, ?_, ?_, ?_, ?_, ?_, ?_, ?_, ?_, ?_, ?_, ?_, ?_, ?_, ?_, ?_, ?_, ?_, ?_, ?_, ?_, ?_, ?_, ?_, ?_, ?_⟩ <;> rfl
theorem e34 : (E.ann 34).ext = false ∧ (E.ann 34).modes = [] ∧ (E.ann 34).keep = [] ∧ (E.ann 34).mir = [] ∧ (E.ann 34).draws 3 = [([3], [12]), ([3, 12], [13]), ([1], [14]), ([2], [15]), ([3, 13, 14, 15], [16]), ([3], [17]), ([3, 17], [18]), ([16], [6, 16]), ([18], [7])] := by
  refine ⟨?_, ?_, ?_, ?_, ?_⟩ <;> rfl
theorem e35 : (E.ann 35).ext = false ∧ (E.ann 35).modes = [] ∧ (E.ann 35).keep = [] ∧ (E.ann 35).mir = [] ∧ (E.ann 35).heads 0 = [1, 2, 3, 8, 15, 16, 17] ∧ (E.ann 35).rng 0 = none ∧ (E.ann 35).ends 0 = some [3, 8] ∧ (E.ann 35).ends 1 = none ∧ (E.ann 35).draws 10 = [([8], [31]), ([3], [32]), ([3, 32], [33]), ([8, 31], [6, 8, 31]), ([33], [7])] := by
  refine ⟨?_, ?_, ?_, ?_, ?_, ?_, ?_, ?_, ?_⟩ <;> rfl
theorem e36 : (E.ann 36).ext = false ∧ (E.ann 36).modes = [] ∧ (E.ann 36).keep = [] ∧ (E.ann 36).mir = [] ∧ (E.ann 36).heads 0 = [0, 1, 5] ∧ (E.ann 36).rng 0 = none ∧ (E.ann 36).ends 0 = some [] ∧ (E.ann 36).ends 1 = none ∧ (E.ann 36).draws 6 = [([0], [17]), ([5], [18]), ([0, 17, 18], [19]), ([0, 19], [20]), ([1], [21]), ([5], [22]), ([1, 21, 22], [23]), ([1, 23], [24]), ([0, 1, 20, 24], [25]), ([25], [26])] := by
  refine ⟨?_, ?_, ?_, ?_, ?_, ?_, ?_, ?_, ?_⟩ <;> rfl
theorem e37 : (E.ann 37).ext = false ∧ (E.ann 37).modes = [.io, .shr] ∧ (E.ann 37).keep = [0] ∧ (E.ann 37).mir = [] ∧ (E.ann 37).heads 0 = [0, 1, 5] ∧ (E.ann 37).rng 0 = none ∧ (E.ann 37).ends 0 = some [0, 1] ∧ (E.ann 37).ends 1 = none := by
  refine ⟨?_, ?_, ?_, ?_, ?_, ?_, ?_, ?_⟩ <;> rfl
theorem e38 : (E.ann 38).ext = false ∧ (E.ann 38).modes = [] ∧ (E.ann 38).keep = [] ∧ (E.ann 38).mir = [] ∧ (E.ann 38).heads 0 = [0, 1, 5] ∧ (E.ann 38).rng 0 = none ∧ (E.ann 38).ends 0 = some [1] ∧ (E.ann 38).ends 1 = none ∧ (E.ann 38).draws 4 = [([0], [12]), ([5], [13]), ([0, 12, 13], [14]), ([0, 14], [15]), ([0, 15], [16]), ([1], [17]), ([17], [18]), ([16, 18], [19])] ∧ (E.ann 38).draws 7 = [([0], [22]), ([5], [23]), ([0, 22, 23], [24]), ([0, 24], [25]), ([0, 25], [26]), ([1], [27]), ([27], [28]), ([26, 28], [29])] ∧ (E.ann 38).draws 16 = [([0], [50]), ([5], [51]), ([0, 50, 51], [52]), ([0, 52], [53]), ([0, 53], [54]), ([1], [55]), ([55], [56]), ([54, 56], [57])] := by
  refine ⟨?_, ?_, ?_, ?_, ?_, ?_, ?_, ?_, ?_, ?_, ?_⟩ <;> rfl
theorem e39 : (E.ann 39).ext = false ∧ (E.ann 39).modes = [] ∧ (E.ann 39).keep = [] ∧ (E.ann 39).mir = [] := by
  refine ⟨?_, ?_, ?_, ?_⟩ <;> rfl
theorem e40 : (E.ann 40).ext = false ∧ (E.ann 40).modes = [] ∧ (E.ann 40).keep = [] ∧ (E.ann 40).mir = [] := by
  refine ⟨?_, ?_, ?_, ?_⟩ <;> rfl
theorem e41 : (E.ann 41).ext = false ∧ (E.ann 41).modes = [] ∧ (E.ann 41).keep = [] ∧ (E.ann 41).mir = [] := by
  refine ⟨?_, ?_, ?_, ?_⟩ <;> rfl
theorem e42 : (E.ann 42).ext = false ∧ (E.ann 42).modes = [] ∧ (E.ann 42).keep = [] ∧ (E.ann 42).mir = [] ∧ (E.ann 42).heads 0 = [2, 3, 4, 6, 7, 40, 41, 42] ∧ (E.ann 42).rng 0 = none ∧ (E.ann 42).ends 0 = some [6, 7] ∧ (E.ann 42).ends 1 = none := by
  refine ⟨?_, ?_, ?_, ?_, ?_, ?_, ?_, ?_⟩ <;> rfl
theorem e43 : (E.ann 43).ext = false ∧ (E.ann 43).modes = [] ∧ (E.ann 43).keep = [] ∧ (E.ann 43).mir = [] := by
  refine ⟨?_, ?_, ?_, ?_⟩ <;> rfl
theorem e44 : (E.ann 44).ext = false ∧ (E.ann 44).modes = [] ∧ (E.ann 44).keep = [] ∧ (E.ann 44).mir = [] := by
  refine ⟨?_, ?_, ?_, ?_⟩ <;> rfl
theorem e45 : (E.ann 45).ext = false ∧ (E.ann 45).modes = [] ∧ (E.ann 45).keep = [] ∧ (E.ann 45).mir = [] := by
  refine ⟨?_, ?_, ?_, ?_⟩ <;> rfl
theorem e46 : (E.ann 46).ext = false ∧ (E.ann 46).modes = [] ∧ (E.ann 46).keep = [] ∧ (E.ann 46).mir = [] ∧ (E.ann 46).heads 2 = [1, 2, 6, 7, 9] ∧ (E.ann 46).heads 0 = [1, 2, 6, 7, 8] ∧ (E.ann 46).rng 0 = none ∧ (E.ann 46).ends 0 = some [1, 2, 6, 7] ∧ (E.ann 46).ends 1 = none ∧ (E.ann 46).rng 2 = none ∧ (E.ann 46).ends 2 = some [6, 7] ∧ (E.ann 46).ends 3 = none ∧ (E.ann 46).draws 8 = [([2], [32]), ([2, 32], [33]), ([8], [34]), ([2, 33, 34], [35]), ([2, 35], [36]), ([2, 36], [37]), ([2], [38]), ([2, 38], [39]), ([37, 39], [40])] := by
  refine ⟨?_, ?_, ?_, ?_, ?_, ?_, ?_, ?_, ?_, ?_, ?_, ?_, ?_⟩ <;> rfl
theorem e47 : (E.ann 47).ext = false ∧ (E.ann 47).modes = [] ∧ (E.ann 47).keep = [] ∧ (E.ann 47).mir = [] ∧ (E.ann 47).heads 2 = [2, 6, 7, 79, 80, 81] ∧ (E.ann 47).heads 0 = [1, 2, 6, 7, 8, 31, 32, 33] ∧ (E.ann 47).rng 0 = none ∧ (E.ann 47).ends 0 = some [2, 6, 7] ∧ (E.ann 47).ends 1 = none ∧ (E.ann 47).rng 2 = none ∧ (E.ann 47).ends 2 = some [6, 7] ∧ (E.ann 47).ends 3 = none := by
  refine ⟨?_, ?_, ?_, ?_, ?_, ?_, ?_, ?_, ?_, ?_, ?_, ?_⟩ <;> rfl
theorem e48 : (E.ann 48).ext = false ∧ (E.ann 48).modes = [] ∧ (E.ann 48).keep = [] ∧ (E.ann 48).mir = [] ∧ (E.ann 48).heads 0 = [1, 4, 5] ∧ (E.ann 48).rng 0 = none ∧ (E.ann 48).ends 0 = some [4, 5] ∧ (E.ann 48).ends 1 = none := by
  refine ⟨?_, ?_, ?_, ?_, ?_, ?_, ?_, ?_⟩ <;> rfl
theorem e49 : (E.ann 49).ext = false ∧ (E.ann 49).modes = [] ∧ (E.ann 49).keep = [] ∧ (E.ann 49).mir = [] := by
  refine ⟨?_, ?_, ?_, ?_⟩ <;> rfl
theorem e50 : (E.ann 50).ext = false ∧ (E.ann 50).modes = [] ∧ (E.ann 50).keep = [] ∧ (E.ann 50).mir = [] := by
  refine ⟨?_, ?_, ?_, ?_⟩ <;> rfl
theorem e51 : (E.ann 51).ext = false ∧ (E.ann 51).modes = [] ∧ (E.ann 51).keep = [] ∧ (E.ann 51).mir = [] := by
  refine ⟨?_, ?_, ?_, ?_⟩ <;> rfl
theorem e52 : (E.ann 52).ext = false ∧ (E.ann 52).modes = [] ∧ (E.ann 52).keep = [] ∧ (E.ann 52).mir = [] ∧ (E.ann 52).ends 0 = none := by
  refine ⟨?_, ?_, ?_, ?_, ?_⟩ <;> rfl
theorem e53 : (E.ann 53).ext = false ∧ (E.ann 53).modes = [] ∧ (E.ann 53).keep = [] ∧ (E.ann 53).mir = [] ∧ (E.ann 53).heads 0 = [0, 1, 5] ∧ (E.ann 53).rng 0 = none ∧ (E.ann 53).ends 0 = some [1] ∧ (E.ann 53).ends 1 = none := by
  refine ⟨?_, ?_, ?_, ?_, ?_, ?_, ?_, ?_⟩ <;> rfl
theorem e54 : (E.ann 54).ext = false ∧ (E.ann 54).modes = [] ∧ (E.ann 54).keep = [] ∧ (E.ann 54).mir = [] ∧ (E.ann 54).heads 0 = [0, 1, 5] ∧ (E.ann 54).rng 0 = none ∧ (E.ann 54).ends 0 = some [1] ∧ (E.ann 54).ends 1 = none := by
  refine ⟨?_, ?_, ?_, ?_, ?_, ?_, ?_, ?_⟩ <;> rfl
theorem e55 : (E.ann 55).ext = false ∧ (E.ann 55).modes = [] ∧ (E.ann 55).keep = [] ∧ (E.ann 55).mir = [] ∧ (E.ann 55).heads 0 = [0, 1, 5] ∧ (E.ann 55).rng 0 = none ∧ (E.ann 55).ends 0 = some [1] ∧ (E.ann 55).ends 1 = none := by
  refine ⟨?_, ?_, ?_, ?_, ?_, ?_, ?_, ?_⟩ <;> rfl
theorem e56 : (E.ann 56).ext = false ∧ (E.ann 56).modes = [] ∧ (E.ann 56).keep = [] ∧ (E.ann 56).mir = [] := by
  refine ⟨?_, ?_, ?_, ?_⟩ <;> rfl
theorem e57 : (E.ann 57).ext = false ∧ (E.ann 57).modes = [] ∧ (E.ann 57).keep = [] ∧ (E.ann 57).mir = [] ∧ (E.ann 57).heads 0 = [0, 3, 4] ∧ (E.ann 57).rng 0 = none ∧ (E.ann 57).ends 0 = some [3] ∧ (E.ann 57).ends 1 = none := by
  refine ⟨?_, ?_, ?_, ?_, ?_, ?_, ?_, ?_⟩ <;> rfl
theorem e58 : (E.ann 58).ext = false ∧ (E.ann 58).modes = [] ∧ (E.ann 58).keep = [] ∧ (E.ann 58).mir = [] ∧ (E.ann 58).heads 0 = [0, 3, 4] ∧ (E.ann 58).rng 0 = none ∧ (E.ann 58).ends 0 = some [3] ∧ (E.ann 58).ends 1 = none := by
  refine ⟨?_, ?_, ?_, ?_, ?_, ?_, ?_, ?_⟩ <;> rfl
theorem e59 : (E.ann 59).ext = false ∧ (E.ann 59).modes = [] ∧ (E.ann 59).keep = [] ∧ (E.ann 59).mir = [] ∧ (E.ann 59).heads 0 = [0, 3, 4] ∧ (E.ann 59).rng 0 = none ∧ (E.ann 59).ends 0 = some [3] ∧ (E.ann 59).ends 1 = none := by
  refine ⟨?_, ?_, ?_, ?_, ?_, ?_, ?_, ?_⟩ <;> rfl
theorem e60 : (E.ann 60).ext = false ∧ (E.ann 60).modes = [] ∧ (E.ann 60).keep = [] ∧ (E.ann 60).mir = [] := by
  refine ⟨?_, ?_, ?_, ?_⟩ <;> rfl
theorem e61 : (E.ann 61).ext = false ∧ (E.ann 61).modes = [] ∧ (E.ann 61).keep = [] ∧ (E.ann 61).mir = [] := by
  refine ⟨?_, ?_, ?_, ?_⟩ <;> rfl
theorem e62 : (E.ann 62).ext = false ∧ (E.ann 62).modes = [] ∧ (E.ann 62).keep = [] ∧ (E.ann 62).mir = [] ∧ (E.ann 62).heads 0 = [0, 1, 5] ∧ (E.ann 62).rng 0 = none ∧ (E.ann 62).ends 0 = some [] ∧ (E.ann 62).ends 1 = none ∧ (E.ann 62).draws 6 = [([0], [17]), ([5], [18]), ([0, 17, 18], [19]), ([0, 19], [20]), ([1], [21]), ([5], [22]), ([1, 21, 22], [23]), ([1, 23], [24]), ([20, 24], [25])] := by
  refine ⟨?_, ?_, ?_, ?_, ?_, ?_, ?_, ?_, ?_⟩ <;> rfl
theorem e63 : (E.ann 63).ext = false ∧ (E.ann 63).modes = [] ∧ (E.ann 63).keep = [] ∧ (E.ann 63).mir = [] ∧ (E.ann 63).heads 0 = [0, 1, 5] ∧ (E.ann 63).rng 0 = none ∧ (E.ann 63).ends 0 = some [] ∧ (E.ann 63).ends 1 = none ∧ (E.ann 63).draws 6 = [([0], [17]), ([5], [18]), ([0, 17, 18], [19]), ([0, 19], [20]), ([1], [21]), ([5], [22]), ([1, 21, 22], [23]), ([1, 23], [24]), ([0, 1, 20, 24], [25]), ([25], [26])] := by
  refine ⟨?_, ?_, ?_, ?_, ?_, ?_, ?_, ?_, ?_⟩ <;> rfl
theorem e64 : (E.ann 64).ext = false ∧ (E.ann 64).modes = [] ∧ (E.ann 64).keep = [] ∧ (E.ann 64).mir = [] ∧ (E.ann 64).heads 0 = [0, 1, 5] ∧ (E.ann 64).rng 0 = none ∧ (E.ann 64).ends 0 = some [] ∧ (E.ann 64).ends 1 = none ∧ (E.ann 64).draws 6 = [([0], [17]), ([5], [18]), ([0, 17, 18], [19]), ([0, 19], [20]), ([1], [21]), ([5], [22]), ([1, 21, 22], [23]), ([1, 23], [24]), ([20, 24], [25]), ([25], [26])] := by
  refine ⟨?_, ?_, ?_, ?_, ?_, ?_, ?_, ?_, ?_⟩ <;> rfl
theorem e65 : (E.ann 65).ext = false ∧ (E.ann 65).modes = [.io, .shr] ∧ (E.ann 65).keep = [0] ∧ (E.ann 65).mir = [] ∧ (E.ann 65).heads 0 = [0, 1, 5] ∧ (E.ann 65).rng 0 = none ∧ (E.ann 65).ends 0 = some [0, 1] ∧ (E.ann 65).ends 1 = none := by
  refine ⟨?_, ?_, ?_, ?_, ?_, ?_, ?_, ?_⟩ <;> rfl
theorem e66 : (E.ann 66).ext = false ∧ (E.ann 66).modes = [.io, .shr] ∧ (E.ann 66).keep = [0] ∧ (E.ann 66).mir = [] ∧ (E.ann 66).heads 0 = [0, 1, 5] ∧ (E.ann 66).rng 0 = none ∧ (E.ann 66).ends 0 = some [0, 1] ∧ (E.ann 66).ends 1 = none := by
  refine ⟨?_, ?_, ?_, ?_, ?_, ?_, ?_, ?_⟩ <;> rfl
theorem e67 : (E.ann 67).ext = false ∧ (E.ann 67).modes = [.io, .shr] ∧ (E.ann 67).keep = [0] ∧ (E.ann 67).mir = [] ∧ (E.ann 67).heads 0 = [0, 1, 5] ∧ (E.ann 67).rng 0 = none ∧ (E.ann 67).ends 0 = some [0, 1] ∧ (E.ann 67).ends 1 = none := by
  refine ⟨?_, ?_, ?_, ?_, ?_, ?_, ?_, ?_⟩ <;> rfl
theorem e68 : (E.ann 68).ext = false ∧ (E.ann 68).modes = [] ∧ (E.ann 68).keep = [] ∧ (E.ann 68).mir = [] ∧ (E.ann 68).heads 0 = [0, 1, 5] ∧ (E.ann 68).rng 0 = none ∧ (E.ann 68).ends 0 = some [1] ∧ (E.ann 68).ends 1 = none ∧ (E.ann 68).draws 4 = [([0], [12]), ([5], [13]), ([0, 12, 13], [14]), ([0, 14], [15]), ([1], [16]), ([16], [17]), ([15, 17], [18])] := by
  refine ⟨?_, ?_, ?_, ?_, ?_, ?_, ?_, ?_, ?_⟩ <;> rfl
theorem e69 : (E.ann 69).ext = false ∧ (E.ann 69).modes = [] ∧ (E.ann 69).keep = [] ∧ (E.ann 69).mir = [] := by
  refine ⟨?_, ?_, ?_, ?_⟩ <;> rfl
theorem e70 : (E.ann 70).ext = false ∧ (E.ann 70).modes = [] ∧ (E.ann 70).keep = [] ∧ (E.ann 70).mir = [] ∧ (E.ann 70).heads 0 = [0, 3, 5, 6, 7] ∧ (E.ann 70).rng 0 = none ∧ (E.ann 70).ends 0 = some [3, 5, 6] ∧ (E.ann 70).ends 1 = none ∧ (E.ann 70).draws 6 = [([0], [18]), ([7], [19]), ([0, 18, 19], [20]), ([0, 20], [21]), ([3], [22]), ([3, 22], [23]), ([0, 3, 21, 23], [24]), ([24], [8])] := by
  refine ⟨?_, ?_, ?_, ?_, ?_, ?_, ?_, ?_, ?_⟩ <;> rfl
theorem e71 : (E.ann 71).ext = false ∧ (E.ann 71).modes = [] ∧ (E.ann 71).keep = [] ∧ (E.ann 71).mir = [] := by
  refine ⟨?_, ?_, ?_, ?_⟩ <;> rfl
theorem e72 : (E.ann 72).ext = false ∧ (E.ann 72).modes = [.mv, .shr] ∧ (E.ann 72).keep = [] ∧ (E.ann 72).mir = [] := by
  refine ⟨?_, ?_, ?_, ?_⟩ <;> rfl
theorem e73 : (E.ann 73).ext = false ∧ (E.ann 73).modes = [] ∧ (E.ann 73).keep = [] ∧ (E.ann 73).mir = [] := by
  refine ⟨?_, ?_, ?_, ?_⟩ <;> rfl
theorem e74 : (E.ann 74).ext = false ∧ (E.ann 74).modes = [.mv, .mv] ∧ (E.ann 74).keep = [] ∧ (E.ann 74).mir = [] ∧ (E.ann 74).heads 0 = [0, 3, 5, 6, 7, 19, 20, 21] ∧ (E.ann 74).rng 0 = none ∧ (E.ann 74).ends 0 = some [0, 3, 6, 7] ∧ (E.ann 74).ends 1 = none ∧ (E.ann 74).draws 11 = [([9], [33]), ([9, 33], [34]), ([5], [35]), ([34, 35], [36])] := by
  refine ⟨?_, ?_, ?_, ?_, ?_, ?_, ?_, ?_, ?_⟩ <;> rfl
theorem e75 : (E.ann 75).ext = false ∧ (E.ann 75).modes = [] ∧ (E.ann 75).keep = [] ∧ (E.ann 75).mir = [] := by
  refine ⟨?_, ?_, ?_, ?_⟩ <;> rfl
theorem e76 : (E.ann 76).ext = false ∧ (E.ann 76).modes = [] ∧ (E.ann 76).keep = [] ∧ (E.ann 76).mir = [] ∧ (E.ann 76).heads 2 = [1, 3, 4, 5] ∧ (E.ann 76).heads 0 = [1, 3] ∧ (E.ann 76).rng 0 = none ∧ (E.ann 76).ends 0 = some [] ∧ (E.ann 76).ends 1 = none ∧ (E.ann 76).rng 2 = none ∧ (E.ann 76).ends 2 = some [1, 3] ∧ (E.ann 76).ends 3 = none ∧ (E.ann 76).draws 7 = [([4], [22]), ([1], [23]), ([1, 23], [24]), ([4, 22, 24], [25]), ([25], [26]), ([26], [27]), ([4, 27], [28]), ([4, 27, 28], [29]), ([27, 29], [30]), ([4, 30], [31]), ([4, 30, 31], [32]), ([4, 30, 32], [33]), ([30, 33], [34]), ([27, 30, 34], [35]), ([27, 35], [36]), ([36], [37]), ([3, 37], [38]), ([37, 38], [39]), ([37, 39], [40]), ([1, 40], [41]), ([1, 40, 41], [42]), ([3, 40], [43]), ([40, 43], [44]), ([1, 40, 42, 44], [45]), ([1, 40, 45], [46]), ([4, 40], [47]), ([1, 4, 40, 46, 47], [48]), ([40, 48], [49]), ([37, 40, 49], [50]), ([37, 50], [51])] ∧ (E.ann 76).draws 12 = [([1], [57]), ([1, 57], [58]), ([5], [59]), ([1, 58, 59], [60]), ([1, 60], [61]), ([1, 61], [62]), ([4], [63]), ([4, 63], [64]), ([62, 64], [65])] := by
  refine ⟨?_, ?_, ?_, ?_, ?_, ?_, ?_, ?_, ?_, ?_, ?_, ?_, ?_, ?_⟩ <;> rfl
theorem e77 : (E.ann 77).ext = false ∧ (E.ann 77).modes = [] ∧ (E.ann 77).keep = [] ∧ (E.ann 77).mir = [] ∧ (E.ann 77).heads 4 = [1, 9] ∧ (E.ann 77).heads 2 = [1, 7] ∧ (E.ann 77).heads 0 = [1, 3] ∧ (E.ann 77).rng 0 = none ∧ (E.ann 77).ends 0 = some [1] ∧ (E.ann 77).ends 1 = none ∧ (E.ann 77).rng 2 = none ∧ (E.ann 77).ends 2 = some [1] ∧ (E.ann 77).ends 3 = none ∧ (E.ann 77).rng 4 = none ∧ (E.ann 77).ends 4 = some [] ∧ (E.ann 77).ends 5 = none ∧ (E.ann 77).draws 16 = [([4], [116]), ([4, 116], [117]), ([1], [118]), ([1, 118], [119]), ([6], [120]), ([1, 119, 120], [121]), ([1, 121], [122]), ([1, 122], [123]), ([117, 123], [124]), ([124], [125]), ([4, 125], [126]), ([4, 125, 126], [127]), ([125, 127], [128]), ([125, 128], [129]), ([5, 129], [130]), ([5, 129, 130], [131]), ([1, 129], [132]), ([1, 129, 132], [133]), ([6, 129], [134]), ([1, 129, 133, 134], [135]), ([1, 129, 135], [136]), ([1, 129, 136], [137]), ([1, 129, 137], [138]), ([129, 131, 138], [139]), ([125, 129, 139], [140]), ([125, 140], [141])] ∧ (E.ann 77).draws 21 = [([1], [149]), ([1, 149], [150]), ([1], [151]), ([1, 151], [152]), ([7], [153]), ([1, 152, 153], [154]), ([1, 154], [155]), ([1], [156]), ([1, 156], [157]), ([1, 157], [158]), ([1, 150, 155, 158], [159]), ([159], [8])] ∧ (E.ann 77).draws 22 = [([8], [160]), ([160], [161]), ([161], [162]), ([1, 162], [163]), ([1, 162, 163], [164]), ([8, 162], [165]), ([1, 162, 164, 165], [166]), ([1, 162, 166], [167]), ([1, 162, 167], [168]), ([162, 168], [169]), ([1, 169], [170]), ([1, 169, 170], [171]), ([8, 169], [172]), ([1, 169, 171, 172], [173]), ([1, 169, 173], [174]), ([1, 169, 174], [175]), ([1, 169], [176]), ([1, 169, 176], [177]), ([7, 169], [178]), ([1, 169, 177, 178], [179]), ([1, 169, 179], [180]), ([1, 169, 175, 180], [181]), ([169, 181], [182]), ([162, 169, 182], [183]), ([162, 183], [184]), ([184], [185]), ([8, 185], [186]), ([185, 186], [187]), ([185, 187], [188]), ([1, 188], [189]), ([1, 188, 189], [190]), ([7, 188], [191]), ([1, 188, 190, 191], [192]), ([1, 188, 192], [193]), ([1, 188, 193], [194]), ([1, 188], [195]), ([1, 188, 195], [196]), ([188, 194, 196], [197]), ([185, 188, 197], [198]), ([185, 198], [199])] := by
  refine ⟨?_, ?_, ?_, ?_, ?_, ?_, ?_, ?_, ?_, ?_, ?_, ?_, ?_, ?_, ?_, ?_, ?_, ?_, ?_⟩ <;> rfl
theorem e78 : (E.ann 78).ext = false ∧ (E.ann 78).modes = [] ∧ (E.ann 78).keep = [] ∧ (E.ann 78).mir = [] ∧ (E.ann 78).heads 0 = [1, 3] ∧ (E.ann 78).rng 0 = none ∧ (E.ann 78).ends 0 = some [] ∧ (E.ann 78).ends 1 = none ∧ (E.ann 78).draws 7 = [([4], [21]), ([4, 21], [22]), ([22], [23]), ([23], [24]), ([24], [25]), ([3, 25], [26]), ([25, 26], [27]), ([25, 27], [28]), ([1, 28], [29]), ([1, 28, 29], [30]), ([3, 28], [31]), ([28, 31], [32]), ([1, 28, 30, 32], [33]), ([1, 28, 33], [34]), ([1, 28, 34], [35]), ([4, 28], [36]), ([4, 28, 36], [37]), ([28, 35, 37], [38]), ([25, 28, 38], [39]), ([25, 39], [40]), ([40], [41]), ([4, 41], [42]), ([4, 41, 42], [43]), ([41, 43], [44]), ([41, 44], [45]), ([41, 45], [46]), ([46], [47]), ([4, 47], [48]), ([4, 47, 48], [49]), ([47, 49], [50]), ([47, 50], [51]), ([47, 51], [52]), ([52], [53]), ([4, 53], [54]), ([4, 53, 54], [55]), ([53, 55], [56]), ([53, 56], [57]), ([53, 57], [58]), ([58], [59]), ([4, 59], [60]), ([4, 59, 60], [61]), ([1, 59], [62]), ([1, 59, 62], [63]), ([59, 61, 63], [64]), ([59, 64], [65]), ([59, 65], [66])] := by
  refine ⟨?_, ?_, ?_, ?_, ?_, ?_, ?_, ?_, ?_⟩ <;> rfl
theorem e79 : (E.ann 79).ext = false ∧ (E.ann 79).modes = [] ∧ (E.ann 79).keep = [] ∧ (E.ann 79).mir = [] := by
  refine ⟨?_, ?_, ?_, ?_⟩ <;> rfl
theorem e80 : (E.ann 80).ext = false ∧ (E.ann 80).modes = [] ∧ (E.ann 80).keep = [] ∧ (E.ann 80).mir = [] := by
  refine ⟨?_, ?_, ?_, ?_⟩ <;> rfl
theorem e81 : (E.ann 81).ext = false ∧ (E.ann 81).modes = [] ∧ (E.ann 81).keep = [] ∧ (E.ann 81).mir = [] := by
  refine ⟨?_, ?_, ?_, ?_⟩ <;> rfl
theorem e82 : (E.ann 82).ext = false ∧ (E.ann 82).modes = [] ∧ (E.ann 82).keep = [] ∧ (E.ann 82).mir = [] ∧ (E.ann 82).heads 0 = [0, 14, 15] ∧ (E.ann 82).rng 0 = none ∧ (E.ann 82).ends 0 = some [] ∧ (E.ann 82).ends 1 = none := by
  refine ⟨?_, ?_, ?_, ?_, ?_, ?_, ?_, ?_⟩ <;> rfl
theorem e83 : (E.ann 83).ext = false ∧ (E.ann 83).modes = [] ∧ (E.ann 83).keep = [] ∧ (E.ann 83).mir = [] ∧ (E.ann 83).heads 0 = [0, 1, 2, 7, 8] ∧ (E.ann 83).rng 0 = none ∧ (E.ann 83).ends 0 = some [7] ∧ (E.ann 83).ends 1 = none := by
  refine ⟨?_, ?_, ?_, ?_, ?_, ?_, ?_, ?_⟩ <;> rfl
theorem e84 : (E.ann 84).ext = false ∧ (E.ann 84).modes = [] ∧ (E.ann 84).keep = [] ∧ (E.ann 84).mir = [] := by
  refine ⟨?_, ?_, ?_, ?_⟩ <;> rfl
theorem e85 : (E.ann 85).ext = false ∧ (E.ann 85).modes = [] ∧ (E.ann 85).keep = [] ∧ (E.ann 85).mir = [] ∧ (E.ann 85).heads 0 = [0, 3] ∧ (E.ann 85).rng 0 = none ∧ (E.ann 85).ends 0 = some [3] ∧ (E.ann 85).ends 1 = none := by
  refine ⟨?_, ?_, ?_, ?_, ?_, ?_, ?_, ?_⟩ <;> rfl
theorem e86 : (E.ann 86).ext = false ∧ (E.ann 86).modes = [] ∧ (E.ann 86).keep = [] ∧ (E.ann 86).mir = [] ∧ (E.ann 86).heads 0 = [2, 3, 4, 6, 7, 8] ∧ (E.ann 86).rng 0 = none ∧ (E.ann 86).ends 0 = some [6, 7] ∧ (E.ann 86).ends 1 = none := by
  refine ⟨?_, ?_, ?_, ?_, ?_, ?_, ?_, ?_⟩ <;> rfl
theorem e87 : (E.ann 87).ext = false ∧ (E.ann 87).modes = [] ∧ (E.ann 87).keep = [] ∧ (E.ann 87).mir = [] ∧ (E.ann 87).heads 0 = [0, 1, 5] ∧ (E.ann 87).rng 0 = none ∧ (E.ann 87).ends 0 = some [1] ∧ (E.ann 87).ends 1 = none ∧ (E.ann 87).draws 10 = [([0], [32]), ([5], [33]), ([0, 32, 33], [34]), ([0, 34], [35]), ([0, 35], [36]), ([0, 36], [37]), ([1], [38]), ([38], [39]), ([37, 39], [40])] ∧ (E.ann 87).draws 13 = [([0], [43]), ([5], [44]), ([0, 43, 44], [45]), ([0, 45], [46]), ([0, 46], [47]), ([0, 47], [48]), ([1], [49]), ([49], [50]), ([48, 50], [51])] ∧ (E.ann 87).draws 22 = [([0], [74]), ([5], [75]), ([0, 74, 75], [76]), ([0, 76], [77]), ([0, 77], [78]), ([0, 78], [79]), ([1], [80]), ([80], [81]), ([79, 81], [82])] := by
  refine ⟨?_, ?_, ?_, ?_, ?_, ?_, ?_, ?_, ?_, ?_, ?_⟩ <;> rfl
theorem e88 : (E.ann 88).ext = false ∧ (E.ann 88).modes = [] ∧ (E.ann 88).keep = [] ∧ (E.ann 88).mir = [] ∧ (E.ann 88).heads 0 = [0, 4, 7] ∧ (E.ann 88).rng 0 = none ∧ (E.ann 88).ends 0 = some [] ∧ (E.ann 88).ends 1 = none ∧ (E.ann 88).draws 4 = [([0], [14]), ([7], [15]), ([0, 14, 15], [16]), ([0, 16], [17]), ([0, 17], [18]), ([4], [19]), ([0, 4, 18, 19], [20]), ([20], [21])] := by
  refine ⟨?_, ?_, ?_, ?_, ?_, ?_, ?_, ?_, ?_⟩ <;> rfl
theorem e89 : (E.ann 89).ext = false ∧ (E.ann 89).modes = [] ∧ (E.ann 89).keep = [] ∧ (E.ann 89).mir = [] := by
  refine ⟨?_, ?_, ?_, ?_⟩ <;> rfl
theorem e90 : (E.ann 90).ext = false ∧ (E.ann 90).modes = [] ∧ (E.ann 90).keep = [] ∧ (E.ann 90).mir = [] ∧ (E.ann 90).heads 0 = [0, 3, 4] ∧ (E.ann 90).rng 0 = none ∧ (E.ann 90).ends 0 = some [3] ∧ (E.ann 90).ends 1 = none := by
  refine ⟨?_, ?_, ?_, ?_, ?_, ?_, ?_, ?_⟩ <;> rfl
theorem e91 : (E.ann 91).ext = false ∧ (E.ann 91).modes = [] ∧ (E.ann 91).keep = [] ∧ (E.ann 91).mir = [] ∧ (E.ann 91).draws 1 = [([1], [3]), ([1, 3], [4]), ([1], [5]), ([1, 5], [6]), ([1], [7]), ([1, 7], [8]), ([1, 8], [9]), ([1], [10]), ([1, 10], [11]), ([1, 11], [12]), ([], [13]), ([1], [14]), ([1, 14], [15]), ([1, 13, 15], [13, 16]), ([4, 6, 9, 12, 16], [4, 6, 9, 12, 16, 17]), ([2, 17], [2, 17])] := by
  refine ⟨?_, ?_, ?_, ?_, ?_⟩ <;> rfl
theorem e92 : (E.ann 92).ext = false ∧ (E.ann 92).modes = [] ∧ (E.ann 92).keep = [] ∧ (E.ann 92).mir = [] := by
  refine ⟨?_, ?_, ?_, ?_⟩ <;> rfl
theorem e93 : (E.ann 93).ext = false ∧ (E.ann 93).modes = [] ∧ (E.ann 93).keep = [] ∧ (E.ann 93).mir = [] ∧ (E.ann 93).heads 0 = [0, 3, 6, 7, 8] ∧ (E.ann 93).rng 0 = none ∧ (E.ann 93).ends 0 = some [3] ∧ (E.ann 93).ends 1 = none := by
  refine ⟨?_, ?_, ?_, ?_, ?_, ?_, ?_, ?_⟩ <;> rfl
theorem e94 : (E.ann 94).ext = false ∧ (E.ann 94).modes = [] ∧ (E.ann 94).keep = [] ∧ (E.ann 94).mir = [] ∧ (E.ann 94).heads 0 = [0, 1, 5] ∧ (E.ann 94).rng 0 = none ∧ (E.ann 94).ends 0 = some [1] ∧ (E.ann 94).ends 1 = none ∧ (E.ann 94).draws 4 = [([0], [12]), ([5], [13]), ([0, 12, 13], [14]), ([0, 14], [15]), ([0, 15], [16]), ([1], [17]), ([17], [18]), ([16, 18], [19])] ∧ (E.ann 94).draws 10 = [([0], [31]), ([5], [32]), ([0, 31, 32], [33]), ([0, 33], [34]), ([0, 34], [35]), ([1], [36]), ([36], [37]), ([35, 37], [38])] := by
  refine ⟨?_, ?_, ?_, ?_, ?_, ?_, ?_, ?_, ?_, ?_⟩ <;> rfl
theorem e95 : (E.ann 95).ext = false ∧ (E.ann 95).modes = [] ∧ (E.ann 95).keep = [] ∧ (E.ann 95).mir = [] := by
  refine ⟨?_, ?_, ?_, ?_⟩ <;> rfl
theorem e96 : (E.ann 96).ext = false ∧ (E.ann 96).modes = [] ∧ (E.ann 96).keep = [] ∧ (E.ann 96).mir = [] := by
  refine ⟨?_, ?_, ?_, ?_⟩ <;> rfl
theorem e97 : (E.ann 97).ext = false ∧ (E.ann 97).modes = [] ∧ (E.ann 97).keep = [] ∧ (E.ann 97).mir = [] := by
  refine ⟨?_, ?_, ?_, ?_⟩ <;> rfl
theorem e98 : (E.ann 98).ext = false ∧ (E.ann 98).modes = [] ∧ (E.ann 98).keep = [] ∧ (E.ann 98).mir = [] := by
  refine ⟨?_, ?_, ?_, ?_⟩ <;> rfl
theorem e99 : (E.ann 99).ext = false ∧ (E.ann 99).modes = [] ∧ (E.ann 99).keep = [] ∧ (E.ann 99).mir = [] := by
  refine ⟨?_, ?_, ?_, ?_⟩ <;> rfl
theorem e100 : (E.ann 100).ext = false ∧ (E.ann 100).modes = [] ∧ (E.ann 100).keep = [] ∧ (E.ann 100).mir = [] := by
  refine ⟨?_, ?_, ?_, ?_⟩ <;> rfl
theorem e101 : (E.ann 101).ext = false ∧ (E.ann 101).modes = [] ∧ (E.ann 101).keep = [] ∧ (E.ann 101).mir = [] ∧ (E.ann 101).heads 0 = [0, 1, 7, 8] ∧ (E.ann 101).rng 0 = none ∧ (E.ann 101).ends 0 = some [] ∧ (E.ann 101).ends 1 = none := by
  refine ⟨?_, ?_, ?_, ?_, ?_, ?_, ?_, ?_⟩ <;> rfl
theorem e102 : (E.ann 102).ext = false ∧ (E.ann 102).modes = [] ∧ (E.ann 102).keep = [] ∧ (E.ann 102).mir = [] ∧ (E.ann 102).draws 1 = [([2], [4]), ([2, 4], [5]), ([1], [6]), ([5, 6], [7]), ([7], [3])] := by
  refine ⟨?_, ?_, ?_, ?_, ?_⟩ <;> rfl
theorem e103 : (E.ann 103).ext = false ∧ (E.ann 103).modes = [] ∧ (E.ann 103).keep = [] ∧ (E.ann 103).mir = [] := by
  refine ⟨?_, ?_, ?_, ?_⟩ <;> rfl
theorem e104 : (E.ann 104).ext = false ∧ (E.ann 104).modes = [] ∧ (E.ann 104).keep = [] ∧ (E.ann 104).mir = [] := by
  refine ⟨?_, ?_, ?_, ?_⟩ <;> rfl
theorem e105 : (E.ann 105).ext = false ∧ (E.ann 105).modes = [] ∧ (E.ann 105).keep = [] ∧ (E.ann 105).mir = [] ∧ (E.ann 105).ends 0 = none := by
  refine ⟨?_, ?_, ?_, ?_, ?_⟩ <;> rfl
theorem e106 : (E.ann 106).ext = false ∧ (E.ann 106).modes = [] ∧ (E.ann 106).keep = [] ∧ (E.ann 106).mir = [] ∧ (E.ann 106).heads 0 = [0, 3, 6, 7, 8] ∧ (E.ann 106).rng 0 = none ∧ (E.ann 106).ends 0 = some [3] ∧ (E.ann 106).ends 1 = none := by
  refine ⟨?_, ?_, ?_, ?_, ?_, ?_, ?_, ?_⟩ <;> rfl
theorem e107 : (E.ann 107).ext = false ∧ (E.ann 107).modes = [.mv, .shr] ∧ (E.ann 107).keep = [] ∧ (E.ann 107).mir = [] ∧ (E.ann 107).heads 0 = [0, 1, 5, 6] ∧ (E.ann 107).rng 0 = none ∧ (E.ann 107).ends 0 = some [0, 5] ∧ (E.ann 107).ends 1 = none := by
  refine ⟨?_, ?_, ?_, ?_, ?_, ?_, ?_, ?_⟩ <;> rfl
theorem e108 : (E.ann 108).ext = false ∧ (E.ann 108).modes = [] ∧ (E.ann 108).keep = [] ∧ (E.ann 108).mir = [] ∧ (E.ann 108).draws 1 = [([2], [4]), ([2, 4], [5]), ([1], [6]), ([5, 6], [7]), ([7], [3])] := by
  refine ⟨?_, ?_, ?_, ?_, ?_⟩ <;> rfl
theorem e109 : (E.ann 109).ext = false ∧ (E.ann 109).modes = [] ∧ (E.ann 109).keep = [] ∧ (E.ann 109).mir = [] ∧ (E.ann 109).draws 1 = [([2], [4]), ([2, 4], [5]), ([1], [6]), ([5, 6], [7]), ([7], [8]), ([8], [3])] := by
  refine ⟨?_, ?_, ?_, ?_, ?_⟩ <;> rfl
theorem e110 : (E.ann 110).ext = false ∧ (E.ann 110).modes = [] ∧ (E.ann 110).keep = [] ∧ (E.ann 110).mir = [] := by
  refine ⟨?_, ?_, ?_, ?_⟩ <;> rfl
theorem e111 : (E.ann 111).ext = false ∧ (E.ann 111).modes = [] ∧ (E.ann 111).keep = [] ∧ (E.ann 111).mir = [] ∧ (E.ann 111).heads 0 = [2, 3, 5] ∧ (E.ann 111).rng 0 = none ∧ (E.ann 111).ends 0 = some [] ∧ (E.ann 111).ends 1 = none ∧ (E.ann 111).draws 6 = [([2], [62]), ([2, 62], [63]), ([5], [64]), ([2, 63, 64], [65]), ([2, 65], [66]), ([3], [67]), ([3, 67], [68]), ([5], [69]), ([3, 68, 69], [70]), ([3, 70], [71]), ([66, 71], [72])] := by
  refine ⟨?_, ?_, ?_, ?_, ?_, ?_, ?_, ?_, ?_⟩ <;> rfl
theorem e112 : (E.ann 112).ext = false ∧ (E.ann 112).modes = [] ∧ (E.ann 112).keep = [] ∧ (E.ann 112).mir = [] ∧ (E.ann 112).heads 0 = [0, 3] ∧ (E.ann 112).rng 0 = none ∧ (E.ann 112).ends 0 = some [] ∧ (E.ann 112).ends 1 = none := by
  refine ⟨?_, ?_, ?_, ?_, ?_, ?_, ?_, ?_⟩ <;> rfl
theorem e113 : (E.ann 113).ext = false ∧ (E.ann 113).modes = [] ∧ (E.ann 113).keep = [] ∧ (E.ann 113).mir = [] ∧ (E.ann 113).heads 0 = [0, 5, 6, 7] ∧ (E.ann 113).rng 0 = none ∧ (E.ann 113).ends 0 = some [] ∧ (E.ann 113).ends 1 = none := by
  refine ⟨?_, ?_, ?_, ?_, ?_, ?_, ?_, ?_⟩ <;> rfl
theorem e114 : (E.ann 114).ext = false ∧ (E.ann 114).modes = [] ∧ (E.ann 114).keep = [] ∧ (E.ann 114).mir = [] := by
  refine ⟨?_, ?_, ?_, ?_⟩ <;> rfl
theorem e115 : (E.ann 115).ext = false ∧ (E.ann 115).modes = [] ∧ (E.ann 115).keep = [] ∧ (E.ann 115).mir = [] ∧ (E.ann 115).heads 0 = [0, 1, 12, 13] ∧ (E.ann 115).rng 0 = none ∧ (E.ann 115).ends 0 = some [] ∧ (E.ann 115).ends 1 = none ∧ (E.ann 115).draws 6 = [([0], [16]), ([5], [17]), ([0, 16, 17], [18]), ([0, 18], [19]), ([1], [20]), ([5], [21]), ([1, 20, 21], [22]), ([1, 22], [23]), ([19, 23], [24])] := by
  refine ⟨?_, ?_, ?_, ?_, ?_, ?_, ?_, ?_, ?_⟩ <;> rfl
theorem e116 : (E.ann 116).ext = false ∧ (E.ann 116).modes = [] ∧ (E.ann 116).keep = [] ∧ (E.ann 116).mir = [] := by
  refine ⟨?_, ?_, ?_, ?_⟩ <;> rfl
theorem e117 : (E.ann 117).ext = false ∧ (E.ann 117).modes = [] ∧ (E.ann 117).keep = [] ∧ (E.ann 117).mir = [] := by
  refine ⟨?_, ?_, ?_, ?_⟩ <;> rfl
theorem e118 : (E.ann 118).ext = false ∧ (E.ann 118).modes = [] ∧ (E.ann 118).keep = [] ∧ (E.ann 118).mir = [] ∧ (E.ann 118).heads 0 = [0, 3, 4] ∧ (E.ann 118).rng 0 = none ∧ (E.ann 118).ends 0 = some [3] ∧ (E.ann 118).ends 1 = none := by
  refine ⟨?_, ?_, ?_, ?_, ?_, ?_, ?_, ?_⟩ <;> rfl
theorem e119 : (E.ann 119).ext = false ∧ (E.ann 119).modes = [] ∧ (E.ann 119).keep = [] ∧ (E.ann 119).mir = [] ∧ (E.ann 119).heads 0 = [0, 1, 5] ∧ (E.ann 119).rng 0 = none ∧ (E.ann 119).ends 0 = some [1] ∧ (E.ann 119).ends 1 = none := by
  refine ⟨?_, ?_, ?_, ?_, ?_, ?_, ?_, ?_⟩ <;> rfl
theorem e120 : (E.ann 120).ext = false ∧ (E.ann 120).modes = [] ∧ (E.ann 120).keep = [] ∧ (E.ann 120).mir = [] ∧ (E.ann 120).heads 0 = [0, 3, 4] ∧ (E.ann 120).rng 0 = none ∧ (E.ann 120).ends 0 = some [3] ∧ (E.ann 120).ends 1 = none := by
  refine ⟨?_, ?_, ?_, ?_, ?_, ?_, ?_, ?_⟩ <;> rfl
theorem e121 : (E.ann 121).ext = false ∧ (E.ann 121).modes = [] ∧ (E.ann 121).keep = [] ∧ (E.ann 121).mir = [] ∧ (E.ann 121).heads 0 = [0, 3] ∧ (E.ann 121).rng 0 = none ∧ (E.ann 121).ends 0 = some [] ∧ (E.ann 121).ends 1 = none ∧ (E.ann 121).draws 4 = [([0], [10]), ([3], [11]), ([0, 10, 11], [12]), ([0, 12], [13]), ([13], [14]), ([14], [15]), ([15], [16]), ([3, 16], [17]), ([16, 17], [18]), ([16, 18], [19]), ([0, 19], [20]), ([3, 19], [21]), ([19, 21], [22]), ([0, 19, 20, 22], [23]), ([0, 19, 23], [24]), ([0, 19], [25]), ([3, 19], [26]), ([0, 19, 25, 26], [27]), ([0, 19, 27], [28]), ([19, 24, 28], [29]), ([16, 19, 29], [30]), ([16, 30], [31])] := by
  refine ⟨?_, ?_, ?_, ?_, ?_, ?_, ?_, ?_, ?_⟩ <;> rfl
theorem e122 : (E.ann 122).ext = false ∧ (E.ann 122).modes = [] ∧ (E.ann 122).keep = [] ∧ (E.ann 122).mir = [] := by
  refine ⟨?_, ?_, ?_, ?_⟩ <;> rfl
theorem e123 : (E.ann 123).ext = false ∧ (E.ann 123).modes = [] ∧ (E.ann 123).keep = [] ∧ (E.ann 123).mir = [] := by
  refine ⟨?_, ?_, ?_, ?_⟩ <;> rfl
theorem tblOk : tbl.all (fun p => tiB Try.prog p.1 p.2) = true := by kernel_rfl
theorem progOk : progB Try.prog E = true := by kernel_rfl
theorem eqsOk : eqs.all (fun t => match lookT tbl t with | some i => eqTB Try.prog t i | none => true) = true := by kernel_rfl
theorem extOk : ExtOk Try.prog E := extOk_of (g := 124) (by kernel_rfl) (ext_of Try.func124 (by kernel_rfl) (by kernel_rfl) (by kernel_rfl) (by kernel_rfl))
theorem sound (f : FuncId) : CallOk Try.prog E (EV Try.prog E) f := EV_sound (by kernel_rfl) (tok_of tblOk) ⟨eqOk_list eqsOk, extOk⟩ progOk f
end Go.Proofs.Ytdjapblnmkghoaa

