/- The tables of the seat: types, annotations (written by a program), and that the kernel finds them right. -/
import Derived.Test.YtjcbojcnfdlfaaaProg
import Derived.KernelRfl
import Derived.Test.YtjcbojcnfdlfaaaSxD
namespace Go.Proofs.Ytjcbojcnfdlfaaa
open Go.Sx
def tbl : List (Nat × TI) := [
  (2, ⟨.prim, 1, 8, [.p (.int .i64 0)]⟩),
  (3, ⟨.prim, 1, 8, [.p (.int .i64 0)]⟩),
  (4, ⟨.prim, 1, 1, [.p (.bool false)]⟩),
  (5, ⟨.prim, 1, 1, [.p (.int .u8 0)]⟩),
  (6, ⟨.prim, 1, 1, [.p (.int .u8 0)]⟩),
  (7, ⟨.strct [(0, 1, false), (1, 1, false), (2, 1, false), (3, 1, false)], 4, 24, [.p (.int .i64 0), .p (.int .i64 0), .p (.bool false), .p (.int .u8 0)]⟩),
  (8, ⟨.strct [(0, 1, false), (1, 1, false), (2, 1, false), (3, 1, false)], 4, 24, [.p (.int .i64 0), .p (.int .i64 0), .p (.bool false), .p (.int .u8 0)]⟩),
  (9, ⟨.prim, 1, 16, [.p (.string ⟨#[]⟩)]⟩),
  (10, ⟨.prim, 1, 16, [.p (.string ⟨#[]⟩)]⟩),
  (11, ⟨.prim, 1, 16, [.p (.string ⟨#[]⟩)]⟩),
  (12, ⟨.prim, 1, 8, [.p (.int .u64 0)]⟩),
  (13, ⟨.strct [(0, 1, false), (1, 1, false)], 2, 24, [.p (.string ⟨#[]⟩), .p (.int .u64 0)]⟩),
  (14, ⟨.strct [(0, 1, false), (1, 1, false)], 2, 24, [.p (.string ⟨#[]⟩), .p (.int .u64 0)]⟩),
  (15, ⟨.ptr 222, 1, 8, [.p (.pointer none)]⟩),
  (16, ⟨.ptr 225, 1, 8, [.p (.pointer none)]⟩),
  (17, ⟨.ptr 235, 1, 8, [.p (.pointer none)]⟩),
  (18, ⟨.strct [(0, 1, false)], 1, 8, [.p (.pointer none)]⟩),
  (19, ⟨.strct [(0, 1, false)], 1, 8, [.p (.pointer none)]⟩),
  (21, ⟨.prim, 1, 4, [.p (.int .i32 0)]⟩),
  (22, ⟨.slc 72, 1, 24, [.sl .own 18 []]⟩),
  (23, ⟨.slc 142, 1, 24, [.sl .own 8 []]⟩),
  (24, ⟨.slc 145, 1, 24, [.sl .own 2 []]⟩),
  (25, ⟨.strct [(0, 1, false), (1, 1, false), (2, 1, false)], 3, 72, [.sl .own 18 [], .sl .own 8 [], .sl .own 2 []]⟩),
  (26, ⟨.strct [(0, 1, false), (1, 1, false), (2, 1, false)], 3, 72, [.sl .own 18 [], .sl .own 8 [], .sl .own 2 []]⟩),
  (29, ⟨.slc 76, 1, 24, [.sl .own 18 []]⟩),
  (30, ⟨.slc 59, 1, 24, [.sl .own 8 []]⟩),
  (31, ⟨.slc 146, 1, 24, [.sl .own 2 []]⟩),
  (32, ⟨.strct [(0, 1, false), (1, 1, false), (2, 1, false)], 3, 72, [.sl .own 18 [], .sl .own 8 [], .sl .own 2 []]⟩),
  (33, ⟨.strct [(0, 1, false), (1, 1, false), (2, 1, false)], 3, 72, [.sl .own 18 [], .sl .own 8 [], .sl .own 2 []]⟩),
  (37, ⟨.slc 165, 1, 24, [.sl .own 9 []]⟩),
  (38, ⟨.strct [(0, 3, true), (3, 1, false), (4, 1, false)], 5, 104, [.sl .own 18 [], .sl .own 8 [], .sl .own 2 [], .p (.int .i64 0), .sl .own 9 []]⟩),
  (39, ⟨.strct [(0, 3, true), (3, 1, false), (4, 1, false)], 5, 104, [.sl .own 18 [], .sl .own 8 [], .sl .own 2 [], .p (.int .i64 0), .sl .own 9 []]⟩),
  (44, ⟨.slc 5, 1, 24, [.sl .own 1 []]⟩),
  (45, ⟨.slc 51, 1, 24, [.sl .own 2 []]⟩),
  (50, ⟨.strct [(0, 1, false), (1, 1, false)], 2, 24, [.p (.int .i64 0), .p (.string ⟨#[]⟩)]⟩),
  (51, ⟨.strct [(0, 1, false), (1, 1, false)], 2, 24, [.p (.int .i64 0), .p (.string ⟨#[]⟩)]⟩),
  (55, ⟨.strct [(0, 1, false), (1, 1, false), (2, 1, false)], 3, 40, [.p (.int .i64 0), .p (.int .i64 0), .sl .own 2 []]⟩),
  (56, ⟨.strct [(0, 1, false), (1, 1, false), (2, 1, false)], 3, 40, [.p (.int .i64 0), .p (.int .i64 0), .sl .own 2 []]⟩),
  (58, ⟨.strct [(0, 1, false), (1, 1, false), (2, 1, false), (3, 1, false), (4, 1, false), (5, 1, false), (6, 1, false), (7, 1, false)], 8, 88, [.p (.int .i64 0), .p (.int .i64 0), .p (.int .i64 0), .p (.int .i64 0), .p (.int .i64 0), .p (.int .i64 0), .p (.string ⟨#[]⟩), .sl .own 2 []]⟩),
  (59, ⟨.strct [(0, 1, false), (1, 1, false), (2, 1, false), (3, 1, false), (4, 1, false), (5, 1, false), (6, 1, false), (7, 1, false)], 8, 88, [.p (.int .i64 0), .p (.int .i64 0), .p (.int .i64 0), .p (.int .i64 0), .p (.int .i64 0), .p (.int .i64 0), .p (.string ⟨#[]⟩), .sl .own 2 []]⟩),
  (65, ⟨.slc 176, 1, 24, [.sl .own 2 []]⟩),
  (66, ⟨.strct [(0, 1, false), (1, 1, false), (2, 1, false)], 3, 40, [.p (.int .i64 0), .p (.int .i64 0), .sl .own 2 []]⟩),
  (67, ⟨.strct [(0, 1, false), (1, 1, false), (2, 1, false)], 3, 40, [.p (.int .i64 0), .p (.int .i64 0), .sl .own 2 []]⟩),
  (68, ⟨.slc 9, 1, 24, [.sl .own 1 []]⟩),
  (69, ⟨.slc 3, 1, 24, [.sl .own 1 []]⟩),
  (70, ⟨.slc 178, 1, 24, [.sl .own 2 []]⟩),
  (71, ⟨.strct [(0, 1, false), (1, 1, false), (2, 1, false), (3, 3, true), (6, 3, true), (9, 1, false), (10, 1, false), (11, 1, false), (12, 1, false), (13, 1, false), (14, 1, false), (15, 1, false), (16, 1, false), (17, 1, false)], 18, 248, [.p (.int .i64 0), .p (.int .i64 0), .p (.bool false), .p (.int .i64 0), .p (.int .i64 0), .sl .own 2 [], .p (.int .i64 0), .p (.int .i64 0), .sl .own 2 [], .sl .own 8 [], .sl .own 1 [], .p (.bool false), .p (.bool false), .p (.int .i64 0), .sl .own 1 [], .sl .own 2 [], .sl .own 2 [], .p (.int .i64 0)]⟩),
  (72, ⟨.strct [(0, 1, false), (1, 1, false), (2, 1, false), (3, 3, true), (6, 3, true), (9, 1, false), (10, 1, false), (11, 1, false), (12, 1, false), (13, 1, false), (14, 1, false), (15, 1, false), (16, 1, false), (17, 1, false)], 18, 248, [.p (.int .i64 0), .p (.int .i64 0), .p (.bool false), .p (.int .i64 0), .p (.int .i64 0), .sl .own 2 [], .p (.int .i64 0), .p (.int .i64 0), .sl .own 2 [], .sl .own 8 [], .sl .own 1 [], .p (.bool false), .p (.bool false), .p (.int .i64 0), .sl .own 1 [], .sl .own 2 [], .sl .own 2 [], .p (.int .i64 0)]⟩),
  (74, ⟨.slc 134, 1, 24, [.sl .own 2 []]⟩),
  (75, ⟨.strct [(0, 1, false), (1, 1, false), (2, 1, false), (3, 3, true), (6, 3, true), (9, 1, false), (10, 1, false), (11, 1, false), (12, 1, false), (13, 1, false), (14, 1, false), (15, 1, false), (16, 1, false), (17, 1, false)], 18, 248, [.p (.int .i64 0), .p (.int .i64 0), .p (.bool false), .p (.int .i64 0), .p (.int .i64 0), .sl .own 2 [], .p (.int .i64 0), .p (.int .i64 0), .sl .own 2 [], .sl .own 8 [], .sl .own 1 [], .p (.bool false), .p (.bool false), .p (.int .i64 0), .sl .own 1 [], .sl .own 2 [], .sl .own 2 [], .p (.int .i64 0)]⟩),
  (76, ⟨.strct [(0, 1, false), (1, 1, false), (2, 1, false), (3, 3, true), (6, 3, true), (9, 1, false), (10, 1, false), (11, 1, false), (12, 1, false), (13, 1, false), (14, 1, false), (15, 1, false), (16, 1, false), (17, 1, false)], 18, 248, [.p (.int .i64 0), .p (.int .i64 0), .p (.bool false), .p (.int .i64 0), .p (.int .i64 0), .sl .own 2 [], .p (.int .i64 0), .p (.int .i64 0), .sl .own 2 [], .sl .own 8 [], .sl .own 1 [], .p (.bool false), .p (.bool false), .p (.int .i64 0), .sl .own 1 [], .sl .own 2 [], .sl .own 2 [], .p (.int .i64 0)]⟩),
  (103, ⟨.ptr 172, 1, 8, [.p (.pointer none)]⟩),
  (133, ⟨.strct [(0, 1, false), (1, 1, false)], 2, 32, [.p (.int .i64 0), .sl .own 1 []]⟩),
  (134, ⟨.strct [(0, 1, false), (1, 1, false)], 2, 32, [.p (.int .i64 0), .sl .own 1 []]⟩),
  (141, ⟨.strct [(0, 1, false), (1, 1, false), (2, 1, false), (3, 1, false), (4, 1, false), (5, 1, false), (6, 1, false), (7, 1, false)], 8, 88, [.p (.int .i64 0), .p (.int .i64 0), .p (.int .i64 0), .p (.int .i64 0), .p (.int .i64 0), .p (.int .i64 0), .p (.string ⟨#[]⟩), .sl .own 2 []]⟩),
  (142, ⟨.strct [(0, 1, false), (1, 1, false), (2, 1, false), (3, 1, false), (4, 1, false), (5, 1, false), (6, 1, false), (7, 1, false)], 8, 88, [.p (.int .i64 0), .p (.int .i64 0), .p (.int .i64 0), .p (.int .i64 0), .p (.int .i64 0), .p (.int .i64 0), .p (.string ⟨#[]⟩), .sl .own 2 []]⟩),
  (144, ⟨.strct [(0, 1, false), (1, 1, false)], 2, 24, [.p (.int .i64 0), .p (.string ⟨#[]⟩)]⟩),
  (145, ⟨.strct [(0, 1, false), (1, 1, false)], 2, 24, [.p (.int .i64 0), .p (.string ⟨#[]⟩)]⟩),
  (146, ⟨.strct [(0, 1, false), (1, 1, false)], 2, 24, [.p (.int .i64 0), .p (.string ⟨#[]⟩)]⟩),
  (149, ⟨.ptr 33, 1, 8, [.p (.pointer none)]⟩),
  (156, ⟨.slc 193, 1, 24, [.sl .own 3 []]⟩),
  (157, ⟨.slc 195, 1, 24, [.sl .own 6 []]⟩),
  (158, ⟨.strct [(0, 1, false), (1, 1, false)], 2, 48, [.sl .own 3 [], .sl .own 6 []]⟩),
  (159, ⟨.strct [(0, 1, false), (1, 1, false)], 2, 48, [.sl .own 3 [], .sl .own 6 []]⟩),
  (160, ⟨.strct [(0, 1, false), (1, 1, false), (2, 2, true)], 4, 72, [.p (.string ⟨#[]⟩), .p (.int .i64 0), .sl .own 3 [], .sl .own 6 []]⟩),
  (161, ⟨.strct [(0, 1, false), (1, 1, false), (2, 2, true)], 4, 72, [.p (.string ⟨#[]⟩), .p (.int .i64 0), .sl .own 3 [], .sl .own 6 []]⟩),
  (162, ⟨.strct [(0, 1, false), (1, 1, false), (2, 1, false)], 3, 24, [.p (.int .i64 0), .p (.int .i64 0), .p (.bool false)]⟩),
  (163, ⟨.strct [(0, 1, false), (1, 1, false), (2, 1, false)], 3, 24, [.p (.int .i64 0), .p (.int .i64 0), .p (.bool false)]⟩),
  (164, ⟨.strct [(0, 4, true), (4, 1, false), (5, 1, false), (6, 3, true)], 9, 112, [.p (.string ⟨#[]⟩), .p (.int .i64 0), .sl .own 3 [], .sl .own 6 [], .p (.int .i64 0), .p (.int .i64 0), .p (.int .i64 0), .p (.int .i64 0), .p (.bool false)]⟩),
  (165, ⟨.strct [(0, 4, true), (4, 1, false), (5, 1, false), (6, 3, true)], 9, 112, [.p (.string ⟨#[]⟩), .p (.int .i64 0), .sl .own 3 [], .sl .own 6 [], .p (.int .i64 0), .p (.int .i64 0), .p (.int .i64 0), .p (.int .i64 0), .p (.bool false)]⟩),
  (171, ⟨.strct [(0, 1, false), (1, 1, false)], 2, 32, [.sl .own 1 [], .p (.int .i64 0)]⟩),
  (172, ⟨.strct [(0, 1, false), (1, 1, false)], 2, 32, [.sl .own 1 [], .p (.int .i64 0)]⟩),
  (176, ⟨.strct [(0, 1, false), (1, 1, false)], 2, 24, [.p (.int .i64 0), .p (.string ⟨#[]⟩)]⟩),
  (178, ⟨.strct [(0, 1, false), (1, 1, false)], 2, 32, [.p (.int .i64 0), .sl .own 1 []]⟩),
  (183, ⟨.ptr 76, 1, 8, [.p (.pointer none)]⟩),
  (192, ⟨.strct [(0, 1, false), (1, 1, false), (2, 1, false)], 3, 40, [.p (.string ⟨#[]⟩), .p (.string ⟨#[]⟩), .p (.int .i64 0)]⟩),
  (193, ⟨.strct [(0, 1, false), (1, 1, false), (2, 1, false)], 3, 40, [.p (.string ⟨#[]⟩), .p (.string ⟨#[]⟩), .p (.int .i64 0)]⟩),
  (194, ⟨.strct [(0, 1, false), (1, 1, false), (2, 1, false), (3, 1, false), (4, 1, false), (5, 1, false)], 6, 80, [.p (.int .i64 0), .p (.string ⟨#[]⟩), .p (.string ⟨#[]⟩), .p (.int .i64 0), .p (.string ⟨#[]⟩), .p (.string ⟨#[]⟩)]⟩),
  (195, ⟨.strct [(0, 1, false), (1, 1, false), (2, 1, false), (3, 1, false), (4, 1, false), (5, 1, false)], 6, 80, [.p (.int .i64 0), .p (.string ⟨#[]⟩), .p (.string ⟨#[]⟩), .p (.int .i64 0), .p (.string ⟨#[]⟩), .p (.string ⟨#[]⟩)]⟩),
  (197, ⟨.strct [(0, 1, false), (1, 1, false), (2, 1, false)], 3, 32, [.p (.int .i64 0), .p (.int .i64 0), .p (.string ⟨#[]⟩)]⟩),
  (198, ⟨.strct [(0, 1, false), (1, 1, false), (2, 1, false)], 3, 32, [.p (.int .i64 0), .p (.int .i64 0), .p (.string ⟨#[]⟩)]⟩),
  (221, ⟨.strct [(0, 1, false), (1, 1, false), (2, 1, false), (3, 1, false)], 4, 40, [.p (.pointer none), .p (.pointer none), .p (.pointer none), .p (.string ⟨#[]⟩)]⟩),
  (222, ⟨.strct [(0, 1, false), (1, 1, false), (2, 1, false), (3, 1, false)], 4, 40, [.p (.pointer none), .p (.pointer none), .p (.pointer none), .p (.string ⟨#[]⟩)]⟩),
  (227, ⟨.prim, 1, 4, [.p (.int .u32 0)]⟩),
  (228, ⟨.prim, 1, 1, [.p (.int .u8 0)]⟩),
  (229, ⟨.prim, 1, 1, [.p (.int .u8 0)]⟩),
  (231, ⟨.ptr 5, 1, 8, [.p (.pointer none)]⟩),
  (232, ⟨.prim, 1, 4, [.p (.int .i32 0)]⟩),
  (233, ⟨.prim, 1, 4, [.p (.int .i32 0)]⟩)]
/-- gosem.cut.init -/
def a2 : Ann := {}
/-- loop.example/wharflog/laws.FnExactRecAgree -/
def a3 : Ann := { draws := lookD [(10, [([5], [22]), ([1], [23]), ([1, 23], [24]), ([5, 22, 24], [25]), ([25], [26])])] [] }
/-- loop.example/wharflog/laws.FnExactLogNew -/
def a4 : Ann := {}
/-- loop.example/wharflog/laws.FnRecMerge -/
def a5 : Ann := { heads := lookD [(0, [0, 3, 4, 5, 6])] [], ends := lookT [(0, [0])], draws := lookD [(10, [([6], [53]), ([3], [54]), ([3, 54], [55]), ([53, 55], [56]), ([56], [57]), ([5, 57], [58]), ([6, 57], [59]), ([5, 57, 58, 59], [60]), ([5, 57, 60], [61]), ([5, 57, 61], [62]), ([3, 57], [63]), ([6, 57], [64]), ([3, 57, 63, 64], [65]), ([3, 57, 65], [66]), ([3, 57, 66], [67]), ([57, 62, 67], [68]), ([57, 68], [69]), ([69], [70]), ([6, 70], [71]), ([4, 70], [72]), ([4, 70, 72], [73]), ([70, 71, 73], [74]), ([70, 74], [75]), ([5, 75], [76]), ([6, 75], [77]), ([5, 75, 76, 77], [78]), ([5, 75, 78], [79]), ([5, 75, 79], [80]), ([4, 75], [81]), ([6, 75], [82]), ([4, 75, 81, 82], [83]), ([4, 75, 83], [84]), ([4, 75, 84], [85]), ([75, 80, 85], [86]), ([70, 75, 86], [87]), ([70, 87], [88])]), (12, [([6], [89]), ([3], [90]), ([3, 90], [91]), ([89, 91], [92]), ([92], [93]), ([5, 93], [94]), ([6, 93], [95]), ([5, 93, 94, 95], [96]), ([5, 93, 96], [97]), ([3, 93], [98]), ([6, 93], [99]), ([3, 93, 98, 99], [100]), ([3, 93, 100], [101]), ([93, 97, 101], [102]), ([93, 102], [103]), ([103], [104]), ([6, 104], [105]), ([4, 104], [106]), ([4, 104, 106], [107]), ([104, 105, 107], [108]), ([104, 108], [109]), ([5, 109], [110]), ([6, 109], [111]), ([5, 109, 110, 111], [112]), ([5, 109, 112], [113]), ([4, 109], [114]), ([6, 109], [115]), ([4, 109, 114, 115], [116]), ([4, 109, 116], [117]), ([109, 113, 117], [118]), ([104, 109, 118], [119]), ([104, 119], [120])]), (20, [([11], [168]), ([11, 168], [169]), ([11], [170]), ([11, 170], [171]), ([169, 171], [172]), ([172], [173]), ([12, 173], [174]), ([13, 173], [175]), ([12, 173, 174, 175], [176]), ([12, 173], [177]), ([13, 173], [178]), ([12, 173, 177, 178], [179]), ([173, 176, 179], [180]), ([173, 180], [181]), ([181], [2])])] [] }
/-- loop.example/wharflog/laws.FnExactRecWish -/
def a6 : Ann := { draws := lookD [(12, [([7], [34]), ([2], [35]), ([2, 35], [36]), ([7, 34, 36], [37]), ([37], [38])])] [] }
/-- loop.example/wharflog/laws.FnRecFalls -/
def a7 : Ann := { draws := lookD [(6, [([4], [15]), ([3], [16]), ([3, 16], [17]), ([4, 15, 17], [18]), ([18], [19]), ([19], [20]), ([5, 20], [21]), ([3, 20], [22]), ([3, 20, 22], [23]), ([20, 23], [24]), ([5, 20, 21, 24], [25]), ([20, 25], [26]), ([20, 26], [27])])] [] }
/-- loop.example/wharflog/laws.szRecWorld -/
def a8 : Ann := {}
/-- loop.example/wharflog/spec.RecAgree -/
def a9 : Ann := { heads := lookD [(4, [1, 8]), (2, [1, 3, 4, 5]), (0, [1, 3])] [], ends := lookT [(4, []), (2, [1, 3]), (0, [1])] }
/-- loop.example/wharflog/laws.toRecWorld -/
def a10 : Ann := {}
/-- loop.example/wharflog/impl.RecAgree -/
def a11 : Ann := {}
/-- loop.example/wharflog/laws.eqRecWorld -/
def a12 : Ann := {}
/-- loop.example/wharflog/spec.LogNew -/
def a13 : Ann := {}
/-- loop.example/wharflog/impl.LogNew -/
def a14 : Ann := {}
/-- loop.example/wharflog/laws.eqLogWorld -/
def a15 : Ann := {}
/-- loop.example/wharflog/laws.markLogWorld -/
def a16 : Ann := { modes := [.io, .shr], keep := [0], mir := [(0, 2)] }
/-- loop.example/wharflog/laws.heldLogWorld -/
def a17 : Ann := {}
/-- loop.example/wharflog/spec.DrawRecMerge -/
def a18 : Ann := {}
/-- loop.example/wharflog/impl.RecMerge -/
def a19 : Ann := { heads := lookD [(0, [1, 5, 10, 11, 12])] [], ends := lookT [(0, [5])], draws := lookD [(7, [([7], [27]), ([7, 27], [28]), ([5], [29]), ([6], [30]), ([5, 29, 30], [31]), ([5, 31], [32]), ([5, 32], [33]), ([28, 33], [34]), ([34], [26])])] [] }
/-- loop.example/wharflog/laws.wrSlots -/
def a20 : Ann := { heads := lookD [(0, [0, 1, 5])] [], ends := lookT [(0, [])], draws := lookD [(6, [([0], [17]), ([5], [18]), ([0, 17, 18], [19]), ([0, 19], [20]), ([1], [21]), ([5], [22]), ([1, 21, 22], [23]), ([1, 23], [24]), ([20, 24], [25])])] [] }
/-- loop.example/wharflog/spec.RecMerge -/
def a21 : Ann := { heads := lookD [(0, [1, 5, 6])] [], ends := lookT [(0, [5])], draws := lookD [(7, [([1], [26]), ([6], [27]), ([1, 26, 27], [28]), ([1, 28], [29]), ([1, 29], [30]), ([5], [31]), ([6], [32]), ([5, 31, 32], [33]), ([5, 33], [34]), ([5, 34], [35]), ([30, 35], [36])])] [] }
/-- loop.example/wharflog/spec.DrawRecNextBallot -/
def a22 : Ann := { draws := lookD [(2, [])] [] }
/-- loop.example/wharflog/impl.RecNextBallot -/
def a23 : Ann := { heads := lookD [(0, [1, 2, 7])] [], ends := lookT [(0, [])], draws := lookD [(6, [([7], [28]), ([2], [29]), ([28, 29], [30]), ([1], [31]), ([2], [32]), ([31, 32], [33]), ([30, 33], [34])])] [] }
/-- loop.example/wharflog/spec.RecNextBallot -/
def a24 : Ann := {}
/-- loop.example/wharflog/spec.DrawRecDiskOk -/
def a25 : Ann := {}
/-- loop.example/wharflog/spec.DrawRecMessageOk -/
def a26 : Ann := { draws := lookD [(19, [([6], [71]), ([5], [72]), ([5, 72], [73]), ([2, 6, 71], [2, 6, 71]), ([73], [3])])] [] }
/-- loop.example/wharflog/impl.RecDiskOk -/
def a27 : Ann := { heads := lookD [(0, [1, 25, 26, 27])] [], ends := lookT [(0, [])] }
/-- loop.example/wharflog/spec.RecDiskOk -/
def a28 : Ann := { heads := lookD [(0, [1, 3])] [], ends := lookT [(0, [])], draws := lookD [(6, [([1], [30]), ([1, 30], [31]), ([3], [32]), ([1, 31, 32], [33]), ([1, 33], [34]), ([1, 34], [35]), ([1], [36]), ([1, 36], [37]), ([35, 37], [38]), ([38], [39]), ([3, 39], [40]), ([1, 39], [41]), ([1, 39, 41], [42]), ([39, 40, 42], [43]), ([39, 43], [44]), ([1, 44], [45]), ([1, 44, 45], [46]), ([3, 44], [47]), ([1, 44, 46, 47], [48]), ([1, 44, 48], [49]), ([1, 44, 49], [50]), ([44, 50], [51]), ([39, 44, 51], [52]), ([39, 52], [53])])] [] }
/-- loop.example/wharflog/impl.RecMessageOk -/
def a29 : Ann := {}
/-- loop.example/wharflog/spec.RecMessageOk -/
def a30 : Ann := {}
/-- loop.example/wharflog/laws.szRecorder -/
def a31 : Ann := {}
/-- loop.example/wharflog/spec.RecWish -/
def a32 : Ann := {}
/-- loop.example/wharflog/laws.toRecorder -/
def a33 : Ann := {}
/-- loop.example/wharflog/impl.RecWish -/
def a34 : Ann := {}
/-- loop.example/wharflog/laws.eqRecorder -/
def a35 : Ann := {}
/-- loop.example/wharflog/laws.markRecorder -/
def a36 : Ann := { modes := [.io, .shr], keep := [0], mir := [(0, 2)] }
/-- loop.example/wharflog/laws.heldRecorder -/
def a37 : Ann := {}
/-- loop.example/wharflog/spec.DrawRecFall -/
def a38 : Ann := {}
/-- loop.example/wharflog/impl.RecFall -/
def a39 : Ann := {}
/-- loop.example/wharflog/impl.RecRise -/
def a40 : Ann := {}
/-- loop.example/wharflog/laws.wrRecorder -/
def a41 : Ann := { heads := lookD [(0, [2, 3, 5])] [], ends := lookT [(0, [])], draws := lookD [(6, [([2], [117]), ([2, 117], [118]), ([5], [119]), ([2, 118, 119], [120]), ([2, 120], [121]), ([2, 121], [122]), ([3], [123]), ([3, 123], [124]), ([5], [125]), ([3, 124, 125], [126]), ([3, 126], [127]), ([3, 127], [128]), ([122, 128], [129]), ([129], [130]), ([2, 130], [131]), ([2, 130, 131], [132]), ([5, 130], [133]), ([2, 130, 132, 133], [134]), ([2, 130, 134], [135]), ([2, 130, 135], [136]), ([3, 130], [137]), ([3, 130, 137], [138]), ([5, 130], [139]), ([3, 130, 138, 139], [140]), ([3, 130, 140], [141]), ([3, 130, 141], [142]), ([2, 3, 130, 136, 142], [143]), ([130, 143], [144]), ([130, 144], [145])])] [] }
/-- loop.example/wharflog/spec.RecFall -/
def a42 : Ann := { draws := lookD [(3, [([1], [7]), ([1, 7], [8]), ([1], [9]), ([1, 9], [10]), ([1], [11]), ([1, 11], [12]), ([1, 12], [13]), ([1], [14]), ([1, 14], [15]), ([1, 15], [16]), ([8, 10, 13, 16], [8, 10, 13, 16, 17]), ([2, 17], [2, 17])])] [] }
/-- loop.example/wharflog/spec.RecRise -/
def a43 : Ann := {}
/-- loop.example/wharflog/spec.RecValid -/
def a44 : Ann := { heads := lookD [(0, [1, 3])] [], ends := lookT [(0, [1])], draws := lookD [(6, [([1], [53]), ([1, 53], [54]), ([3], [55]), ([1, 54, 55], [56]), ([1, 56], [57]), ([1], [58]), ([1, 58], [59]), ([1, 57, 59], [60]), ([60], [61]), ([61], [62]), ([1, 62], [63]), ([1, 62, 63], [64]), ([3, 62], [65]), ([1, 62, 64, 65], [66]), ([1, 62, 66], [67]), ([1, 62, 67], [68]), ([1, 62], [69]), ([1, 62, 69], [70]), ([62, 68, 70], [71]), ([62, 71], [72])])] [] }
/-- loop.example/wharflog/impl.RecValid -/
def a45 : Ann := { heads := lookD [(4, [1, 107, 108, 109]), (2, [1, 86, 87, 88]), (0, [1, 66, 67, 68])] [], ends := lookT [(4, [1]), (2, [1]), (0, [1])], draws := lookD [(18, [([8], [114]), ([8, 114], [115]), ([115], [116]), ([116], [117]), ([117], [118]), ([8, 118], [119]), ([8, 118, 119], [120]), ([1, 118], [121]), ([1, 118, 121], [122]), ([8, 118, 120, 122], [123]), ([118, 123], [124]), ([118, 124], [125]), ([125], [126]), ([7, 126], [127]), ([126, 127], [128]), ([126, 128], [129]), ([8, 129], [130]), ([8, 129, 130], [131]), ([1, 129], [132]), ([1, 129, 132], [133]), ([7, 129], [134]), ([129, 134], [135]), ([1, 129, 133, 135], [136]), ([1, 129, 136], [137]), ([1, 129, 137], [138]), ([129, 131, 138], [139]), ([126, 129, 139], [140]), ([126, 140], [141])])] [] }
/-- loop.example/wharflog/laws.wrDisk -/
def a46 : Ann := {}
/-- loop.example/wharflog/laws.szRecorderS -/
def a47 : Ann := { heads := lookD [(0, [0, 1, 5])] [], ends := lookT [(0, [1])] }
/-- loop.example/wharflog/laws.szRecMessageS -/
def a48 : Ann := { heads := lookD [(0, [0, 1, 5])] [], ends := lookT [(0, [1])] }
/-- loop.example/wharflog/laws.szRecFixS -/
def a49 : Ann := { heads := lookD [(0, [0, 1, 5])] [], ends := lookT [(0, [1])] }
/-- loop.example/wharflog/spec.RecWorldOk -/
def a50 : Ann := { heads := lookD [(4, [1, 6]), (2, [1, 3, 5]), (0, [1, 3, 4])] [], ends := lookT [(4, []), (2, [1]), (0, [1, 3])], draws := lookD [(17, [([1], [74]), ([1, 74], [75]), ([6], [76]), ([1, 75, 76], [77]), ([1, 77], [78]), ([1, 78], [79]), ([79], [80]), ([80], [81]), ([81], [82]), ([1, 82], [83]), ([1, 82, 83], [84]), ([6, 82], [85]), ([1, 82, 84, 85], [86]), ([1, 82, 86], [87]), ([1, 82, 87], [88]), ([82, 88], [89]), ([82, 89], [90]), ([82, 90], [91]), ([91], [92]), ([6, 92], [93]), ([92, 93], [94]), ([92, 94], [95]), ([1, 95], [96]), ([1, 95, 96], [97]), ([6, 95], [98]), ([95, 98], [99]), ([1, 95, 97, 99], [100]), ([1, 95, 100], [101]), ([1, 95, 101], [102]), ([1, 95], [103]), ([1, 95, 103], [104]), ([6, 95], [105]), ([1, 95, 104, 105], [106]), ([1, 95, 106], [107]), ([1, 95, 107], [108]), ([95, 102, 108], [109]), ([92, 95, 109], [110]), ([92, 110], [111])])] [] }
/-- loop.example/wharflog/spec.RecBook -/
def a51 : Ann := { heads := lookD [(0, [1, 3, 4])] [], ends := lookT [(0, [3])] }
/-- loop.example/wharflog/spec.l18Fixed -/
def a52 : Ann := { heads := lookD [(0, [1, 2, 6])] [], ends := lookT [(0, [])] }
/-- loop.example/wharflog/spec.l18Major -/
def a53 : Ann := { heads := lookD [(2, [1, 2, 6, 7, 8, 9]), (0, [1, 2, 6])] [], ends := lookT [(2, [1, 2, 6, 7, 8]), (0, [])], draws := lookD [(11, [([1], [56]), ([10], [57]), ([10, 57], [58]), ([10, 58], [59]), ([56, 59], [60]), ([60], [61]), ([10, 61], [62]), ([10, 61, 62], [63]), ([1, 61], [64]), ([61, 64], [65]), ([10, 61, 63, 65], [66]), ([10, 61, 66], [67]), ([7, 61], [68]), ([7, 61, 68], [69]), ([1, 61], [70]), ([61, 70], [71]), ([7, 61, 69, 71], [72]), ([7, 61, 72], [73]), ([61, 67, 73], [74]), ([61, 74], [75])])] [] }
/-- loop.example/wharflog/laws.toRecorderS -/
def a54 : Ann := { heads := lookD [(0, [0, 3, 4])] [], ends := lookT [(0, [3])] }
/-- loop.example/wharflog/laws.toRecMessageS -/
def a55 : Ann := { heads := lookD [(0, [0, 3, 4])] [], ends := lookT [(0, [3])] }
/-- loop.example/wharflog/laws.toRecFixS -/
def a56 : Ann := { heads := lookD [(0, [0, 3, 4])] [], ends := lookT [(0, [3])] }
/-- loop.example/wharflog/impl.RecWorldOk -/
def a57 : Ann := { heads := lookD [(4, [1, 60, 61, 62]), (2, [1, 3, 48, 49, 50]), (0, [1, 3, 23, 24, 25])] [], ends := lookT [(4, []), (2, [1]), (0, [1, 3])], draws := lookD [(19, [([9], [67]), ([9, 67], [68]), ([68], [69]), ([69], [70]), ([70], [71]), ([9, 71], [72]), ([9, 71, 72], [73]), ([71, 73], [74]), ([71, 74], [75]), ([71, 75], [76]), ([76], [77]), ([8, 77], [78]), ([77, 78], [79]), ([77, 79], [80]), ([9, 80], [81]), ([9, 80, 81], [82]), ([1, 80], [83]), ([1, 80, 83], [84]), ([8, 80], [85]), ([80, 85], [86]), ([1, 80, 84, 86], [87]), ([1, 80, 87], [88]), ([1, 80, 88], [89]), ([80, 82, 89], [90]), ([77, 80, 90], [91]), ([77, 91], [92])])] [] }
/-- (*loop.example/wharflog/impl.RecWorld).agree -/
def a58 : Ann := { keep := [0], heads := lookD [(4, [0, 8]), (2, [0, 17, 18, 27, 28, 29]), (0, [0, 17, 18])] [], ends := lookT [(4, [0]), (2, [0, 17, 18]), (0, [0])] }
/-- loop.example/wharflog/laws.eqRecorderS -/
def a59 : Ann := { heads := lookD [(0, [0, 1, 5])] [], ends := lookT [(0, [])], draws := lookD [(6, [([0], [17]), ([5], [18]), ([0, 17, 18], [19]), ([0, 19], [20]), ([1], [21]), ([5], [22]), ([1, 21, 22], [23]), ([1, 23], [24]), ([0, 1, 20, 24], [25]), ([25], [26])])] [] }
/-- loop.example/wharflog/laws.eqRecMessageS -/
def a60 : Ann := { heads := lookD [(0, [0, 1, 5])] [], ends := lookT [(0, [])], draws := lookD [(6, [([0], [17]), ([5], [18]), ([0, 17, 18], [19]), ([0, 19], [20]), ([1], [21]), ([5], [22]), ([1, 21, 22], [23]), ([1, 23], [24]), ([0, 1, 20, 24], [25]), ([25], [26])])] [] }
/-- loop.example/wharflog/laws.eqRecFixS -/
def a61 : Ann := { heads := lookD [(0, [0, 1, 5])] [], ends := lookT [(0, [])], draws := lookD [(6, [([0], [17]), ([5], [18]), ([0, 17, 18], [19]), ([0, 19], [20]), ([1], [21]), ([5], [22]), ([1, 21, 22], [23]), ([1, 23], [24]), ([20, 24], [25]), ([25], [26])])] [] }
/-- loop.example/wharflog/spec.RecNewWorld -/
def a62 : Ann := { heads := lookD [(0, [0, 2, 3, 4])] [], ends := lookT [(0, [2, 3])], draws := lookD [(7, [([3], [15]), ([3, 15], [16]), ([4], [17]), ([0], [18]), ([17, 18], [19]), ([19], [19, 20]), ([3, 16, 20], [3, 16, 20, 21]), ([3], [22]), ([3, 21, 22], [3, 21, 22])])] [] }
/-- loop.example/wharflog/impl.RecNewWorld -/
def a63 : Ann := { heads := lookD [(0, [0, 2, 3, 4])] [], ends := lookT [(0, [2, 3])], draws := lookD [(6, [([3], [12]), ([3, 12], [13]), ([4], [14]), ([0], [15]), ([14, 15], [16]), ([16], [16, 17]), ([3, 13, 17], [3, 13, 17, 18]), ([3], [19]), ([3, 18, 19], [3, 18, 19])])] [] }
/-- loop.example/wharflog/laws.eqLogAskedS -/
def a64 : Ann := { heads := lookD [(0, [0, 1, 5])] [], ends := lookT [(0, [])], draws := lookD [(6, [([0], [17]), ([5], [18]), ([0, 17, 18], [19]), ([0, 19], [20]), ([1], [21]), ([5], [22]), ([1, 21, 22], [23]), ([1, 23], [24]), ([0, 1, 20, 24], [25]), ([25], [26])])] [] }
/-- loop.example/wharflog/laws.markRecWorld -/
def a65 : Ann := { modes := [.io, .shr], keep := [0], mir := [(0, 2)] }
/-- loop.example/wharflog/laws.markLogAskedS -/
def a66 : Ann := { modes := [.io, .shr], keep := [0], heads := lookD [(0, [0, 1, 5])] [], ends := lookT [(0, [0, 1])] }
/-- loop.example/wharflog/laws.heldRecWorld -/
def a67 : Ann := {}
/-- loop.example/wharflog/laws.heldLogAskedS -/
def a68 : Ann := { heads := lookD [(0, [0, 1, 5])] [], ends := lookT [(0, [1])], draws := lookD [(4, [([0], [12]), ([5], [13]), ([0, 12, 13], [14]), ([0, 14], [15]), ([0, 15], [16]), ([0, 16], [17]), ([1], [18]), ([18], [19]), ([17, 19], [20])])] [] }
/-- loop.example/wharflog/spec.l12Open -/
def a69 : Ann := {}
/-- loop.example/wharflog/spec.l12DrawSlots -/
def a70 : Ann := { keep := [0], heads := lookD [(0, [0, 1, 5, 6])] [], ends := lookT [(0, [0, 5])] }
/-- loop.example/wharflog/spec.l12Slots -/
def a71 : Ann := {}
/-- (*loop.example/wharflog/spec.l12Rd).pick -/
def a72 : Ann := { keep := [0], draws := lookD [(7, [([0], [47]), ([0, 47], [48]), ([0, 48], [49]), ([0, 49], [50]), ([5], [51]), ([0], [52]), ([0, 52], [53]), ([0, 53], [54]), ([0, 54], [55]), ([0, 55], [56]), ([51, 56], [57]), ([0, 50, 57], [58]), ([0, 58], [59]), ([59], [60]), ([60], [61]), ([0], [62]), ([0, 62], [63]), ([0, 63], [64]), ([0, 64], [65]), ([5], [66]), ([66], [67]), ([67], [68]), ([0], [69]), ([0, 69], [70]), ([0, 70], [71]), ([0, 71], [72]), ([0, 72], [73]), ([68, 73], [74]), ([0, 65, 74], [75]), ([0, 75], [76]), ([76], [77]), ([77], [78]), ([61, 78], [79]), ([5], [80]), ([80], [81]), ([79, 81], [82]), ([5], [83]), ([0], [84]), ([0, 84], [85]), ([0, 85], [86]), ([0, 86], [87]), ([0, 87], [88]), ([83, 88], [89]), ([89], [90]), ([82, 90], [91]), ([91], [6])])] [] }
/-- loop.example/wharflog/impl.within -/
def a73 : Ann := {}
/-- loop.example/wharflog/spec.l12In -/
def a74 : Ann := {}
/-- loop.example/wharflog/spec.l12Disk0 -/
def a75 : Ann := { keep := [0], heads := lookD [(0, [0, 2, 3, 4])] [], ends := lookT [(0, [0, 2, 3, 4])] }
/-- loop.example/wharflog/spec.l12SpoilDisk -/
def a76 : Ann := { keep := [0], heads := lookD [(1, [0, 4, 5, 6])] [], ends := lookT [(1, [0, 4, 5])], draws := lookD [(7, [([5], [31]), ([5, 31], [32]), ([5, 32], [33]), ([5], [34]), ([5, 34], [35]), ([5, 35], [36]), ([36], [37]), ([33, 37], [33, 37, 38]), ([0], [39]), ([0, 39], [0, 39, 40]), ([38, 40], [41]), ([38, 41], [42]), ([5], [43]), ([5, 42, 43], [5, 42, 43])]), (9, [([5], [46]), ([5, 46], [47]), ([], [48]), ([0], [49]), ([0, 49], [0, 49, 50]), ([48, 50], [51]), ([48, 51], [52]), ([52], [52, 53]), ([53], [53, 54]), ([5, 47, 54], [5, 47, 55]), ([5], [56]), ([5, 55, 56], [5, 55, 56])]), (11, [([5], [59]), ([5, 59], [60]), ([5], [61]), ([5, 61], [62]), ([5], [63]), ([5, 63], [64]), ([64], [65]), ([62, 65], [62, 65, 66]), ([0], [67]), ([0, 67], [0, 67, 68]), ([66, 68], [69]), ([66, 69], [70]), ([70], [70, 71]), ([71], [71, 72]), ([5, 60, 72], [5, 60, 73]), ([5], [74]), ([5, 73, 74], [5, 73, 74])]), (3, [([5], [11]), ([5, 11], [12]), ([0], [13]), ([0, 13], [0, 13, 14]), ([14], [15]), ([15], [16]), ([16], [16, 17]), ([17], [17, 18]), ([5, 12, 18], [5, 12, 19]), ([5], [20]), ([5, 19, 20], [5, 19, 20])])] [] }
/-- loop.example/wharflog/spec.l13Draw -/
def a77 : Ann := { keep := [0], draws := lookD [(2, [([3], [6]), ([3, 6], [7]), ([0], [8]), ([3], [9]), ([3, 9], [10]), ([3, 10], [11]), ([0, 8, 11], [0, 8, 12]), ([3, 7, 12], [13]), ([3, 13], [14]), ([2, 3, 14], [2, 3, 14])])] [] }
/-- loop.example/wharflog/spec.l13DrawMessage -/
def a78 : Ann := { keep := [0], draws := lookD [(1, [([3], [7]), ([3, 7], [8]), ([3, 8], [9]), ([0], [10]), ([0, 10], [0, 10, 11]), ([9, 11], [12]), ([12], [13]), ([13], [5])]), (6, [([], [21]), ([0, 21], [0, 21, 22]), ([22], [23]), ([], [24]), ([3], [25]), ([3, 25], [26]), ([0, 24, 26], [0, 24, 27]), ([27], [28]), ([3], [29]), ([3, 29], [30]), ([5], [31]), ([], [32]), ([3], [33]), ([3, 33], [34]), ([3, 34], [35]), ([3, 35], [36]), ([36], [37]), ([0, 32, 37], [0, 32, 38]), ([], [39]), ([3], [40]), ([3, 40], [41]), ([3, 41], [42]), ([3, 42], [43]), ([43], [44]), ([0, 39, 44], [0, 39, 45]), ([], [46]), ([0, 46], [0, 46, 47]), ([23, 28, 30, 31, 38, 45, 47], [23, 28, 30, 31, 38, 45, 47, 48]), ([], [6]), ([6, 48], [6, 48])]), (13, [([3], [62]), ([3, 62], [63]), ([3, 63], [64]), ([64], [65]), ([0], [66]), ([0, 66], [0, 66, 67]), ([65, 67], [68]), ([6], [69]), ([6, 68, 69], [6, 68, 69])])] [] }
/-- loop.example/wharflog/spec.l12Many -/
def a79 : Ann := { heads := lookD [(0, [0, 1, 5])] [], ends := lookT [(0, [5])] }
/-- loop.example/wharflog/impl.slotsOk -/
def a80 : Ann := { heads := lookD [(0, [0, 8, 9, 10])] [], ends := lookT [(0, [])] }
/-- loop.example/wharflog/spec.l12SlotsOk -/
def a81 : Ann := { heads := lookD [(0, [0, 3])] [], ends := lookT [(0, [])] }
/-- loop.example/wharflog/laws.szRecDisk -/
def a82 : Ann := {}
/-- loop.example/wharflog/laws.szStringS -/
def a83 : Ann := { heads := lookD [(0, [0, 1, 5])] [], ends := lookT [(0, [1])] }
/-- loop.example/wharflog/laws.szIntS -/
def a84 : Ann := {}
/-- loop.example/wharflog/laws.szRecSlotS -/
def a85 : Ann := { heads := lookD [(0, [0, 1, 5])] [], ends := lookT [(0, [1])] }
/-- loop.example/wharflog/laws.szRecAckS -/
def a86 : Ann := { heads := lookD [(0, [0, 1, 5])] [], ends := lookT [(0, [1])] }
/-- loop.example/wharflog/spec.l13Copy -/
def a87 : Ann := { heads := lookD [(0, [1, 2, 3, 4])] [], ends := lookT [(0, [1, 2, 3])], draws := lookD [(11, [([3], [39]), ([1], [40]), ([1, 40], [41]), ([4], [42]), ([1, 41, 42], [43]), ([1, 43], [44]), ([1, 44], [45]), ([], [46]), ([1], [47]), ([1, 47], [48]), ([4], [49]), ([1, 48, 49], [50]), ([1, 50], [51]), ([1, 51], [52]), ([1, 46, 52], [46, 53]), ([45, 53], [45, 53, 54]), ([54], [54, 55]), ([3, 39, 55], [3, 39, 55, 56]), ([56], [3, 56])])] [] }
/-- loop.example/wharflog/spec.l14Wish -/
def a88 : Ann := { heads := lookD [(0, [1, 2, 4, 5])] [], ends := lookT [(0, [1, 2, 4])] }
/-- loop.example/wharflog/laws.toRecDisk -/
def a89 : Ann := {}
/-- loop.example/wharflog/laws.toStringS -/
def a90 : Ann := { heads := lookD [(0, [0, 3, 4])] [], ends := lookT [(0, [3])] }
/-- loop.example/wharflog/laws.toIntS -/
def a91 : Ann := { heads := lookD [(0, [0, 3, 4])] [], ends := lookT [(0, [3])] }
/-- loop.example/wharflog/laws.toRecSlotS -/
def a92 : Ann := { heads := lookD [(0, [0, 3, 4])] [], ends := lookT [(0, [3])] }
/-- loop.example/wharflog/laws.toRecAckS -/
def a93 : Ann := { heads := lookD [(0, [0, 3, 4])] [], ends := lookT [(0, [3])] }
/-- loop.example/wharflog/impl.clone -/
def a94 : Ann := { heads := lookD [(0, [1, 2, 3, 31, 32, 33])] [], ends := lookT [(0, [1, 2, 3])], draws := lookD [(1, [([1], [6]), ([1, 6], [7]), ([1, 7], [8]), ([1], [9]), ([1, 9], [10]), ([1, 10], [11]), ([1], [12]), ([1, 8, 12], [1, 8, 12]), ([1], [13]), ([1, 11, 13], [1, 11, 13])]), (10, [([3], [37]), ([5], [38]), ([5, 38], [39]), ([5], [40]), ([5, 40], [41]), ([5, 41], [42]), ([39, 42], [39, 42, 43]), ([43], [43, 44]), ([3, 37, 44], [3, 37, 44, 45]), ([45], [3, 45])])] [] }
/-- (*loop.example/wharflog/impl.Recorder).wish -/
def a95 : Ann := { keep := [0] }
/-- loop.example/wharflog/laws.eqRecDisk -/
def a96 : Ann := {}
/-- loop.example/wharflog/laws.eqStringS -/
def a97 : Ann := { heads := lookD [(0, [0, 1, 5])] [], ends := lookT [(0, [])], draws := lookD [(6, [([0], [17]), ([5], [18]), ([0, 17, 18], [19]), ([0, 19], [20]), ([1], [21]), ([5], [22]), ([1, 21, 22], [23]), ([1, 23], [24]), ([20, 24], [25])])] [] }
/-- loop.example/wharflog/laws.eqIntS -/
def a98 : Ann := { heads := lookD [(0, [0, 1, 5])] [], ends := lookT [(0, [])], draws := lookD [(6, [([0], [17]), ([5], [18]), ([0, 17, 18], [19]), ([0, 19], [20]), ([1], [21]), ([5], [22]), ([1, 21, 22], [23]), ([1, 23], [24]), ([20, 24], [25])])] [] }
/-- loop.example/wharflog/laws.eqRecSlotS -/
def a99 : Ann := { heads := lookD [(0, [0, 1, 5])] [], ends := lookT [(0, [])], draws := lookD [(6, [([0], [17]), ([5], [18]), ([0, 17, 18], [19]), ([0, 19], [20]), ([1], [21]), ([5], [22]), ([1, 21, 22], [23]), ([1, 23], [24]), ([20, 24], [25]), ([25], [26])])] [] }
/-- loop.example/wharflog/laws.eqRecAckS -/
def a100 : Ann := { heads := lookD [(0, [0, 1, 5])] [], ends := lookT [(0, [])], draws := lookD [(6, [([0], [17]), ([5], [18]), ([0, 17, 18], [19]), ([0, 19], [20]), ([1], [21]), ([5], [22]), ([1, 21, 22], [23]), ([1, 23], [24]), ([0, 1, 20, 24], [25]), ([25], [26])])] [] }
/-- loop.example/wharflog/laws.markRecDisk -/
def a101 : Ann := { modes := [.io, .shr], keep := [0], mir := [(0, 2)] }
/-- loop.example/wharflog/laws.markRecMessageS -/
def a102 : Ann := { modes := [.io, .shr], keep := [0], heads := lookD [(0, [0, 1, 5])] [], ends := lookT [(0, [0, 1])] }
/-- loop.example/wharflog/laws.markStringS -/
def a103 : Ann := { modes := [.io, .shr], keep := [0], heads := lookD [(0, [0, 1, 5])] [], ends := lookT [(0, [0, 1])] }
/-- loop.example/wharflog/laws.markIntS -/
def a104 : Ann := { modes := [.io, .shr], keep := [0], heads := lookD [(0, [0, 1, 5])] [], ends := lookT [(0, [0, 1])] }
/-- loop.example/wharflog/laws.markRecSlotS -/
def a105 : Ann := { modes := [.io, .shr], keep := [0], heads := lookD [(0, [0, 1, 5])] [], ends := lookT [(0, [0, 1])] }
/-- loop.example/wharflog/laws.markRecAckS -/
def a106 : Ann := { modes := [.io, .shr], keep := [0], heads := lookD [(0, [0, 1, 5])] [], ends := lookT [(0, [0, 1])] }
/-- loop.example/wharflog/laws.heldRecDisk -/
def a107 : Ann := {}
/-- loop.example/wharflog/laws.heldRecMessageS -/
def a108 : Ann := { heads := lookD [(0, [0, 1, 5])] [], ends := lookT [(0, [1])], draws := lookD [(22, [([0], [66]), ([5], [67]), ([0, 66, 67], [68]), ([0, 68], [69]), ([0, 69], [70]), ([1], [71]), ([71], [72]), ([70, 72], [73])])] [] }
/-- loop.example/wharflog/laws.heldStringS -/
def a109 : Ann := { heads := lookD [(0, [0, 1, 5])] [], ends := lookT [(0, [1])], draws := lookD [(4, [([0], [12]), ([5], [13]), ([0, 12, 13], [14]), ([0, 14], [15]), ([1], [16]), ([16], [17]), ([15, 17], [18])])] [] }
/-- loop.example/wharflog/laws.heldIntS -/
def a110 : Ann := { heads := lookD [(0, [0, 1, 5])] [], ends := lookT [(0, [1])] }
/-- loop.example/wharflog/laws.heldRecSlotS -/
def a111 : Ann := { heads := lookD [(0, [0, 1, 5])] [], ends := lookT [(0, [1])], draws := lookD [(7, [([0], [21]), ([5], [22]), ([0, 21, 22], [23]), ([0, 23], [24]), ([0, 24], [25]), ([1], [26]), ([26], [27]), ([25, 27], [28])])] [] }
/-- loop.example/wharflog/laws.heldRecAckS -/
def a112 : Ann := { heads := lookD [(0, [0, 1, 5])] [], ends := lookT [(0, [1])] }
/-- loop.example/wharflog/spec.l13Any -/
def a113 : Ann := { keep := [0], heads := lookD [(1, [0, 2, 3, 4])] [], ends := lookT [(1, [0, 2, 3])], draws := lookD [(9, [([3], [27]), ([3, 27], [28]), ([3, 28], [29]), ([3], [30]), ([3, 30], [31]), ([3], [32]), ([3, 32], [33]), ([3, 33], [34]), ([3, 34], [35]), ([35], [36]), ([36], [37]), ([31, 37], [31, 37, 38]), ([38], [38, 39]), ([3, 29, 39], [3, 29, 40]), ([3], [41]), ([3, 41], [42]), ([3, 40, 42], [3, 40, 42])])] [] }
/-- (*loop.example/wharflog/impl.Recorder).fall -/
def a114 : Ann := { keep := [0], draws := lookD [(0, [([], [2]), ([], [3]), ([0, 3], [4]), ([0, 4], [5]), ([0, 5], [6]), ([], [7]), ([0, 7], [8]), ([0, 8], [9]), ([0, 9], [10]), ([], [11]), ([0, 11], [12]), ([0, 12], [13]), ([0, 13], [14]), ([], [15]), ([0, 15], [16]), ([0, 16], [17]), ([0, 17], [18]), ([0, 18], [19]), ([0, 6, 10, 14, 19], [0, 6, 10, 14, 19, 20]), ([0, 2], [21]), ([0, 20, 21], [0, 20, 21])])] [] }
/-- loop.example/wharflog/laws.wrMessages -/
def a115 : Ann := { heads := lookD [(0, [0, 1, 5])] [], ends := lookT [(0, [])], draws := lookD [(6, [([0], [17]), ([5], [18]), ([0, 17, 18], [19]), ([0, 19], [20]), ([1], [21]), ([5], [22]), ([1, 21, 22], [23]), ([1, 23], [24]), ([0, 1, 20, 24], [25]), ([25], [26])])] [] }
/-- loop.example/wharflog/laws.wrTexts -/
def a116 : Ann := { heads := lookD [(0, [0, 1, 5])] [], ends := lookT [(0, [])], draws := lookD [(6, [([0], [17]), ([5], [18]), ([0, 17, 18], [19]), ([0, 19], [20]), ([1], [21]), ([5], [22]), ([1, 21, 22], [23]), ([1, 23], [24]), ([20, 24], [25])])] [] }
/-- loop.example/wharflog/laws.wrNumbers -/
def a117 : Ann := { heads := lookD [(0, [0, 1, 5])] [], ends := lookT [(0, [])], draws := lookD [(6, [([0], [17]), ([5], [18]), ([0, 17, 18], [19]), ([0, 19], [20]), ([1], [21]), ([5], [22]), ([1, 21, 22], [23]), ([1, 23], [24]), ([20, 24], [25])])] [] }
/-- loop.example/wharflog/spec.l12Disk -/
def a118 : Ann := {}
/-- loop.example/wharflog/spec.l13WishesOk -/
def a119 : Ann := { heads := lookD [(2, [0, 3, 4]), (0, [0, 3])] [], ends := lookT [(2, [0, 3]), (0, [])], draws := lookD [(11, [([0], [33]), ([4], [34]), ([0, 33, 34], [35]), ([0, 35], [36]), ([0], [37]), ([3], [38]), ([0, 37, 38], [39]), ([0, 39], [40]), ([36, 40], [41])])] [] }
/-- loop.example/wharflog/spec.l13Numbers -/
def a120 : Ann := { heads := lookD [(0, [0, 1, 5])] [], ends := lookT [(0, [])], draws := lookD [(4, [([0], [12]), ([5], [13]), ([0, 12, 13], [14]), ([0, 14], [15]), ([1], [16]), ([15, 16], [17]), ([17], [18]), ([18], [19]), ([5, 19], [20]), ([19, 20], [21]), ([19, 21], [22]), ([0, 22], [23]), ([5, 22], [24]), ([22, 24], [25]), ([0, 22, 23, 25], [26]), ([0, 22, 26], [27]), ([0, 22], [28]), ([5, 22], [29]), ([0, 22, 28, 29], [30]), ([0, 22, 30], [31]), ([22, 27, 31], [32]), ([19, 22, 32], [33]), ([19, 33], [34])])] [] }
/-- loop.example/wharflog/spec.l13AcksOk -/
def a121 : Ann := { heads := lookD [(0, [0, 1, 5])] [], ends := lookT [(0, [])], draws := lookD [(4, [([0], [12]), ([5], [13]), ([0, 12, 13], [14]), ([0, 14], [15]), ([0, 15], [16]), ([16], [17]), ([17], [18]), ([18], [19]), ([0, 19], [20]), ([5, 19], [21]), ([0, 19, 20, 21], [22]), ([0, 19, 22], [23]), ([0, 19, 23], [24]), ([1, 19], [25]), ([0, 19, 24, 25], [26]), ([19, 26], [27]), ([19, 27], [28]), ([28], [29]), ([5, 29], [30]), ([29, 30], [31]), ([29, 31], [32]), ([0, 32], [33]), ([5, 32], [34]), ([32, 34], [35]), ([0, 32, 33, 35], [36]), ([0, 32, 36], [37]), ([0, 32, 37], [38]), ([0, 32], [39]), ([5, 32], [40]), ([0, 32, 39, 40], [41]), ([0, 32, 41], [42]), ([0, 32, 42], [43]), ([32, 38, 43], [44]), ([29, 32, 44], [45]), ([29, 45], [46])])] [] }
/-- loop.example/wharflog/spec.l13Quiet -/
def a122 : Ann := {}
/-- loop.example/wharflog/impl.people -/
def a123 : Ann := { heads := lookD [(0, [0, 1, 7, 8, 9])] [], ends := lookT [(0, [])] }
/-- slices.Contains[[]string,string] -/
def a124 : Ann := {}
/-- loop.example/wharflog/laws.szRecMessage -/
def a125 : Ann := {}
/-- loop.example/wharflog/laws.szRecFix -/
def a126 : Ann := {}
/-- loop.example/wharflog/laws.toRecMessage -/
def a127 : Ann := {}
/-- loop.example/wharflog/laws.toRecFix -/
def a128 : Ann := {}
/-- (*loop.example/wharflog/impl.Recorder).book -/
def a129 : Ann := { keep := [0], heads := lookD [(0, [0, 3, 16, 17, 18])] [], ends := lookT [(0, [0, 3])], draws := lookD [(2, [([0], [6]), ([0, 6], [7]), ([0, 7], [8]), ([0, 8], [9]), ([0, 9], [10]), ([0], [11]), ([0, 11], [12]), ([0, 12], [13]), ([0, 13], [14]), ([0, 14], [15]), ([0, 10, 15], [16]), ([0, 16], [17]), ([], [18])])] [] }
/-- (*loop.example/wharflog/impl.RecWorld).fixed -/
def a130 : Ann := { keep := [0], heads := lookD [(0, [0, 1, 11, 12, 13])] [], ends := lookT [(0, [0])] }
/-- (*loop.example/wharflog/impl.RecWorld).major -/
def a131 : Ann := { keep := [0], heads := lookD [(0, [0, 1, 6, 14, 15, 16])] [], ends := lookT [(0, [0])], draws := lookD [(7, [([6], [37]), ([9], [38]), ([6, 37, 38], [39]), ([39], [40]), ([6, 37, 38], [41]), ([41], [41, 42]), ([6, 37, 40, 42], [])]), (8, [([9], [43]), ([9, 43], [44]), ([44], [45]), ([45], [46]), ([6, 46], [47]), ([9, 46], [48]), ([6, 46, 47, 48], [49]), ([46, 49], [50]), ([0, 46], [51]), ([0, 46, 51], [52]), ([0, 46, 52], [53]), ([0, 46, 53], [54]), ([0, 46, 54], [55]), ([46, 50, 55], [56]), ([46, 56], [57])])] [] }
/-- loop.example/wharflog/laws.eqRecMessage -/
def a132 : Ann := {}
/-- loop.example/wharflog/laws.eqRecFix -/
def a133 : Ann := {}
/-- loop.example/wharflog/spec.RecNew -/
def a134 : Ann := {}
/-- loop.example/wharflog/impl.RecNew -/
def a135 : Ann := {}
/-- loop.example/wharflog/laws.eqLogAsked -/
def a136 : Ann := {}
/-- loop.example/wharflog/laws.markRecorderS -/
def a137 : Ann := { modes := [.io, .shr], keep := [0], heads := lookD [(0, [0, 1, 5])] [], ends := lookT [(0, [0, 1])] }
/-- loop.example/wharflog/laws.markRecFixS -/
def a138 : Ann := { modes := [.io, .shr], keep := [0], heads := lookD [(0, [0, 1, 5])] [], ends := lookT [(0, [0, 1])] }
/-- loop.example/wharflog/laws.markText -/
def a139 : Ann := { heads := lookD [(0, [0, 3])] [], ends := lookT [(0, [3])] }
/-- loop.example/wharflog/laws.markBookWantS -/
def a140 : Ann := { modes := [.io, .shr], keep := [0], heads := lookD [(0, [0, 1, 5])] [], ends := lookT [(0, [0, 1])] }
/-- loop.example/wharflog/laws.markBookWriteS -/
def a141 : Ann := { modes := [.io, .shr], keep := [0], heads := lookD [(0, [0, 1, 5])] [], ends := lookT [(0, [0, 1])] }
/-- loop.example/wharflog/laws.heldRecorderS -/
def a142 : Ann := { heads := lookD [(0, [0, 1, 5])] [], ends := lookT [(0, [1])] }
/-- loop.example/wharflog/laws.heldRecFixS -/
def a143 : Ann := { heads := lookD [(0, [0, 1, 5])] [], ends := lookT [(0, [1])], draws := lookD [(7, [([0], [21]), ([5], [22]), ([0, 21, 22], [23]), ([0, 23], [24]), ([0, 24], [25]), ([1], [26]), ([26], [27]), ([25, 27], [28])])] [] }
/-- loop.example/wharflog/laws.heldBookWantS -/
def a144 : Ann := { heads := lookD [(0, [0, 1, 5])] [], ends := lookT [(0, [1])], draws := lookD [(4, [([0], [12]), ([5], [13]), ([0, 12, 13], [14]), ([0, 14], [15]), ([0, 15], [16]), ([1], [17]), ([17], [18]), ([16, 18], [19])]), (7, [([0], [22]), ([5], [23]), ([0, 22, 23], [24]), ([0, 24], [25]), ([0, 25], [26]), ([1], [27]), ([27], [28]), ([26, 28], [29])])] [] }
/-- loop.example/wharflog/laws.heldBookWriteS -/
def a145 : Ann := { heads := lookD [(0, [0, 1, 5])] [], ends := lookT [(0, [1])], draws := lookD [(7, [([0], [21]), ([5], [22]), ([0, 21, 22], [23]), ([0, 23], [24]), ([0, 24], [25]), ([1], [26]), ([26], [27]), ([25, 27], [28])]), (10, [([0], [31]), ([5], [32]), ([0, 31, 32], [33]), ([0, 33], [34]), ([0, 34], [35]), ([1], [36]), ([36], [37]), ([35, 37], [38])]), (16, [([0], [50]), ([5], [51]), ([0, 50, 51], [52]), ([0, 52], [53]), ([0, 53], [54]), ([1], [55]), ([55], [56]), ([54, 56], [57])]), (19, [([0], [60]), ([5], [61]), ([0, 60, 61], [62]), ([0, 62], [63]), ([0, 63], [64]), ([1], [65]), ([65], [66]), ([64, 66], [67])])] [] }
/-- loop.example/wharflog/spec.l12Text -/
def a146 : Ann := { keep := [0] }
/-- loop.example/wharflog/spec.l17Reached -/
def a147 : Ann := { keep := [0], heads := lookD [(2, [0, 2, 3, 4, 5]), (0, [0, 2, 3, 4])] [], ends := lookT [(2, [0, 2, 3, 4]), (0, [0, 2, 3])], draws := lookD [(8, [([3], [24]), ([0], [25]), ([3], [26]), ([3, 26], [27]), ([3, 27], [28]), ([0, 25, 28], [0, 25, 29]), ([3, 24, 29], [30]), ([3, 30], [3, 30])]), (11, [([3], [35]), ([0], [36]), ([0, 36], [0, 36, 37]), ([3, 35, 37], [38]), ([3, 38], [3, 38])]), (15, [([3], [45]), ([0], [46]), ([0, 46], [0, 46, 47]), ([3, 45, 47], [48]), ([3, 48], [3, 48])])] [] }
/-- loop.example/wharflog/laws.szRecSlot -/
def a148 : Ann := {}
/-- loop.example/wharflog/laws.szRecAck -/
def a149 : Ann := {}
/-- loop.example/wharflog/spec.l13Messages -/
def a150 : Ann := { heads := lookD [(0, [0, 3, 4])] [], ends := lookT [(0, [3])] }
/-- loop.example/wharflog/spec.l14Has -/
def a151 : Ann := { heads := lookD [(0, [0, 1, 5])] [], ends := lookT [(0, [])] }
/-- loop.example/wharflog/laws.toRecSlot -/
def a152 : Ann := {}
/-- loop.example/wharflog/laws.toRecAck -/
def a153 : Ann := {}
/-- loop.example/wharflog/impl.cloneDisk -/
def a154 : Ann := {}
/-- loop.example/wharflog/impl.cloneMessages -/
def a155 : Ann := { heads := lookD [(0, [0, 3, 6, 7, 8])] [], ends := lookT [(0, [3])] }
/-- loop.example/wharflog/impl.cloneSlots -/
def a156 : Ann := {}
/-- (*loop.example/wharflog/impl.Recorder).known -/
def a157 : Ann := { keep := [0], heads := lookD [(0, [0, 1, 17, 18, 19])] [], ends := lookT [(0, [0])], draws := lookD [(1, [([0], [7]), ([0, 7], [8]), ([0, 8], [9]), ([0, 9], [10]), ([0, 10], [11]), ([0], [12]), ([0, 12], [13]), ([0, 13], [14]), ([0, 14], [15]), ([0, 15], [16]), ([0, 11, 16], [17]), ([0, 17], [18]), ([], [19])])] [] }
/-- loop.example/wharflog/laws.eqRecSlot -/
def a158 : Ann := {}
/-- loop.example/wharflog/laws.eqRecAck -/
def a159 : Ann := {}
/-- loop.example/wharflog/spec.l13Spoil -/
def a160 : Ann := { keep := [0], draws := lookD [(5, [([5], [25]), ([5, 25], [26]), ([5], [27]), ([5, 27], [28]), ([28], [29]), ([26, 29], [26, 29, 30]), ([0], [31]), ([0, 31], [0, 31, 32]), ([30, 32], [33]), ([30, 33], [34]), ([5], [35]), ([5, 34, 35], [5, 34, 35])]), (13, [([5], [60]), ([5, 60], [61]), ([], [62]), ([0, 62], [0, 62, 63]), ([5], [64]), ([5, 64], [65]), ([65], [65, 66]), ([], [67]), ([0, 67], [0, 67, 68]), ([66, 68], [69]), ([66, 69], [70]), ([63, 70], [63, 70, 71]), ([71], [71, 72]), ([5, 61, 72], [5, 61, 72, 73]), ([5], [74]), ([5, 73, 74], [5, 73, 74])]), (15, [([5], [77]), ([5, 77], [78]), ([], [79]), ([0], [80]), ([0, 80], [0, 80, 81]), ([79, 81], [82]), ([79, 82], [83]), ([83], [83, 84]), ([5, 78, 84], [5, 78, 85]), ([5], [86]), ([5, 85, 86], [5, 85, 86])]), (21, [([5], [101]), ([5, 101], [102]), ([5, 102], [103]), ([5], [104]), ([5, 104], [105]), ([5, 105], [106]), ([106], [107]), ([103, 107], [103, 107, 108]), ([0], [109]), ([0, 109], [0, 109, 110]), ([108, 110], [111]), ([108, 111], [112]), ([5], [113]), ([5, 112, 113], [5, 112, 113])]), (23, [([5], [116]), ([5, 116], [117]), ([0], [118]), ([0, 118], [0, 118, 119]), ([119], [119, 120]), ([5, 117, 120], [5, 117, 121]), ([5], [122]), ([5, 121, 122], [5, 121, 122])]), (25, [([5], [125]), ([5, 125], [126]), ([], [127]), ([], [128]), ([0, 128], [0, 128, 129]), ([127, 129], [130]), ([127, 130], [131]), ([], [132]), ([0, 132], [0, 132, 133]), ([133], [133, 134]), ([131, 134], [131, 134, 135]), ([135], [135, 136]), ([5, 126, 136], [5, 126, 136, 137]), ([5], [138]), ([5, 137, 138], [5, 137, 138])]), (3, [([5], [10]), ([5, 10], [11]), ([], [12]), ([0, 12], [0, 12, 13]), ([], [14]), ([], [15]), ([0, 15], [0, 15, 16]), ([14, 16], [17]), ([14, 17], [18]), ([13, 18], [13, 18, 19]), ([19], [19, 20]), ([5, 11, 20], [5, 11, 21]), ([5], [22]), ([5, 21, 22], [5, 21, 22])])] [] }
/-- loop.example/wharflog/spec.l19Dec -/
def a161 : Ann := {}
/-- loop.example/wharflog/spec.l13Calm -/
def a162 : Ann := {}
/-- loop.example/wharflog/laws.wrMessage -/
def a163 : Ann := {}
/-- slices.Index[[]string,string] -/
def a164 : Ann := { heads := lookD [(0, [0, 1, 7, 8])] [], ends := lookT [(0, [])] }
/-- loop.example/wharflog/laws.eqBookCall -/
def a165 : Ann := {}
/-- loop.example/wharflog/laws.eqBookSaid -/
def a166 : Ann := {}
/-- loop.example/wharflog/spec.l17Do -/
def a167 : Ann := { draws := lookD [(9, []), (13, [([2], [80]), ([2, 80], [81]), ([3], [82]), ([3, 82], [83]), ([2], [84]), ([2, 84], [85]), ([3], [86]), ([3, 86], [87]), ([2, 85, 87], [88]), ([2, 88], [89]), ([2, 89], [90]), ([2, 81, 83], [91]), ([2, 90, 91], [2, 90, 91])]), (15, [([2], [99]), ([2, 99], [100]), ([3], [101]), ([3, 101], [102]), ([2], [103]), ([2, 103], [104]), ([3], [105]), ([3, 105], [106]), ([2, 104, 106], [107]), ([2, 107], [108]), ([2, 108], [109]), ([2, 100, 102], [110]), ([2, 109, 110], [2, 109, 110])]), (17, [([2], [118]), ([2, 118], [119]), ([3], [120]), ([3, 120], [121]), ([2], [122]), ([2, 122], [123]), ([3], [124]), ([3, 124], [125]), ([2, 123, 125], [126]), ([2, 126], [127]), ([3], [128]), ([3, 128], [129]), ([2, 127, 129], [130]), ([2, 119, 121], [131]), ([2, 130, 131], [2, 130, 131])])] [] }
/-- loop.example/wharflog/spec.l17Event -/
def a168 : Ann := { keep := [0] }
/-- loop.example/wharflog/spec.RecCalm -/
def a169 : Ann := { heads := lookD [(2, [1, 4, 5, 6, 7]), (0, [1, 4, 5, 6])] [], ends := lookT [(2, [1, 4, 5, 6]), (0, [4, 5])] }
/-- loop.example/wharflog/spec.l17Impatient -/
def a170 : Ann := { modes := [.shr, .io], keep := [0, 1], mir := [(1, 3)] }
/-- loop.example/wharflog/spec.l17Copy -/
def a171 : Ann := { heads := lookD [(0, [1, 2, 3, 4])] [], ends := lookT [(0, [2, 3])], draws := lookD [(1, [([1], [5]), ([1, 5], [6]), ([1, 6], [7]), ([], [8]), ([1], [9]), ([1, 9], [10]), ([1, 8, 10], [8, 11]), ([7, 11], [7, 11, 12]), ([], [3]), ([3, 12], [3, 12])]), (5, [([3], [20]), ([3, 20], [21]), ([1], [22]), ([1, 22], [23]), ([4], [24]), ([1, 23, 24], [25]), ([1, 25], [26]), ([1, 26], [27]), ([27], [27, 28]), ([3, 21, 28], [3, 21, 28, 29]), ([3], [30]), ([3, 29, 30], [3, 29, 30])])] [] }
/-- loop.example/wharflog/spec.l13Message -/
def a172 : Ann := {}
/-- loop.example/wharflog/spec.l8Dec -/
def a173 : Ann := { draws := lookD [(5, [([0], [16]), ([16], [17]), ([17], [18]), ([0], [19]), ([19], [20]), ([20], [21]), ([21], [22]), ([22], [22, 23]), ([23], [24]), ([18, 24], [25]), ([25], [2])])] [] }
/-- loop.example/wharflog/laws.eqBookBundle -/
def a174 : Ann := {}
/-- loop.example/wharflog/spec.l17Tick -/
def a175 : Ann := { heads := lookD [(2, [1, 2, 3, 5, 6]), (0, [1, 2, 3])] [], ends := lookT [(2, [1, 2, 3]), (0, [1, 2])], draws := lookD [(9, [([1], [40]), ([1, 40], [41]), ([5], [42]), ([6], [43]), ([5, 42, 43], [44]), ([5, 44], [45]), ([5, 45], [5, 45, 46]), ([1, 41, 46], [1, 41, 46, 47]), ([1], [48]), ([1, 47, 48], [1, 47, 48])])] [] }
/-- loop.example/wharflog/spec.l17Bring -/
def a176 : Ann := { draws := lookD [(3, [([2], [16]), ([2, 16], [17]), ([5], [18]), ([5, 18], [19]), ([19], [20]), ([2], [21]), ([2, 21], [22]), ([5], [23]), ([5, 23], [24]), ([24], [25]), ([2, 22, 25], [26]), ([2, 26], [27]), ([5], [28]), ([2, 5, 27, 28], [29]), ([2, 17, 20], [30]), ([2, 29, 30], [2, 29, 30])])] [] }
/-- loop.example/wharflog/spec.l17Out -/
def a177 : Ann := { draws := lookD [(1, [])] [] }
/-- loop.example/wharflog/laws.eqBookWantS -/
def a178 : Ann := { heads := lookD [(0, [0, 1, 5])] [], ends := lookT [(0, [])], draws := lookD [(6, [([0], [17]), ([5], [18]), ([0, 17, 18], [19]), ([0, 19], [20]), ([1], [21]), ([5], [22]), ([1, 21, 22], [23]), ([1, 23], [24]), ([20, 24], [25]), ([25], [26])])] [] }
/-- loop.example/wharflog/laws.eqBookWriteS -/
def a179 : Ann := { heads := lookD [(0, [0, 1, 5])] [], ends := lookT [(0, [])], draws := lookD [(6, [([0], [17]), ([5], [18]), ([0, 17, 18], [19]), ([0, 19], [20]), ([1], [21]), ([5], [22]), ([1, 21, 22], [23]), ([1, 23], [24]), ([20, 24], [25]), ([25], [26])])] [] }
/-- loop.example/wharflog/spec.RecTick -/
def a180 : Ann := { heads := lookD [(2, [2, 4, 5, 9, 10]), (0, [2, 4, 5, 6, 7])] [], ends := lookT [(2, [2, 4, 5]), (0, [2, 4, 5, 6])], draws := lookD [(14, [([5], [42]), ([5, 42], [43]), ([5, 43], [44]), ([5], [45]), ([5, 45], [46]), ([5, 46], [47]), ([5, 44, 47], [48]), ([5], [49]), ([5, 49], [50]), ([7], [51]), ([5, 50, 51], [52]), ([5, 52], [53]), ([5, 48, 53], [54]), ([54], [55])]), (36, [([5], [139]), ([9], [140]), ([10], [141]), ([9, 140, 141], [142]), ([9, 142], [143]), ([5, 9, 139, 143], [144]), ([5, 144], [5, 144])])] [] }
/-- loop.example/wharflog/spec.l17Fix -/
def a181 : Ann := { heads := lookD [(2, [1, 2, 3, 4]), (0, [1, 2, 3])] [], ends := lookT [(2, [1, 2, 3, 4]), (0, [1, 2])], draws := lookD [(12, [([], [58]), ([1], [59]), ([1, 59], [60]), ([4], [61]), ([1, 60, 61], [62]), ([1, 58, 62], [58, 63]), ([3], [64]), ([5], [65]), ([64, 65], [64, 65, 66]), ([66], [66, 67]), ([63, 67], [63, 68]), ([1], [69]), ([1, 69], [70]), ([4], [71]), ([1, 70, 71], [72]), ([1, 68, 72], [68, 73]), ([1], [74]), ([1, 73, 74], [1, 73, 74])])] [] }
/-- loop.example/wharflog/spec.RecTake -/
def a182 : Ann := { draws := lookD [(6, [([5], [30]), ([3], [31]), ([3, 31], [32]), ([5, 30, 32], [33]), ([33], [34]), ([4, 34], [4, 34])])] [] }
/-- loop.example/wharflog/laws.eqBookWant -/
def a183 : Ann := {}
/-- loop.example/wharflog/laws.eqBookWrite -/
def a184 : Ann := {}
/-- loop.example/wharflog/spec.l14Promised -/
def a185 : Ann := { heads := lookD [(0, [3, 6, 7, 8, 9])] [], ends := lookT [(0, [3, 6])], draws := lookD [(13, [([3], [46]), ([9], [47]), ([47], [48]), ([7], [49]), ([8], [50]), ([9], [51]), ([8, 50, 51], [52]), ([8, 52], [53]), ([8, 53], [54]), ([49, 54], [49, 54, 55]), ([3, 46, 48, 55], [56]), ([3, 56], [3, 56])])] [] }
/-- loop.example/wharflog/spec.l15Lead -/
def a186 : Ann := { heads := lookD [(4, [1, 2, 4, 8]), (2, [1, 2, 4, 7]), (0, [1, 2, 4, 6])] [], ends := lookT [(4, [1, 2, 4]), (2, [1, 2, 4]), (0, [1, 2, 4])], draws := lookD [(4, [([2], [17]), ([2, 17], [18]), ([2, 18], [19]), ([6], [20]), ([2, 19, 20], [21]), ([2, 21], [22]), ([2, 22], [23]), ([2], [24]), ([2, 24], [25]), ([23, 25], [26])]), (9, [([2], [40]), ([2, 40], [41]), ([2, 41], [42]), ([2], [43]), ([2, 43], [44]), ([7], [45]), ([2, 44, 45], [46]), ([2, 46], [47]), ([2, 42, 47], [48]), ([48], [49]), ([49], [50]), ([2, 50], [51]), ([2, 50, 51], [52]), ([2, 50, 52], [53]), ([2, 50, 53], [54]), ([50, 54], [55]), ([50, 55], [56])]), (10, [([2], [57]), ([2], [58]), ([2, 58], [59]), ([2, 59], [60]), ([2, 60], [61]), ([61], [62]), ([2], [63]), ([2, 63], [64]), ([2], [65]), ([2, 65], [66]), ([7], [67]), ([2, 66, 67], [68]), ([2, 68], [69]), ([64, 69], [64, 69, 70]), ([2, 57, 62, 70], [71]), ([2, 71], [2, 71])]), (15, [([2], [92]), ([1], [93]), ([2], [94]), ([2, 94], [95]), ([8], [96]), ([96], [97]), ([2], [98]), ([2, 98], [99]), ([2, 99], [100]), ([8], [101]), ([2, 100, 101], [102]), ([2, 102], [103]), ([2, 103], [104]), ([95, 97, 104], [95, 97, 104, 105]), ([1, 2, 92, 93, 105], [106]), ([106], [1, 106])])] [] }
/-- loop.example/wharflog/spec.l15Others -/
def a187 : Ann := { heads := lookD [(0, [1, 3, 5, 7])] [], ends := lookT [(0, [1])] }
/-- loop.example/wharflog/spec.l13Hold -/
def a188 : Ann := {}
/-- loop.example/wharflog/spec.l17Knows -/
def a189 : Ann := { heads := lookD [(0, [1, 2, 6])] [], ends := lookT [(0, [])] }
/-- loop.example/wharflog/spec.l14Take -/
def a190 : Ann := { heads := lookD [(1, [2, 3, 4, 5])] [], ends := lookT [(1, [2, 4])], draws := lookD [(6, [([2], [28]), ([3], [29]), ([3, 29], [30]), ([3], [31]), ([3, 31], [32]), ([2], [33]), ([2, 33], [34]), ([2, 34], [35]), ([2, 35], [36]), ([30, 32, 36], [30, 32, 36, 37]), ([2, 28, 37], [38]), ([4, 38], [4, 38])]), (34, [([2], [218]), ([3], [219]), ([3, 219], [220]), ([2], [221]), ([2, 221], [222]), ([5], [223]), ([2], [224]), ([2, 224], [225]), ([2, 225], [226]), ([5], [227]), ([227], [228]), ([2, 226, 228], [229]), ([2, 229], [230]), ([2, 230], [231]), ([220, 222, 223, 231], [220, 222, 223, 231, 232]), ([2, 218, 232], [233]), ([2, 233], [2, 233])])] [] }
/-- loop.example/wharflog/spec.l13Add -/
def a191 : Ann := { heads := lookD [(0, [0, 1, 5])] [], ends := lookT [(0, [0, 1, 5])], draws := lookD [(6, [([], [33]), ([0], [34]), ([5], [35]), ([0, 34, 35], [36]), ([0, 33, 36], [33, 37]), ([1], [38]), ([38], [38, 39]), ([37, 39], [37, 40]), ([0], [41]), ([5], [42]), ([0, 41, 42], [43]), ([0, 40, 43], [40, 44]), ([44], [4, 44])])] [] }
/-- loop.example/wharflog/spec.l14Set -/
def a192 : Ann := { heads := lookD [(0, [1, 3, 5, 6])] [], ends := lookT [(0, [1, 3, 5, 6])] }
/-- loop.example/wharflog/spec.l14Ack -/
def a193 : Ann := { heads := lookD [(0, [1, 2, 3, 6, 7])] [], ends := lookT [(0, [1, 2, 3, 6, 7])], draws := lookD [(5, []), (6, [([3], [56]), ([3, 56], [57]), ([7], [58]), ([3], [59]), ([3, 59], [60]), ([7], [61]), ([3, 60, 61], [62]), ([3, 62], [63]), ([3, 63], [64]), ([2], [65]), ([3, 64, 65], [66]), ([3, 57, 58], [67]), ([3, 67], [68]), ([3, 66, 68], [3, 66, 68])])] [] }
/-- loop.example/wharflog/spec.l14Follow -/
def a194 : Ann := {}
/-- loop.example/wharflog/spec.l14Beat -/
def a195 : Ann := { heads := lookD [(2, [2, 3, 4, 5]), (0, [2, 3, 4])] [], ends := lookT [(2, [2, 4]), (0, [2, 3, 4])], draws := lookD [(4, [([2], [21]), ([2, 21], [22]), ([2, 22], [23]), ([3], [24]), ([3, 24], [25]), ([23, 25], [26]), ([26], [27]), ([2, 27], [28]), ([2, 27, 28], [29]), ([2, 27, 29], [30]), ([2, 27], [31]), ([2, 27, 31], [32]), ([2, 27, 32], [33]), ([2, 27, 33], [34]), ([27, 30, 34], [35]), ([27, 35], [36]), ([36], [37]), ([2, 37], [38]), ([2, 37, 38], [39]), ([2, 37, 39], [40]), ([2, 37], [41]), ([2, 37, 41], [42]), ([2, 37, 42], [43]), ([2, 37, 40, 43], [44]), ([2, 37, 44], [45]), ([2, 37, 45], [46]), ([3, 37], [47]), ([3, 37, 47], [48]), ([37, 46, 48], [49]), ([37, 49], [50])]), (11, [([2], [81]), ([3], [82]), ([3, 82], [83]), ([2], [84]), ([2, 84], [85]), ([5], [86]), ([2, 85, 86], [87]), ([2, 87], [88]), ([83, 88], [83, 88, 89]), ([2, 81, 89], [90]), ([2, 90], [2, 90])])] [] }
/-- loop.example/wharflog/spec.l14Advance -/
def a196 : Ann := { heads := lookD [(0, [1, 2, 3])] [], ends := lookT [(0, [1, 2])], draws := lookD [(5, [([4], [17]), ([4, 17], [18]), ([1], [19]), ([1, 19], [20]), ([1, 20], [21]), ([21], [22]), ([18, 22], [23]), ([23], [24]), ([4, 24], [25]), ([4, 24, 25], [26]), ([4, 24, 26], [27]), ([24, 27], [28]), ([1, 24], [29]), ([1, 24, 29], [30]), ([24, 28, 30], [31]), ([24, 31], [32]), ([32], [33]), ([4, 33], [34]), ([4, 33, 34], [35]), ([1, 33], [36]), ([1, 33, 36], [37]), ([1, 33, 37], [38]), ([1, 33, 38], [39]), ([33, 35, 39], [40]), ([33, 40], [41]), ([41], [42]), ([1, 42], [43]), ([1, 42, 43], [44]), ([1, 42, 44], [45]), ([4, 42], [46]), ([4, 42, 46], [47]), ([42, 47], [48]), ([1, 42, 45, 48], [49]), ([1, 42, 49], [50]), ([1, 42, 50], [51]), ([1, 42], [52]), ([1, 42, 52], [53]), ([42, 51, 53], [54]), ([42, 54], [55])])] [] }
def anns : List (Nat × Ann) := [(2, a2), (3, a3), (4, a4), (5, a5), (6, a6), (7, a7), (8, a8), (9, a9), (10, a10), (11, a11), (12, a12), (13, a13), (14, a14), (15, a15), (16, a16), (17, a17), (18, a18), (19, a19), (20, a20), (21, a21), (22, a22), (23, a23), (24, a24), (25, a25), (26, a26), (27, a27), (28, a28), (29, a29), (30, a30), (31, a31), (32, a32), (33, a33), (34, a34), (35, a35), (36, a36), (37, a37), (38, a38), (39, a39), (40, a40), (41, a41), (42, a42), (43, a43), (44, a44), (45, a45), (46, a46), (47, a47), (48, a48), (49, a49), (50, a50), (51, a51), (52, a52), (53, a53), (54, a54), (55, a55), (56, a56), (57, a57), (58, a58), (59, a59), (60, a60), (61, a61), (62, a62), (63, a63), (64, a64), (65, a65), (66, a66), (67, a67), (68, a68), (69, a69), (70, a70), (71, a71), (72, a72), (73, a73), (74, a74), (75, a75), (76, a76), (77, a77), (78, a78), (79, a79), (80, a80), (81, a81), (82, a82), (83, a83), (84, a84), (85, a85), (86, a86), (87, a87), (88, a88), (89, a89), (90, a90), (91, a91), (92, a92), (93, a93), (94, a94), (95, a95), (96, a96), (97, a97), (98, a98), (99, a99), (100, a100), (101, a101), (102, a102), (103, a103), (104, a104), (105, a105), (106, a106), (107, a107), (108, a108), (109, a109), (110, a110), (111, a111), (112, a112), (113, a113), (114, a114), (115, a115), (116, a116), (117, a117), (118, a118), (119, a119), (120, a120), (121, a121), (122, a122), (123, a123), (124, a124), (125, a125), (126, a126), (127, a127), (128, a128), (129, a129), (130, a130), (131, a131), (132, a132), (133, a133), (134, a134), (135, a135), (136, a136), (137, a137), (138, a138), (139, a139), (140, a140), (141, a141), (142, a142), (143, a143), (144, a144), (145, a145), (146, a146), (147, a147), (148, a148), (149, a149), (150, a150), (151, a151), (152, a152), (153, a153), (154, a154), (155, a155), (156, a156), (157, a157), (158, a158), (159, a159), (160, a160), (161, a161), (162, a162), (163, a163), (164, a164), (165, a165), (166, a166), (167, a167), (168, a168), (169, a169), (170, a170), (171, a171), (172, a172), (173, a173), (174, a174), (175, a175), (176, a176), (177, a177), (178, a178), (179, a179), (180, a180), (181, a181), (182, a182), (183, a183), (184, a184), (185, a185), (186, a186), (187, a187), (188, a188), (189, a189), (190, a190), (191, a191), (192, a192), (193, a193), (194, a194), (195, a195), (196, a196)]
def E : Env := ⟨lookT tbl, fun _ => false, lookD anns {}, []⟩
set_option maxRecDepth 100000
theorem eT : E.T 2 = some ⟨.prim, 1, 8, [.p (.int .i64 0)]⟩ ∧
  E.T 3 = some ⟨.prim, 1, 8, [.p (.int .i64 0)]⟩ ∧
  E.T 4 = some ⟨.prim, 1, 1, [.p (.bool false)]⟩ ∧
  E.T 5 = some ⟨.prim, 1, 1, [.p (.int .u8 0)]⟩ ∧
  E.T 6 = some ⟨.prim, 1, 1, [.p (.int .u8 0)]⟩ ∧
  E.T 7 = some ⟨.strct [(0, 1, false), (1, 1, false), (2, 1, false), (3, 1, false)], 4, 24, [.p (.int .i64 0), .p (.int .i64 0), .p (.bool false), .p (.int .u8 0)]⟩ ∧
  E.T 8 = some ⟨.strct [(0, 1, false), (1, 1, false), (2, 1, false), (3, 1, false)], 4, 24, [.p (.int .i64 0), .p (.int .i64 0), .p (.bool false), .p (.int .u8 0)]⟩ ∧
  E.T 9 = some ⟨.prim, 1, 16, [.p (.string ⟨#[]⟩)]⟩ ∧
  E.T 10 = some ⟨.prim, 1, 16, [.p (.string ⟨#[]⟩)]⟩ ∧
  E.T 11 = some ⟨.prim, 1, 16, [.p (.string ⟨#[]⟩)]⟩ ∧
  E.T 12 = some ⟨.prim, 1, 8, [.p (.int .u64 0)]⟩ ∧
  E.T 13 = some ⟨.strct [(0, 1, false), (1, 1, false)], 2, 24, [.p (.string ⟨#[]⟩), .p (.int .u64 0)]⟩ ∧
  E.T 14 = some ⟨.strct [(0, 1, false), (1, 1, false)], 2, 24, [.p (.string ⟨#[]⟩), .p (.int .u64 0)]⟩ ∧
  E.T 15 = some ⟨.ptr 222, 1, 8, [.p (.pointer none)]⟩ ∧
  E.T 16 = some ⟨.ptr 225, 1, 8, [.p (.pointer none)]⟩ ∧
  E.T 17 = some ⟨.ptr 235, 1, 8, [.p (.pointer none)]⟩ ∧
  E.T 18 = some ⟨.strct [(0, 1, false)], 1, 8, [.p (.pointer none)]⟩ ∧
  E.T 19 = some ⟨.strct [(0, 1, false)], 1, 8, [.p (.pointer none)]⟩ ∧
  E.T 21 = some ⟨.prim, 1, 4, [.p (.int .i32 0)]⟩ ∧
  E.T 22 = some ⟨.slc 72, 1, 24, [.sl .own 18 []]⟩ ∧
  E.T 23 = some ⟨.slc 142, 1, 24, [.sl .own 8 []]⟩ ∧
  E.T 24 = some ⟨.slc 145, 1, 24, [.sl .own 2 []]⟩ ∧
  E.T 25 = some ⟨.strct [(0, 1, false), (1, 1, false), (2, 1, false)], 3, 72, [.sl .own 18 [], .sl .own 8 [], .sl .own 2 []]⟩ ∧
  E.T 26 = some ⟨.strct [(0, 1, false), (1, 1, false), (2, 1, false)], 3, 72, [.sl .own 18 [], .sl .own 8 [], .sl .own 2 []]⟩ ∧
  E.T 29 = some ⟨.slc 76, 1, 24, [.sl .own 18 []]⟩ ∧
  E.T 30 = some ⟨.slc 59, 1, 24, [.sl .own 8 []]⟩ ∧
  E.T 31 = some ⟨.slc 146, 1, 24, [.sl .own 2 []]⟩ ∧
  E.T 32 = some ⟨.strct [(0, 1, false), (1, 1, false), (2, 1, false)], 3, 72, [.sl .own 18 [], .sl .own 8 [], .sl .own 2 []]⟩ ∧
  E.T 33 = some ⟨.strct [(0, 1, false), (1, 1, false), (2, 1, false)], 3, 72, [.sl .own 18 [], .sl .own 8 [], .sl .own 2 []]⟩ ∧
  E.T 37 = some ⟨.slc 165, 1, 24, [.sl .own 9 []]⟩ ∧
  E.T 38 = some ⟨.strct [(0, 3, true), (3, 1, false), (4, 1, false)], 5, 104, [.sl .own 18 [], .sl .own 8 [], .sl .own 2 [], .p (.int .i64 0), .sl .own 9 []]⟩ ∧
  E.T 39 = some ⟨.strct [(0, 3, true), (3, 1, false), (4, 1, false)], 5, 104, [.sl .own 18 [], .sl .own 8 [], .sl .own 2 [], .p (.int .i64 0), .sl .own 9 []]⟩ ∧
  E.T 44 = some ⟨.slc 5, 1, 24, [.sl .own 1 []]⟩ ∧
  E.T 45 = some ⟨.slc 51, 1, 24, [.sl .own 2 []]⟩ ∧
  E.T 50 = some ⟨.strct [(0, 1, false), (1, 1, false)], 2, 24, [.p (.int .i64 0), .p (.string ⟨#[]⟩)]⟩ ∧
  E.T 51 = some ⟨.strct [(0, 1, false), (1, 1, false)], 2, 24, [.p (.int .i64 0), .p (.string ⟨#[]⟩)]⟩ ∧
  E.T 55 = some ⟨.strct [(0, 1, false), (1, 1, false), (2, 1, false)], 3, 40, [.p (.int .i64 0), .p (.int .i64 0), .sl .own 2 []]⟩ ∧
  E.T 56 = some ⟨.strct [(0, 1, false), (1, 1, false), (2, 1, false)], 3, 40, [.p (.int .i64 0), .p (.int .i64 0), .sl .own 2 []]⟩ ∧
  E.T 58 = some ⟨.strct [(0, 1, false), (1, 1, false), (2, 1, false), (3, 1, false), (4, 1, false), (5, 1, false), (6, 1, false), (7, 1, false)], 8, 88, [.p (.int .i64 0), .p (.int .i64 0), .p (.int .i64 0), .p (.int .i64 0), .p (.int .i64 0), .p (.int .i64 0), .p (.string ⟨#[]⟩), .sl .own 2 []]⟩ ∧
  E.T 59 = some ⟨.strct [(0, 1, false), (1, 1, false), (2, 1, false), (3, 1, false), (4, 1, false), (5, 1, false), (6, 1, false), (7, 1, false)], 8, 88, [.p (.int .i64 0), .p (.int .i64 0), .p (.int .i64 0), .p (.int .i64 0), .p (.int .i64 0), .p (.int .i64 0), .p (.string ⟨#[]⟩), .sl .own 2 []]⟩ ∧
  E.T 65 = some ⟨.slc 176, 1, 24, [.sl .own 2 []]⟩ ∧
  E.T 66 = some ⟨.strct [(0, 1, false), (1, 1, false), (2, 1, false)], 3, 40, [.p (.int .i64 0), .p (.int .i64 0), .sl .own 2 []]⟩ ∧
  E.T 67 = some ⟨.strct [(0, 1, false), (1, 1, false), (2, 1, false)], 3, 40, [.p (.int .i64 0), .p (.int .i64 0), .sl .own 2 []]⟩ ∧
  E.T 68 = some ⟨.slc 9, 1, 24, [.sl .own 1 []]⟩ ∧
  E.T 69 = some ⟨.slc 3, 1, 24, [.sl .own 1 []]⟩ ∧
  E.T 70 = some ⟨.slc 178, 1, 24, [.sl .own 2 []]⟩ ∧
  E.T 71 = some ⟨.strct [(0, 1, false), (1, 1, false), (2, 1, false), (3, 3, true), (6, 3, true), (9, 1, false), (10, 1, false), (11, 1, false), (12, 1, false), (13, 1, false), (14, 1, false), (15, 1, false), (16, 1, false), (17, 1, false)], 18, 248, [.p (.int .i64 0), .p (.int .i64 0), .p (.bool false), .p (.int .i64 0), .p (.int .i64 0), .sl .own 2 [], .p (.int .i64 0), .p (.int .i64 0), .sl .own 2 [], .sl .own 8 [], .sl .own 1 [], .p (.bool false), .p (.bool false), .p (.int .i64 0), .sl .own 1 [], .sl .own 2 [], .sl .own 2 [], .p (.int .i64 0)]⟩ ∧
  E.T 72 = some ⟨.strct [(0, 1, false), (1, 1, false), (2, 1, false), (3, 3, true), (6, 3, true), (9, 1, false), (10, 1, false), (11, 1, false), (12, 1, false), (13, 1, false), (14, 1, false), (15, 1, false), (16, 1, false), (17, 1, false)], 18, 248, [.p (.int .i64 0), .p (.int .i64 0), .p (.bool false), .p (.int .i64 0), .p (.int .i64 0), .sl .own 2 [], .p (.int .i64 0), .p (.int .i64 0), .sl .own 2 [], .sl .own 8 [], .sl .own 1 [], .p (.bool false), .p (.bool false), .p (.int .i64 0), .sl .own 1 [], .sl .own 2 [], .sl .own 2 [], .p (.int .i64 0)]⟩ ∧
  E.T 74 = some ⟨.slc 134, 1, 24, [.sl .own 2 []]⟩ ∧
  E.T 75 = some ⟨.strct [(0, 1, false), (1, 1, false), (2, 1, false), (3, 3, true), (6, 3, true), (9, 1, false), (10, 1, false), (11, 1, false), (12, 1, false), (13, 1, false), (14, 1, false), (15, 1, false), (16, 1, false), (17, 1, false)], 18, 248, [.p (.int .i64 0), .p (.int .i64 0), .p (.bool false), .p (.int .i64 0), .p (.int .i64 0), .sl .own 2 [], .p (.int .i64 0), .p (.int .i64 0), .sl .own 2 [], .sl .own 8 [], .sl .own 1 [], .p (.bool false), .p (.bool false), .p (.int .i64 0), .sl .own 1 [], .sl .own 2 [], .sl .own 2 [], .p (.int .i64 0)]⟩ ∧
  E.T 76 = some ⟨.strct [(0, 1, false), (1, 1, false), (2, 1, false), (3, 3, true), (6, 3, true), (9, 1, false), (10, 1, false), (11, 1, false), (12, 1, false), (13, 1, false), (14, 1, false), (15, 1, false), (16, 1, false), (17, 1, false)], 18, 248, [.p (.int .i64 0), .p (.int .i64 0), .p (.bool false), .p (.int .i64 0), .p (.int .i64 0), .sl .own 2 [], .p (.int .i64 0), .p (.int .i64 0), .sl .own 2 [], .sl .own 8 [], .sl .own 1 [], .p (.bool false), .p (.bool false), .p (.int .i64 0), .sl .own 1 [], .sl .own 2 [], .sl .own 2 [], .p (.int .i64 0)]⟩ ∧
  E.T 103 = some ⟨.ptr 172, 1, 8, [.p (.pointer none)]⟩ ∧
  E.T 133 = some ⟨.strct [(0, 1, false), (1, 1, false)], 2, 32, [.p (.int .i64 0), .sl .own 1 []]⟩ ∧
  E.T 134 = some ⟨.strct [(0, 1, false), (1, 1, false)], 2, 32, [.p (.int .i64 0), .sl .own 1 []]⟩ ∧
  E.T 141 = some ⟨.strct [(0, 1, false), (1, 1, false), (2, 1, false), (3, 1, false), (4, 1, false), (5, 1, false), (6, 1, false), (7, 1, false)], 8, 88, [.p (.int .i64 0), .p (.int .i64 0), .p (.int .i64 0), .p (.int .i64 0), .p (.int .i64 0), .p (.int .i64 0), .p (.string ⟨#[]⟩), .sl .own 2 []]⟩ ∧
  E.T 142 = some ⟨.strct [(0, 1, false), (1, 1, false), (2, 1, false), (3, 1, false), (4, 1, false), (5, 1, false), (6, 1, false), (7, 1, false)], 8, 88, [.p (.int .i64 0), .p (.int .i64 0), .p (.int .i64 0), .p (.int .i64 0), .p (.int .i64 0), .p (.int .i64 0), .p (.string ⟨#[]⟩), .sl .own 2 []]⟩ ∧
  E.T 144 = some ⟨.strct [(0, 1, false), (1, 1, false)], 2, 24, [.p (.int .i64 0), .p (.string ⟨#[]⟩)]⟩ ∧
  E.T 145 = some ⟨.strct [(0, 1, false), (1, 1, false)], 2, 24, [.p (.int .i64 0), .p (.string ⟨#[]⟩)]⟩ ∧
  E.T 146 = some ⟨.strct [(0, 1, false), (1, 1, false)], 2, 24, [.p (.int .i64 0), .p (.string ⟨#[]⟩)]⟩ ∧
  E.T 149 = some ⟨.ptr 33, 1, 8, [.p (.pointer none)]⟩ ∧
  E.T 156 = some ⟨.slc 193, 1, 24, [.sl .own 3 []]⟩ ∧
  E.T 157 = some ⟨.slc 195, 1, 24, [.sl .own 6 []]⟩ ∧
  E.T 158 = some ⟨.strct [(0, 1, false), (1, 1, false)], 2, 48, [.sl .own 3 [], .sl .own 6 []]⟩ ∧
  E.T 159 = some ⟨.strct [(0, 1, false), (1, 1, false)], 2, 48, [.sl .own 3 [], .sl .own 6 []]⟩ ∧
  E.T 160 = some ⟨.strct [(0, 1, false), (1, 1, false), (2, 2, true)], 4, 72, [.p (.string ⟨#[]⟩), .p (.int .i64 0), .sl .own 3 [], .sl .own 6 []]⟩ ∧
  E.T 161 = some ⟨.strct [(0, 1, false), (1, 1, false), (2, 2, true)], 4, 72, [.p (.string ⟨#[]⟩), .p (.int .i64 0), .sl .own 3 [], .sl .own 6 []]⟩ ∧
  E.T 162 = some ⟨.strct [(0, 1, false), (1, 1, false), (2, 1, false)], 3, 24, [.p (.int .i64 0), .p (.int .i64 0), .p (.bool false)]⟩ ∧
  E.T 163 = some ⟨.strct [(0, 1, false), (1, 1, false), (2, 1, false)], 3, 24, [.p (.int .i64 0), .p (.int .i64 0), .p (.bool false)]⟩ ∧
  E.T 164 = some ⟨.strct [(0, 4, true), (4, 1, false), (5, 1, false), (6, 3, true)], 9, 112, [.p (.string ⟨#[]⟩), .p (.int .i64 0), .sl .own 3 [], .sl .own 6 [], .p (.int .i64 0), .p (.int .i64 0), .p (.int .i64 0), .p (.int .i64 0), .p (.bool false)]⟩ ∧
  E.T 165 = some ⟨.strct [(0, 4, true), (4, 1, false), (5, 1, false), (6, 3, true)], 9, 112, [.p (.string ⟨#[]⟩), .p (.int .i64 0), .sl .own 3 [], .sl .own 6 [], .p (.int .i64 0), .p (.int .i64 0), .p (.int .i64 0), .p (.int .i64 0), .p (.bool false)]⟩ ∧
  E.T 171 = some ⟨.strct [(0, 1, false), (1, 1, false)], 2, 32, [.sl .own 1 [], .p (.int .i64 0)]⟩ ∧
  E.T 172 = some ⟨.strct [(0, 1, false), (1, 1, false)], 2, 32, [.sl .own 1 [], .p (.int .i64 0)]⟩ ∧
  E.T 176 = some ⟨.strct [(0, 1, false), (1, 1, false)], 2, 24, [.p (.int .i64 0), .p (.string ⟨#[]⟩)]⟩ ∧
  E.T 178 = some ⟨.strct [(0, 1, false), (1, 1, false)], 2, 32, [.p (.int .i64 0), .sl .own 1 []]⟩ ∧
  E.T 183 = some ⟨.ptr 76, 1, 8, [.p (.pointer none)]⟩ ∧
  E.T 192 = some ⟨.strct [(0, 1, false), (1, 1, false), (2, 1, false)], 3, 40, [.p (.string ⟨#[]⟩), .p (.string ⟨#[]⟩), .p (.int .i64 0)]⟩ ∧
  E.T 193 = some ⟨.strct [(0, 1, false), (1, 1, false), (2, 1, false)], 3, 40, [.p (.string ⟨#[]⟩), .p (.string ⟨#[]⟩), .p (.int .i64 0)]⟩ ∧
  E.T 194 = some ⟨.strct [(0, 1, false), (1, 1, false), (2, 1, false), (3, 1, false), (4, 1, false), (5, 1, false)], 6, 80, [.p (.int .i64 0), .p (.string ⟨#[]⟩), .p (.string ⟨#[]⟩), .p (.int .i64 0), .p (.string ⟨#[]⟩), .p (.string ⟨#[]⟩)]⟩ ∧
  E.T 195 = some ⟨.strct [(0, 1, false), (1, 1, false), (2, 1, false), (3, 1, false), (4, 1, false), (5, 1, false)], 6, 80, [.p (.int .i64 0), .p (.string ⟨#[]⟩), .p (.string ⟨#[]⟩), .p (.int .i64 0), .p (.string ⟨#[]⟩), .p (.string ⟨#[]⟩)]⟩ ∧
  E.T 197 = some ⟨.strct [(0, 1, false), (1, 1, false), (2, 1, false)], 3, 32, [.p (.int .i64 0), .p (.int .i64 0), .p (.string ⟨#[]⟩)]⟩ ∧
  E.T 198 = some ⟨.strct [(0, 1, false), (1, 1, false), (2, 1, false)], 3, 32, [.p (.int .i64 0), .p (.int .i64 0), .p (.string ⟨#[]⟩)]⟩ ∧
  E.T 221 = some ⟨.strct [(0, 1, false), (1, 1, false), (2, 1, false), (3, 1, false)], 4, 40, [.p (.pointer none), .p (.pointer none), .p (.pointer none), .p (.string ⟨#[]⟩)]⟩ ∧
  E.T 222 = some ⟨.strct [(0, 1, false), (1, 1, false), (2, 1, false), (3, 1, false)], 4, 40, [.p (.pointer none), .p (.pointer none), .p (.pointer none), .p (.string ⟨#[]⟩)]⟩ ∧
  E.T 227 = some ⟨.prim, 1, 4, [.p (.int .u32 0)]⟩ ∧
  E.T 228 = some ⟨.prim, 1, 1, [.p (.int .u8 0)]⟩ ∧
  E.T 229 = some ⟨.prim, 1, 1, [.p (.int .u8 0)]⟩ ∧
  E.T 231 = some ⟨.ptr 5, 1, 8, [.p (.pointer none)]⟩ ∧
  E.T 232 = some ⟨.prim, 1, 4, [.p (.int .i32 0)]⟩ ∧
  E.T 233 = some ⟨.prim, 1, 4, [.p (.int .i32 0)]⟩ := by
  refine ⟨?_, ?_, ?_, ?_, ?_, ?_, ?_, ?_, ?_, ?_, ?_, ?_, ?_, ?_, ?_, ?_, ?_, ?_, ?_, ?_, ?_, ?_, ?_, ?_, ?_, ?_, ?_, ?_, ?_, ?_, ?_, ?_, ?_, ?_, ?_, ?_, ?_, ?_, ?_, ?_, ?_, ?_, ?_, ?_, ?_, ?_, ?_, ?_, ?_, ?_, ?_, ?_, ?_, ?_, ?_, ?_, ?_, ?_, ?_, ?_, ?_, ?_, ?_, ?_, ?_, ?_, ?_, ?_, ?_, ?_, ?_, ?_, ?_, ?_, ?_, ?_, ?_, ?_, ?_, ?_, ?_, ?_, ?_, ?_, ?_, ?_, ?_, ?_, ?_⟩ <;> rfl
theorem e2 : (E.ann 2).modes = [] ∧ (E.ann 2).keep = [] ∧ (E.ann 2).mir = [] := by
  refine ⟨?_, ?_, ?_⟩ <;> rfl
theorem e3 : (E.ann 3).modes = [] ∧ (E.ann 3).keep = [] ∧ (E.ann 3).mir = [] ∧ (E.ann 3).draws 10 = [([5], [22]), ([1], [23]), ([1, 23], [24]), ([5, 22, 24], [25]), ([25], [26])] := by
  refine ⟨?_, ?_, ?_, ?_⟩ <;> rfl
theorem e4 : (E.ann 4).modes = [] ∧ (E.ann 4).keep = [] ∧ (E.ann 4).mir = [] := by
  refine ⟨?_, ?_, ?_⟩ <;> rfl
theorem e5 : (E.ann 5).modes = [] ∧ (E.ann 5).keep = [] ∧ (E.ann 5).mir = [] ∧ (E.ann 5).heads 0 = [0, 3, 4, 5, 6] ∧ (E.ann 5).ends 0 = some [0] ∧ (E.ann 5).ends 1 = none ∧ (E.ann 5).draws 10 = [([6], [53]), ([3], [54]), ([3, 54], [55]), ([53, 55], [56]), ([56], [57]), ([5, 57], [58]), ([6, 57], [59]), ([5, 57, 58, 59], [60]), ([5, 57, 60], [61]), ([5, 57, 61], [62]), ([3, 57], [63]), ([6, 57], [64]), ([3, 57, 63, 64], [65]), ([3, 57, 65], [66]), ([3, 57, 66], [67]), ([57, 62, 67], [68]), ([57, 68], [69]), ([69], [70]), ([6, 70], [71]), ([4, 70], [72]), ([4, 70, 72], [73]), ([70, 71, 73], [74]), ([70, 74], [75]), ([5, 75], [76]), ([6, 75], [77]), ([5, 75, 76, 77], [78]), ([5, 75, 78], [79]), ([5, 75, 79], [80]), ([4, 75], [81]), ([6, 75], [82]), ([4, 75, 81, 82], [83]), ([4, 75, 83], [84]), ([4, 75, 84], [85]), ([75, 80, 85], [86]), ([70, 75, 86], [87]), ([70, 87], [88])] ∧ (E.ann 5).draws 12 = [([6], [89]), ([3], [90]), ([3, 90], [91]), ([89, 91], [92]), ([92], [93]), ([5, 93], [94]), ([6, 93], [95]), ([5, 93, 94, 95], [96]), ([5, 93, 96], [97]), ([3, 93], [98]), ([6, 93], [99]), ([3, 93, 98, 99], [100]), ([3, 93, 100], [101]), ([93, 97, 101], [102]), ([93, 102], [103]), ([103], [104]), ([6, 104], [105]), ([4, 104], [106]), ([4, 104, 106], [107]), ([104, 105, 107], [108]), ([104, 108], [109]), ([5, 109], [110]), ([6, 109], [111]), ([5, 109, 110, 111], [112]), ([5, 109, 112], [113]), ([4, 109], [114]), ([6, 109], [115]), ([4, 109, 114, 115], [116]), ([4, 109, 116], [117]), ([109, 113, 117], [118]), ([104, 109, 118], [119]), ([104, 119], [120])] ∧ (E.ann 5).draws 20 = [([11], [168]), ([11, 168], [169]), ([11], [170]), ([11, 170], [171]), ([169, 171], [172]), ([172], [173]), ([12, 173], [174]), ([13, 173], [175]), ([12, 173, 174, 175], [176]), ([12, 173], [177]), ([13, 173], [178]), ([12, 173, 177, 178], [179]), ([173, 176, 179], [180]), ([173, 180], [181]), ([181], [2])] := by
  refine ⟨?_, ?_, ?_, ?_, ?_, ?_, ?_, ?_, ?_⟩ <;> rfl
theorem e6 : (E.ann 6).modes = [] ∧ (E.ann 6).keep = [] ∧ (E.ann 6).mir = [] ∧ (E.ann 6).draws 12 = [([7], [34]), ([2], [35]), ([2, 35], [36]), ([7, 34, 36], [37]), ([37], [38])] := by
  refine ⟨?_, ?_, ?_, ?_⟩ <;> rfl
theorem e7 : (E.ann 7).modes = [] ∧ (E.ann 7).keep = [] ∧ (E.ann 7).mir = [] ∧ (E.ann 7).draws 6 = [([4], [15]), ([3], [16]), ([3, 16], [17]), ([4, 15, 17], [18]), ([18], [19]), ([19], [20]), ([5, 20], [21]), ([3, 20], [22]), ([3, 20, 22], [23]), ([20, 23], [24]), ([5, 20, 21, 24], [25]), ([20, 25], [26]), ([20, 26], [27])] := by
  refine ⟨?_, ?_, ?_, ?_⟩ <;> rfl
theorem e8 : (E.ann 8).modes = [] ∧ (E.ann 8).keep = [] ∧ (E.ann 8).mir = [] := by
  refine ⟨?_, ?_, ?_⟩ <;> rfl
theorem e9 : (E.ann 9).modes = [] ∧ (E.ann 9).keep = [] ∧ (E.ann 9).mir = [] ∧ (E.ann 9).heads 4 = [1, 8] ∧ (E.ann 9).heads 2 = [1, 3, 4, 5] ∧ (E.ann 9).heads 0 = [1, 3] ∧ (E.ann 9).ends 0 = some [1] ∧ (E.ann 9).ends 1 = none ∧ (E.ann 9).ends 2 = some [1, 3] ∧ (E.ann 9).ends 3 = none ∧ (E.ann 9).ends 4 = some [] ∧ (E.ann 9).ends 5 = none := by
  refine ⟨?_, ?_, ?_, ?_, ?_, ?_, ?_, ?_, ?_, ?_, ?_, ?_⟩ <;> rfl
theorem e10 : (E.ann 10).modes = [] ∧ (E.ann 10).keep = [] ∧ (E.ann 10).mir = [] := by
  refine ⟨?_, ?_, ?_⟩ <;> rfl
theorem e11 : (E.ann 11).modes = [] ∧ (E.ann 11).keep = [] ∧ (E.ann 11).mir = [] := by
  refine ⟨?_, ?_, ?_⟩ <;> rfl
theorem e12 : (E.ann 12).modes = [] ∧ (E.ann 12).keep = [] ∧ (E.ann 12).mir = [] := by
  refine ⟨?_, ?_, ?_⟩ <;> rfl
theorem e13 : (E.ann 13).modes = [] ∧ (E.ann 13).keep = [] ∧ (E.ann 13).mir = [] := by
  refine ⟨?_, ?_, ?_⟩ <;> rfl
theorem e14 : (E.ann 14).modes = [] ∧ (E.ann 14).keep = [] ∧ (E.ann 14).mir = [] := by
  refine ⟨?_, ?_, ?_⟩ <;> rfl
theorem e15 : (E.ann 15).modes = [] ∧ (E.ann 15).keep = [] ∧ (E.ann 15).mir = [] := by
  refine ⟨?_, ?_, ?_⟩ <;> rfl
theorem e16 : (E.ann 16).modes = [.io, .shr] ∧ (E.ann 16).keep = [0] ∧ (E.ann 16).mir = [(0, 2)] := by
  refine ⟨?_, ?_, ?_⟩ <;> rfl
theorem e17 : (E.ann 17).modes = [] ∧ (E.ann 17).keep = [] ∧ (E.ann 17).mir = [] := by
  refine ⟨?_, ?_, ?_⟩ <;> rfl
theorem e18 : (E.ann 18).modes = [] ∧ (E.ann 18).keep = [] ∧ (E.ann 18).mir = [] := by
  refine ⟨?_, ?_, ?_⟩ <;> rfl
theorem e19 : (E.ann 19).modes = [] ∧ (E.ann 19).keep = [] ∧ (E.ann 19).mir = [] ∧ (E.ann 19).heads 0 = [1, 5, 10, 11, 12] ∧ (E.ann 19).ends 0 = some [5] ∧ (E.ann 19).ends 1 = none ∧ (E.ann 19).ends 2 = none ∧ (E.ann 19).draws 7 = [([7], [27]), ([7, 27], [28]), ([5], [29]), ([6], [30]), ([5, 29, 30], [31]), ([5, 31], [32]), ([5, 32], [33]), ([28, 33], [34]), ([34], [26])] := by
  refine ⟨?_, ?_, ?_, ?_, ?_, ?_, ?_, ?_⟩ <;> rfl
theorem e20 : (E.ann 20).modes = [] ∧ (E.ann 20).keep = [] ∧ (E.ann 20).mir = [] ∧ (E.ann 20).heads 0 = [0, 1, 5] ∧ (E.ann 20).ends 0 = some [] ∧ (E.ann 20).ends 1 = none ∧ (E.ann 20).draws 6 = [([0], [17]), ([5], [18]), ([0, 17, 18], [19]), ([0, 19], [20]), ([1], [21]), ([5], [22]), ([1, 21, 22], [23]), ([1, 23], [24]), ([20, 24], [25])] := by
  refine ⟨?_, ?_, ?_, ?_, ?_, ?_, ?_⟩ <;> rfl
theorem e21 : (E.ann 21).modes = [] ∧ (E.ann 21).keep = [] ∧ (E.ann 21).mir = [] ∧ (E.ann 21).heads 0 = [1, 5, 6] ∧ (E.ann 21).ends 0 = some [5] ∧ (E.ann 21).ends 1 = none ∧ (E.ann 21).draws 7 = [([1], [26]), ([6], [27]), ([1, 26, 27], [28]), ([1, 28], [29]), ([1, 29], [30]), ([5], [31]), ([6], [32]), ([5, 31, 32], [33]), ([5, 33], [34]), ([5, 34], [35]), ([30, 35], [36])] := by
  refine ⟨?_, ?_, ?_, ?_, ?_, ?_, ?_⟩ <;> rfl
theorem e22 : (E.ann 22).modes = [] ∧ (E.ann 22).keep = [] ∧ (E.ann 22).mir = [] ∧ (E.ann 22).draws 2 = [] := by
  refine ⟨?_, ?_, ?_, ?_⟩ <;> rfl
theorem e23 : (E.ann 23).modes = [] ∧ (E.ann 23).keep = [] ∧ (E.ann 23).mir = [] ∧ (E.ann 23).heads 0 = [1, 2, 7] ∧ (E.ann 23).ends 0 = some [] ∧ (E.ann 23).ends 1 = none ∧ (E.ann 23).draws 6 = [([7], [28]), ([2], [29]), ([28, 29], [30]), ([1], [31]), ([2], [32]), ([31, 32], [33]), ([30, 33], [34])] := by
  refine ⟨?_, ?_, ?_, ?_, ?_, ?_, ?_⟩ <;> rfl
theorem e24 : (E.ann 24).modes = [] ∧ (E.ann 24).keep = [] ∧ (E.ann 24).mir = [] := by
  refine ⟨?_, ?_, ?_⟩ <;> rfl
theorem e25 : (E.ann 25).modes = [] ∧ (E.ann 25).keep = [] ∧ (E.ann 25).mir = [] := by
  refine ⟨?_, ?_, ?_⟩ <;> rfl
theorem e26 : (E.ann 26).modes = [] ∧ (E.ann 26).keep = [] ∧ (E.ann 26).mir = [] ∧ (E.ann 26).ends 0 = none ∧ (E.ann 26).draws 19 = [([6], [71]), ([5], [72]), ([5, 72], [73]), ([2, 6, 71], [2, 6, 71]), ([73], [3])] := by
  refine ⟨?_, ?_, ?_, ?_, ?_⟩ <;> rfl
theorem e27 : (E.ann 27).modes = [] ∧ (E.ann 27).keep = [] ∧ (E.ann 27).mir = [] ∧ (E.ann 27).heads 0 = [1, 25, 26, 27] ∧ (E.ann 27).ends 0 = some [] ∧ (E.ann 27).ends 1 = none := by
  refine ⟨?_, ?_, ?_, ?_, ?_, ?_⟩ <;> rfl
theorem e28 : (E.ann 28).modes = [] ∧ (E.ann 28).keep = [] ∧ (E.ann 28).mir = [] ∧ (E.ann 28).heads 0 = [1, 3] ∧ (E.ann 28).ends 0 = some [] ∧ (E.ann 28).ends 1 = none ∧ (E.ann 28).draws 6 = [([1], [30]), ([1, 30], [31]), ([3], [32]), ([1, 31, 32], [33]), ([1, 33], [34]), ([1, 34], [35]), ([1], [36]), ([1, 36], [37]), ([35, 37], [38]), ([38], [39]), ([3, 39], [40]), ([1, 39], [41]), ([1, 39, 41], [42]), ([39, 40, 42], [43]), ([39, 43], [44]), ([1, 44], [45]), ([1, 44, 45], [46]), ([3, 44], [47]), ([1, 44, 46, 47], [48]), ([1, 44, 48], [49]), ([1, 44, 49], [50]), ([44, 50], [51]), ([39, 44, 51], [52]), ([39, 52], [53])] := by
  refine ⟨?_, ?_, ?_, ?_, ?_, ?_, ?_⟩ <;> rfl
theorem e29 : (E.ann 29).modes = [] ∧ (E.ann 29).keep = [] ∧ (E.ann 29).mir = [] := by
  refine ⟨?_, ?_, ?_⟩ <;> rfl
theorem e30 : (E.ann 30).modes = [] ∧ (E.ann 30).keep = [] ∧ (E.ann 30).mir = [] := by
  refine ⟨?_, ?_, ?_⟩ <;> rfl
theorem e31 : (E.ann 31).modes = [] ∧ (E.ann 31).keep = [] ∧ (E.ann 31).mir = [] := by
  refine ⟨?_, ?_, ?_⟩ <;> rfl
theorem e32 : (E.ann 32).modes = [] ∧ (E.ann 32).keep = [] ∧ (E.ann 32).mir = [] := by
  refine ⟨?_, ?_, ?_⟩ <;> rfl
theorem e33 : (E.ann 33).modes = [] ∧ (E.ann 33).keep = [] ∧ (E.ann 33).mir = [] := by
  refine ⟨?_, ?_, ?_⟩ <;> rfl
theorem e34 : (E.ann 34).modes = [] ∧ (E.ann 34).keep = [] ∧ (E.ann 34).mir = [] := by
  refine ⟨?_, ?_, ?_⟩ <;> rfl
theorem e35 : (E.ann 35).modes = [] ∧ (E.ann 35).keep = [] ∧ (E.ann 35).mir = [] := by
  refine ⟨?_, ?_, ?_⟩ <;> rfl
theorem e36 : (E.ann 36).modes = [.io, .shr] ∧ (E.ann 36).keep = [0] ∧ (E.ann 36).mir = [(0, 2)] := by
  refine ⟨?_, ?_, ?_⟩ <;> rfl
theorem e37 : (E.ann 37).modes = [] ∧ (E.ann 37).keep = [] ∧ (E.ann 37).mir = [] := by
  refine ⟨?_, ?_, ?_⟩ <;> rfl
theorem e38 : (E.ann 38).modes = [] ∧ (E.ann 38).keep = [] ∧ (E.ann 38).mir = [] := by
  refine ⟨?_, ?_, ?_⟩ <;> rfl
theorem e39 : (E.ann 39).modes = [] ∧ (E.ann 39).keep = [] ∧ (E.ann 39).mir = [] := by
  refine ⟨?_, ?_, ?_⟩ <;> rfl
theorem e40 : (E.ann 40).modes = [] ∧ (E.ann 40).keep = [] ∧ (E.ann 40).mir = [] := by
  refine ⟨?_, ?_, ?_⟩ <;> rfl
theorem e41 : (E.ann 41).modes = [] ∧ (E.ann 41).keep = [] ∧ (E.ann 41).mir = [] ∧ (E.ann 41).heads 0 = [2, 3, 5] ∧ (E.ann 41).ends 0 = some [] ∧ (E.ann 41).ends 1 = none ∧ (E.ann 41).draws 6 = [([2], [117]), ([2, 117], [118]), ([5], [119]), ([2, 118, 119], [120]), ([2, 120], [121]), ([2, 121], [122]), ([3], [123]), ([3, 123], [124]), ([5], [125]), ([3, 124, 125], [126]), ([3, 126], [127]), ([3, 127], [128]), ([122, 128], [129]), ([129], [130]), ([2, 130], [131]), ([2, 130, 131], [132]), ([5, 130], [133]), ([2, 130, 132, 133], [134]), ([2, 130, 134], [135]), ([2, 130, 135], [136]), ([3, 130], [137]), ([3, 130, 137], [138]), ([5, 130], [139]), ([3, 130, 138, 139], [140]), ([3, 130, 140], [141]), ([3, 130, 141], [142]), ([2, 3, 130, 136, 142], [143]), ([130, 143], [144]), ([130, 144], [145])] := by
  refine ⟨?_, ?_, ?_, ?_, ?_, ?_, ?_⟩ <;> rfl
theorem e42 : (E.ann 42).modes = [] ∧ (E.ann 42).keep = [] ∧ (E.ann 42).mir = [] ∧ (E.ann 42).draws 3 = [([1], [7]), ([1, 7], [8]), ([1], [9]), ([1, 9], [10]), ([1], [11]), ([1, 11], [12]), ([1, 12], [13]), ([1], [14]), ([1, 14], [15]), ([1, 15], [16]), ([8, 10, 13, 16], [8, 10, 13, 16, 17]), ([2, 17], [2, 17])] := by
  refine ⟨?_, ?_, ?_, ?_⟩ <;> rfl
theorem e43 : (E.ann 43).modes = [] ∧ (E.ann 43).keep = [] ∧ (E.ann 43).mir = [] := by
  refine ⟨?_, ?_, ?_⟩ <;> rfl
theorem e44 : (E.ann 44).modes = [] ∧ (E.ann 44).keep = [] ∧ (E.ann 44).mir = [] ∧ (E.ann 44).heads 0 = [1, 3] ∧ (E.ann 44).ends 0 = some [1] ∧ (E.ann 44).ends 1 = none ∧ (E.ann 44).draws 6 = [([1], [53]), ([1, 53], [54]), ([3], [55]), ([1, 54, 55], [56]), ([1, 56], [57]), ([1], [58]), ([1, 58], [59]), ([1, 57, 59], [60]), ([60], [61]), ([61], [62]), ([1, 62], [63]), ([1, 62, 63], [64]), ([3, 62], [65]), ([1, 62, 64, 65], [66]), ([1, 62, 66], [67]), ([1, 62, 67], [68]), ([1, 62], [69]), ([1, 62, 69], [70]), ([62, 68, 70], [71]), ([62, 71], [72])] := by
  refine ⟨?_, ?_, ?_, ?_, ?_, ?_, ?_⟩ <;> rfl
theorem e45 : (E.ann 45).modes = [] ∧ (E.ann 45).keep = [] ∧ (E.ann 45).mir = [] ∧ (E.ann 45).heads 4 = [1, 107, 108, 109] ∧ (E.ann 45).heads 2 = [1, 86, 87, 88] ∧ (E.ann 45).heads 0 = [1, 66, 67, 68] ∧ (E.ann 45).ends 0 = some [1] ∧ (E.ann 45).ends 1 = none ∧ (E.ann 45).ends 2 = some [1] ∧ (E.ann 45).ends 3 = none ∧ (E.ann 45).ends 4 = some [1] ∧ (E.ann 45).ends 5 = none ∧ (E.ann 45).draws 18 = [([8], [114]), ([8, 114], [115]), ([115], [116]), ([116], [117]), ([117], [118]), ([8, 118], [119]), ([8, 118, 119], [120]), ([1, 118], [121]), ([1, 118, 121], [122]), ([8, 118, 120, 122], [123]), ([118, 123], [124]), ([118, 124], [125]), ([125], [126]), ([7, 126], [127]), ([126, 127], [128]), ([126, 128], [129]), ([8, 129], [130]), ([8, 129, 130], [131]), ([1, 129], [132]), ([1, 129, 132], [133]), ([7, 129], [134]), ([129, 134], [135]), ([1, 129, 133, 135], [136]), ([1, 129, 136], [137]), ([1, 129, 137], [138]), ([129, 131, 138], [139]), ([126, 129, 139], [140]), ([126, 140], [141])] := by
  refine ⟨?_, ?_, ?_, ?_, ?_, ?_, ?_, ?_, ?_, ?_, ?_, ?_, ?_⟩ <;> rfl
theorem e46 : (E.ann 46).modes = [] ∧ (E.ann 46).keep = [] ∧ (E.ann 46).mir = [] := by
  refine ⟨?_, ?_, ?_⟩ <;> rfl
theorem e47 : (E.ann 47).modes = [] ∧ (E.ann 47).keep = [] ∧ (E.ann 47).mir = [] ∧ (E.ann 47).heads 0 = [0, 1, 5] ∧ (E.ann 47).ends 0 = some [1] ∧ (E.ann 47).ends 1 = none := by
  refine ⟨?_, ?_, ?_, ?_, ?_, ?_⟩ <;> rfl
theorem e48 : (E.ann 48).modes = [] ∧ (E.ann 48).keep = [] ∧ (E.ann 48).mir = [] ∧ (E.ann 48).heads 0 = [0, 1, 5] ∧ (E.ann 48).ends 0 = some [1] ∧ (E.ann 48).ends 1 = none := by
  refine ⟨?_, ?_, ?_, ?_, ?_, ?_⟩ <;> rfl
theorem e49 : (E.ann 49).modes = [] ∧ (E.ann 49).keep = [] ∧ (E.ann 49).mir = [] ∧ (E.ann 49).heads 0 = [0, 1, 5] ∧ (E.ann 49).ends 0 = some [1] ∧ (E.ann 49).ends 1 = none := by
  refine ⟨?_, ?_, ?_, ?_, ?_, ?_⟩ <;> rfl
theorem e50 : (E.ann 50).modes = [] ∧ (E.ann 50).keep = [] ∧ (E.ann 50).mir = [] ∧ (E.ann 50).heads 4 = [1, 6] ∧ (E.ann 50).heads 2 = [1, 3, 5] ∧ (E.ann 50).heads 0 = [1, 3, 4] ∧ (E.ann 50).ends 0 = some [1, 3] ∧ (E.ann 50).ends 1 = none ∧ (E.ann 50).ends 2 = some [1] ∧ (E.ann 50).ends 3 = none ∧ (E.ann 50).ends 4 = some [] ∧ (E.ann 50).ends 5 = none ∧ (E.ann 50).draws 17 = [([1], [74]), ([1, 74], [75]), ([6], [76]), ([1, 75, 76], [77]), ([1, 77], [78]), ([1, 78], [79]), ([79], [80]), ([80], [81]), ([81], [82]), ([1, 82], [83]), ([1, 82, 83], [84]), ([6, 82], [85]), ([1, 82, 84, 85], [86]), ([1, 82, 86], [87]), ([1, 82, 87], [88]), ([82, 88], [89]), ([82, 89], [90]), ([82, 90], [91]), ([91], [92]), ([6, 92], [93]), ([92, 93], [94]), ([92, 94], [95]), ([1, 95], [96]), ([1, 95, 96], [97]), ([6, 95], [98]), ([95, 98], [99]), ([1, 95, 97, 99], [100]), ([1, 95, 100], [101]), ([1, 95, 101], [102]), ([1, 95], [103]), ([1, 95, 103], [104]), ([6, 95], [105]), ([1, 95, 104, 105], [106]), ([1, 95, 106], [107]), ([1, 95, 107], [108]), ([95, 102, 108], [109]), ([92, 95, 109], [110]), ([92, 110], [111])] := by
  refine ⟨?_, ?_, ?_, ?_, ?_, ?_, ?_, ?_, ?_, ?_, ?_, ?_, ?_⟩ <;> rfl
theorem e51 : (E.ann 51).modes = [] ∧ (E.ann 51).keep = [] ∧ (E.ann 51).mir = [] ∧ (E.ann 51).heads 0 = [1, 3, 4] ∧ (E.ann 51).ends 0 = some [3] ∧ (E.ann 51).ends 1 = none := by
  refine ⟨?_, ?_, ?_, ?_, ?_, ?_⟩ <;> rfl
theorem e52 : (E.ann 52).modes = [] ∧ (E.ann 52).keep = [] ∧ (E.ann 52).mir = [] ∧ (E.ann 52).heads 0 = [1, 2, 6] ∧ (E.ann 52).ends 0 = some [] ∧ (E.ann 52).ends 1 = none := by
  refine ⟨?_, ?_, ?_, ?_, ?_, ?_⟩ <;> rfl
theorem e53 : (E.ann 53).modes = [] ∧ (E.ann 53).keep = [] ∧ (E.ann 53).mir = [] ∧ (E.ann 53).heads 2 = [1, 2, 6, 7, 8, 9] ∧ (E.ann 53).heads 0 = [1, 2, 6] ∧ (E.ann 53).ends 0 = some [] ∧ (E.ann 53).ends 1 = none ∧ (E.ann 53).ends 2 = some [1, 2, 6, 7, 8] ∧ (E.ann 53).ends 3 = none ∧ (E.ann 53).draws 11 = [([1], [56]), ([10], [57]), ([10, 57], [58]), ([10, 58], [59]), ([56, 59], [60]), ([60], [61]), ([10, 61], [62]), ([10, 61, 62], [63]), ([1, 61], [64]), ([61, 64], [65]), ([10, 61, 63, 65], [66]), ([10, 61, 66], [67]), ([7, 61], [68]), ([7, 61, 68], [69]), ([1, 61], [70]), ([61, 70], [71]), ([7, 61, 69, 71], [72]), ([7, 61, 72], [73]), ([61, 67, 73], [74]), ([61, 74], [75])] := by
  refine ⟨?_, ?_, ?_, ?_, ?_, ?_, ?_, ?_, ?_, ?_⟩ <;> rfl
theorem e54 : (E.ann 54).modes = [] ∧ (E.ann 54).keep = [] ∧ (E.ann 54).mir = [] ∧ (E.ann 54).heads 0 = [0, 3, 4] ∧ (E.ann 54).ends 0 = some [3] ∧ (E.ann 54).ends 1 = none := by
  refine ⟨?_, ?_, ?_, ?_, ?_, ?_⟩ <;> rfl
theorem e55 : (E.ann 55).modes = [] ∧ (E.ann 55).keep = [] ∧ (E.ann 55).mir = [] ∧ (E.ann 55).heads 0 = [0, 3, 4] ∧ (E.ann 55).ends 0 = some [3] ∧ (E.ann 55).ends 1 = none := by
  refine ⟨?_, ?_, ?_, ?_, ?_, ?_⟩ <;> rfl
theorem e56 : (E.ann 56).modes = [] ∧ (E.ann 56).keep = [] ∧ (E.ann 56).mir = [] ∧ (E.ann 56).heads 0 = [0, 3, 4] ∧ (E.ann 56).ends 0 = some [3] ∧ (E.ann 56).ends 1 = none := by
  refine ⟨?_, ?_, ?_, ?_, ?_, ?_⟩ <;> rfl
theorem e57 : (E.ann 57).modes = [] ∧ (E.ann 57).keep = [] ∧ (E.ann 57).mir = [] ∧ (E.ann 57).heads 4 = [1, 60, 61, 62] ∧ (E.ann 57).heads 2 = [1, 3, 48, 49, 50] ∧ (E.ann 57).heads 0 = [1, 3, 23, 24, 25] ∧ (E.ann 57).ends 0 = some [1, 3] ∧ (E.ann 57).ends 1 = none ∧ (E.ann 57).ends 2 = some [1] ∧ (E.ann 57).ends 3 = none ∧ (E.ann 57).ends 4 = some [] ∧ (E.ann 57).ends 5 = none ∧ (E.ann 57).draws 19 = [([9], [67]), ([9, 67], [68]), ([68], [69]), ([69], [70]), ([70], [71]), ([9, 71], [72]), ([9, 71, 72], [73]), ([71, 73], [74]), ([71, 74], [75]), ([71, 75], [76]), ([76], [77]), ([8, 77], [78]), ([77, 78], [79]), ([77, 79], [80]), ([9, 80], [81]), ([9, 80, 81], [82]), ([1, 80], [83]), ([1, 80, 83], [84]), ([8, 80], [85]), ([80, 85], [86]), ([1, 80, 84, 86], [87]), ([1, 80, 87], [88]), ([1, 80, 88], [89]), ([80, 82, 89], [90]), ([77, 80, 90], [91]), ([77, 91], [92])] := by
  refine ⟨?_, ?_, ?_, ?_, ?_, ?_, ?_, ?_, ?_, ?_, ?_, ?_, ?_⟩ <;> rfl
theorem e58 : (E.ann 58).modes = [] ∧ (E.ann 58).keep = [0] ∧ (E.ann 58).mir = [] ∧ (E.ann 58).heads 4 = [0, 8] ∧ (E.ann 58).heads 2 = [0, 17, 18, 27, 28, 29] ∧ (E.ann 58).heads 0 = [0, 17, 18] ∧ (E.ann 58).ends 0 = some [0] ∧ (E.ann 58).ends 1 = none ∧ (E.ann 58).ends 2 = some [0, 17, 18] ∧ (E.ann 58).ends 3 = none ∧ (E.ann 58).ends 4 = some [0] ∧ (E.ann 58).ends 5 = none := by
  refine ⟨?_, ?_, ?_, ?_, ?_, ?_, ?_, ?_, ?_, ?_, ?_, ?_⟩ <;> rfl
theorem e59 : (E.ann 59).modes = [] ∧ (E.ann 59).keep = [] ∧ (E.ann 59).mir = [] ∧ (E.ann 59).heads 0 = [0, 1, 5] ∧ (E.ann 59).ends 0 = some [] ∧ (E.ann 59).ends 1 = none ∧ (E.ann 59).draws 6 = [([0], [17]), ([5], [18]), ([0, 17, 18], [19]), ([0, 19], [20]), ([1], [21]), ([5], [22]), ([1, 21, 22], [23]), ([1, 23], [24]), ([0, 1, 20, 24], [25]), ([25], [26])] := by
  refine ⟨?_, ?_, ?_, ?_, ?_, ?_, ?_⟩ <;> rfl
theorem e60 : (E.ann 60).modes = [] ∧ (E.ann 60).keep = [] ∧ (E.ann 60).mir = [] ∧ (E.ann 60).heads 0 = [0, 1, 5] ∧ (E.ann 60).ends 0 = some [] ∧ (E.ann 60).ends 1 = none ∧ (E.ann 60).draws 6 = [([0], [17]), ([5], [18]), ([0, 17, 18], [19]), ([0, 19], [20]), ([1], [21]), ([5], [22]), ([1, 21, 22], [23]), ([1, 23], [24]), ([0, 1, 20, 24], [25]), ([25], [26])] := by
  refine ⟨?_, ?_, ?_, ?_, ?_, ?_, ?_⟩ <;> rfl
theorem e61 : (E.ann 61).modes = [] ∧ (E.ann 61).keep = [] ∧ (E.ann 61).mir = [] ∧ (E.ann 61).heads 0 = [0, 1, 5] ∧ (E.ann 61).ends 0 = some [] ∧ (E.ann 61).ends 1 = none ∧ (E.ann 61).draws 6 = [([0], [17]), ([5], [18]), ([0, 17, 18], [19]), ([0, 19], [20]), ([1], [21]), ([5], [22]), ([1, 21, 22], [23]), ([1, 23], [24]), ([20, 24], [25]), ([25], [26])] := by
  refine ⟨?_, ?_, ?_, ?_, ?_, ?_, ?_⟩ <;> rfl
theorem e62 : (E.ann 62).modes = [] ∧ (E.ann 62).keep = [] ∧ (E.ann 62).mir = [] ∧ (E.ann 62).heads 0 = [0, 2, 3, 4] ∧ (E.ann 62).ends 0 = some [2, 3] ∧ (E.ann 62).ends 1 = none ∧ (E.ann 62).draws 7 = [([3], [15]), ([3, 15], [16]), ([4], [17]), ([0], [18]), ([17, 18], [19]), ([19], [19, 20]), ([3, 16, 20], [3, 16, 20, 21]), ([3], [22]), ([3, 21, 22], [3, 21, 22])] := by
  refine ⟨?_, ?_, ?_, ?_, ?_, ?_, ?_⟩ <;> rfl
theorem e63 : (E.ann 63).modes = [] ∧ (E.ann 63).keep = [] ∧ (E.ann 63).mir = [] ∧ (E.ann 63).heads 0 = [0, 2, 3, 4] ∧ (E.ann 63).ends 0 = some [2, 3] ∧ (E.ann 63).ends 1 = none ∧ (E.ann 63).draws 6 = [([3], [12]), ([3, 12], [13]), ([4], [14]), ([0], [15]), ([14, 15], [16]), ([16], [16, 17]), ([3, 13, 17], [3, 13, 17, 18]), ([3], [19]), ([3, 18, 19], [3, 18, 19])] := by
  refine ⟨?_, ?_, ?_, ?_, ?_, ?_, ?_⟩ <;> rfl
theorem e64 : (E.ann 64).modes = [] ∧ (E.ann 64).keep = [] ∧ (E.ann 64).mir = [] ∧ (E.ann 64).heads 0 = [0, 1, 5] ∧ (E.ann 64).ends 0 = some [] ∧ (E.ann 64).ends 1 = none ∧ (E.ann 64).draws 6 = [([0], [17]), ([5], [18]), ([0, 17, 18], [19]), ([0, 19], [20]), ([1], [21]), ([5], [22]), ([1, 21, 22], [23]), ([1, 23], [24]), ([0, 1, 20, 24], [25]), ([25], [26])] := by
  refine ⟨?_, ?_, ?_, ?_, ?_, ?_, ?_⟩ <;> rfl
theorem e65 : (E.ann 65).modes = [.io, .shr] ∧ (E.ann 65).keep = [0] ∧ (E.ann 65).mir = [(0, 2)] := by
  refine ⟨?_, ?_, ?_⟩ <;> rfl
theorem e66 : (E.ann 66).modes = [.io, .shr] ∧ (E.ann 66).keep = [0] ∧ (E.ann 66).mir = [] ∧ (E.ann 66).heads 0 = [0, 1, 5] ∧ (E.ann 66).ends 0 = some [0, 1] ∧ (E.ann 66).ends 1 = none := by
  refine ⟨?_, ?_, ?_, ?_, ?_, ?_⟩ <;> rfl
theorem e67 : (E.ann 67).modes = [] ∧ (E.ann 67).keep = [] ∧ (E.ann 67).mir = [] := by
  refine ⟨?_, ?_, ?_⟩ <;> rfl
theorem e68 : (E.ann 68).modes = [] ∧ (E.ann 68).keep = [] ∧ (E.ann 68).mir = [] ∧ (E.ann 68).heads 0 = [0, 1, 5] ∧ (E.ann 68).ends 0 = some [1] ∧ (E.ann 68).ends 1 = none ∧ (E.ann 68).draws 4 = [([0], [12]), ([5], [13]), ([0, 12, 13], [14]), ([0, 14], [15]), ([0, 15], [16]), ([0, 16], [17]), ([1], [18]), ([18], [19]), ([17, 19], [20])] := by
  refine ⟨?_, ?_, ?_, ?_, ?_, ?_, ?_⟩ <;> rfl
theorem e69 : (E.ann 69).modes = [] ∧ (E.ann 69).keep = [] ∧ (E.ann 69).mir = [] := by
  refine ⟨?_, ?_, ?_⟩ <;> rfl
theorem e70 : (E.ann 70).modes = [] ∧ (E.ann 70).keep = [0] ∧ (E.ann 70).mir = [] ∧ (E.ann 70).heads 0 = [0, 1, 5, 6] ∧ (E.ann 70).ends 0 = some [0, 5] ∧ (E.ann 70).ends 1 = none := by
  refine ⟨?_, ?_, ?_, ?_, ?_, ?_⟩ <;> rfl
theorem e71 : (E.ann 71).modes = [] ∧ (E.ann 71).keep = [] ∧ (E.ann 71).mir = [] := by
  refine ⟨?_, ?_, ?_⟩ <;> rfl
theorem e72 : (E.ann 72).modes = [] ∧ (E.ann 72).keep = [0] ∧ (E.ann 72).mir = [] ∧ (E.ann 72).draws 7 = [([0], [47]), ([0, 47], [48]), ([0, 48], [49]), ([0, 49], [50]), ([5], [51]), ([0], [52]), ([0, 52], [53]), ([0, 53], [54]), ([0, 54], [55]), ([0, 55], [56]), ([51, 56], [57]), ([0, 50, 57], [58]), ([0, 58], [59]), ([59], [60]), ([60], [61]), ([0], [62]), ([0, 62], [63]), ([0, 63], [64]), ([0, 64], [65]), ([5], [66]), ([66], [67]), ([67], [68]), ([0], [69]), ([0, 69], [70]), ([0, 70], [71]), ([0, 71], [72]), ([0, 72], [73]), ([68, 73], [74]), ([0, 65, 74], [75]), ([0, 75], [76]), ([76], [77]), ([77], [78]), ([61, 78], [79]), ([5], [80]), ([80], [81]), ([79, 81], [82]), ([5], [83]), ([0], [84]), ([0, 84], [85]), ([0, 85], [86]), ([0, 86], [87]), ([0, 87], [88]), ([83, 88], [89]), ([89], [90]), ([82, 90], [91]), ([91], [6])] := by
  refine ⟨?_, ?_, ?_, ?_⟩ <;> rfl
theorem e73 : (E.ann 73).modes = [] ∧ (E.ann 73).keep = [] ∧ (E.ann 73).mir = [] := by
  refine ⟨?_, ?_, ?_⟩ <;> rfl
theorem e74 : (E.ann 74).modes = [] ∧ (E.ann 74).keep = [] ∧ (E.ann 74).mir = [] := by
  refine ⟨?_, ?_, ?_⟩ <;> rfl
theorem e75 : (E.ann 75).modes = [] ∧ (E.ann 75).keep = [0] ∧ (E.ann 75).mir = [] ∧ (E.ann 75).heads 0 = [0, 2, 3, 4] ∧ (E.ann 75).ends 0 = some [0, 2, 3, 4] ∧ (E.ann 75).ends 1 = none := by
  refine ⟨?_, ?_, ?_, ?_, ?_, ?_⟩ <;> rfl
theorem e76 : (E.ann 76).modes = [] ∧ (E.ann 76).keep = [0] ∧ (E.ann 76).mir = [] ∧ (E.ann 76).heads 1 = [0, 4, 5, 6] ∧ (E.ann 76).ends 0 = none ∧ (E.ann 76).ends 1 = some [0, 4, 5] ∧ (E.ann 76).ends 2 = none ∧ (E.ann 76).draws 7 = [([5], [31]), ([5, 31], [32]), ([5, 32], [33]), ([5], [34]), ([5, 34], [35]), ([5, 35], [36]), ([36], [37]), ([33, 37], [33, 37, 38]), ([0], [39]), ([0, 39], [0, 39, 40]), ([38, 40], [41]), ([38, 41], [42]), ([5], [43]), ([5, 42, 43], [5, 42, 43])] ∧ (E.ann 76).draws 9 = [([5], [46]), ([5, 46], [47]), ([], [48]), ([0], [49]), ([0, 49], [0, 49, 50]), ([48, 50], [51]), ([48, 51], [52]), ([52], [52, 53]), ([53], [53, 54]), ([5, 47, 54], [5, 47, 55]), ([5], [56]), ([5, 55, 56], [5, 55, 56])] ∧ (E.ann 76).draws 11 = [([5], [59]), ([5, 59], [60]), ([5], [61]), ([5, 61], [62]), ([5], [63]), ([5, 63], [64]), ([64], [65]), ([62, 65], [62, 65, 66]), ([0], [67]), ([0, 67], [0, 67, 68]), ([66, 68], [69]), ([66, 69], [70]), ([70], [70, 71]), ([71], [71, 72]), ([5, 60, 72], [5, 60, 73]), ([5], [74]), ([5, 73, 74], [5, 73, 74])] ∧ (E.ann 76).draws 3 = [([5], [11]), ([5, 11], [12]), ([0], [13]), ([0, 13], [0, 13, 14]), ([14], [15]), ([15], [16]), ([16], [16, 17]), ([17], [17, 18]), ([5, 12, 18], [5, 12, 19]), ([5], [20]), ([5, 19, 20], [5, 19, 20])] := by
  refine ⟨?_, ?_, ?_, ?_, ?_, ?_, ?_, ?_, ?_, ?_, ?_⟩ <;> rfl
theorem e77 : (E.ann 77).modes = [] ∧ (E.ann 77).keep = [0] ∧ (E.ann 77).mir = [] ∧ (E.ann 77).draws 2 = [([3], [6]), ([3, 6], [7]), ([0], [8]), ([3], [9]), ([3, 9], [10]), ([3, 10], [11]), ([0, 8, 11], [0, 8, 12]), ([3, 7, 12], [13]), ([3, 13], [14]), ([2, 3, 14], [2, 3, 14])] := by
  refine ⟨?_, ?_, ?_, ?_⟩ <;> rfl
theorem e78 : (E.ann 78).modes = [] ∧ (E.ann 78).keep = [0] ∧ (E.ann 78).mir = [] ∧ (E.ann 78).ends 0 = none ∧ (E.ann 78).draws 1 = [([3], [7]), ([3, 7], [8]), ([3, 8], [9]), ([0], [10]), ([0, 10], [0, 10, 11]), ([9, 11], [12]), ([12], [13]), ([13], [5])] ∧ (E.ann 78).draws 6 = [([], [21]), ([0, 21], [0, 21, 22]), ([22], [23]), ([], [24]), ([3], [25]), ([3, 25], [26]), ([0, 24, 26], [0, 24, 27]), ([27], [28]), ([3], [29]), ([3, 29], [30]), ([5], [31]), ([], [32]), ([3], [33]), ([3, 33], [34]), ([3, 34], [35]), ([3, 35], [36]), ([36], [37]), ([0, 32, 37], [0, 32, 38]), ([], [39]), ([3], [40]), ([3, 40], [41]), ([3, 41], [42]), ([3, 42], [43]), ([43], [44]), ([0, 39, 44], [0, 39, 45]), ([], [46]), ([0, 46], [0, 46, 47]), ([23, 28, 30, 31, 38, 45, 47], [23, 28, 30, 31, 38, 45, 47, 48]), ([], [6]), ([6, 48], [6, 48])] ∧ (E.ann 78).draws 13 = [([3], [62]), ([3, 62], [63]), ([3, 63], [64]), ([64], [65]), ([0], [66]), ([0, 66], [0, 66, 67]), ([65, 67], [68]), ([6], [69]), ([6, 68, 69], [6, 68, 69])] := by
  refine ⟨?_, ?_, ?_, ?_, ?_, ?_, ?_⟩ <;> rfl
theorem e79 : (E.ann 79).modes = [] ∧ (E.ann 79).keep = [] ∧ (E.ann 79).mir = [] ∧ (E.ann 79).heads 0 = [0, 1, 5] ∧ (E.ann 79).ends 0 = some [5] ∧ (E.ann 79).ends 1 = none := by
  refine ⟨?_, ?_, ?_, ?_, ?_, ?_⟩ <;> rfl
theorem e80 : (E.ann 80).modes = [] ∧ (E.ann 80).keep = [] ∧ (E.ann 80).mir = [] ∧ (E.ann 80).heads 0 = [0, 8, 9, 10] ∧ (E.ann 80).ends 0 = some [] ∧ (E.ann 80).ends 1 = none := by
  refine ⟨?_, ?_, ?_, ?_, ?_, ?_⟩ <;> rfl
theorem e81 : (E.ann 81).modes = [] ∧ (E.ann 81).keep = [] ∧ (E.ann 81).mir = [] ∧ (E.ann 81).heads 0 = [0, 3] ∧ (E.ann 81).ends 0 = some [] ∧ (E.ann 81).ends 1 = none := by
  refine ⟨?_, ?_, ?_, ?_, ?_, ?_⟩ <;> rfl
theorem e82 : (E.ann 82).modes = [] ∧ (E.ann 82).keep = [] ∧ (E.ann 82).mir = [] := by
  refine ⟨?_, ?_, ?_⟩ <;> rfl
theorem e83 : (E.ann 83).modes = [] ∧ (E.ann 83).keep = [] ∧ (E.ann 83).mir = [] ∧ (E.ann 83).heads 0 = [0, 1, 5] ∧ (E.ann 83).ends 0 = some [1] ∧ (E.ann 83).ends 1 = none := by
  refine ⟨?_, ?_, ?_, ?_, ?_, ?_⟩ <;> rfl
theorem e84 : (E.ann 84).modes = [] ∧ (E.ann 84).keep = [] ∧ (E.ann 84).mir = [] := by
  refine ⟨?_, ?_, ?_⟩ <;> rfl
theorem e85 : (E.ann 85).modes = [] ∧ (E.ann 85).keep = [] ∧ (E.ann 85).mir = [] ∧ (E.ann 85).heads 0 = [0, 1, 5] ∧ (E.ann 85).ends 0 = some [1] ∧ (E.ann 85).ends 1 = none := by
  refine ⟨?_, ?_, ?_, ?_, ?_, ?_⟩ <;> rfl
theorem e86 : (E.ann 86).modes = [] ∧ (E.ann 86).keep = [] ∧ (E.ann 86).mir = [] ∧ (E.ann 86).heads 0 = [0, 1, 5] ∧ (E.ann 86).ends 0 = some [1] ∧ (E.ann 86).ends 1 = none := by
  refine ⟨?_, ?_, ?_, ?_, ?_, ?_⟩ <;> rfl
theorem e87 : (E.ann 87).modes = [] ∧ (E.ann 87).keep = [] ∧ (E.ann 87).mir = [] ∧ (E.ann 87).heads 0 = [1, 2, 3, 4] ∧ (E.ann 87).ends 0 = some [1, 2, 3] ∧ (E.ann 87).ends 1 = none ∧ (E.ann 87).draws 11 = [([3], [39]), ([1], [40]), ([1, 40], [41]), ([4], [42]), ([1, 41, 42], [43]), ([1, 43], [44]), ([1, 44], [45]), ([], [46]), ([1], [47]), ([1, 47], [48]), ([4], [49]), ([1, 48, 49], [50]), ([1, 50], [51]), ([1, 51], [52]), ([1, 46, 52], [46, 53]), ([45, 53], [45, 53, 54]), ([54], [54, 55]), ([3, 39, 55], [3, 39, 55, 56]), ([56], [3, 56])] := by
  refine ⟨?_, ?_, ?_, ?_, ?_, ?_, ?_⟩ <;> rfl
theorem e88 : (E.ann 88).modes = [] ∧ (E.ann 88).keep = [] ∧ (E.ann 88).mir = [] ∧ (E.ann 88).heads 0 = [1, 2, 4, 5] ∧ (E.ann 88).ends 0 = some [1, 2, 4] ∧ (E.ann 88).ends 1 = none := by
  refine ⟨?_, ?_, ?_, ?_, ?_, ?_⟩ <;> rfl
theorem e89 : (E.ann 89).modes = [] ∧ (E.ann 89).keep = [] ∧ (E.ann 89).mir = [] := by
  refine ⟨?_, ?_, ?_⟩ <;> rfl
theorem e90 : (E.ann 90).modes = [] ∧ (E.ann 90).keep = [] ∧ (E.ann 90).mir = [] ∧ (E.ann 90).heads 0 = [0, 3, 4] ∧ (E.ann 90).ends 0 = some [3] ∧ (E.ann 90).ends 1 = none := by
  refine ⟨?_, ?_, ?_, ?_, ?_, ?_⟩ <;> rfl
theorem e91 : (E.ann 91).modes = [] ∧ (E.ann 91).keep = [] ∧ (E.ann 91).mir = [] ∧ (E.ann 91).heads 0 = [0, 3, 4] ∧ (E.ann 91).ends 0 = some [3] ∧ (E.ann 91).ends 1 = none := by
  refine ⟨?_, ?_, ?_, ?_, ?_, ?_⟩ <;> rfl
theorem e92 : (E.ann 92).modes = [] ∧ (E.ann 92).keep = [] ∧ (E.ann 92).mir = [] ∧ (E.ann 92).heads 0 = [0, 3, 4] ∧ (E.ann 92).ends 0 = some [3] ∧ (E.ann 92).ends 1 = none := by
  refine ⟨?_, ?_, ?_, ?_, ?_, ?_⟩ <;> rfl
theorem e93 : (E.ann 93).modes = [] ∧ (E.ann 93).keep = [] ∧ (E.ann 93).mir = [] ∧ (E.ann 93).heads 0 = [0, 3, 4] ∧ (E.ann 93).ends 0 = some [3] ∧ (E.ann 93).ends 1 = none := by
  refine ⟨?_, ?_, ?_, ?_, ?_, ?_⟩ <;> rfl
theorem e94 : (E.ann 94).modes = [] ∧ (E.ann 94).keep = [] ∧ (E.ann 94).mir = [] ∧ (E.ann 94).heads 0 = [1, 2, 3, 31, 32, 33] ∧ (E.ann 94).ends 0 = some [1, 2, 3] ∧ (E.ann 94).ends 1 = none ∧ (E.ann 94).draws 1 = [([1], [6]), ([1, 6], [7]), ([1, 7], [8]), ([1], [9]), ([1, 9], [10]), ([1, 10], [11]), ([1], [12]), ([1, 8, 12], [1, 8, 12]), ([1], [13]), ([1, 11, 13], [1, 11, 13])] ∧ (E.ann 94).draws 10 = [([3], [37]), ([5], [38]), ([5, 38], [39]), ([5], [40]), ([5, 40], [41]), ([5, 41], [42]), ([39, 42], [39, 42, 43]), ([43], [43, 44]), ([3, 37, 44], [3, 37, 44, 45]), ([45], [3, 45])] := by
  refine ⟨?_, ?_, ?_, ?_, ?_, ?_, ?_, ?_⟩ <;> rfl
theorem e95 : (E.ann 95).modes = [] ∧ (E.ann 95).keep = [0] ∧ (E.ann 95).mir = [] := by
  refine ⟨?_, ?_, ?_⟩ <;> rfl
theorem e96 : (E.ann 96).modes = [] ∧ (E.ann 96).keep = [] ∧ (E.ann 96).mir = [] := by
  refine ⟨?_, ?_, ?_⟩ <;> rfl
theorem e97 : (E.ann 97).modes = [] ∧ (E.ann 97).keep = [] ∧ (E.ann 97).mir = [] ∧ (E.ann 97).heads 0 = [0, 1, 5] ∧ (E.ann 97).ends 0 = some [] ∧ (E.ann 97).ends 1 = none ∧ (E.ann 97).draws 6 = [([0], [17]), ([5], [18]), ([0, 17, 18], [19]), ([0, 19], [20]), ([1], [21]), ([5], [22]), ([1, 21, 22], [23]), ([1, 23], [24]), ([20, 24], [25])] := by
  refine ⟨?_, ?_, ?_, ?_, ?_, ?_, ?_⟩ <;> rfl
theorem e98 : (E.ann 98).modes = [] ∧ (E.ann 98).keep = [] ∧ (E.ann 98).mir = [] ∧ (E.ann 98).heads 0 = [0, 1, 5] ∧ (E.ann 98).ends 0 = some [] ∧ (E.ann 98).ends 1 = none ∧ (E.ann 98).draws 6 = [([0], [17]), ([5], [18]), ([0, 17, 18], [19]), ([0, 19], [20]), ([1], [21]), ([5], [22]), ([1, 21, 22], [23]), ([1, 23], [24]), ([20, 24], [25])] := by
  refine ⟨?_, ?_, ?_, ?_, ?_, ?_, ?_⟩ <;> rfl
theorem e99 : (E.ann 99).modes = [] ∧ (E.ann 99).keep = [] ∧ (E.ann 99).mir = [] ∧ (E.ann 99).heads 0 = [0, 1, 5] ∧ (E.ann 99).ends 0 = some [] ∧ (E.ann 99).ends 1 = none ∧ (E.ann 99).draws 6 = [([0], [17]), ([5], [18]), ([0, 17, 18], [19]), ([0, 19], [20]), ([1], [21]), ([5], [22]), ([1, 21, 22], [23]), ([1, 23], [24]), ([20, 24], [25]), ([25], [26])] := by
  refine ⟨?_, ?_, ?_, ?_, ?_, ?_, ?_⟩ <;> rfl
theorem e100 : (E.ann 100).modes = [] ∧ (E.ann 100).keep = [] ∧ (E.ann 100).mir = [] ∧ (E.ann 100).heads 0 = [0, 1, 5] ∧ (E.ann 100).ends 0 = some [] ∧ (E.ann 100).ends 1 = none ∧ (E.ann 100).draws 6 = [([0], [17]), ([5], [18]), ([0, 17, 18], [19]), ([0, 19], [20]), ([1], [21]), ([5], [22]), ([1, 21, 22], [23]), ([1, 23], [24]), ([0, 1, 20, 24], [25]), ([25], [26])] := by
  refine ⟨?_, ?_, ?_, ?_, ?_, ?_, ?_⟩ <;> rfl
theorem e101 : (E.ann 101).modes = [.io, .shr] ∧ (E.ann 101).keep = [0] ∧ (E.ann 101).mir = [(0, 2)] := by
  refine ⟨?_, ?_, ?_⟩ <;> rfl
theorem e102 : (E.ann 102).modes = [.io, .shr] ∧ (E.ann 102).keep = [0] ∧ (E.ann 102).mir = [] ∧ (E.ann 102).heads 0 = [0, 1, 5] ∧ (E.ann 102).ends 0 = some [0, 1] ∧ (E.ann 102).ends 1 = none := by
  refine ⟨?_, ?_, ?_, ?_, ?_, ?_⟩ <;> rfl
theorem e103 : (E.ann 103).modes = [.io, .shr] ∧ (E.ann 103).keep = [0] ∧ (E.ann 103).mir = [] ∧ (E.ann 103).heads 0 = [0, 1, 5] ∧ (E.ann 103).ends 0 = some [0, 1] ∧ (E.ann 103).ends 1 = none := by
  refine ⟨?_, ?_, ?_, ?_, ?_, ?_⟩ <;> rfl
theorem e104 : (E.ann 104).modes = [.io, .shr] ∧ (E.ann 104).keep = [0] ∧ (E.ann 104).mir = [] ∧ (E.ann 104).heads 0 = [0, 1, 5] ∧ (E.ann 104).ends 0 = some [0, 1] ∧ (E.ann 104).ends 1 = none := by
  refine ⟨?_, ?_, ?_, ?_, ?_, ?_⟩ <;> rfl
theorem e105 : (E.ann 105).modes = [.io, .shr] ∧ (E.ann 105).keep = [0] ∧ (E.ann 105).mir = [] ∧ (E.ann 105).heads 0 = [0, 1, 5] ∧ (E.ann 105).ends 0 = some [0, 1] ∧ (E.ann 105).ends 1 = none := by
  refine ⟨?_, ?_, ?_, ?_, ?_, ?_⟩ <;> rfl
theorem e106 : (E.ann 106).modes = [.io, .shr] ∧ (E.ann 106).keep = [0] ∧ (E.ann 106).mir = [] ∧ (E.ann 106).heads 0 = [0, 1, 5] ∧ (E.ann 106).ends 0 = some [0, 1] ∧ (E.ann 106).ends 1 = none := by
  refine ⟨?_, ?_, ?_, ?_, ?_, ?_⟩ <;> rfl
theorem e107 : (E.ann 107).modes = [] ∧ (E.ann 107).keep = [] ∧ (E.ann 107).mir = [] := by
  refine ⟨?_, ?_, ?_⟩ <;> rfl
theorem e108 : (E.ann 108).modes = [] ∧ (E.ann 108).keep = [] ∧ (E.ann 108).mir = [] ∧ (E.ann 108).heads 0 = [0, 1, 5] ∧ (E.ann 108).ends 0 = some [1] ∧ (E.ann 108).ends 1 = none ∧ (E.ann 108).draws 22 = [([0], [66]), ([5], [67]), ([0, 66, 67], [68]), ([0, 68], [69]), ([0, 69], [70]), ([1], [71]), ([71], [72]), ([70, 72], [73])] := by
  refine ⟨?_, ?_, ?_, ?_, ?_, ?_, ?_⟩ <;> rfl
theorem e109 : (E.ann 109).modes = [] ∧ (E.ann 109).keep = [] ∧ (E.ann 109).mir = [] ∧ (E.ann 109).heads 0 = [0, 1, 5] ∧ (E.ann 109).ends 0 = some [1] ∧ (E.ann 109).ends 1 = none ∧ (E.ann 109).draws 4 = [([0], [12]), ([5], [13]), ([0, 12, 13], [14]), ([0, 14], [15]), ([1], [16]), ([16], [17]), ([15, 17], [18])] := by
  refine ⟨?_, ?_, ?_, ?_, ?_, ?_, ?_⟩ <;> rfl
theorem e110 : (E.ann 110).modes = [] ∧ (E.ann 110).keep = [] ∧ (E.ann 110).mir = [] ∧ (E.ann 110).heads 0 = [0, 1, 5] ∧ (E.ann 110).ends 0 = some [1] ∧ (E.ann 110).ends 1 = none := by
  refine ⟨?_, ?_, ?_, ?_, ?_, ?_⟩ <;> rfl
theorem e111 : (E.ann 111).modes = [] ∧ (E.ann 111).keep = [] ∧ (E.ann 111).mir = [] ∧ (E.ann 111).heads 0 = [0, 1, 5] ∧ (E.ann 111).ends 0 = some [1] ∧ (E.ann 111).ends 1 = none ∧ (E.ann 111).draws 7 = [([0], [21]), ([5], [22]), ([0, 21, 22], [23]), ([0, 23], [24]), ([0, 24], [25]), ([1], [26]), ([26], [27]), ([25, 27], [28])] := by
  refine ⟨?_, ?_, ?_, ?_, ?_, ?_, ?_⟩ <;> rfl
theorem e112 : (E.ann 112).modes = [] ∧ (E.ann 112).keep = [] ∧ (E.ann 112).mir = [] ∧ (E.ann 112).heads 0 = [0, 1, 5] ∧ (E.ann 112).ends 0 = some [1] ∧ (E.ann 112).ends 1 = none := by
  refine ⟨?_, ?_, ?_, ?_, ?_, ?_⟩ <;> rfl
theorem e113 : (E.ann 113).modes = [] ∧ (E.ann 113).keep = [0] ∧ (E.ann 113).mir = [] ∧ (E.ann 113).heads 1 = [0, 2, 3, 4] ∧ (E.ann 113).ends 0 = none ∧ (E.ann 113).ends 1 = some [0, 2, 3] ∧ (E.ann 113).ends 2 = none ∧ (E.ann 113).draws 9 = [([3], [27]), ([3, 27], [28]), ([3, 28], [29]), ([3], [30]), ([3, 30], [31]), ([3], [32]), ([3, 32], [33]), ([3, 33], [34]), ([3, 34], [35]), ([35], [36]), ([36], [37]), ([31, 37], [31, 37, 38]), ([38], [38, 39]), ([3, 29, 39], [3, 29, 40]), ([3], [41]), ([3, 41], [42]), ([3, 40, 42], [3, 40, 42])] := by
  refine ⟨?_, ?_, ?_, ?_, ?_, ?_, ?_, ?_⟩ <;> rfl
theorem e114 : (E.ann 114).modes = [] ∧ (E.ann 114).keep = [0] ∧ (E.ann 114).mir = [] ∧ (E.ann 114).draws 0 = [([], [2]), ([], [3]), ([0, 3], [4]), ([0, 4], [5]), ([0, 5], [6]), ([], [7]), ([0, 7], [8]), ([0, 8], [9]), ([0, 9], [10]), ([], [11]), ([0, 11], [12]), ([0, 12], [13]), ([0, 13], [14]), ([], [15]), ([0, 15], [16]), ([0, 16], [17]), ([0, 17], [18]), ([0, 18], [19]), ([0, 6, 10, 14, 19], [0, 6, 10, 14, 19, 20]), ([0, 2], [21]), ([0, 20, 21], [0, 20, 21])] := by
  refine ⟨?_, ?_, ?_, ?_⟩ <;> rfl
theorem e115 : (E.ann 115).modes = [] ∧ (E.ann 115).keep = [] ∧ (E.ann 115).mir = [] ∧ (E.ann 115).heads 0 = [0, 1, 5] ∧ (E.ann 115).ends 0 = some [] ∧ (E.ann 115).ends 1 = none ∧ (E.ann 115).draws 6 = [([0], [17]), ([5], [18]), ([0, 17, 18], [19]), ([0, 19], [20]), ([1], [21]), ([5], [22]), ([1, 21, 22], [23]), ([1, 23], [24]), ([0, 1, 20, 24], [25]), ([25], [26])] := by
  refine ⟨?_, ?_, ?_, ?_, ?_, ?_, ?_⟩ <;> rfl
theorem e116 : (E.ann 116).modes = [] ∧ (E.ann 116).keep = [] ∧ (E.ann 116).mir = [] ∧ (E.ann 116).heads 0 = [0, 1, 5] ∧ (E.ann 116).ends 0 = some [] ∧ (E.ann 116).ends 1 = none ∧ (E.ann 116).draws 6 = [([0], [17]), ([5], [18]), ([0, 17, 18], [19]), ([0, 19], [20]), ([1], [21]), ([5], [22]), ([1, 21, 22], [23]), ([1, 23], [24]), ([20, 24], [25])] := by
  refine ⟨?_, ?_, ?_, ?_, ?_, ?_, ?_⟩ <;> rfl
theorem e117 : (E.ann 117).modes = [] ∧ (E.ann 117).keep = [] ∧ (E.ann 117).mir = [] ∧ (E.ann 117).heads 0 = [0, 1, 5] ∧ (E.ann 117).ends 0 = some [] ∧ (E.ann 117).ends 1 = none ∧ (E.ann 117).draws 6 = [([0], [17]), ([5], [18]), ([0, 17, 18], [19]), ([0, 19], [20]), ([1], [21]), ([5], [22]), ([1, 21, 22], [23]), ([1, 23], [24]), ([20, 24], [25])] := by
  refine ⟨?_, ?_, ?_, ?_, ?_, ?_, ?_⟩ <;> rfl
theorem e118 : (E.ann 118).modes = [] ∧ (E.ann 118).keep = [] ∧ (E.ann 118).mir = [] := by
  refine ⟨?_, ?_, ?_⟩ <;> rfl
theorem e119 : (E.ann 119).modes = [] ∧ (E.ann 119).keep = [] ∧ (E.ann 119).mir = [] ∧ (E.ann 119).heads 2 = [0, 3, 4] ∧ (E.ann 119).heads 0 = [0, 3] ∧ (E.ann 119).ends 0 = some [] ∧ (E.ann 119).ends 1 = none ∧ (E.ann 119).ends 2 = some [0, 3] ∧ (E.ann 119).ends 3 = none ∧ (E.ann 119).draws 11 = [([0], [33]), ([4], [34]), ([0, 33, 34], [35]), ([0, 35], [36]), ([0], [37]), ([3], [38]), ([0, 37, 38], [39]), ([0, 39], [40]), ([36, 40], [41])] := by
  refine ⟨?_, ?_, ?_, ?_, ?_, ?_, ?_, ?_, ?_, ?_⟩ <;> rfl
theorem e120 : (E.ann 120).modes = [] ∧ (E.ann 120).keep = [] ∧ (E.ann 120).mir = [] ∧ (E.ann 120).heads 0 = [0, 1, 5] ∧ (E.ann 120).ends 0 = some [] ∧ (E.ann 120).ends 1 = none ∧ (E.ann 120).draws 4 = [([0], [12]), ([5], [13]), ([0, 12, 13], [14]), ([0, 14], [15]), ([1], [16]), ([15, 16], [17]), ([17], [18]), ([18], [19]), ([5, 19], [20]), ([19, 20], [21]), ([19, 21], [22]), ([0, 22], [23]), ([5, 22], [24]), ([22, 24], [25]), ([0, 22, 23, 25], [26]), ([0, 22, 26], [27]), ([0, 22], [28]), ([5, 22], [29]), ([0, 22, 28, 29], [30]), ([0, 22, 30], [31]), ([22, 27, 31], [32]), ([19, 22, 32], [33]), ([19, 33], [34])] := by
  refine ⟨?_, ?_, ?_, ?_, ?_, ?_, ?_⟩ <;> rfl
theorem e121 : (E.ann 121).modes = [] ∧ (E.ann 121).keep = [] ∧ (E.ann 121).mir = [] ∧ (E.ann 121).heads 0 = [0, 1, 5] ∧ (E.ann 121).ends 0 = some [] ∧ (E.ann 121).ends 1 = none ∧ (E.ann 121).draws 4 = [([0], [12]), ([5], [13]), ([0, 12, 13], [14]), ([0, 14], [15]), ([0, 15], [16]), ([16], [17]), ([17], [18]), ([18], [19]), ([0, 19], [20]), ([5, 19], [21]), ([0, 19, 20, 21], [22]), ([0, 19, 22], [23]), ([0, 19, 23], [24]), ([1, 19], [25]), ([0, 19, 24, 25], [26]), ([19, 26], [27]), ([19, 27], [28]), ([28], [29]), ([5, 29], [30]), ([29, 30], [31]), ([29, 31], [32]), ([0, 32], [33]), ([5, 32], [34]), ([32, 34], [35]), ([0, 32, 33, 35], [36]), ([0, 32, 36], [37]), ([0, 32, 37], [38]), ([0, 32], [39]), ([5, 32], [40]), ([0, 32, 39, 40], [41]), ([0, 32, 41], [42]), ([0, 32, 42], [43]), ([32, 38, 43], [44]), ([29, 32, 44], [45]), ([29, 45], [46])] := by
  refine ⟨?_, ?_, ?_, ?_, ?_, ?_, ?_⟩ <;> rfl
theorem e122 : (E.ann 122).modes = [] ∧ (E.ann 122).keep = [] ∧ (E.ann 122).mir = [] := by
  refine ⟨?_, ?_, ?_⟩ <;> rfl
theorem e123 : (E.ann 123).modes = [] ∧ (E.ann 123).keep = [] ∧ (E.ann 123).mir = [] ∧ (E.ann 123).heads 0 = [0, 1, 7, 8, 9] ∧ (E.ann 123).ends 0 = some [] ∧ (E.ann 123).ends 1 = none := by
  refine ⟨?_, ?_, ?_, ?_, ?_, ?_⟩ <;> rfl
theorem e124 : (E.ann 124).modes = [] ∧ (E.ann 124).keep = [] ∧ (E.ann 124).mir = [] := by
  refine ⟨?_, ?_, ?_⟩ <;> rfl
theorem e125 : (E.ann 125).modes = [] ∧ (E.ann 125).keep = [] ∧ (E.ann 125).mir = [] := by
  refine ⟨?_, ?_, ?_⟩ <;> rfl
theorem e126 : (E.ann 126).modes = [] ∧ (E.ann 126).keep = [] ∧ (E.ann 126).mir = [] := by
  refine ⟨?_, ?_, ?_⟩ <;> rfl
theorem e127 : (E.ann 127).modes = [] ∧ (E.ann 127).keep = [] ∧ (E.ann 127).mir = [] := by
  refine ⟨?_, ?_, ?_⟩ <;> rfl
theorem e128 : (E.ann 128).modes = [] ∧ (E.ann 128).keep = [] ∧ (E.ann 128).mir = [] := by
  refine ⟨?_, ?_, ?_⟩ <;> rfl
theorem e129 : (E.ann 129).modes = [] ∧ (E.ann 129).keep = [0] ∧ (E.ann 129).mir = [] ∧ (E.ann 129).heads 0 = [0, 3, 16, 17, 18] ∧ (E.ann 129).ends 0 = some [0, 3] ∧ (E.ann 129).ends 1 = none ∧ (E.ann 129).draws 2 = [([0], [6]), ([0, 6], [7]), ([0, 7], [8]), ([0, 8], [9]), ([0, 9], [10]), ([0], [11]), ([0, 11], [12]), ([0, 12], [13]), ([0, 13], [14]), ([0, 14], [15]), ([0, 10, 15], [16]), ([0, 16], [17]), ([], [18])] := by
  refine ⟨?_, ?_, ?_, ?_, ?_, ?_, ?_⟩ <;> rfl
theorem e130 : (E.ann 130).modes = [] ∧ (E.ann 130).keep = [0] ∧ (E.ann 130).mir = [] ∧ (E.ann 130).heads 0 = [0, 1, 11, 12, 13] ∧ (E.ann 130).ends 0 = some [0] ∧ (E.ann 130).ends 1 = none := by
  refine ⟨?_, ?_, ?_, ?_, ?_, ?_⟩ <;> rfl
theorem e131 : (E.ann 131).modes = [] ∧ (E.ann 131).keep = [0] ∧ (E.ann 131).mir = [] ∧ (E.ann 131).heads 0 = [0, 1, 6, 14, 15, 16] ∧ (E.ann 131).ends 0 = some [0] ∧ (E.ann 131).ends 1 = none ∧ (E.ann 131).draws 7 = [([6], [37]), ([9], [38]), ([6, 37, 38], [39]), ([39], [40]), ([6, 37, 38], [41]), ([41], [41, 42]), ([6, 37, 40, 42], [])] ∧ (E.ann 131).draws 8 = [([9], [43]), ([9, 43], [44]), ([44], [45]), ([45], [46]), ([6, 46], [47]), ([9, 46], [48]), ([6, 46, 47, 48], [49]), ([46, 49], [50]), ([0, 46], [51]), ([0, 46, 51], [52]), ([0, 46, 52], [53]), ([0, 46, 53], [54]), ([0, 46, 54], [55]), ([46, 50, 55], [56]), ([46, 56], [57])] := by
  refine ⟨?_, ?_, ?_, ?_, ?_, ?_, ?_, ?_⟩ <;> rfl
theorem e132 : (E.ann 132).modes = [] ∧ (E.ann 132).keep = [] ∧ (E.ann 132).mir = [] := by
  refine ⟨?_, ?_, ?_⟩ <;> rfl
theorem e133 : (E.ann 133).modes = [] ∧ (E.ann 133).keep = [] ∧ (E.ann 133).mir = [] := by
  refine ⟨?_, ?_, ?_⟩ <;> rfl
theorem e134 : (E.ann 134).modes = [] ∧ (E.ann 134).keep = [] ∧ (E.ann 134).mir = [] := by
  refine ⟨?_, ?_, ?_⟩ <;> rfl
theorem e135 : (E.ann 135).modes = [] ∧ (E.ann 135).keep = [] ∧ (E.ann 135).mir = [] := by
  refine ⟨?_, ?_, ?_⟩ <;> rfl
theorem e136 : (E.ann 136).modes = [] ∧ (E.ann 136).keep = [] ∧ (E.ann 136).mir = [] := by
  refine ⟨?_, ?_, ?_⟩ <;> rfl
theorem e137 : (E.ann 137).modes = [.io, .shr] ∧ (E.ann 137).keep = [0] ∧ (E.ann 137).mir = [] ∧ (E.ann 137).heads 0 = [0, 1, 5] ∧ (E.ann 137).ends 0 = some [0, 1] ∧ (E.ann 137).ends 1 = none := by
  refine ⟨?_, ?_, ?_, ?_, ?_, ?_⟩ <;> rfl
theorem e138 : (E.ann 138).modes = [.io, .shr] ∧ (E.ann 138).keep = [0] ∧ (E.ann 138).mir = [] ∧ (E.ann 138).heads 0 = [0, 1, 5] ∧ (E.ann 138).ends 0 = some [0, 1] ∧ (E.ann 138).ends 1 = none := by
  refine ⟨?_, ?_, ?_, ?_, ?_, ?_⟩ <;> rfl
theorem e139 : (E.ann 139).modes = [] ∧ (E.ann 139).keep = [] ∧ (E.ann 139).mir = [] ∧ (E.ann 139).heads 0 = [0, 3] ∧ (E.ann 139).ends 0 = some [3] ∧ (E.ann 139).ends 1 = none := by
  refine ⟨?_, ?_, ?_, ?_, ?_, ?_⟩ <;> rfl
theorem e140 : (E.ann 140).modes = [.io, .shr] ∧ (E.ann 140).keep = [0] ∧ (E.ann 140).mir = [] ∧ (E.ann 140).heads 0 = [0, 1, 5] ∧ (E.ann 140).ends 0 = some [0, 1] ∧ (E.ann 140).ends 1 = none := by
  refine ⟨?_, ?_, ?_, ?_, ?_, ?_⟩ <;> rfl
theorem e141 : (E.ann 141).modes = [.io, .shr] ∧ (E.ann 141).keep = [0] ∧ (E.ann 141).mir = [] ∧ (E.ann 141).heads 0 = [0, 1, 5] ∧ (E.ann 141).ends 0 = some [0, 1] ∧ (E.ann 141).ends 1 = none := by
  refine ⟨?_, ?_, ?_, ?_, ?_, ?_⟩ <;> rfl
theorem e142 : (E.ann 142).modes = [] ∧ (E.ann 142).keep = [] ∧ (E.ann 142).mir = [] ∧ (E.ann 142).heads 0 = [0, 1, 5] ∧ (E.ann 142).ends 0 = some [1] ∧ (E.ann 142).ends 1 = none := by
  refine ⟨?_, ?_, ?_, ?_, ?_, ?_⟩ <;> rfl
theorem e143 : (E.ann 143).modes = [] ∧ (E.ann 143).keep = [] ∧ (E.ann 143).mir = [] ∧ (E.ann 143).heads 0 = [0, 1, 5] ∧ (E.ann 143).ends 0 = some [1] ∧ (E.ann 143).ends 1 = none ∧ (E.ann 143).draws 7 = [([0], [21]), ([5], [22]), ([0, 21, 22], [23]), ([0, 23], [24]), ([0, 24], [25]), ([1], [26]), ([26], [27]), ([25, 27], [28])] := by
  refine ⟨?_, ?_, ?_, ?_, ?_, ?_, ?_⟩ <;> rfl
theorem e144 : (E.ann 144).modes = [] ∧ (E.ann 144).keep = [] ∧ (E.ann 144).mir = [] ∧ (E.ann 144).heads 0 = [0, 1, 5] ∧ (E.ann 144).ends 0 = some [1] ∧ (E.ann 144).ends 1 = none ∧ (E.ann 144).draws 4 = [([0], [12]), ([5], [13]), ([0, 12, 13], [14]), ([0, 14], [15]), ([0, 15], [16]), ([1], [17]), ([17], [18]), ([16, 18], [19])] ∧ (E.ann 144).draws 7 = [([0], [22]), ([5], [23]), ([0, 22, 23], [24]), ([0, 24], [25]), ([0, 25], [26]), ([1], [27]), ([27], [28]), ([26, 28], [29])] := by
  refine ⟨?_, ?_, ?_, ?_, ?_, ?_, ?_, ?_⟩ <;> rfl
theorem e145 : (E.ann 145).modes = [] ∧ (E.ann 145).keep = [] ∧ (E.ann 145).mir = [] ∧ (E.ann 145).heads 0 = [0, 1, 5] ∧ (E.ann 145).ends 0 = some [1] ∧ (E.ann 145).ends 1 = none ∧ (E.ann 145).draws 7 = [([0], [21]), ([5], [22]), ([0, 21, 22], [23]), ([0, 23], [24]), ([0, 24], [25]), ([1], [26]), ([26], [27]), ([25, 27], [28])] ∧ (E.ann 145).draws 10 = [([0], [31]), ([5], [32]), ([0, 31, 32], [33]), ([0, 33], [34]), ([0, 34], [35]), ([1], [36]), ([36], [37]), ([35, 37], [38])] ∧ (E.ann 145).draws 16 = [([0], [50]), ([5], [51]), ([0, 50, 51], [52]), ([0, 52], [53]), ([0, 53], [54]), ([1], [55]), ([55], [56]), ([54, 56], [57])] ∧ (E.ann 145).draws 19 = [([0], [60]), ([5], [61]), ([0, 60, 61], [62]), ([0, 62], [63]), ([0, 63], [64]), ([1], [65]), ([65], [66]), ([64, 66], [67])] := by
  refine ⟨?_, ?_, ?_, ?_, ?_, ?_, ?_, ?_, ?_, ?_⟩ <;> rfl
theorem e146 : (E.ann 146).modes = [] ∧ (E.ann 146).keep = [0] ∧ (E.ann 146).mir = [] := by
  refine ⟨?_, ?_, ?_⟩ <;> rfl
theorem e147 : (E.ann 147).modes = [] ∧ (E.ann 147).keep = [0] ∧ (E.ann 147).mir = [] ∧ (E.ann 147).heads 2 = [0, 2, 3, 4, 5] ∧ (E.ann 147).heads 0 = [0, 2, 3, 4] ∧ (E.ann 147).ends 0 = some [0, 2, 3] ∧ (E.ann 147).ends 1 = none ∧ (E.ann 147).ends 2 = some [0, 2, 3, 4] ∧ (E.ann 147).ends 3 = none ∧ (E.ann 147).ends 4 = none ∧ (E.ann 147).draws 8 = [([3], [24]), ([0], [25]), ([3], [26]), ([3, 26], [27]), ([3, 27], [28]), ([0, 25, 28], [0, 25, 29]), ([3, 24, 29], [30]), ([3, 30], [3, 30])] ∧ (E.ann 147).draws 11 = [([3], [35]), ([0], [36]), ([0, 36], [0, 36, 37]), ([3, 35, 37], [38]), ([3, 38], [3, 38])] ∧ (E.ann 147).draws 15 = [([3], [45]), ([0], [46]), ([0, 46], [0, 46, 47]), ([3, 45, 47], [48]), ([3, 48], [3, 48])] := by
  refine ⟨?_, ?_, ?_, ?_, ?_, ?_, ?_, ?_, ?_, ?_, ?_, ?_, ?_⟩ <;> rfl
theorem e148 : (E.ann 148).modes = [] ∧ (E.ann 148).keep = [] ∧ (E.ann 148).mir = [] := by
  refine ⟨?_, ?_, ?_⟩ <;> rfl
theorem e149 : (E.ann 149).modes = [] ∧ (E.ann 149).keep = [] ∧ (E.ann 149).mir = [] := by
  refine ⟨?_, ?_, ?_⟩ <;> rfl
theorem e150 : (E.ann 150).modes = [] ∧ (E.ann 150).keep = [] ∧ (E.ann 150).mir = [] ∧ (E.ann 150).heads 0 = [0, 3, 4] ∧ (E.ann 150).ends 0 = some [3] ∧ (E.ann 150).ends 1 = none := by
  refine ⟨?_, ?_, ?_, ?_, ?_, ?_⟩ <;> rfl
theorem e151 : (E.ann 151).modes = [] ∧ (E.ann 151).keep = [] ∧ (E.ann 151).mir = [] ∧ (E.ann 151).heads 0 = [0, 1, 5] ∧ (E.ann 151).ends 0 = some [] ∧ (E.ann 151).ends 1 = none := by
  refine ⟨?_, ?_, ?_, ?_, ?_, ?_⟩ <;> rfl
theorem e152 : (E.ann 152).modes = [] ∧ (E.ann 152).keep = [] ∧ (E.ann 152).mir = [] := by
  refine ⟨?_, ?_, ?_⟩ <;> rfl
theorem e153 : (E.ann 153).modes = [] ∧ (E.ann 153).keep = [] ∧ (E.ann 153).mir = [] := by
  refine ⟨?_, ?_, ?_⟩ <;> rfl
theorem e154 : (E.ann 154).modes = [] ∧ (E.ann 154).keep = [] ∧ (E.ann 154).mir = [] := by
  refine ⟨?_, ?_, ?_⟩ <;> rfl
theorem e155 : (E.ann 155).modes = [] ∧ (E.ann 155).keep = [] ∧ (E.ann 155).mir = [] ∧ (E.ann 155).heads 0 = [0, 3, 6, 7, 8] ∧ (E.ann 155).ends 0 = some [3] ∧ (E.ann 155).ends 1 = none := by
  refine ⟨?_, ?_, ?_, ?_, ?_, ?_⟩ <;> rfl
theorem e156 : (E.ann 156).modes = [] ∧ (E.ann 156).keep = [] ∧ (E.ann 156).mir = [] := by
  refine ⟨?_, ?_, ?_⟩ <;> rfl
theorem e157 : (E.ann 157).modes = [] ∧ (E.ann 157).keep = [0] ∧ (E.ann 157).mir = [] ∧ (E.ann 157).heads 0 = [0, 1, 17, 18, 19] ∧ (E.ann 157).ends 0 = some [0] ∧ (E.ann 157).ends 1 = none ∧ (E.ann 157).draws 1 = [([0], [7]), ([0, 7], [8]), ([0, 8], [9]), ([0, 9], [10]), ([0, 10], [11]), ([0], [12]), ([0, 12], [13]), ([0, 13], [14]), ([0, 14], [15]), ([0, 15], [16]), ([0, 11, 16], [17]), ([0, 17], [18]), ([], [19])] := by
  refine ⟨?_, ?_, ?_, ?_, ?_, ?_, ?_⟩ <;> rfl
theorem e158 : (E.ann 158).modes = [] ∧ (E.ann 158).keep = [] ∧ (E.ann 158).mir = [] := by
  refine ⟨?_, ?_, ?_⟩ <;> rfl
theorem e159 : (E.ann 159).modes = [] ∧ (E.ann 159).keep = [] ∧ (E.ann 159).mir = [] := by
  refine ⟨?_, ?_, ?_⟩ <;> rfl
theorem e160 : (E.ann 160).modes = [] ∧ (E.ann 160).keep = [0] ∧ (E.ann 160).mir = [] ∧ (E.ann 160).ends 0 = none ∧ (E.ann 160).draws 5 = [([5], [25]), ([5, 25], [26]), ([5], [27]), ([5, 27], [28]), ([28], [29]), ([26, 29], [26, 29, 30]), ([0], [31]), ([0, 31], [0, 31, 32]), ([30, 32], [33]), ([30, 33], [34]), ([5], [35]), ([5, 34, 35], [5, 34, 35])] ∧ (E.ann 160).draws 13 = [([5], [60]), ([5, 60], [61]), ([], [62]), ([0, 62], [0, 62, 63]), ([5], [64]), ([5, 64], [65]), ([65], [65, 66]), ([], [67]), ([0, 67], [0, 67, 68]), ([66, 68], [69]), ([66, 69], [70]), ([63, 70], [63, 70, 71]), ([71], [71, 72]), ([5, 61, 72], [5, 61, 72, 73]), ([5], [74]), ([5, 73, 74], [5, 73, 74])] ∧ (E.ann 160).draws 15 = [([5], [77]), ([5, 77], [78]), ([], [79]), ([0], [80]), ([0, 80], [0, 80, 81]), ([79, 81], [82]), ([79, 82], [83]), ([83], [83, 84]), ([5, 78, 84], [5, 78, 85]), ([5], [86]), ([5, 85, 86], [5, 85, 86])] ∧ (E.ann 160).draws 21 = [([5], [101]), ([5, 101], [102]), ([5, 102], [103]), ([5], [104]), ([5, 104], [105]), ([5, 105], [106]), ([106], [107]), ([103, 107], [103, 107, 108]), ([0], [109]), ([0, 109], [0, 109, 110]), ([108, 110], [111]), ([108, 111], [112]), ([5], [113]), ([5, 112, 113], [5, 112, 113])] ∧ (E.ann 160).draws 23 = [([5], [116]), ([5, 116], [117]), ([0], [118]), ([0, 118], [0, 118, 119]), ([119], [119, 120]), ([5, 117, 120], [5, 117, 121]), ([5], [122]), ([5, 121, 122], [5, 121, 122])] ∧ (E.ann 160).draws 25 = [([5], [125]), ([5, 125], [126]), ([], [127]), ([], [128]), ([0, 128], [0, 128, 129]), ([127, 129], [130]), ([127, 130], [131]), ([], [132]), ([0, 132], [0, 132, 133]), ([133], [133, 134]), ([131, 134], [131, 134, 135]), ([135], [135, 136]), ([5, 126, 136], [5, 126, 136, 137]), ([5], [138]), ([5, 137, 138], [5, 137, 138])] ∧ (E.ann 160).draws 3 = [([5], [10]), ([5, 10], [11]), ([], [12]), ([0, 12], [0, 12, 13]), ([], [14]), ([], [15]), ([0, 15], [0, 15, 16]), ([14, 16], [17]), ([14, 17], [18]), ([13, 18], [13, 18, 19]), ([19], [19, 20]), ([5, 11, 20], [5, 11, 21]), ([5], [22]), ([5, 21, 22], [5, 21, 22])] := by
  refine ⟨?_, ?_, ?_, ?_, ?_, ?_, ?_, ?_, ?_, ?_, ?_⟩ <;> rfl
theorem e161 : (E.ann 161).modes = [] ∧ (E.ann 161).keep = [] ∧ (E.ann 161).mir = [] := by
  refine ⟨?_, ?_, ?_⟩ <;> rfl
theorem e162 : (E.ann 162).modes = [] ∧ (E.ann 162).keep = [] ∧ (E.ann 162).mir = [] := by
  refine ⟨?_, ?_, ?_⟩ <;> rfl
theorem e163 : (E.ann 163).modes = [] ∧ (E.ann 163).keep = [] ∧ (E.ann 163).mir = [] := by
  refine ⟨?_, ?_, ?_⟩ <;> rfl
theorem e164 : (E.ann 164).modes = [] ∧ (E.ann 164).keep = [] ∧ (E.ann 164).mir = [] ∧ (E.ann 164).heads 0 = [0, 1, 7, 8] ∧ (E.ann 164).ends 0 = some [] ∧ (E.ann 164).ends 1 = none := by
  refine ⟨?_, ?_, ?_, ?_, ?_, ?_⟩ <;> rfl
theorem e165 : (E.ann 165).modes = [] ∧ (E.ann 165).keep = [] ∧ (E.ann 165).mir = [] := by
  refine ⟨?_, ?_, ?_⟩ <;> rfl
theorem e166 : (E.ann 166).modes = [] ∧ (E.ann 166).keep = [] ∧ (E.ann 166).mir = [] := by
  refine ⟨?_, ?_, ?_⟩ <;> rfl
theorem e167 : (E.ann 167).modes = [] ∧ (E.ann 167).keep = [] ∧ (E.ann 167).mir = [] ∧ (E.ann 167).ends 0 = none ∧ (E.ann 167).draws 9 = [] ∧ (E.ann 167).draws 13 = [([2], [80]), ([2, 80], [81]), ([3], [82]), ([3, 82], [83]), ([2], [84]), ([2, 84], [85]), ([3], [86]), ([3, 86], [87]), ([2, 85, 87], [88]), ([2, 88], [89]), ([2, 89], [90]), ([2, 81, 83], [91]), ([2, 90, 91], [2, 90, 91])] ∧ (E.ann 167).draws 15 = [([2], [99]), ([2, 99], [100]), ([3], [101]), ([3, 101], [102]), ([2], [103]), ([2, 103], [104]), ([3], [105]), ([3, 105], [106]), ([2, 104, 106], [107]), ([2, 107], [108]), ([2, 108], [109]), ([2, 100, 102], [110]), ([2, 109, 110], [2, 109, 110])] ∧ (E.ann 167).draws 17 = [([2], [118]), ([2, 118], [119]), ([3], [120]), ([3, 120], [121]), ([2], [122]), ([2, 122], [123]), ([3], [124]), ([3, 124], [125]), ([2, 123, 125], [126]), ([2, 126], [127]), ([3], [128]), ([3, 128], [129]), ([2, 127, 129], [130]), ([2, 119, 121], [131]), ([2, 130, 131], [2, 130, 131])] := by
  refine ⟨?_, ?_, ?_, ?_, ?_, ?_, ?_, ?_⟩ <;> rfl
theorem e168 : (E.ann 168).modes = [] ∧ (E.ann 168).keep = [0] ∧ (E.ann 168).mir = [] ∧ (E.ann 168).ends 0 = none := by
  refine ⟨?_, ?_, ?_, ?_⟩ <;> rfl
theorem e169 : (E.ann 169).modes = [] ∧ (E.ann 169).keep = [] ∧ (E.ann 169).mir = [] ∧ (E.ann 169).heads 2 = [1, 4, 5, 6, 7] ∧ (E.ann 169).heads 0 = [1, 4, 5, 6] ∧ (E.ann 169).ends 0 = some [4, 5] ∧ (E.ann 169).ends 1 = none ∧ (E.ann 169).ends 2 = some [1, 4, 5, 6] ∧ (E.ann 169).ends 3 = none := by
  refine ⟨?_, ?_, ?_, ?_, ?_, ?_, ?_, ?_, ?_⟩ <;> rfl
theorem e170 : (E.ann 170).modes = [.shr, .io] ∧ (E.ann 170).keep = [0, 1] ∧ (E.ann 170).mir = [(1, 3)] := by
  refine ⟨?_, ?_, ?_⟩ <;> rfl
theorem e171 : (E.ann 171).modes = [] ∧ (E.ann 171).keep = [] ∧ (E.ann 171).mir = [] ∧ (E.ann 171).heads 0 = [1, 2, 3, 4] ∧ (E.ann 171).ends 0 = some [2, 3] ∧ (E.ann 171).ends 1 = none ∧ (E.ann 171).draws 1 = [([1], [5]), ([1, 5], [6]), ([1, 6], [7]), ([], [8]), ([1], [9]), ([1, 9], [10]), ([1, 8, 10], [8, 11]), ([7, 11], [7, 11, 12]), ([], [3]), ([3, 12], [3, 12])] ∧ (E.ann 171).draws 5 = [([3], [20]), ([3, 20], [21]), ([1], [22]), ([1, 22], [23]), ([4], [24]), ([1, 23, 24], [25]), ([1, 25], [26]), ([1, 26], [27]), ([27], [27, 28]), ([3, 21, 28], [3, 21, 28, 29]), ([3], [30]), ([3, 29, 30], [3, 29, 30])] := by
  refine ⟨?_, ?_, ?_, ?_, ?_, ?_, ?_, ?_⟩ <;> rfl
theorem e172 : (E.ann 172).modes = [] ∧ (E.ann 172).keep = [] ∧ (E.ann 172).mir = [] := by
  refine ⟨?_, ?_, ?_⟩ <;> rfl
theorem e173 : (E.ann 173).modes = [] ∧ (E.ann 173).keep = [] ∧ (E.ann 173).mir = [] ∧ (E.ann 173).draws 5 = [([0], [16]), ([16], [17]), ([17], [18]), ([0], [19]), ([19], [20]), ([20], [21]), ([21], [22]), ([22], [22, 23]), ([23], [24]), ([18, 24], [25]), ([25], [2])] := by
  refine ⟨?_, ?_, ?_, ?_⟩ <;> rfl
theorem e174 : (E.ann 174).modes = [] ∧ (E.ann 174).keep = [] ∧ (E.ann 174).mir = [] := by
  refine ⟨?_, ?_, ?_⟩ <;> rfl
theorem e175 : (E.ann 175).modes = [] ∧ (E.ann 175).keep = [] ∧ (E.ann 175).mir = [] ∧ (E.ann 175).heads 2 = [1, 2, 3, 5, 6] ∧ (E.ann 175).heads 0 = [1, 2, 3] ∧ (E.ann 175).ends 0 = some [1, 2] ∧ (E.ann 175).ends 1 = none ∧ (E.ann 175).ends 2 = some [1, 2, 3] ∧ (E.ann 175).ends 3 = none ∧ (E.ann 175).draws 9 = [([1], [40]), ([1, 40], [41]), ([5], [42]), ([6], [43]), ([5, 42, 43], [44]), ([5, 44], [45]), ([5, 45], [5, 45, 46]), ([1, 41, 46], [1, 41, 46, 47]), ([1], [48]), ([1, 47, 48], [1, 47, 48])] := by
  refine ⟨?_, ?_, ?_, ?_, ?_, ?_, ?_, ?_, ?_, ?_⟩ <;> rfl
theorem e176 : (E.ann 176).modes = [] ∧ (E.ann 176).keep = [] ∧ (E.ann 176).mir = [] ∧ (E.ann 176).draws 3 = [([2], [16]), ([2, 16], [17]), ([5], [18]), ([5, 18], [19]), ([19], [20]), ([2], [21]), ([2, 21], [22]), ([5], [23]), ([5, 23], [24]), ([24], [25]), ([2, 22, 25], [26]), ([2, 26], [27]), ([5], [28]), ([2, 5, 27, 28], [29]), ([2, 17, 20], [30]), ([2, 29, 30], [2, 29, 30])] := by
  refine ⟨?_, ?_, ?_, ?_⟩ <;> rfl
theorem e177 : (E.ann 177).modes = [] ∧ (E.ann 177).keep = [] ∧ (E.ann 177).mir = [] ∧ (E.ann 177).draws 1 = [] := by
  refine ⟨?_, ?_, ?_, ?_⟩ <;> rfl
theorem e178 : (E.ann 178).modes = [] ∧ (E.ann 178).keep = [] ∧ (E.ann 178).mir = [] ∧ (E.ann 178).heads 0 = [0, 1, 5] ∧ (E.ann 178).ends 0 = some [] ∧ (E.ann 178).ends 1 = none ∧ (E.ann 178).draws 6 = [([0], [17]), ([5], [18]), ([0, 17, 18], [19]), ([0, 19], [20]), ([1], [21]), ([5], [22]), ([1, 21, 22], [23]), ([1, 23], [24]), ([20, 24], [25]), ([25], [26])] := by
  refine ⟨?_, ?_, ?_, ?_, ?_, ?_, ?_⟩ <;> rfl
theorem e179 : (E.ann 179).modes = [] ∧ (E.ann 179).keep = [] ∧ (E.ann 179).mir = [] ∧ (E.ann 179).heads 0 = [0, 1, 5] ∧ (E.ann 179).ends 0 = some [] ∧ (E.ann 179).ends 1 = none ∧ (E.ann 179).draws 6 = [([0], [17]), ([5], [18]), ([0, 17, 18], [19]), ([0, 19], [20]), ([1], [21]), ([5], [22]), ([1, 21, 22], [23]), ([1, 23], [24]), ([20, 24], [25]), ([25], [26])] := by
  refine ⟨?_, ?_, ?_, ?_, ?_, ?_, ?_⟩ <;> rfl
theorem e180 : (E.ann 180).modes = [] ∧ (E.ann 180).keep = [] ∧ (E.ann 180).mir = [] ∧ (E.ann 180).heads 2 = [2, 4, 5, 9, 10] ∧ (E.ann 180).heads 0 = [2, 4, 5, 6, 7] ∧ (E.ann 180).ends 0 = some [2, 4, 5, 6] ∧ (E.ann 180).ends 1 = none ∧ (E.ann 180).ends 2 = some [2, 4, 5] ∧ (E.ann 180).ends 3 = none ∧ (E.ann 180).draws 14 = [([5], [42]), ([5, 42], [43]), ([5, 43], [44]), ([5], [45]), ([5, 45], [46]), ([5, 46], [47]), ([5, 44, 47], [48]), ([5], [49]), ([5, 49], [50]), ([7], [51]), ([5, 50, 51], [52]), ([5, 52], [53]), ([5, 48, 53], [54]), ([54], [55])] ∧ (E.ann 180).draws 36 = [([5], [139]), ([9], [140]), ([10], [141]), ([9, 140, 141], [142]), ([9, 142], [143]), ([5, 9, 139, 143], [144]), ([5, 144], [5, 144])] := by
  refine ⟨?_, ?_, ?_, ?_, ?_, ?_, ?_, ?_, ?_, ?_, ?_⟩ <;> rfl
theorem e181 : (E.ann 181).modes = [] ∧ (E.ann 181).keep = [] ∧ (E.ann 181).mir = [] ∧ (E.ann 181).heads 2 = [1, 2, 3, 4] ∧ (E.ann 181).heads 0 = [1, 2, 3] ∧ (E.ann 181).ends 0 = some [1, 2] ∧ (E.ann 181).ends 1 = none ∧ (E.ann 181).ends 2 = some [1, 2, 3, 4] ∧ (E.ann 181).ends 3 = none ∧ (E.ann 181).draws 12 = [([], [58]), ([1], [59]), ([1, 59], [60]), ([4], [61]), ([1, 60, 61], [62]), ([1, 58, 62], [58, 63]), ([3], [64]), ([5], [65]), ([64, 65], [64, 65, 66]), ([66], [66, 67]), ([63, 67], [63, 68]), ([1], [69]), ([1, 69], [70]), ([4], [71]), ([1, 70, 71], [72]), ([1, 68, 72], [68, 73]), ([1], [74]), ([1, 73, 74], [1, 73, 74])] := by
  refine ⟨?_, ?_, ?_, ?_, ?_, ?_, ?_, ?_, ?_, ?_⟩ <;> rfl
theorem e182 : (E.ann 182).modes = [] ∧ (E.ann 182).keep = [] ∧ (E.ann 182).mir = [] ∧ (E.ann 182).draws 6 = [([5], [30]), ([3], [31]), ([3, 31], [32]), ([5, 30, 32], [33]), ([33], [34]), ([4, 34], [4, 34])] := by
  refine ⟨?_, ?_, ?_, ?_⟩ <;> rfl
theorem e183 : (E.ann 183).modes = [] ∧ (E.ann 183).keep = [] ∧ (E.ann 183).mir = [] := by
  refine ⟨?_, ?_, ?_⟩ <;> rfl
theorem e184 : (E.ann 184).modes = [] ∧ (E.ann 184).keep = [] ∧ (E.ann 184).mir = [] := by
  refine ⟨?_, ?_, ?_⟩ <;> rfl
theorem e185 : (E.ann 185).modes = [] ∧ (E.ann 185).keep = [] ∧ (E.ann 185).mir = [] ∧ (E.ann 185).heads 0 = [3, 6, 7, 8, 9] ∧ (E.ann 185).ends 0 = some [3, 6] ∧ (E.ann 185).ends 1 = none ∧ (E.ann 185).draws 13 = [([3], [46]), ([9], [47]), ([47], [48]), ([7], [49]), ([8], [50]), ([9], [51]), ([8, 50, 51], [52]), ([8, 52], [53]), ([8, 53], [54]), ([49, 54], [49, 54, 55]), ([3, 46, 48, 55], [56]), ([3, 56], [3, 56])] := by
  refine ⟨?_, ?_, ?_, ?_, ?_, ?_, ?_⟩ <;> rfl
theorem e186 : (E.ann 186).modes = [] ∧ (E.ann 186).keep = [] ∧ (E.ann 186).mir = [] ∧ (E.ann 186).heads 4 = [1, 2, 4, 8] ∧ (E.ann 186).heads 2 = [1, 2, 4, 7] ∧ (E.ann 186).heads 0 = [1, 2, 4, 6] ∧ (E.ann 186).ends 0 = some [1, 2, 4] ∧ (E.ann 186).ends 1 = none ∧ (E.ann 186).ends 2 = some [1, 2, 4] ∧ (E.ann 186).ends 3 = none ∧ (E.ann 186).ends 4 = some [1, 2, 4] ∧ (E.ann 186).ends 5 = none ∧ (E.ann 186).draws 4 = [([2], [17]), ([2, 17], [18]), ([2, 18], [19]), ([6], [20]), ([2, 19, 20], [21]), ([2, 21], [22]), ([2, 22], [23]), ([2], [24]), ([2, 24], [25]), ([23, 25], [26])] ∧ (E.ann 186).draws 9 = [([2], [40]), ([2, 40], [41]), ([2, 41], [42]), ([2], [43]), ([2, 43], [44]), ([7], [45]), ([2, 44, 45], [46]), ([2, 46], [47]), ([2, 42, 47], [48]), ([48], [49]), ([49], [50]), ([2, 50], [51]), ([2, 50, 51], [52]), ([2, 50, 52], [53]), ([2, 50, 53], [54]), ([50, 54], [55]), ([50, 55], [56])] ∧ (E.ann 186).draws 10 = [([2], [57]), ([2], [58]), ([2, 58], [59]), ([2, 59], [60]), ([2, 60], [61]), ([61], [62]), ([2], [63]), ([2, 63], [64]), ([2], [65]), ([2, 65], [66]), ([7], [67]), ([2, 66, 67], [68]), ([2, 68], [69]), ([64, 69], [64, 69, 70]), ([2, 57, 62, 70], [71]), ([2, 71], [2, 71])] ∧ (E.ann 186).draws 15 = [([2], [92]), ([1], [93]), ([2], [94]), ([2, 94], [95]), ([8], [96]), ([96], [97]), ([2], [98]), ([2, 98], [99]), ([2, 99], [100]), ([8], [101]), ([2, 100, 101], [102]), ([2, 102], [103]), ([2, 103], [104]), ([95, 97, 104], [95, 97, 104, 105]), ([1, 2, 92, 93, 105], [106]), ([106], [1, 106])] := by
  refine ⟨?_, ?_, ?_, ?_, ?_, ?_, ?_, ?_, ?_, ?_, ?_, ?_, ?_, ?_, ?_, ?_⟩ <;> rfl
theorem e187 : (E.ann 187).modes = [] ∧ (E.ann 187).keep = [] ∧ (E.ann 187).mir = [] ∧ (E.ann 187).heads 0 = [1, 3, 5, 7] ∧ (E.ann 187).ends 0 = some [1] ∧ (E.ann 187).ends 1 = none := by
  refine ⟨?_, ?_, ?_, ?_, ?_, ?_⟩ <;> rfl
theorem e188 : (E.ann 188).modes = [] ∧ (E.ann 188).keep = [] ∧ (E.ann 188).mir = [] := by
  refine ⟨?_, ?_, ?_⟩ <;> rfl
theorem e189 : (E.ann 189).modes = [] ∧ (E.ann 189).keep = [] ∧ (E.ann 189).mir = [] ∧ (E.ann 189).heads 0 = [1, 2, 6] ∧ (E.ann 189).ends 0 = some [] ∧ (E.ann 189).ends 1 = none := by
  refine ⟨?_, ?_, ?_, ?_, ?_, ?_⟩ <;> rfl
theorem e190 : (E.ann 190).modes = [] ∧ (E.ann 190).keep = [] ∧ (E.ann 190).mir = [] ∧ (E.ann 190).heads 1 = [2, 3, 4, 5] ∧ (E.ann 190).ends 0 = none ∧ (E.ann 190).ends 1 = some [2, 4] ∧ (E.ann 190).ends 2 = none ∧ (E.ann 190).draws 6 = [([2], [28]), ([3], [29]), ([3, 29], [30]), ([3], [31]), ([3, 31], [32]), ([2], [33]), ([2, 33], [34]), ([2, 34], [35]), ([2, 35], [36]), ([30, 32, 36], [30, 32, 36, 37]), ([2, 28, 37], [38]), ([4, 38], [4, 38])] ∧ (E.ann 190).draws 34 = [([2], [218]), ([3], [219]), ([3, 219], [220]), ([2], [221]), ([2, 221], [222]), ([5], [223]), ([2], [224]), ([2, 224], [225]), ([2, 225], [226]), ([5], [227]), ([227], [228]), ([2, 226, 228], [229]), ([2, 229], [230]), ([2, 230], [231]), ([220, 222, 223, 231], [220, 222, 223, 231, 232]), ([2, 218, 232], [233]), ([2, 233], [2, 233])] := by
  refine ⟨?_, ?_, ?_, ?_, ?_, ?_, ?_, ?_, ?_⟩ <;> rfl
theorem e191 : (E.ann 191).modes = [] ∧ (E.ann 191).keep = [] ∧ (E.ann 191).mir = [] ∧ (E.ann 191).heads 0 = [0, 1, 5] ∧ (E.ann 191).ends 0 = some [0, 1, 5] ∧ (E.ann 191).ends 1 = none ∧ (E.ann 191).draws 6 = [([], [33]), ([0], [34]), ([5], [35]), ([0, 34, 35], [36]), ([0, 33, 36], [33, 37]), ([1], [38]), ([38], [38, 39]), ([37, 39], [37, 40]), ([0], [41]), ([5], [42]), ([0, 41, 42], [43]), ([0, 40, 43], [40, 44]), ([44], [4, 44])] := by
  refine ⟨?_, ?_, ?_, ?_, ?_, ?_, ?_⟩ <;> rfl
theorem e192 : (E.ann 192).modes = [] ∧ (E.ann 192).keep = [] ∧ (E.ann 192).mir = [] ∧ (E.ann 192).heads 0 = [1, 3, 5, 6] ∧ (E.ann 192).ends 0 = some [1, 3, 5, 6] ∧ (E.ann 192).ends 1 = none := by
  refine ⟨?_, ?_, ?_, ?_, ?_, ?_⟩ <;> rfl
theorem e193 : (E.ann 193).modes = [] ∧ (E.ann 193).keep = [] ∧ (E.ann 193).mir = [] ∧ (E.ann 193).heads 0 = [1, 2, 3, 6, 7] ∧ (E.ann 193).ends 0 = some [1, 2, 3, 6, 7] ∧ (E.ann 193).ends 1 = none ∧ (E.ann 193).draws 5 = [] ∧ (E.ann 193).draws 6 = [([3], [56]), ([3, 56], [57]), ([7], [58]), ([3], [59]), ([3, 59], [60]), ([7], [61]), ([3, 60, 61], [62]), ([3, 62], [63]), ([3, 63], [64]), ([2], [65]), ([3, 64, 65], [66]), ([3, 57, 58], [67]), ([3, 67], [68]), ([3, 66, 68], [3, 66, 68])] := by
  refine ⟨?_, ?_, ?_, ?_, ?_, ?_, ?_, ?_⟩ <;> rfl
theorem e194 : (E.ann 194).modes = [] ∧ (E.ann 194).keep = [] ∧ (E.ann 194).mir = [] := by
  refine ⟨?_, ?_, ?_⟩ <;> rfl
theorem e195 : (E.ann 195).modes = [] ∧ (E.ann 195).keep = [] ∧ (E.ann 195).mir = [] ∧ (E.ann 195).heads 2 = [2, 3, 4, 5] ∧ (E.ann 195).heads 0 = [2, 3, 4] ∧ (E.ann 195).ends 0 = some [2, 3, 4] ∧ (E.ann 195).ends 1 = none ∧ (E.ann 195).ends 2 = some [2, 4] ∧ (E.ann 195).ends 3 = none ∧ (E.ann 195).draws 4 = [([2], [21]), ([2, 21], [22]), ([2, 22], [23]), ([3], [24]), ([3, 24], [25]), ([23, 25], [26]), ([26], [27]), ([2, 27], [28]), ([2, 27, 28], [29]), ([2, 27, 29], [30]), ([2, 27], [31]), ([2, 27, 31], [32]), ([2, 27, 32], [33]), ([2, 27, 33], [34]), ([27, 30, 34], [35]), ([27, 35], [36]), ([36], [37]), ([2, 37], [38]), ([2, 37, 38], [39]), ([2, 37, 39], [40]), ([2, 37], [41]), ([2, 37, 41], [42]), ([2, 37, 42], [43]), ([2, 37, 40, 43], [44]), ([2, 37, 44], [45]), ([2, 37, 45], [46]), ([3, 37], [47]), ([3, 37, 47], [48]), ([37, 46, 48], [49]), ([37, 49], [50])] ∧ (E.ann 195).draws 11 = [([2], [81]), ([3], [82]), ([3, 82], [83]), ([2], [84]), ([2, 84], [85]), ([5], [86]), ([2, 85, 86], [87]), ([2, 87], [88]), ([83, 88], [83, 88, 89]), ([2, 81, 89], [90]), ([2, 90], [2, 90])] := by
  refine ⟨?_, ?_, ?_, ?_, ?_, ?_, ?_, ?_, ?_, ?_, ?_⟩ <;> rfl
theorem e196 : (E.ann 196).modes = [] ∧ (E.ann 196).keep = [] ∧ (E.ann 196).mir = [] ∧ (E.ann 196).heads 0 = [1, 2, 3] ∧ (E.ann 196).ends 0 = some [1, 2] ∧ (E.ann 196).ends 1 = none ∧ (E.ann 196).draws 5 = [([4], [17]), ([4, 17], [18]), ([1], [19]), ([1, 19], [20]), ([1, 20], [21]), ([21], [22]), ([18, 22], [23]), ([23], [24]), ([4, 24], [25]), ([4, 24, 25], [26]), ([4, 24, 26], [27]), ([24, 27], [28]), ([1, 24], [29]), ([1, 24, 29], [30]), ([24, 28, 30], [31]), ([24, 31], [32]), ([32], [33]), ([4, 33], [34]), ([4, 33, 34], [35]), ([1, 33], [36]), ([1, 33, 36], [37]), ([1, 33, 37], [38]), ([1, 33, 38], [39]), ([33, 35, 39], [40]), ([33, 40], [41]), ([41], [42]), ([1, 42], [43]), ([1, 42, 43], [44]), ([1, 42, 44], [45]), ([4, 42], [46]), ([4, 42, 46], [47]), ([42, 47], [48]), ([1, 42, 45, 48], [49]), ([1, 42, 49], [50]), ([1, 42, 50], [51]), ([1, 42], [52]), ([1, 42, 52], [53]), ([42, 51, 53], [54]), ([42, 54], [55])] := by
  refine ⟨?_, ?_, ?_, ?_, ?_, ?_, ?_⟩ <;> rfl
theorem tblOk : tbl.all (fun p => tiB Try.prog p.1 p.2) = true := by kernel_rfl
theorem progOk : progB Try.prog E = true := by kernel_rfl
theorem sound (f : FuncId) : CallOk Try.prog E (EV Try.prog E) f := EV_sound (by kernel_rfl) (tok_of tblOk) eqOk_none progOk f
end Go.Proofs.Ytjcbojcnfdlfaaa

