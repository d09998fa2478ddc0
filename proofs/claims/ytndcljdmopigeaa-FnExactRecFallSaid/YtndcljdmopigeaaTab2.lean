/- The tables of the seat: types, annotations (written by a program), and that the kernel finds them right. -/
import Derived.Test.YtndcljdmopigeaaProg
import Derived.KernelRfl
import Derived.Test.YtndcljdmopigeaaSxD
namespace Go.Proofs.Ytndcljdmopigeaa
open Go.Sx
def tbl : List (Nat × TI) := [
  (2, ⟨.prim, 1, 8, [.p (.int .i64 0)]⟩),
  (3, ⟨.prim, 1, 8, [.p (.int .i64 0)]⟩),
  (4, ⟨.prim, 1, 1, [.p (.bool false)]⟩),
  (5, ⟨.prim, 1, 1, [.p (.int .u8 0)]⟩),
  (6, ⟨.prim, 1, 1, [.p (.int .u8 0)]⟩),
  (7, ⟨.strct [(0, 1, false), (1, 1, false), (2, 1, false), (3, 1, false)], 4, 24, [.p (.int .i64 0), .p (.int .i64 0), .p (.bool false), .p (.int .u8 0)]⟩),
  (8, ⟨.strct [(0, 1, false), (1, 1, false), (2, 1, false), (3, 1, false)], 4, 24, [.p (.int .i64 0), .p (.int .i64 0), .p (.bool false), .p (.int .u8 0)]⟩),
  (9, ⟨.prim, 1, 16, [.p (.string ⟨#[]⟩)]⟩),
  (10, ⟨.prim, 1, 16, [.p (.string ⟨#[]⟩)]⟩),
  (11, ⟨.prim, 1, 16, [.p (.string ⟨#[]⟩)]⟩),
  (12, ⟨.prim, 1, 8, [.p (.int .u64 0)]⟩),
  (13, ⟨.strct [(0, 1, false), (1, 1, false)], 2, 24, [.p (.string ⟨#[]⟩), .p (.int .u64 0)]⟩),
  (14, ⟨.strct [(0, 1, false), (1, 1, false)], 2, 24, [.p (.string ⟨#[]⟩), .p (.int .u64 0)]⟩),
  (15, ⟨.ptr 144, 1, 8, [.p (.pointer none)]⟩),
  (16, ⟨.ptr 147, 1, 8, [.p (.pointer none)]⟩),
  (17, ⟨.ptr 157, 1, 8, [.p (.pointer none)]⟩),
  (18, ⟨.strct [(0, 1, false)], 1, 8, [.p (.pointer none)]⟩),
  (19, ⟨.strct [(0, 1, false)], 1, 8, [.p (.pointer none)]⟩),
  (21, ⟨.prim, 1, 4, [.p (.int .i32 0)]⟩),
  (22, ⟨.slc 106, 1, 24, [.sl .own 2 []]⟩),
  (23, ⟨.strct [(0, 1, false), (1, 1, false), (2, 1, false)], 3, 40, [.p (.int .i64 0), .p (.int .i64 0), .sl .own 2 []]⟩),
  (24, ⟨.strct [(0, 1, false), (1, 1, false), (2, 1, false)], 3, 40, [.p (.int .i64 0), .p (.int .i64 0), .sl .own 2 []]⟩),
  (25, ⟨.slc 88, 1, 24, [.sl .own 8 []]⟩),
  (26, ⟨.slc 9, 1, 24, [.sl .own 1 []]⟩),
  (27, ⟨.slc 3, 1, 24, [.sl .own 1 []]⟩),
  (28, ⟨.slc 100, 1, 24, [.sl .own 2 []]⟩),
  (29, ⟨.strct [(0, 1, false), (1, 1, false), (2, 1, false), (3, 3, true), (6, 3, true), (9, 1, false), (10, 1, false), (11, 1, false), (12, 1, false), (13, 1, false), (14, 1, false), (15, 1, false), (16, 1, false), (17, 1, false)], 18, 248, [.p (.int .i64 0), .p (.int .i64 0), .p (.bool false), .p (.int .i64 0), .p (.int .i64 0), .sl .own 2 [], .p (.int .i64 0), .p (.int .i64 0), .sl .own 2 [], .sl .own 8 [], .sl .own 1 [], .p (.bool false), .p (.bool false), .p (.int .i64 0), .sl .own 1 [], .sl .own 2 [], .sl .own 2 [], .p (.int .i64 0)]⟩),
  (30, ⟨.strct [(0, 1, false), (1, 1, false), (2, 1, false), (3, 3, true), (6, 3, true), (9, 1, false), (10, 1, false), (11, 1, false), (12, 1, false), (13, 1, false), (14, 1, false), (15, 1, false), (16, 1, false), (17, 1, false)], 18, 248, [.p (.int .i64 0), .p (.int .i64 0), .p (.bool false), .p (.int .i64 0), .p (.int .i64 0), .sl .own 2 [], .p (.int .i64 0), .p (.int .i64 0), .sl .own 2 [], .sl .own 8 [], .sl .own 1 [], .p (.bool false), .p (.bool false), .p (.int .i64 0), .sl .own 1 [], .sl .own 2 [], .sl .own 2 [], .p (.int .i64 0)]⟩),
  (35, ⟨.slc 124, 1, 24, [.sl .own 2 []]⟩),
  (36, ⟨.strct [(0, 1, false), (1, 1, false), (2, 1, false)], 3, 40, [.p (.int .i64 0), .p (.int .i64 0), .sl .own 2 []]⟩),
  (37, ⟨.strct [(0, 1, false), (1, 1, false), (2, 1, false)], 3, 40, [.p (.int .i64 0), .p (.int .i64 0), .sl .own 2 []]⟩),
  (38, ⟨.slc 122, 1, 24, [.sl .own 8 []]⟩),
  (39, ⟨.slc 126, 1, 24, [.sl .own 2 []]⟩),
  (40, ⟨.strct [(0, 1, false), (1, 1, false), (2, 1, false), (3, 3, true), (6, 3, true), (9, 1, false), (10, 1, false), (11, 1, false), (12, 1, false), (13, 1, false), (14, 1, false), (15, 1, false), (16, 1, false), (17, 1, false)], 18, 248, [.p (.int .i64 0), .p (.int .i64 0), .p (.bool false), .p (.int .i64 0), .p (.int .i64 0), .sl .own 2 [], .p (.int .i64 0), .p (.int .i64 0), .sl .own 2 [], .sl .own 8 [], .sl .own 1 [], .p (.bool false), .p (.bool false), .p (.int .i64 0), .sl .own 1 [], .sl .own 2 [], .sl .own 2 [], .p (.int .i64 0)]⟩),
  (41, ⟨.strct [(0, 1, false), (1, 1, false), (2, 1, false), (3, 3, true), (6, 3, true), (9, 1, false), (10, 1, false), (11, 1, false), (12, 1, false), (13, 1, false), (14, 1, false), (15, 1, false), (16, 1, false), (17, 1, false)], 18, 248, [.p (.int .i64 0), .p (.int .i64 0), .p (.bool false), .p (.int .i64 0), .p (.int .i64 0), .sl .own 2 [], .p (.int .i64 0), .p (.int .i64 0), .sl .own 2 [], .sl .own 8 [], .sl .own 1 [], .p (.bool false), .p (.bool false), .p (.int .i64 0), .sl .own 1 [], .sl .own 2 [], .sl .own 2 [], .p (.int .i64 0)]⟩),
  (46, ⟨.slc 30, 1, 24, [.sl .own 18 []]⟩),
  (47, ⟨.slc 112, 1, 24, [.sl .own 2 []]⟩),
  (48, ⟨.strct [(0, 1, false), (1, 1, false), (2, 1, false)], 3, 72, [.sl .own 18 [], .sl .own 8 [], .sl .own 2 []]⟩),
  (49, ⟨.strct [(0, 1, false), (1, 1, false), (2, 1, false)], 3, 72, [.sl .own 18 [], .sl .own 8 [], .sl .own 2 []]⟩),
  (57, ⟨.slc 41, 1, 24, [.sl .own 18 []]⟩),
  (58, ⟨.slc 135, 1, 24, [.sl .own 2 []]⟩),
  (59, ⟨.strct [(0, 1, false), (1, 1, false), (2, 1, false)], 3, 72, [.sl .own 18 [], .sl .own 8 [], .sl .own 2 []]⟩),
  (60, ⟨.strct [(0, 1, false), (1, 1, false), (2, 1, false)], 3, 72, [.sl .own 18 [], .sl .own 8 [], .sl .own 2 []]⟩),
  (87, ⟨.strct [(0, 1, false), (1, 1, false), (2, 1, false), (3, 1, false), (4, 1, false), (5, 1, false), (6, 1, false), (7, 1, false)], 8, 88, [.p (.int .i64 0), .p (.int .i64 0), .p (.int .i64 0), .p (.int .i64 0), .p (.int .i64 0), .p (.int .i64 0), .p (.string ⟨#[]⟩), .sl .own 2 []]⟩),
  (88, ⟨.strct [(0, 1, false), (1, 1, false), (2, 1, false), (3, 1, false), (4, 1, false), (5, 1, false), (6, 1, false), (7, 1, false)], 8, 88, [.p (.int .i64 0), .p (.int .i64 0), .p (.int .i64 0), .p (.int .i64 0), .p (.int .i64 0), .p (.int .i64 0), .p (.string ⟨#[]⟩), .sl .own 2 []]⟩),
  (99, ⟨.strct [(0, 1, false), (1, 1, false)], 2, 32, [.p (.int .i64 0), .sl .own 1 []]⟩),
  (100, ⟨.strct [(0, 1, false), (1, 1, false)], 2, 32, [.p (.int .i64 0), .sl .own 1 []]⟩),
  (105, ⟨.strct [(0, 1, false), (1, 1, false)], 2, 24, [.p (.int .i64 0), .p (.string ⟨#[]⟩)]⟩),
  (106, ⟨.strct [(0, 1, false), (1, 1, false)], 2, 24, [.p (.int .i64 0), .p (.string ⟨#[]⟩)]⟩),
  (111, ⟨.strct [(0, 1, false), (1, 1, false)], 2, 24, [.p (.int .i64 0), .p (.string ⟨#[]⟩)]⟩),
  (112, ⟨.strct [(0, 1, false), (1, 1, false)], 2, 24, [.p (.int .i64 0), .p (.string ⟨#[]⟩)]⟩),
  (121, ⟨.strct [(0, 1, false), (1, 1, false), (2, 1, false), (3, 1, false), (4, 1, false), (5, 1, false), (6, 1, false), (7, 1, false)], 8, 88, [.p (.int .i64 0), .p (.int .i64 0), .p (.int .i64 0), .p (.int .i64 0), .p (.int .i64 0), .p (.int .i64 0), .p (.string ⟨#[]⟩), .sl .own 2 []]⟩),
  (122, ⟨.strct [(0, 1, false), (1, 1, false), (2, 1, false), (3, 1, false), (4, 1, false), (5, 1, false), (6, 1, false), (7, 1, false)], 8, 88, [.p (.int .i64 0), .p (.int .i64 0), .p (.int .i64 0), .p (.int .i64 0), .p (.int .i64 0), .p (.int .i64 0), .p (.string ⟨#[]⟩), .sl .own 2 []]⟩),
  (124, ⟨.strct [(0, 1, false), (1, 1, false)], 2, 24, [.p (.int .i64 0), .p (.string ⟨#[]⟩)]⟩),
  (126, ⟨.strct [(0, 1, false), (1, 1, false)], 2, 32, [.p (.int .i64 0), .sl .own 1 []]⟩),
  (132, ⟨.ptr 30, 1, 8, [.p (.pointer none)]⟩),
  (133, ⟨.slc 5, 1, 24, [.sl .own 1 []]⟩),
  (135, ⟨.strct [(0, 1, false), (1, 1, false)], 2, 24, [.p (.int .i64 0), .p (.string ⟨#[]⟩)]⟩),
  (137, ⟨.ptr 49, 1, 8, [.p (.pointer none)]⟩),
  (143, ⟨.strct [(0, 1, false), (1, 1, false), (2, 1, false), (3, 1, false)], 4, 40, [.p (.pointer none), .p (.pointer none), .p (.pointer none), .p (.string ⟨#[]⟩)]⟩),
  (144, ⟨.strct [(0, 1, false), (1, 1, false), (2, 1, false), (3, 1, false)], 4, 40, [.p (.pointer none), .p (.pointer none), .p (.pointer none), .p (.string ⟨#[]⟩)]⟩),
  (149, ⟨.prim, 1, 4, [.p (.int .u32 0)]⟩),
  (150, ⟨.prim, 1, 1, [.p (.int .u8 0)]⟩),
  (151, ⟨.prim, 1, 1, [.p (.int .u8 0)]⟩),
  (153, ⟨.ptr 5, 1, 8, [.p (.pointer none)]⟩),
  (154, ⟨.prim, 1, 4, [.p (.int .i32 0)]⟩),
  (155, ⟨.prim, 1, 4, [.p (.int .i32 0)]⟩)]
/-- gosem.cut.init -/
def a2 : Ann := {}
/-- loop.example/wharflog/laws.FnExactRecNew -/
def a3 : Ann := {}
/-- loop.example/wharflog/laws.FnExactRecValid -/
def a4 : Ann := { draws := lookD [(10, [([5], [22]), ([1], [23]), ([1, 23], [24]), ([5, 22, 24], [25]), ([25], [26])])] [] }
/-- loop.example/wharflog/laws.FnExactRecNewWorld -/
def a5 : Ann := {}
/-- loop.example/wharflog/laws.FnExactRecBook -/
def a6 : Ann := { draws := lookD [(10, [([5], [27]), ([1], [28]), ([1, 28], [29]), ([5, 27, 29], [30]), ([30], [31])])] [] }
/-- loop.example/wharflog/laws.FnExactRecWorldOk -/
def a7 : Ann := { draws := lookD [(10, [([5], [22]), ([1], [23]), ([1, 23], [24]), ([5, 22, 24], [25]), ([25], [26])])] [] }
/-- loop.example/wharflog/laws.FnExactRecMajor -/
def a8 : Ann := { draws := lookD [(10, [([8], [39]), ([2], [40]), ([2, 40], [41]), ([8, 39, 41], [42]), ([42], [43])])] [] }
/-- loop.example/wharflog/laws.FnExactRecFall -/
def a9 : Ann := { draws := lookD [(10, [([5], [27]), ([1], [28]), ([1, 28], [29]), ([5, 27, 29], [30]), ([30], [31])])] [] }
/-- loop.example/wharflog/laws.FnExactRecRise -/
def a10 : Ann := { draws := lookD [(10, [([5], [27]), ([1], [28]), ([1, 28], [29]), ([5, 27, 29], [30]), ([30], [31])])] [] }
/-- loop.example/wharflog/spec.RecNew -/
def a11 : Ann := {}
/-- loop.example/wharflog/impl.RecNew -/
def a12 : Ann := {}
/-- loop.example/wharflog/laws.eqRecorder -/
def a13 : Ann := {}
/-- loop.example/wharflog/laws.markRecorder -/
def a14 : Ann := { modes := [.io, .shr], keep := [0], mir := [(0, 2)] }
/-- loop.example/wharflog/laws.heldRecorder -/
def a15 : Ann := {}
/-- loop.example/wharflog/laws.szRecorder -/
def a16 : Ann := {}
/-- loop.example/wharflog/spec.RecValid -/
def a17 : Ann := { heads := lookD [(0, [1, 3])] [], ends := lookT [(0, [1])], draws := lookD [(6, [([1], [53]), ([1, 53], [54]), ([3], [55]), ([1, 54, 55], [56]), ([1, 56], [57]), ([1], [58]), ([1, 58], [59]), ([1, 57, 59], [60]), ([60], [61]), ([61], [62]), ([1, 62], [63]), ([1, 62, 63], [64]), ([3, 62], [65]), ([1, 62, 64, 65], [66]), ([1, 62, 66], [67]), ([1, 62, 67], [68]), ([1, 62], [69]), ([1, 62, 69], [70]), ([62, 68, 70], [71]), ([62, 71], [72])])] [] }
/-- loop.example/wharflog/laws.toRecorder -/
def a18 : Ann := {}
/-- loop.example/wharflog/impl.RecValid -/
def a19 : Ann := { heads := lookD [(4, [1, 107, 108, 109]), (2, [1, 86, 87, 88]), (0, [1, 66, 67, 68])] [], ends := lookT [(4, [1]), (2, [1]), (0, [1])], draws := lookD [(18, [([8], [114]), ([8, 114], [115]), ([115], [116]), ([116], [117]), ([117], [118]), ([8, 118], [119]), ([8, 118, 119], [120]), ([1, 118], [121]), ([1, 118, 121], [122]), ([8, 118, 120, 122], [123]), ([118, 123], [124]), ([118, 124], [125]), ([125], [126]), ([7, 126], [127]), ([126, 127], [128]), ([126, 128], [129]), ([8, 129], [130]), ([8, 129, 130], [131]), ([1, 129], [132]), ([1, 129, 132], [133]), ([7, 129], [134]), ([129, 134], [135]), ([1, 129, 133, 135], [136]), ([1, 129, 136], [137]), ([1, 129, 137], [138]), ([129, 131, 138], [139]), ([126, 129, 139], [140]), ([126, 140], [141])])] [] }
/-- loop.example/wharflog/spec.RecNewWorld -/
def a20 : Ann := { heads := lookD [(0, [0, 2, 3, 4])] [], ends := lookT [(0, [2, 3])], draws := lookD [(7, [([3], [15]), ([3, 15], [16]), ([4], [17]), ([0], [18]), ([17, 18], [19]), ([19], [19, 20]), ([3, 16, 20], [3, 16, 20, 21]), ([3], [22]), ([3, 21, 22], [3, 21, 22])])] [] }
/-- loop.example/wharflog/impl.RecNewWorld -/
def a21 : Ann := { heads := lookD [(0, [0, 2, 3, 4])] [], ends := lookT [(0, [2, 3])], draws := lookD [(6, [([3], [12]), ([3, 12], [13]), ([4], [14]), ([0], [15]), ([14, 15], [16]), ([16], [16, 17]), ([3, 13, 17], [3, 13, 17, 18]), ([3], [19]), ([3, 18, 19], [3, 18, 19])])] [] }
/-- loop.example/wharflog/laws.eqRecWorld -/
def a22 : Ann := {}
/-- loop.example/wharflog/laws.markRecWorld -/
def a23 : Ann := { modes := [.io, .shr], keep := [0], mir := [(0, 2)] }
/-- loop.example/wharflog/laws.heldRecWorld -/
def a24 : Ann := {}
/-- loop.example/wharflog/spec.RecBook -/
def a25 : Ann := { heads := lookD [(0, [1, 3, 4])] [], ends := lookT [(0, [3])] }
/-- loop.example/wharflog/impl.RecBook -/
def a26 : Ann := {}
/-- loop.example/wharflog/laws.eqStringS -/
def a27 : Ann := { heads := lookD [(0, [0, 1, 5])] [], ends := lookT [(0, [])], draws := lookD [(6, [([0], [17]), ([5], [18]), ([0, 17, 18], [19]), ([0, 19], [20]), ([1], [21]), ([5], [22]), ([1, 21, 22], [23]), ([1, 23], [24]), ([20, 24], [25])])] [] }
/-- loop.example/wharflog/laws.markStringS -/
def a28 : Ann := { modes := [.io, .shr], keep := [0], heads := lookD [(0, [0, 1, 5])] [], ends := lookT [(0, [0, 1])] }
/-- loop.example/wharflog/laws.heldStringS -/
def a29 : Ann := { heads := lookD [(0, [0, 1, 5])] [], ends := lookT [(0, [1])], draws := lookD [(4, [([0], [12]), ([5], [13]), ([0, 12, 13], [14]), ([0, 14], [15]), ([1], [16]), ([16], [17]), ([15, 17], [18])])] [] }
/-- loop.example/wharflog/laws.szRecWorld -/
def a30 : Ann := {}
/-- loop.example/wharflog/spec.RecWorldOk -/
def a31 : Ann := { heads := lookD [(4, [1, 6]), (2, [1, 3, 5]), (0, [1, 3, 4])] [], ends := lookT [(4, []), (2, [1]), (0, [1, 3])], draws := lookD [(17, [([1], [74]), ([1, 74], [75]), ([6], [76]), ([1, 75, 76], [77]), ([1, 77], [78]), ([1, 78], [79]), ([79], [80]), ([80], [81]), ([81], [82]), ([1, 82], [83]), ([1, 82, 83], [84]), ([6, 82], [85]), ([1, 82, 84, 85], [86]), ([1, 82, 86], [87]), ([1, 82, 87], [88]), ([82, 88], [89]), ([82, 89], [90]), ([82, 90], [91]), ([91], [92]), ([6, 92], [93]), ([92, 93], [94]), ([92, 94], [95]), ([1, 95], [96]), ([1, 95, 96], [97]), ([6, 95], [98]), ([95, 98], [99]), ([1, 95, 97, 99], [100]), ([1, 95, 100], [101]), ([1, 95, 101], [102]), ([1, 95], [103]), ([1, 95, 103], [104]), ([6, 95], [105]), ([1, 95, 104, 105], [106]), ([1, 95, 106], [107]), ([1, 95, 107], [108]), ([95, 102, 108], [109]), ([92, 95, 109], [110]), ([92, 110], [111])])] [] }
/-- loop.example/wharflog/laws.toRecWorld -/
def a32 : Ann := {}
/-- loop.example/wharflog/impl.RecWorldOk -/
def a33 : Ann := { heads := lookD [(4, [1, 60, 61, 62]), (2, [1, 3, 48, 49, 50]), (0, [1, 3, 23, 24, 25])] [], ends := lookT [(4, []), (2, [1]), (0, [1, 3])], draws := lookD [(19, [([9], [67]), ([9, 67], [68]), ([68], [69]), ([69], [70]), ([70], [71]), ([9, 71], [72]), ([9, 71, 72], [73]), ([71, 73], [74]), ([71, 74], [75]), ([71, 75], [76]), ([76], [77]), ([8, 77], [78]), ([77, 78], [79]), ([77, 79], [80]), ([9, 80], [81]), ([9, 80, 81], [82]), ([1, 80], [83]), ([1, 80, 83], [84]), ([8, 80], [85]), ([80, 85], [86]), ([1, 80, 84, 86], [87]), ([1, 80, 87], [88]), ([1, 80, 88], [89]), ([80, 82, 89], [90]), ([77, 80, 90], [91]), ([77, 91], [92])])] [] }
/-- loop.example/wharflog/spec.RecMajor -/
def a34 : Ann := {}
/-- loop.example/wharflog/impl.RecMajor -/
def a35 : Ann := {}
/-- loop.example/wharflog/spec.RecFall -/
def a36 : Ann := { draws := lookD [(3, [([1], [7]), ([1, 7], [8]), ([1], [9]), ([1, 9], [10]), ([1], [11]), ([1, 11], [12]), ([1, 12], [13]), ([1], [14]), ([1, 14], [15]), ([1, 15], [16]), ([8, 10, 13, 16], [8, 10, 13, 16, 17]), ([2, 17], [2, 17])])] [] }
/-- loop.example/wharflog/impl.RecFall -/
def a37 : Ann := {}
/-- loop.example/wharflog/spec.RecRise -/
def a38 : Ann := {}
/-- loop.example/wharflog/impl.RecRise -/
def a39 : Ann := {}
/-- loop.example/wharflog/spec.l12In -/
def a40 : Ann := {}
/-- loop.example/wharflog/impl.within -/
def a41 : Ann := {}
/-- loop.example/wharflog/laws.eqRecDisk -/
def a42 : Ann := {}
/-- loop.example/wharflog/laws.eqRecMessageS -/
def a43 : Ann := { heads := lookD [(0, [0, 1, 5])] [], ends := lookT [(0, [])], draws := lookD [(6, [([0], [17]), ([5], [18]), ([0, 17, 18], [19]), ([0, 19], [20]), ([1], [21]), ([5], [22]), ([1, 21, 22], [23]), ([1, 23], [24]), ([0, 1, 20, 24], [25]), ([25], [26])])] [] }
/-- loop.example/wharflog/laws.eqIntS -/
def a44 : Ann := { heads := lookD [(0, [0, 1, 5])] [], ends := lookT [(0, [])], draws := lookD [(6, [([0], [17]), ([5], [18]), ([0, 17, 18], [19]), ([0, 19], [20]), ([1], [21]), ([5], [22]), ([1, 21, 22], [23]), ([1, 23], [24]), ([20, 24], [25])])] [] }
/-- loop.example/wharflog/laws.eqRecSlotS -/
def a45 : Ann := { heads := lookD [(0, [0, 1, 5])] [], ends := lookT [(0, [])], draws := lookD [(6, [([0], [17]), ([5], [18]), ([0, 17, 18], [19]), ([0, 19], [20]), ([1], [21]), ([5], [22]), ([1, 21, 22], [23]), ([1, 23], [24]), ([20, 24], [25]), ([25], [26])])] [] }
/-- loop.example/wharflog/laws.eqRecAckS -/
def a46 : Ann := { heads := lookD [(0, [0, 1, 5])] [], ends := lookT [(0, [])], draws := lookD [(6, [([0], [17]), ([5], [18]), ([0, 17, 18], [19]), ([0, 19], [20]), ([1], [21]), ([5], [22]), ([1, 21, 22], [23]), ([1, 23], [24]), ([0, 1, 20, 24], [25]), ([25], [26])])] [] }
/-- loop.example/wharflog/laws.markRecDisk -/
def a47 : Ann := { modes := [.io, .shr], keep := [0], mir := [(0, 2)] }
/-- loop.example/wharflog/laws.markRecMessageS -/
def a48 : Ann := { modes := [.io, .shr], keep := [0], heads := lookD [(0, [0, 1, 5])] [], ends := lookT [(0, [0, 1])] }
/-- loop.example/wharflog/laws.markIntS -/
def a49 : Ann := { modes := [.io, .shr], keep := [0], heads := lookD [(0, [0, 1, 5])] [], ends := lookT [(0, [0, 1])] }
/-- loop.example/wharflog/laws.markRecSlotS -/
def a50 : Ann := { modes := [.io, .shr], keep := [0], heads := lookD [(0, [0, 1, 5])] [], ends := lookT [(0, [0, 1])] }
/-- loop.example/wharflog/laws.markRecAckS -/
def a51 : Ann := { modes := [.io, .shr], keep := [0], heads := lookD [(0, [0, 1, 5])] [], ends := lookT [(0, [0, 1])] }
/-- loop.example/wharflog/laws.heldRecDisk -/
def a52 : Ann := {}
/-- loop.example/wharflog/laws.heldRecMessageS -/
def a53 : Ann := { heads := lookD [(0, [0, 1, 5])] [], ends := lookT [(0, [1])], draws := lookD [(22, [([0], [66]), ([5], [67]), ([0, 66, 67], [68]), ([0, 68], [69]), ([0, 69], [70]), ([1], [71]), ([71], [72]), ([70, 72], [73])])] [] }
/-- loop.example/wharflog/laws.heldIntS -/
def a54 : Ann := { heads := lookD [(0, [0, 1, 5])] [], ends := lookT [(0, [1])] }
/-- loop.example/wharflog/laws.heldRecSlotS -/
def a55 : Ann := { heads := lookD [(0, [0, 1, 5])] [], ends := lookT [(0, [1])], draws := lookD [(7, [([0], [21]), ([5], [22]), ([0, 21, 22], [23]), ([0, 23], [24]), ([0, 24], [25]), ([1], [26]), ([26], [27]), ([25, 27], [28])])] [] }
/-- loop.example/wharflog/laws.heldRecAckS -/
def a56 : Ann := { heads := lookD [(0, [0, 1, 5])] [], ends := lookT [(0, [1])] }
/-- loop.example/wharflog/laws.szRecDisk -/
def a57 : Ann := {}
/-- loop.example/wharflog/laws.szRecMessageS -/
def a58 : Ann := { heads := lookD [(0, [0, 1, 5])] [], ends := lookT [(0, [1])] }
/-- loop.example/wharflog/laws.szStringS -/
def a59 : Ann := { heads := lookD [(0, [0, 1, 5])] [], ends := lookT [(0, [1])] }
/-- loop.example/wharflog/laws.szIntS -/
def a60 : Ann := {}
/-- loop.example/wharflog/laws.szRecSlotS -/
def a61 : Ann := { heads := lookD [(0, [0, 1, 5])] [], ends := lookT [(0, [1])] }
/-- loop.example/wharflog/laws.szRecAckS -/
def a62 : Ann := { heads := lookD [(0, [0, 1, 5])] [], ends := lookT [(0, [1])] }
/-- loop.example/wharflog/spec.RecDiskOk -/
def a63 : Ann := { heads := lookD [(0, [1, 3])] [], ends := lookT [(0, [])], draws := lookD [(6, [([1], [30]), ([1, 30], [31]), ([3], [32]), ([1, 31, 32], [33]), ([1, 33], [34]), ([1, 34], [35]), ([1], [36]), ([1, 36], [37]), ([35, 37], [38]), ([38], [39]), ([3, 39], [40]), ([1, 39], [41]), ([1, 39, 41], [42]), ([39, 40, 42], [43]), ([39, 43], [44]), ([1, 44], [45]), ([1, 44, 45], [46]), ([3, 44], [47]), ([1, 44, 46, 47], [48]), ([1, 44, 48], [49]), ([1, 44, 49], [50]), ([44, 50], [51]), ([39, 44, 51], [52]), ([39, 52], [53])])] [] }
/-- loop.example/wharflog/spec.l13WishesOk -/
def a64 : Ann := { heads := lookD [(2, [0, 3, 4]), (0, [0, 3])] [], ends := lookT [(2, [0, 3]), (0, [])], draws := lookD [(11, [([0], [33]), ([4], [34]), ([0, 33, 34], [35]), ([0, 35], [36]), ([0], [37]), ([3], [38]), ([0, 37, 38], [39]), ([0, 39], [40]), ([36, 40], [41])])] [] }
/-- loop.example/wharflog/spec.RecMessageOk -/
def a65 : Ann := {}
/-- loop.example/wharflog/spec.l13Numbers -/
def a66 : Ann := { heads := lookD [(0, [0, 1, 5])] [], ends := lookT [(0, [])], draws := lookD [(4, [([0], [12]), ([5], [13]), ([0, 12, 13], [14]), ([0, 14], [15]), ([1], [16]), ([15, 16], [17]), ([17], [18]), ([18], [19]), ([5, 19], [20]), ([19, 20], [21]), ([19, 21], [22]), ([0, 22], [23]), ([5, 22], [24]), ([22, 24], [25]), ([0, 22, 23, 25], [26]), ([0, 22, 26], [27]), ([0, 22], [28]), ([5, 22], [29]), ([0, 22, 28, 29], [30]), ([0, 22, 30], [31]), ([22, 27, 31], [32]), ([19, 22, 32], [33]), ([19, 33], [34])])] [] }
/-- loop.example/wharflog/spec.l12SlotsOk -/
def a67 : Ann := { heads := lookD [(0, [0, 3])] [], ends := lookT [(0, [])] }
/-- loop.example/wharflog/spec.l13AcksOk -/
def a68 : Ann := { heads := lookD [(0, [0, 1, 5])] [], ends := lookT [(0, [])], draws := lookD [(4, [([0], [12]), ([5], [13]), ([0, 12, 13], [14]), ([0, 14], [15]), ([0, 15], [16]), ([16], [17]), ([17], [18]), ([18], [19]), ([0, 19], [20]), ([5, 19], [21]), ([0, 19, 20, 21], [22]), ([0, 19, 22], [23]), ([0, 19, 23], [24]), ([1, 19], [25]), ([0, 19, 24, 25], [26]), ([19, 26], [27]), ([19, 27], [28]), ([28], [29]), ([5, 29], [30]), ([29, 30], [31]), ([29, 31], [32]), ([0, 32], [33]), ([5, 32], [34]), ([32, 34], [35]), ([0, 32, 33, 35], [36]), ([0, 32, 36], [37]), ([0, 32, 37], [38]), ([0, 32], [39]), ([5, 32], [40]), ([0, 32, 39, 40], [41]), ([0, 32, 41], [42]), ([0, 32, 42], [43]), ([32, 38, 43], [44]), ([29, 32, 44], [45]), ([29, 45], [46])])] [] }
/-- loop.example/wharflog/spec.l13Quiet -/
def a69 : Ann := {}
/-- loop.example/wharflog/laws.toRecDisk -/
def a70 : Ann := {}
/-- loop.example/wharflog/laws.toRecMessageS -/
def a71 : Ann := { heads := lookD [(0, [0, 3, 4])] [], ends := lookT [(0, [3])] }
/-- loop.example/wharflog/laws.toStringS -/
def a72 : Ann := { heads := lookD [(0, [0, 3, 4])] [], ends := lookT [(0, [3])] }
/-- loop.example/wharflog/laws.toIntS -/
def a73 : Ann := { heads := lookD [(0, [0, 3, 4])] [], ends := lookT [(0, [3])] }
/-- loop.example/wharflog/laws.toRecSlotS -/
def a74 : Ann := { heads := lookD [(0, [0, 3, 4])] [], ends := lookT [(0, [3])] }
/-- loop.example/wharflog/laws.toRecAckS -/
def a75 : Ann := { heads := lookD [(0, [0, 3, 4])] [], ends := lookT [(0, [3])] }
/-- loop.example/wharflog/impl.RecDiskOk -/
def a76 : Ann := { heads := lookD [(0, [1, 25, 26, 27])] [], ends := lookT [(0, [])] }
/-- loop.example/wharflog/impl.people -/
def a77 : Ann := { heads := lookD [(0, [0, 1, 7, 8, 9])] [], ends := lookT [(0, [])] }
/-- loop.example/wharflog/impl.slotsOk -/
def a78 : Ann := { heads := lookD [(0, [0, 8, 9, 10])] [], ends := lookT [(0, [])] }
/-- loop.example/wharflog/impl.RecMessageOk -/
def a79 : Ann := {}
/-- slices.Contains[[]string,string] -/
def a80 : Ann := {}
/-- loop.example/wharflog/laws.eqRecorderS -/
def a81 : Ann := { heads := lookD [(0, [0, 1, 5])] [], ends := lookT [(0, [])], draws := lookD [(6, [([0], [17]), ([5], [18]), ([0, 17, 18], [19]), ([0, 19], [20]), ([1], [21]), ([5], [22]), ([1, 21, 22], [23]), ([1, 23], [24]), ([0, 1, 20, 24], [25]), ([25], [26])])] [] }
/-- loop.example/wharflog/laws.eqRecFixS -/
def a82 : Ann := { heads := lookD [(0, [0, 1, 5])] [], ends := lookT [(0, [])], draws := lookD [(6, [([0], [17]), ([5], [18]), ([0, 17, 18], [19]), ([0, 19], [20]), ([1], [21]), ([5], [22]), ([1, 21, 22], [23]), ([1, 23], [24]), ([20, 24], [25]), ([25], [26])])] [] }
/-- loop.example/wharflog/laws.markRecorderS -/
def a83 : Ann := { modes := [.io, .shr], keep := [0], heads := lookD [(0, [0, 1, 5])] [], ends := lookT [(0, [0, 1])] }
/-- loop.example/wharflog/laws.markRecFixS -/
def a84 : Ann := { modes := [.io, .shr], keep := [0], heads := lookD [(0, [0, 1, 5])] [], ends := lookT [(0, [0, 1])] }
/-- loop.example/wharflog/laws.heldRecorderS -/
def a85 : Ann := { heads := lookD [(0, [0, 1, 5])] [], ends := lookT [(0, [1])] }
/-- loop.example/wharflog/laws.heldRecFixS -/
def a86 : Ann := { heads := lookD [(0, [0, 1, 5])] [], ends := lookT [(0, [1])], draws := lookD [(7, [([0], [21]), ([5], [22]), ([0, 21, 22], [23]), ([0, 23], [24]), ([0, 24], [25]), ([1], [26]), ([26], [27]), ([25, 27], [28])])] [] }
/-- (*loop.example/wharflog/impl.Recorder).book -/
def a87 : Ann := { keep := [0], heads := lookD [(0, [0, 3, 16, 17, 18])] [], ends := lookT [(0, [0, 3])], draws := lookD [(2, [([0], [6]), ([0, 6], [7]), ([0, 7], [8]), ([0, 8], [9]), ([0, 9], [10]), ([0], [11]), ([0, 11], [12]), ([0, 12], [13]), ([0, 13], [14]), ([0, 14], [15]), ([0, 10, 15], [16]), ([0, 16], [17]), ([], [18])])] [] }
/-- loop.example/wharflog/laws.markText -/
def a88 : Ann := { heads := lookD [(0, [0, 3])] [], ends := lookT [(0, [3])] }
/-- loop.example/wharflog/laws.szRecorderS -/
def a89 : Ann := { heads := lookD [(0, [0, 1, 5])] [], ends := lookT [(0, [1])] }
/-- loop.example/wharflog/laws.szRecFixS -/
def a90 : Ann := { heads := lookD [(0, [0, 1, 5])] [], ends := lookT [(0, [1])] }
/-- loop.example/wharflog/laws.toRecorderS -/
def a91 : Ann := { heads := lookD [(0, [0, 3, 4])] [], ends := lookT [(0, [3])] }
/-- loop.example/wharflog/laws.toRecFixS -/
def a92 : Ann := { heads := lookD [(0, [0, 3, 4])] [], ends := lookT [(0, [3])] }
/-- loop.example/wharflog/spec.l18Major -/
def a93 : Ann := { heads := lookD [(2, [1, 2, 6, 7, 8, 9]), (0, [1, 2, 6])] [], ends := lookT [(2, [1, 2, 6, 7, 8]), (0, [])], draws := lookD [(11, [([1], [56]), ([10], [57]), ([10, 57], [58]), ([10, 58], [59]), ([56, 59], [60]), ([60], [61]), ([10, 61], [62]), ([10, 61, 62], [63]), ([1, 61], [64]), ([61, 64], [65]), ([10, 61, 63, 65], [66]), ([10, 61, 66], [67]), ([7, 61], [68]), ([7, 61, 68], [69]), ([1, 61], [70]), ([61, 70], [71]), ([7, 61, 69, 71], [72]), ([7, 61, 72], [73]), ([61, 67, 73], [74]), ([61, 74], [75])])] [] }
/-- (*loop.example/wharflog/impl.RecWorld).major -/
def a94 : Ann := { keep := [0], heads := lookD [(0, [0, 1, 6, 14, 15, 16])] [], ends := lookT [(0, [0])], draws := lookD [(7, [([6], [37]), ([9], [38]), ([6, 37, 38], [39]), ([39], [40]), ([6, 37, 38], [41]), ([41], [41, 42]), ([6, 37, 40, 42], [])]), (8, [([9], [43]), ([9, 43], [44]), ([44], [45]), ([45], [46]), ([6, 46], [47]), ([9, 46], [48]), ([6, 46, 47, 48], [49]), ([46, 49], [50]), ([0, 46], [51]), ([0, 46, 51], [52]), ([0, 46, 52], [53]), ([0, 46, 53], [54]), ([0, 46, 54], [55]), ([46, 50, 55], [56]), ([46, 56], [57])])] [] }
/-- loop.example/wharflog/spec.l12Disk -/
def a95 : Ann := {}
/-- loop.example/wharflog/impl.clone -/
def a96 : Ann := { heads := lookD [(0, [1, 2, 3, 31, 32, 33])] [], ends := lookT [(0, [1, 2, 3])], draws := lookD [(1, [([1], [6]), ([1, 6], [7]), ([1, 7], [8]), ([1], [9]), ([1, 9], [10]), ([1, 10], [11]), ([1], [12]), ([1, 8, 12], [1, 8, 12]), ([1], [13]), ([1, 11, 13], [1, 11, 13])]), (10, [([3], [37]), ([5], [38]), ([5, 38], [39]), ([5], [40]), ([5, 40], [41]), ([5, 41], [42]), ([39, 42], [39, 42, 43]), ([43], [43, 44]), ([3, 37, 44], [3, 37, 44, 45]), ([45], [3, 45])])] [] }
/-- (*loop.example/wharflog/impl.Recorder).fall -/
def a97 : Ann := { keep := [0], draws := lookD [(0, [([], [2]), ([], [3]), ([0, 3], [4]), ([0, 4], [5]), ([0, 5], [6]), ([], [7]), ([0, 7], [8]), ([0, 8], [9]), ([0, 9], [10]), ([], [11]), ([0, 11], [12]), ([0, 12], [13]), ([0, 13], [14]), ([], [15]), ([0, 15], [16]), ([0, 16], [17]), ([0, 17], [18]), ([0, 18], [19]), ([0, 6, 10, 14, 19], [0, 6, 10, 14, 19, 20]), ([0, 2], [21]), ([0, 20, 21], [0, 20, 21])])] [] }
/-- loop.example/wharflog/spec.l13Copy -/
def a98 : Ann := { heads := lookD [(0, [1, 2, 3, 4])] [], ends := lookT [(0, [1, 2, 3])], draws := lookD [(11, [([3], [39]), ([1], [40]), ([1, 40], [41]), ([4], [42]), ([1, 41, 42], [43]), ([1, 43], [44]), ([1, 44], [45]), ([], [46]), ([1], [47]), ([1, 47], [48]), ([4], [49]), ([1, 48, 49], [50]), ([1, 50], [51]), ([1, 51], [52]), ([1, 46, 52], [46, 53]), ([45, 53], [45, 53, 54]), ([54], [54, 55]), ([3, 39, 55], [3, 39, 55, 56]), ([56], [3, 56])])] [] }
/-- loop.example/wharflog/laws.eqRecMessage -/
def a99 : Ann := {}
/-- loop.example/wharflog/laws.eqRecSlot -/
def a100 : Ann := {}
/-- loop.example/wharflog/laws.eqRecAck -/
def a101 : Ann := {}
/-- loop.example/wharflog/laws.szRecMessage -/
def a102 : Ann := {}
/-- loop.example/wharflog/laws.szRecSlot -/
def a103 : Ann := {}
/-- loop.example/wharflog/laws.szRecAck -/
def a104 : Ann := {}
/-- loop.example/wharflog/laws.toRecMessage -/
def a105 : Ann := {}
/-- loop.example/wharflog/laws.toRecSlot -/
def a106 : Ann := {}
/-- loop.example/wharflog/laws.toRecAck -/
def a107 : Ann := {}
/-- slices.Index[[]string,string] -/
def a108 : Ann := { heads := lookD [(0, [0, 1, 7, 8])] [], ends := lookT [(0, [])] }
/-- loop.example/wharflog/laws.eqRecFix -/
def a109 : Ann := {}
/-- loop.example/wharflog/laws.szRecFix -/
def a110 : Ann := {}
/-- loop.example/wharflog/laws.toRecFix -/
def a111 : Ann := {}
/-- loop.example/wharflog/spec.l12Slots -/
def a112 : Ann := {}
/-- loop.example/wharflog/impl.cloneDisk -/
def a113 : Ann := {}
/-- loop.example/wharflog/impl.cloneMessages -/
def a114 : Ann := { heads := lookD [(0, [0, 3, 6, 7, 8])] [], ends := lookT [(0, [3])] }
/-- loop.example/wharflog/impl.cloneSlots -/
def a115 : Ann := {}
/-- loop.example/wharflog/spec.l13Messages -/
def a116 : Ann := { heads := lookD [(0, [0, 3, 4])] [], ends := lookT [(0, [3])] }
/-- loop.example/wharflog/spec.l13Message -/
def a117 : Ann := {}
def anns : List (Nat × Ann) := [(2, a2), (3, a3), (4, a4), (5, a5), (6, a6), (7, a7), (8, a8), (9, a9), (10, a10), (11, a11), (12, a12), (13, a13), (14, a14), (15, a15), (16, a16), (17, a17), (18, a18), (19, a19), (20, a20), (21, a21), (22, a22), (23, a23), (24, a24), (25, a25), (26, a26), (27, a27), (28, a28), (29, a29), (30, a30), (31, a31), (32, a32), (33, a33), (34, a34), (35, a35), (36, a36), (37, a37), (38, a38), (39, a39), (40, a40), (41, a41), (42, a42), (43, a43), (44, a44), (45, a45), (46, a46), (47, a47), (48, a48), (49, a49), (50, a50), (51, a51), (52, a52), (53, a53), (54, a54), (55, a55), (56, a56), (57, a57), (58, a58), (59, a59), (60, a60), (61, a61), (62, a62), (63, a63), (64, a64), (65, a65), (66, a66), (67, a67), (68, a68), (69, a69), (70, a70), (71, a71), (72, a72), (73, a73), (74, a74), (75, a75), (76, a76), (77, a77), (78, a78), (79, a79), (80, a80), (81, a81), (82, a82), (83, a83), (84, a84), (85, a85), (86, a86), (87, a87), (88, a88), (89, a89), (90, a90), (91, a91), (92, a92), (93, a93), (94, a94), (95, a95), (96, a96), (97, a97), (98, a98), (99, a99), (100, a100), (101, a101), (102, a102), (103, a103), (104, a104), (105, a105), (106, a106), (107, a107), (108, a108), (109, a109), (110, a110), (111, a111), (112, a112), (113, a113), (114, a114), (115, a115), (116, a116), (117, a117)]
def E : Env := ⟨lookT tbl, fun _ => false, lookD anns {}, []⟩
set_option maxRecDepth 100000
theorem eT : E.T 2 = some ⟨.prim, 1, 8, [.p (.int .i64 0)]⟩ ∧
  E.T 3 = some ⟨.prim, 1, 8, [.p (.int .i64 0)]⟩ ∧
  E.T 4 = some ⟨.prim, 1, 1, [.p (.bool false)]⟩ ∧
  E.T 5 = some ⟨.prim, 1, 1, [.p (.int .u8 0)]⟩ ∧
  E.T 6 = some ⟨.prim, 1, 1, [.p (.int .u8 0)]⟩ ∧
  E.T 7 = some ⟨.strct [(0, 1, false), (1, 1, false), (2, 1, false), (3, 1, false)], 4, 24, [.p (.int .i64 0), .p (.int .i64 0), .p (.bool false), .p (.int .u8 0)]⟩ ∧
  E.T 8 = some ⟨.strct [(0, 1, false), (1, 1, false), (2, 1, false), (3, 1, false)], 4, 24, [.p (.int .i64 0), .p (.int .i64 0), .p (.bool false), .p (.int .u8 0)]⟩ ∧
  E.T 9 = some ⟨.prim, 1, 16, [.p (.string ⟨#[]⟩)]⟩ ∧
  E.T 10 = some ⟨.prim, 1, 16, [.p (.string ⟨#[]⟩)]⟩ ∧
  E.T 11 = some ⟨.prim, 1, 16, [.p (.string ⟨#[]⟩)]⟩ ∧
  E.T 12 = some ⟨.prim, 1, 8, [.p (.int .u64 0)]⟩ ∧
  E.T 13 = some ⟨.strct [(0, 1, false), (1, 1, false)], 2, 24, [.p (.string ⟨#[]⟩), .p (.int .u64 0)]⟩ ∧
  E.T 14 = some ⟨.strct [(0, 1, false), (1, 1, false)], 2, 24, [.p (.string ⟨#[]⟩), .p (.int .u64 0)]⟩ ∧
  E.T 15 = some ⟨.ptr 144, 1, 8, [.p (.pointer none)]⟩ ∧
  E.T 16 = some ⟨.ptr 147, 1, 8, [.p (.pointer none)]⟩ ∧
  E.T 17 = some ⟨.ptr 157, 1, 8, [.p (.pointer none)]⟩ ∧
  E.T 18 = some ⟨.strct [(0, 1, false)], 1, 8, [.p (.pointer none)]⟩ ∧
  E.T 19 = some ⟨.strct [(0, 1, false)], 1, 8, [.p (.pointer none)]⟩ ∧
  E.T 21 = some ⟨.prim, 1, 4, [.p (.int .i32 0)]⟩ ∧
  E.T 22 = some ⟨.slc 106, 1, 24, [.sl .own 2 []]⟩ ∧
  E.T 23 = some ⟨.strct [(0, 1, false), (1, 1, false), (2, 1, false)], 3, 40, [.p (.int .i64 0), .p (.int .i64 0), .sl .own 2 []]⟩ ∧
  E.T 24 = some ⟨.strct [(0, 1, false), (1, 1, false), (2, 1, false)], 3, 40, [.p (.int .i64 0), .p (.int .i64 0), .sl .own 2 []]⟩ ∧
  E.T 25 = some ⟨.slc 88, 1, 24, [.sl .own 8 []]⟩ ∧
  E.T 26 = some ⟨.slc 9, 1, 24, [.sl .own 1 []]⟩ ∧
  E.T 27 = some ⟨.slc 3, 1, 24, [.sl .own 1 []]⟩ ∧
  E.T 28 = some ⟨.slc 100, 1, 24, [.sl .own 2 []]⟩ ∧
  E.T 29 = some ⟨.strct [(0, 1, false), (1, 1, false), (2, 1, false), (3, 3, true), (6, 3, true), (9, 1, false), (10, 1, false), (11, 1, false), (12, 1, false), (13, 1, false), (14, 1, false), (15, 1, false), (16, 1, false), (17, 1, false)], 18, 248, [.p (.int .i64 0), .p (.int .i64 0), .p (.bool false), .p (.int .i64 0), .p (.int .i64 0), .sl .own 2 [], .p (.int .i64 0), .p (.int .i64 0), .sl .own 2 [], .sl .own 8 [], .sl .own 1 [], .p (.bool false), .p (.bool false), .p (.int .i64 0), .sl .own 1 [], .sl .own 2 [], .sl .own 2 [], .p (.int .i64 0)]⟩ ∧
  E.T 30 = some ⟨.strct [(0, 1, false), (1, 1, false), (2, 1, false), (3, 3, true), (6, 3, true), (9, 1, false), (10, 1, false), (11, 1, false), (12, 1, false), (13, 1, false), (14, 1, false), (15, 1, false), (16, 1, false), (17, 1, false)], 18, 248, [.p (.int .i64 0), .p (.int .i64 0), .p (.bool false), .p (.int .i64 0), .p (.int .i64 0), .sl .own 2 [], .p (.int .i64 0), .p (.int .i64 0), .sl .own 2 [], .sl .own 8 [], .sl .own 1 [], .p (.bool false), .p (.bool false), .p (.int .i64 0), .sl .own 1 [], .sl .own 2 [], .sl .own 2 [], .p (.int .i64 0)]⟩ ∧
  E.T 35 = some ⟨.slc 124, 1, 24, [.sl .own 2 []]⟩ ∧
  E.T 36 = some ⟨.strct [(0, 1, false), (1, 1, false), (2, 1, false)], 3, 40, [.p (.int .i64 0), .p (.int .i64 0), .sl .own 2 []]⟩ ∧
  E.T 37 = some ⟨.strct [(0, 1, false), (1, 1, false), (2, 1, false)], 3, 40, [.p (.int .i64 0), .p (.int .i64 0), .sl .own 2 []]⟩ ∧
  E.T 38 = some ⟨.slc 122, 1, 24, [.sl .own 8 []]⟩ ∧
  E.T 39 = some ⟨.slc 126, 1, 24, [.sl .own 2 []]⟩ ∧
  E.T 40 = some ⟨.strct [(0, 1, false), (1, 1, false), (2, 1, false), (3, 3, true), (6, 3, true), (9, 1, false), (10, 1, false), (11, 1, false), (12, 1, false), (13, 1, false), (14, 1, false), (15, 1, false), (16, 1, false), (17, 1, false)], 18, 248, [.p (.int .i64 0), .p (.int .i64 0), .p (.bool false), .p (.int .i64 0), .p (.int .i64 0), .sl .own 2 [], .p (.int .i64 0), .p (.int .i64 0), .sl .own 2 [], .sl .own 8 [], .sl .own 1 [], .p (.bool false), .p (.bool false), .p (.int .i64 0), .sl .own 1 [], .sl .own 2 [], .sl .own 2 [], .p (.int .i64 0)]⟩ ∧
  E.T 41 = some ⟨.strct [(0, 1, false), (1, 1, false), (2, 1, false), (3, 3, true), (6, 3, true), (9, 1, false), (10, 1, false), (11, 1, false), (12, 1, false), (13, 1, false), (14, 1, false), (15, 1, false), (16, 1, false), (17, 1, false)], 18, 248, [.p (.int .i64 0), .p (.int .i64 0), .p (.bool false), .p (.int .i64 0), .p (.int .i64 0), .sl .own 2 [], .p (.int .i64 0), .p (.int .i64 0), .sl .own 2 [], .sl .own 8 [], .sl .own 1 [], .p (.bool false), .p (.bool false), .p (.int .i64 0), .sl .own 1 [], .sl .own 2 [], .sl .own 2 [], .p (.int .i64 0)]⟩ ∧
  E.T 46 = some ⟨.slc 30, 1, 24, [.sl .own 18 []]⟩ ∧
  E.T 47 = some ⟨.slc 112, 1, 24, [.sl .own 2 []]⟩ ∧
  E.T 48 = some ⟨.strct [(0, 1, false), (1, 1, false), (2, 1, false)], 3, 72, [.sl .own 18 [], .sl .own 8 [], .sl .own 2 []]⟩ ∧
  E.T 49 = some ⟨.strct [(0, 1, false), (1, 1, false), (2, 1, false)], 3, 72, [.sl .own 18 [], .sl .own 8 [], .sl .own 2 []]⟩ ∧
  E.T 57 = some ⟨.slc 41, 1, 24, [.sl .own 18 []]⟩ ∧
  E.T 58 = some ⟨.slc 135, 1, 24, [.sl .own 2 []]⟩ ∧
  E.T 59 = some ⟨.strct [(0, 1, false), (1, 1, false), (2, 1, false)], 3, 72, [.sl .own 18 [], .sl .own 8 [], .sl .own 2 []]⟩ ∧
  E.T 60 = some ⟨.strct [(0, 1, false), (1, 1, false), (2, 1, false)], 3, 72, [.sl .own 18 [], .sl .own 8 [], .sl .own 2 []]⟩ ∧
  E.T 87 = some ⟨.strct [(0, 1, false), (1, 1, false), (2, 1, false), (3, 1, false), (4, 1, false), (5, 1, false), (6, 1, false), (7, 1, false)], 8, 88, [.p (.int .i64 0), .p (.int .i64 0), .p (.int .i64 0), .p (.int .i64 0), .p (.int .i64 0), .p (.int .i64 0), .p (.string ⟨#[]⟩), .sl .own 2 []]⟩ ∧
  E.T 88 = some ⟨.strct [(0, 1, false), (1, 1, false), (2, 1, false), (3, 1, false), (4, 1, false), (5, 1, false), (6, 1, false), (7, 1, false)], 8, 88, [.p (.int .i64 0), .p (.int .i64 0), .p (.int .i64 0), .p (.int .i64 0), .p (.int .i64 0), .p (.int .i64 0), .p (.string ⟨#[]⟩), .sl .own 2 []]⟩ ∧
  E.T 99 = some ⟨.strct [(0, 1, false), (1, 1, false)], 2, 32, [.p (.int .i64 0), .sl .own 1 []]⟩ ∧
  E.T 100 = some ⟨.strct [(0, 1, false), (1, 1, false)], 2, 32, [.p (.int .i64 0), .sl .own 1 []]⟩ ∧
  E.T 105 = some ⟨.strct [(0, 1, false), (1, 1, false)], 2, 24, [.p (.int .i64 0), .p (.string ⟨#[]⟩)]⟩ ∧
  E.T 106 = some ⟨.strct [(0, 1, false), (1, 1, false)], 2, 24, [.p (.int .i64 0), .p (.string ⟨#[]⟩)]⟩ ∧
  E.T 111 = some ⟨.strct [(0, 1, false), (1, 1, false)], 2, 24, [.p (.int .i64 0), .p (.string ⟨#[]⟩)]⟩ ∧
  E.T 112 = some ⟨.strct [(0, 1, false), (1, 1, false)], 2, 24, [.p (.int .i64 0), .p (.string ⟨#[]⟩)]⟩ ∧
  E.T 121 = some ⟨.strct [(0, 1, false), (1, 1, false), (2, 1, false), (3, 1, false), (4, 1, false), (5, 1, false), (6, 1, false), (7, 1, false)], 8, 88, [.p (.int .i64 0), .p (.int .i64 0), .p (.int .i64 0), .p (.int .i64 0), .p (.int .i64 0), .p (.int .i64 0), .p (.string ⟨#[]⟩), .sl .own 2 []]⟩ ∧
  E.T 122 = some ⟨.strct [(0, 1, false), (1, 1, false), (2, 1, false), (3, 1, false), (4, 1, false), (5, 1, false), (6, 1, false), (7, 1, false)], 8, 88, [.p (.int .i64 0), .p (.int .i64 0), .p (.int .i64 0), .p (.int .i64 0), .p (.int .i64 0), .p (.int .i64 0), .p (.string ⟨#[]⟩), .sl .own 2 []]⟩ ∧
  E.T 124 = some ⟨.strct [(0, 1, false), (1, 1, false)], 2, 24, [.p (.int .i64 0), .p (.string ⟨#[]⟩)]⟩ ∧
  E.T 126 = some ⟨.strct [(0, 1, false), (1, 1, false)], 2, 32, [.p (.int .i64 0), .sl .own 1 []]⟩ ∧
  E.T 132 = some ⟨.ptr 30, 1, 8, [.p (.pointer none)]⟩ ∧
  E.T 133 = some ⟨.slc 5, 1, 24, [.sl .own 1 []]⟩ ∧
  E.T 135 = some ⟨.strct [(0, 1, false), (1, 1, false)], 2, 24, [.p (.int .i64 0), .p (.string ⟨#[]⟩)]⟩ ∧
  E.T 137 = some ⟨.ptr 49, 1, 8, [.p (.pointer none)]⟩ ∧
  E.T 143 = some ⟨.strct [(0, 1, false), (1, 1, false), (2, 1, false), (3, 1, false)], 4, 40, [.p (.pointer none), .p (.pointer none), .p (.pointer none), .p (.string ⟨#[]⟩)]⟩ ∧
  E.T 144 = some ⟨.strct [(0, 1, false), (1, 1, false), (2, 1, false), (3, 1, false)], 4, 40, [.p (.pointer none), .p (.pointer none), .p (.pointer none), .p (.string ⟨#[]⟩)]⟩ ∧
  E.T 149 = some ⟨.prim, 1, 4, [.p (.int .u32 0)]⟩ ∧
  E.T 150 = some ⟨.prim, 1, 1, [.p (.int .u8 0)]⟩ ∧
  E.T 151 = some ⟨.prim, 1, 1, [.p (.int .u8 0)]⟩ ∧
  E.T 153 = some ⟨.ptr 5, 1, 8, [.p (.pointer none)]⟩ ∧
  E.T 154 = some ⟨.prim, 1, 4, [.p (.int .i32 0)]⟩ ∧
  E.T 155 = some ⟨.prim, 1, 4, [.p (.int .i32 0)]⟩ := by
  refine ⟨?_, ?_, ?_, ?_, ?_, ?_, ?_, ?_, ?_, ?_, ?_, ?_, ?_, ?_, ?_, ?_, ?_, ?_, ?_, ?_, ?_, ?_, ?_, ?_, ?_, ?_, ?_, ?_, ?_, ?_, ?_, ?_, ?_, ?_, ?_, ?_, ?_, ?_, ?_, ?_, ?_, ?_, ?_, ?_, ?_, ?_, ?_, ?_, ?_, ?_, ?_, ?_, ?_, ?_, ?_, ?_, ?_, ?_, ?_, ?_, ?_, ?_, ?_, ?_, ?_, ?_, ?_⟩ <;> rfl
theorem e2 : (E.ann 2).modes = [] ∧ (E.ann 2).keep = [] ∧ (E.ann 2).mir = [] := by
  refine ⟨?_, ?_, ?_⟩ <;> rfl
theorem e3 : (E.ann 3).modes = [] ∧ (E.ann 3).keep = [] ∧ (E.ann 3).mir = [] := by
  refine ⟨?_, ?_, ?_⟩ <;> rfl
theorem e4 : (E.ann 4).modes = [] ∧ (E.ann 4).keep = [] ∧ (E.ann 4).mir = [] ∧ (E.ann 4).draws 10 = [([5], [22]), ([1], [23]), ([1, 23], [24]), ([5, 22, 24], [25]), ([25], [26])] := by
  refine ⟨?_, ?_, ?_, ?_⟩ <;> rfl
theorem e5 : (E.ann 5).modes = [] ∧ (E.ann 5).keep = [] ∧ (E.ann 5).mir = [] := by
  refine ⟨?_, ?_, ?_⟩ <;> rfl
theorem e6 : (E.ann 6).modes = [] ∧ (E.ann 6).keep = [] ∧ (E.ann 6).mir = [] ∧ (E.ann 6).draws 10 = [([5], [27]), ([1], [28]), ([1, 28], [29]), ([5, 27, 29], [30]), ([30], [31])] := by
  refine ⟨?_, ?_, ?_, ?_⟩ <;> rfl
theorem e7 : (E.ann 7).modes = [] ∧ (E.ann 7).keep = [] ∧ (E.ann 7).mir = [] ∧ (E.ann 7).draws 10 = [([5], [22]), ([1], [23]), ([1, 23], [24]), ([5, 22, 24], [25]), ([25], [26])] := by
  refine ⟨?_, ?_, ?_, ?_⟩ <;> rfl
theorem e8 : (E.ann 8).modes = [] ∧ (E.ann 8).keep = [] ∧ (E.ann 8).mir = [] ∧ (E.ann 8).draws 10 = [([8], [39]), ([2], [40]), ([2, 40], [41]), ([8, 39, 41], [42]), ([42], [43])] := by
  refine ⟨?_, ?_, ?_, ?_⟩ <;> rfl
theorem e9 : (E.ann 9).modes = [] ∧ (E.ann 9).keep = [] ∧ (E.ann 9).mir = [] ∧ (E.ann 9).draws 10 = [([5], [27]), ([1], [28]), ([1, 28], [29]), ([5, 27, 29], [30]), ([30], [31])] := by
  refine ⟨?_, ?_, ?_, ?_⟩ <;> rfl
theorem e10 : (E.ann 10).modes = [] ∧ (E.ann 10).keep = [] ∧ (E.ann 10).mir = [] ∧ (E.ann 10).draws 10 = [([5], [27]), ([1], [28]), ([1, 28], [29]), ([5, 27, 29], [30]), ([30], [31])] := by
  refine ⟨?_, ?_, ?_, ?_⟩ <;> rfl
theorem e11 : (E.ann 11).modes = [] ∧ (E.ann 11).keep = [] ∧ (E.ann 11).mir = [] := by
  refine ⟨?_, ?_, ?_⟩ <;> rfl
theorem e12 : (E.ann 12).modes = [] ∧ (E.ann 12).keep = [] ∧ (E.ann 12).mir = [] := by
  refine ⟨?_, ?_, ?_⟩ <;> rfl
theorem e13 : (E.ann 13).modes = [] ∧ (E.ann 13).keep = [] ∧ (E.ann 13).mir = [] := by
  refine ⟨?_, ?_, ?_⟩ <;> rfl
theorem e14 : (E.ann 14).modes = [.io, .shr] ∧ (E.ann 14).keep = [0] ∧ (E.ann 14).mir = [(0, 2)] := by
  refine ⟨?_, ?_, ?_⟩ <;> rfl
theorem e15 : (E.ann 15).modes = [] ∧ (E.ann 15).keep = [] ∧ (E.ann 15).mir = [] := by
  refine ⟨?_, ?_, ?_⟩ <;> rfl
theorem e16 : (E.ann 16).modes = [] ∧ (E.ann 16).keep = [] ∧ (E.ann 16).mir = [] := by
  refine ⟨?_, ?_, ?_⟩ <;> rfl
theorem e17 : (E.ann 17).modes = [] ∧ (E.ann 17).keep = [] ∧ (E.ann 17).mir = [] ∧ (E.ann 17).heads 0 = [1, 3] ∧ (E.ann 17).ends 0 = some [1] ∧ (E.ann 17).ends 1 = none ∧ (E.ann 17).draws 6 = [([1], [53]), ([1, 53], [54]), ([3], [55]), ([1, 54, 55], [56]), ([1, 56], [57]), ([1], [58]), ([1, 58], [59]), ([1, 57, 59], [60]), ([60], [61]), ([61], [62]), ([1, 62], [63]), ([1, 62, 63], [64]), ([3, 62], [65]), ([1, 62, 64, 65], [66]), ([1, 62, 66], [67]), ([1, 62, 67], [68]), ([1, 62], [69]), ([1, 62, 69], [70]), ([62, 68, 70], [71]), ([62, 71], [72])] := by
  refine ⟨?_, ?_, ?_, ?_, ?_, ?_, ?_⟩ <;> rfl
theorem e18 : (E.ann 18).modes = [] ∧ (E.ann 18).keep = [] ∧ (E.ann 18).mir = [] := by
  refine ⟨?_, ?_, ?_⟩ <;> rfl
theorem e19 : (E.ann 19).modes = [] ∧ (E.ann 19).keep = [] ∧ (E.ann 19).mir = [] ∧ (E.ann 19).heads 4 = [1, 107, 108, 109] ∧ (E.ann 19).heads 2 = [1, 86, 87, 88] ∧ (E.ann 19).heads 0 = [1, 66, 67, 68] ∧ (E.ann 19).ends 0 = some [1] ∧ (E.ann 19).ends 1 = none ∧ (E.ann 19).ends 2 = some [1] ∧ (E.ann 19).ends 3 = none ∧ (E.ann 19).ends 4 = some [1] ∧ (E.ann 19).ends 5 = none ∧ (E.ann 19).draws 18 = [([8], [114]), ([8, 114], [115]), ([115], [116]), ([116], [117]), ([117], [118]), ([8, 118], [119]), ([8, 118, 119], [120]), ([1, 118], [121]), ([1, 118, 121], [122]), ([8, 118, 120, 122], [123]), ([118, 123], [124]), ([118, 124], [125]), ([125], [126]), ([7, 126], [127]), ([126, 127], [128]), ([126, 128], [129]), ([8, 129], [130]), ([8, 129, 130], [131]), ([1, 129], [132]), ([1, 129, 132], [133]), ([7, 129], [134]), ([129, 134], [135]), ([1, 129, 133, 135], [136]), ([1, 129, 136], [137]), ([1, 129, 137], [138]), ([129, 131, 138], [139]), ([126, 129, 139], [140]), ([126, 140], [141])] := by
  refine ⟨?_, ?_, ?_, ?_, ?_, ?_, ?_, ?_, ?_, ?_, ?_, ?_, ?_⟩ <;> rfl
theorem e20 : (E.ann 20).modes = [] ∧ (E.ann 20).keep = [] ∧ (E.ann 20).mir = [] ∧ (E.ann 20).heads 0 = [0, 2, 3, 4] ∧ (E.ann 20).ends 0 = some [2, 3] ∧ (E.ann 20).ends 1 = none ∧ (E.ann 20).draws 7 = [([3], [15]), ([3, 15], [16]), ([4], [17]), ([0], [18]), ([17, 18], [19]), ([19], [19, 20]), ([3, 16, 20], [3, 16, 20, 21]), ([3], [22]), ([3, 21, 22], [3, 21, 22])] := by
  refine ⟨?_, ?_, ?_, ?_, ?_, ?_, ?_⟩ <;> rfl
theorem e21 : (E.ann 21).modes = [] ∧ (E.ann 21).keep = [] ∧ (E.ann 21).mir = [] ∧ (E.ann 21).heads 0 = [0, 2, 3, 4] ∧ (E.ann 21).ends 0 = some [2, 3] ∧ (E.ann 21).ends 1 = none ∧ (E.ann 21).draws 6 = [([3], [12]), ([3, 12], [13]), ([4], [14]), ([0], [15]), ([14, 15], [16]), ([16], [16, 17]), ([3, 13, 17], [3, 13, 17, 18]), ([3], [19]), ([3, 18, 19], [3, 18, 19])] := by
  refine ⟨?_, ?_, ?_, ?_, ?_, ?_, ?_⟩ <;> rfl
theorem e22 : (E.ann 22).modes = [] ∧ (E.ann 22).keep = [] ∧ (E.ann 22).mir = [] := by
  refine ⟨?_, ?_, ?_⟩ <;> rfl
theorem e23 : (E.ann 23).modes = [.io, .shr] ∧ (E.ann 23).keep = [0] ∧ (E.ann 23).mir = [(0, 2)] := by
  refine ⟨?_, ?_, ?_⟩ <;> rfl
theorem e24 : (E.ann 24).modes = [] ∧ (E.ann 24).keep = [] ∧ (E.ann 24).mir = [] := by
  refine ⟨?_, ?_, ?_⟩ <;> rfl
theorem e25 : (E.ann 25).modes = [] ∧ (E.ann 25).keep = [] ∧ (E.ann 25).mir = [] ∧ (E.ann 25).heads 0 = [1, 3, 4] ∧ (E.ann 25).ends 0 = some [3] ∧ (E.ann 25).ends 1 = none := by
  refine ⟨?_, ?_, ?_, ?_, ?_, ?_⟩ <;> rfl
theorem e26 : (E.ann 26).modes = [] ∧ (E.ann 26).keep = [] ∧ (E.ann 26).mir = [] := by
  refine ⟨?_, ?_, ?_⟩ <;> rfl
theorem e27 : (E.ann 27).modes = [] ∧ (E.ann 27).keep = [] ∧ (E.ann 27).mir = [] ∧ (E.ann 27).heads 0 = [0, 1, 5] ∧ (E.ann 27).ends 0 = some [] ∧ (E.ann 27).ends 1 = none ∧ (E.ann 27).draws 6 = [([0], [17]), ([5], [18]), ([0, 17, 18], [19]), ([0, 19], [20]), ([1], [21]), ([5], [22]), ([1, 21, 22], [23]), ([1, 23], [24]), ([20, 24], [25])] := by
  refine ⟨?_, ?_, ?_, ?_, ?_, ?_, ?_⟩ <;> rfl
theorem e28 : (E.ann 28).modes = [.io, .shr] ∧ (E.ann 28).keep = [0] ∧ (E.ann 28).mir = [] ∧ (E.ann 28).heads 0 = [0, 1, 5] ∧ (E.ann 28).ends 0 = some [0, 1] ∧ (E.ann 28).ends 1 = none := by
  refine ⟨?_, ?_, ?_, ?_, ?_, ?_⟩ <;> rfl
theorem e29 : (E.ann 29).modes = [] ∧ (E.ann 29).keep = [] ∧ (E.ann 29).mir = [] ∧ (E.ann 29).heads 0 = [0, 1, 5] ∧ (E.ann 29).ends 0 = some [1] ∧ (E.ann 29).ends 1 = none ∧ (E.ann 29).draws 4 = [([0], [12]), ([5], [13]), ([0, 12, 13], [14]), ([0, 14], [15]), ([1], [16]), ([16], [17]), ([15, 17], [18])] := by
  refine ⟨?_, ?_, ?_, ?_, ?_, ?_, ?_⟩ <;> rfl
theorem e30 : (E.ann 30).modes = [] ∧ (E.ann 30).keep = [] ∧ (E.ann 30).mir = [] := by
  refine ⟨?_, ?_, ?_⟩ <;> rfl
theorem e31 : (E.ann 31).modes = [] ∧ (E.ann 31).keep = [] ∧ (E.ann 31).mir = [] ∧ (E.ann 31).heads 4 = [1, 6] ∧ (E.ann 31).heads 2 = [1, 3, 5] ∧ (E.ann 31).heads 0 = [1, 3, 4] ∧ (E.ann 31).ends 0 = some [1, 3] ∧ (E.ann 31).ends 1 = none ∧ (E.ann 31).ends 2 = some [1] ∧ (E.ann 31).ends 3 = none ∧ (E.ann 31).ends 4 = some [] ∧ (E.ann 31).ends 5 = none ∧ (E.ann 31).draws 17 = [([1], [74]), ([1, 74], [75]), ([6], [76]), ([1, 75, 76], [77]), ([1, 77], [78]), ([1, 78], [79]), ([79], [80]), ([80], [81]), ([81], [82]), ([1, 82], [83]), ([1, 82, 83], [84]), ([6, 82], [85]), ([1, 82, 84, 85], [86]), ([1, 82, 86], [87]), ([1, 82, 87], [88]), ([82, 88], [89]), ([82, 89], [90]), ([82, 90], [91]), ([91], [92]), ([6, 92], [93]), ([92, 93], [94]), ([92, 94], [95]), ([1, 95], [96]), ([1, 95, 96], [97]), ([6, 95], [98]), ([95, 98], [99]), ([1, 95, 97, 99], [100]), ([1, 95, 100], [101]), ([1, 95, 101], [102]), ([1, 95], [103]), ([1, 95, 103], [104]), ([6, 95], [105]), ([1, 95, 104, 105], [106]), ([1, 95, 106], [107]), ([1, 95, 107], [108]), ([95, 102, 108], [109]), ([92, 95, 109], [110]), ([92, 110], [111])] := by
  refine ⟨?_, ?_, ?_, ?_, ?_, ?_, ?_, ?_, ?_, ?_, ?_, ?_, ?_⟩ <;> rfl
theorem e32 : (E.ann 32).modes = [] ∧ (E.ann 32).keep = [] ∧ (E.ann 32).mir = [] := by
  refine ⟨?_, ?_, ?_⟩ <;> rfl
theorem e33 : (E.ann 33).modes = [] ∧ (E.ann 33).keep = [] ∧ (E.ann 33).mir = [] ∧ (E.ann 33).heads 4 = [1, 60, 61, 62] ∧ (E.ann 33).heads 2 = [1, 3, 48, 49, 50] ∧ (E.ann 33).heads 0 = [1, 3, 23, 24, 25] ∧ (E.ann 33).ends 0 = some [1, 3] ∧ (E.ann 33).ends 1 = none ∧ (E.ann 33).ends 2 = some [1] ∧ (E.ann 33).ends 3 = none ∧ (E.ann 33).ends 4 = some [] ∧ (E.ann 33).ends 5 = none ∧ (E.ann 33).draws 19 = [([9], [67]), ([9, 67], [68]), ([68], [69]), ([69], [70]), ([70], [71]), ([9, 71], [72]), ([9, 71, 72], [73]), ([71, 73], [74]), ([71, 74], [75]), ([71, 75], [76]), ([76], [77]), ([8, 77], [78]), ([77, 78], [79]), ([77, 79], [80]), ([9, 80], [81]), ([9, 80, 81], [82]), ([1, 80], [83]), ([1, 80, 83], [84]), ([8, 80], [85]), ([80, 85], [86]), ([1, 80, 84, 86], [87]), ([1, 80, 87], [88]), ([1, 80, 88], [89]), ([80, 82, 89], [90]), ([77, 80, 90], [91]), ([77, 91], [92])] := by
  refine ⟨?_, ?_, ?_, ?_, ?_, ?_, ?_, ?_, ?_, ?_, ?_, ?_, ?_⟩ <;> rfl
theorem e34 : (E.ann 34).modes = [] ∧ (E.ann 34).keep = [] ∧ (E.ann 34).mir = [] := by
  refine ⟨?_, ?_, ?_⟩ <;> rfl
theorem e35 : (E.ann 35).modes = [] ∧ (E.ann 35).keep = [] ∧ (E.ann 35).mir = [] := by
  refine ⟨?_, ?_, ?_⟩ <;> rfl
theorem e36 : (E.ann 36).modes = [] ∧ (E.ann 36).keep = [] ∧ (E.ann 36).mir = [] ∧ (E.ann 36).draws 3 = [([1], [7]), ([1, 7], [8]), ([1], [9]), ([1, 9], [10]), ([1], [11]), ([1, 11], [12]), ([1, 12], [13]), ([1], [14]), ([1, 14], [15]), ([1, 15], [16]), ([8, 10, 13, 16], [8, 10, 13, 16, 17]), ([2, 17], [2, 17])] := by
  refine ⟨?_, ?_, ?_, ?_⟩ <;> rfl
theorem e37 : (E.ann 37).modes = [] ∧ (E.ann 37).keep = [] ∧ (E.ann 37).mir = [] := by
  refine ⟨?_, ?_, ?_⟩ <;> rfl
theorem e38 : (E.ann 38).modes = [] ∧ (E.ann 38).keep = [] ∧ (E.ann 38).mir = [] := by
  refine ⟨?_, ?_, ?_⟩ <;> rfl
theorem e39 : (E.ann 39).modes = [] ∧ (E.ann 39).keep = [] ∧ (E.ann 39).mir = [] := by
  refine ⟨?_, ?_, ?_⟩ <;> rfl
theorem e40 : (E.ann 40).modes = [] ∧ (E.ann 40).keep = [] ∧ (E.ann 40).mir = [] := by
  refine ⟨?_, ?_, ?_⟩ <;> rfl
theorem e41 : (E.ann 41).modes = [] ∧ (E.ann 41).keep = [] ∧ (E.ann 41).mir = [] := by
  refine ⟨?_, ?_, ?_⟩ <;> rfl
theorem e42 : (E.ann 42).modes = [] ∧ (E.ann 42).keep = [] ∧ (E.ann 42).mir = [] := by
  refine ⟨?_, ?_, ?_⟩ <;> rfl
theorem e43 : (E.ann 43).modes = [] ∧ (E.ann 43).keep = [] ∧ (E.ann 43).mir = [] ∧ (E.ann 43).heads 0 = [0, 1, 5] ∧ (E.ann 43).ends 0 = some [] ∧ (E.ann 43).ends 1 = none ∧ (E.ann 43).draws 6 = [([0], [17]), ([5], [18]), ([0, 17, 18], [19]), ([0, 19], [20]), ([1], [21]), ([5], [22]), ([1, 21, 22], [23]), ([1, 23], [24]), ([0, 1, 20, 24], [25]), ([25], [26])] := by
  refine ⟨?_, ?_, ?_, ?_, ?_, ?_, ?_⟩ <;> rfl
theorem e44 : (E.ann 44).modes = [] ∧ (E.ann 44).keep = [] ∧ (E.ann 44).mir = [] ∧ (E.ann 44).heads 0 = [0, 1, 5] ∧ (E.ann 44).ends 0 = some [] ∧ (E.ann 44).ends 1 = none ∧ (E.ann 44).draws 6 = [([0], [17]), ([5], [18]), ([0, 17, 18], [19]), ([0, 19], [20]), ([1], [21]), ([5], [22]), ([1, 21, 22], [23]), ([1, 23], [24]), ([20, 24], [25])] := by
  refine ⟨?_, ?_, ?_, ?_, ?_, ?_, ?_⟩ <;> rfl
theorem e45 : (E.ann 45).modes = [] ∧ (E.ann 45).keep = [] ∧ (E.ann 45).mir = [] ∧ (E.ann 45).heads 0 = [0, 1, 5] ∧ (E.ann 45).ends 0 = some [] ∧ (E.ann 45).ends 1 = none ∧ (E.ann 45).draws 6 = [([0], [17]), ([5], [18]), ([0, 17, 18], [19]), ([0, 19], [20]), ([1], [21]), ([5], [22]), ([1, 21, 22], [23]), ([1, 23], [24]), ([20, 24], [25]), ([25], [26])] := by
  refine ⟨?_, ?_, ?_, ?_, ?_, ?_, ?_⟩ <;> rfl
theorem e46 : (E.ann 46).modes = [] ∧ (E.ann 46).keep = [] ∧ (E.ann 46).mir = [] ∧ (E.ann 46).heads 0 = [0, 1, 5] ∧ (E.ann 46).ends 0 = some [] ∧ (E.ann 46).ends 1 = none ∧ (E.ann 46).draws 6 = [([0], [17]), ([5], [18]), ([0, 17, 18], [19]), ([0, 19], [20]), ([1], [21]), ([5], [22]), ([1, 21, 22], [23]), ([1, 23], [24]), ([0, 1, 20, 24], [25]), ([25], [26])] := by
  refine ⟨?_, ?_, ?_, ?_, ?_, ?_, ?_⟩ <;> rfl
theorem e47 : (E.ann 47).modes = [.io, .shr] ∧ (E.ann 47).keep = [0] ∧ (E.ann 47).mir = [(0, 2)] := by
  refine ⟨?_, ?_, ?_⟩ <;> rfl
theorem e48 : (E.ann 48).modes = [.io, .shr] ∧ (E.ann 48).keep = [0] ∧ (E.ann 48).mir = [] ∧ (E.ann 48).heads 0 = [0, 1, 5] ∧ (E.ann 48).ends 0 = some [0, 1] ∧ (E.ann 48).ends 1 = none := by
  refine ⟨?_, ?_, ?_, ?_, ?_, ?_⟩ <;> rfl
theorem e49 : (E.ann 49).modes = [.io, .shr] ∧ (E.ann 49).keep = [0] ∧ (E.ann 49).mir = [] ∧ (E.ann 49).heads 0 = [0, 1, 5] ∧ (E.ann 49).ends 0 = some [0, 1] ∧ (E.ann 49).ends 1 = none := by
  refine ⟨?_, ?_, ?_, ?_, ?_, ?_⟩ <;> rfl
theorem e50 : (E.ann 50).modes = [.io, .shr] ∧ (E.ann 50).keep = [0] ∧ (E.ann 50).mir = [] ∧ (E.ann 50).heads 0 = [0, 1, 5] ∧ (E.ann 50).ends 0 = some [0, 1] ∧ (E.ann 50).ends 1 = none := by
  refine ⟨?_, ?_, ?_, ?_, ?_, ?_⟩ <;> rfl
theorem e51 : (E.ann 51).modes = [.io, .shr] ∧ (E.ann 51).keep = [0] ∧ (E.ann 51).mir = [] ∧ (E.ann 51).heads 0 = [0, 1, 5] ∧ (E.ann 51).ends 0 = some [0, 1] ∧ (E.ann 51).ends 1 = none := by
  refine ⟨?_, ?_, ?_, ?_, ?_, ?_⟩ <;> rfl
theorem e52 : (E.ann 52).modes = [] ∧ (E.ann 52).keep = [] ∧ (E.ann 52).mir = [] := by
  refine ⟨?_, ?_, ?_⟩ <;> rfl
theorem e53 : (E.ann 53).modes = [] ∧ (E.ann 53).keep = [] ∧ (E.ann 53).mir = [] ∧ (E.ann 53).heads 0 = [0, 1, 5] ∧ (E.ann 53).ends 0 = some [1] ∧ (E.ann 53).ends 1 = none ∧ (E.ann 53).draws 22 = [([0], [66]), ([5], [67]), ([0, 66, 67], [68]), ([0, 68], [69]), ([0, 69], [70]), ([1], [71]), ([71], [72]), ([70, 72], [73])] := by
  refine ⟨?_, ?_, ?_, ?_, ?_, ?_, ?_⟩ <;> rfl
theorem e54 : (E.ann 54).modes = [] ∧ (E.ann 54).keep = [] ∧ (E.ann 54).mir = [] ∧ (E.ann 54).heads 0 = [0, 1, 5] ∧ (E.ann 54).ends 0 = some [1] ∧ (E.ann 54).ends 1 = none := by
  refine ⟨?_, ?_, ?_, ?_, ?_, ?_⟩ <;> rfl
theorem e55 : (E.ann 55).modes = [] ∧ (E.ann 55).keep = [] ∧ (E.ann 55).mir = [] ∧ (E.ann 55).heads 0 = [0, 1, 5] ∧ (E.ann 55).ends 0 = some [1] ∧ (E.ann 55).ends 1 = none ∧ (E.ann 55).draws 7 = [([0], [21]), ([5], [22]), ([0, 21, 22], [23]), ([0, 23], [24]), ([0, 24], [25]), ([1], [26]), ([26], [27]), ([25, 27], [28])] := by
  refine ⟨?_, ?_, ?_, ?_, ?_, ?_, ?_⟩ <;> rfl
theorem e56 : (E.ann 56).modes = [] ∧ (E.ann 56).keep = [] ∧ (E.ann 56).mir = [] ∧ (E.ann 56).heads 0 = [0, 1, 5] ∧ (E.ann 56).ends 0 = some [1] ∧ (E.ann 56).ends 1 = none := by
  refine ⟨?_, ?_, ?_, ?_, ?_, ?_⟩ <;> rfl
theorem e57 : (E.ann 57).modes = [] ∧ (E.ann 57).keep = [] ∧ (E.ann 57).mir = [] := by
  refine ⟨?_, ?_, ?_⟩ <;> rfl
theorem e58 : (E.ann 58).modes = [] ∧ (E.ann 58).keep = [] ∧ (E.ann 58).mir = [] ∧ (E.ann 58).heads 0 = [0, 1, 5] ∧ (E.ann 58).ends 0 = some [1] ∧ (E.ann 58).ends 1 = none := by
  refine ⟨?_, ?_, ?_, ?_, ?_, ?_⟩ <;> rfl
theorem e59 : (E.ann 59).modes = [] ∧ (E.ann 59).keep = [] ∧ (E.ann 59).mir = [] ∧ (E.ann 59).heads 0 = [0, 1, 5] ∧ (E.ann 59).ends 0 = some [1] ∧ (E.ann 59).ends 1 = none := by
  refine ⟨?_, ?_, ?_, ?_, ?_, ?_⟩ <;> rfl
theorem e60 : (E.ann 60).modes = [] ∧ (E.ann 60).keep = [] ∧ (E.ann 60).mir = [] := by
  refine ⟨?_, ?_, ?_⟩ <;> rfl
theorem e61 : (E.ann 61).modes = [] ∧ (E.ann 61).keep = [] ∧ (E.ann 61).mir = [] ∧ (E.ann 61).heads 0 = [0, 1, 5] ∧ (E.ann 61).ends 0 = some [1] ∧ (E.ann 61).ends 1 = none := by
  refine ⟨?_, ?_, ?_, ?_, ?_, ?_⟩ <;> rfl
theorem e62 : (E.ann 62).modes = [] ∧ (E.ann 62).keep = [] ∧ (E.ann 62).mir = [] ∧ (E.ann 62).heads 0 = [0, 1, 5] ∧ (E.ann 62).ends 0 = some [1] ∧ (E.ann 62).ends 1 = none := by
  refine ⟨?_, ?_, ?_, ?_, ?_, ?_⟩ <;> rfl
theorem e63 : (E.ann 63).modes = [] ∧ (E.ann 63).keep = [] ∧ (E.ann 63).mir = [] ∧ (E.ann 63).heads 0 = [1, 3] ∧ (E.ann 63).ends 0 = some [] ∧ (E.ann 63).ends 1 = none ∧ (E.ann 63).draws 6 = [([1], [30]), ([1, 30], [31]), ([3], [32]), ([1, 31, 32], [33]), ([1, 33], [34]), ([1, 34], [35]), ([1], [36]), ([1, 36], [37]), ([35, 37], [38]), ([38], [39]), ([3, 39], [40]), ([1, 39], [41]), ([1, 39, 41], [42]), ([39, 40, 42], [43]), ([39, 43], [44]), ([1, 44], [45]), ([1, 44, 45], [46]), ([3, 44], [47]), ([1, 44, 46, 47], [48]), ([1, 44, 48], [49]), ([1, 44, 49], [50]), ([44, 50], [51]), ([39, 44, 51], [52]), ([39, 52], [53])] := by
  refine ⟨?_, ?_, ?_, ?_, ?_, ?_, ?_⟩ <;> rfl
theorem e64 : (E.ann 64).modes = [] ∧ (E.ann 64).keep = [] ∧ (E.ann 64).mir = [] ∧ (E.ann 64).heads 2 = [0, 3, 4] ∧ (E.ann 64).heads 0 = [0, 3] ∧ (E.ann 64).ends 0 = some [] ∧ (E.ann 64).ends 1 = none ∧ (E.ann 64).ends 2 = some [0, 3] ∧ (E.ann 64).ends 3 = none ∧ (E.ann 64).draws 11 = [([0], [33]), ([4], [34]), ([0, 33, 34], [35]), ([0, 35], [36]), ([0], [37]), ([3], [38]), ([0, 37, 38], [39]), ([0, 39], [40]), ([36, 40], [41])] := by
  refine ⟨?_, ?_, ?_, ?_, ?_, ?_, ?_, ?_, ?_, ?_⟩ <;> rfl
theorem e65 : (E.ann 65).modes = [] ∧ (E.ann 65).keep = [] ∧ (E.ann 65).mir = [] := by
  refine ⟨?_, ?_, ?_⟩ <;> rfl
theorem e66 : (E.ann 66).modes = [] ∧ (E.ann 66).keep = [] ∧ (E.ann 66).mir = [] ∧ (E.ann 66).heads 0 = [0, 1, 5] ∧ (E.ann 66).ends 0 = some [] ∧ (E.ann 66).ends 1 = none ∧ (E.ann 66).draws 4 = [([0], [12]), ([5], [13]), ([0, 12, 13], [14]), ([0, 14], [15]), ([1], [16]), ([15, 16], [17]), ([17], [18]), ([18], [19]), ([5, 19], [20]), ([19, 20], [21]), ([19, 21], [22]), ([0, 22], [23]), ([5, 22], [24]), ([22, 24], [25]), ([0, 22, 23, 25], [26]), ([0, 22, 26], [27]), ([0, 22], [28]), ([5, 22], [29]), ([0, 22, 28, 29], [30]), ([0, 22, 30], [31]), ([22, 27, 31], [32]), ([19, 22, 32], [33]), ([19, 33], [34])] := by
  refine ⟨?_, ?_, ?_, ?_, ?_, ?_, ?_⟩ <;> rfl
theorem e67 : (E.ann 67).modes = [] ∧ (E.ann 67).keep = [] ∧ (E.ann 67).mir = [] ∧ (E.ann 67).heads 0 = [0, 3] ∧ (E.ann 67).ends 0 = some [] ∧ (E.ann 67).ends 1 = none := by
  refine ⟨?_, ?_, ?_, ?_, ?_, ?_⟩ <;> rfl
theorem e68 : (E.ann 68).modes = [] ∧ (E.ann 68).keep = [] ∧ (E.ann 68).mir = [] ∧ (E.ann 68).heads 0 = [0, 1, 5] ∧ (E.ann 68).ends 0 = some [] ∧ (E.ann 68).ends 1 = none ∧ (E.ann 68).draws 4 = [([0], [12]), ([5], [13]), ([0, 12, 13], [14]), ([0, 14], [15]), ([0, 15], [16]), ([16], [17]), ([17], [18]), ([18], [19]), ([0, 19], [20]), ([5, 19], [21]), ([0, 19, 20, 21], [22]), ([0, 19, 22], [23]), ([0, 19, 23], [24]), ([1, 19], [25]), ([0, 19, 24, 25], [26]), ([19, 26], [27]), ([19, 27], [28]), ([28], [29]), ([5, 29], [30]), ([29, 30], [31]), ([29, 31], [32]), ([0, 32], [33]), ([5, 32], [34]), ([32, 34], [35]), ([0, 32, 33, 35], [36]), ([0, 32, 36], [37]), ([0, 32, 37], [38]), ([0, 32], [39]), ([5, 32], [40]), ([0, 32, 39, 40], [41]), ([0, 32, 41], [42]), ([0, 32, 42], [43]), ([32, 38, 43], [44]), ([29, 32, 44], [45]), ([29, 45], [46])] := by
  refine ⟨?_, ?_, ?_, ?_, ?_, ?_, ?_⟩ <;> rfl
theorem e69 : (E.ann 69).modes = [] ∧ (E.ann 69).keep = [] ∧ (E.ann 69).mir = [] := by
  refine ⟨?_, ?_, ?_⟩ <;> rfl
theorem e70 : (E.ann 70).modes = [] ∧ (E.ann 70).keep = [] ∧ (E.ann 70).mir = [] := by
  refine ⟨?_, ?_, ?_⟩ <;> rfl
theorem e71 : (E.ann 71).modes = [] ∧ (E.ann 71).keep = [] ∧ (E.ann 71).mir = [] ∧ (E.ann 71).heads 0 = [0, 3, 4] ∧ (E.ann 71).ends 0 = some [3] ∧ (E.ann 71).ends 1 = none := by
  refine ⟨?_, ?_, ?_, ?_, ?_, ?_⟩ <;> rfl
theorem e72 : (E.ann 72).modes = [] ∧ (E.ann 72).keep = [] ∧ (E.ann 72).mir = [] ∧ (E.ann 72).heads 0 = [0, 3, 4] ∧ (E.ann 72).ends 0 = some [3] ∧ (E.ann 72).ends 1 = none := by
  refine ⟨?_, ?_, ?_, ?_, ?_, ?_⟩ <;> rfl
theorem e73 : (E.ann 73).modes = [] ∧ (E.ann 73).keep = [] ∧ (E.ann 73).mir = [] ∧ (E.ann 73).heads 0 = [0, 3, 4] ∧ (E.ann 73).ends 0 = some [3] ∧ (E.ann 73).ends 1 = none := by
  refine ⟨?_, ?_, ?_, ?_, ?_, ?_⟩ <;> rfl
theorem e74 : (E.ann 74).modes = [] ∧ (E.ann 74).keep = [] ∧ (E.ann 74).mir = [] ∧ (E.ann 74).heads 0 = [0, 3, 4] ∧ (E.ann 74).ends 0 = some [3] ∧ (E.ann 74).ends 1 = none := by
  refine ⟨?_, ?_, ?_, ?_, ?_, ?_⟩ <;> rfl
theorem e75 : (E.ann 75).modes = [] ∧ (E.ann 75).keep = [] ∧ (E.ann 75).mir = [] ∧ (E.ann 75).heads 0 = [0, 3, 4] ∧ (E.ann 75).ends 0 = some [3] ∧ (E.ann 75).ends 1 = none := by
  refine ⟨?_, ?_, ?_, ?_, ?_, ?_⟩ <;> rfl
theorem e76 : (E.ann 76).modes = [] ∧ (E.ann 76).keep = [] ∧ (E.ann 76).mir = [] ∧ (E.ann 76).heads 0 = [1, 25, 26, 27] ∧ (E.ann 76).ends 0 = some [] ∧ (E.ann 76).ends 1 = none := by
  refine ⟨?_, ?_, ?_, ?_, ?_, ?_⟩ <;> rfl
theorem e77 : (E.ann 77).modes = [] ∧ (E.ann 77).keep = [] ∧ (E.ann 77).mir = [] ∧ (E.ann 77).heads 0 = [0, 1, 7, 8, 9] ∧ (E.ann 77).ends 0 = some [] ∧ (E.ann 77).ends 1 = none := by
  refine ⟨?_, ?_, ?_, ?_, ?_, ?_⟩ <;> rfl
theorem e78 : (E.ann 78).modes = [] ∧ (E.ann 78).keep = [] ∧ (E.ann 78).mir = [] ∧ (E.ann 78).heads 0 = [0, 8, 9, 10] ∧ (E.ann 78).ends 0 = some [] ∧ (E.ann 78).ends 1 = none := by
  refine ⟨?_, ?_, ?_, ?_, ?_, ?_⟩ <;> rfl
theorem e79 : (E.ann 79).modes = [] ∧ (E.ann 79).keep = [] ∧ (E.ann 79).mir = [] := by
  refine ⟨?_, ?_, ?_⟩ <;> rfl
theorem e80 : (E.ann 80).modes = [] ∧ (E.ann 80).keep = [] ∧ (E.ann 80).mir = [] := by
  refine ⟨?_, ?_, ?_⟩ <;> rfl
theorem e81 : (E.ann 81).modes = [] ∧ (E.ann 81).keep = [] ∧ (E.ann 81).mir = [] ∧ (E.ann 81).heads 0 = [0, 1, 5] ∧ (E.ann 81).ends 0 = some [] ∧ (E.ann 81).ends 1 = none ∧ (E.ann 81).draws 6 = [([0], [17]), ([5], [18]), ([0, 17, 18], [19]), ([0, 19], [20]), ([1], [21]), ([5], [22]), ([1, 21, 22], [23]), ([1, 23], [24]), ([0, 1, 20, 24], [25]), ([25], [26])] := by
  refine ⟨?_, ?_, ?_, ?_, ?_, ?_, ?_⟩ <;> rfl
theorem e82 : (E.ann 82).modes = [] ∧ (E.ann 82).keep = [] ∧ (E.ann 82).mir = [] ∧ (E.ann 82).heads 0 = [0, 1, 5] ∧ (E.ann 82).ends 0 = some [] ∧ (E.ann 82).ends 1 = none ∧ (E.ann 82).draws 6 = [([0], [17]), ([5], [18]), ([0, 17, 18], [19]), ([0, 19], [20]), ([1], [21]), ([5], [22]), ([1, 21, 22], [23]), ([1, 23], [24]), ([20, 24], [25]), ([25], [26])] := by
  refine ⟨?_, ?_, ?_, ?_, ?_, ?_, ?_⟩ <;> rfl
theorem e83 : (E.ann 83).modes = [.io, .shr] ∧ (E.ann 83).keep = [0] ∧ (E.ann 83).mir = [] ∧ (E.ann 83).heads 0 = [0, 1, 5] ∧ (E.ann 83).ends 0 = some [0, 1] ∧ (E.ann 83).ends 1 = none := by
  refine ⟨?_, ?_, ?_, ?_, ?_, ?_⟩ <;> rfl
theorem e84 : (E.ann 84).modes = [.io, .shr] ∧ (E.ann 84).keep = [0] ∧ (E.ann 84).mir = [] ∧ (E.ann 84).heads 0 = [0, 1, 5] ∧ (E.ann 84).ends 0 = some [0, 1] ∧ (E.ann 84).ends 1 = none := by
  refine ⟨?_, ?_, ?_, ?_, ?_, ?_⟩ <;> rfl
theorem e85 : (E.ann 85).modes = [] ∧ (E.ann 85).keep = [] ∧ (E.ann 85).mir = [] ∧ (E.ann 85).heads 0 = [0, 1, 5] ∧ (E.ann 85).ends 0 = some [1] ∧ (E.ann 85).ends 1 = none := by
  refine ⟨?_, ?_, ?_, ?_, ?_, ?_⟩ <;> rfl
theorem e86 : (E.ann 86).modes = [] ∧ (E.ann 86).keep = [] ∧ (E.ann 86).mir = [] ∧ (E.ann 86).heads 0 = [0, 1, 5] ∧ (E.ann 86).ends 0 = some [1] ∧ (E.ann 86).ends 1 = none ∧ (E.ann 86).draws 7 = [([0], [21]), ([5], [22]), ([0, 21, 22], [23]), ([0, 23], [24]), ([0, 24], [25]), ([1], [26]), ([26], [27]), ([25, 27], [28])] := by
  refine ⟨?_, ?_, ?_, ?_, ?_, ?_, ?_⟩ <;> rfl
theorem e87 : (E.ann 87).modes = [] ∧ (E.ann 87).keep = [0] ∧ (E.ann 87).mir = [] ∧ (E.ann 87).heads 0 = [0, 3, 16, 17, 18] ∧ (E.ann 87).ends 0 = some [0, 3] ∧ (E.ann 87).ends 1 = none ∧ (E.ann 87).draws 2 = [([0], [6]), ([0, 6], [7]), ([0, 7], [8]), ([0, 8], [9]), ([0, 9], [10]), ([0], [11]), ([0, 11], [12]), ([0, 12], [13]), ([0, 13], [14]), ([0, 14], [15]), ([0, 10, 15], [16]), ([0, 16], [17]), ([], [18])] := by
  refine ⟨?_, ?_, ?_, ?_, ?_, ?_, ?_⟩ <;> rfl
theorem e88 : (E.ann 88).modes = [] ∧ (E.ann 88).keep = [] ∧ (E.ann 88).mir = [] ∧ (E.ann 88).heads 0 = [0, 3] ∧ (E.ann 88).ends 0 = some [3] ∧ (E.ann 88).ends 1 = none := by
  refine ⟨?_, ?_, ?_, ?_, ?_, ?_⟩ <;> rfl
theorem e89 : (E.ann 89).modes = [] ∧ (E.ann 89).keep = [] ∧ (E.ann 89).mir = [] ∧ (E.ann 89).heads 0 = [0, 1, 5] ∧ (E.ann 89).ends 0 = some [1] ∧ (E.ann 89).ends 1 = none := by
  refine ⟨?_, ?_, ?_, ?_, ?_, ?_⟩ <;> rfl
theorem e90 : (E.ann 90).modes = [] ∧ (E.ann 90).keep = [] ∧ (E.ann 90).mir = [] ∧ (E.ann 90).heads 0 = [0, 1, 5] ∧ (E.ann 90).ends 0 = some [1] ∧ (E.ann 90).ends 1 = none := by
  refine ⟨?_, ?_, ?_, ?_, ?_, ?_⟩ <;> rfl
theorem e91 : (E.ann 91).modes = [] ∧ (E.ann 91).keep = [] ∧ (E.ann 91).mir = [] ∧ (E.ann 91).heads 0 = [0, 3, 4] ∧ (E.ann 91).ends 0 = some [3] ∧ (E.ann 91).ends 1 = none := by
  refine ⟨?_, ?_, ?_, ?_, ?_, ?_⟩ <;> rfl
theorem e92 : (E.ann 92).modes = [] ∧ (E.ann 92).keep = [] ∧ (E.ann 92).mir = [] ∧ (E.ann 92).heads 0 = [0, 3, 4] ∧ (E.ann 92).ends 0 = some [3] ∧ (E.ann 92).ends 1 = none := by
  refine ⟨?_, ?_, ?_, ?_, ?_, ?_⟩ <;> rfl
theorem e93 : (E.ann 93).modes = [] ∧ (E.ann 93).keep = [] ∧ (E.ann 93).mir = [] ∧ (E.ann 93).heads 2 = [1, 2, 6, 7, 8, 9] ∧ (E.ann 93).heads 0 = [1, 2, 6] ∧ (E.ann 93).ends 0 = some [] ∧ (E.ann 93).ends 1 = none ∧ (E.ann 93).ends 2 = some [1, 2, 6, 7, 8] ∧ (E.ann 93).ends 3 = none ∧ (E.ann 93).draws 11 = [([1], [56]), ([10], [57]), ([10, 57], [58]), ([10, 58], [59]), ([56, 59], [60]), ([60], [61]), ([10, 61], [62]), ([10, 61, 62], [63]), ([1, 61], [64]), ([61, 64], [65]), ([10, 61, 63, 65], [66]), ([10, 61, 66], [67]), ([7, 61], [68]), ([7, 61, 68], [69]), ([1, 61], [70]), ([61, 70], [71]), ([7, 61, 69, 71], [72]), ([7, 61, 72], [73]), ([61, 67, 73], [74]), ([61, 74], [75])] := by
  refine ⟨?_, ?_, ?_, ?_, ?_, ?_, ?_, ?_, ?_, ?_⟩ <;> rfl
theorem e94 : (E.ann 94).modes = [] ∧ (E.ann 94).keep = [0] ∧ (E.ann 94).mir = [] ∧ (E.ann 94).heads 0 = [0, 1, 6, 14, 15, 16] ∧ (E.ann 94).ends 0 = some [0] ∧ (E.ann 94).ends 1 = none ∧ (E.ann 94).draws 7 = [([6], [37]), ([9], [38]), ([6, 37, 38], [39]), ([39], [40]), ([6, 37, 38], [41]), ([41], [41, 42]), ([6, 37, 40, 42], [])] ∧ (E.ann 94).draws 8 = [([9], [43]), ([9, 43], [44]), ([44], [45]), ([45], [46]), ([6, 46], [47]), ([9, 46], [48]), ([6, 46, 47, 48], [49]), ([46, 49], [50]), ([0, 46], [51]), ([0, 46, 51], [52]), ([0, 46, 52], [53]), ([0, 46, 53], [54]), ([0, 46, 54], [55]), ([46, 50, 55], [56]), ([46, 56], [57])] := by
  refine ⟨?_, ?_, ?_, ?_, ?_, ?_, ?_, ?_⟩ <;> rfl
theorem e95 : (E.ann 95).modes = [] ∧ (E.ann 95).keep = [] ∧ (E.ann 95).mir = [] := by
  refine ⟨?_, ?_, ?_⟩ <;> rfl
theorem e96 : (E.ann 96).modes = [] ∧ (E.ann 96).keep = [] ∧ (E.ann 96).mir = [] ∧ (E.ann 96).heads 0 = [1, 2, 3, 31, 32, 33] ∧ (E.ann 96).ends 0 = some [1, 2, 3] ∧ (E.ann 96).ends 1 = none ∧ (E.ann 96).draws 1 = [([1], [6]), ([1, 6], [7]), ([1, 7], [8]), ([1], [9]), ([1, 9], [10]), ([1, 10], [11]), ([1], [12]), ([1, 8, 12], [1, 8, 12]), ([1], [13]), ([1, 11, 13], [1, 11, 13])] ∧ (E.ann 96).draws 10 = [([3], [37]), ([5], [38]), ([5, 38], [39]), ([5], [40]), ([5, 40], [41]), ([5, 41], [42]), ([39, 42], [39, 42, 43]), ([43], [43, 44]), ([3, 37, 44], [3, 37, 44, 45]), ([45], [3, 45])] := by
  refine ⟨?_, ?_, ?_, ?_, ?_, ?_, ?_, ?_⟩ <;> rfl
theorem e97 : (E.ann 97).modes = [] ∧ (E.ann 97).keep = [0] ∧ (E.ann 97).mir = [] ∧ (E.ann 97).draws 0 = [([], [2]), ([], [3]), ([0, 3], [4]), ([0, 4], [5]), ([0, 5], [6]), ([], [7]), ([0, 7], [8]), ([0, 8], [9]), ([0, 9], [10]), ([], [11]), ([0, 11], [12]), ([0, 12], [13]), ([0, 13], [14]), ([], [15]), ([0, 15], [16]), ([0, 16], [17]), ([0, 17], [18]), ([0, 18], [19]), ([0, 6, 10, 14, 19], [0, 6, 10, 14, 19, 20]), ([0, 2], [21]), ([0, 20, 21], [0, 20, 21])] := by
  refine ⟨?_, ?_, ?_, ?_⟩ <;> rfl
theorem e98 : (E.ann 98).modes = [] ∧ (E.ann 98).keep = [] ∧ (E.ann 98).mir = [] ∧ (E.ann 98).heads 0 = [1, 2, 3, 4] ∧ (E.ann 98).ends 0 = some [1, 2, 3] ∧ (E.ann 98).ends 1 = none ∧ (E.ann 98).draws 11 = [([3], [39]), ([1], [40]), ([1, 40], [41]), ([4], [42]), ([1, 41, 42], [43]), ([1, 43], [44]), ([1, 44], [45]), ([], [46]), ([1], [47]), ([1, 47], [48]), ([4], [49]), ([1, 48, 49], [50]), ([1, 50], [51]), ([1, 51], [52]), ([1, 46, 52], [46, 53]), ([45, 53], [45, 53, 54]), ([54], [54, 55]), ([3, 39, 55], [3, 39, 55, 56]), ([56], [3, 56])] := by
  refine ⟨?_, ?_, ?_, ?_, ?_, ?_, ?_⟩ <;> rfl
theorem e99 : (E.ann 99).modes = [] ∧ (E.ann 99).keep = [] ∧ (E.ann 99).mir = [] := by
  refine ⟨?_, ?_, ?_⟩ <;> rfl
theorem e100 : (E.ann 100).modes = [] ∧ (E.ann 100).keep = [] ∧ (E.ann 100).mir = [] := by
  refine ⟨?_, ?_, ?_⟩ <;> rfl
theorem e101 : (E.ann 101).modes = [] ∧ (E.ann 101).keep = [] ∧ (E.ann 101).mir = [] := by
  refine ⟨?_, ?_, ?_⟩ <;> rfl
theorem e102 : (E.ann 102).modes = [] ∧ (E.ann 102).keep = [] ∧ (E.ann 102).mir = [] := by
  refine ⟨?_, ?_, ?_⟩ <;> rfl
theorem e103 : (E.ann 103).modes = [] ∧ (E.ann 103).keep = [] ∧ (E.ann 103).mir = [] := by
  refine ⟨?_, ?_, ?_⟩ <;> rfl
theorem e104 : (E.ann 104).modes = [] ∧ (E.ann 104).keep = [] ∧ (E.ann 104).mir = [] := by
  refine ⟨?_, ?_, ?_⟩ <;> rfl
theorem e105 : (E.ann 105).modes = [] ∧ (E.ann 105).keep = [] ∧ (E.ann 105).mir = [] := by
  refine ⟨?_, ?_, ?_⟩ <;> rfl
theorem e106 : (E.ann 106).modes = [] ∧ (E.ann 106).keep = [] ∧ (E.ann 106).mir = [] := by
  refine ⟨?_, ?_, ?_⟩ <;> rfl
theorem e107 : (E.ann 107).modes = [] ∧ (E.ann 107).keep = [] ∧ (E.ann 107).mir = [] := by
  refine ⟨?_, ?_, ?_⟩ <;> rfl
theorem e108 : (E.ann 108).modes = [] ∧ (E.ann 108).keep = [] ∧ (E.ann 108).mir = [] ∧ (E.ann 108).heads 0 = [0, 1, 7, 8] ∧ (E.ann 108).ends 0 = some [] ∧ (E.ann 108).ends 1 = none := by
  refine ⟨?_, ?_, ?_, ?_, ?_, ?_⟩ <;> rfl
theorem e109 : (E.ann 109).modes = [] ∧ (E.ann 109).keep = [] ∧ (E.ann 109).mir = [] := by
  refine ⟨?_, ?_, ?_⟩ <;> rfl
theorem e110 : (E.ann 110).modes = [] ∧ (E.ann 110).keep = [] ∧ (E.ann 110).mir = [] := by
  refine ⟨?_, ?_, ?_⟩ <;> rfl
theorem e111 : (E.ann 111).modes = [] ∧ (E.ann 111).keep = [] ∧ (E.ann 111).mir = [] := by
  refine ⟨?_, ?_, ?_⟩ <;> rfl
theorem e112 : (E.ann 112).modes = [] ∧ (E.ann 112).keep = [] ∧ (E.ann 112).mir = [] := by
  refine ⟨?_, ?_, ?_⟩ <;> rfl
theorem e113 : (E.ann 113).modes = [] ∧ (E.ann 113).keep = [] ∧ (E.ann 113).mir = [] := by
  refine ⟨?_, ?_, ?_⟩ <;> rfl
theorem e114 : (E.ann 114).modes = [] ∧ (E.ann 114).keep = [] ∧ (E.ann 114).mir = [] ∧ (E.ann 114).heads 0 = [0, 3, 6, 7, 8] ∧ (E.ann 114).ends 0 = some [3] ∧ (E.ann 114).ends 1 = none := by
  refine ⟨?_, ?_, ?_, ?_, ?_, ?_⟩ <;> rfl
theorem e115 : (E.ann 115).modes = [] ∧ (E.ann 115).keep = [] ∧ (E.ann 115).mir = [] := by
  refine ⟨?_, ?_, ?_⟩ <;> rfl
theorem e116 : (E.ann 116).modes = [] ∧ (E.ann 116).keep = [] ∧ (E.ann 116).mir = [] ∧ (E.ann 116).heads 0 = [0, 3, 4] ∧ (E.ann 116).ends 0 = some [3] ∧ (E.ann 116).ends 1 = none := by
  refine ⟨?_, ?_, ?_, ?_, ?_, ?_⟩ <;> rfl
theorem e117 : (E.ann 117).modes = [] ∧ (E.ann 117).keep = [] ∧ (E.ann 117).mir = [] := by
  refine ⟨?_, ?_, ?_⟩ <;> rfl
theorem tblOk : tbl.all (fun p => tiB Try.prog p.1 p.2) = true := by kernel_rfl
theorem progOk : progB Try.prog E = true := by kernel_rfl
theorem sound (f : FuncId) : CallOk Try.prog E (EV Try.prog E) f := EV_sound (by kernel_rfl) (tok_of tblOk) eqOk_none progOk f
end Go.Proofs.Ytndcljdmopigeaa

