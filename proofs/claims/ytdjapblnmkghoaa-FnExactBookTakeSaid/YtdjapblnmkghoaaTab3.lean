/- The tables of the seat: types, annotations (written by a program), and that the kernel finds them right. -/
import Derived.Test.YtdjapblnmkghoaaProg
import Derived.KernelRfl
import Derived.Test.YtdjapblnmkghoaaSxD
namespace Go.Proofs.Ytdjapblnmkghoaa
open Go.Sx
def tbl : List (Nat × TI) := [
  (2, ⟨.prim, 1, 8, [.p (.int .i64 0)]⟩),
  (3, ⟨.prim, 1, 8, [.p (.int .i64 0)]⟩),
  (4, ⟨.prim, 1, 1, [.p (.bool false)]⟩),
  (5, ⟨.prim, 1, 1, [.p (.int .u8 0)]⟩),
  (6, ⟨.prim, 1, 1, [.p (.int .u8 0)]⟩),
  (7, ⟨.strct [(0, 1, false), (1, 1, false), (2, 1, false), (3, 1, false)], 4, 24, [.p (.int .i64 0), .p (.int .i64 0), .p (.bool false), .p (.int .u8 0)]⟩),
  (8, ⟨.strct [(0, 1, false), (1, 1, false), (2, 1, false), (3, 1, false)], 4, 24, [.p (.int .i64 0), .p (.int .i64 0), .p (.bool false), .p (.int .u8 0)]⟩),
  (9, ⟨.prim, 1, 16, [.p (.string ⟨#[]⟩)]⟩),
  (10, ⟨.prim, 1, 16, [.p (.string ⟨#[]⟩)]⟩),
  (11, ⟨.prim, 1, 16, [.p (.string ⟨#[]⟩)]⟩),
  (12, ⟨.prim, 1, 8, [.p (.int .u64 0)]⟩),
  (13, ⟨.strct [(0, 1, false), (1, 1, false)], 2, 24, [.p (.string ⟨#[]⟩), .p (.int .u64 0)]⟩),
  (14, ⟨.strct [(0, 1, false), (1, 1, false)], 2, 24, [.p (.string ⟨#[]⟩), .p (.int .u64 0)]⟩),
  (15, ⟨.ptr 150, 1, 8, [.p (.pointer none)]⟩),
  (16, ⟨.ptr 153, 1, 8, [.p (.pointer none)]⟩),
  (17, ⟨.ptr 163, 1, 8, [.p (.pointer none)]⟩),
  (18, ⟨.strct [(0, 1, false)], 1, 8, [.p (.pointer none)]⟩),
  (19, ⟨.strct [(0, 1, false)], 1, 8, [.p (.pointer none)]⟩),
  (21, ⟨.prim, 1, 4, [.p (.int .i32 0)]⟩),
  (22, ⟨.slc 127, 1, 24, [.sl .own 7 []]⟩),
  (23, ⟨.slc 130, 1, 24, [.sl .own 9 []]⟩),
  (24, ⟨.slc 132, 1, 24, [.sl .own 5 []]⟩),
  (25, ⟨.strct [(0, 1, false), (1, 1, false), (2, 1, false), (3, 1, false), (4, 1, false)], 5, 88, [.p (.int .i64 0), .p (.int .i64 0), .sl .own 7 [], .sl .own 9 [], .sl .own 5 []]⟩),
  (26, ⟨.strct [(0, 1, false), (1, 1, false), (2, 1, false), (3, 1, false), (4, 1, false)], 5, 88, [.p (.int .i64 0), .p (.int .i64 0), .sl .own 7 [], .sl .own 9 [], .sl .own 5 []]⟩),
  (28, ⟨.slc 9, 1, 24, [.sl .own 1 []]⟩),
  (29, ⟨.strct [(0, 1, false), (1, 1, false), (2, 1, false), (3, 1, false), (4, 1, false), (5, 1, false), (6, 1, false)], 7, 96, [.p (.string ⟨#[]⟩), .p (.string ⟨#[]⟩), .p (.int .i64 0), .p (.int .i64 0), .p (.string ⟨#[]⟩), .p (.bool false), .sl .own 1 []]⟩),
  (30, ⟨.strct [(0, 1, false), (1, 1, false), (2, 1, false), (3, 1, false), (4, 1, false), (5, 1, false), (6, 1, false)], 7, 96, [.p (.string ⟨#[]⟩), .p (.string ⟨#[]⟩), .p (.int .i64 0), .p (.int .i64 0), .p (.string ⟨#[]⟩), .p (.bool false), .sl .own 1 []]⟩),
  (33, ⟨.slc 30, 1, 24, [.sl .own 7 []]⟩),
  (34, ⟨.slc 102, 1, 24, [.sl .own 9 []]⟩),
  (35, ⟨.slc 115, 1, 24, [.sl .own 5 []]⟩),
  (36, ⟨.strct [(0, 1, false), (1, 1, false), (2, 1, false), (3, 1, false), (4, 1, false)], 5, 88, [.p (.int .i64 0), .p (.int .i64 0), .sl .own 7 [], .sl .own 9 [], .sl .own 5 []]⟩),
  (37, ⟨.strct [(0, 1, false), (1, 1, false), (2, 1, false), (3, 1, false), (4, 1, false)], 5, 88, [.p (.int .i64 0), .p (.int .i64 0), .sl .own 7 [], .sl .own 9 [], .sl .own 5 []]⟩),
  (44, ⟨.strct [(0, 1, false), (1, 1, false), (2, 1, false), (3, 1, false), (4, 1, false)], 5, 72, [.p (.string ⟨#[]⟩), .p (.string ⟨#[]⟩), .p (.int .i64 0), .sl .own 7 [], .p (.int .i64 0)]⟩),
  (45, ⟨.strct [(0, 1, false), (1, 1, false), (2, 1, false), (3, 1, false), (4, 1, false)], 5, 72, [.p (.string ⟨#[]⟩), .p (.string ⟨#[]⟩), .p (.int .i64 0), .sl .own 7 [], .p (.int .i64 0)]⟩),
  (46, ⟨.strct [(0, 1, false), (1, 1, false), (2, 1, false)], 3, 40, [.p (.int .i64 0), .sl .own 9 [], .p (.int .i64 0)]⟩),
  (47, ⟨.strct [(0, 1, false), (1, 1, false), (2, 1, false)], 3, 40, [.p (.int .i64 0), .sl .own 9 [], .p (.int .i64 0)]⟩),
  (50, ⟨.strct [(0, 1, false), (1, 1, false), (2, 1, false), (3, 1, false), (4, 1, false)], 5, 72, [.p (.string ⟨#[]⟩), .p (.string ⟨#[]⟩), .p (.int .i64 0), .sl .own 7 [], .p (.int .i64 0)]⟩),
  (51, ⟨.strct [(0, 1, false), (1, 1, false), (2, 1, false), (3, 1, false), (4, 1, false)], 5, 72, [.p (.string ⟨#[]⟩), .p (.string ⟨#[]⟩), .p (.int .i64 0), .sl .own 7 [], .p (.int .i64 0)]⟩),
  (55, ⟨.strct [(0, 1, false), (1, 1, false), (2, 1, false)], 3, 40, [.p (.int .i64 0), .sl .own 9 [], .p (.int .i64 0)]⟩),
  (56, ⟨.strct [(0, 1, false), (1, 1, false), (2, 1, false)], 3, 40, [.p (.int .i64 0), .sl .own 9 [], .p (.int .i64 0)]⟩),
  (69, ⟨.strct [(0, 1, false), (1, 1, false), (2, 1, false)], 3, 40, [.p (.string ⟨#[]⟩), .p (.string ⟨#[]⟩), .p (.int .i64 0)]⟩),
  (70, ⟨.strct [(0, 1, false), (1, 1, false), (2, 1, false)], 3, 40, [.p (.string ⟨#[]⟩), .p (.string ⟨#[]⟩), .p (.int .i64 0)]⟩),
  (73, ⟨.strct [(0, 1, false), (1, 1, false), (2, 1, false)], 3, 40, [.p (.string ⟨#[]⟩), .p (.string ⟨#[]⟩), .p (.int .i64 0)]⟩),
  (92, ⟨.strct [(0, 1, false), (1, 1, false)], 2, 32, [.p (.string ⟨#[]⟩), .p (.string ⟨#[]⟩)]⟩),
  (93, ⟨.strct [(0, 1, false), (1, 1, false)], 2, 32, [.p (.string ⟨#[]⟩), .p (.string ⟨#[]⟩)]⟩),
  (101, ⟨.strct [(0, 1, false), (1, 1, false), (2, 7, true)], 9, 112, [.p (.int .i64 0), .p (.bool false), .p (.string ⟨#[]⟩), .p (.string ⟨#[]⟩), .p (.int .i64 0), .p (.int .i64 0), .p (.string ⟨#[]⟩), .p (.bool false), .sl .own 1 []]⟩),
  (102, ⟨.strct [(0, 1, false), (1, 1, false), (2, 7, true)], 9, 112, [.p (.int .i64 0), .p (.bool false), .p (.string ⟨#[]⟩), .p (.string ⟨#[]⟩), .p (.int .i64 0), .p (.int .i64 0), .p (.string ⟨#[]⟩), .p (.bool false), .sl .own 1 []]⟩),
  (108, ⟨.mp 3 4, 1, 8, [.p (.map none)]⟩),
  (109, ⟨.mp 93 30, 1, 8, [.p (.map none)]⟩),
  (112, ⟨.mp 93 102, 1, 8, [.p (.map none)]⟩),
  (114, ⟨.strct [(0, 1, false), (1, 1, false), (2, 1, false), (3, 1, false), (4, 1, false)], 5, 56, [.p (.string ⟨#[]⟩), .p (.int .i64 0), .p (.string ⟨#[]⟩), .p (.int .i64 0), .p (.int .i64 0)]⟩),
  (115, ⟨.strct [(0, 1, false), (1, 1, false), (2, 1, false), (3, 1, false), (4, 1, false)], 5, 56, [.p (.string ⟨#[]⟩), .p (.int .i64 0), .p (.string ⟨#[]⟩), .p (.int .i64 0), .p (.int .i64 0)]⟩),
  (123, ⟨.mp 93 4, 1, 8, [.p (.map none)]⟩),
  (127, ⟨.strct [(0, 1, false), (1, 1, false), (2, 1, false), (3, 1, false), (4, 1, false), (5, 1, false), (6, 1, false)], 7, 96, [.p (.string ⟨#[]⟩), .p (.string ⟨#[]⟩), .p (.int .i64 0), .p (.int .i64 0), .p (.string ⟨#[]⟩), .p (.bool false), .sl .own 1 []]⟩),
  (129, ⟨.strct [(0, 1, false), (1, 1, false), (2, 7, true)], 9, 112, [.p (.int .i64 0), .p (.bool false), .p (.string ⟨#[]⟩), .p (.string ⟨#[]⟩), .p (.int .i64 0), .p (.int .i64 0), .p (.string ⟨#[]⟩), .p (.bool false), .sl .own 1 []]⟩),
  (130, ⟨.strct [(0, 1, false), (1, 1, false), (2, 7, true)], 9, 112, [.p (.int .i64 0), .p (.bool false), .p (.string ⟨#[]⟩), .p (.string ⟨#[]⟩), .p (.int .i64 0), .p (.int .i64 0), .p (.string ⟨#[]⟩), .p (.bool false), .sl .own 1 []]⟩),
  (132, ⟨.strct [(0, 1, false), (1, 1, false), (2, 1, false), (3, 1, false), (4, 1, false)], 5, 56, [.p (.string ⟨#[]⟩), .p (.int .i64 0), .p (.string ⟨#[]⟩), .p (.int .i64 0), .p (.int .i64 0)]⟩),
  (146, ⟨.slc 5, 1, 24, [.sl .own 1 []]⟩),
  (149, ⟨.strct [(0, 1, false), (1, 1, false), (2, 1, false), (3, 1, false)], 4, 40, [.p (.pointer none), .p (.pointer none), .p (.pointer none), .p (.string ⟨#[]⟩)]⟩),
  (150, ⟨.strct [(0, 1, false), (1, 1, false), (2, 1, false), (3, 1, false)], 4, 40, [.p (.pointer none), .p (.pointer none), .p (.pointer none), .p (.string ⟨#[]⟩)]⟩),
  (155, ⟨.prim, 1, 4, [.p (.int .u32 0)]⟩),
  (156, ⟨.prim, 1, 1, [.p (.int .u8 0)]⟩),
  (157, ⟨.prim, 1, 1, [.p (.int .u8 0)]⟩),
  (159, ⟨.ptr 5, 1, 8, [.p (.pointer none)]⟩),
  (160, ⟨.prim, 1, 4, [.p (.int .i32 0)]⟩),
  (161, ⟨.prim, 1, 4, [.p (.int .i32 0)]⟩)]
/-- loop.example/wharflog/laws.FnExactBookTake -/
def a4 : Ann := { draws := lookD [(8, []), (14, [([8], [54]), ([2], [55]), ([2, 55], [56]), ([8, 54, 56], [57]), ([57], [58])]), (16, [([9], [59]), ([3], [60]), ([3, 60], [61]), ([9, 59, 61], [62]), ([62], [63])]), (31, [])] [], free := lookT [(8, [⟨[], [(0, 1, [2, 3, 28]), (2, 2, [2, 3, 30]), (8, 3, [2, 3, 6])]⟩, ⟨[0], [(1, 4, [2, 3, 29]), (2, 5, [2, 3, 28, 30]), (8, 6, [2, 3, 6, 28])]⟩, ⟨[2], [(0, 5, [2, 3, 28, 30]), (8, 7, [2, 3, 6, 30])]⟩, ⟨[8], [(0, 6, [2, 3, 6, 28]), (2, 7, [2, 3, 6, 30])]⟩, ⟨[0, 1], [(2, 8, [2, 3, 29, 30]), (8, 9, [2, 3, 6, 29])]⟩, ⟨[0, 2], [(1, 8, [2, 3, 29, 30]), (8, 10, [2, 3, 6, 28, 30])]⟩, ⟨[0, 8], [(1, 9, [2, 3, 6, 29]), (2, 10, [2, 3, 6, 28, 30])]⟩, ⟨[2, 8], [(0, 10, [2, 3, 6, 28, 30])]⟩, ⟨[0, 1, 2], [(3, 11, [2, 3, 29, 31]), (8, 12, [2, 3, 6, 29, 30])]⟩, ⟨[0, 1, 8], [(2, 12, [2, 3, 6, 29, 30])]⟩, ⟨[0, 2, 8], [(1, 12, [2, 3, 6, 29, 30])]⟩, ⟨[0, 1, 2, 3], [(4, 13, [2, 3, 32]), (8, 14, [2, 3, 6, 29, 31])]⟩, ⟨[0, 1, 2, 8], [(3, 14, [2, 3, 6, 29, 31])]⟩, ⟨[0, 1, 2, 3, 4], [(5, 15, [2, 3, 27, 32]), (8, 16, [2, 3, 6, 32])]⟩, ⟨[0, 1, 2, 3, 8], [(4, 16, [2, 3, 6, 32])]⟩, ⟨[0, 1, 2, 3, 4, 5], [(6, 17, [2, 3, 27, 32, 33]), (7, 18, [2, 3, 27, 32, 34]), (8, 19, [2, 3, 6, 27, 32])]⟩, ⟨[0, 1, 2, 3, 4, 8], [(5, 19, [2, 3, 6, 27, 32])]⟩, ⟨[0, 1, 2, 3, 4, 5, 6], [(7, 20, [2, 3, 33, 34]), (8, 21, [2, 3, 6, 27, 32, 33])]⟩, ⟨[0, 1, 2, 3, 4, 5, 7], [(6, 20, [2, 3, 33, 34]), (8, 22, [2, 3, 6, 27, 32, 34])]⟩, ⟨[0, 1, 2, 3, 4, 5, 8], [(6, 21, [2, 3, 6, 27, 32, 33]), (7, 22, [2, 3, 6, 27, 32, 34])]⟩, ⟨[0, 1, 2, 3, 4, 5, 6, 7], [(8, 23, [2, 3, 6, 33, 34])]⟩, ⟨[0, 1, 2, 3, 4, 5, 6, 8], [(7, 23, [2, 3, 6, 33, 34]), (9, 24, [2, 3, 6, 27, 32])]⟩, ⟨[0, 1, 2, 3, 4, 5, 7, 8], [(6, 23, [2, 3, 6, 33, 34])]⟩, ⟨[0, 1, 2, 3, 4, 5, 6, 7, 8], [(9, 25, [2, 3, 6, 34])]⟩, ⟨[0, 1, 2, 3, 4, 5, 6, 8, 9], [(7, 25, [2, 3, 6, 34])]⟩, ⟨[0, 1, 2, 3, 4, 5, 6, 7, 8, 9], [(10, 26, [2, 3, 6, 7])]⟩, ⟨[0, 1, 2, 3, 4, 5, 6, 7, 8, 9, 10], []⟩]), (31, [⟨[], [(0, 1, [2, 3, 6, 7, 10, 13, 95]), (2, 2, [2, 3, 6, 7, 10, 13, 97]), (8, 3, [2, 3, 6, 7, 10, 13, 15])]⟩, ⟨[0], [(1, 4, [3, 6, 7, 10, 13, 96]), (2, 5, [2, 3, 6, 7, 10, 13, 95, 97]), (8, 6, [2, 3, 6, 7, 10, 13, 15, 95])]⟩, ⟨[2], [(0, 5, [2, 3, 6, 7, 10, 13, 95, 97]), (8, 7, [2, 3, 6, 7, 10, 13, 15, 97])]⟩, ⟨[8], [(0, 6, [2, 3, 6, 7, 10, 13, 15, 95]), (2, 7, [2, 3, 6, 7, 10, 13, 15, 97])]⟩, ⟨[0, 1], [(2, 8, [3, 6, 7, 10, 13, 96, 97]), (8, 9, [3, 6, 7, 10, 13, 15, 96])]⟩, ⟨[0, 2], [(1, 8, [3, 6, 7, 10, 13, 96, 97]), (8, 10, [2, 3, 6, 7, 10, 13, 15, 95, 97])]⟩, ⟨[0, 8], [(1, 9, [3, 6, 7, 10, 13, 15, 96]), (2, 10, [2, 3, 6, 7, 10, 13, 15, 95, 97])]⟩, ⟨[2, 8], [(0, 10, [2, 3, 6, 7, 10, 13, 15, 95, 97])]⟩, ⟨[0, 1, 2], [(3, 11, [6, 7, 10, 13, 96, 98]), (8, 12, [3, 6, 7, 10, 13, 15, 96, 97])]⟩, ⟨[0, 1, 8], [(2, 12, [3, 6, 7, 10, 13, 15, 96, 97])]⟩, ⟨[0, 2, 8], [(1, 12, [3, 6, 7, 10, 13, 15, 96, 97])]⟩, ⟨[0, 1, 2, 3], [(4, 13, [6, 7, 10, 13, 99]), (8, 14, [6, 7, 10, 13, 15, 96, 98])]⟩, ⟨[0, 1, 2, 8], [(3, 14, [6, 7, 10, 13, 15, 96, 98])]⟩, ⟨[0, 1, 2, 3, 4], [(5, 15, [6, 7, 10, 13, 94, 99]), (8, 16, [6, 7, 10, 13, 15, 99])]⟩, ⟨[0, 1, 2, 3, 8], [(4, 16, [6, 7, 10, 13, 15, 99])]⟩, ⟨[0, 1, 2, 3, 4, 5], [(6, 17, [6, 7, 10, 13, 94, 99, 100]), (7, 18, [6, 7, 10, 13, 94, 99, 101]), (8, 19, [6, 7, 10, 13, 15, 94, 99])]⟩, ⟨[0, 1, 2, 3, 4, 8], [(5, 19, [6, 7, 10, 13, 15, 94, 99])]⟩, ⟨[0, 1, 2, 3, 4, 5, 6], [(7, 20, [6, 7, 10, 13, 100, 101]), (8, 21, [6, 7, 10, 13, 15, 94, 99, 100])]⟩, ⟨[0, 1, 2, 3, 4, 5, 7], [(6, 20, [6, 7, 10, 13, 100, 101]), (8, 22, [6, 7, 10, 13, 15, 94, 99, 101])]⟩, ⟨[0, 1, 2, 3, 4, 5, 8], [(6, 21, [6, 7, 10, 13, 15, 94, 99, 100]), (7, 22, [6, 7, 10, 13, 15, 94, 99, 101])]⟩, ⟨[0, 1, 2, 3, 4, 5, 6, 7], [(8, 23, [6, 7, 10, 13, 15, 100, 101])]⟩, ⟨[0, 1, 2, 3, 4, 5, 6, 8], [(7, 23, [6, 7, 10, 13, 15, 100, 101]), (9, 24, [6, 7, 10, 13, 15, 94, 99])]⟩, ⟨[0, 1, 2, 3, 4, 5, 7, 8], [(6, 23, [6, 7, 10, 13, 15, 100, 101])]⟩, ⟨[0, 1, 2, 3, 4, 5, 6, 7, 8], [(9, 25, [6, 7, 10, 13, 15, 101])]⟩, ⟨[0, 1, 2, 3, 4, 5, 6, 8, 9], [(7, 25, [6, 7, 10, 13, 15, 101])]⟩, ⟨[0, 1, 2, 3, 4, 5, 6, 7, 8, 9], [(10, 26, [6, 7, 10, 13, 15, 16])]⟩, ⟨[0, 1, 2, 3, 4, 5, 6, 7, 8, 9, 10], []⟩])] }
/-- loop.example/wharflog/laws.eqBookObject -/
def a16 : Ann := {}
/-- loop.example/wharflog/laws.szBookMirror -/
def a21 : Ann := {}
/-- loop.example/wharflog/laws.szBookNews -/
def a22 : Ann := {}
/-- loop.example/wharflog/spec.BookTake -/
def a23 : Ann := { heads := lookD [(2, [3, 4, 6, 8]), (0, [2, 3, 4, 6, 7])] [], ends := lookT [(2, [3, 4, 6]), (0, [2, 3, 4, 6])], draws := lookD [(7, [([3], [23]), ([3, 23], [24]), ([7], [25]), ([25], [26]), ([3, 24, 26], [27]), ([3, 27], [28]), ([3, 28], [29]), ([3], [30]), ([3, 30], [31]), ([7], [32]), ([3, 31, 32], [33]), ([3, 33], [34]), ([3, 34], [35]), ([29, 35], [36])])] [] }
/-- loop.example/wharflog/laws.toBookMirror -/
def a24 : Ann := {}
/-- loop.example/wharflog/laws.toBookNews -/
def a25 : Ann := {}
/-- loop.example/wharflog/impl.BookTake -/
def a26 : Ann := { heads := lookD [(2, [3, 4, 6, 48, 49, 50]), (0, [3, 4, 6, 24, 25, 26])] [], ends := lookT [(2, [3, 4, 6]), (0, [3, 4, 6])], draws := lookD [(9, [([7], [31]), ([31], [32]), ([32], [33]), ([8, 33], [34]), ([8, 33, 34], [35]), ([3, 33], [36]), ([3, 33, 36], [37]), ([7, 33], [38]), ([33, 38], [39]), ([3, 33, 37, 39], [40]), ([3, 33, 40], [41]), ([3, 33, 41], [42]), ([33, 35, 42], [43]), ([33, 43], [44])]), (17, [([6], [61]), ([6, 61], [62]), ([10], [63]), ([10, 63], [64]), ([10, 64], [65]), ([6, 62, 65], [6, 62, 66]), ([6], [67]), ([6, 66, 67], [6, 66, 67])]), (18, [([6], [68]), ([6, 68], [69]), ([10], [70]), ([10, 70], [71]), ([10, 71], [72]), ([6, 69, 72], [6, 69, 72, 73]), ([6], [74]), ([6, 73, 74], [6, 73, 74])])] [] }
/-- loop.example/wharflog/laws.eqBookMirror -/
def a27 : Ann := {}
/-- loop.example/wharflog/laws.eqBookNews -/
def a28 : Ann := {}
/-- loop.example/wharflog/laws.markBookMirror -/
def a29 : Ann := { modes := [.io, .shr], keep := [0], mir := [(0, 2)] }
/-- loop.example/wharflog/laws.markBookNews -/
def a30 : Ann := { modes := [.io, .shr], keep := [0], mir := [(0, 2)] }
/-- loop.example/wharflog/laws.heldBookMirror -/
def a31 : Ann := {}
/-- loop.example/wharflog/laws.eqBookObjectS -/
def a36 : Ann := { heads := lookD [(0, [0, 1, 5])] [], ends := lookT [(0, [])], draws := lookD [(6, [([0], [17]), ([5], [18]), ([0, 17, 18], [19]), ([0, 19], [20]), ([1], [21]), ([5], [22]), ([1, 21, 22], [23]), ([1, 23], [24]), ([0, 1, 20, 24], [25]), ([25], [26])])] [] }
/-- loop.example/wharflog/laws.markBookObjectS -/
def a37 : Ann := { modes := [.io, .shr], keep := [0], heads := lookD [(0, [0, 1, 5])] [], ends := lookT [(0, [0, 1])] }
/-- loop.example/wharflog/laws.heldBookObjectS -/
def a38 : Ann := { heads := lookD [(0, [0, 1, 5])] [], ends := lookT [(0, [1])], draws := lookD [(4, [([0], [12]), ([5], [13]), ([0, 12, 13], [14]), ([0, 14], [15]), ([0, 15], [16]), ([1], [17]), ([17], [18]), ([16, 18], [19])]), (7, [([0], [22]), ([5], [23]), ([0, 22, 23], [24]), ([0, 24], [25]), ([0, 25], [26]), ([1], [27]), ([27], [28]), ([26, 28], [29])]), (16, [([0], [50]), ([5], [51]), ([0, 50, 51], [52]), ([0, 52], [53]), ([0, 53], [54]), ([1], [55]), ([55], [56]), ([54, 56], [57])])] [] }
/-- loop.example/wharflog/laws.szBookObjectS -/
def a53 : Ann := { heads := lookD [(0, [0, 1, 5])] [], ends := lookT [(0, [1])] }
/-- loop.example/wharflog/laws.szBookChangeS -/
def a54 : Ann := { heads := lookD [(0, [0, 1, 5])] [], ends := lookT [(0, [1])] }
/-- loop.example/wharflog/spec.l1Object -/
def a56 : Ann := {}
/-- loop.example/wharflog/laws.toBookObjectS -/
def a57 : Ann := { heads := lookD [(0, [0, 3, 4])] [], ends := lookT [(0, [3])] }
/-- loop.example/wharflog/laws.toBookChangeS -/
def a58 : Ann := { heads := lookD [(0, [0, 3, 4])] [], ends := lookT [(0, [3])] }
/-- loop.example/wharflog/impl.copyObject -/
def a61 : Ann := {}
/-- loop.example/wharflog/laws.eqStringS -/
def a62 : Ann := { heads := lookD [(0, [0, 1, 5])] [], ends := lookT [(0, [])], draws := lookD [(6, [([0], [17]), ([5], [18]), ([0, 17, 18], [19]), ([0, 19], [20]), ([1], [21]), ([5], [22]), ([1, 21, 22], [23]), ([1, 23], [24]), ([20, 24], [25])])] [] }
/-- loop.example/wharflog/laws.eqBookChangeS -/
def a63 : Ann := { heads := lookD [(0, [0, 1, 5])] [], ends := lookT [(0, [])], draws := lookD [(6, [([0], [17]), ([5], [18]), ([0, 17, 18], [19]), ([0, 19], [20]), ([1], [21]), ([5], [22]), ([1, 21, 22], [23]), ([1, 23], [24]), ([0, 1, 20, 24], [25]), ([25], [26])])] [] }
/-- loop.example/wharflog/laws.markBookChangeS -/
def a65 : Ann := { modes := [.io, .shr], keep := [0], heads := lookD [(0, [0, 1, 5])] [], ends := lookT [(0, [0, 1])] }
/-- loop.example/wharflog/laws.markStringS -/
def a67 : Ann := { modes := [.io, .shr], keep := [0], heads := lookD [(0, [0, 1, 5])] [], ends := lookT [(0, [0, 1])] }
/-- loop.example/wharflog/laws.heldStringS -/
def a68 : Ann := { heads := lookD [(0, [0, 1, 5])] [], ends := lookT [(0, [1])], draws := lookD [(4, [([0], [12]), ([5], [13]), ([0, 12, 13], [14]), ([0, 14], [15]), ([1], [16]), ([16], [17]), ([15, 17], [18])])] [] }
/-- loop.example/wharflog/spec.l7Copy -/
def a69 : Ann := {}
/-- loop.example/wharflog/spec.l2Put -/
def a70 : Ann := { heads := lookD [(0, [0, 3, 5, 6, 7])] [], ends := lookT [(0, [3, 5, 6])], draws := lookD [(6, [([0], [18]), ([7], [19]), ([0, 18, 19], [20]), ([0, 20], [21]), ([3], [22]), ([3, 22], [23]), ([0, 3, 21, 23], [24]), ([24], [8])])] [] }
/-- loop.example/wharflog/impl.copyMirror -/
def a71 : Ann := {}
/-- loop.example/wharflog/impl.out -/
def a72 : Ann := { modes := [.mv, .shr] }
/-- loop.example/wharflog/impl.keyOf -/
def a73 : Ann := {}
/-- loop.example/wharflog/impl.put -/
def a74 : Ann := { modes := [.mv, .mv], heads := lookD [(0, [0, 3, 5, 6, 7, 19, 20, 21])] [], ends := lookT [(0, [0, 3, 6, 7])], draws := lookD [(11, [([9], [33]), ([9, 33], [34]), ([5], [35]), ([34, 35], [36])])] [] }
/-- (loop.example/wharflog/impl.key).compare -/
def a80 : Ann := {}
/-- loop.example/wharflog/laws.markText -/
def a85 : Ann := { heads := lookD [(0, [0, 3])] [], ends := lookT [(0, [3])] }
/-- loop.example/wharflog/spec.l1Objects -/
def a90 : Ann := { heads := lookD [(0, [0, 3, 4])] [], ends := lookT [(0, [3])] }
/-- loop.example/wharflog/laws.szBookObject -/
def a95 : Ann := {}
/-- loop.example/wharflog/laws.szBookChange -/
def a96 : Ann := {}
/-- loop.example/wharflog/laws.toBookObject -/
def a98 : Ann := {}
/-- loop.example/wharflog/laws.toBookChange -/
def a99 : Ann := {}
/-- slices.IndexFunc[[]loop.example/wharflog/impl.BookObject,loop.example/wharflog/impl.BookObject] -/
def a101 : Ann := { heads := lookD [(0, [0, 1, 7, 8])] [], ends := lookT [(0, [])] }
/-- loop.example/wharflog/laws.eqBookChange -/
def a103 : Ann := {}
/-- loop.example/wharflog/spec.l1Key -/
def a105 : Ann := {}
/-- loop.example/wharflog/impl.copyObjects -/
def a106 : Ann := { heads := lookD [(0, [0, 3, 6, 7, 8])] [], ends := lookT [(0, [3])] }
/-- slices.DeleteFunc[[]loop.example/wharflog/impl.BookObject,loop.example/wharflog/impl.BookObject] -/
def a107 : Ann := { modes := [.mv, .shr], heads := lookD [(0, [0, 1, 5, 6])] [], ends := lookT [(0, [0, 5])] }
/-- loop.example/wharflog/impl.out$1 -/
def a108 : Ann := { draws := lookD [(1, [([2], [4]), ([2, 4], [5]), ([1], [6]), ([5, 6], [7]), ([7], [3])])] [] }
/-- loop.example/wharflog/impl.put$1 -/
def a109 : Ann := { draws := lookD [(1, [([2], [4]), ([2, 4], [5]), ([1], [6]), ([5, 6], [7]), ([7], [8]), ([8], [3])])] [] }
/-- strings.Compare -/
def a114 : Ann := {}
/-- loop.example/wharflog/laws.szStringS -/
def a119 : Ann := { heads := lookD [(0, [0, 1, 5])] [], ends := lookT [(0, [1])] }
/-- loop.example/wharflog/laws.toStringS -/
def a120 : Ann := { heads := lookD [(0, [0, 3, 4])] [], ends := lookT [(0, [3])] }
/-- internal/bytealg.CompareString -/
def a122 : Ann := {}
def a124 : Ann := { ext := true }
def anns : List (Nat × Ann) := [(4, a4), (16, a16), (21, a21), (22, a22), (23, a23), (24, a24), (25, a25), (26, a26), (27, a27), (28, a28), (29, a29), (30, a30), (31, a31), (36, a36), (37, a37), (38, a38), (53, a53), (54, a54), (56, a56), (57, a57), (58, a58), (61, a61), (62, a62), (63, a63), (65, a65), (67, a67), (68, a68), (69, a69), (70, a70), (71, a71), (72, a72), (73, a73), (74, a74), (80, a80), (85, a85), (90, a90), (95, a95), (96, a96), (98, a98), (99, a99), (101, a101), (103, a103), (105, a105), (106, a106), (107, a107), (108, a108), (109, a109), (114, a114), (119, a119), (120, a120), (122, a122), (124, a124)]
def eqs : List Nat := [93]
def E : Env := ⟨lookT tbl, fun t => eqs.contains t, lookD anns {}, []⟩
set_option maxRecDepth 100000
theorem eT : E.T 2 = some ⟨.prim, 1, 8, [.p (.int .i64 0)]⟩ ∧
  E.T 3 = some ⟨.prim, 1, 8, [.p (.int .i64 0)]⟩ ∧
  E.T 4 = some ⟨.prim, 1, 1, [.p (.bool false)]⟩ ∧
  E.T 5 = some ⟨.prim, 1, 1, [.p (.int .u8 0)]⟩ ∧
  E.T 6 = some ⟨.prim, 1, 1, [.p (.int .u8 0)]⟩ ∧
  E.T 7 = some ⟨.strct [(0, 1, false), (1, 1, false), (2, 1, false), (3, 1, false)], 4, 24, [.p (.int .i64 0), .p (.int .i64 0), .p (.bool false), .p (.int .u8 0)]⟩ ∧
  E.T 8 = some ⟨.strct [(0, 1, false), (1, 1, false), (2, 1, false), (3, 1, false)], 4, 24, [.p (.int .i64 0), .p (.int .i64 0), .p (.bool false), .p (.int .u8 0)]⟩ ∧
  E.T 9 = some ⟨.prim, 1, 16, [.p (.string ⟨#[]⟩)]⟩ ∧
  E.T 10 = some ⟨.prim, 1, 16, [.p (.string ⟨#[]⟩)]⟩ ∧
  E.T 11 = some ⟨.prim, 1, 16, [.p (.string ⟨#[]⟩)]⟩ ∧
  E.T 12 = some ⟨.prim, 1, 8, [.p (.int .u64 0)]⟩ ∧
  E.T 13 = some ⟨.strct [(0, 1, false), (1, 1, false)], 2, 24, [.p (.string ⟨#[]⟩), .p (.int .u64 0)]⟩ ∧
  E.T 14 = some ⟨.strct [(0, 1, false), (1, 1, false)], 2, 24, [.p (.string ⟨#[]⟩), .p (.int .u64 0)]⟩ ∧
  E.T 15 = some ⟨.ptr 150, 1, 8, [.p (.pointer none)]⟩ ∧
  E.T 16 = some ⟨.ptr 153, 1, 8, [.p (.pointer none)]⟩ ∧
  E.T 17 = some ⟨.ptr 163, 1, 8, [.p (.pointer none)]⟩ ∧
  E.T 18 = some ⟨.strct [(0, 1, false)], 1, 8, [.p (.pointer none)]⟩ ∧
  E.T 19 = some ⟨.strct [(0, 1, false)], 1, 8, [.p (.pointer none)]⟩ ∧
  E.T 21 = some ⟨.prim, 1, 4, [.p (.int .i32 0)]⟩ ∧
  E.T 22 = some ⟨.slc 127, 1, 24, [.sl .own 7 []]⟩ ∧
  E.T 23 = some ⟨.slc 130, 1, 24, [.sl .own 9 []]⟩ ∧
  E.T 24 = some ⟨.slc 132, 1, 24, [.sl .own 5 []]⟩ ∧
  E.T 25 = some ⟨.strct [(0, 1, false), (1, 1, false), (2, 1, false), (3, 1, false), (4, 1, false)], 5, 88, [.p (.int .i64 0), .p (.int .i64 0), .sl .own 7 [], .sl .own 9 [], .sl .own 5 []]⟩ ∧
  E.T 26 = some ⟨.strct [(0, 1, false), (1, 1, false), (2, 1, false), (3, 1, false), (4, 1, false)], 5, 88, [.p (.int .i64 0), .p (.int .i64 0), .sl .own 7 [], .sl .own 9 [], .sl .own 5 []]⟩ ∧
  E.T 28 = some ⟨.slc 9, 1, 24, [.sl .own 1 []]⟩ ∧
  E.T 29 = some ⟨.strct [(0, 1, false), (1, 1, false), (2, 1, false), (3, 1, false), (4, 1, false), (5, 1, false), (6, 1, false)], 7, 96, [.p (.string ⟨#[]⟩), .p (.string ⟨#[]⟩), .p (.int .i64 0), .p (.int .i64 0), .p (.string ⟨#[]⟩), .p (.bool false), .sl .own 1 []]⟩ ∧
  E.T 30 = some ⟨.strct [(0, 1, false), (1, 1, false), (2, 1, false), (3, 1, false), (4, 1, false), (5, 1, false), (6, 1, false)], 7, 96, [.p (.string ⟨#[]⟩), .p (.string ⟨#[]⟩), .p (.int .i64 0), .p (.int .i64 0), .p (.string ⟨#[]⟩), .p (.bool false), .sl .own 1 []]⟩ ∧
  E.T 33 = some ⟨.slc 30, 1, 24, [.sl .own 7 []]⟩ ∧
  E.T 34 = some ⟨.slc 102, 1, 24, [.sl .own 9 []]⟩ ∧
  E.T 35 = some ⟨.slc 115, 1, 24, [.sl .own 5 []]⟩ ∧
  E.T 36 = some ⟨.strct [(0, 1, false), (1, 1, false), (2, 1, false), (3, 1, false), (4, 1, false)], 5, 88, [.p (.int .i64 0), .p (.int .i64 0), .sl .own 7 [], .sl .own 9 [], .sl .own 5 []]⟩ ∧
  E.T 37 = some ⟨.strct [(0, 1, false), (1, 1, false), (2, 1, false), (3, 1, false), (4, 1, false)], 5, 88, [.p (.int .i64 0), .p (.int .i64 0), .sl .own 7 [], .sl .own 9 [], .sl .own 5 []]⟩ ∧
  E.T 44 = some ⟨.strct [(0, 1, false), (1, 1, false), (2, 1, false), (3, 1, false), (4, 1, false)], 5, 72, [.p (.string ⟨#[]⟩), .p (.string ⟨#[]⟩), .p (.int .i64 0), .sl .own 7 [], .p (.int .i64 0)]⟩ ∧
  E.T 45 = some ⟨.strct [(0, 1, false), (1, 1, false), (2, 1, false), (3, 1, false), (4, 1, false)], 5, 72, [.p (.string ⟨#[]⟩), .p (.string ⟨#[]⟩), .p (.int .i64 0), .sl .own 7 [], .p (.int .i64 0)]⟩ ∧
  E.T 46 = some ⟨.strct [(0, 1, false), (1, 1, false), (2, 1, false)], 3, 40, [.p (.int .i64 0), .sl .own 9 [], .p (.int .i64 0)]⟩ ∧
  E.T 47 = some ⟨.strct [(0, 1, false), (1, 1, false), (2, 1, false)], 3, 40, [.p (.int .i64 0), .sl .own 9 [], .p (.int .i64 0)]⟩ ∧
  E.T 50 = some ⟨.strct [(0, 1, false), (1, 1, false), (2, 1, false), (3, 1, false), (4, 1, false)], 5, 72, [.p (.string ⟨#[]⟩), .p (.string ⟨#[]⟩), .p (.int .i64 0), .sl .own 7 [], .p (.int .i64 0)]⟩ ∧
  E.T 51 = some ⟨.strct [(0, 1, false), (1, 1, false), (2, 1, false), (3, 1, false), (4, 1, false)], 5, 72, [.p (.string ⟨#[]⟩), .p (.string ⟨#[]⟩), .p (.int .i64 0), .sl .own 7 [], .p (.int .i64 0)]⟩ ∧
  E.T 55 = some ⟨.strct [(0, 1, false), (1, 1, false), (2, 1, false)], 3, 40, [.p (.int .i64 0), .sl .own 9 [], .p (.int .i64 0)]⟩ ∧
  E.T 56 = some ⟨.strct [(0, 1, false), (1, 1, false), (2, 1, false)], 3, 40, [.p (.int .i64 0), .sl .own 9 [], .p (.int .i64 0)]⟩ ∧
  E.T 69 = some ⟨.strct [(0, 1, false), (1, 1, false), (2, 1, false)], 3, 40, [.p (.string ⟨#[]⟩), .p (.string ⟨#[]⟩), .p (.int .i64 0)]⟩ ∧
  E.T 70 = some ⟨.strct [(0, 1, false), (1, 1, false), (2, 1, false)], 3, 40, [.p (.string ⟨#[]⟩), .p (.string ⟨#[]⟩), .p (.int .i64 0)]⟩ ∧
  E.T 73 = some ⟨.strct [(0, 1, false), (1, 1, false), (2, 1, false)], 3, 40, [.p (.string ⟨#[]⟩), .p (.string ⟨#[]⟩), .p (.int .i64 0)]⟩ ∧
  E.T 92 = some ⟨.strct [(0, 1, false), (1, 1, false)], 2, 32, [.p (.string ⟨#[]⟩), .p (.string ⟨#[]⟩)]⟩ ∧
  E.T 93 = some ⟨.strct [(0, 1, false), (1, 1, false)], 2, 32, [.p (.string ⟨#[]⟩), .p (.string ⟨#[]⟩)]⟩ ∧
  E.T 101 = some ⟨.strct [(0, 1, false), (1, 1, false), (2, 7, true)], 9, 112, [.p (.int .i64 0), .p (.bool false), .p (.string ⟨#[]⟩), .p (.string ⟨#[]⟩), .p (.int .i64 0), .p (.int .i64 0), .p (.string ⟨#[]⟩), .p (.bool false), .sl .own 1 []]⟩ ∧
  E.T 102 = some ⟨.strct [(0, 1, false), (1, 1, false), (2, 7, true)], 9, 112, [.p (.int .i64 0), .p (.bool false), .p (.string ⟨#[]⟩), .p (.string ⟨#[]⟩), .p (.int .i64 0), .p (.int .i64 0), .p (.string ⟨#[]⟩), .p (.bool false), .sl .own 1 []]⟩ ∧
  E.T 108 = some ⟨.mp 3 4, 1, 8, [.p (.map none)]⟩ ∧
  E.T 109 = some ⟨.mp 93 30, 1, 8, [.p (.map none)]⟩ ∧
  E.T 112 = some ⟨.mp 93 102, 1, 8, [.p (.map none)]⟩ ∧
  E.T 114 = some ⟨.strct [(0, 1, false), (1, 1, false), (2, 1, false), (3, 1, false), (4, 1, false)], 5, 56, [.p (.string ⟨#[]⟩), .p (.int .i64 0), .p (.string ⟨#[]⟩), .p (.int .i64 0), .p (.int .i64 0)]⟩ ∧
  E.T 115 = some ⟨.strct [(0, 1, false), (1, 1, false), (2, 1, false), (3, 1, false), (4, 1, false)], 5, 56, [.p (.string ⟨#[]⟩), .p (.int .i64 0), .p (.string ⟨#[]⟩), .p (.int .i64 0), .p (.int .i64 0)]⟩ ∧
  E.T 123 = some ⟨.mp 93 4, 1, 8, [.p (.map none)]⟩ ∧
  E.T 127 = some ⟨.strct [(0, 1, false), (1, 1, false), (2, 1, false), (3, 1, false), (4, 1, false), (5, 1, false), (6, 1, false)], 7, 96, [.p (.string ⟨#[]⟩), .p (.string ⟨#[]⟩), .p (.int .i64 0), .p (.int .i64 0), .p (.string ⟨#[]⟩), .p (.bool false), .sl .own 1 []]⟩ ∧
  E.T 129 = some ⟨.strct [(0, 1, false), (1, 1, false), (2, 7, true)], 9, 112, [.p (.int .i64 0), .p (.bool false), .p (.string ⟨#[]⟩), .p (.string ⟨#[]⟩), .p (.int .i64 0), .p (.int .i64 0), .p (.string ⟨#[]⟩), .p (.bool false), .sl .own 1 []]⟩ ∧
  E.T 130 = some ⟨.strct [(0, 1, false), (1, 1, false), (2, 7, true)], 9, 112, [.p (.int .i64 0), .p (.bool false), .p (.string ⟨#[]⟩), .p (.string ⟨#[]⟩), .p (.int .i64 0), .p (.int .i64 0), .p (.string ⟨#[]⟩), .p (.bool false), .sl .own 1 []]⟩ ∧
  E.T 132 = some ⟨.strct [(0, 1, false), (1, 1, false), (2, 1, false), (3, 1, false), (4, 1, false)], 5, 56, [.p (.string ⟨#[]⟩), .p (.int .i64 0), .p (.string ⟨#[]⟩), .p (.int .i64 0), .p (.int .i64 0)]⟩ ∧
  E.T 146 = some ⟨.slc 5, 1, 24, [.sl .own 1 []]⟩ ∧
  E.T 149 = some ⟨.strct [(0, 1, false), (1, 1, false), (2, 1, false), (3, 1, false)], 4, 40, [.p (.pointer none), .p (.pointer none), .p (.pointer none), .p (.string ⟨#[]⟩)]⟩ ∧
  E.T 150 = some ⟨.strct [(0, 1, false), (1, 1, false), (2, 1, false), (3, 1, false)], 4, 40, [.p (.pointer none), .p (.pointer none), .p (.pointer none), .p (.string ⟨#[]⟩)]⟩ ∧
  E.T 155 = some ⟨.prim, 1, 4, [.p (.int .u32 0)]⟩ ∧
  E.T 156 = some ⟨.prim, 1, 1, [.p (.int .u8 0)]⟩ ∧
  E.T 157 = some ⟨.prim, 1, 1, [.p (.int .u8 0)]⟩ ∧
  E.T 159 = some ⟨.ptr 5, 1, 8, [.p (.pointer none)]⟩ ∧
  E.T 160 = some ⟨.prim, 1, 4, [.p (.int .i32 0)]⟩ ∧
  E.T 161 = some ⟨.prim, 1, 4, [.p (.int .i32 0)]⟩ := by
  refine ⟨?_, ?_, ?_, ?_, ?_, ?_, ?_, ?_, ?_, ?_, ?_, ?_, ?_, ?_, ?_, ?_, ?_, ?_, ?_, ?_, ?_, ?_, ?_, ?_, ?_, ?_, ?_, ?_, ?_, ?_, ?_, ?_, ?_, ?_, ?_, ?_, ?_, ?_, ?_, ?_, ?_, ?_, ?_, ?_, ?_, ?_, ?_, ?_, ?_, ?_, ?_, ?_, ?_, ?_, ?_, ?_, ?_, ?_, ?_, ?_, ?_, ?_, ?_, ?_, ?_, ?_⟩ <;> rfl
theorem eQ : E.eqT 93 = true := by
  rfl
theorem e124 : (E.ann 124).ext = true := rfl
theorem e4 : (E.ann 4).ext = false ∧ (E.ann 4).modes = [] ∧ (E.ann 4).keep = [] ∧ (E.ann 4).mir = [] ∧ (E.ann 4).draws 8 = [] ∧ (E.ann 4).draws 14 = [([8], [54]), ([2], [55]), ([2, 55], [56]), ([8, 54, 56], [57]), ([57], [58])] ∧ (E.ann 4).draws 16 = [([9], [59]), ([3], [60]), ([3, 60], [61]), ([9, 59, 61], [62]), ([62], [63])] ∧ (E.ann 4).draws 31 = [] ∧ (E.ann 4).free 8 = some [⟨[], [(0, 1, [2, 3, 28]), (2, 2, [2, 3, 30]), (8, 3, [2, 3, 6])]⟩, ⟨[0], [(1, 4, [2, 3, 29]), (2, 5, [2, 3, 28, 30]), (8, 6, [2, 3, 6, 28])]⟩, ⟨[2], [(0, 5, [2, 3, 28, 30]), (8, 7, [2, 3, 6, 30])]⟩, ⟨[8], [(0, 6, [2, 3, 6, 28]), (2, 7, [2, 3, 6, 30])]⟩, ⟨[0, 1], [(2, 8, [2, 3, 29, 30]), (8, 9, [2, 3, 6, 29])]⟩, ⟨[0, 2], [(1, 8, [2, 3, 29, 30]), (8, 10, [2, 3, 6, 28, 30])]⟩, ⟨[0, 8], [(1, 9, [2, 3, 6, 29]), (2, 10, [2, 3, 6, 28, 30])]⟩, ⟨[2, 8], [(0, 10, [2, 3, 6, 28, 30])]⟩, ⟨[0, 1, 2], [(3, 11, [2, 3, 29, 31]), (8, 12, [2, 3, 6, 29, 30])]⟩, ⟨[0, 1, 8], [(2, 12, [2, 3, 6, 29, 30])]⟩, ⟨[0, 2, 8], [(1, 12, [2, 3, 6, 29, 30])]⟩, ⟨[0, 1, 2, 3], [(4, 13, [2, 3, 32]), (8, 14, [2, 3, 6, 29, 31])]⟩, ⟨[0, 1, 2, 8], [(3, 14, [2, 3, 6, 29, 31])]⟩, ⟨[0, 1, 2, 3, 4], [(5, 15, [2, 3, 27, 32]), (8, 16, [2, 3, 6, 32])]⟩, ⟨[0, 1, 2, 3, 8], [(4, 16, [2, 3, 6, 32])]⟩, ⟨[0, 1, 2, 3, 4, 5], [(6, 17, [2, 3, 27, 32, 33]), (7, 18, [2, 3, 27, 32, 34]), (8, 19, [2, 3, 6, 27, 32])]⟩, ⟨[0, 1, 2, 3, 4, 8], [(5, 19, [2, 3, 6, 27, 32])]⟩, ⟨[0, 1, 2, 3, 4, 5, 6], [(7, 20, [2, 3, 33, 34]), (8, 21, [2, 3, 6, 27, 32, 33])]⟩, ⟨[0, 1, 2, 3, 4, 5, 7], [(6, 20, [2, 3, 33, 34]), (8, 22, [2, 3, 6, 27, 32, 34])]⟩, ⟨[0, 1, 2, 3, 4, 5, 8], [(6, 21, [2, 3, 6, 27, 32, 33]), (7, 22, [2, 3, 6, 27, 32, 34])]⟩, ⟨[0, 1, 2, 3, 4, 5, 6, 7], [(8, 23, [2, 3, 6, 33, 34])]⟩, ⟨[0, 1, 2, 3, 4, 5, 6, 8], [(7, 23, [2, 3, 6, 33, 34]), (9, 24, [2, 3, 6, 27, 32])]⟩, ⟨[0, 1, 2, 3, 4, 5, 7, 8], [(6, 23, [2, 3, 6, 33, 34])]⟩, ⟨[0, 1, 2, 3, 4, 5, 6, 7, 8], [(9, 25, [2, 3, 6, 34])]⟩, ⟨[0, 1, 2, 3, 4, 5, 6, 8, 9], [(7, 25, [2, 3, 6, 34])]⟩, ⟨[0, 1, 2, 3, 4, 5, 6, 7, 8, 9], [(10, 26, [2, 3, 6, 7])]⟩, ⟨[0, 1, 2, 3, 4, 5, 6, 7, 8, 9, 10], []⟩] ∧ (E.ann 4).free 14 = none ∧ (E.ann 4).free 16 = none ∧ (E.ann 4).free 31 = some [⟨[], [(0, 1, [2, 3, 6, 7, 10, 13, 95]), (2, 2, [2, 3, 6, 7, 10, 13, 97]), (8, 3, [2, 3, 6, 7, 10, 13, 15])]⟩, ⟨[0], [(1, 4, [3, 6, 7, 10, 13, 96]), (2, 5, [2, 3, 6, 7, 10, 13, 95, 97]), (8, 6, [2, 3, 6, 7, 10, 13, 15, 95])]⟩, ⟨[2], [(0, 5, [2, 3, 6, 7, 10, 13, 95, 97]), (8, 7, [2, 3, 6, 7, 10, 13, 15, 97])]⟩, ⟨[8], [(0, 6, [2, 3, 6, 7, 10, 13, 15, 95]), (2, 7, [2, 3, 6, 7, 10, 13, 15, 97])]⟩, ⟨[0, 1], [(2, 8, [3, 6, 7, 10, 13, 96, 97]), (8, 9, [3, 6, 7, 10, 13, 15, 96])]⟩, ⟨[0, 2], [(1, 8, [3, 6, 7, 10, 13, 96, 97]), (8, 10, [2, 3, 6, 7, 10, 13, 15, 95, 97])]⟩, ⟨[0, 8], [(1, 9, [3, 6, 7, 10, 13, 15, 96]), (2, 10, [2, 3, 6, 7, 10, 13, 15, 95, 97])]⟩, ⟨[2, 8], [(0, 10, [2, 3, 6, 7, 10, 13, 15, 95, 97])]⟩, ⟨[0, 1, 2], [(3, 11, [6, 7, 10, 13, 96, 98]), (8, 12, [3, 6, 7, 10, 13, 15, 96, 97])]⟩, ⟨[0, 1, 8], [(2, 12, [3, 6, 7, 10, 13, 15, 96, 97])]⟩, ⟨[0, 2, 8], [(1, 12, [3, 6, 7, 10, 13, 15, 96, 97])]⟩, ⟨[0, 1, 2, 3], [(4, 13, [6, 7, 10, 13, 99]), (8, 14, [6, 7, 10, 13, 15, 96, 98])]⟩, ⟨[0, 1, 2, 8], [(3, 14, [6, 7, 10, 13, 15, 96, 98])]⟩, ⟨[0, 1, 2, 3, 4], [(5, 15, [6, 7, 10, 13, 94, 99]), (8, 16, [6, 7, 10, 13, 15, 99])]⟩, ⟨[0, 1, 2, 3, 8], [(4, 16, [6, 7, 10, 13, 15, 99])]⟩, ⟨[0, 1, 2, 3, 4, 5], [(6, 17, [6, 7, 10, 13, 94, 99, 100]), (7, 18, [6, 7, 10, 13, 94, 99, 101]), (8, 19, [6, 7, 10, 13, 15, 94, 99])]⟩, ⟨[0, 1, 2, 3, 4, 8], [(5, 19, [6, 7, 10, 13, 15, 94, 99])]⟩, ⟨[0, 1, 2, 3, 4, 5, 6], [(7, 20, [6, 7, 10, 13, 100, 101]), (8, 21, [6, 7, 10, 13, 15, 94, 99, 100])]⟩, ⟨[0, 1, 2, 3, 4, 5, 7], [(6, 20, [6, 7, 10, 13, 100, 101]), (8, 22, [6, 7, 10, 13, 15, 94, 99, 101])]⟩, ⟨[0, 1, 2, 3, 4, 5, 8], [(6, 21, [6, 7, 10, 13, 15, 94, 99, 100]), (7, 22, [6, 7, 10, 13, 15, 94, 99, 101])]⟩, ⟨[0, 1, 2, 3, 4, 5, 6, 7], [(8, 23, [6, 7, 10, 13, 15, 100, 101])]⟩, ⟨[0, 1, 2, 3, 4, 5, 6, 8], [(7, 23, [6, 7, 10, 13, 15, 100, 101]), (9, 24, [6, 7, 10, 13, 15, 94, 99])]⟩, ⟨[0, 1, 2, 3, 4, 5, 7, 8], [(6, 23, [6, 7, 10, 13, 15, 100, 101])]⟩, ⟨[0, 1, 2, 3, 4, 5, 6, 7, 8], [(9, 25, [6, 7, 10, 13, 15, 101])]⟩, ⟨[0, 1, 2, 3, 4, 5, 6, 8, 9], [(7, 25, [6, 7, 10, 13, 15, 101])]⟩, ⟨[0, 1, 2, 3, 4, 5, 6, 7, 8, 9], [(10, 26, [6, 7, 10, 13, 15, 16])]⟩, ⟨[0, 1, 2, 3, 4, 5, 6, 7, 8, 9, 10], []⟩] := by
  refine ⟨?_, ?_, ?_, ?_, ?_, ?_, ?_, ?_, ?_, ?_, ?_, ?_⟩ <;> rfl
theorem e16 : (E.ann 16).ext = false ∧ (E.ann 16).modes = [] ∧ (E.ann 16).keep = [] ∧ (E.ann 16).mir = [] := by
  refine ⟨?_, ?_, ?_, ?_⟩ <;> rfl
theorem e21 : (E.ann 21).ext = false ∧ (E.ann 21).modes = [] ∧ (E.ann 21).keep = [] ∧ (E.ann 21).mir = [] := by
  refine ⟨?_, ?_, ?_, ?_⟩ <;> rfl
theorem e22 : (E.ann 22).ext = false ∧ (E.ann 22).modes = [] ∧ (E.ann 22).keep = [] ∧ (E.ann 22).mir = [] := by
  refine ⟨?_, ?_, ?_, ?_⟩ <;> rfl
theorem e23 : (E.ann 23).ext = false ∧ (E.ann 23).modes = [] ∧ (E.ann 23).keep = [] ∧ (E.ann 23).mir = [] ∧ (E.ann 23).heads 2 = [3, 4, 6, 8] ∧ (E.ann 23).heads 0 = [2, 3, 4, 6, 7] ∧ (E.ann 23).rng 0 = none ∧ (E.ann 23).ends 0 = some [2, 3, 4, 6] ∧ (E.ann 23).ends 1 = none ∧ (E.ann 23).rng 2 = none ∧ (E.ann 23).ends 2 = some [3, 4, 6] ∧ (E.ann 23).ends 3 = none ∧ (E.ann 23).draws 7 = [([3], [23]), ([3, 23], [24]), ([7], [25]), ([25], [26]), ([3, 24, 26], [27]), ([3, 27], [28]), ([3, 28], [29]), ([3], [30]), ([3, 30], [31]), ([7], [32]), ([3, 31, 32], [33]), ([3, 33], [34]), ([3, 34], [35]), ([29, 35], [36])] ∧ (E.ann 23).free 7 = none := by
  refine ⟨?_, ?_, ?_, ?_, ?_, ?_, ?_, ?_, ?_, ?_, ?_, ?_, ?_, ?_⟩ <;> rfl
theorem e24 : (E.ann 24).ext = false ∧ (E.ann 24).modes = [] ∧ (E.ann 24).keep = [] ∧ (E.ann 24).mir = [] := by
  refine ⟨?_, ?_, ?_, ?_⟩ <;> rfl
theorem e25 : (E.ann 25).ext = false ∧ (E.ann 25).modes = [] ∧ (E.ann 25).keep = [] ∧ (E.ann 25).mir = [] := by
  refine ⟨?_, ?_, ?_, ?_⟩ <;> rfl
theorem e26 : (E.ann 26).ext = false ∧ (E.ann 26).modes = [] ∧ (E.ann 26).keep = [] ∧ (E.ann 26).mir = [] ∧ (E.ann 26).heads 2 = [3, 4, 6, 48, 49, 50] ∧ (E.ann 26).heads 0 = [3, 4, 6, 24, 25, 26] ∧ (E.ann 26).rng 0 = none ∧ (E.ann 26).ends 0 = some [3, 4, 6] ∧ (E.ann 26).ends 1 = none ∧ (E.ann 26).rng 2 = none ∧ (E.ann 26).ends 2 = some [3, 4, 6] ∧ (E.ann 26).ends 3 = none ∧ (E.ann 26).draws 9 = [([7], [31]), ([31], [32]), ([32], [33]), ([8, 33], [34]), ([8, 33, 34], [35]), ([3, 33], [36]), ([3, 33, 36], [37]), ([7, 33], [38]), ([33, 38], [39]), ([3, 33, 37, 39], [40]), ([3, 33, 40], [41]), ([3, 33, 41], [42]), ([33, 35, 42], [43]), ([33, 43], [44])] ∧ (E.ann 26).draws 17 = [([6], [61]), ([6, 61], [62]), ([10], [63]), ([10, 63], [64]), ([10, 64], [65]), ([6, 62, 65], [6, 62, 66]), ([6], [67]), ([6, 66, 67], [6, 66, 67])] ∧ (E.ann 26).draws 18 = [([6], [68]), ([6, 68], [69]), ([10], [70]), ([10, 70], [71]), ([10, 71], [72]), ([6, 69, 72], [6, 69, 72, 73]), ([6], [74]), ([6, 73, 74], [6, 73, 74])] ∧ (E.ann 26).free 9 = none ∧ (E.ann 26).free 17 = none ∧ (E.ann 26).free 18 = none := by
  refine ⟨?_, ?_, ?_, ?_, ?_, ?_, ?_, ?_, ?_, ?_, ?_, ?_, ?_, ?_, ?_, ?_, ?_, ?_⟩ <;> rfl
theorem e27 : (E.ann 27).ext = false ∧ (E.ann 27).modes = [] ∧ (E.ann 27).keep = [] ∧ (E.ann 27).mir = [] := by
  refine ⟨?_, ?_, ?_, ?_⟩ <;> rfl
theorem e28 : (E.ann 28).ext = false ∧ (E.ann 28).modes = [] ∧ (E.ann 28).keep = [] ∧ (E.ann 28).mir = [] := by
  refine ⟨?_, ?_, ?_, ?_⟩ <;> rfl
theorem e29 : (E.ann 29).ext = false ∧ (E.ann 29).modes = [.io, .shr] ∧ (E.ann 29).keep = [0] ∧ (E.ann 29).mir = [(0, 2)] := by
  refine ⟨?_, ?_, ?_, ?_⟩ <;> rfl
theorem e30 : (E.ann 30).ext = false ∧ (E.ann 30).modes = [.io, .shr] ∧ (E.ann 30).keep = [0] ∧ (E.ann 30).mir = [(0, 2)] := by
  refine ⟨?_, ?_, ?_, ?_⟩ <;> rfl
theorem e31 : (E.ann 31).ext = false ∧ (E.ann 31).modes = [] ∧ (E.ann 31).keep = [] ∧ (E.ann 31).mir = [] := by
  refine ⟨?_, ?_, ?_, ?_⟩ <;> rfl
theorem e36 : (E.ann 36).ext = false ∧ (E.ann 36).modes = [] ∧ (E.ann 36).keep = [] ∧ (E.ann 36).mir = [] ∧ (E.ann 36).heads 0 = [0, 1, 5] ∧ (E.ann 36).rng 0 = none ∧ (E.ann 36).ends 0 = some [] ∧ (E.ann 36).ends 1 = none ∧ (E.ann 36).draws 6 = [([0], [17]), ([5], [18]), ([0, 17, 18], [19]), ([0, 19], [20]), ([1], [21]), ([5], [22]), ([1, 21, 22], [23]), ([1, 23], [24]), ([0, 1, 20, 24], [25]), ([25], [26])] ∧ (E.ann 36).free 6 = none := by
  refine ⟨?_, ?_, ?_, ?_, ?_, ?_, ?_, ?_, ?_, ?_⟩ <;> rfl
theorem e37 : (E.ann 37).ext = false ∧ (E.ann 37).modes = [.io, .shr] ∧ (E.ann 37).keep = [0] ∧ (E.ann 37).mir = [] ∧ (E.ann 37).heads 0 = [0, 1, 5] ∧ (E.ann 37).rng 0 = none ∧ (E.ann 37).ends 0 = some [0, 1] ∧ (E.ann 37).ends 1 = none := by
  refine ⟨?_, ?_, ?_, ?_, ?_, ?_, ?_, ?_⟩ <;> rfl
theorem e38 : (E.ann 38).ext = false ∧ (E.ann 38).modes = [] ∧ (E.ann 38).keep = [] ∧ (E.ann 38).mir = [] ∧ (E.ann 38).heads 0 = [0, 1, 5] ∧ (E.ann 38).rng 0 = none ∧ (E.ann 38).ends 0 = some [1] ∧ (E.ann 38).ends 1 = none ∧ (E.ann 38).draws 4 = [([0], [12]), ([5], [13]), ([0, 12, 13], [14]), ([0, 14], [15]), ([0, 15], [16]), ([1], [17]), ([17], [18]), ([16, 18], [19])] ∧ (E.ann 38).draws 7 = [([0], [22]), ([5], [23]), ([0, 22, 23], [24]), ([0, 24], [25]), ([0, 25], [26]), ([1], [27]), ([27], [28]), ([26, 28], [29])] ∧ (E.ann 38).draws 16 = [([0], [50]), ([5], [51]), ([0, 50, 51], [52]), ([0, 52], [53]), ([0, 53], [54]), ([1], [55]), ([55], [56]), ([54, 56], [57])] ∧ (E.ann 38).free 4 = none ∧ (E.ann 38).free 7 = none ∧ (E.ann 38).free 16 = none := by
  refine ⟨?_, ?_, ?_, ?_, ?_, ?_, ?_, ?_, ?_, ?_, ?_, ?_, ?_, ?_⟩ <;> rfl
theorem e53 : (E.ann 53).ext = false ∧ (E.ann 53).modes = [] ∧ (E.ann 53).keep = [] ∧ (E.ann 53).mir = [] ∧ (E.ann 53).heads 0 = [0, 1, 5] ∧ (E.ann 53).rng 0 = none ∧ (E.ann 53).ends 0 = some [1] ∧ (E.ann 53).ends 1 = none := by
  refine ⟨?_, ?_, ?_, ?_, ?_, ?_, ?_, ?_⟩ <;> rfl
theorem e54 : (E.ann 54).ext = false ∧ (E.ann 54).modes = [] ∧ (E.ann 54).keep = [] ∧ (E.ann 54).mir = [] ∧ (E.ann 54).heads 0 = [0, 1, 5] ∧ (E.ann 54).rng 0 = none ∧ (E.ann 54).ends 0 = some [1] ∧ (E.ann 54).ends 1 = none := by
  refine ⟨?_, ?_, ?_, ?_, ?_, ?_, ?_, ?_⟩ <;> rfl
theorem e56 : (E.ann 56).ext = false ∧ (E.ann 56).modes = [] ∧ (E.ann 56).keep = [] ∧ (E.ann 56).mir = [] := by
  refine ⟨?_, ?_, ?_, ?_⟩ <;> rfl
theorem e57 : (E.ann 57).ext = false ∧ (E.ann 57).modes = [] ∧ (E.ann 57).keep = [] ∧ (E.ann 57).mir = [] ∧ (E.ann 57).heads 0 = [0, 3, 4] ∧ (E.ann 57).rng 0 = none ∧ (E.ann 57).ends 0 = some [3] ∧ (E.ann 57).ends 1 = none := by
  refine ⟨?_, ?_, ?_, ?_, ?_, ?_, ?_, ?_⟩ <;> rfl
theorem e58 : (E.ann 58).ext = false ∧ (E.ann 58).modes = [] ∧ (E.ann 58).keep = [] ∧ (E.ann 58).mir = [] ∧ (E.ann 58).heads 0 = [0, 3, 4] ∧ (E.ann 58).rng 0 = none ∧ (E.ann 58).ends 0 = some [3] ∧ (E.ann 58).ends 1 = none := by
  refine ⟨?_, ?_, ?_, ?_, ?_, ?_, ?_, ?_⟩ <;> rfl
theorem e61 : (E.ann 61).ext = false ∧ (E.ann 61).modes = [] ∧ (E.ann 61).keep = [] ∧ (E.ann 61).mir = [] := by
  refine ⟨?_, ?_, ?_, ?_⟩ <;> rfl
theorem e62 : (E.ann 62).ext = false ∧ (E.ann 62).modes = [] ∧ (E.ann 62).keep = [] ∧ (E.ann 62).mir = [] ∧ (E.ann 62).heads 0 = [0, 1, 5] ∧ (E.ann 62).rng 0 = none ∧ (E.ann 62).ends 0 = some [] ∧ (E.ann 62).ends 1 = none ∧ (E.ann 62).draws 6 = [([0], [17]), ([5], [18]), ([0, 17, 18], [19]), ([0, 19], [20]), ([1], [21]), ([5], [22]), ([1, 21, 22], [23]), ([1, 23], [24]), ([20, 24], [25])] ∧ (E.ann 62).free 6 = none := by
  refine ⟨?_, ?_, ?_, ?_, ?_, ?_, ?_, ?_, ?_, ?_⟩ <;> rfl
theorem e63 : (E.ann 63).ext = false ∧ (E.ann 63).modes = [] ∧ (E.ann 63).keep = [] ∧ (E.ann 63).mir = [] ∧ (E.ann 63).heads 0 = [0, 1, 5] ∧ (E.ann 63).rng 0 = none ∧ (E.ann 63).ends 0 = some [] ∧ (E.ann 63).ends 1 = none ∧ (E.ann 63).draws 6 = [([0], [17]), ([5], [18]), ([0, 17, 18], [19]), ([0, 19], [20]), ([1], [21]), ([5], [22]), ([1, 21, 22], [23]), ([1, 23], [24]), ([0, 1, 20, 24], [25]), ([25], [26])] ∧ (E.ann 63).free 6 = none := by
  refine ⟨?_, ?_, ?_, ?_, ?_, ?_, ?_, ?_, ?_, ?_⟩ <;> rfl
theorem e65 : (E.ann 65).ext = false ∧ (E.ann 65).modes = [.io, .shr] ∧ (E.ann 65).keep = [0] ∧ (E.ann 65).mir = [] ∧ (E.ann 65).heads 0 = [0, 1, 5] ∧ (E.ann 65).rng 0 = none ∧ (E.ann 65).ends 0 = some [0, 1] ∧ (E.ann 65).ends 1 = none := by
  refine ⟨?_, ?_, ?_, ?_, ?_, ?_, ?_, ?_⟩ <;> rfl
theorem e67 : (E.ann 67).ext = false ∧ (E.ann 67).modes = [.io, .shr] ∧ (E.ann 67).keep = [0] ∧ (E.ann 67).mir = [] ∧ (E.ann 67).heads 0 = [0, 1, 5] ∧ (E.ann 67).rng 0 = none ∧ (E.ann 67).ends 0 = some [0, 1] ∧ (E.ann 67).ends 1 = none := by
  refine ⟨?_, ?_, ?_, ?_, ?_, ?_, ?_, ?_⟩ <;> rfl
theorem e68 : (E.ann 68).ext = false ∧ (E.ann 68).modes = [] ∧ (E.ann 68).keep = [] ∧ (E.ann 68).mir = [] ∧ (E.ann 68).heads 0 = [0, 1, 5] ∧ (E.ann 68).rng 0 = none ∧ (E.ann 68).ends 0 = some [1] ∧ (E.ann 68).ends 1 = none ∧ (E.ann 68).draws 4 = [([0], [12]), ([5], [13]), ([0, 12, 13], [14]), ([0, 14], [15]), ([1], [16]), ([16], [17]), ([15, 17], [18])] ∧ (E.ann 68).free 4 = none := by
  refine ⟨?_, ?_, ?_, ?_, ?_, ?_, ?_, ?_, ?_, ?_⟩ <;> rfl
theorem e69 : (E.ann 69).ext = false ∧ (E.ann 69).modes = [] ∧ (E.ann 69).keep = [] ∧ (E.ann 69).mir = [] := by
  refine ⟨?_, ?_, ?_, ?_⟩ <;> rfl
theorem e70 : (E.ann 70).ext = false ∧ (E.ann 70).modes = [] ∧ (E.ann 70).keep = [] ∧ (E.ann 70).mir = [] ∧ (E.ann 70).heads 0 = [0, 3, 5, 6, 7] ∧ (E.ann 70).rng 0 = none ∧ (E.ann 70).ends 0 = some [3, 5, 6] ∧ (E.ann 70).ends 1 = none ∧ (E.ann 70).draws 6 = [([0], [18]), ([7], [19]), ([0, 18, 19], [20]), ([0, 20], [21]), ([3], [22]), ([3, 22], [23]), ([0, 3, 21, 23], [24]), ([24], [8])] ∧ (E.ann 70).free 6 = none := by
  refine ⟨?_, ?_, ?_, ?_, ?_, ?_, ?_, ?_, ?_, ?_⟩ <;> rfl
theorem e71 : (E.ann 71).ext = false ∧ (E.ann 71).modes = [] ∧ (E.ann 71).keep = [] ∧ (E.ann 71).mir = [] := by
  refine ⟨?_, ?_, ?_, ?_⟩ <;> rfl
theorem e72 : (E.ann 72).ext = false ∧ (E.ann 72).modes = [.mv, .shr] ∧ (E.ann 72).keep = [] ∧ (E.ann 72).mir = [] := by
  refine ⟨?_, ?_, ?_, ?_⟩ <;> rfl
theorem e73 : (E.ann 73).ext = false ∧ (E.ann 73).modes = [] ∧ (E.ann 73).keep = [] ∧ (E.ann 73).mir = [] := by
  refine ⟨?_, ?_, ?_, ?_⟩ <;> rfl
theorem e74 : (E.ann 74).ext = false ∧ (E.ann 74).modes = [.mv, .mv] ∧ (E.ann 74).keep = [] ∧ (E.ann 74).mir = [] ∧ (E.ann 74).heads 0 = [0, 3, 5, 6, 7, 19, 20, 21] ∧ (E.ann 74).rng 0 = none ∧ (E.ann 74).ends 0 = some [0, 3, 6, 7] ∧ (E.ann 74).ends 1 = none ∧ (E.ann 74).draws 11 = [([9], [33]), ([9, 33], [34]), ([5], [35]), ([34, 35], [36])] ∧ (E.ann 74).free 11 = none := by
  refine ⟨?_, ?_, ?_, ?_, ?_, ?_, ?_, ?_, ?_, ?_⟩ <;> rfl
theorem e80 : (E.ann 80).ext = false ∧ (E.ann 80).modes = [] ∧ (E.ann 80).keep = [] ∧ (E.ann 80).mir = [] := by
  refine ⟨?_, ?_, ?_, ?_⟩ <;> rfl
theorem e85 : (E.ann 85).ext = false ∧ (E.ann 85).modes = [] ∧ (E.ann 85).keep = [] ∧ (E.ann 85).mir = [] ∧ (E.ann 85).heads 0 = [0, 3] ∧ (E.ann 85).rng 0 = none ∧ (E.ann 85).ends 0 = some [3] ∧ (E.ann 85).ends 1 = none := by
  refine ⟨?_, ?_, ?_, ?_, ?_, ?_, ?_, ?_⟩ <;> rfl
theorem e90 : (E.ann 90).ext = false ∧ (E.ann 90).modes = [] ∧ (E.ann 90).keep = [] ∧ (E.ann 90).mir = [] ∧ (E.ann 90).heads 0 = [0, 3, 4] ∧ (E.ann 90).rng 0 = none ∧ (E.ann 90).ends 0 = some [3] ∧ (E.ann 90).ends 1 = none := by
  refine ⟨?_, ?_, ?_, ?_, ?_, ?_, ?_, ?_⟩ <;> rfl
theorem e95 : (E.ann 95).ext = false ∧ (E.ann 95).modes = [] ∧ (E.ann 95).keep = [] ∧ (E.ann 95).mir = [] := by
  refine ⟨?_, ?_, ?_, ?_⟩ <;> rfl
theorem e96 : (E.ann 96).ext = false ∧ (E.ann 96).modes = [] ∧ (E.ann 96).keep = [] ∧ (E.ann 96).mir = [] := by
  refine ⟨?_, ?_, ?_, ?_⟩ <;> rfl
theorem e98 : (E.ann 98).ext = false ∧ (E.ann 98).modes = [] ∧ (E.ann 98).keep = [] ∧ (E.ann 98).mir = [] := by
  refine ⟨?_, ?_, ?_, ?_⟩ <;> rfl
theorem e99 : (E.ann 99).ext = false ∧ (E.ann 99).modes = [] ∧ (E.ann 99).keep = [] ∧ (E.ann 99).mir = [] := by
  refine ⟨?_, ?_, ?_, ?_⟩ <;> rfl
theorem e101 : (E.ann 101).ext = false ∧ (E.ann 101).modes = [] ∧ (E.ann 101).keep = [] ∧ (E.ann 101).mir = [] ∧ (E.ann 101).heads 0 = [0, 1, 7, 8] ∧ (E.ann 101).rng 0 = none ∧ (E.ann 101).ends 0 = some [] ∧ (E.ann 101).ends 1 = none := by
  refine ⟨?_, ?_, ?_, ?_, ?_, ?_, ?_, ?_⟩ <;> rfl
theorem e103 : (E.ann 103).ext = false ∧ (E.ann 103).modes = [] ∧ (E.ann 103).keep = [] ∧ (E.ann 103).mir = [] := by
  refine ⟨?_, ?_, ?_, ?_⟩ <;> rfl
theorem e105 : (E.ann 105).ext = false ∧ (E.ann 105).modes = [] ∧ (E.ann 105).keep = [] ∧ (E.ann 105).mir = [] ∧ (E.ann 105).ends 0 = none := by
  refine ⟨?_, ?_, ?_, ?_, ?_⟩ <;> rfl
theorem e106 : (E.ann 106).ext = false ∧ (E.ann 106).modes = [] ∧ (E.ann 106).keep = [] ∧ (E.ann 106).mir = [] ∧ (E.ann 106).heads 0 = [0, 3, 6, 7, 8] ∧ (E.ann 106).rng 0 = none ∧ (E.ann 106).ends 0 = some [3] ∧ (E.ann 106).ends 1 = none := by
  refine ⟨?_, ?_, ?_, ?_, ?_, ?_, ?_, ?_⟩ <;> rfl
theorem e107 : (E.ann 107).ext = false ∧ (E.ann 107).modes = [.mv, .shr] ∧ (E.ann 107).keep = [] ∧ (E.ann 107).mir = [] ∧ (E.ann 107).heads 0 = [0, 1, 5, 6] ∧ (E.ann 107).rng 0 = none ∧ (E.ann 107).ends 0 = some [0, 5] ∧ (E.ann 107).ends 1 = none := by
  refine ⟨?_, ?_, ?_, ?_, ?_, ?_, ?_, ?_⟩ <;> rfl
theorem e108 : (E.ann 108).ext = false ∧ (E.ann 108).modes = [] ∧ (E.ann 108).keep = [] ∧ (E.ann 108).mir = [] ∧ (E.ann 108).draws 1 = [([2], [4]), ([2, 4], [5]), ([1], [6]), ([5, 6], [7]), ([7], [3])] ∧ (E.ann 108).free 1 = none := by
  refine ⟨?_, ?_, ?_, ?_, ?_, ?_⟩ <;> rfl
theorem e109 : (E.ann 109).ext = false ∧ (E.ann 109).modes = [] ∧ (E.ann 109).keep = [] ∧ (E.ann 109).mir = [] ∧ (E.ann 109).draws 1 = [([2], [4]), ([2, 4], [5]), ([1], [6]), ([5, 6], [7]), ([7], [8]), ([8], [3])] ∧ (E.ann 109).free 1 = none := by
  refine ⟨?_, ?_, ?_, ?_, ?_, ?_⟩ <;> rfl
theorem e114 : (E.ann 114).ext = false ∧ (E.ann 114).modes = [] ∧ (E.ann 114).keep = [] ∧ (E.ann 114).mir = [] := by
  refine ⟨?_, ?_, ?_, ?_⟩ <;> rfl
theorem e119 : (E.ann 119).ext = false ∧ (E.ann 119).modes = [] ∧ (E.ann 119).keep = [] ∧ (E.ann 119).mir = [] ∧ (E.ann 119).heads 0 = [0, 1, 5] ∧ (E.ann 119).rng 0 = none ∧ (E.ann 119).ends 0 = some [1] ∧ (E.ann 119).ends 1 = none := by
  refine ⟨?_, ?_, ?_, ?_, ?_, ?_, ?_, ?_⟩ <;> rfl
theorem e120 : (E.ann 120).ext = false ∧ (E.ann 120).modes = [] ∧ (E.ann 120).keep = [] ∧ (E.ann 120).mir = [] ∧ (E.ann 120).heads 0 = [0, 3, 4] ∧ (E.ann 120).rng 0 = none ∧ (E.ann 120).ends 0 = some [3] ∧ (E.ann 120).ends 1 = none := by
  refine ⟨?_, ?_, ?_, ?_, ?_, ?_, ?_, ?_⟩ <;> rfl
theorem e122 : (E.ann 122).ext = false ∧ (E.ann 122).modes = [] ∧ (E.ann 122).keep = [] ∧ (E.ann 122).mir = [] := by
  refine ⟨?_, ?_, ?_, ?_⟩ <;> rfl
theorem tblOk : tbl.all (fun p => tiB Try.prog p.1 p.2) = true := by kernel_rfl
theorem progOk : progB Try.prog E = true := by kernel_rfl
theorem eqsOk : eqs.all (fun t => match lookT tbl t with | some i => eqTB Try.prog t i | none => true) = true := by kernel_rfl
theorem extOk : ExtOk Try.prog E := extOk_of (g := 124) (by kernel_rfl) (ext_of Try.func124 (by kernel_rfl) (by kernel_rfl) (by kernel_rfl) (by kernel_rfl))
theorem sound (f : FuncId) : CallOk Try.prog E (EV Try.prog E) f := EV_sound (by kernel_rfl) (tok_of tblOk) ⟨eqOk_list eqsOk, extOk⟩ progOk f
end Go.Proofs.Ytdjapblnmkghoaa


