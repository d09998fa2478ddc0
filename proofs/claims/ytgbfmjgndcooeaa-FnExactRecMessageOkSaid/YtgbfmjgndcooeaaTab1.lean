/- The tables of the seat: types, annotations (written by a program), and that the kernel finds them right. -/
import Derived.Test.YtgbfmjgndcooeaaProg
import Derived.KernelRfl
import Derived.Test.YtgbfmjgndcooeaaSxD
namespace Go.Proofs.Ytgbfmjgndcooeaa
open Go.Sx
def tbl : List (Nat × TI) := [
  (2, ⟨.prim, 1, 8, [.p (.int .i64 0)]⟩),
  (3, ⟨.prim, 1, 8, [.p (.int .i64 0)]⟩),
  (4, ⟨.prim, 1, 1, [.p (.bool false)]⟩),
  (5, ⟨.prim, 1, 1, [.p (.int .u8 0)]⟩),
  (6, ⟨.prim, 1, 1, [.p (.int .u8 0)]⟩),
  (7, ⟨.strct [(0, 1, false), (1, 1, false), (2, 1, false), (3, 1, false)], 4, 24, [.p (.int .i64 0), .p (.int .i64 0), .p (.bool false), .p (.int .u8 0)]⟩),
  (8, ⟨.strct [(0, 1, false), (1, 1, false), (2, 1, false), (3, 1, false)], 4, 24, [.p (.int .i64 0), .p (.int .i64 0), .p (.bool false), .p (.int .u8 0)]⟩),
  (9, ⟨.prim, 1, 16, [.p (.string ⟨#[]⟩)]⟩),
  (10, ⟨.prim, 1, 16, [.p (.string ⟨#[]⟩)]⟩),
  (11, ⟨.prim, 1, 16, [.p (.string ⟨#[]⟩)]⟩),
  (12, ⟨.prim, 1, 8, [.p (.int .u64 0)]⟩),
  (13, ⟨.strct [(0, 1, false), (1, 1, false)], 2, 24, [.p (.string ⟨#[]⟩), .p (.int .u64 0)]⟩),
  (14, ⟨.strct [(0, 1, false), (1, 1, false)], 2, 24, [.p (.string ⟨#[]⟩), .p (.int .u64 0)]⟩),
  (15, ⟨.ptr 63, 1, 8, [.p (.pointer none)]⟩),
  (16, ⟨.ptr 66, 1, 8, [.p (.pointer none)]⟩),
  (17, ⟨.ptr 76, 1, 8, [.p (.pointer none)]⟩),
  (18, ⟨.strct [(0, 1, false)], 1, 8, [.p (.pointer none)]⟩),
  (19, ⟨.strct [(0, 1, false)], 1, 8, [.p (.pointer none)]⟩),
  (21, ⟨.prim, 1, 4, [.p (.int .i32 0)]⟩),
  (25, ⟨.slc 53, 1, 24, [.sl .own 2 []]⟩),
  (27, ⟨.slc 55, 1, 24, [.sl .own 2 []]⟩),
  (33, ⟨.strct [(0, 1, false), (1, 1, false), (2, 1, false)], 3, 40, [.p (.int .i64 0), .p (.int .i64 0), .sl .own 2 []]⟩),
  (34, ⟨.strct [(0, 1, false), (1, 1, false), (2, 1, false)], 3, 40, [.p (.int .i64 0), .p (.int .i64 0), .sl .own 2 []]⟩),
  (37, ⟨.strct [(0, 1, false), (1, 1, false), (2, 1, false)], 3, 40, [.p (.int .i64 0), .p (.int .i64 0), .sl .own 2 []]⟩),
  (38, ⟨.strct [(0, 1, false), (1, 1, false), (2, 1, false)], 3, 40, [.p (.int .i64 0), .p (.int .i64 0), .sl .own 2 []]⟩),
  (42, ⟨.strct [(0, 1, false), (1, 1, false), (2, 1, false), (3, 1, false), (4, 1, false), (5, 1, false), (6, 1, false), (7, 1, false)], 8, 88, [.p (.int .i64 0), .p (.int .i64 0), .p (.int .i64 0), .p (.int .i64 0), .p (.int .i64 0), .p (.int .i64 0), .p (.string ⟨#[]⟩), .sl .own 2 []]⟩),
  (43, ⟨.strct [(0, 1, false), (1, 1, false), (2, 1, false), (3, 1, false), (4, 1, false), (5, 1, false), (6, 1, false), (7, 1, false)], 8, 88, [.p (.int .i64 0), .p (.int .i64 0), .p (.int .i64 0), .p (.int .i64 0), .p (.int .i64 0), .p (.int .i64 0), .p (.string ⟨#[]⟩), .sl .own 2 []]⟩),
  (46, ⟨.strct [(0, 1, false), (1, 1, false), (2, 1, false), (3, 1, false), (4, 1, false), (5, 1, false), (6, 1, false), (7, 1, false)], 8, 88, [.p (.int .i64 0), .p (.int .i64 0), .p (.int .i64 0), .p (.int .i64 0), .p (.int .i64 0), .p (.int .i64 0), .p (.string ⟨#[]⟩), .sl .own 2 []]⟩),
  (47, ⟨.strct [(0, 1, false), (1, 1, false), (2, 1, false), (3, 1, false), (4, 1, false), (5, 1, false), (6, 1, false), (7, 1, false)], 8, 88, [.p (.int .i64 0), .p (.int .i64 0), .p (.int .i64 0), .p (.int .i64 0), .p (.int .i64 0), .p (.int .i64 0), .p (.string ⟨#[]⟩), .sl .own 2 []]⟩),
  (52, ⟨.strct [(0, 1, false), (1, 1, false)], 2, 24, [.p (.int .i64 0), .p (.string ⟨#[]⟩)]⟩),
  (53, ⟨.strct [(0, 1, false), (1, 1, false)], 2, 24, [.p (.int .i64 0), .p (.string ⟨#[]⟩)]⟩),
  (55, ⟨.strct [(0, 1, false), (1, 1, false)], 2, 24, [.p (.int .i64 0), .p (.string ⟨#[]⟩)]⟩),
  (60, ⟨.slc 5, 1, 24, [.sl .own 1 []]⟩),
  (62, ⟨.strct [(0, 1, false), (1, 1, false), (2, 1, false), (3, 1, false)], 4, 40, [.p (.pointer none), .p (.pointer none), .p (.pointer none), .p (.string ⟨#[]⟩)]⟩),
  (63, ⟨.strct [(0, 1, false), (1, 1, false), (2, 1, false), (3, 1, false)], 4, 40, [.p (.pointer none), .p (.pointer none), .p (.pointer none), .p (.string ⟨#[]⟩)]⟩),
  (68, ⟨.prim, 1, 4, [.p (.int .u32 0)]⟩),
  (69, ⟨.prim, 1, 1, [.p (.int .u8 0)]⟩),
  (70, ⟨.prim, 1, 1, [.p (.int .u8 0)]⟩),
  (72, ⟨.ptr 5, 1, 8, [.p (.pointer none)]⟩),
  (73, ⟨.prim, 1, 4, [.p (.int .i32 0)]⟩),
  (74, ⟨.prim, 1, 4, [.p (.int .i32 0)]⟩)]
/-- gosem.cut.init -/
def a2 : Ann := {}
/-- loop.example/wharflog/laws.FnExactConstants -/
def a3 : Ann := {}
/-- loop.example/wharflog/laws.FnExactRecNextBallot -/
def a4 : Ann := {}
/-- loop.example/wharflog/laws.FnExactRecMerge -/
def a5 : Ann := {}
/-- loop.example/wharflog/laws.FnExactRecDiskOk -/
def a6 : Ann := { draws := lookD [(10, [[5], [1], [1, 23], [5, 22, 24], [25]])] [] }
/-- loop.example/wharflog/laws.FnExactRecMessageOk -/
def a7 : Ann := { draws := lookD [(10, [[7], [2], [2, 27], [7, 26, 28], [29]])] [] }
/-- loop.example/wharflog/spec.RecNextBallot -/
def a8 : Ann := {}
/-- loop.example/wharflog/impl.RecNextBallot -/
def a9 : Ann := { heads := lookD [(0, [1, 2, 7])] [], ends := lookT [(0, [])], draws := lookD [(6, [[7], [2], [28, 29], [1], [2], [31, 32], [30, 33]])] [] }
/-- loop.example/wharflog/laws.szRecSlotS -/
def a10 : Ann := { heads := lookD [(0, [0, 1, 5])] [], ends := lookT [(0, [1])] }
/-- loop.example/wharflog/spec.RecMerge -/
def a11 : Ann := { heads := lookD [(0, [1, 5, 6])] [], ends := lookT [(0, [5])], draws := lookD [(7, [[1], [6], [1, 26, 27], [1, 28], [1, 29], [5], [6], [5, 31, 32], [5, 33], [5, 34], [30, 35]])] [] }
/-- loop.example/wharflog/laws.toRecSlotS -/
def a12 : Ann := { heads := lookD [(0, [0, 3, 4])] [], ends := lookT [(0, [3])] }
/-- loop.example/wharflog/impl.RecMerge -/
def a13 : Ann := { heads := lookD [(0, [1, 5, 10, 11, 12])] [], ends := lookT [(0, [5])], draws := lookD [(7, [[7], [7, 27], [5], [6], [5, 29, 30], [5, 31], [5, 32], [28, 33], [34]])] [] }
/-- loop.example/wharflog/laws.eqRecSlotS -/
def a14 : Ann := { heads := lookD [(0, [0, 1, 5])] [], ends := lookT [(0, [])], draws := lookD [(6, [[0], [5], [0, 17, 18], [0, 19], [1], [5], [1, 21, 22], [1, 23], [20, 24], [25]])] [] }
/-- loop.example/wharflog/laws.markRecSlotS -/
def a15 : Ann := { modes := [.io, .shr], keep := [0], heads := lookD [(0, [0, 1, 5])] [], ends := lookT [(0, [0, 1])] }
/-- loop.example/wharflog/laws.heldRecSlotS -/
def a16 : Ann := { heads := lookD [(0, [0, 1, 5])] [], ends := lookT [(0, [1])], draws := lookD [(7, [[0], [5], [0, 21, 22], [0, 23], [0, 24], [1], [26], [25, 27]])] [] }
/-- loop.example/wharflog/laws.szRecDisk -/
def a17 : Ann := {}
/-- loop.example/wharflog/spec.RecDiskOk -/
def a18 : Ann := { heads := lookD [(0, [1, 3])] [], ends := lookT [(0, [])], draws := lookD [(6, [[1], [1, 30], [3], [1, 31, 32], [1, 33], [1, 34], [1], [1, 36], [35, 37], [38], [3, 39], [1, 39], [1, 39, 41], [39, 40, 42], [39, 43], [1, 44], [1, 44, 45], [3, 44], [1, 44, 46, 47], [1, 44, 48], [1, 44, 49], [44, 50], [39, 44, 51], [39, 52]])] [] }
/-- loop.example/wharflog/laws.toRecDisk -/
def a19 : Ann := {}
/-- loop.example/wharflog/impl.RecDiskOk -/
def a20 : Ann := { heads := lookD [(0, [1, 25, 26, 27])] [], ends := lookT [(0, [])] }
/-- loop.example/wharflog/laws.eqRecDisk -/
def a21 : Ann := {}
/-- loop.example/wharflog/laws.szRecMessage -/
def a22 : Ann := {}
/-- loop.example/wharflog/spec.RecMessageOk -/
def a23 : Ann := {}
/-- loop.example/wharflog/laws.toRecMessage -/
def a24 : Ann := {}
/-- loop.example/wharflog/impl.RecMessageOk -/
def a25 : Ann := {}
/-- loop.example/wharflog/laws.eqRecMessage -/
def a26 : Ann := {}
/-- loop.example/wharflog/spec.l12In -/
def a27 : Ann := {}
/-- loop.example/wharflog/impl.within -/
def a28 : Ann := {}
/-- loop.example/wharflog/laws.szRecSlot -/
def a29 : Ann := {}
/-- loop.example/wharflog/spec.l12Slots -/
def a30 : Ann := {}
/-- loop.example/wharflog/laws.toRecSlot -/
def a31 : Ann := {}
/-- loop.example/wharflog/laws.eqRecSlot -/
def a32 : Ann := {}
/-- loop.example/wharflog/laws.markText -/
def a33 : Ann := { heads := lookD [(0, [0, 3])] [], ends := lookT [(0, [3])] }
/-- loop.example/wharflog/spec.l12SlotsOk -/
def a34 : Ann := { heads := lookD [(0, [0, 3])] [], ends := lookT [(0, [])] }
/-- loop.example/wharflog/impl.slotsOk -/
def a35 : Ann := { heads := lookD [(0, [0, 8, 9, 10])] [], ends := lookT [(0, [])] }
def anns : List (Nat × Ann) := [(2, a2), (3, a3), (4, a4), (5, a5), (6, a6), (7, a7), (8, a8), (9, a9), (10, a10), (11, a11), (12, a12), (13, a13), (14, a14), (15, a15), (16, a16), (17, a17), (18, a18), (19, a19), (20, a20), (21, a21), (22, a22), (23, a23), (24, a24), (25, a25), (26, a26), (27, a27), (28, a28), (29, a29), (30, a30), (31, a31), (32, a32), (33, a33), (34, a34), (35, a35)]
def E : Env := ⟨lookT tbl, fun _ => false, lookD anns {}⟩
set_option maxRecDepth 100000
theorem eT : E.T 2 = some ⟨.prim, 1, 8, [.p (.int .i64 0)]⟩ ∧
  E.T 3 = some ⟨.prim, 1, 8, [.p (.int .i64 0)]⟩ ∧
  E.T 4 = some ⟨.prim, 1, 1, [.p (.bool false)]⟩ ∧
  E.T 5 = some ⟨.prim, 1, 1, [.p (.int .u8 0)]⟩ ∧
  E.T 6 = some ⟨.prim, 1, 1, [.p (.int .u8 0)]⟩ ∧
  E.T 7 = some ⟨.strct [(0, 1, false), (1, 1, false), (2, 1, false), (3, 1, false)], 4, 24, [.p (.int .i64 0), .p (.int .i64 0), .p (.bool false), .p (.int .u8 0)]⟩ ∧
  E.T 8 = some ⟨.strct [(0, 1, false), (1, 1, false), (2, 1, false), (3, 1, false)], 4, 24, [.p (.int .i64 0), .p (.int .i64 0), .p (.bool false), .p (.int .u8 0)]⟩ ∧
  E.T 9 = some ⟨.prim, 1, 16, [.p (.string ⟨#[]⟩)]⟩ ∧
  E.T 10 = some ⟨.prim, 1, 16, [.p (.string ⟨#[]⟩)]⟩ ∧
  E.T 11 = some ⟨.prim, 1, 16, [.p (.string ⟨#[]⟩)]⟩ ∧
  E.T 12 = some ⟨.prim, 1, 8, [.p (.int .u64 0)]⟩ ∧
  E.T 13 = some ⟨.strct [(0, 1, false), (1, 1, false)], 2, 24, [.p (.string ⟨#[]⟩), .p (.int .u64 0)]⟩ ∧
  E.T 14 = some ⟨.strct [(0, 1, false), (1, 1, false)], 2, 24, [.p (.string ⟨#[]⟩), .p (.int .u64 0)]⟩ ∧
  E.T 15 = some ⟨.ptr 63, 1, 8, [.p (.pointer none)]⟩ ∧
  E.T 16 = some ⟨.ptr 66, 1, 8, [.p (.pointer none)]⟩ ∧
  E.T 17 = some ⟨.ptr 76, 1, 8, [.p (.pointer none)]⟩ ∧
  E.T 18 = some ⟨.strct [(0, 1, false)], 1, 8, [.p (.pointer none)]⟩ ∧
  E.T 19 = some ⟨.strct [(0, 1, false)], 1, 8, [.p (.pointer none)]⟩ ∧
  E.T 21 = some ⟨.prim, 1, 4, [.p (.int .i32 0)]⟩ ∧
  E.T 25 = some ⟨.slc 53, 1, 24, [.sl .own 2 []]⟩ ∧
  E.T 27 = some ⟨.slc 55, 1, 24, [.sl .own 2 []]⟩ ∧
  E.T 33 = some ⟨.strct [(0, 1, false), (1, 1, false), (2, 1, false)], 3, 40, [.p (.int .i64 0), .p (.int .i64 0), .sl .own 2 []]⟩ ∧
  E.T 34 = some ⟨.strct [(0, 1, false), (1, 1, false), (2, 1, false)], 3, 40, [.p (.int .i64 0), .p (.int .i64 0), .sl .own 2 []]⟩ ∧
  E.T 37 = some ⟨.strct [(0, 1, false), (1, 1, false), (2, 1, false)], 3, 40, [.p (.int .i64 0), .p (.int .i64 0), .sl .own 2 []]⟩ ∧
  E.T 38 = some ⟨.strct [(0, 1, false), (1, 1, false), (2, 1, false)], 3, 40, [.p (.int .i64 0), .p (.int .i64 0), .sl .own 2 []]⟩ ∧
  E.T 42 = some ⟨.strct [(0, 1, false), (1, 1, false), (2, 1, false), (3, 1, false), (4, 1, false), (5, 1, false), (6, 1, false), (7, 1, false)], 8, 88, [.p (.int .i64 0), .p (.int .i64 0), .p (.int .i64 0), .p (.int .i64 0), .p (.int .i64 0), .p (.int .i64 0), .p (.string ⟨#[]⟩), .sl .own 2 []]⟩ ∧
  E.T 43 = some ⟨.strct [(0, 1, false), (1, 1, false), (2, 1, false), (3, 1, false), (4, 1, false), (5, 1, false), (6, 1, false), (7, 1, false)], 8, 88, [.p (.int .i64 0), .p (.int .i64 0), .p (.int .i64 0), .p (.int .i64 0), .p (.int .i64 0), .p (.int .i64 0), .p (.string ⟨#[]⟩), .sl .own 2 []]⟩ ∧
  E.T 46 = some ⟨.strct [(0, 1, false), (1, 1, false), (2, 1, false), (3, 1, false), (4, 1, false), (5, 1, false), (6, 1, false), (7, 1, false)], 8, 88, [.p (.int .i64 0), .p (.int .i64 0), .p (.int .i64 0), .p (.int .i64 0), .p (.int .i64 0), .p (.int .i64 0), .p (.string ⟨#[]⟩), .sl .own 2 []]⟩ ∧
  E.T 47 = some ⟨.strct [(0, 1, false), (1, 1, false), (2, 1, false), (3, 1, false), (4, 1, false), (5, 1, false), (6, 1, false), (7, 1, false)], 8, 88, [.p (.int .i64 0), .p (.int .i64 0), .p (.int .i64 0), .p (.int .i64 0), .p (.int .i64 0), .p (.int .i64 0), .p (.string ⟨#[]⟩), .sl .own 2 []]⟩ ∧
  E.T 52 = some ⟨.strct [(0, 1, false), (1, 1, false)], 2, 24, [.p (.int .i64 0), .p (.string ⟨#[]⟩)]⟩ ∧
  E.T 53 = some ⟨.strct [(0, 1, false), (1, 1, false)], 2, 24, [.p (.int .i64 0), .p (.string ⟨#[]⟩)]⟩ ∧
  E.T 55 = some ⟨.strct [(0, 1, false), (1, 1, false)], 2, 24, [.p (.int .i64 0), .p (.string ⟨#[]⟩)]⟩ ∧
  E.T 60 = some ⟨.slc 5, 1, 24, [.sl .own 1 []]⟩ ∧
  E.T 62 = some ⟨.strct [(0, 1, false), (1, 1, false), (2, 1, false), (3, 1, false)], 4, 40, [.p (.pointer none), .p (.pointer none), .p (.pointer none), .p (.string ⟨#[]⟩)]⟩ ∧
  E.T 63 = some ⟨.strct [(0, 1, false), (1, 1, false), (2, 1, false), (3, 1, false)], 4, 40, [.p (.pointer none), .p (.pointer none), .p (.pointer none), .p (.string ⟨#[]⟩)]⟩ ∧
  E.T 68 = some ⟨.prim, 1, 4, [.p (.int .u32 0)]⟩ ∧
  E.T 69 = some ⟨.prim, 1, 1, [.p (.int .u8 0)]⟩ ∧
  E.T 70 = some ⟨.prim, 1, 1, [.p (.int .u8 0)]⟩ ∧
  E.T 72 = some ⟨.ptr 5, 1, 8, [.p (.pointer none)]⟩ ∧
  E.T 73 = some ⟨.prim, 1, 4, [.p (.int .i32 0)]⟩ ∧
  E.T 74 = some ⟨.prim, 1, 4, [.p (.int .i32 0)]⟩ := by
  refine ⟨?_, ?_, ?_, ?_, ?_, ?_, ?_, ?_, ?_, ?_, ?_, ?_, ?_, ?_, ?_, ?_, ?_, ?_, ?_, ?_, ?_, ?_, ?_, ?_, ?_, ?_, ?_, ?_, ?_, ?_, ?_, ?_, ?_, ?_, ?_, ?_, ?_, ?_, ?_, ?_, ?_⟩ <;> rfl
theorem e2 : (E.ann 2).modes = [] ∧ (E.ann 2).keep = [] := by
  refine ⟨?_, ?_⟩ <;> rfl
theorem e3 : (E.ann 3).modes = [] ∧ (E.ann 3).keep = [] := by
  refine ⟨?_, ?_⟩ <;> rfl
theorem e4 : (E.ann 4).modes = [] ∧ (E.ann 4).keep = [] := by
  refine ⟨?_, ?_⟩ <;> rfl
theorem e5 : (E.ann 5).modes = [] ∧ (E.ann 5).keep = [] := by
  refine ⟨?_, ?_⟩ <;> rfl
theorem e6 : (E.ann 6).modes = [] ∧ (E.ann 6).keep = [] ∧ (E.ann 6).draws 10 = [[5], [1], [1, 23], [5, 22, 24], [25]] := by
  refine ⟨?_, ?_, ?_⟩ <;> rfl
theorem e7 : (E.ann 7).modes = [] ∧ (E.ann 7).keep = [] ∧ (E.ann 7).draws 10 = [[7], [2], [2, 27], [7, 26, 28], [29]] := by
  refine ⟨?_, ?_, ?_⟩ <;> rfl
theorem e8 : (E.ann 8).modes = [] ∧ (E.ann 8).keep = [] := by
  refine ⟨?_, ?_⟩ <;> rfl
theorem e9 : (E.ann 9).modes = [] ∧ (E.ann 9).keep = [] ∧ (E.ann 9).heads 0 = [1, 2, 7] ∧ (E.ann 9).ends 0 = some [] ∧ (E.ann 9).ends 1 = none ∧ (E.ann 9).draws 6 = [[7], [2], [28, 29], [1], [2], [31, 32], [30, 33]] := by
  refine ⟨?_, ?_, ?_, ?_, ?_, ?_⟩ <;> rfl
theorem e10 : (E.ann 10).modes = [] ∧ (E.ann 10).keep = [] ∧ (E.ann 10).heads 0 = [0, 1, 5] ∧ (E.ann 10).ends 0 = some [1] ∧ (E.ann 10).ends 1 = none := by
  refine ⟨?_, ?_, ?_, ?_, ?_⟩ <;> rfl
theorem e11 : (E.ann 11).modes = [] ∧ (E.ann 11).keep = [] ∧ (E.ann 11).heads 0 = [1, 5, 6] ∧ (E.ann 11).ends 0 = some [5] ∧ (E.ann 11).ends 1 = none ∧ (E.ann 11).draws 7 = [[1], [6], [1, 26, 27], [1, 28], [1, 29], [5], [6], [5, 31, 32], [5, 33], [5, 34], [30, 35]] := by
  refine ⟨?_, ?_, ?_, ?_, ?_, ?_⟩ <;> rfl
theorem e12 : (E.ann 12).modes = [] ∧ (E.ann 12).keep = [] ∧ (E.ann 12).heads 0 = [0, 3, 4] ∧ (E.ann 12).ends 0 = some [3] ∧ (E.ann 12).ends 1 = none := by
  refine ⟨?_, ?_, ?_, ?_, ?_⟩ <;> rfl
theorem e13 : (E.ann 13).modes = [] ∧ (E.ann 13).keep = [] ∧ (E.ann 13).heads 0 = [1, 5, 10, 11, 12] ∧ (E.ann 13).ends 0 = some [5] ∧ (E.ann 13).ends 1 = none ∧ (E.ann 13).ends 2 = none ∧ (E.ann 13).draws 7 = [[7], [7, 27], [5], [6], [5, 29, 30], [5, 31], [5, 32], [28, 33], [34]] := by
  refine ⟨?_, ?_, ?_, ?_, ?_, ?_, ?_⟩ <;> rfl
theorem e14 : (E.ann 14).modes = [] ∧ (E.ann 14).keep = [] ∧ (E.ann 14).heads 0 = [0, 1, 5] ∧ (E.ann 14).ends 0 = some [] ∧ (E.ann 14).ends 1 = none ∧ (E.ann 14).draws 6 = [[0], [5], [0, 17, 18], [0, 19], [1], [5], [1, 21, 22], [1, 23], [20, 24], [25]] := by
  refine ⟨?_, ?_, ?_, ?_, ?_, ?_⟩ <;> rfl
theorem e15 : (E.ann 15).modes = [.io, .shr] ∧ (E.ann 15).keep = [0] ∧ (E.ann 15).heads 0 = [0, 1, 5] ∧ (E.ann 15).ends 0 = some [0, 1] ∧ (E.ann 15).ends 1 = none := by
  refine ⟨?_, ?_, ?_, ?_, ?_⟩ <;> rfl
theorem e16 : (E.ann 16).modes = [] ∧ (E.ann 16).keep = [] ∧ (E.ann 16).heads 0 = [0, 1, 5] ∧ (E.ann 16).ends 0 = some [1] ∧ (E.ann 16).ends 1 = none ∧ (E.ann 16).draws 7 = [[0], [5], [0, 21, 22], [0, 23], [0, 24], [1], [26], [25, 27]] := by
  refine ⟨?_, ?_, ?_, ?_, ?_, ?_⟩ <;> rfl
theorem e17 : (E.ann 17).modes = [] ∧ (E.ann 17).keep = [] := by
  refine ⟨?_, ?_⟩ <;> rfl
theorem e18 : (E.ann 18).modes = [] ∧ (E.ann 18).keep = [] ∧ (E.ann 18).heads 0 = [1, 3] ∧ (E.ann 18).ends 0 = some [] ∧ (E.ann 18).ends 1 = none ∧ (E.ann 18).draws 6 = [[1], [1, 30], [3], [1, 31, 32], [1, 33], [1, 34], [1], [1, 36], [35, 37], [38], [3, 39], [1, 39], [1, 39, 41], [39, 40, 42], [39, 43], [1, 44], [1, 44, 45], [3, 44], [1, 44, 46, 47], [1, 44, 48], [1, 44, 49], [44, 50], [39, 44, 51], [39, 52]] := by
  refine ⟨?_, ?_, ?_, ?_, ?_, ?_⟩ <;> rfl
theorem e19 : (E.ann 19).modes = [] ∧ (E.ann 19).keep = [] := by
  refine ⟨?_, ?_⟩ <;> rfl
theorem e20 : (E.ann 20).modes = [] ∧ (E.ann 20).keep = [] ∧ (E.ann 20).heads 0 = [1, 25, 26, 27] ∧ (E.ann 20).ends 0 = some [] ∧ (E.ann 20).ends 1 = none := by
  refine ⟨?_, ?_, ?_, ?_, ?_⟩ <;> rfl
theorem e21 : (E.ann 21).modes = [] ∧ (E.ann 21).keep = [] := by
  refine ⟨?_, ?_⟩ <;> rfl
theorem e22 : (E.ann 22).modes = [] ∧ (E.ann 22).keep = [] := by
  refine ⟨?_, ?_⟩ <;> rfl
theorem e23 : (E.ann 23).modes = [] ∧ (E.ann 23).keep = [] := by
  refine ⟨?_, ?_⟩ <;> rfl
theorem e24 : (E.ann 24).modes = [] ∧ (E.ann 24).keep = [] := by
  refine ⟨?_, ?_⟩ <;> rfl
theorem e25 : (E.ann 25).modes = [] ∧ (E.ann 25).keep = [] := by
  refine ⟨?_, ?_⟩ <;> rfl
theorem e26 : (E.ann 26).modes = [] ∧ (E.ann 26).keep = [] := by
  refine ⟨?_, ?_⟩ <;> rfl
theorem e27 : (E.ann 27).modes = [] ∧ (E.ann 27).keep = [] := by
  refine ⟨?_, ?_⟩ <;> rfl
theorem e28 : (E.ann 28).modes = [] ∧ (E.ann 28).keep = [] := by
  refine ⟨?_, ?_⟩ <;> rfl
theorem e29 : (E.ann 29).modes = [] ∧ (E.ann 29).keep = [] := by
  refine ⟨?_, ?_⟩ <;> rfl
theorem e30 : (E.ann 30).modes = [] ∧ (E.ann 30).keep = [] := by
  refine ⟨?_, ?_⟩ <;> rfl
theorem e31 : (E.ann 31).modes = [] ∧ (E.ann 31).keep = [] := by
  refine ⟨?_, ?_⟩ <;> rfl
theorem e32 : (E.ann 32).modes = [] ∧ (E.ann 32).keep = [] := by
  refine ⟨?_, ?_⟩ <;> rfl
theorem e33 : (E.ann 33).modes = [] ∧ (E.ann 33).keep = [] ∧ (E.ann 33).heads 0 = [0, 3] ∧ (E.ann 33).ends 0 = some [3] ∧ (E.ann 33).ends 1 = none := by
  refine ⟨?_, ?_, ?_, ?_, ?_⟩ <;> rfl
theorem e34 : (E.ann 34).modes = [] ∧ (E.ann 34).keep = [] ∧ (E.ann 34).heads 0 = [0, 3] ∧ (E.ann 34).ends 0 = some [] ∧ (E.ann 34).ends 1 = none := by
  refine ⟨?_, ?_, ?_, ?_, ?_⟩ <;> rfl
theorem e35 : (E.ann 35).modes = [] ∧ (E.ann 35).keep = [] ∧ (E.ann 35).heads 0 = [0, 8, 9, 10] ∧ (E.ann 35).ends 0 = some [] ∧ (E.ann 35).ends 1 = none := by
  refine ⟨?_, ?_, ?_, ?_, ?_⟩ <;> rfl
theorem tblOk : tbl.all (fun p => tiB Try.prog p.1 p.2) = true := by kernel_rfl
theorem progOk : progB Try.prog E = true := by kernel_rfl
theorem sound (f : FuncId) : CallOk Try.prog E (EV Try.prog E) f := EV_sound (by kernel_rfl) (tok_of tblOk) eqOk_none progOk f
end Go.Proofs.Ytgbfmjgndcooeaa

