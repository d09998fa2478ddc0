/- Copies of objects, changes, books and mirrors: what the functions compute. -/
import Derived.Test.YtdjapblnmkghoaaB4
import Derived.Test.YtdjapblnmkghoaaF3w
namespace Go.Proofs.Ytdjapblnmkghoaa
open Go.Sx
set_option maxRecDepth 100000
set_option maxHeartbeats 4000000
set_option linter.unusedVariables false
set_option linter.unusedSimpArgs false
theorem map_snoc {α β : Type} (f : α → β) {l : List α} {i : Nat} {x : α} (h : l[i]? = some x) : (l.take (i + 1)).map f = (l.take i).map f ++ [f x] := by
  rw [take_snoc h, List.map_append]; rfl
theorem take_le {α : Type} (l : List α) (i : Nat) : (l.take i).length ≤ l.length := by rw [List.length_take]; omega
theorem k90 (l : List VBookObject) (hw : wSBookObject l ≤ 4194304) : EV Try.prog E 90 [.val 0 false [.sl .shr 7 (l.map (VBookObject.c .shr))]] = some ⟨[(false, [.sl .own 7 (l.map (VBookObject.c .own))])], []⟩ := by
  refine EV_intro Try.func90 rfl ?_
  unfold wSBookObject at hw
  simp only [rv0, rv1, rvE, rvH, rvS, rvI, eT, eQ, ↓reduceIte, Nat.reduceEqDiff, Nat.reduceAdd, Nat.reduceSub, Nat.reduceMul, Nat.reduceLeDiff, Nat.reduceBEq, decide_true, decide_false, reduceCtorEq, Int.reduceLT, Int.reduceNeg, rvN, Nat.reduceLT, Int.reduceLE, Int.reduceEq, eq_self, List.reduceReplicate, rvF, rvG, e90, Try.f90]
  rw [for_block l (fun i (_ : Unit) => ⟨3, [(0, .val 0 false [.sl .shr 7 (l.map (VBookObject.c .shr))]), (3, .val 1 false [.sl .own 7 ((l.take i).map (VBookObject.c .own))]), (4, .val 2 false [.p (.int .i64 i)])]⟩) (fun i _ => True)
    (fun r i a => .norm ⟨1, [(3, .val 0 false [.sl .own 7 (l.map (VBookObject.c .own))])]⟩) ?_ ?_ (a := ()) trivial (by simp only [rv0, rv1, rvE, rvH, rvS, rvI, eT, eQ, ↓reduceIte, Nat.reduceEqDiff, Nat.reduceAdd, Nat.reduceSub, Nat.reduceMul, Nat.reduceLeDiff, Nat.reduceBEq, decide_true, decide_false, reduceCtorEq, Int.reduceLT, Int.reduceNeg, rvN, Nat.reduceLT, Int.reduceLE, Int.reduceEq, eq_self, List.reduceReplicate, rvF, rvG, e90, List.take_zero, List.map_nil]; rfl)]
  · simp only [rv0, rv1, rvE, rvH, rvS, rvI, eT, eQ, ↓reduceIte, Nat.reduceEqDiff, Nat.reduceAdd, Nat.reduceSub, Nat.reduceMul, Nat.reduceLeDiff, Nat.reduceBEq, decide_true, decide_false, reduceCtorEq, Int.reduceLT, Int.reduceNeg, rvN, Nat.reduceLT, Int.reduceLE, Int.reduceEq, eq_self, List.reduceReplicate, rvF, rvG, e90, rowsBookObject]
  · intro i x r a hd hi _
    have hlen := (List.getElem?_eq_some_iff.1 hi).1
    have hlt : ((i : Int) < (l.length : Int)) := by omega
    have hr := getElem?_map_some (f := VBookObject.c .shr) hi
    have hi0 : (0 : Int) ≤ (i : Int) := by omega
    have hwi := wrap64 (n := (i : Int) + 1) (by omega) (by omega)
    have hxw := sum_obj_le (List.mem_of_getElem? hi)
    have hxl : x.holds.length ≤ 4194304 := holds_le (n := 4194304) (by omega)
    have h2 := k56 x hxl
    have hll := take_le l i
    have hs := map_snoc (VBookObject.c .own) hi
    simp only [VBookObject.c] at h2 hr hs
    left
    refine ⟨(), ?_, trivial, rfl⟩
    have hL1 : (l.take i).length + 1 < 4294967296 := by omega
    simp only [rv0, rv1, rvE, rvH, rvS, rvI, eT, eQ, ↓reduceIte, Nat.reduceEqDiff, Nat.reduceAdd, Nat.reduceSub, Nat.reduceMul, Nat.reduceLeDiff, Nat.reduceBEq, decide_true, decide_false, reduceCtorEq, Int.reduceLT, Int.reduceNeg, rvN, Nat.reduceLT, Int.reduceLE, Int.reduceEq, eq_self, List.reduceReplicate, rvF, rvG, e90, e56, VBookObject.c, hlt, hr, hi0, hwi, h2, hs, i64c, LIM, hL1, rowsBookObject, rowsString]
  · intro a _
    simp only [rv0, rv1, rvE, rvH, rvS, rvI, eT, eQ, ↓reduceIte, Nat.reduceEqDiff, Nat.reduceAdd, Nat.reduceSub, Nat.reduceMul, Nat.reduceLeDiff, Nat.reduceBEq, decide_true, decide_false, reduceCtorEq, Int.reduceLT, Int.reduceNeg, rvN, Nat.reduceLT, Int.reduceLE, Int.reduceEq, eq_self, List.reduceReplicate, rvF, rvG, e90, List.take_length]
def brel (b : VBook) (m : VBookMirror) : VBookMirror := ⟨m.kind, m.prefix_, bnow b, blist b m.kind m.prefix_, m.seen⟩
end Go.Proofs.Ytdjapblnmkghoaa

