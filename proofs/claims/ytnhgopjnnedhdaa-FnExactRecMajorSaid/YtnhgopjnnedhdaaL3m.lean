/- FnExactRecMajor: what the functions compute; the law. -/
import Derived.Test.YtnhgopjnnedhdaaAk5m
namespace Go.Proofs.Ytnhgopjnnedhdaa
open Go.Sx
set_option maxRecDepth 100000
set_option maxHeartbeats 32000000
set_option linter.unusedVariables false
set_option linter.unusedSimpArgs false
def majB (w : VRecWorld) (k : Int) : ByteArray × Bool := if worldOk w = true then majS k w.recorders w.recorders else (eS, false)
theorem k5 (w : VRecWorld) (k : Int) (hw : w.w ≤ 4194304) : EV Try.prog E 5 [.val 0 true (w.c .shr), .val 0 false [.p (.int .i64 k)]] = some ⟨[(false, [.p (.string (majB w k).1)]), (false, [.p (.bool (majB w k).2)])], []⟩ := by
  refine EV_intro Try.func5 rfl ?_
  have h0 := k12 w hw
  have h1 := k13 w k hw
  unfold majB
  cases d : worldOk w
  · rw [d] at h0
    simp only [VRecWorld.c] at h0
    simp only [rv0, rv1, rvE, rvH, rvS, rvI, eT, eQ, ↓reduceIte, Nat.reduceEqDiff, Nat.reduceAdd, Nat.reduceSub, Nat.reduceMul, Nat.reduceLeDiff, Nat.reduceBEq, decide_true, decide_false, reduceCtorEq, Int.reduceLT, Int.reduceNeg, rvN, Nat.reduceLT, Int.reduceLE, Int.reduceEq, eq_self, List.reduceReplicate, rvF, rvG, e5, e12, Try.f5, VRecWorld.c, h0, eS, Bool.false_eq_true]
  · rw [d] at h0
    simp only [VRecWorld.c] at h0 h1
    simp only [rv0, rv1, rvE, rvH, rvS, rvI, eT, eQ, ↓reduceIte, Nat.reduceEqDiff, Nat.reduceAdd, Nat.reduceSub, Nat.reduceMul, Nat.reduceLeDiff, Nat.reduceBEq, decide_true, decide_false, reduceCtorEq, Int.reduceLT, Int.reduceNeg, rvN, Nat.reduceLT, Int.reduceLE, Int.reduceEq, eq_self, List.reduceReplicate, rvF, rvG, e5, e12, e13, Try.f5, VRecWorld.c, h0, h1]
theorem k7 (w : VRecWorld) (k : Int) (hw : w.w ≤ 4194304) : EV Try.prog E 7 [.val 0 true (w.c .shr), .val 0 false [.p (.int .i64 k)]] = some ⟨[(false, [.p (.string (majB w k).1)]), (false, [.p (.bool (majB w k).2)])], []⟩ := by
  refine EV_intro Try.func7 rfl ?_
  have h0 := k17 w hw
  have h1 := k18 w k hw
  unfold majB
  cases d : worldOk w
  · rw [d] at h0
    simp only [VRecWorld.c] at h0
    simp only [rv0, rv1, rvE, rvH, rvS, rvI, eT, eQ, ↓reduceIte, Nat.reduceEqDiff, Nat.reduceAdd, Nat.reduceSub, Nat.reduceMul, Nat.reduceLeDiff, Nat.reduceBEq, decide_true, decide_false, reduceCtorEq, Int.reduceLT, Int.reduceNeg, rvN, Nat.reduceLT, Int.reduceLE, Int.reduceEq, eq_self, List.reduceReplicate, rvF, rvG, e7, e17, Try.f7, VRecWorld.c, h0, eS, Bool.false_eq_true]
  · rw [d] at h0
    rw [world_maj d] at h1
    simp only [VRecWorld.c] at h0 h1
    simp only [rv0, rv1, rvE, rvH, rvS, rvI, eT, eQ, ↓reduceIte, Nat.reduceEqDiff, Nat.reduceAdd, Nat.reduceSub, Nat.reduceMul, Nat.reduceLeDiff, Nat.reduceBEq, decide_true, decide_false, reduceCtorEq, Int.reduceLT, Int.reduceNeg, rvN, Nat.reduceLT, Int.reduceLE, Int.reduceEq, eq_self, List.reduceReplicate, rvF, rvG, e7, e17, e18, Try.f7, VRecWorld.c, h0, h1]
theorem k3 (w : VRecWorld) (k : Int) (hx : w.ok) (hk0 : i64ok k) : EV Try.prog E 3 [.val 0 true (w.c .shr), .val 0 false [.p (.int .i64 k)]] = some ⟨[(false, [.p (.bool true)])], []⟩ := by
  refine EV_intro Try.func3 rfl ?_
  have hz := k_szRecWorld w 1048576 hx (by omega) (by omega)
  simp only [VRecWorld.c] at hz
  by_cases hc : (1048576 : Int) < w.w
  · rw [subW_lt hc] at hz
    simp only [rv0, rv1, rvE, rvH, rvS, rvI, eT, eQ, ↓reduceIte, Nat.reduceEqDiff, Nat.reduceAdd, Nat.reduceSub, Nat.reduceMul, Nat.reduceLeDiff, Nat.reduceBEq, decide_true, decide_false, reduceCtorEq, Int.reduceLT, Int.reduceNeg, rvN, Nat.reduceLT, Int.reduceLE, Int.reduceEq, eq_self, List.reduceReplicate, rvF, rvG, e3, e4, Try.f3, VRecWorld.c, hz]
  rw [subW_ge hc] at hz
  have hnn : ¬ ((1048576 : Int) - w.w < 0) := by omega
  have hw : w.w ≤ 4194304 := by omega
  have hto := k_toRecWorld w hw
  have he := k_eqRecWorld w hw
  have h1 := k5 w k hw
  have h2 := k7 w k hw
  generalize majB w k = q at *
  obtain ⟨qt, qb⟩ := q
  simp only [VRecWorld.c] at hto he h1 h2
  cases qb
  all_goals
    simp only [rv0, rv1, rvE, rvH, rvS, rvI, eT, eQ, ↓reduceIte, Nat.reduceEqDiff, Nat.reduceAdd, Nat.reduceSub, Nat.reduceMul, Nat.reduceLeDiff, Nat.reduceBEq, decide_true, decide_false, reduceCtorEq, Int.reduceLT, Int.reduceNeg, rvN, Nat.reduceLT, Int.reduceLE, Int.reduceEq, eq_self, List.reduceReplicate, rvF, rvG, e3, e4, e5, e6, e7, e8, Try.f3, VRecWorld.c, hz, hnn, hto, he, h1, h2, beq_self_eq_true, Bool.not_true, rowsRecorder, rowsRecMessage, rowsRecFix]
end Go.Proofs.Ytnhgopjnnedhdaa

