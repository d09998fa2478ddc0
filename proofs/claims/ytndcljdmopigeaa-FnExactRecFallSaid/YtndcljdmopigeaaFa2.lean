/- FnExactRecFall: what the functions compute. -/
import Derived.Test.YtndcljdmopigeaaR2D
import Derived.Test.YtndcljdmopigeaaM2
import Derived.Test.YtndcljdmopigeaaC2
import Derived.Test.YtndcljdmopigeaaN2
namespace Go.Proofs.Ytndcljdmopigeaa
open Go.Sx
set_option maxRecDepth 100000
set_option linter.unusedVariables false
set_option linter.unusedSimpArgs false
def fall (x : VRecorder) : VRecorder := if valid x = true then { nilRec with number := x.number, of_ := x.of_, safe := x.safe, disk := x.safe } else nilRec
theorem k36 (x : VRecorder) (hw : x.w ≤ 4194304) : EV Try.prog E 36 [.val 0 true (x.c .shr)] = some ⟨[(true, (fall x).c .own)], []⟩ := by
  refine EV_intro Try.func36 rfl ?_
  have h1 := k17 x hw
  have h2 := k95 x.safe (by unfold VRecorder.w VRecDisk.w wSRecSlot at hw; omega)
  simp only [VRecorder.c] at h1
  simp only [VRecDisk.c] at h2
  unfold fall
  cases d : valid x
  · simp only [rv0, rv1, rv2, rv3, rv4, rv5, rv6, rv7, rv8, rv9, rv10, rvE, rvH, rvS, eT, ↓reduceIte, Nat.reduceEqDiff, Nat.reduceAdd, Nat.reduceSub, Nat.reduceMul, Nat.reduceLeDiff, Nat.reduceBEq, decide_true, decide_false, reduceCtorEq, Int.reduceLT, Int.reduceNeg, rvN, Nat.reduceLT, Int.reduceLE, Int.reduceEq, eq_self, List.reduceReplicate, rvF, rvG, e36, e17, Try.f36, VRecorder.c, h1, d, nilRec, List.map_nil]
  · simp only [rv0, rv1, rv2, rv3, rv4, rv5, rv6, rv7, rv8, rv9, rv10, rvE, rvH, rvS, eT, ↓reduceIte, Nat.reduceEqDiff, Nat.reduceAdd, Nat.reduceSub, Nat.reduceMul, Nat.reduceLeDiff, Nat.reduceBEq, decide_true, decide_false, reduceCtorEq, Int.reduceLT, Int.reduceNeg, rvN, Nat.reduceLT, Int.reduceLE, Int.reduceEq, eq_self, List.reduceReplicate, rvF, rvG, e36, e17, e95, Try.f36, VRecorder.c, h1, h2, d, nilRec, List.map_nil, rowsRecSlot]
theorem k97 (x : VRecorder) (hw : x.w ≤ 4194304) : EV Try.prog E 97 [.box 0 0 (x.c .own)] = some ⟨[], [({ nilRec with number := x.number, of_ := x.of_, safe := x.safe, disk := x.safe } : VRecorder).c .own]⟩ := by
  refine EV_intro Try.func97 rfl ?_
  have h2 := k113 x.safe (by unfold VRecorder.w VRecDisk.w wSRecSlot at hw; omega)
  simp only [VRecDisk.c] at h2
  simp only [rv0, rv1, rv2, rv3, rv4, rv5, rv6, rv7, rv8, rv9, rv10, rvE, rvH, rvS, eT, ↓reduceIte, Nat.reduceEqDiff, Nat.reduceAdd, Nat.reduceSub, Nat.reduceMul, Nat.reduceLeDiff, Nat.reduceBEq, decide_true, decide_false, reduceCtorEq, Int.reduceLT, Int.reduceNeg, rvN, Nat.reduceLT, Int.reduceLE, Int.reduceEq, eq_self, List.reduceReplicate, rvF, rvG, e97, e113, Try.f97, VRecorder.c, h2, nilRec, List.map_nil, rowsRecSlot]
theorem k37 (x : VRecorder) (hw : x.w ≤ 4194304) : EV Try.prog E 37 [.val 0 true (x.c .shr)] = some ⟨[(true, (fall x).c .own)], []⟩ := by
  refine EV_intro Try.func37 rfl ?_
  have h1 := k19 x hw
  have h2 := k96 x hw
  have h3 := k97 x hw
  simp only [VRecorder.c] at h1 h2 h3
  unfold fall
  cases d : valid x
  · simp only [rv0, rv1, rv2, rv3, rv4, rv5, rv6, rv7, rv8, rv9, rv10, rvE, rvH, rvS, eT, ↓reduceIte, Nat.reduceEqDiff, Nat.reduceAdd, Nat.reduceSub, Nat.reduceMul, Nat.reduceLeDiff, Nat.reduceBEq, decide_true, decide_false, reduceCtorEq, Int.reduceLT, Int.reduceNeg, rvN, Nat.reduceLT, Int.reduceLE, Int.reduceEq, eq_self, List.reduceReplicate, rvF, rvG, e37, e19, Try.f37, VRecorder.c, h1, d, nilRec, List.map_nil]
  · simp only [rv0, rv1, rv2, rv3, rv4, rv5, rv6, rv7, rv8, rv9, rv10, rvE, rvH, rvS, eT, ↓reduceIte, Nat.reduceEqDiff, Nat.reduceAdd, Nat.reduceSub, Nat.reduceMul, Nat.reduceLeDiff, Nat.reduceBEq, decide_true, decide_false, reduceCtorEq, Int.reduceLT, Int.reduceNeg, rvN, Nat.reduceLT, Int.reduceLE, Int.reduceEq, eq_self, List.reduceReplicate, rvF, rvG, e37, e19, e96, e97, Try.f37, VRecorder.c, h1, h2, h3, d, nilRec, List.map_nil, rowsRecSlot, rowsRecMessage, rowsString, rowsInt, rowsRecAck]
theorem nilRec_w : nilRec.w = 0 := by simp [VRecorder.w, VRecDisk.w, nilRec, wSRecSlot, wSRecMessage, wSString, wSRecAck, wSInt, sumWRecSlot, sumWRecMessage, sumWString, sumWRecAck]
theorem fall_w (x : VRecorder) : (fall x).w ≤ 2 * x.w := by
  unfold fall
  split
  · simp only [VRecorder.w, VRecDisk.w, nilRec, wSRecSlot, wSRecMessage, wSString, wSRecAck, wSInt, sumWRecSlot, sumWRecMessage, sumWString, sumWRecAck, List.length_nil]
    omega
  · rw [nilRec_w]; exact Nat.zero_le _
theorem k9 (x : VRecorder) (hx : x.ok) : EV Try.prog E 9 [.val 0 true (x.c .shr)] = some ⟨[(false, [.p (.bool true)])], []⟩ := by
  refine EV_intro Try.func9 rfl ?_
  have hz := k_szRecorder x 1048576 hx (by omega) (by omega)
  simp only [VRecorder.c] at hz
  by_cases hc : (1048576 : Int) < x.w
  · rw [subW_lt hc] at hz
    simp only [rv0, rv1, rv2, rv3, rv4, rv5, rv6, rv7, rv8, rv9, rv10, rvE, rvH, rvS, eT, ↓reduceIte, Nat.reduceEqDiff, Nat.reduceAdd, Nat.reduceSub, Nat.reduceMul, Nat.reduceLeDiff, Nat.reduceBEq, decide_true, decide_false, reduceCtorEq, Int.reduceLT, Int.reduceNeg, rvN, Nat.reduceLT, Int.reduceLE, Int.reduceEq, eq_self, List.reduceReplicate, rvF, rvG, e9, e16, Try.f9, VRecorder.c, hz]
  · rw [subW_ge hc] at hz
    have hnn : ¬ ((1048576 : Int) - x.w < 0) := by omega
    have hw : x.w ≤ 4194304 := by omega
    have hoc := oc_leRecorder x
    have hyw := fall_w x
    have h18 := k_toRecorder x hw
    have h1 := k36 x hw
    have h2 := k37 x hw
    generalize fall x = y at *
    have hoy := oc_leRecorder y
    have h13 := k_eqRecorder x hw
    have h13y := k_eqRecorder y (by omega)
    have h14 := k_markRecorder x 1 (by omega) (by omega)
    have h14y := k_markRecorder y 1 (by omega) (by omega)
    have h15 := k_heldRecorder y 1 (by omega) (by omega)
    have hn : ¬ (1 + (ocRecorder x : Int) < 0) := by omega
    have hny : ¬ (1 + (ocRecorder y : Int) < 0) := by omega
    simp only [VRecorder.c, moRecorder, moRecDisk] at h1 h2 h13 h13y h14 h14y h15 h18
    simp only [rv0, rv1, rv2, rv3, rv4, rv5, rv6, rv7, rv8, rv9, rv10, rvE, rvH, rvS, eT, ↓reduceIte, Nat.reduceEqDiff, Nat.reduceAdd, Nat.reduceSub, Nat.reduceMul, Nat.reduceLeDiff, Nat.reduceBEq, decide_true, decide_false, reduceCtorEq, Int.reduceLT, Int.reduceNeg, rvN, Nat.reduceLT, Int.reduceLE, Int.reduceEq, eq_self, List.reduceReplicate, rvF, rvG, e9, e13, e14, e15, e16, e18, e36, e37, Try.f9, VRecorder.c, hz, hnn, h1, h2, h13, h13y, h14, h14y, h15, h18, hn, hny, beq_self_eq_true, rowsRecSlot, rowsRecMessage, rowsString, rowsInt, rowsRecAck]
end Go.Proofs.Ytndcljdmopigeaa
