/- FnExactRecNew: what the functions compute. -/
import Derived.Test.YtndcljdmopigeaaR2A
import Derived.Test.YtndcljdmopigeaaM2
namespace Go.Proofs.Ytndcljdmopigeaa
open Go.Sx
set_option maxRecDepth 100000
set_option linter.unusedVariables false
set_option linter.unusedSimpArgs false
def nilRec : VRecorder := ⟨0, 0, false, ⟨0, 0, []⟩, ⟨0, 0, []⟩, [], [], false, false, 0, [], [], [], 0⟩
def newRec (i n : Int) : VRecorder := if inR n 1 5 = true then (if inR i 1 n = true then { nilRec with number := i, of_ := n, up := true } else nilRec) else nilRec
theorem k11 (i n : Int) : EV Try.prog E 11 [.val 0 false [.p (.int .i64 i)], .val 0 false [.p (.int .i64 n)]] = some ⟨[(true, VRecorder.c .own (newRec i n))], []⟩ := by
  refine EV_intro Try.func11 rfl ?_
  have h1 := k40 n 1 5
  have h2 := k40 i 1 n
  unfold newRec
  cases d1 : inR n 1 5
  · simp only [rv0, rv1, rv2, rv3, rv4, rv5, rv6, rv7, rv8, rv9, rv10, rvE, rvH, rvS, eT, ↓reduceIte, Nat.reduceEqDiff, Nat.reduceAdd, Nat.reduceSub, Nat.reduceMul, Nat.reduceLeDiff, Nat.reduceBEq, decide_true, decide_false, reduceCtorEq, Int.reduceLT, Int.reduceNeg, rvN, Nat.reduceLT, Int.reduceLE, Int.reduceEq, eq_self, List.reduceReplicate, rvF, rvG, e11, e40, Try.f11, h1, d1, VRecorder.c, nilRec, List.map_nil]
  · cases d2 : inR i 1 n
    · simp only [rv0, rv1, rv2, rv3, rv4, rv5, rv6, rv7, rv8, rv9, rv10, rvE, rvH, rvS, eT, ↓reduceIte, Nat.reduceEqDiff, Nat.reduceAdd, Nat.reduceSub, Nat.reduceMul, Nat.reduceLeDiff, Nat.reduceBEq, decide_true, decide_false, reduceCtorEq, Int.reduceLT, Int.reduceNeg, rvN, Nat.reduceLT, Int.reduceLE, Int.reduceEq, eq_self, List.reduceReplicate, rvF, rvG, e11, e40, Try.f11, h1, h2, d1, d2, VRecorder.c, nilRec, List.map_nil]
    · simp only [rv0, rv1, rv2, rv3, rv4, rv5, rv6, rv7, rv8, rv9, rv10, rvE, rvH, rvS, eT, ↓reduceIte, Nat.reduceEqDiff, Nat.reduceAdd, Nat.reduceSub, Nat.reduceMul, Nat.reduceLeDiff, Nat.reduceBEq, decide_true, decide_false, reduceCtorEq, Int.reduceLT, Int.reduceNeg, rvN, Nat.reduceLT, Int.reduceLE, Int.reduceEq, eq_self, List.reduceReplicate, rvF, rvG, e11, e40, Try.f11, h1, h2, d1, d2, VRecorder.c, nilRec, List.map_nil]
theorem k12 (i n : Int) : EV Try.prog E 12 [.val 0 false [.p (.int .i64 i)], .val 0 false [.p (.int .i64 n)]] = some ⟨[(true, VRecorder.c .own (newRec i n))], []⟩ := by
  refine EV_intro Try.func12 rfl ?_
  have h1 := k41 n 1 5
  have h2 := k41 i 1 n
  unfold newRec
  cases d1 : inR n 1 5
  · simp only [rv0, rv1, rv2, rv3, rv4, rv5, rv6, rv7, rv8, rv9, rv10, rvE, rvH, rvS, eT, ↓reduceIte, Nat.reduceEqDiff, Nat.reduceAdd, Nat.reduceSub, Nat.reduceMul, Nat.reduceLeDiff, Nat.reduceBEq, decide_true, decide_false, reduceCtorEq, Int.reduceLT, Int.reduceNeg, rvN, Nat.reduceLT, Int.reduceLE, Int.reduceEq, eq_self, List.reduceReplicate, rvF, rvG, e12, e41, Try.f12, h1, d1, VRecorder.c, nilRec, List.map_nil]
  · cases d2 : inR i 1 n
    · simp only [rv0, rv1, rv2, rv3, rv4, rv5, rv6, rv7, rv8, rv9, rv10, rvE, rvH, rvS, eT, ↓reduceIte, Nat.reduceEqDiff, Nat.reduceAdd, Nat.reduceSub, Nat.reduceMul, Nat.reduceLeDiff, Nat.reduceBEq, decide_true, decide_false, reduceCtorEq, Int.reduceLT, Int.reduceNeg, rvN, Nat.reduceLT, Int.reduceLE, Int.reduceEq, eq_self, List.reduceReplicate, rvF, rvG, e12, e41, Try.f12, h1, h2, d1, d2, VRecorder.c, nilRec, List.map_nil]
    · simp only [rv0, rv1, rv2, rv3, rv4, rv5, rv6, rv7, rv8, rv9, rv10, rvE, rvH, rvS, eT, ↓reduceIte, Nat.reduceEqDiff, Nat.reduceAdd, Nat.reduceSub, Nat.reduceMul, Nat.reduceLeDiff, Nat.reduceBEq, decide_true, decide_false, reduceCtorEq, Int.reduceLT, Int.reduceNeg, rvN, Nat.reduceLT, Int.reduceLE, Int.reduceEq, eq_self, List.reduceReplicate, rvF, rvG, e12, e41, Try.f12, h1, h2, d1, d2, VRecorder.c, nilRec, List.map_nil]
theorem k3 (i n : Int) (_ : i64ok i) (_ : i64ok n) : EV Try.prog E 3 [.val 0 false [.p (.int .i64 i)], .val 0 false [.p (.int .i64 n)]] = some ⟨[(false, [.p (.bool true)])], []⟩ := by
  refine EV_intro Try.func3 rfl ?_
  have h11 := k11 i n
  have h12 := k12 i n
  have hx : (newRec i n).w ≤ 4194304 ∧ ocRecorder (newRec i n) = 0 := by
    unfold newRec
    split
    · split <;> exact ⟨by simp [VRecorder.w, VRecDisk.w, nilRec, wSRecSlot, wSRecMessage, wSString, wSRecAck, wSInt, sumWRecSlot, sumWRecMessage, sumWString, sumWRecAck], by simp [ocRecorder, ocRecDisk, nilRec, mcL]⟩
    · exact ⟨by simp [VRecorder.w, VRecDisk.w, nilRec, wSRecSlot, wSRecMessage, wSString, wSRecAck, wSInt, sumWRecSlot, sumWRecMessage, sumWString, sumWRecAck], by simp [ocRecorder, ocRecDisk, nilRec, mcL]⟩
  generalize newRec i n = x at *
  obtain ⟨hw, hoc⟩ := hx
  have h13 := k_eqRecorder x hw
  have h14 := k_markRecorder x 1 (by omega) (by omega)
  have h15 := k_heldRecorder x 1 (by omega) (by omega)
  have hn : ¬ (1 + (ocRecorder x : Int) < 0) := by omega
  simp only [VRecorder.c, moRecorder, moRecDisk] at h11 h12 h13 h14 h15
  simp only [rv0, rv1, rv2, rv3, rv4, rv5, rv6, rv7, rv8, rv9, rv10, rvE, rvH, rvS, eT, ↓reduceIte, Nat.reduceEqDiff, Nat.reduceAdd, Nat.reduceSub, Nat.reduceMul, Nat.reduceLeDiff, Nat.reduceBEq, decide_true, decide_false, reduceCtorEq, Int.reduceLT, Int.reduceNeg, rvN, Nat.reduceLT, Int.reduceLE, Int.reduceEq, eq_self, List.reduceReplicate, rvF, rvG, e3, e11, e12, e13, e14, e15, Try.f3, h11, h12, h13, h14, h15, hn, VRecorder.c, rowsRecSlot, rowsRecMessage, rowsString, rowsInt, rowsRecAck, beq_self_eq_true]
end Go.Proofs.Ytndcljdmopigeaa
