/- FnExactRecWish: the law. -/
import Derived.Test.YtjcbojcnfdlfaaaWj5
import Derived.Test.YtjcbojcnfdlfaaaM5
namespace Go.Proofs.Ytjcbojcnfdlfaaa
open Go.Sx
set_option maxRecDepth 100000
set_option maxHeartbeats 4000000
set_option linter.unusedVariables false
set_option linter.unusedSimpArgs false
theorem k6 (x : VRecorder) (t : ByteArray) (hx : x.ok) (ht : t.size ≤ maxLen) : EV Try.prog E 6 [.val 0 true (x.c .shr), .val 0 false [.p (.string t)]] = some ⟨[(false, [.p (.bool true)])], []⟩ := by
  refine EV_intro Try.func6 rfl ?_
  by_cases c0 : (1048576 : Int) < (t.size : Int)
  · simp only [rv0, rv1, rv2, rv3, rv4, rv5, rv6, rv7, rv8, rv9, rv10, rv11, rv12, rv13, rv14, rvE, rvH, rvS, rvI, eT, eQ, ↓reduceIte, Nat.reduceEqDiff, Nat.reduceAdd, Nat.reduceSub, Nat.reduceMul, Nat.reduceLeDiff, Nat.reduceBEq, decide_true, decide_false, reduceCtorEq, Int.reduceLT, Int.reduceNeg, rvN, Nat.reduceLT, Int.reduceLE, Int.reduceEq, eq_self, List.reduceReplicate, rvF, rvG, e6, Try.f6, VRecorder.c, c0]
  have hz := k_szRecorder x 1048576 hx (by omega) (by omega)
  simp only [VRecorder.c] at hz
  by_cases hc : (1048576 : Int) < x.w
  · rw [subW_lt hc] at hz
    simp only [rv0, rv1, rv2, rv3, rv4, rv5, rv6, rv7, rv8, rv9, rv10, rv11, rv12, rv13, rv14, rvE, rvH, rvS, rvI, eT, eQ, ↓reduceIte, Nat.reduceEqDiff, Nat.reduceAdd, Nat.reduceSub, Nat.reduceMul, Nat.reduceLeDiff, Nat.reduceBEq, decide_true, decide_false, reduceCtorEq, Int.reduceLT, Int.reduceNeg, rvN, Nat.reduceLT, Int.reduceLE, Int.reduceEq, eq_self, List.reduceReplicate, rvF, rvG, e6, e31, Try.f6, VRecorder.c, hz, c0]
  · rw [subW_ge hc] at hz
    have hnn : ¬ ((1048576 : Int) - x.w < 0) := by omega
    have hw : x.w ≤ 4194304 := by omega
    have hoc := oc_leRecorder x
    have hyw := wishB_w x t
    have h18 := k_toRecorder x hw
    have h1 := k32 x t (by omega)
    have h2 := k34 x t (by omega)
    generalize wishB x t = y at *
    have hoy := oc_leRecorder y
    have h13 := k_eqRecorder x hw
    have h13y := k_eqRecorder y (by omega)
    have h14 := k_markRecorder x 1 (by omega) (by omega)
    have h14y := k_markRecorder y 1 (by omega) (by omega)
    have h15 := k_heldRecorder y 1 (by omega) (by omega)
    have hn : ¬ (1 + (ocRecorder x : Int) < 0) := by omega
    have hny : ¬ (1 + (ocRecorder y : Int) < 0) := by omega
    simp only [VRecorder.c, moRecorder, moRecDisk] at h1 h2 h13 h13y h14 h14y h15 h18
    simp only [rv0, rv1, rv2, rv3, rv4, rv5, rv6, rv7, rv8, rv9, rv10, rv11, rv12, rv13, rv14, rvE, rvH, rvS, rvI, eT, eQ, ↓reduceIte, Nat.reduceEqDiff, Nat.reduceAdd, Nat.reduceSub, Nat.reduceMul, Nat.reduceLeDiff, Nat.reduceBEq, decide_true, decide_false, reduceCtorEq, Int.reduceLT, Int.reduceNeg, rvN, Nat.reduceLT, Int.reduceLE, Int.reduceEq, eq_self, List.reduceReplicate, rvF, rvG, e6, e31, e32, e33, e34, e35, e36, e37, Try.f6, VRecorder.c, c0, hz, hnn, h1, h2, h13, h13y, h14, h14y, h15, h18, hn, hny, beq_self_eq_true, rowsRecSlot, rowsRecMessage, rowsString, rowsInt, rowsRecAck]
end Go.Proofs.Ytjcbojcnfdlfaaa
