/- FnExactRecNew: what the functions compute. -/
import Derived.Test.YtjcbojcnfdlfaaaR4A
import Derived.Test.YtjcbojcnfdlfaaaM4w
namespace Go.Proofs.Ytjcbojcnfdlfaaa
open Go.Sx
set_option maxRecDepth 100000
set_option linter.unusedVariables false
set_option linter.unusedSimpArgs false
def nilRec : VRecorder := ⟨0, 0, false, ⟨0, 0, []⟩, ⟨0, 0, []⟩, [], [], false, false, 0, [], [], [], 0⟩
def newRec (i n : Int) : VRecorder := if inR n 1 5 = true then (if inR i 1 n = true then { nilRec with number := i, of_ := n, up := true } else nilRec) else nilRec
theorem k134 (i n : Int) : EV Try.prog E 134 [.val 0 false [.p (.int .i64 i)], .val 0 false [.p (.int .i64 n)]] = some ⟨[(true, VRecorder.c .own (newRec i n))], []⟩ := by
  refine EV_intro Try.func134 rfl ?_
  have h1 := k74 n 1 5
  have h2 := k74 i 1 n
  unfold newRec
  cases d1 : inR n 1 5
  · simp only [rv0, rv1, rv2, rv3, rv4, rv5, rv6, rv7, rv8, rv9, rv10, rvE, rvH, rvS, eT, ↓reduceIte, Nat.reduceEqDiff, Nat.reduceAdd, Nat.reduceSub, Nat.reduceMul, Nat.reduceLeDiff, Nat.reduceBEq, decide_true, decide_false, reduceCtorEq, Int.reduceLT, Int.reduceNeg, rvN, Nat.reduceLT, Int.reduceLE, Int.reduceEq, eq_self, List.reduceReplicate, rvF, rvG, e134, e74, Try.f134, h1, d1, VRecorder.c, nilRec, List.map_nil]
  · cases d2 : inR i 1 n
    · simp only [rv0, rv1, rv2, rv3, rv4, rv5, rv6, rv7, rv8, rv9, rv10, rvE, rvH, rvS, eT, ↓reduceIte, Nat.reduceEqDiff, Nat.reduceAdd, Nat.reduceSub, Nat.reduceMul, Nat.reduceLeDiff, Nat.reduceBEq, decide_true, decide_false, reduceCtorEq, Int.reduceLT, Int.reduceNeg, rvN, Nat.reduceLT, Int.reduceLE, Int.reduceEq, eq_self, List.reduceReplicate, rvF, rvG, e134, e74, Try.f134, h1, h2, d1, d2, VRecorder.c, nilRec, List.map_nil]
    · simp only [rv0, rv1, rv2, rv3, rv4, rv5, rv6, rv7, rv8, rv9, rv10, rvE, rvH, rvS, eT, ↓reduceIte, Nat.reduceEqDiff, Nat.reduceAdd, Nat.reduceSub, Nat.reduceMul, Nat.reduceLeDiff, Nat.reduceBEq, decide_true, decide_false, reduceCtorEq, Int.reduceLT, Int.reduceNeg, rvN, Nat.reduceLT, Int.reduceLE, Int.reduceEq, eq_self, List.reduceReplicate, rvF, rvG, e134, e74, Try.f134, h1, h2, d1, d2, VRecorder.c, nilRec, List.map_nil]
theorem k135 (i n : Int) : EV Try.prog E 135 [.val 0 false [.p (.int .i64 i)], .val 0 false [.p (.int .i64 n)]] = some ⟨[(true, VRecorder.c .own (newRec i n))], []⟩ := by
  refine EV_intro Try.func135 rfl ?_
  have h1 := k73 n 1 5
  have h2 := k73 i 1 n
  unfold newRec
  cases d1 : inR n 1 5
  · simp only [rv0, rv1, rv2, rv3, rv4, rv5, rv6, rv7, rv8, rv9, rv10, rvE, rvH, rvS, eT, ↓reduceIte, Nat.reduceEqDiff, Nat.reduceAdd, Nat.reduceSub, Nat.reduceMul, Nat.reduceLeDiff, Nat.reduceBEq, decide_true, decide_false, reduceCtorEq, Int.reduceLT, Int.reduceNeg, rvN, Nat.reduceLT, Int.reduceLE, Int.reduceEq, eq_self, List.reduceReplicate, rvF, rvG, e135, e73, Try.f135, h1, d1, VRecorder.c, nilRec, List.map_nil]
  · cases d2 : inR i 1 n
    · simp only [rv0, rv1, rv2, rv3, rv4, rv5, rv6, rv7, rv8, rv9, rv10, rvE, rvH, rvS, eT, ↓reduceIte, Nat.reduceEqDiff, Nat.reduceAdd, Nat.reduceSub, Nat.reduceMul, Nat.reduceLeDiff, Nat.reduceBEq, decide_true, decide_false, reduceCtorEq, Int.reduceLT, Int.reduceNeg, rvN, Nat.reduceLT, Int.reduceLE, Int.reduceEq, eq_self, List.reduceReplicate, rvF, rvG, e135, e73, Try.f135, h1, h2, d1, d2, VRecorder.c, nilRec, List.map_nil]
    · simp only [rv0, rv1, rv2, rv3, rv4, rv5, rv6, rv7, rv8, rv9, rv10, rvE, rvH, rvS, eT, ↓reduceIte, Nat.reduceEqDiff, Nat.reduceAdd, Nat.reduceSub, Nat.reduceMul, Nat.reduceLeDiff, Nat.reduceBEq, decide_true, decide_false, reduceCtorEq, Int.reduceLT, Int.reduceNeg, rvN, Nat.reduceLT, Int.reduceLE, Int.reduceEq, eq_self, List.reduceReplicate, rvF, rvG, e135, e73, Try.f135, h1, h2, d1, d2, VRecorder.c, nilRec, List.map_nil]
end Go.Proofs.Ytjcbojcnfdlfaaa
