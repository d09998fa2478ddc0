/- FnExactBookValid: what the functions compute. -/
import Derived.Test.YtdjapblnmkghoaaV3k
import Derived.Test.YtdjapblnmkghoaaM3o
namespace Go.Proofs.Ytdjapblnmkghoaa
open Go.Sx
set_option maxRecDepth 100000
set_option maxHeartbeats 4000000
set_option linter.unusedVariables false
set_option linter.unusedSimpArgs false
theorem kS (b : VBook) (hw : b.w ≤ 4194304) : EV Try.prog E 32 [.val 0 true (b.c .shr)] = some ⟨[(false, [.p (.bool (implB b))])], []⟩ := by
  rw [k32 b hw, valid_eq]
theorem k5 (b : VBook) (hx : b.ok) : EV Try.prog E 5 [.val 0 true (b.c .shr)] = some ⟨[(false, [.p (.bool true)])], []⟩ := by
  refine EV_intro Try.func5 rfl ?_
  have hz := k_szBook b 1048576 hx (by omega) (by omega)
  simp only [VBook.c] at hz
  by_cases hc : (1048576 : Int) < b.w
  · rw [subW_lt hc] at hz
    simp only [rv0, rv1, rv2, rv3, rv4, rv5, rv6, rv7, rv8, rv9, rv10, rv11, rv12, rv13, rv14, rvE, rvH, rvS, rvI, eT, eQ, ↓reduceIte, Nat.reduceEqDiff, Nat.reduceAdd, Nat.reduceSub, Nat.reduceMul, Nat.reduceLeDiff, Nat.reduceBEq, decide_true, decide_false, reduceCtorEq, Int.reduceLT, Int.reduceNeg, rvN, Nat.reduceLT, Int.reduceLE, Int.reduceEq, eq_self, List.reduceReplicate, rvF, rvG, e5, e12, Try.f5, VBook.c, hz]
  · rw [subW_ge hc] at hz
    have hnn : ¬ ((1048576 : Int) - b.w < 0) := by omega
    have hw : b.w ≤ 4194304 := by omega
    have hto := k_toBook b hw
    have h1 := kS b hw
    have h2 := k33 b hw
    have he := k_eqBook b hw
    simp only [VBook.c] at h1 h2 he hto
    simp only [rv0, rv1, rv2, rv3, rv4, rv5, rv6, rv7, rv8, rv9, rv10, rv11, rv12, rv13, rv14, rvE, rvH, rvS, rvI, eT, eQ, ↓reduceIte, Nat.reduceEqDiff, Nat.reduceAdd, Nat.reduceSub, Nat.reduceMul, Nat.reduceLeDiff, Nat.reduceBEq, decide_true, decide_false, reduceCtorEq, Int.reduceLT, Int.reduceNeg, rvN, Nat.reduceLT, Int.reduceLE, Int.reduceEq, eq_self, List.reduceReplicate, rvF, rvG, e5, e12, e32, e33, e14, e17, Try.f5, VBook.c, VBookObject.c, hz, hnn, h1, h2, he, hto, beq_self_eq_true, rowsBookObject, rowsBookChange, rowsBookTicket, rowsString]
end Go.Proofs.Ytdjapblnmkghoaa
