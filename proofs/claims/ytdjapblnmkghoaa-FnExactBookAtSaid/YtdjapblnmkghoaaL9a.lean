/- FnExactBookAt: the law. -/
import Derived.Test.YtdjapblnmkghoaaA4i
import Derived.Test.YtdjapblnmkghoaaM3o
namespace Go.Proofs.Ytdjapblnmkghoaa
open Go.Sx
set_option maxRecDepth 100000
set_option maxHeartbeats 16000000
set_option linter.unusedVariables false
set_option linter.unusedSimpArgs false
theorem batL_w (b : VBook) (v : Int) : wSBookObject (batL b v) ≤ b.w := by
  unfold batL
  split
  · exact atS_w b v
  · exact Nat.zero_le _
theorem k9 (b : VBook) (v : Int) (hx : b.ok) (hv0 : i64ok v) : EV Try.prog E 9 [.val 0 true (b.c .shr), .val 0 false [.p (.int .i64 v)]] = some ⟨[(false, [.p (.bool true)])], []⟩ := by
  refine EV_intro Try.func9 rfl ?_
  have hz := k_szBook b 1048576 hx (by omega) (by omega)
  simp only [VBook.c] at hz
  by_cases hc : (1048576 : Int) < b.w
  · rw [subW_lt hc] at hz
    simp only [rv0, rv1, rvE, rvH, rvS, rvI, eT, eQ, ↓reduceIte, Nat.reduceEqDiff, Nat.reduceAdd, Nat.reduceSub, Nat.reduceMul, Nat.reduceLeDiff, Nat.reduceBEq, decide_true, decide_false, reduceCtorEq, Int.reduceLT, Int.reduceNeg, rvN, Nat.reduceLT, Int.reduceLE, Int.reduceEq, eq_self, List.reduceReplicate, rvF, rvG, e9, e12, Try.f9, VBook.c, hz]
  rw [subW_ge hc] at hz
  have hnn : ¬ ((1048576 : Int) - b.w < 0) := by omega
  have hw : b.w ≤ 4194304 := by omega
  have hoc := oc_leBook b
  have hyw := batL_w b v
  have hto := k_toBook b hw
  have h1 := k46 b v hw
  have h2 := k47 b v hw
  have he := k_eqBook b hw
  generalize batL b v = y at *
  generalize batB b v = z at *
  have hoy := mcL_leBookObject y
  have hey := k_eqBookObjectS y (by omega)
  have hm := k_markBook b 1 (by omega) (by omega)
  have hmy := k_markBookObjectS y 1 (by omega) (by omega)
  have hh := k_heldBookObjectS y 1 (by omega) (by omega)
  have hn : ¬ (1 + (ocBook b : Int) < 0) := by omega
  have hny : ¬ (1 + (mcL mcBookObject y : Int) < 0) := by omega
  simp only [VBook.c, moBook] at h1 h2 he hm hto
  cases z
  all_goals simp only [rv0, rv1, rvE, rvH, rvS, rvI, eT, eQ, ↓reduceIte, Nat.reduceEqDiff, Nat.reduceAdd, Nat.reduceSub, Nat.reduceMul, Nat.reduceLeDiff, Nat.reduceBEq, decide_true, decide_false, reduceCtorEq, Int.reduceLT, Int.reduceNeg, rvN, Nat.reduceLT, Int.reduceLE, Int.reduceEq, eq_self, List.reduceReplicate, rvF, rvG, e9, e12, e14, e17, e18, e46, e47, e36, e37, e38, Try.f9, VBook.c, hz, hnn, h1, h2, he, hey, hm, hmy, hh, hto, hn, hny, beq_self_eq_true, Bool.not_true, rowsBookObject, rowsBookChange, rowsBookTicket, rowsString]
end Go.Proofs.Ytdjapblnmkghoaa

