/- FnExactBookCut: what the functions compute. -/
import Derived.Test.YtdjapblnmkghoaaCu4
namespace Go.Proofs.Ytdjapblnmkghoaa
open Go.Sx
set_option maxRecDepth 100000
set_option maxHeartbeats 4000000
set_option linter.unusedVariables false
set_option linter.unusedSimpArgs false
theorem bcut_w (b : VBook) (fl : Int) : (bcut b fl).w ≤ b.w := by
  unfold bcut
  split
  · have := drop_sum b.history (cutN b fl)
    unfold cutB VBook.w
    simp only
    omega
  · exact Nat.zero_le _
theorem k10 (b : VBook) (fl : Int) (hx : b.ok) (hfl : i64ok fl) : EV Try.prog E 10 [.val 0 true (b.c .shr), .val 0 false [.p (.int .i64 fl)]] = some ⟨[(false, [.p (.bool true)])], []⟩ := by
  refine EV_intro Try.func10 rfl ?_
  have hz := k_szBook b 1048576 hx (by omega) (by omega)
  simp only [VBook.c] at hz
  by_cases hc : (1048576 : Int) < b.w
  · rw [subW_lt hc] at hz
    simp only [rv0, rv1, rv2, rv3, rv4, rv5, rv6, rv7, rv8, rv9, rv10, rv11, rv12, rv13, rv14, rvE, rvH, rvS, rvI, eT, eQ, ↓reduceIte, Nat.reduceEqDiff, Nat.reduceAdd, Nat.reduceSub, Nat.reduceMul, Nat.reduceLeDiff, Nat.reduceBEq, decide_true, decide_false, reduceCtorEq, Int.reduceLT, Int.reduceNeg, rvN, Nat.reduceLT, Int.reduceLE, Int.reduceEq, eq_self, List.reduceReplicate, rvF, rvG, e10, e12, Try.f10, VBook.c, hz]
  rw [subW_ge hc] at hz
  have hnn : ¬ ((1048576 : Int) - b.w < 0) := by omega
  have hw : b.w ≤ 4194304 := by omega
  have hoc := oc_leBook b
  have hyw := bcut_w b fl
  have hto := k_toBook b hw
  have h1 := k48 b fl hw
  have h2 := k49 b fl hw
  have he := k_eqBook b hw
  generalize bcut b fl = y at *
  have hoy := oc_leBook y
  have hey := k_eqBook y (by omega)
  have hm := k_markBook b 1 (by omega) (by omega)
  have hmy := k_markBook y 1 (by omega) (by omega)
  have hh := k_heldBook y 1 (by omega) (by omega)
  have hn : ¬ (1 + (ocBook b : Int) < 0) := by omega
  have hny : ¬ (1 + (ocBook y : Int) < 0) := by omega
  simp only [VBook.c, moBook] at h1 h2 he hey hm hmy hh hto
  simp only [rv0, rv1, rv2, rv3, rv4, rv5, rv6, rv7, rv8, rv9, rv10, rv11, rv12, rv13, rv14, rvE, rvH, rvS, rvI, eT, eQ, ↓reduceIte, Nat.reduceEqDiff, Nat.reduceAdd, Nat.reduceSub, Nat.reduceMul, Nat.reduceLeDiff, Nat.reduceBEq, decide_true, decide_false, reduceCtorEq, Int.reduceLT, Int.reduceNeg, rvN, Nat.reduceLT, Int.reduceLE, Int.reduceEq, eq_self, List.reduceReplicate, rvF, rvG, e10, e12, e14, e17, e18, e50, e48, e49, Try.f10, VBook.c, hz, hnn, h1, h2, he, hey, hm, hmy, hh, hto, hn, hny, beq_self_eq_true, rowsBookObject, rowsBookChange, rowsBookTicket, rowsString]
end Go.Proofs.Ytdjapblnmkghoaa
