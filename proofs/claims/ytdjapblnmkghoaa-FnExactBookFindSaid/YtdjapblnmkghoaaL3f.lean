/- FnExactBookFind: what the functions compute. -/
import Derived.Test.YtdjapblnmkghoaaB3
import Derived.Test.YtdjapblnmkghoaaM3o
namespace Go.Proofs.Ytdjapblnmkghoaa
open Go.Sx
set_option maxRecDepth 100000
set_option maxHeartbeats 4000000
set_option linter.unusedVariables false
set_option linter.unusedSimpArgs false
theorem k3 (b : VBook) (k n : ByteArray) (hx : b.ok) (hk0 : k.size ≤ maxLen) (hn0 : n.size ≤ maxLen) : EV Try.prog E 3 [.val 0 true (b.c .shr), .val 0 false [.p (.string k)], .val 0 false [.p (.string n)]] = some ⟨[(false, [.p (.bool true)])], []⟩ := by
  refine EV_intro Try.func3 rfl ?_
  have hz := k_szBook b 1048576 hx (by omega) (by omega)
  simp only [VBook.c] at hz
  by_cases c1 : (1048576 : Int) < (k.size : Int)
  · simp only [rv0, rv1, rv2, rv3, rv4, rv5, rv6, rv7, rv8, rv9, rv10, rv11, rv12, rv13, rv14, rvE, rvH, rvS, rvI, eT, eQ, ↓reduceIte, Nat.reduceEqDiff, Nat.reduceAdd, Nat.reduceSub, Nat.reduceMul, Nat.reduceLeDiff, Nat.reduceBEq, decide_true, decide_false, reduceCtorEq, Int.reduceLT, Int.reduceNeg, rvN, Nat.reduceLT, Int.reduceLE, Int.reduceEq, eq_self, List.reduceReplicate, rvF, rvG, e3, Try.f3, VBook.c, c1]
  by_cases c2 : (1048576 : Int) < (n.size : Int)
  · simp only [rv0, rv1, rv2, rv3, rv4, rv5, rv6, rv7, rv8, rv9, rv10, rv11, rv12, rv13, rv14, rvE, rvH, rvS, rvI, eT, eQ, ↓reduceIte, Nat.reduceEqDiff, Nat.reduceAdd, Nat.reduceSub, Nat.reduceMul, Nat.reduceLeDiff, Nat.reduceBEq, decide_true, decide_false, reduceCtorEq, Int.reduceLT, Int.reduceNeg, rvN, Nat.reduceLT, Int.reduceLE, Int.reduceEq, eq_self, List.reduceReplicate, rvF, rvG, e3, Try.f3, VBook.c, c1, c2]
  by_cases hc : (1048576 : Int) < b.w
  · rw [subW_lt hc] at hz
    simp only [rv0, rv1, rv2, rv3, rv4, rv5, rv6, rv7, rv8, rv9, rv10, rv11, rv12, rv13, rv14, rvE, rvH, rvS, rvI, eT, eQ, ↓reduceIte, Nat.reduceEqDiff, Nat.reduceAdd, Nat.reduceSub, Nat.reduceMul, Nat.reduceLeDiff, Nat.reduceBEq, decide_true, decide_false, reduceCtorEq, Int.reduceLT, Int.reduceNeg, rvN, Nat.reduceLT, Int.reduceLE, Int.reduceEq, eq_self, List.reduceReplicate, rvF, rvG, e3, e12, Try.f3, VBook.c, hz, c1, c2]
  · rw [subW_ge hc] at hz
    have hnn : ¬ ((1048576 : Int) - b.w < 0) := by omega
    have hw : b.w ≤ 4194304 := by omega
    have hoc := oc_leBook b
    have hyw := bfind_w b k n
    have hto := k_toBook b hw
    have h1 := k13 b k n hw
    have h2 := k15 b k n hw
    generalize bfind b.objects k n = y at *
    obtain ⟨y, f⟩ := y
    simp only at hyw h1 h2
    have hoy := oc_leBookObject y
    have he := k_eqBook b hw
    have hey := k_eqBookObject y (by omega)
    have hm := k_markBook b 1 (by omega) (by omega)
    have hmy := k_markBookObject y 1 (by omega) (by omega)
    have hh := k_heldBookObject y 1 (by omega) (by omega)
    have hn : ¬ (1 + (ocBook b : Int) < 0) := by omega
    have hny : ¬ (1 + (ocBookObject y : Int) < 0) := by omega
    simp only [VBook.c, VBookObject.c, moBook, moBookObject] at h1 h2 he hey hm hmy hh hto
    simp only [rv0, rv1, rv2, rv3, rv4, rv5, rv6, rv7, rv8, rv9, rv10, rv11, rv12, rv13, rv14, rvE, rvH, rvS, rvI, eT, eQ, ↓reduceIte, Nat.reduceEqDiff, Nat.reduceAdd, Nat.reduceSub, Nat.reduceMul, Nat.reduceLeDiff, Nat.reduceBEq, decide_true, decide_false, reduceCtorEq, Int.reduceLT, Int.reduceNeg, rvN, Nat.reduceLT, Int.reduceLE, Int.reduceEq, eq_self, List.reduceReplicate, rvF, rvG, e3, e12, e13, e14, e15, e16, e17, e18, e19, e20, Try.f3, VBook.c, VBookObject.c, hz, hnn, h1, h2, he, hey, hm, hmy, hh, hto, hn, hny, c1, c2, beq_self_eq_true, rowsBookObject, rowsBookChange, rowsBookTicket, rowsString]
end Go.Proofs.Ytdjapblnmkghoaa
