/- FnExactBookList: what the functions compute. -/
import Derived.Test.YtdjapblnmkghoaaB4
import Derived.Test.YtdjapblnmkghoaaM3o
namespace Go.Proofs.Ytdjapblnmkghoaa
open Go.Sx
set_option maxRecDepth 100000
set_option maxHeartbeats 4000000
set_option linter.unusedVariables false
set_option linter.unusedSimpArgs false
theorem filter_w (p : VBookObject → Bool) : ∀ l : List VBookObject, wSBookObject (l.filter p) ≤ wSBookObject l
  | [] => Nat.le_refl _
  | x :: l => by
    have ih := filter_w p l
    unfold wSBookObject at *
    rw [List.filter_cons]
    split
    · simp only [List.length_cons, sumWBookObject]; omega
    · simp only [List.length_cons, sumWBookObject]; omega
theorem blist_w (b : VBook) (k p : ByteArray) : wSBookObject (blist b k p) ≤ b.w := by
  unfold blist
  split
  · have := filter_w (looksB k p) b.objects
    unfold VBook.w lst
    omega
  · exact Nat.zero_le _
theorem k6 (b : VBook) (k n : ByteArray) (hx : b.ok) (hk0 : k.size ≤ maxLen) (hn0 : n.size ≤ maxLen) : EV Try.prog E 6 [.val 0 true (b.c .shr), .val 0 false [.p (.string k)], .val 0 false [.p (.string n)]] = some ⟨[(false, [.p (.bool true)])], []⟩ := by
  refine EV_intro Try.func6 rfl ?_
  have hz := k_szBook b 1048576 hx (by omega) (by omega)
  simp only [VBook.c] at hz
  by_cases c1 : (1048576 : Int) < (k.size : Int)
  · simp only [rv0, rv1, rv2, rv3, rv4, rv5, rv6, rv7, rv8, rv9, rv10, rv11, rv12, rv13, rv14, rvE, rvH, rvS, rvI, eT, eQ, ↓reduceIte, Nat.reduceEqDiff, Nat.reduceAdd, Nat.reduceSub, Nat.reduceMul, Nat.reduceLeDiff, Nat.reduceBEq, decide_true, decide_false, reduceCtorEq, Int.reduceLT, Int.reduceNeg, rvN, Nat.reduceLT, Int.reduceLE, Int.reduceEq, eq_self, List.reduceReplicate, rvF, rvG, e6, Try.f6, VBook.c, c1]
  by_cases c2 : (1048576 : Int) < (n.size : Int)
  · simp only [rv0, rv1, rv2, rv3, rv4, rv5, rv6, rv7, rv8, rv9, rv10, rv11, rv12, rv13, rv14, rvE, rvH, rvS, rvI, eT, eQ, ↓reduceIte, Nat.reduceEqDiff, Nat.reduceAdd, Nat.reduceSub, Nat.reduceMul, Nat.reduceLeDiff, Nat.reduceBEq, decide_true, decide_false, reduceCtorEq, Int.reduceLT, Int.reduceNeg, rvN, Nat.reduceLT, Int.reduceLE, Int.reduceEq, eq_self, List.reduceReplicate, rvF, rvG, e6, Try.f6, VBook.c, c1, c2]
  by_cases hc : (1048576 : Int) < b.w
  · rw [subW_lt hc] at hz
    simp only [rv0, rv1, rv2, rv3, rv4, rv5, rv6, rv7, rv8, rv9, rv10, rv11, rv12, rv13, rv14, rvE, rvH, rvS, rvI, eT, eQ, ↓reduceIte, Nat.reduceEqDiff, Nat.reduceAdd, Nat.reduceSub, Nat.reduceMul, Nat.reduceLeDiff, Nat.reduceBEq, decide_true, decide_false, reduceCtorEq, Int.reduceLT, Int.reduceNeg, rvN, Nat.reduceLT, Int.reduceLE, Int.reduceEq, eq_self, List.reduceReplicate, rvF, rvG, e6, e12, Try.f6, VBook.c, hz, c1, c2]
  · rw [subW_ge hc] at hz
    have hnn : ¬ ((1048576 : Int) - b.w < 0) := by omega
    have hw : b.w ≤ 4194304 := by omega
    have hoc := oc_leBook b
    have hyw := blist_w b k n
    have hto := k_toBook b hw
    have h1 := k34 b k n hw
    have h2 := k35 b k n hw
    have he := k_eqBook b hw
    generalize blist b k n = y at *
    generalize bnow b = z at *
    have hoy := mcL_leBookObject y
    have hey := k_eqBookObjectS y (by omega)
    have hm := k_markBook b 1 (by omega) (by omega)
    have hmy := k_markBookObjectS y 1 (by omega) (by omega)
    have hh := k_heldBookObjectS y 1 (by omega) (by omega)
    have hn : ¬ (1 + (ocBook b : Int) < 0) := by omega
    have hny : ¬ (1 + (mcL mcBookObject y : Int) < 0) := by omega
    simp only [VBook.c, moBook] at h1 h2 he hm hto
    simp only [rv0, rv1, rv2, rv3, rv4, rv5, rv6, rv7, rv8, rv9, rv10, rv11, rv12, rv13, rv14, rvE, rvH, rvS, rvI, eT, eQ, ↓reduceIte, Nat.reduceEqDiff, Nat.reduceAdd, Nat.reduceSub, Nat.reduceMul, Nat.reduceLeDiff, Nat.reduceBEq, decide_true, decide_false, reduceCtorEq, Int.reduceLT, Int.reduceNeg, rvN, Nat.reduceLT, Int.reduceLE, Int.reduceEq, eq_self, List.reduceReplicate, rvF, rvG, e6, e12, e14, e17, e18, e34, e35, e36, e37, e38, Try.f6, VBook.c, hz, hnn, h1, h2, he, hey, hm, hmy, hh, hto, hn, hny, c1, c2, beq_self_eq_true, rowsBookObject, rowsBookChange, rowsBookTicket, rowsString]
end Go.Proofs.Ytdjapblnmkghoaa
