/- FnExactBookNext: what the functions compute. -/
import Derived.Test.YtdjapblnmkghoaaN3
namespace Go.Proofs.Ytdjapblnmkghoaa
open Go.Sx
set_option maxRecDepth 100000
set_option maxHeartbeats 4000000
set_option linter.unusedVariables false
set_option linter.unusedSimpArgs false
theorem nxt_sum (w : VBookWatch) (most : Int) : ∀ l acc : List VBookChange, wSBookChange (nxt w most l acc).1 ≤ wSBookChange acc + wSBookChange l
  | [], acc => Nat.le_add_right _ _
  | c :: r, acc => by
    have h1 := nxt_sum w most r acc
    have h2 := nxt_sum w most r (acc ++ [c])
    have h3 : wSBookChange (acc ++ [c]) = wSBookChange acc + (1 + c.w) := by
      clear h1 h2
      unfold wSBookChange
      rw [List.length_append]
      have : ∀ a : List VBookChange, sumWBookChange (a ++ [c]) = sumWBookChange a + c.w := by
        intro a
        induction a with
        | nil => simp [sumWBookChange]
        | cons x a ih => simp only [List.cons_append, sumWBookChange, ih]; omega
      rw [this]
      simp
      omega
    have h4 : wSBookChange (c :: r) = (1 + c.w) + wSBookChange r := by
      unfold wSBookChange
      simp only [List.length_cons, sumWBookChange]
      omega
    by_cases p : passB w c = true
    · by_cases q : (acc.length : Int) = most
      · rw [show nxt w most (c :: r) acc = (acc, some (lastV acc)) by rw [nxt, if_pos p, if_pos q]]
        exact Nat.le_add_right _ _
      · rw [show nxt w most (c :: r) acc = nxt w most r (acc ++ [c]) by rw [nxt, if_pos p, if_neg q]]
        omega
    · rw [show nxt w most (c :: r) acc = nxt w most r acc by rw [nxt, if_neg p]]
      omega
theorem next_w (b : VBook) (w : VBookWatch) (most : Int) : (nextB b w most).w ≤ b.w := by
  have h := nxt_sum w most b.history []
  have h0 : wSBookChange [] = 0 := rfl
  unfold nextB
  split
  · split
    · exact Nat.zero_le _
    · split
      · exact Nat.zero_le _
      · unfold VBookNews.w VBook.w
        simp only
        omega
  · exact Nat.zero_le _
theorem k7 (b : VBook) (w : VBookWatch) (most : Int) (hx : b.ok) (hy : w.ok) (hm0 : i64ok most) : EV Try.prog E 7 [.val 0 true (b.c .shr), .val 0 true w.c, .val 0 false [.p (.int .i64 most)]] = some ⟨[(false, [.p (.bool true)])], []⟩ := by
  refine EV_intro Try.func7 rfl ?_
  have hz := k_szBook b 1048576 hx (by omega) (by omega)
  simp only [VBook.c] at hz
  by_cases hc : (1048576 : Int) < b.w
  · rw [subW_lt hc] at hz
    simp only [rv0, rv1, rv2, rv3, rv4, rv5, rv6, rv7, rv8, rv9, rv10, rv11, rv12, rv13, rv14, rvE, rvH, rvS, rvI, eT, eQ, ↓reduceIte, Nat.reduceEqDiff, Nat.reduceAdd, Nat.reduceSub, Nat.reduceMul, Nat.reduceLeDiff, Nat.reduceBEq, decide_true, decide_false, reduceCtorEq, Int.reduceLT, Int.reduceNeg, rvN, Nat.reduceLT, Int.reduceLE, Int.reduceEq, eq_self, List.reduceReplicate, rvF, rvG, e7, e12, Try.f7, VBook.c, VBookWatch.c, hz]
  rw [subW_ge hc] at hz
  have hnn : ¬ ((1048576 : Int) - b.w < 0) := by omega
  have hw : b.w ≤ 4194304 := by omega
  have hz2 := k_szBookWatch w (1048576 - b.w) hy (by omega) (by omega)
  simp only [VBookWatch.c] at hz2
  by_cases hd : ((1048576 : Int) - b.w) < w.w
  · rw [subW_lt hd] at hz2
    simp only [rv0, rv1, rv2, rv3, rv4, rv5, rv6, rv7, rv8, rv9, rv10, rv11, rv12, rv13, rv14, rvE, rvH, rvS, rvI, eT, eQ, ↓reduceIte, Nat.reduceEqDiff, Nat.reduceAdd, Nat.reduceSub, Nat.reduceMul, Nat.reduceLeDiff, Nat.reduceBEq, decide_true, decide_false, reduceCtorEq, Int.reduceLT, Int.reduceNeg, rvN, Nat.reduceLT, Int.reduceLE, Int.reduceEq, eq_self, List.reduceReplicate, rvF, rvG, e7, e12, e39, Try.f7, VBook.c, VBookWatch.c, hz, hnn, hz2]
  rw [subW_ge hd] at hz2
  have hnn2 : ¬ ((1048576 : Int) - b.w - w.w < 0) := by omega
  have hww : w.w ≤ 4194304 := by omega
  have hoc := oc_leBook b
  have hyw := next_w b w most
  have hto := k_toBook b hw
  have htw := k_toBookWatch w hww
  have h1 := k40 b w most hw hm0
  have h2 := k42 b w most hw hm0
  have he := k_eqBook b hw
  generalize nextB b w most = y at *
  have hoy := oc_leBookNews y
  have hey := k_eqBookNews y (by omega)
  have hm := k_markBook b 1 (by omega) (by omega)
  have hmy := k_markBookNews y 1 (by omega) (by omega)
  have hh := k_heldBookNews y 1 (by omega) (by omega)
  have hn : ¬ (1 + (ocBook b : Int) < 0) := by omega
  have hny : ¬ (1 + (ocBookNews y : Int) < 0) := by omega
  simp only [VBook.c, VBookWatch.c, VBookNews.c, moBook, moBookNews] at h1 h2 he hey hm hmy hh hto htw
  simp only [rv0, rv1, rv2, rv3, rv4, rv5, rv6, rv7, rv8, rv9, rv10, rv11, rv12, rv13, rv14, rvE, rvH, rvS, rvI, eT, eQ, ↓reduceIte, Nat.reduceEqDiff, Nat.reduceAdd, Nat.reduceSub, Nat.reduceMul, Nat.reduceLeDiff, Nat.reduceBEq, decide_true, decide_false, reduceCtorEq, Int.reduceLT, Int.reduceNeg, rvN, Nat.reduceLT, Int.reduceLE, Int.reduceEq, eq_self, List.reduceReplicate, rvF, rvG, e7, e12, e14, e17, e18, e28, e30, e39, e40, e41, e42, e43, Try.f7, VBook.c, VBookWatch.c, VBookNews.c, hz, hnn, hz2, hnn2, h1, h2, he, hey, hm, hmy, hh, hto, htw, hn, hny, beq_self_eq_true, rowsBookObject, rowsBookChange, rowsBookTicket, rowsString]
end Go.Proofs.Ytdjapblnmkghoaa
