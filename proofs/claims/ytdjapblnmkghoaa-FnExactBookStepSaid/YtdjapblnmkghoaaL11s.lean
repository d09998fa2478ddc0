/- FnExactBookStep: what the functions compute; the law. -/
import Derived.Test.YtdjapblnmkghoaaL4t
import Derived.Test.YtdjapblnmkghoaaL3n
import Derived.Test.YtdjapblnmkghoaaL3r
namespace Go.Proofs.Ytdjapblnmkghoaa
open Go.Sx
set_option maxRecDepth 100000
set_option maxHeartbeats 32000000
set_option linter.unusedVariables false
set_option linter.unusedSimpArgs false
def watchM (m : VBookMirror) : VBookWatch := ⟨m.kind, m.prefix_, m.at_⟩
def stepM (b : VBook) (m : VBookMirror) (most : Int) : VBookMirror := if (nextB b (watchM m) most).code = 2 then brel b m else takeM m (nextB b (watchM m) most)
def stepC (b : VBook) (m : VBookMirror) (most : Int) : Int := if (nextB b (watchM m) most).code = 2 then 2 else takeC m (nextB b (watchM m) most)
def stepF (b : VBook) (m : VBookMirror) (most : Int) : Bool := if (nextB b (watchM m) most).code = 2 then true else takeB m (nextB b (watchM m) most)
theorem k51 (b : VBook) (m : VBookMirror) (most : Int) (hw : b.w + m.w ≤ 4194304) (hm : i64ok most) : EV Try.prog E 51 [.val 0 true (b.c .shr), .val 0 true (m.c .shr), .val 0 false [.p (.int .i64 most)]] = some ⟨[(true, (stepM b m most).m (stepF b m most)), (false, [.p (.int .i64 (stepC b m most))])], []⟩ := by
  refine EV_intro Try.func51 rfl ?_
  have h1 := k40 b (watchM m) most (by omega) hm
  have h2 := k44 b m (by omega) (by omega)
  have hnw := next_w b (watchM m) most
  unfold stepM stepF stepC
  generalize nextB b (watchM m) most = n at *
  have h3 := k23 m n (by omega)
  simp only [VBook.c, VBookMirror.c, VBookWatch.c, watchM, VBookNews.c] at h1 h2 h3
  by_cases c2 : n.code = 2
  · rw [if_pos c2, if_pos c2, if_pos c2]
    rw [c2] at h1
    simp only [rv0, rv1, rvE, rvH, rvS, rvI, eT, eQ, ↓reduceIte, Nat.reduceEqDiff, Nat.reduceAdd, Nat.reduceSub, Nat.reduceMul, Nat.reduceLeDiff, Nat.reduceBEq, decide_true, decide_false, reduceCtorEq, Int.reduceLT, Int.reduceNeg, rvN, Nat.reduceLT, Int.reduceLE, Int.reduceEq, eq_self, List.reduceReplicate, rvF, rvG, e51, e40, e44, Try.f51, VBook.c, VBookMirror.c, VBookMirror.m, flB_t, h1, h2, rowsBookChange, rowsBookObject]
  · rw [if_neg c2, if_neg c2, if_neg c2]
    generalize takeM m n = y at *
    generalize takeC m n = cc at *
    generalize takeB m n = bb at *
    simp only [VBookMirror.m] at h3
    cases bb
    · cases hmr : mineRows (y.objects.map (VBookObject.c .shr))
      all_goals
        simp only [flB_f] at h3
        simp only [rv0, rv1, rvE, rvH, rvS, rvI, eT, eQ, ↓reduceIte, Nat.reduceEqDiff, Nat.reduceAdd, Nat.reduceSub, Nat.reduceMul, Nat.reduceLeDiff, Nat.reduceBEq, decide_true, decide_false, reduceCtorEq, Int.reduceLT, Int.reduceNeg, rvN, Nat.reduceLT, Int.reduceLE, Int.reduceEq, eq_self, List.reduceReplicate, rvF, rvG, e51, e40, e23, Try.f51, VBook.c, VBookMirror.c, VBookMirror.m, flB_f, h1, h3, c2, hmr, rowsBookChange, rowsBookObject, rowsShr]
    · simp only [flB_t] at h3
      simp only [rv0, rv1, rvE, rvH, rvS, rvI, eT, eQ, ↓reduceIte, Nat.reduceEqDiff, Nat.reduceAdd, Nat.reduceSub, Nat.reduceMul, Nat.reduceLeDiff, Nat.reduceBEq, decide_true, decide_false, reduceCtorEq, Int.reduceLT, Int.reduceNeg, rvN, Nat.reduceLT, Int.reduceLE, Int.reduceEq, eq_self, List.reduceReplicate, rvF, rvG, e51, e40, e23, Try.f51, VBook.c, VBookMirror.c, VBookMirror.m, flB_t, h1, h3, c2, rowsBookChange, rowsBookObject, rowsShr]
theorem k52 (b : VBook) (m : VBookMirror) (most : Int) (hw : b.w + m.w ≤ 4194304) (hm : i64ok most) : EV Try.prog E 52 [.val 0 true (b.c .shr), .val 0 true (m.c .shr), .val 0 false [.p (.int .i64 most)]] = some ⟨[(true, (stepM b m most).c .own), (false, [.p (.int .i64 (stepC b m most))])], []⟩ := by
  refine EV_intro Try.func52 rfl ?_
  have h1 := k42 b (watchM m) most (by omega) hm
  have h2 := k45 b m (by omega)
  have hnw := next_w b (watchM m) most
  unfold stepM stepC
  generalize nextB b (watchM m) most = n at *
  have h3 := k26 m n (by omega)
  have h4 := k71 m (by omega)
  have e1 : n.code = 1 → takeM m n = m ∧ takeC m n = 1 := fun h => by
    have : n.code ≠ 0 := by omega
    unfold takeM takeC
    rw [if_pos this, if_pos this]
    exact ⟨rfl, rfl⟩
  simp only [VBook.c, VBookMirror.c, VBookWatch.c, watchM, VBookNews.c] at h1 h2 h3 h4
  by_cases c1 : n.code = 1
  · rw [(e1 c1).1, (e1 c1).2, if_neg (by omega), if_neg (by omega)]
    rw [c1] at h1
    simp only [rv0, rv1, rvE, rvH, rvS, rvI, eT, eQ, ↓reduceIte, Nat.reduceEqDiff, Nat.reduceAdd, Nat.reduceSub, Nat.reduceMul, Nat.reduceLeDiff, Nat.reduceBEq, decide_true, decide_false, reduceCtorEq, Int.reduceLT, Int.reduceNeg, rvN, Nat.reduceLT, Int.reduceLE, Int.reduceEq, eq_self, List.reduceReplicate, rvF, rvG, e52, e42, e71, Try.f52, VBook.c, VBookMirror.c, h1, h4, rowsBookChange, rowsBookObject]
  by_cases c2 : n.code = 2
  · rw [if_pos c2, if_pos c2]
    rw [c2] at h1
    simp only [rv0, rv1, rvE, rvH, rvS, rvI, eT, eQ, ↓reduceIte, Nat.reduceEqDiff, Nat.reduceAdd, Nat.reduceSub, Nat.reduceMul, Nat.reduceLeDiff, Nat.reduceBEq, decide_true, decide_false, reduceCtorEq, Int.reduceLT, Int.reduceNeg, rvN, Nat.reduceLT, Int.reduceLE, Int.reduceEq, eq_self, List.reduceReplicate, rvF, rvG, e52, e42, e45, Try.f52, VBook.c, VBookMirror.c, h1, h2, rowsBookChange, rowsBookObject]
  · rw [if_neg c2, if_neg c2]
    generalize takeM m n = y at *
    generalize takeC m n = cc at *
    simp only [rv0, rv1, rvE, rvH, rvS, rvI, eT, eQ, ↓reduceIte, Nat.reduceEqDiff, Nat.reduceAdd, Nat.reduceSub, Nat.reduceMul, Nat.reduceLeDiff, Nat.reduceBEq, decide_true, decide_false, reduceCtorEq, Int.reduceLT, Int.reduceNeg, rvN, Nat.reduceLT, Int.reduceLE, Int.reduceEq, eq_self, List.reduceReplicate, rvF, rvG, e52, e42, e26, Try.f52, VBook.c, VBookMirror.c, h1, h3, c1, c2, rowsBookChange, rowsBookObject]
theorem stepM_w (b : VBook) (m : VBookMirror) (most : Int) : (stepM b m most).w ≤ b.w + m.w := by
  unfold stepM
  split
  · have := brel_w b m; omega
  · have := takeM_w m (nextB b (watchM m) most)
    have := next_w b (watchM m) most
    omega
theorem k11 (b : VBook) (m : VBookMirror) (most : Int) (hx : b.ok) (hy : m.ok) (hm0 : i64ok most) : EV Try.prog E 11 [.val 0 true (b.c .shr), .val 0 true (m.c .shr), .val 0 false [.p (.int .i64 most)]] = some ⟨[(false, [.p (.bool true)])], []⟩ := by
  refine EV_intro Try.func11 rfl ?_
  have hz := k_szBook b 1048576 hx (by omega) (by omega)
  simp only [VBook.c] at hz
  by_cases hc : (1048576 : Int) < b.w
  · rw [subW_lt hc] at hz
    simp only [rv0, rv1, rvE, rvH, rvS, rvI, eT, eQ, ↓reduceIte, Nat.reduceEqDiff, Nat.reduceAdd, Nat.reduceSub, Nat.reduceMul, Nat.reduceLeDiff, Nat.reduceBEq, decide_true, decide_false, reduceCtorEq, Int.reduceLT, Int.reduceNeg, rvN, Nat.reduceLT, Int.reduceLE, Int.reduceEq, eq_self, List.reduceReplicate, rvF, rvG, e11, e12, Try.f11, VBook.c, VBookMirror.c, hz]
  rw [subW_ge hc] at hz
  have hnn : ¬ ((1048576 : Int) - b.w < 0) := by omega
  have hw : b.w ≤ 4194304 := by omega
  have hz2 := k_szBookMirror m (1048576 - b.w) hy (by omega) (by omega)
  simp only [VBookMirror.c] at hz2
  by_cases hd : ((1048576 : Int) - b.w) < m.w
  · rw [subW_lt hd] at hz2
    simp only [rv0, rv1, rvE, rvH, rvS, rvI, eT, eQ, ↓reduceIte, Nat.reduceEqDiff, Nat.reduceAdd, Nat.reduceSub, Nat.reduceMul, Nat.reduceLeDiff, Nat.reduceBEq, decide_true, decide_false, reduceCtorEq, Int.reduceLT, Int.reduceNeg, rvN, Nat.reduceLT, Int.reduceLE, Int.reduceEq, eq_self, List.reduceReplicate, rvF, rvG, e11, e12, e21, Try.f11, VBook.c, VBookMirror.c, hz, hnn, hz2]
  rw [subW_ge hd] at hz2
  have hnn2 : ¬ ((1048576 : Int) - b.w - m.w < 0) := by omega
  have hmw : m.w ≤ 4194304 := by omega
  have hoc := oc_leBook b
  have hom := oc_leBookMirror m
  have hyw := stepM_w b m most
  have hto := k_toBook b hw
  have htm := k_toBookMirror m hmw
  have h1 := k51 b m most (by omega) hm0
  have h2 := k52 b m most (by omega) hm0
  have he := k_eqBook b hw
  have hem := k_eqBookMirror m hmw
  generalize stepM b m most = y at *
  generalize stepC b m most = cc at *
  generalize stepF b m most = bb at *
  have hoy := oc_leBookMirror y
  have hey := k_eqBookMirror y (by omega)
  have hm := k_markBook b 1 (by omega) (by omega)
  have hmm := k_markBookMirror m (1 + (ocBook b : Nat)) (by omega) (by omega)
  have hmy := k_markBookMirror y 1 (by omega) (by omega)
  have hh := k_heldBookMirror y 1 (by omega) (by omega)
  have hn : ¬ (1 + (ocBook b : Int) + (ocBookMirror m : Int) < 0) := by omega
  have hny : ¬ (1 + (ocBookMirror y : Int) < 0) := by omega
  simp only [VBook.c, VBookMirror.c, moBook, moBookMirror] at h1 h2 he hem hey hm hmm hmy hh hto htm
  simp only [VBookMirror.m] at h1
  cases bb
  · cases hmr : mineRows (y.objects.map (VBookObject.c .shr))
    all_goals
      simp only [flB_f] at h1
      simp (maxSteps := 100000000) only [addF_same, n11_8, n11_31, rv0, rv1, rvE, rvH, rvS, rvI, eT, eQ, ↓reduceIte, Nat.reduceEqDiff, Nat.reduceAdd, Nat.reduceSub, Nat.reduceMul, Nat.reduceLeDiff, Nat.reduceBEq, decide_true, decide_false, reduceCtorEq, Int.reduceLT, Int.reduceNeg, rvN, Nat.reduceLT, Int.reduceLE, Int.reduceEq, eq_self, List.reduceReplicate, rvF, rvG, e11, e12, e14, e17, e18, e21, e24, e27, e29, e31, e51, e52, Try.f11, VBook.c, VBookMirror.c, hmr, hz, hnn, hz2, hnn2, h1, h2, he, hem, hey, hm, hmm, hmy, hh, hto, htm, hn, hny, beq_self_eq_true, rowsBookObject, rowsBookChange, rowsBookTicket, rowsShr, rowsString]
  · simp only [flB_t] at h1
    simp (maxSteps := 100000000) only [addF_same, n11_8, n11_31, rv0, rv1, rvE, rvH, rvS, rvI, eT, eQ, ↓reduceIte, Nat.reduceEqDiff, Nat.reduceAdd, Nat.reduceSub, Nat.reduceMul, Nat.reduceLeDiff, Nat.reduceBEq, decide_true, decide_false, reduceCtorEq, Int.reduceLT, Int.reduceNeg, rvN, Nat.reduceLT, Int.reduceLE, Int.reduceEq, eq_self, List.reduceReplicate, rvF, rvG, e11, e12, e14, e17, e18, e21, e24, e27, e29, e31, e51, e52, Try.f11, VBook.c, VBookMirror.c, hz, hnn, hz2, hnn2, h1, h2, he, hem, hey, hm, hmm, hmy, hh, hto, htm, hn, hny, beq_self_eq_true, rowsBookObject, rowsBookChange, rowsBookTicket, rowsShr, rowsString]
end Go.Proofs.Ytdjapblnmkghoaa

