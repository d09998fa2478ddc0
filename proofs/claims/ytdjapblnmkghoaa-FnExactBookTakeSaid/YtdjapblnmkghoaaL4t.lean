/- FnExactBookTake: the law. -/
import Derived.Test.YtdjapblnmkghoaaT4u
import Derived.Test.YtdjapblnmkghoaaM3o
namespace Go.Proofs.Ytdjapblnmkghoaa
open Go.Sx
set_option maxRecDepth 100000
set_option maxHeartbeats 16000000
set_option linter.unusedVariables false
set_option linter.unusedSimpArgs false
theorem addF_same (t : Nat) (x : St) (F : List (Nat × St)) : addF t x F (some x) = some F := by simp [addF]
theorem tks_kind : ∀ (l : List VBookChange) (m : VBookMirror), (tks m l).kind = m.kind ∧ (tks m l).prefix_ = m.prefix_
  | [], m => ⟨rfl, rfl⟩
  | c :: l, m => by
    have e : tks m (c :: l) = tks (tk m c) l := rfl
    obtain ⟨h1, h2⟩ := tks_kind l (tk m c)
    rw [e, h1, h2]
    unfold tk
    split <;> exact ⟨rfl, rfl⟩
theorem takeM_w (m : VBookMirror) (n : VBookNews) : (takeM m n).w ≤ m.w + n.w := by
  unfold takeM
  split
  · omega
  · split
    · omega
    · split
      · have h := tks_w n.changes m
        obtain ⟨h1, h2⟩ := tks_kind n.changes m
        unfold VBookMirror.w VBookNews.w endT
        simp only [h1, h2]
        omega
      · omega
theorem k4 (m : VBookMirror) (n : VBookNews) (hx : m.ok) (hy : n.ok) : EV Try.prog E 4 [.val 0 true (m.c .shr), .val 0 true (n.c .shr)] = some ⟨[(false, [.p (.bool true)])], []⟩ := by
  refine EV_intro Try.func4 rfl ?_
  have hz := k_szBookMirror m 1048576 hx (by omega) (by omega)
  simp only [VBookMirror.c] at hz
  by_cases hc : (1048576 : Int) < m.w
  · rw [subW_lt hc] at hz
    simp only [rv0, rv1, rv2, rv3, rv4, rv5, rv6, rv7, rv8, rv9, rv10, rv11, rv12, rv13, rv14, rv15, rvE, rvH, rvS, rvI, eT, eQ, ↓reduceIte, Nat.reduceEqDiff, Nat.reduceAdd, Nat.reduceSub, Nat.reduceMul, Nat.reduceLeDiff, Nat.reduceBEq, decide_true, decide_false, reduceCtorEq, Int.reduceLT, Int.reduceNeg, rvN, Nat.reduceLT, Int.reduceLE, Int.reduceEq, eq_self, List.reduceReplicate, rvF, rvG, e4, e21, Try.f4, VBookMirror.c, VBookNews.c, hz]
  rw [subW_ge hc] at hz
  have hnn : ¬ ((1048576 : Int) - m.w < 0) := by omega
  have hw : m.w ≤ 4194304 := by omega
  have hz2 := k_szBookNews n (1048576 - m.w) hy (by omega) (by omega)
  simp only [VBookNews.c] at hz2
  by_cases hd : ((1048576 : Int) - m.w) < n.w
  · rw [subW_lt hd] at hz2
    simp only [rv0, rv1, rv2, rv3, rv4, rv5, rv6, rv7, rv8, rv9, rv10, rv11, rv12, rv13, rv14, rv15, rvE, rvH, rvS, rvI, eT, eQ, ↓reduceIte, Nat.reduceEqDiff, Nat.reduceAdd, Nat.reduceSub, Nat.reduceMul, Nat.reduceLeDiff, Nat.reduceBEq, decide_true, decide_false, reduceCtorEq, Int.reduceLT, Int.reduceNeg, rvN, Nat.reduceLT, Int.reduceLE, Int.reduceEq, eq_self, List.reduceReplicate, rvF, rvG, e4, e21, e22, Try.f4, VBookMirror.c, VBookNews.c, hz, hnn, hz2]
  rw [subW_ge hd] at hz2
  have hnn2 : ¬ ((1048576 : Int) - m.w - n.w < 0) := by omega
  have hnw : n.w ≤ 4194304 := by omega
  have hom := oc_leBookMirror m
  have hon := oc_leBookNews n
  have hyw := takeM_w m n
  have htm := k_toBookMirror m hw
  have htn := k_toBookNews n hnw
  have h1 := k23 m n (by omega)
  have h2 := k26 m n (by omega)
  have hem := k_eqBookMirror m hw
  have hen := k_eqBookNews n hnw
  generalize takeM m n = y at *
  generalize takeC m n = cc at *
  generalize takeB m n = bb at *
  have hoy := oc_leBookMirror y
  have hey := k_eqBookMirror y (by omega)
  have hmm := k_markBookMirror m 1 (by omega) (by omega)
  have hmn := k_markBookNews n (1 + (ocBookMirror m : Nat)) (by omega) (by omega)
  have hmy := k_markBookMirror y 1 (by omega) (by omega)
  have hh := k_heldBookMirror y 1 (by omega) (by omega)
  have hn : ¬ (1 + (ocBookMirror m : Int) + (ocBookNews n : Int) < 0) := by omega
  have hny : ¬ (1 + (ocBookMirror y : Int) < 0) := by omega
  simp only [VBookMirror.c, VBookNews.c, moBookMirror, moBookNews] at h1 h2 hem hen hey hmm hmn hmy hh htm htn
  simp only [VBookMirror.m] at h1
  cases bb
  · cases hmr : mineRows (y.objects.map (VBookObject.c .shr))
    all_goals
      simp only [flB_f] at h1
      simp only [addF_same, rv0, rv1, rv2, rv3, rv4, rv5, rv6, rv7, rv8, rv9, rv10, rv11, rv12, rv13, rv14, rv15, rvE, rvH, rvS, rvI, eT, eQ, ↓reduceIte, Nat.reduceEqDiff, Nat.reduceAdd, Nat.reduceSub, Nat.reduceMul, Nat.reduceLeDiff, Nat.reduceBEq, decide_true, decide_false, reduceCtorEq, Int.reduceLT, Int.reduceNeg, rvN, Nat.reduceLT, Int.reduceLE, Int.reduceEq, eq_self, List.reduceReplicate, rvF, rvG, e4, e21, e22, e23, e24, e25, e26, e27, e28, e29, e30, e31, Try.f4, VBookMirror.c, VBookNews.c, hmr, hz, hnn, hz2, hnn2, h1, h2, hem, hen, hey, hmm, hmn, hmy, hh, htm, htn, hn, hny, beq_self_eq_true, rowsBookObject, rowsBookChange, rowsShr, rowsString]
  · simp only [flB_t] at h1
    simp only [addF_same, rv0, rv1, rv2, rv3, rv4, rv5, rv6, rv7, rv8, rv9, rv10, rv11, rv12, rv13, rv14, rv15, rvE, rvH, rvS, rvI, eT, eQ, ↓reduceIte, Nat.reduceEqDiff, Nat.reduceAdd, Nat.reduceSub, Nat.reduceMul, Nat.reduceLeDiff, Nat.reduceBEq, decide_true, decide_false, reduceCtorEq, Int.reduceLT, Int.reduceNeg, rvN, Nat.reduceLT, Int.reduceLE, Int.reduceEq, eq_self, List.reduceReplicate, rvF, rvG, e4, e21, e22, e23, e24, e25, e26, e27, e28, e29, e30, e31, Try.f4, VBookMirror.c, VBookNews.c, hz, hnn, hz2, hnn2, h1, h2, hem, hen, hey, hmm, hmn, hmy, hh, htm, htn, hn, hny, beq_self_eq_true, rowsBookObject, rowsBookChange, rowsShr, rowsString]
end Go.Proofs.Ytdjapblnmkghoaa

