/- FnExactBookRelist: what the functions compute. -/
import Derived.Test.YtdjapblnmkghoaaC4
namespace Go.Proofs.Ytdjapblnmkghoaa
open Go.Sx
set_option maxRecDepth 100000
set_option maxHeartbeats 4000000
set_option linter.unusedVariables false
set_option linter.unusedSimpArgs false
theorem filter_w (p : VBookObject → Bool) : ∀ l : List VBookObject, wSBookObject (l.filter p) ≤ wSBookObject l
  | [] => Nat.le_refl _
  | x :: l => by
    have ih := filter_w p l
    unfold wSBookObject at *
    rw [List.filter_cons]
    split
    · simp only [List.length_cons, sumWBookObject]; omega
    · simp only [List.length_cons, sumWBookObject]; omega
theorem blist_w (b : VBook) (k p : ByteArray) : wSBookObject (blist b k p) ≤ b.w := by
  unfold blist
  split
  · have := filter_w (looksB k p) b.objects
    unfold VBook.w lst
    omega
  · exact Nat.zero_le _
theorem brel_w (b : VBook) (m : VBookMirror) : (brel b m).w ≤ m.w + b.w := by
  have := blist_w b m.kind m.prefix_
  unfold brel VBookMirror.w
  simp only
  omega
theorem k8 (b : VBook) (m : VBookMirror) (hx : b.ok) (hy : m.ok) : EV Try.prog E 8 [.val 0 true (b.c .shr), .val 0 true (m.c .shr)] = some ⟨[(false, [.p (.bool true)])], []⟩ := by
  refine EV_intro Try.func8 rfl ?_
  have hz := k_szBook b 1048576 hx (by omega) (by omega)
  simp only [VBook.c] at hz
  by_cases hc : (1048576 : Int) < b.w
  · rw [subW_lt hc] at hz
    simp only [rv0, rv1, rv2, rv3, rv4, rv5, rv6, rv7, rv8, rv9, rv10, rv11, rv12, rv13, rv14, rvE, rvH, rvS, rvI, eT, eQ, ↓reduceIte, Nat.reduceEqDiff, Nat.reduceAdd, Nat.reduceSub, Nat.reduceMul, Nat.reduceLeDiff, Nat.reduceBEq, decide_true, decide_false, reduceCtorEq, Int.reduceLT, Int.reduceNeg, rvN, Nat.reduceLT, Int.reduceLE, Int.reduceEq, eq_self, List.reduceReplicate, rvF, rvG, e8, e12, Try.f8, VBook.c, VBookMirror.c, hz]
  rw [subW_ge hc] at hz
  have hnn : ¬ ((1048576 : Int) - b.w < 0) := by omega
  have hw : b.w ≤ 4194304 := by omega
  have hz2 := k_szBookMirror m (1048576 - b.w) hy (by omega) (by omega)
  simp only [VBookMirror.c] at hz2
  by_cases hd : ((1048576 : Int) - b.w) < m.w
  · rw [subW_lt hd] at hz2
    simp only [rv0, rv1, rv2, rv3, rv4, rv5, rv6, rv7, rv8, rv9, rv10, rv11, rv12, rv13, rv14, rvE, rvH, rvS, rvI, eT, eQ, ↓reduceIte, Nat.reduceEqDiff, Nat.reduceAdd, Nat.reduceSub, Nat.reduceMul, Nat.reduceLeDiff, Nat.reduceBEq, decide_true, decide_false, reduceCtorEq, Int.reduceLT, Int.reduceNeg, rvN, Nat.reduceLT, Int.reduceLE, Int.reduceEq, eq_self, List.reduceReplicate, rvF, rvG, e8, e12, e21, Try.f8, VBook.c, VBookMirror.c, hz, hnn, hz2]
  rw [subW_ge hd] at hz2
  have hnn2 : ¬ ((1048576 : Int) - b.w - m.w < 0) := by omega
  have hmw : m.w ≤ 4194304 := by omega
  have hoc := oc_leBook b
  have hom := oc_leBookMirror m
  have hyw := brel_w b m
  have hto := k_toBook b hw
  have htm := k_toBookMirror m hmw
  have h1 := k44 b m hw hmw
  have h2 := k45 b m hw
  have he := k_eqBook b hw
  have hem := k_eqBookMirror m hmw
  generalize brel b m = y at *
  have hoy := oc_leBookMirror y
  have hey := k_eqBookMirror y (by omega)
  have hm := k_markBook b 1 (by omega) (by omega)
  have hmm := k_markBookMirror m (1 + (ocBook b : Nat)) (by omega) (by omega)
  have hmy := k_markBookMirror y 1 (by omega) (by omega)
  have hh := k_heldBookMirror y 1 (by omega) (by omega)
  have hn : ¬ (1 + (ocBook b : Int) + (ocBookMirror m : Int) < 0) := by omega
  have hny : ¬ (1 + (ocBookMirror y : Int) < 0) := by omega
  simp only [VBook.c, VBookMirror.c, moBook, moBookMirror] at h1 h2 he hem hey hm hmm hmy hh hto htm
  simp only [rv0, rv1, rv2, rv3, rv4, rv5, rv6, rv7, rv8, rv9, rv10, rv11, rv12, rv13, rv14, rvE, rvH, rvS, rvI, eT, eQ, ↓reduceIte, Nat.reduceEqDiff, Nat.reduceAdd, Nat.reduceSub, Nat.reduceMul, Nat.reduceLeDiff, Nat.reduceBEq, decide_true, decide_false, reduceCtorEq, Int.reduceLT, Int.reduceNeg, rvN, Nat.reduceLT, Int.reduceLE, Int.reduceEq, eq_self, List.reduceReplicate, rvF, rvG, e8, e12, e14, e17, e18, e21, e24, e27, e29, e31, e44, e45, Try.f8, VBook.c, VBookMirror.c, hz, hnn, hz2, hnn2, h1, h2, he, hem, hey, hm, hmm, hmy, hh, hto, htm, hn, hny, beq_self_eq_true, rowsBookObject, rowsBookChange, rowsBookTicket, rowsString]
end Go.Proofs.Ytdjapblnmkghoaa
