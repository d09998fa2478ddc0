/- News: views, conversions, marks (written by a program). -/
import Derived.Test.YtdjapblnmkghoaaF3m
namespace Go.Proofs.Ytdjapblnmkghoaa
open Go.Sx
set_option maxRecDepth 100000
set_option maxHeartbeats 4000000
set_option linter.unusedVariables false
set_option linter.unusedSimpArgs false
structure VBookNews where
  code : Int
  changes : List VBookChange
  from_ : Int
def VBookNews.c (f : Fl) (x : VBookNews) : List C := [.p (.int .i64 x.code), .sl f 9 (x.changes.map (VBookChange.c f)), .p (.int .i64 x.from_)]
def VBookNews.w (x : VBookNews) : Nat := wSBookChange x.changes
def VBookNews.ok (x : VBookNews) : Prop := i64ok x.code ∧ (x.changes.length ≤ maxLen ∧ ∀ e ∈ x.changes, e.ok) ∧ i64ok x.from_
theorem k_szBookNews (x : VBookNews) (left : Int) (hx : x.ok) (h0 : 0 ≤ left) (h1 : left ≤ 1048576) : EV Try.prog E 22 [.val 0 true (VBookNews.c .shr x), .val 0 false [.p (.int .i64 left)]] = some ⟨[(false, [.p (.int .i64 (subW left x.w))])], []⟩ := by
  refine EV_intro Try.func22 rfl ?_
  have hx0 := hx
  simp only [VBookNews.ok] at hx
  obtain ⟨o_code, o_changes, o_from_⟩ := hx
  have w0 := k_szBookChangeS x.changes (left) o_changes (by omega) (by omega)
  by_cases c0 : left < (wSBookChange x.changes : Nat)
  · have e : subW left x.w = -1 := subW_lt (by unfold VBookNews.w; omega)
    rw [subW_lt c0] at w0
    simp only [rv0, rv1, rv2, rv3, rv4, rv5, rv6, rv7, rv8, rv9, rv10, rv11, rv12, rv13, rv14, rv15, rvE, rvH, rvS, rvI, eT, eQ, ↓reduceIte, Nat.reduceEqDiff, Nat.reduceAdd, Nat.reduceSub, Nat.reduceMul, Nat.reduceLeDiff, Nat.reduceBEq, decide_true, decide_false, reduceCtorEq, Int.reduceLT, Int.reduceNeg, rvN, Nat.reduceLT, Int.reduceLE, Int.reduceEq, eq_self, List.reduceReplicate, rvF, rvG, e22, e54, Try.f22, VBookNews.c, w0, e]
  rw [subW_ge c0] at w0
  have d0 : ¬ (left - (wSBookChange x.changes : Nat) < 0) := by omega
  have e : subW left x.w = left - (wSBookChange x.changes : Nat) := by rw [subW_ge (by unfold VBookNews.w; omega)]; unfold VBookNews.w; omega
  simp only [rv0, rv1, rv2, rv3, rv4, rv5, rv6, rv7, rv8, rv9, rv10, rv11, rv12, rv13, rv14, rv15, rvE, rvH, rvS, rvI, eT, eQ, ↓reduceIte, Nat.reduceEqDiff, Nat.reduceAdd, Nat.reduceSub, Nat.reduceMul, Nat.reduceLeDiff, Nat.reduceBEq, decide_true, decide_false, reduceCtorEq, Int.reduceLT, Int.reduceNeg, rvN, Nat.reduceLT, Int.reduceLE, Int.reduceEq, eq_self, List.reduceReplicate, rvF, rvG, e22, e54, Try.f22, VBookNews.c, w0, d0, e]
theorem k_toBookNews (x : VBookNews) (hw : x.w ≤ 4194304) : EV Try.prog E 25 [.val 0 true (VBookNews.c .shr x)] = some ⟨[(true, VBookNews.c .own x)], []⟩ := by
  refine EV_intro Try.func25 rfl ?_
  unfold VBookNews.w at hw
  have h0 := k_toBookChangeS x.changes (by omega)
  simp only [rv0, rv1, rv2, rv3, rv4, rv5, rv6, rv7, rv8, rv9, rv10, rv11, rv12, rv13, rv14, rv15, rvE, rvH, rvS, rvI, eT, eQ, ↓reduceIte, Nat.reduceEqDiff, Nat.reduceAdd, Nat.reduceSub, Nat.reduceMul, Nat.reduceLeDiff, Nat.reduceBEq, decide_true, decide_false, reduceCtorEq, Int.reduceLT, Int.reduceNeg, rvN, Nat.reduceLT, Int.reduceLE, Int.reduceEq, eq_self, List.reduceReplicate, rvF, rvG, e25, e58, Try.f25, VBookNews.c, h0, rowsBookChange]
theorem k_eqBookNews (x : VBookNews) (hw : x.w ≤ 4194304) : EV Try.prog E 28 [.val 0 true (VBookNews.c .shr x), .val 0 true (VBookNews.c .shr x)] = some ⟨[(false, [.p (.bool true)])], []⟩ := by
  refine EV_intro Try.func28 rfl ?_
  unfold VBookNews.w at hw
  have h0 := k_eqBookChangeS x.changes (by omega)
  simp only [rv0, rv1, rv2, rv3, rv4, rv5, rv6, rv7, rv8, rv9, rv10, rv11, rv12, rv13, rv14, rv15, rvE, rvH, rvS, rvI, eT, eQ, ↓reduceIte, Nat.reduceEqDiff, Nat.reduceAdd, Nat.reduceSub, Nat.reduceMul, Nat.reduceLeDiff, Nat.reduceBEq, decide_true, decide_false, reduceCtorEq, Int.reduceLT, Int.reduceNeg, rvN, Nat.reduceLT, Int.reduceLE, Int.reduceEq, eq_self, List.reduceReplicate, rvF, rvG, e28, e63, Try.f28, VBookNews.c, h0, beq_self_eq_true]
def moBookNews (x : VBookNews) (k : Int) : VBookNews := ⟨x.code, mkL mkBookChange mcBookChange x.changes (k), x.from_⟩
def ocBookNews (x : VBookNews) : Nat := mcL mcBookChange x.changes
theorem k_markBookNews (x : VBookNews) (k : Int) (h0 : 0 ≤ k) (hb : k + (ocBookNews x : Nat) ≤ 4611686018427387904) : EV Try.prog E 30 [.val 0 true (VBookNews.c .own x), .val 0 false [.p (.int .i64 k)]] = some ⟨[(false, [.p (.int .i64 (k + (ocBookNews x : Nat)))])], [VBookNews.c .own (moBookNews x k)]⟩ := by
  refine EV_intro Try.func30 rfl ?_
  unfold ocBookNews at hb ⊢
  have hm0 := k_markBookChangeS x.changes (k) (by omega) (by omega)
  have he : k + ((mcL mcBookChange x.changes : Nat) : Int) = k + (mcL mcBookChange x.changes : Nat) := by omega
  rw [he]
  simp only [rv0, rv1, rv2, rv3, rv4, rv5, rv6, rv7, rv8, rv9, rv10, rv11, rv12, rv13, rv14, rv15, rvE, rvH, rvS, rvI, eT, eQ, ↓reduceIte, Nat.reduceEqDiff, Nat.reduceAdd, Nat.reduceSub, Nat.reduceMul, Nat.reduceLeDiff, Nat.reduceBEq, decide_true, decide_false, reduceCtorEq, Int.reduceLT, Int.reduceNeg, rvN, Nat.reduceLT, Int.reduceLE, Int.reduceEq, eq_self, List.reduceReplicate, rvF, rvG, e30, e65, Try.f30, VBookNews.c, moBookNews, hm0, rowsBookChange]
theorem oc_leBookNews (x : VBookNews) : ocBookNews x ≤ 8 * x.w := by
  have h0 := mcL_leBookChange x.changes
  unfold ocBookNews VBookNews.w
  omega
end Go.Proofs.Ytdjapblnmkghoaa

