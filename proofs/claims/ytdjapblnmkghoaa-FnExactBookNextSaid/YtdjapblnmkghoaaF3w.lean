/- Watches: views, conversions (written by a program). -/
import Derived.Test.YtdjapblnmkghoaaF3n
namespace Go.Proofs.Ytdjapblnmkghoaa
open Go.Sx
set_option maxRecDepth 100000
set_option maxHeartbeats 4000000
set_option linter.unusedVariables false
set_option linter.unusedSimpArgs false
structure VBookWatch where
  kind : ByteArray
  prefix_ : ByteArray
  from_ : Int
def VBookWatch.c (x : VBookWatch) : List C := [.p (.string x.kind), .p (.string x.prefix_), .p (.int .i64 x.from_)]
def VBookWatch.w (x : VBookWatch) : Nat := x.kind.size + x.prefix_.size
def VBookWatch.ok (x : VBookWatch) : Prop := x.kind.size ≤ maxLen ∧ x.prefix_.size ≤ maxLen ∧ i64ok x.from_
theorem rowsBookWatch (l : List VBookWatch) : borRows (l.map VBookWatch.c) = l.map VBookWatch.c ∧ mineRows (l.map VBookWatch.c) = true ∧ wholeRows (l.map VBookWatch.c) = true ∧ allFreeRows (l.map VBookWatch.c) = true := flat_rows VBookWatch.c (fun _ => rfl) l
theorem k_szBookWatch (x : VBookWatch) (left : Int) (hx : x.ok) (h0 : 0 ≤ left) (h1 : left ≤ 1048576) : EV Try.prog E 39 [.val 0 true (VBookWatch.c x), .val 0 false [.p (.int .i64 left)]] = some ⟨[(false, [.p (.int .i64 (subW left x.w))])], []⟩ := by
  refine EV_intro Try.func39 rfl ?_
  have hx0 := hx
  simp only [VBookWatch.ok] at hx
  obtain ⟨o_kind, o_prefix_, o_from_⟩ := hx
  have w0 := wrap64 (n := left - x.kind.size) (by unfold maxLen at *; omega) (by omega)
  by_cases c0 : left < (x.kind.size : Nat)
  · have e : subW left x.w = -1 := subW_lt (by unfold VBookWatch.w; omega)
    have d0 : left - (x.kind.size : Int) < 0 := by omega
    simp only [rv0, rv1, rv2, rv3, rv4, rv5, rv6, rv7, rv8, rv9, rv10, rv11, rv12, rv13, rv14, rvE, rvH, rvS, rvI, eT, eQ, ↓reduceIte, Nat.reduceEqDiff, Nat.reduceAdd, Nat.reduceSub, Nat.reduceMul, Nat.reduceLeDiff, Nat.reduceBEq, decide_true, decide_false, reduceCtorEq, Int.reduceLT, Int.reduceNeg, rvN, Nat.reduceLT, Int.reduceLE, Int.reduceEq, eq_self, List.reduceReplicate, rvF, rvG, e39, Try.f39, VBookWatch.c, w0, d0, e]
  have d0 : ¬ (left - (x.kind.size : Nat) < 0) := by omega
  have w1 := wrap64 (n := left - (x.kind.size : Nat) - x.prefix_.size) (by unfold maxLen at *; omega) (by omega)
  by_cases c1 : left - (x.kind.size : Nat) < (x.prefix_.size : Nat)
  · have e : subW left x.w = -1 := subW_lt (by unfold VBookWatch.w; omega)
    have d1 : left - (x.kind.size : Nat) - (x.prefix_.size : Int) < 0 := by omega
    simp only [rv0, rv1, rv2, rv3, rv4, rv5, rv6, rv7, rv8, rv9, rv10, rv11, rv12, rv13, rv14, rvE, rvH, rvS, rvI, eT, eQ, ↓reduceIte, Nat.reduceEqDiff, Nat.reduceAdd, Nat.reduceSub, Nat.reduceMul, Nat.reduceLeDiff, Nat.reduceBEq, decide_true, decide_false, reduceCtorEq, Int.reduceLT, Int.reduceNeg, rvN, Nat.reduceLT, Int.reduceLE, Int.reduceEq, eq_self, List.reduceReplicate, rvF, rvG, e39, Try.f39, VBookWatch.c, w0, d0, w1, d1, e]
  have d1 : ¬ (left - (x.kind.size : Nat) - (x.prefix_.size : Nat) < 0) := by omega
  have e : subW left x.w = left - (x.kind.size : Nat) - (x.prefix_.size : Nat) := by rw [subW_ge (by unfold VBookWatch.w; omega)]; unfold VBookWatch.w; omega
  simp only [rv0, rv1, rv2, rv3, rv4, rv5, rv6, rv7, rv8, rv9, rv10, rv11, rv12, rv13, rv14, rvE, rvH, rvS, rvI, eT, eQ, ↓reduceIte, Nat.reduceEqDiff, Nat.reduceAdd, Nat.reduceSub, Nat.reduceMul, Nat.reduceLeDiff, Nat.reduceBEq, decide_true, decide_false, reduceCtorEq, Int.reduceLT, Int.reduceNeg, rvN, Nat.reduceLT, Int.reduceLE, Int.reduceEq, eq_self, List.reduceReplicate, rvF, rvG, e39, Try.f39, VBookWatch.c, w0, d0, w1, d1, e]
theorem k_toBookWatch (x : VBookWatch) (hw : x.w ≤ 4194304) : EV Try.prog E 41 [.val 0 true (VBookWatch.c x)] = some ⟨[(true, VBookWatch.c x)], []⟩ := by
  refine EV_intro Try.func41 rfl ?_
  unfold VBookWatch.w at hw
  simp only [rv0, rv1, rv2, rv3, rv4, rv5, rv6, rv7, rv8, rv9, rv10, rv11, rv12, rv13, rv14, rvE, rvH, rvS, rvI, eT, eQ, ↓reduceIte, Nat.reduceEqDiff, Nat.reduceAdd, Nat.reduceSub, Nat.reduceMul, Nat.reduceLeDiff, Nat.reduceBEq, decide_true, decide_false, reduceCtorEq, Int.reduceLT, Int.reduceNeg, rvN, Nat.reduceLT, Int.reduceLE, Int.reduceEq, eq_self, List.reduceReplicate, rvF, rvG, e41, Try.f41, VBookWatch.c]
end Go.Proofs.Ytdjapblnmkghoaa
