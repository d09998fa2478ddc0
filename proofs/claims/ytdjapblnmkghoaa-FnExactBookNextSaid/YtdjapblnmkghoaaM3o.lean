/- Marks on objects (written by a program). -/
import Derived.Test.YtdjapblnmkghoaaM3
namespace Go.Proofs.Ytdjapblnmkghoaa
open Go.Sx
set_option maxRecDepth 100000
set_option maxHeartbeats 4000000
set_option linter.unusedVariables false
set_option linter.unusedSimpArgs false
def moBookObject (x : VBookObject) (k : Int) : VBookObject := ⟨x.kind, x.name, x.version, x.born, x.text, x.ending, mkL mkString mcString x.holds (k)⟩
def ocBookObject (x : VBookObject) : Nat := mcL mcString x.holds
theorem k_markBookObject (x : VBookObject) (k : Int) (h0 : 0 ≤ k) (hb : k + (ocBookObject x : Nat) ≤ 4611686018427387904) : EV Try.prog E 19 [.val 0 true (VBookObject.c .own x), .val 0 false [.p (.int .i64 k)]] = some ⟨[(false, [.p (.int .i64 (k + (ocBookObject x : Nat)))])], [VBookObject.c .own (moBookObject x k)]⟩ := by
  refine EV_intro Try.func19 rfl ?_
  unfold ocBookObject at hb ⊢
  have hm0 := k_markStringS x.holds (k) (by omega) (by omega)
  have he : k + ((mcL mcString x.holds : Nat) : Int) = k + (mcL mcString x.holds : Nat) := by omega
  rw [he]
  simp only [rv0, rv1, rv2, rv3, rv4, rv5, rv6, rv7, rv8, rv9, rv10, rv11, rv12, rv13, rv14, rvE, rvH, rvS, rvI, eT, eQ, ↓reduceIte, Nat.reduceEqDiff, Nat.reduceAdd, Nat.reduceSub, Nat.reduceMul, Nat.reduceLeDiff, Nat.reduceBEq, decide_true, decide_false, reduceCtorEq, Int.reduceLT, Int.reduceNeg, rvN, Nat.reduceLT, Int.reduceLE, Int.reduceEq, eq_self, List.reduceReplicate, rvF, rvG, e19, e67, Try.f19, VBookObject.c, moBookObject, hm0, rowsString]
theorem k_heldBookObject (x : VBookObject) (k : Int) (h0 : 0 ≤ k) (hb : k + (ocBookObject x : Nat) ≤ 4611686018427387904) : EV Try.prog E 20 [.val 0 true (VBookObject.c .shr (moBookObject x k)), .val 0 false [.p (.int .i64 k)]] = some ⟨[(false, [.p (.int .i64 (k + (ocBookObject x : Nat)))])], []⟩ := by
  refine EV_intro Try.func20 rfl ?_
  unfold ocBookObject at hb ⊢
  have hm0 := k_heldStringS x.holds (k) (by omega) (by omega)
  have hn0 : ¬ (k + (mcL mcString x.holds : Nat) < 0) := by omega
  have he : k + ((mcL mcString x.holds : Nat) : Int) = k + (mcL mcString x.holds : Nat) := by omega
  rw [he]
  simp only [rv0, rv1, rv2, rv3, rv4, rv5, rv6, rv7, rv8, rv9, rv10, rv11, rv12, rv13, rv14, rvE, rvH, rvS, rvI, eT, eQ, ↓reduceIte, Nat.reduceEqDiff, Nat.reduceAdd, Nat.reduceSub, Nat.reduceMul, Nat.reduceLeDiff, Nat.reduceBEq, decide_true, decide_false, reduceCtorEq, Int.reduceLT, Int.reduceNeg, rvN, Nat.reduceLT, Int.reduceLE, Int.reduceEq, eq_self, List.reduceReplicate, rvF, rvG, e20, e68, Try.f20, VBookObject.c, moBookObject, hm0, hn0, rowsString]
theorem oc_leBookObject (x : VBookObject) : ocBookObject x ≤ 6 * x.w := by
  have h0 := mcL_leString x.holds
  unfold ocBookObject VBookObject.w
  omega
end Go.Proofs.Ytdjapblnmkghoaa
