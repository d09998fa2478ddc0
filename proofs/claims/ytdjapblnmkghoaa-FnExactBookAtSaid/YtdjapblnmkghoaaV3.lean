/- What BookValid's small functions compute. -/
import Derived.Test.YtdjapblnmkghoaaB3
import Derived.Test.YtdjapblnmkghoaaSxD
namespace Go.Proofs.Ytdjapblnmkghoaa
open Go.Sx
set_option maxRecDepth 100000
set_option maxHeartbeats 4000000
set_option linter.unusedVariables false
set_option linter.unusedSimpArgs false
def byteB (c : UInt8) : Bool := decide (97 ≤ (c.toNat : Int)) && decide ((c.toNat : Int) ≤ 122) || decide (48 ≤ (c.toNat : Int)) && decide ((c.toNat : Int) ≤ 57) || decide ((c.toNat : Int) = 45) || decide ((c.toNat : Int) = 46)
def nameB (s : ByteArray) : Bool := decide (1 ≤ s.size) && decide (s.size ≤ 20) && s.data.toList.all byteB
theorem sz_data (s : ByteArray) : s.data.toList.length = s.size := Array.length_toList
def inR (n a b : Int) : Bool := decide (a ≤ n) && decide (n ≤ b)
theorem k75 (n a b : Int) : EV Try.prog E 75 [.val 0 false [.p (.int .i64 n)], .val 0 false [.p (.int .i64 a)], .val 0 false [.p (.int .i64 b)]] = some ⟨[(false, [.p (.bool (inR n a b))])], []⟩ := by
  refine EV_intro Try.func75 rfl ?_
  cases h : decide (a ≤ n)
  · simp only [rv0, rv1, rvE, rvH, rvS, rvI, eT, eQ, ↓reduceIte, Nat.reduceEqDiff, Nat.reduceAdd, Nat.reduceSub, Nat.reduceMul, Nat.reduceLeDiff, Nat.reduceBEq, decide_true, decide_false, reduceCtorEq, Int.reduceLT, Int.reduceNeg, rvN, Nat.reduceLT, Int.reduceLE, Int.reduceEq, eq_self, List.reduceReplicate, rvF, rvG, e75, Try.f75, h, inR]
  · simp only [rv0, rv1, rvE, rvH, rvS, rvI, eT, eQ, ↓reduceIte, Nat.reduceEqDiff, Nat.reduceAdd, Nat.reduceSub, Nat.reduceMul, Nat.reduceLeDiff, Nat.reduceBEq, decide_true, decide_false, reduceCtorEq, Int.reduceLT, Int.reduceNeg, rvN, Nat.reduceLT, Int.reduceLE, Int.reduceEq, eq_self, List.reduceReplicate, rvF, rvG, e75, Try.f75, h, inR]
theorem k82 (s : ByteArray) : EV Try.prog E 82 [.val 0 false [.p (.string s)]] = some ⟨[(false, [.p (.bool (nameB s))])], []⟩ := by
  refine EV_intro Try.func82 rfl ?_
  unfold nameB
  by_cases h1 : 1 ≤ s.size
  · by_cases h2 : s.size ≤ 20
    · have h1' : ¬ ((s.size : Int) < 1) := by omega
      have h2' : ¬ ((20 : Int) < (s.size : Int)) := by omega
      simp only [rv0, rv1, rvE, rvH, rvS, rvI, eT, eQ, ↓reduceIte, Nat.reduceEqDiff, Nat.reduceAdd, Nat.reduceSub, Nat.reduceMul, Nat.reduceLeDiff, Nat.reduceBEq, decide_true, decide_false, reduceCtorEq, Int.reduceLT, Int.reduceNeg, rvN, Nat.reduceLT, Int.reduceLE, Int.reduceEq, eq_self, List.reduceReplicate, rvF, rvG, e82, Try.f82, h1', h2', h1, h2]
      rw [for_block s.data.toList (fun i (_ : Unit) => ⟨3, [(0, .val 0 false [.p (.string s)]), (14, .val 1 false [.p (.int .i64 s.size)]), (15, .val 2 false [.p (.int .i64 i)])]⟩) (fun i _ => True)
        (fun r i a => if r.all byteB = true then .norm ⟨0, []⟩ else .ret ⟨[(false, [.p (.bool false)])], []⟩) ?_ ?_ (a := ()) trivial (by simp only [rv0, rv1, rvE, rvH, rvS, rvI, eT, eQ, ↓reduceIte, Nat.reduceEqDiff, Nat.reduceAdd, Nat.reduceSub, Nat.reduceMul, Nat.reduceLeDiff, Nat.reduceBEq, decide_true, decide_false, reduceCtorEq, Int.reduceLT, Int.reduceNeg, rvN, Nat.reduceLT, Int.reduceLE, Int.reduceEq, eq_self, List.reduceReplicate, rvF, rvG, e82]; rfl)]
      · cases h : s.data.toList.all byteB
        · simp only [rv0, rv1, rvE, rvH, rvS, rvI, eT, eQ, ↓reduceIte, Nat.reduceEqDiff, Nat.reduceAdd, Nat.reduceSub, Nat.reduceMul, Nat.reduceLeDiff, Nat.reduceBEq, decide_true, decide_false, reduceCtorEq, Int.reduceLT, Int.reduceNeg, rvN, Nat.reduceLT, Int.reduceLE, Int.reduceEq, eq_self, List.reduceReplicate, rvF, rvG, e82, h]
        · simp only [rv0, rv1, rvE, rvH, rvS, rvI, eT, eQ, ↓reduceIte, Nat.reduceEqDiff, Nat.reduceAdd, Nat.reduceSub, Nat.reduceMul, Nat.reduceLeDiff, Nat.reduceBEq, decide_true, decide_false, reduceCtorEq, Int.reduceLT, Int.reduceNeg, rvN, Nat.reduceLT, Int.reduceLE, Int.reduceEq, eq_self, List.reduceReplicate, rvF, rvG, e82, h]
      · intro i x r a hd hi _
        have hlen := (List.getElem?_eq_some_iff.1 hi).1
        rw [sz_data] at hlen
        have hlt : ((i : Int) < (s.size : Int)) := by omega
        have hwi := wrap64 (n := (i : Int) + 1) (by omega) (by omega)
        have hi0 : (0 : Int) ≤ (i : Int) := by omega
        unfold byteB
        by_cases d1 : 97 ≤ (x.toNat : Int) <;> by_cases d2 : (x.toNat : Int) ≤ 122 <;> by_cases d3 : 48 ≤ (x.toNat : Int) <;> by_cases d4 : (x.toNat : Int) ≤ 57 <;> by_cases d5 : (x.toNat : Int) = 45 <;> by_cases d6 : (x.toNat : Int) = 46 <;> first
        | (exfalso; omega)
        | (left; refine ⟨(), ?_, trivial, by simp [byteB, d1, d2, d3, d4, d5, d6]⟩; simp only [rv0, rv1, rvE, rvH, rvS, rvI, eT, eQ, ↓reduceIte, Nat.reduceEqDiff, Nat.reduceAdd, Nat.reduceSub, Nat.reduceMul, Nat.reduceLeDiff, Nat.reduceBEq, decide_true, decide_false, reduceCtorEq, Int.reduceLT, Int.reduceNeg, rvN, Nat.reduceLT, Int.reduceLE, Int.reduceEq, eq_self, List.reduceReplicate, rvF, rvG, e82, hlt, hwi, hi0, hi, i64c, d1, d2, d3, d4, d5, d6]; done)
        | (right; simp only [rv0, rv1, rvE, rvH, rvS, rvI, eT, eQ, ↓reduceIte, Nat.reduceEqDiff, Nat.reduceAdd, Nat.reduceSub, Nat.reduceMul, Nat.reduceLeDiff, Nat.reduceBEq, decide_true, decide_false, reduceCtorEq, Int.reduceLT, Int.reduceNeg, rvN, Nat.reduceLT, Int.reduceLE, Int.reduceEq, eq_self, List.reduceReplicate, rvF, rvG, e82, hlt, hwi, hi0, hi, i64c, d1, d2, d3, d4, d5, d6, List.all_cons]; done)
      · intro a _
        simp only [rv0, rv1, rvE, rvH, rvS, rvI, eT, eQ, ↓reduceIte, Nat.reduceEqDiff, Nat.reduceAdd, Nat.reduceSub, Nat.reduceMul, Nat.reduceLeDiff, Nat.reduceBEq, decide_true, decide_false, reduceCtorEq, Int.reduceLT, Int.reduceNeg, rvN, Nat.reduceLT, Int.reduceLE, Int.reduceEq, eq_self, List.reduceReplicate, rvF, rvG, e82, sz_data, List.all_nil]
    · have h1' : ¬ ((s.size : Int) < 1) := by omega
      have h2' : ((20 : Int) < (s.size : Int)) := by omega
      simp only [rv0, rv1, rvE, rvH, rvS, rvI, eT, eQ, ↓reduceIte, Nat.reduceEqDiff, Nat.reduceAdd, Nat.reduceSub, Nat.reduceMul, Nat.reduceLeDiff, Nat.reduceBEq, decide_true, decide_false, reduceCtorEq, Int.reduceLT, Int.reduceNeg, rvN, Nat.reduceLT, Int.reduceLE, Int.reduceEq, eq_self, List.reduceReplicate, rvF, rvG, e82, Try.f82, h1', h2', h1, h2]
  · have h1' : ((s.size : Int) < 1) := by omega
    simp only [rv0, rv1, rvE, rvH, rvS, rvI, eT, eQ, ↓reduceIte, Nat.reduceEqDiff, Nat.reduceAdd, Nat.reduceSub, Nat.reduceMul, Nat.reduceLeDiff, Nat.reduceBEq, decide_true, decide_false, reduceCtorEq, Int.reduceLT, Int.reduceNeg, rvN, Nat.reduceLT, Int.reduceLE, Int.reduceEq, eq_self, List.reduceReplicate, rvF, rvG, e82, Try.f82, h1', h1]
end Go.Proofs.Ytdjapblnmkghoaa

