/- What BookValid's small functions compute: keys, objects. -/
import Derived.Test.YtdjapblnmkghoaaV3b
namespace Go.Proofs.Ytdjapblnmkghoaa
open Go.Sx
set_option maxRecDepth 100000
set_option maxHeartbeats 4000000
set_option linter.unusedVariables false
set_option linter.unusedSimpArgs false
theorem k122 (a b : ByteArray) : EV Try.prog E 122 [.val 0 false [.p (.string a)], .val 0 false [.p (.string b)]] = some ⟨[(false, [.p (.int .i64 (cmpS a b))])], []⟩ := by
  refine EV_intro Try.func122 rfl ?_
  simp only [rv0, rv1, rv2, rv3, rv4, rv5, rv6, rv7, rv8, rv9, rv10, rv11, rv12, rv13, rv14, rv15, rvE, rvH, rvS, rvI, eT, eQ, ↓reduceIte, Nat.reduceEqDiff, Nat.reduceAdd, Nat.reduceSub, Nat.reduceMul, Nat.reduceLeDiff, Nat.reduceBEq, decide_true, decide_false, reduceCtorEq, Int.reduceLT, Int.reduceNeg, rvN, Nat.reduceLT, Int.reduceLE, Int.reduceEq, eq_self, List.reduceReplicate, rvF, rvG, e122, e124, Try.f122]
theorem k114 (a b : ByteArray) : EV Try.prog E 114 [.val 0 false [.p (.string a)], .val 0 false [.p (.string b)]] = some ⟨[(false, [.p (.int .i64 (cmpS a b))])], []⟩ := by
  refine EV_intro Try.func114 rfl ?_
  have h := k122 a b
  simp only [rv0, rv1, rv2, rv3, rv4, rv5, rv6, rv7, rv8, rv9, rv10, rv11, rv12, rv13, rv14, rv15, rvE, rvH, rvS, rvI, eT, eQ, ↓reduceIte, Nat.reduceEqDiff, Nat.reduceAdd, Nat.reduceSub, Nat.reduceMul, Nat.reduceLeDiff, Nat.reduceBEq, decide_true, decide_false, reduceCtorEq, Int.reduceLT, Int.reduceNeg, rvN, Nat.reduceLT, Int.reduceLE, Int.reduceEq, eq_self, List.reduceReplicate, rvF, rvG, e114, e122, Try.f114, h]
/-- How two keys stand to each other. -/
def keyI (ak an bk bn : ByteArray) : Int := if cmpS ak bk = 0 then cmpS an bn else cmpS ak bk
theorem k80 (ak an bk bn : ByteArray) : EV Try.prog E 80 [.val 0 true (keyC ak an), .val 0 true (keyC bk bn)] = some ⟨[(false, [.p (.int .i64 (keyI ak an bk bn))])], []⟩ := by
  refine EV_intro Try.func80 rfl ?_
  have h1 := k114 ak bk
  have h2 := k114 an bn
  unfold keyI
  by_cases h : cmpS ak bk = 0
  · rw [h] at h1
    simp only [rv0, rv1, rv2, rv3, rv4, rv5, rv6, rv7, rv8, rv9, rv10, rv11, rv12, rv13, rv14, rv15, rvE, rvH, rvS, rvI, eT, eQ, ↓reduceIte, Nat.reduceEqDiff, Nat.reduceAdd, Nat.reduceSub, Nat.reduceMul, Nat.reduceLeDiff, Nat.reduceBEq, decide_true, decide_false, reduceCtorEq, Int.reduceLT, Int.reduceNeg, rvN, Nat.reduceLT, Int.reduceLE, Int.reduceEq, eq_self, List.reduceReplicate, rvF, rvG, e80, e114, Try.f80, h1, h2, h]
  · simp only [rv0, rv1, rv2, rv3, rv4, rv5, rv6, rv7, rv8, rv9, rv10, rv11, rv12, rv13, rv14, rv15, rvE, rvH, rvS, rvI, eT, eQ, ↓reduceIte, Nat.reduceEqDiff, Nat.reduceAdd, Nat.reduceSub, Nat.reduceMul, Nat.reduceLeDiff, Nat.reduceBEq, decide_true, decide_false, reduceCtorEq, Int.reduceLT, Int.reduceNeg, rvN, Nat.reduceLT, Int.reduceLE, Int.reduceEq, eq_self, List.reduceReplicate, rvF, rvG, e80, e114, Try.f80, h1, h2, h]
def keyO (x y : VBookObject) : Int := keyI x.kind x.name y.kind y.name
theorem k105 (x y : VBookObject) : EV Try.prog E 105 [.val 0 true (VBookObject.c .shr x), .val 0 true (VBookObject.c .shr y)] = some ⟨[(false, [.p (.int .i64 (keyO x y))])], []⟩ := by
  refine EV_intro Try.func105 rfl ?_
  unfold keyO keyI cmpS
  cases h1 : Op.bytesLess x.kind.toList y.kind.toList
  · cases h2 : Op.bytesLess y.kind.toList x.kind.toList
    · cases h3 : Op.bytesLess x.name.toList y.name.toList
      · cases h4 : Op.bytesLess y.name.toList x.name.toList
        · simp only [rv0, rv1, rv2, rv3, rv4, rv5, rv6, rv7, rv8, rv9, rv10, rv11, rv12, rv13, rv14, rv15, rvE, rvH, rvS, rvI, eT, eQ, ↓reduceIte, Nat.reduceEqDiff, Nat.reduceAdd, Nat.reduceSub, Nat.reduceMul, Nat.reduceLeDiff, Nat.reduceBEq, decide_true, decide_false, reduceCtorEq, Int.reduceLT, Int.reduceNeg, rvN, Nat.reduceLT, Int.reduceLE, Int.reduceEq, eq_self, List.reduceReplicate, rvF, rvG, e105, Try.f105, VBookObject.c, h1, h2, h3, h4]
        · simp only [rv0, rv1, rv2, rv3, rv4, rv5, rv6, rv7, rv8, rv9, rv10, rv11, rv12, rv13, rv14, rv15, rvE, rvH, rvS, rvI, eT, eQ, ↓reduceIte, Nat.reduceEqDiff, Nat.reduceAdd, Nat.reduceSub, Nat.reduceMul, Nat.reduceLeDiff, Nat.reduceBEq, decide_true, decide_false, reduceCtorEq, Int.reduceLT, Int.reduceNeg, rvN, Nat.reduceLT, Int.reduceLE, Int.reduceEq, eq_self, List.reduceReplicate, rvF, rvG, e105, Try.f105, VBookObject.c, h1, h2, h3, h4]
      · simp only [rv0, rv1, rv2, rv3, rv4, rv5, rv6, rv7, rv8, rv9, rv10, rv11, rv12, rv13, rv14, rv15, rvE, rvH, rvS, rvI, eT, eQ, ↓reduceIte, Nat.reduceEqDiff, Nat.reduceAdd, Nat.reduceSub, Nat.reduceMul, Nat.reduceLeDiff, Nat.reduceBEq, decide_true, decide_false, reduceCtorEq, Int.reduceLT, Int.reduceNeg, rvN, Nat.reduceLT, Int.reduceLE, Int.reduceEq, eq_self, List.reduceReplicate, rvF, rvG, e105, Try.f105, VBookObject.c, h1, h2, h3]
    · simp only [rv0, rv1, rv2, rv3, rv4, rv5, rv6, rv7, rv8, rv9, rv10, rv11, rv12, rv13, rv14, rv15, rvE, rvH, rvS, rvI, eT, eQ, ↓reduceIte, Nat.reduceEqDiff, Nat.reduceAdd, Nat.reduceSub, Nat.reduceMul, Nat.reduceLeDiff, Nat.reduceBEq, decide_true, decide_false, reduceCtorEq, Int.reduceLT, Int.reduceNeg, rvN, Nat.reduceLT, Int.reduceLE, Int.reduceEq, eq_self, List.reduceReplicate, rvF, rvG, e105, Try.f105, VBookObject.c, h1, h2]
  · simp only [rv0, rv1, rv2, rv3, rv4, rv5, rv6, rv7, rv8, rv9, rv10, rv11, rv12, rv13, rv14, rv15, rvE, rvH, rvS, rvI, eT, eQ, ↓reduceIte, Nat.reduceEqDiff, Nat.reduceAdd, Nat.reduceSub, Nat.reduceMul, Nat.reduceLeDiff, Nat.reduceBEq, decide_true, decide_false, reduceCtorEq, Int.reduceLT, Int.reduceNeg, rvN, Nat.reduceLT, Int.reduceLE, Int.reduceEq, eq_self, List.reduceReplicate, rvF, rvG, e105, Try.f105, VBookObject.c, h1]

def partsB (x : VBookObject) (now : Int) : Bool := nameB x.kind && (nameB x.name && (inR x.version 1 now && (inR x.born 1 x.version && (decide ((x.text.size : Int) ≤ 300) && (decide ((x.holds.length : Int) ≤ 5) && ascF none x.holds)))))
def endB (x : VBookObject) (gone : Bool) : Bool := if gone = true then x.ending && (decide ((x.holds.length : Int) = 0) && decide (x.born < x.version)) else !x.ending || decide ((0 : Int) < (x.holds.length : Int))
end Go.Proofs.Ytdjapblnmkghoaa

