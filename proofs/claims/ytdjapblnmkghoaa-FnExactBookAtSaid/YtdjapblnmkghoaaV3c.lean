/- What BookValid's small functions compute: keys, objects. -/
import Derived.Test.YtdjapblnmkghoaaV3b
namespace Go.Proofs.Ytdjapblnmkghoaa
open Go.Sx
set_option maxRecDepth 100000
set_option maxHeartbeats 4000000
set_option linter.unusedVariables false
set_option linter.unusedSimpArgs false
theorem k122 (a b : ByteArray) : EV Try.prog E 122 [.val 0 false [.p (.string a)], .val 0 false [.p (.string b)]] = some ⟨[(false, [.p (.int .i64 (cmpS a b))])], []⟩ := by
  refine EV_intro Try.func122 rfl ?_
  simp only [rv0, rv1, rvE, rvH, rvS, rvI, eT, eQ, ↓reduceIte, Nat.reduceEqDiff, Nat.reduceAdd, Nat.reduceSub, Nat.reduceMul, Nat.reduceLeDiff, Nat.reduceBEq, decide_true, decide_false, reduceCtorEq, Int.reduceLT, Int.reduceNeg, rvN, Nat.reduceLT, Int.reduceLE, Int.reduceEq, eq_self, List.reduceReplicate, rvF, rvG, e122, e124, Try.f122]
theorem k114 (a b : ByteArray) : EV Try.prog E 114 [.val 0 false [.p (.string a)], .val 0 false [.p (.string b)]] = some ⟨[(false, [.p (.int .i64 (cmpS a b))])], []⟩ := by
  refine EV_intro Try.func114 rfl ?_
  have h := k122 a b
  simp only [rv0, rv1, rvE, rvH, rvS, rvI, eT, eQ, ↓reduceIte, Nat.reduceEqDiff, Nat.reduceAdd, Nat.reduceSub, Nat.reduceMul, Nat.reduceLeDiff, Nat.reduceBEq, decide_true, decide_false, reduceCtorEq, Int.reduceLT, Int.reduceNeg, rvN, Nat.reduceLT, Int.reduceLE, Int.reduceEq, eq_self, List.reduceReplicate, rvF, rvG, e114, e122, Try.f114, h]
def keyI (ak an bk bn : ByteArray) : Int := if cmpS ak bk = 0 then cmpS an bn else cmpS ak bk
theorem k80 (ak an bk bn : ByteArray) : EV Try.prog E 80 [.val 0 true (keyC ak an), .val 0 true (keyC bk bn)] = some ⟨[(false, [.p (.int .i64 (keyI ak an bk bn))])], []⟩ := by
  refine EV_intro Try.func80 rfl ?_
  have h1 := k114 ak bk
  have h2 := k114 an bn
  unfold keyI
  by_cases h : cmpS ak bk = 0
  · rw [h] at h1
    simp only [rv0, rv1, rvE, rvH, rvS, rvI, eT, eQ, ↓reduceIte, Nat.reduceEqDiff, Nat.reduceAdd, Nat.reduceSub, Nat.reduceMul, Nat.reduceLeDiff, Nat.reduceBEq, decide_true, decide_false, reduceCtorEq, Int.reduceLT, Int.reduceNeg, rvN, Nat.reduceLT, Int.reduceLE, Int.reduceEq, eq_self, List.reduceReplicate, rvF, rvG, e80, e114, Try.f80, h1, h2, h]
  · simp only [rv0, rv1, rvE, rvH, rvS, rvI, eT, eQ, ↓reduceIte, Nat.reduceEqDiff, Nat.reduceAdd, Nat.reduceSub, Nat.reduceMul, Nat.reduceLeDiff, Nat.reduceBEq, decide_true, decide_false, reduceCtorEq, Int.reduceLT, Int.reduceNeg, rvN, Nat.reduceLT, Int.reduceLE, Int.reduceEq, eq_self, List.reduceReplicate, rvF, rvG, e80, e114, Try.f80, h1, h2, h]
def keyO (x y : VBookObject) : Int := keyI x.kind x.name y.kind y.name
theorem k105 (x y : VBookObject) : EV Try.prog E 105 [.val 0 true (VBookObject.c .shr x), .val 0 true (VBookObject.c .shr y)] = some ⟨[(false, [.p (.int .i64 (keyO x y))])], []⟩ := by
  refine EV_intro Try.func105 rfl ?_
  unfold keyO keyI cmpS
  cases h1 : Op.bytesLess x.kind.toList y.kind.toList
  · cases h2 : Op.bytesLess y.kind.toList x.kind.toList
    · cases h3 : Op.bytesLess x.name.toList y.name.toList
      · cases h4 : Op.bytesLess y.name.toList x.name.toList
        · simp only [rv0, rv1, rvE, rvH, rvS, rvI, eT, eQ, ↓reduceIte, Nat.reduceEqDiff, Nat.reduceAdd, Nat.reduceSub, Nat.reduceMul, Nat.reduceLeDiff, Nat.reduceBEq, decide_true, decide_false, reduceCtorEq, Int.reduceLT, Int.reduceNeg, rvN, Nat.reduceLT, Int.reduceLE, Int.reduceEq, eq_self, List.reduceReplicate, rvF, rvG, e105, Try.f105, VBookObject.c, h1, h2, h3, h4]
        · simp only [rv0, rv1, rvE, rvH, rvS, rvI, eT, eQ, ↓reduceIte, Nat.reduceEqDiff, Nat.reduceAdd, Nat.reduceSub, Nat.reduceMul, Nat.reduceLeDiff, Nat.reduceBEq, decide_true, decide_false, reduceCtorEq, Int.reduceLT, Int.reduceNeg, rvN, Nat.reduceLT, Int.reduceLE, Int.reduceEq, eq_self, List.reduceReplicate, rvF, rvG, e105, Try.f105, VBookObject.c, h1, h2, h3, h4]
      · simp only [rv0, rv1, rvE, rvH, rvS, rvI, eT, eQ, ↓reduceIte, Nat.reduceEqDiff, Nat.reduceAdd, Nat.reduceSub, Nat.reduceMul, Nat.reduceLeDiff, Nat.reduceBEq, decide_true, decide_false, reduceCtorEq, Int.reduceLT, Int.reduceNeg, rvN, Nat.reduceLT, Int.reduceLE, Int.reduceEq, eq_self, List.reduceReplicate, rvF, rvG, e105, Try.f105, VBookObject.c, h1, h2, h3]
    · simp only [rv0, rv1, rvE, rvH, rvS, rvI, eT, eQ, ↓reduceIte, Nat.reduceEqDiff, Nat.reduceAdd, Nat.reduceSub, Nat.reduceMul, Nat.reduceLeDiff, Nat.reduceBEq, decide_true, decide_false, reduceCtorEq, Int.reduceLT, Int.reduceNeg, rvN, Nat.reduceLT, Int.reduceLE, Int.reduceEq, eq_self, List.reduceReplicate, rvF, rvG, e105, Try.f105, VBookObject.c, h1, h2]
  · simp only [rv0, rv1, rvE, rvH, rvS, rvI, eT, eQ, ↓reduceIte, Nat.reduceEqDiff, Nat.reduceAdd, Nat.reduceSub, Nat.reduceMul, Nat.reduceLeDiff, Nat.reduceBEq, decide_true, decide_false, reduceCtorEq, Int.reduceLT, Int.reduceNeg, rvN, Nat.reduceLT, Int.reduceLE, Int.reduceEq, eq_self, List.reduceReplicate, rvF, rvG, e105, Try.f105, VBookObject.c, h1]

def partsB (x : VBookObject) (now : Int) : Bool := nameB x.kind && (nameB x.name && (inR x.version 1 now && (inR x.born 1 x.version && (decide ((x.text.size : Int) ≤ 300) && (decide ((x.holds.length : Int) ≤ 5) && ascF none x.holds)))))
theorem k110 (x : VBookObject) (now : Int) (hl : x.holds.length ≤ 4194304) : EV Try.prog E 110 [.val 0 true (VBookObject.c .shr x), .val 0 false [.p (.int .i64 now)]] = some ⟨[(false, [.p (.bool (partsB x now))])], []⟩ := by
  refine EV_intro Try.func110 rfl ?_
  have h1 := k112 x.kind
  have h2 := k112 x.name
  have h3 := k75 x.version 1 now
  have h4 := k75 x.born 1 x.version
  have h5 := k121 x.holds hl
  unfold partsB
  cases c1 : nameB x.kind
  · simp only [rv0, rv1, rvE, rvH, rvS, rvI, eT, eQ, ↓reduceIte, Nat.reduceEqDiff, Nat.reduceAdd, Nat.reduceSub, Nat.reduceMul, Nat.reduceLeDiff, Nat.reduceBEq, decide_true, decide_false, reduceCtorEq, Int.reduceLT, Int.reduceNeg, rvN, Nat.reduceLT, Int.reduceLE, Int.reduceEq, eq_self, List.reduceReplicate, rvF, rvG, e110, e112, e75, e121, Try.f110, VBookObject.c, h1, c1]
  cases c2 : nameB x.name
  · simp only [rv0, rv1, rvE, rvH, rvS, rvI, eT, eQ, ↓reduceIte, Nat.reduceEqDiff, Nat.reduceAdd, Nat.reduceSub, Nat.reduceMul, Nat.reduceLeDiff, Nat.reduceBEq, decide_true, decide_false, reduceCtorEq, Int.reduceLT, Int.reduceNeg, rvN, Nat.reduceLT, Int.reduceLE, Int.reduceEq, eq_self, List.reduceReplicate, rvF, rvG, e110, e112, e75, e121, Try.f110, VBookObject.c, h1, c1, h2, c2]
  cases c3 : inR x.version 1 now
  · simp only [rv0, rv1, rvE, rvH, rvS, rvI, eT, eQ, ↓reduceIte, Nat.reduceEqDiff, Nat.reduceAdd, Nat.reduceSub, Nat.reduceMul, Nat.reduceLeDiff, Nat.reduceBEq, decide_true, decide_false, reduceCtorEq, Int.reduceLT, Int.reduceNeg, rvN, Nat.reduceLT, Int.reduceLE, Int.reduceEq, eq_self, List.reduceReplicate, rvF, rvG, e110, e112, e75, e121, Try.f110, VBookObject.c, h1, c1, h2, c2, h3, c3]
  cases c4 : inR x.born 1 x.version
  · simp only [rv0, rv1, rvE, rvH, rvS, rvI, eT, eQ, ↓reduceIte, Nat.reduceEqDiff, Nat.reduceAdd, Nat.reduceSub, Nat.reduceMul, Nat.reduceLeDiff, Nat.reduceBEq, decide_true, decide_false, reduceCtorEq, Int.reduceLT, Int.reduceNeg, rvN, Nat.reduceLT, Int.reduceLE, Int.reduceEq, eq_self, List.reduceReplicate, rvF, rvG, e110, e112, e75, e121, Try.f110, VBookObject.c, h1, c1, h2, c2, h3, c3, h4, c4]
  by_cases c5 : (x.text.size : Int) ≤ 300
  · by_cases c6 : (x.holds.length : Int) ≤ 5
    · simp only [rv0, rv1, rvE, rvH, rvS, rvI, eT, eQ, ↓reduceIte, Nat.reduceEqDiff, Nat.reduceAdd, Nat.reduceSub, Nat.reduceMul, Nat.reduceLeDiff, Nat.reduceBEq, decide_true, decide_false, reduceCtorEq, Int.reduceLT, Int.reduceNeg, rvN, Nat.reduceLT, Int.reduceLE, Int.reduceEq, eq_self, List.reduceReplicate, rvF, rvG, e110, e112, e75, e121, Try.f110, VBookObject.c, h1, c1, h2, c2, h3, c3, h4, c4, c5, c6, h5]
    · simp only [rv0, rv1, rvE, rvH, rvS, rvI, eT, eQ, ↓reduceIte, Nat.reduceEqDiff, Nat.reduceAdd, Nat.reduceSub, Nat.reduceMul, Nat.reduceLeDiff, Nat.reduceBEq, decide_true, decide_false, reduceCtorEq, Int.reduceLT, Int.reduceNeg, rvN, Nat.reduceLT, Int.reduceLE, Int.reduceEq, eq_self, List.reduceReplicate, rvF, rvG, e110, e112, e75, e121, Try.f110, VBookObject.c, h1, c1, h2, c2, h3, c3, h4, c4, c5, c6]
  · simp only [rv0, rv1, rvE, rvH, rvS, rvI, eT, eQ, ↓reduceIte, Nat.reduceEqDiff, Nat.reduceAdd, Nat.reduceSub, Nat.reduceMul, Nat.reduceLeDiff, Nat.reduceBEq, decide_true, decide_false, reduceCtorEq, Int.reduceLT, Int.reduceNeg, rvN, Nat.reduceLT, Int.reduceLE, Int.reduceEq, eq_self, List.reduceReplicate, rvF, rvG, e110, e112, e75, e121, Try.f110, VBookObject.c, h1, c1, h2, c2, h3, c3, h4, c4, c5]
def endB (x : VBookObject) (gone : Bool) : Bool := if gone = true then x.ending && (decide ((x.holds.length : Int) = 0) && decide (x.born < x.version)) else !x.ending || decide ((0 : Int) < (x.holds.length : Int))
theorem k79 (x : VBookObject) (now : Int) (gone : Bool) (hl : x.holds.length ≤ 4194304) : EV Try.prog E 79 [.val 0 true (VBookObject.c .shr x), .val 0 false [.p (.int .i64 now)], .val 0 false [.p (.bool gone)]] = some ⟨[(false, [.p (.bool (partsB x now && endB x gone))])], []⟩ := by
  refine EV_intro Try.func79 rfl ?_
  have h1 := k82 x.kind
  have h2 := k82 x.name
  have h5 := k113 x.holds hl
  unfold partsB inR
  cases c1 : nameB x.kind
  · simp only [rv0, rv1, rvE, rvH, rvS, rvI, eT, eQ, ↓reduceIte, Nat.reduceEqDiff, Nat.reduceAdd, Nat.reduceSub, Nat.reduceMul, Nat.reduceLeDiff, Nat.reduceBEq, decide_true, decide_false, reduceCtorEq, Int.reduceLT, Int.reduceNeg, rvN, Nat.reduceLT, Int.reduceLE, Int.reduceEq, eq_self, List.reduceReplicate, rvF, rvG, e79, e82, e113, Try.f79, VBookObject.c, h1, c1]
  cases c2 : nameB x.name
  · simp only [rv0, rv1, rvE, rvH, rvS, rvI, eT, eQ, ↓reduceIte, Nat.reduceEqDiff, Nat.reduceAdd, Nat.reduceSub, Nat.reduceMul, Nat.reduceLeDiff, Nat.reduceBEq, decide_true, decide_false, reduceCtorEq, Int.reduceLT, Int.reduceNeg, rvN, Nat.reduceLT, Int.reduceLE, Int.reduceEq, eq_self, List.reduceReplicate, rvF, rvG, e79, e82, e113, Try.f79, VBookObject.c, h1, c1, h2, c2]
  by_cases c3 : 1 ≤ x.version
  case neg =>
    have d3 : x.version < 1 := by omega
    simp only [rv0, rv1, rvE, rvH, rvS, rvI, eT, eQ, ↓reduceIte, Nat.reduceEqDiff, Nat.reduceAdd, Nat.reduceSub, Nat.reduceMul, Nat.reduceLeDiff, Nat.reduceBEq, decide_true, decide_false, reduceCtorEq, Int.reduceLT, Int.reduceNeg, rvN, Nat.reduceLT, Int.reduceLE, Int.reduceEq, eq_self, List.reduceReplicate, rvF, rvG, e79, e82, e113, Try.f79, VBookObject.c, h1, c1, h2, c2, d3, c3]
  have d3 : ¬ x.version < 1 := by omega
  by_cases c4 : x.version ≤ now
  case neg =>
    have d4 : now < x.version := by omega
    simp only [rv0, rv1, rvE, rvH, rvS, rvI, eT, eQ, ↓reduceIte, Nat.reduceEqDiff, Nat.reduceAdd, Nat.reduceSub, Nat.reduceMul, Nat.reduceLeDiff, Nat.reduceBEq, decide_true, decide_false, reduceCtorEq, Int.reduceLT, Int.reduceNeg, rvN, Nat.reduceLT, Int.reduceLE, Int.reduceEq, eq_self, List.reduceReplicate, rvF, rvG, e79, e82, e113, Try.f79, VBookObject.c, h1, c1, h2, c2, d3, c3, d4, c4]
  have d4 : ¬ now < x.version := by omega
  by_cases c5 : 1 ≤ x.born
  case neg =>
    have d5 : x.born < 1 := by omega
    simp only [rv0, rv1, rvE, rvH, rvS, rvI, eT, eQ, ↓reduceIte, Nat.reduceEqDiff, Nat.reduceAdd, Nat.reduceSub, Nat.reduceMul, Nat.reduceLeDiff, Nat.reduceBEq, decide_true, decide_false, reduceCtorEq, Int.reduceLT, Int.reduceNeg, rvN, Nat.reduceLT, Int.reduceLE, Int.reduceEq, eq_self, List.reduceReplicate, rvF, rvG, e79, e82, e113, Try.f79, VBookObject.c, h1, c1, h2, c2, d3, c3, d4, c4, d5, c5]
  have d5 : ¬ x.born < 1 := by omega
  by_cases c6 : x.born ≤ x.version
  case neg =>
    have d6 : x.version < x.born := by omega
    simp only [rv0, rv1, rvE, rvH, rvS, rvI, eT, eQ, ↓reduceIte, Nat.reduceEqDiff, Nat.reduceAdd, Nat.reduceSub, Nat.reduceMul, Nat.reduceLeDiff, Nat.reduceBEq, decide_true, decide_false, reduceCtorEq, Int.reduceLT, Int.reduceNeg, rvN, Nat.reduceLT, Int.reduceLE, Int.reduceEq, eq_self, List.reduceReplicate, rvF, rvG, e79, e82, e113, Try.f79, VBookObject.c, h1, c1, h2, c2, d3, c3, d4, c4, d5, c5, d6, c6]
  have d6 : ¬ x.version < x.born := by omega
  by_cases c7 : (x.text.size : Int) ≤ 300
  case neg =>
    have d7 : 300 < (x.text.size : Int) := by omega
    simp only [rv0, rv1, rvE, rvH, rvS, rvI, eT, eQ, ↓reduceIte, Nat.reduceEqDiff, Nat.reduceAdd, Nat.reduceSub, Nat.reduceMul, Nat.reduceLeDiff, Nat.reduceBEq, decide_true, decide_false, reduceCtorEq, Int.reduceLT, Int.reduceNeg, rvN, Nat.reduceLT, Int.reduceLE, Int.reduceEq, eq_self, List.reduceReplicate, rvF, rvG, e79, e82, e113, Try.f79, VBookObject.c, h1, c1, h2, c2, d3, c3, d4, c4, d5, c5, d6, c6, d7, c7]
  have d7 : ¬ 300 < (x.text.size : Int) := by omega
  by_cases c8 : (x.holds.length : Int) ≤ 5
  case neg =>
    have d8 : 5 < (x.holds.length : Int) := by omega
    simp only [rv0, rv1, rvE, rvH, rvS, rvI, eT, eQ, ↓reduceIte, Nat.reduceEqDiff, Nat.reduceAdd, Nat.reduceSub, Nat.reduceMul, Nat.reduceLeDiff, Nat.reduceBEq, decide_true, decide_false, reduceCtorEq, Int.reduceLT, Int.reduceNeg, rvN, Nat.reduceLT, Int.reduceLE, Int.reduceEq, eq_self, List.reduceReplicate, rvF, rvG, e79, e82, e113, Try.f79, VBookObject.c, h1, c1, h2, c2, d3, c3, d4, c4, d5, c5, d6, c6, d7, c7, d8, c8]
  have d8 : ¬ 5 < (x.holds.length : Int) := by omega
  cases c9 : ascF none x.holds
  · simp only [rv0, rv1, rvE, rvH, rvS, rvI, eT, eQ, ↓reduceIte, Nat.reduceEqDiff, Nat.reduceAdd, Nat.reduceSub, Nat.reduceMul, Nat.reduceLeDiff, Nat.reduceBEq, decide_true, decide_false, reduceCtorEq, Int.reduceLT, Int.reduceNeg, rvN, Nat.reduceLT, Int.reduceLE, Int.reduceEq, eq_self, List.reduceReplicate, rvF, rvG, e79, e82, e113, Try.f79, VBookObject.c, h1, c1, h2, c2, d3, c3, d4, c4, d5, c5, d6, c6, d7, c7, d8, c8, h5, c9]
  unfold endB
  cases gone
  · cases e : x.ending
    · simp only [rv0, rv1, rvE, rvH, rvS, rvI, eT, eQ, ↓reduceIte, Nat.reduceEqDiff, Nat.reduceAdd, Nat.reduceSub, Nat.reduceMul, Nat.reduceLeDiff, Nat.reduceBEq, decide_true, decide_false, reduceCtorEq, Int.reduceLT, Int.reduceNeg, rvN, Nat.reduceLT, Int.reduceLE, Int.reduceEq, eq_self, List.reduceReplicate, rvF, rvG, e79, e82, e113, Try.f79, VBookObject.c, h1, c1, h2, c2, d3, c3, d4, c4, d5, c5, d6, c6, d7, c7, d8, c8, h5, c9, e]
    · simp only [rv0, rv1, rvE, rvH, rvS, rvI, eT, eQ, ↓reduceIte, Nat.reduceEqDiff, Nat.reduceAdd, Nat.reduceSub, Nat.reduceMul, Nat.reduceLeDiff, Nat.reduceBEq, decide_true, decide_false, reduceCtorEq, Int.reduceLT, Int.reduceNeg, rvN, Nat.reduceLT, Int.reduceLE, Int.reduceEq, eq_self, List.reduceReplicate, rvF, rvG, e79, e82, e113, Try.f79, VBookObject.c, h1, c1, h2, c2, d3, c3, d4, c4, d5, c5, d6, c6, d7, c7, d8, c8, h5, c9, e]
  · cases e : x.ending
    · simp only [rv0, rv1, rvE, rvH, rvS, rvI, eT, eQ, ↓reduceIte, Nat.reduceEqDiff, Nat.reduceAdd, Nat.reduceSub, Nat.reduceMul, Nat.reduceLeDiff, Nat.reduceBEq, decide_true, decide_false, reduceCtorEq, Int.reduceLT, Int.reduceNeg, rvN, Nat.reduceLT, Int.reduceLE, Int.reduceEq, eq_self, List.reduceReplicate, rvF, rvG, e79, e82, e113, Try.f79, VBookObject.c, h1, c1, h2, c2, d3, c3, d4, c4, d5, c5, d6, c6, d7, c7, d8, c8, h5, c9, e]
    · by_cases f : (x.holds.length : Int) = 0
      · simp only [rv0, rv1, rvE, rvH, rvS, rvI, eT, eQ, ↓reduceIte, Nat.reduceEqDiff, Nat.reduceAdd, Nat.reduceSub, Nat.reduceMul, Nat.reduceLeDiff, Nat.reduceBEq, decide_true, decide_false, reduceCtorEq, Int.reduceLT, Int.reduceNeg, rvN, Nat.reduceLT, Int.reduceLE, Int.reduceEq, eq_self, List.reduceReplicate, rvF, rvG, e79, e82, e113, Try.f79, VBookObject.c, h1, c1, h2, c2, d3, c3, d4, c4, d5, c5, d6, c6, d7, c7, d8, c8, h5, c9, e, f]
      · simp only [rv0, rv1, rvE, rvH, rvS, rvI, eT, eQ, ↓reduceIte, Nat.reduceEqDiff, Nat.reduceAdd, Nat.reduceSub, Nat.reduceMul, Nat.reduceLeDiff, Nat.reduceBEq, decide_true, decide_false, reduceCtorEq, Int.reduceLT, Int.reduceNeg, rvN, Nat.reduceLT, Int.reduceLE, Int.reduceEq, eq_self, List.reduceReplicate, rvF, rvG, e79, e82, e113, Try.f79, VBookObject.c, h1, c1, h2, c2, d3, c3, d4, c4, d5, c5, d6, c6, d7, c7, d8, c8, h5, c9, e, f]
end Go.Proofs.Ytdjapblnmkghoaa

