/- What BookValid's small functions compute: the same object, the last change. -/
import Derived.Test.YtdjapblnmkghoaaV3c
namespace Go.Proofs.Ytdjapblnmkghoaa
open Go.Sx
set_option maxRecDepth 100000
set_option maxHeartbeats 4000000
set_option linter.unusedVariables false
set_option linter.unusedSimpArgs false
theorem k115 (l m : List ByteArray) (hl : l.length ≤ 4194304) (hm : m.length ≤ 4194304) : EV Try.prog E 115 [.val 0 false [.sl .shr 1 (l.map strC)], .val 0 false [.sl .shr 1 (m.map strC)]] = some ⟨[(false, [.p (.bool (decide (l = m)))])], []⟩ := by
  refine EV_intro Try.func115 rfl ?_
  by_cases hn : (l.length : Int) = (m.length : Int)
  · simp only [rv0, rv1, rvE, rvH, rvS, rvI, eT, eQ, ↓reduceIte, Nat.reduceEqDiff, Nat.reduceAdd, Nat.reduceSub, Nat.reduceMul, Nat.reduceLeDiff, Nat.reduceBEq, decide_true, decide_false, reduceCtorEq, Int.reduceLT, Int.reduceNeg, rvN, Nat.reduceLT, Int.reduceLE, Int.reduceEq, eq_self, List.reduceReplicate, rvF, rvG, e115, Try.f115, hn]
    rw [for_block l (fun i (_ : Unit) => ⟨4, [(0, .val 0 false [.sl .shr 1 (l.map strC)]), (1, .val 1 false [.sl .shr 1 (m.map strC)]), (12, .val 2 false [.p (.int .i64 m.length)]), (13, .val 3 false [.p (.int .i64 i)])]⟩) (fun i _ => True)
      (fun r i a => if r = m.drop i then .norm ⟨0, []⟩ else .ret ⟨[(false, [.p (.bool false)])], []⟩) ?_ ?_ (a := ()) trivial (by simp only [rv0, rv1, rvE, rvH, rvS, rvI, eT, eQ, ↓reduceIte, Nat.reduceEqDiff, Nat.reduceAdd, Nat.reduceSub, Nat.reduceMul, Nat.reduceLeDiff, Nat.reduceBEq, decide_true, decide_false, reduceCtorEq, Int.reduceLT, Int.reduceNeg, rvN, Nat.reduceLT, Int.reduceLE, Int.reduceEq, eq_self, List.reduceReplicate, rvF, rvG, e115, hn]; rfl)]
    · by_cases h : l = m
      · simp only [rv0, rv1, rvE, rvH, rvS, rvI, eT, eQ, ↓reduceIte, Nat.reduceEqDiff, Nat.reduceAdd, Nat.reduceSub, Nat.reduceMul, Nat.reduceLeDiff, Nat.reduceBEq, decide_true, decide_false, reduceCtorEq, Int.reduceLT, Int.reduceNeg, rvN, Nat.reduceLT, Int.reduceLE, Int.reduceEq, eq_self, List.reduceReplicate, rvF, rvG, e115, h]
      · simp only [rv0, rv1, rvE, rvH, rvS, rvI, eT, eQ, ↓reduceIte, Nat.reduceEqDiff, Nat.reduceAdd, Nat.reduceSub, Nat.reduceMul, Nat.reduceLeDiff, Nat.reduceBEq, decide_true, decide_false, reduceCtorEq, Int.reduceLT, Int.reduceNeg, rvN, Nat.reduceLT, Int.reduceLE, Int.reduceEq, eq_self, List.reduceReplicate, rvF, rvG, e115, h]
    · intro i x r a hd hi _
      have hlen := (List.getElem?_eq_some_iff.1 hi).1
      have hlt : ((i : Int) < (m.length : Int)) := by omega
      have hr := getElem?_map_some (f := strC) hi
      have hi0 : (0 : Int) ≤ (i : Int) := by omega
      have hy : m[i]? = some (m[i]'(by omega)) := List.getElem?_eq_getElem (by omega)
      have hd2 : m.drop i = m[i]'(by omega) :: m.drop (i + 1) := List.drop_eq_getElem_cons (by omega)
      generalize m[i]'(by omega) = y at hy hd2
      have hry := getElem?_map_some (f := strC) hy
      have hwi := wrap64 (n := (i : Int) + 1) (by omega) (by omega)
      by_cases d1 : x = y
      · left
        refine ⟨(), ?_, trivial, by rw [hd2, d1]; simp⟩
        simp only [rv0, rv1, rvE, rvH, rvS, rvI, eT, eQ, ↓reduceIte, Nat.reduceEqDiff, Nat.reduceAdd, Nat.reduceSub, Nat.reduceMul, Nat.reduceLeDiff, Nat.reduceBEq, decide_true, decide_false, reduceCtorEq, Int.reduceLT, Int.reduceNeg, rvN, Nat.reduceLT, Int.reduceLE, Int.reduceEq, eq_self, List.reduceReplicate, rvF, rvG, e115, hlt, hr, hi0, hry, d1, strC, hwi, i64c]
      · right
        have hf : ¬ (x :: r = m.drop i) := by rw [hd2]; intro e; exact d1 (List.cons.inj e).1
        simp only [rv0, rv1, rvE, rvH, rvS, rvI, eT, eQ, ↓reduceIte, Nat.reduceEqDiff, Nat.reduceAdd, Nat.reduceSub, Nat.reduceMul, Nat.reduceLeDiff, Nat.reduceBEq, decide_true, decide_false, reduceCtorEq, Int.reduceLT, Int.reduceNeg, rvN, Nat.reduceLT, Int.reduceLE, Int.reduceEq, eq_self, List.reduceReplicate, rvF, rvG, e115, hlt, hr, hi0, hry, d1, strC, hwi, i64c, hf]
    · intro a _
      have e1 : (l.length : Int) = m.length := hn
      have e2 : m.drop l.length = [] := List.drop_eq_nil_of_le (by omega)
      simp only [rv0, rv1, rvE, rvH, rvS, rvI, eT, eQ, ↓reduceIte, Nat.reduceEqDiff, Nat.reduceAdd, Nat.reduceSub, Nat.reduceMul, Nat.reduceLeDiff, Nat.reduceBEq, decide_true, decide_false, reduceCtorEq, Int.reduceLT, Int.reduceNeg, rvN, Nat.reduceLT, Int.reduceLE, Int.reduceEq, eq_self, List.reduceReplicate, rvF, rvG, e115, e1, e2]
  · have h : ¬ l = m := fun e => hn (by rw [e])
    simp only [rv0, rv1, rvE, rvH, rvS, rvI, eT, eQ, ↓reduceIte, Nat.reduceEqDiff, Nat.reduceAdd, Nat.reduceSub, Nat.reduceMul, Nat.reduceLeDiff, Nat.reduceBEq, decide_true, decide_false, reduceCtorEq, Int.reduceLT, Int.reduceNeg, rvN, Nat.reduceLT, Int.reduceLE, Int.reduceEq, eq_self, List.reduceReplicate, rvF, rvG, e115, Try.f115, hn, h]
def sameB (x y : VBookObject) : Bool := decide (x.kind = y.kind) && (decide (x.name = y.name) && (decide (x.version = y.version) && (decide (x.born = y.born) && (decide (x.text = y.text) && ((x.ending == y.ending) && decide (x.holds = y.holds))))))
theorem k81 (x y : VBookObject) (hl : x.holds.length ≤ 4194304) (hm : y.holds.length ≤ 4194304) : EV Try.prog E 81 [.val 0 true (VBookObject.c .shr x), .val 0 true (VBookObject.c .shr y)] = some ⟨[(false, [.p (.bool (sameB x y))])], []⟩ := by
  refine EV_intro Try.func81 rfl ?_
  have h := k115 x.holds y.holds hl hm
  unfold sameB
  by_cases c1 : x.kind = y.kind
  case neg => simp only [rv0, rv1, rvE, rvH, rvS, rvI, eT, eQ, ↓reduceIte, Nat.reduceEqDiff, Nat.reduceAdd, Nat.reduceSub, Nat.reduceMul, Nat.reduceLeDiff, Nat.reduceBEq, decide_true, decide_false, reduceCtorEq, Int.reduceLT, Int.reduceNeg, rvN, Nat.reduceLT, Int.reduceLE, Int.reduceEq, eq_self, List.reduceReplicate, rvF, rvG, e81, e115, Try.f81, VBookObject.c, c1]
  by_cases c2 : x.name = y.name
  case neg => simp only [rv0, rv1, rvE, rvH, rvS, rvI, eT, eQ, ↓reduceIte, Nat.reduceEqDiff, Nat.reduceAdd, Nat.reduceSub, Nat.reduceMul, Nat.reduceLeDiff, Nat.reduceBEq, decide_true, decide_false, reduceCtorEq, Int.reduceLT, Int.reduceNeg, rvN, Nat.reduceLT, Int.reduceLE, Int.reduceEq, eq_self, List.reduceReplicate, rvF, rvG, e81, e115, Try.f81, VBookObject.c, c1, c2]
  by_cases c3 : x.version = y.version
  case neg => simp only [rv0, rv1, rvE, rvH, rvS, rvI, eT, eQ, ↓reduceIte, Nat.reduceEqDiff, Nat.reduceAdd, Nat.reduceSub, Nat.reduceMul, Nat.reduceLeDiff, Nat.reduceBEq, decide_true, decide_false, reduceCtorEq, Int.reduceLT, Int.reduceNeg, rvN, Nat.reduceLT, Int.reduceLE, Int.reduceEq, eq_self, List.reduceReplicate, rvF, rvG, e81, e115, Try.f81, VBookObject.c, c1, c2, c3]
  by_cases c4 : x.born = y.born
  case neg => simp only [rv0, rv1, rvE, rvH, rvS, rvI, eT, eQ, ↓reduceIte, Nat.reduceEqDiff, Nat.reduceAdd, Nat.reduceSub, Nat.reduceMul, Nat.reduceLeDiff, Nat.reduceBEq, decide_true, decide_false, reduceCtorEq, Int.reduceLT, Int.reduceNeg, rvN, Nat.reduceLT, Int.reduceLE, Int.reduceEq, eq_self, List.reduceReplicate, rvF, rvG, e81, e115, Try.f81, VBookObject.c, c1, c2, c3, c4]
  by_cases c5 : x.text = y.text
  case neg => simp only [rv0, rv1, rvE, rvH, rvS, rvI, eT, eQ, ↓reduceIte, Nat.reduceEqDiff, Nat.reduceAdd, Nat.reduceSub, Nat.reduceMul, Nat.reduceLeDiff, Nat.reduceBEq, decide_true, decide_false, reduceCtorEq, Int.reduceLT, Int.reduceNeg, rvN, Nat.reduceLT, Int.reduceLE, Int.reduceEq, eq_self, List.reduceReplicate, rvF, rvG, e81, e115, Try.f81, VBookObject.c, c1, c2, c3, c4, c5]
  cases c6 : x.ending == y.ending
  · simp only [rv0, rv1, rvE, rvH, rvS, rvI, eT, eQ, ↓reduceIte, Nat.reduceEqDiff, Nat.reduceAdd, Nat.reduceSub, Nat.reduceMul, Nat.reduceLeDiff, Nat.reduceBEq, decide_true, decide_false, reduceCtorEq, Int.reduceLT, Int.reduceNeg, rvN, Nat.reduceLT, Int.reduceLE, Int.reduceEq, eq_self, List.reduceReplicate, rvF, rvG, e81, e115, Try.f81, VBookObject.c, c1, c2, c3, c4, c5, c6]
  · simp only [rv0, rv1, rvE, rvH, rvS, rvI, eT, eQ, ↓reduceIte, Nat.reduceEqDiff, Nat.reduceAdd, Nat.reduceSub, Nat.reduceMul, Nat.reduceLeDiff, Nat.reduceBEq, decide_true, decide_false, reduceCtorEq, Int.reduceLT, Int.reduceNeg, rvN, Nat.reduceLT, Int.reduceLE, Int.reduceEq, eq_self, List.reduceReplicate, rvF, rvG, e81, e115, Try.f81, VBookObject.c, c1, c2, c3, c4, c5, c6, h]
theorem k111 (x y : VBookObject) (hl : x.holds.length ≤ 4194304) (hm : y.holds.length ≤ 4194304) : EV Try.prog E 111 [.val 0 true (VBookObject.c .shr x), .val 0 true (VBookObject.c .shr y)] = some ⟨[(false, [.p (.bool (sameB x y))])], []⟩ := by
  refine EV_intro Try.func111 rfl ?_
  unfold sameB
  by_cases c1 : x.kind = y.kind
  case neg => simp only [rv0, rv1, rvE, rvH, rvS, rvI, eT, eQ, ↓reduceIte, Nat.reduceEqDiff, Nat.reduceAdd, Nat.reduceSub, Nat.reduceMul, Nat.reduceLeDiff, Nat.reduceBEq, decide_true, decide_false, reduceCtorEq, Int.reduceLT, Int.reduceNeg, rvN, Nat.reduceLT, Int.reduceLE, Int.reduceEq, eq_self, List.reduceReplicate, rvF, rvG, e111, Try.f111, VBookObject.c, c1]
  by_cases c2 : x.name = y.name
  case neg => simp only [rv0, rv1, rvE, rvH, rvS, rvI, eT, eQ, ↓reduceIte, Nat.reduceEqDiff, Nat.reduceAdd, Nat.reduceSub, Nat.reduceMul, Nat.reduceLeDiff, Nat.reduceBEq, decide_true, decide_false, reduceCtorEq, Int.reduceLT, Int.reduceNeg, rvN, Nat.reduceLT, Int.reduceLE, Int.reduceEq, eq_self, List.reduceReplicate, rvF, rvG, e111, Try.f111, VBookObject.c, c1, c2]
  by_cases c3 : x.version = y.version
  case neg => simp only [rv0, rv1, rvE, rvH, rvS, rvI, eT, eQ, ↓reduceIte, Nat.reduceEqDiff, Nat.reduceAdd, Nat.reduceSub, Nat.reduceMul, Nat.reduceLeDiff, Nat.reduceBEq, decide_true, decide_false, reduceCtorEq, Int.reduceLT, Int.reduceNeg, rvN, Nat.reduceLT, Int.reduceLE, Int.reduceEq, eq_self, List.reduceReplicate, rvF, rvG, e111, Try.f111, VBookObject.c, c1, c2, c3]
  by_cases c4 : x.born = y.born
  case neg => simp only [rv0, rv1, rvE, rvH, rvS, rvI, eT, eQ, ↓reduceIte, Nat.reduceEqDiff, Nat.reduceAdd, Nat.reduceSub, Nat.reduceMul, Nat.reduceLeDiff, Nat.reduceBEq, decide_true, decide_false, reduceCtorEq, Int.reduceLT, Int.reduceNeg, rvN, Nat.reduceLT, Int.reduceLE, Int.reduceEq, eq_self, List.reduceReplicate, rvF, rvG, e111, Try.f111, VBookObject.c, c1, c2, c3, c4]
  by_cases c5 : x.text = y.text
  case neg => simp only [rv0, rv1, rvE, rvH, rvS, rvI, eT, eQ, ↓reduceIte, Nat.reduceEqDiff, Nat.reduceAdd, Nat.reduceSub, Nat.reduceMul, Nat.reduceLeDiff, Nat.reduceBEq, decide_true, decide_false, reduceCtorEq, Int.reduceLT, Int.reduceNeg, rvN, Nat.reduceLT, Int.reduceLE, Int.reduceEq, eq_self, List.reduceReplicate, rvF, rvG, e111, Try.f111, VBookObject.c, c1, c2, c3, c4, c5]
  cases c6 : x.ending == y.ending
  · simp only [rv0, rv1, rvE, rvH, rvS, rvI, eT, eQ, ↓reduceIte, Nat.reduceEqDiff, Nat.reduceAdd, Nat.reduceSub, Nat.reduceMul, Nat.reduceLeDiff, Nat.reduceBEq, decide_true, decide_false, reduceCtorEq, Int.reduceLT, Int.reduceNeg, rvN, Nat.reduceLT, Int.reduceLE, Int.reduceEq, eq_self, List.reduceReplicate, rvF, rvG, e111, Try.f111, VBookObject.c, c1, c2, c3, c4, c5, c6]
  by_cases hn : (x.holds.length : Int) = (y.holds.length : Int)
  case neg =>
    have h : ¬ x.holds = y.holds := fun e => hn (by rw [e])
    simp only [rv0, rv1, rvE, rvH, rvS, rvI, eT, eQ, ↓reduceIte, Nat.reduceEqDiff, Nat.reduceAdd, Nat.reduceSub, Nat.reduceMul, Nat.reduceLeDiff, Nat.reduceBEq, decide_true, decide_false, reduceCtorEq, Int.reduceLT, Int.reduceNeg, rvN, Nat.reduceLT, Int.reduceLE, Int.reduceEq, eq_self, List.reduceReplicate, rvF, rvG, e111, Try.f111, VBookObject.c, c1, c2, c3, c4, c5, c6, hn, h]
  simp only [rv0, rv1, rvE, rvH, rvS, rvI, eT, eQ, ↓reduceIte, Nat.reduceEqDiff, Nat.reduceAdd, Nat.reduceSub, Nat.reduceMul, Nat.reduceLeDiff, Nat.reduceBEq, decide_true, decide_false, reduceCtorEq, Int.reduceLT, Int.reduceNeg, rvN, Nat.reduceLT, Int.reduceLE, Int.reduceEq, eq_self, List.reduceReplicate, rvF, rvG, e111, Try.f111, VBookObject.c, c1, c2, c3, c4, c5, c6, hn]
  rw [for_block x.holds (fun i (_ : Unit) => ⟨3, [(2, .box 0 0 (x.c .shr)), (3, .box 1 1 (y.c .shr)), (5, .val 2 false [.p (.int .i64 i)])]⟩) (fun i _ => True)
      (fun r i a => if r = y.holds.drop i then .norm ⟨0, []⟩ else .ret ⟨[(false, [.p (.bool false)])], []⟩) ?_ ?_ (a := ()) trivial (by simp only [rv0, rv1, rvE, rvH, rvS, rvI, eT, eQ, ↓reduceIte, Nat.reduceEqDiff, Nat.reduceAdd, Nat.reduceSub, Nat.reduceMul, Nat.reduceLeDiff, Nat.reduceBEq, decide_true, decide_false, reduceCtorEq, Int.reduceLT, Int.reduceNeg, rvN, Nat.reduceLT, Int.reduceLE, Int.reduceEq, eq_self, List.reduceReplicate, rvF, rvG, e111, VBookObject.c, c1, c2, c3, c4, c5]; rfl)]
  · by_cases h : x.holds = y.holds
    · simp only [rv0, rv1, rvE, rvH, rvS, rvI, eT, eQ, ↓reduceIte, Nat.reduceEqDiff, Nat.reduceAdd, Nat.reduceSub, Nat.reduceMul, Nat.reduceLeDiff, Nat.reduceBEq, decide_true, decide_false, reduceCtorEq, Int.reduceLT, Int.reduceNeg, rvN, Nat.reduceLT, Int.reduceLE, Int.reduceEq, eq_self, List.reduceReplicate, rvF, rvG, e111, h]
    · simp only [rv0, rv1, rvE, rvH, rvS, rvI, eT, eQ, ↓reduceIte, Nat.reduceEqDiff, Nat.reduceAdd, Nat.reduceSub, Nat.reduceMul, Nat.reduceLeDiff, Nat.reduceBEq, decide_true, decide_false, reduceCtorEq, Int.reduceLT, Int.reduceNeg, rvN, Nat.reduceLT, Int.reduceLE, Int.reduceEq, eq_self, List.reduceReplicate, rvF, rvG, e111, h]
  · intro i e r a hd hi _
    have hlen := (List.getElem?_eq_some_iff.1 hi).1
    have hlt : ((i : Int) < (x.holds.length : Int)) := by omega
    have hr := getElem?_map_some (f := strC) hi
    have hi0 : (0 : Int) ≤ (i : Int) := by omega
    have hy : y.holds[i]? = some (y.holds[i]'(by omega)) := List.getElem?_eq_getElem (by omega)
    have hd2 : y.holds.drop i = y.holds[i]'(by omega) :: y.holds.drop (i + 1) := List.drop_eq_getElem_cons (by omega)
    generalize y.holds[i]'(by omega) = u at hy hd2
    have hry := getElem?_map_some (f := strC) hy
    have hwi := wrap64 (n := (i : Int) + 1) (by omega) (by omega)
    by_cases d1 : e = u
    · left
      refine ⟨(), ?_, trivial, by rw [hd2, d1]; simp⟩
      simp only [rv0, rv1, rvE, rvH, rvS, rvI, eT, eQ, ↓reduceIte, Nat.reduceEqDiff, Nat.reduceAdd, Nat.reduceSub, Nat.reduceMul, Nat.reduceLeDiff, Nat.reduceBEq, decide_true, decide_false, reduceCtorEq, Int.reduceLT, Int.reduceNeg, rvN, Nat.reduceLT, Int.reduceLE, Int.reduceEq, eq_self, List.reduceReplicate, rvF, rvG, e111, VBookObject.c, hlt, hr, hi0, hry, d1, strC, hwi, i64c]
    · right
      have hf : ¬ (e :: r = y.holds.drop i) := by rw [hd2]; intro e; exact d1 (List.cons.inj e).1
      simp only [rv0, rv1, rvE, rvH, rvS, rvI, eT, eQ, ↓reduceIte, Nat.reduceEqDiff, Nat.reduceAdd, Nat.reduceSub, Nat.reduceMul, Nat.reduceLeDiff, Nat.reduceBEq, decide_true, decide_false, reduceCtorEq, Int.reduceLT, Int.reduceNeg, rvN, Nat.reduceLT, Int.reduceLE, Int.reduceEq, eq_self, List.reduceReplicate, rvF, rvG, e111, VBookObject.c, hlt, hr, hi0, hry, d1, strC, hwi, i64c, hf]
  · intro a _
    have e2 : y.holds.drop x.holds.length = [] := List.drop_eq_nil_of_le (by omega)
    simp only [rv0, rv1, rvE, rvH, rvS, rvI, eT, eQ, ↓reduceIte, Nat.reduceEqDiff, Nat.reduceAdd, Nat.reduceSub, Nat.reduceMul, Nat.reduceLeDiff, Nat.reduceBEq, decide_true, decide_false, reduceCtorEq, Int.reduceLT, Int.reduceNeg, rvN, Nat.reduceLT, Int.reduceLE, Int.reduceEq, eq_self, List.reduceReplicate, rvF, rvG, e111, VBookObject.c, e2]
def creaB (x : VBookChange) : Bool := !x.gone && decide (x.object.born = x.version)
theorem k89 (x : VBookChange) : EV Try.prog E 89 [.val 0 true (VBookChange.c .shr x)] = some ⟨[(false, [.p (.bool (creaB x))])], []⟩ := by
  refine EV_intro Try.func89 rfl ?_
  unfold creaB
  cases h : x.gone
  · simp only [rv0, rv1, rvE, rvH, rvS, rvI, eT, eQ, ↓reduceIte, Nat.reduceEqDiff, Nat.reduceAdd, Nat.reduceSub, Nat.reduceMul, Nat.reduceLeDiff, Nat.reduceBEq, decide_true, decide_false, reduceCtorEq, Int.reduceLT, Int.reduceNeg, rvN, Nat.reduceLT, Int.reduceLE, Int.reduceEq, eq_self, List.reduceReplicate, rvF, rvG, e89, Try.f89, VBookChange.c, h]
  · simp only [rv0, rv1, rvE, rvH, rvS, rvI, eT, eQ, ↓reduceIte, Nat.reduceEqDiff, Nat.reduceAdd, Nat.reduceSub, Nat.reduceMul, Nat.reduceLeDiff, Nat.reduceBEq, decide_true, decide_false, reduceCtorEq, Int.reduceLT, Int.reduceNeg, rvN, Nat.reduceLT, Int.reduceLE, Int.reduceEq, eq_self, List.reduceReplicate, rvF, rvG, e89, Try.f89, VBookChange.c, h]
def lastF (h : List VBookChange) (o : VBookObject) : Nat → Int
  | 0 => -1
  | n + 1 => match h[n]? with
    | some c => if keyO c.object o = 0 then n else lastF h o n
    | none => -1
theorem k88 (h : List VBookChange) (o : VBookObject) (n : Nat) (hn : n ≤ h.length) (hl : h.length ≤ 4194304) : EV Try.prog E 88 [.val 0 false [.sl .shr 9 (h.map (VBookChange.c .shr))], .val 0 true (VBookObject.c .shr o), .val 0 false [.p (.int .i64 n)]] = some ⟨[(false, [.p (.int .i64 (lastF h o n))])], []⟩ := by
  refine EV_intro Try.func88 rfl ?_
  have hw0 := wrap64 (n := (n : Int) - 1) (by omega) (by omega)
  simp only [rv0, rv1, rvE, rvH, rvS, rvI, eT, eQ, ↓reduceIte, Nat.reduceEqDiff, Nat.reduceAdd, Nat.reduceSub, Nat.reduceMul, Nat.reduceLeDiff, Nat.reduceBEq, decide_true, decide_false, reduceCtorEq, Int.reduceLT, Int.reduceNeg, rvN, Nat.reduceLT, Int.reduceLE, Int.reduceEq, eq_self, List.reduceReplicate, rvF, rvG, e88, Try.f88, VBookObject.c, hw0]
  rw [while_block (fun i : Nat => ⟨3, [(0, .val 0 false [.sl .shr 9 (h.map (VBookChange.c .shr))]), (4, .box 1 1 (o.c .shr)), (7, .val 2 false [.p (.int .i64 ((i : Int) - 1))])]⟩) (fun i => i ≤ n)
    (fun i => if lastF h o i < 0 then .norm ⟨0, []⟩ else .ret ⟨[(false, [.p (.int .i64 (lastF h o i))])], []⟩) (fun i => i) ?_ (i := n) (Nat.le_refl n) (by simp only [rv0, rv1, rvE, rvH, rvS, rvI, eT, eQ, ↓reduceIte, Nat.reduceEqDiff, Nat.reduceAdd, Nat.reduceSub, Nat.reduceMul, Nat.reduceLeDiff, Nat.reduceBEq, decide_true, decide_false, reduceCtorEq, Int.reduceLT, Int.reduceNeg, rvN, Nat.reduceLT, Int.reduceLE, Int.reduceEq, eq_self, List.reduceReplicate, rvF, rvG, e88, VBookObject.c])]
  · by_cases hh : lastF h o n < 0
    · have e : lastF h o n = -1 := by
        have : ∀ n, lastF h o n < 0 → lastF h o n = -1 := by
          intro n
          induction n with
          | zero => intro _; rfl
          | succ n ih =>
            intro e
            unfold lastF at e ⊢
            split at e
            · split at e
              · omega
              · rename_i hc hk
                rw [if_neg hk]
                exact ih e
            · rfl
        exact this n hh
      simp only [rv0, rv1, rvE, rvH, rvS, rvI, eT, eQ, ↓reduceIte, Nat.reduceEqDiff, Nat.reduceAdd, Nat.reduceSub, Nat.reduceMul, Nat.reduceLeDiff, Nat.reduceBEq, decide_true, decide_false, reduceCtorEq, Int.reduceLT, Int.reduceNeg, rvN, Nat.reduceLT, Int.reduceLE, Int.reduceEq, eq_self, List.reduceReplicate, rvF, rvG, e88, hh, e]
    · simp only [rv0, rv1, rvE, rvH, rvS, rvI, eT, eQ, ↓reduceIte, Nat.reduceEqDiff, Nat.reduceAdd, Nat.reduceSub, Nat.reduceMul, Nat.reduceLeDiff, Nat.reduceBEq, decide_true, decide_false, reduceCtorEq, Int.reduceLT, Int.reduceNeg, rvN, Nat.reduceLT, Int.reduceLE, Int.reduceEq, eq_self, List.reduceReplicate, rvF, rvG, e88, hh]
  · intro i hi
    cases i with
    | zero =>
      right
      have e0 : lastF h o 0 = -1 := rfl
      have e1 : ((0 : Nat) : Int) - 1 = -1 := rfl
      simp only [rv0, rv1, rvE, rvH, rvS, rvI, eT, eQ, ↓reduceIte, Nat.reduceEqDiff, Nat.reduceAdd, Nat.reduceSub, Nat.reduceMul, Nat.reduceLeDiff, Nat.reduceBEq, decide_true, decide_false, reduceCtorEq, Int.reduceLT, Int.reduceNeg, rvN, Nat.reduceLT, Int.reduceLE, Int.reduceEq, eq_self, List.reduceReplicate, rvF, rvG, e88, VBookObject.c, e0, e1]
    | succ j =>
      have hj : h[j]? = some (h[j]'(by omega)) := List.getElem?_eq_getElem (by omega)
      generalize h[j]'(by omega) = c at hj
      have hr := getElem?_map_some (f := VBookChange.c .shr) hj
      have hs : (j : Int) + 1 - 1 = j := by omega
      have hj0 : (0 : Int) ≤ (j : Int) := by omega
      have hwj := wrap64 (n := (j : Int) - 1) (by omega) (by omega)
      have hk := k105 c.object o
      simp only [VBookObject.c, VBookChange.c] at hk hr
      have hl1 : lastF h o (j + 1) = if keyO c.object o = 0 then (j : Int) else lastF h o j := by simp [lastF, hj]
      by_cases d : keyO c.object o = 0
      · right
        have hn0 : ¬ ((j : Int) < 0) := by omega
        rw [hl1, if_pos d]
        simp only [rv0, rv1, rvE, rvH, rvS, rvI, eT, eQ, ↓reduceIte, Nat.reduceEqDiff, Nat.reduceAdd, Nat.reduceSub, Nat.reduceMul, Nat.reduceLeDiff, Nat.reduceBEq, decide_true, decide_false, reduceCtorEq, Int.reduceLT, Int.reduceNeg, rvN, Nat.reduceLT, Int.reduceLE, Int.reduceEq, eq_self, List.reduceReplicate, rvF, rvG, e88, e105, VBookObject.c, VBookChange.c, i64c, hs, hj0, hr, hk, d, hn0]
      · left
        refine ⟨j, ?_, by omega, by omega, by rw [hl1, if_neg d]⟩
        simp only [rv0, rv1, rvE, rvH, rvS, rvI, eT, eQ, ↓reduceIte, Nat.reduceEqDiff, Nat.reduceAdd, Nat.reduceSub, Nat.reduceMul, Nat.reduceLeDiff, Nat.reduceBEq, decide_true, decide_false, reduceCtorEq, Int.reduceLT, Int.reduceNeg, rvN, Nat.reduceLT, Int.reduceLE, Int.reduceEq, eq_self, List.reduceReplicate, rvF, rvG, e88, e105, VBookObject.c, VBookChange.c, i64c, hs, hj0, hr, hk, d, hwj]
end Go.Proofs.Ytdjapblnmkghoaa

