/- BookAt: what the functions compute. -/
import Derived.Test.YtdjapblnmkghoaaA4p
import Derived.Test.YtdjapblnmkghoaaT4t
namespace Go.Proofs.Ytdjapblnmkghoaa
open Go.Sx
set_option maxRecDepth 100000
set_option maxHeartbeats 16000000
set_option linter.unusedVariables false
set_option linter.unusedSimpArgs false
def wStep (b : VBook) (v : Int) (i : Nat) (all : Bool) (c : VBookChange) : Bool := if c.version ≤ v then all else if (decide (lastF b.history c.object i < 0) && !creaB c) = true then false else all
def wG (b : VBook) (v : Int) : Nat → List VBookChange → Bool → Bool
  | _, [], all => all
  | i, c :: r, all => wG b v (i + 1) r (wStep b v i all c)
def batL (b : VBook) (v : Int) : List VBookObject := if (implB b && inR v b.floor b.now) = true then atS b v else []
def batB (b : VBook) (v : Int) : Bool := if (implB b && inR v b.floor b.now) = true then wG b v 0 b.history true else false
theorem oP_w (fl : Int) : ∀ (os : List VBookObject) (l : List VBookObject), wSBookObject (os.foldl (oP fl) l) ≤ wSBookObject l + wSBookObject os
  | [], l => by simp
  | o :: os, l => by
    have h1 := oP_w fl os (oP fl l o)
    have h2 : wSBookObject (oP fl l o) ≤ wSBookObject l + (o.w + 1) := by
      unfold oP
      split
      · exact putR_w o false l
      · omega
    have h3 : wSBookObject (o :: os) = o.w + 1 + wSBookObject os := by unfold wSBookObject; rw [show sumWBookObject (o :: os) = o.w + sumWBookObject os from rfl]; simp; omega
    rw [List.foldl_cons]
    omega
theorem hS_w (v : Int) : ∀ (cs : List VBookChange) (l : List VBookObject), wSBookObject (cs.foldl (hS v) l) ≤ wSBookObject l + wSBookChange cs
  | [], l => by simp
  | c :: cs, l => by
    have h1 := hS_w v cs (hS v l c)
    have hc : c.w = c.object.w := rfl
    have h2 : wSBookObject (hS v l c) ≤ wSBookObject l + (c.w + 1) := by
      unfold hS
      split
      · rw [hc]; exact putR_w c.object c.gone l
      · omega
    have h3 : wSBookChange (c :: cs) = c.w + 1 + wSBookChange cs := by unfold wSBookChange; rw [show sumWBookChange (c :: cs) = c.w + sumWBookChange cs from rfl]; simp; omega
    rw [List.foldl_cons]
    omega
theorem atS_w (b : VBook) (v : Int) : wSBookObject (atS b v) ≤ b.w := by
  have h1 := hS_w v b.history (b.objects.foldl (oP b.floor) [])
  have h2 := oP_w b.floor b.objects []
  have h3 : wSBookObject [] = 0 := rfl
  unfold atS VBook.w
  omega
theorem k46 (b : VBook) (v : Int) (hw : b.w ≤ 4194304) : EV Try.prog E 46 [.val 0 true (b.c .shr), .val 0 false [.p (.int .i64 v)]] = some ⟨[(false, [.sl .own 7 ((batL b v).map (VBookObject.c .own))]), (false, [.p (.bool (batB b v))])], []⟩ := by
  refine EV_intro Try.func46 rfl ?_
  have h1 := kS b hw
  have h2 := k75 v b.floor b.now
  have hol : b.objects.length ≤ 4194304 := by unfold VBook.w wSBookObject at hw; omega
  have hhl : b.history.length ≤ 4194304 := by unfold VBook.w wSBookChange at hw; omega
  simp only [VBook.c] at h1
  unfold batL batB
  cases d : implB b
  · rw [d] at h1
    simp only [rv0, rv1, rvE, rvH, rvS, rvI, eT, eQ, ↓reduceIte, Nat.reduceEqDiff, Nat.reduceAdd, Nat.reduceSub, Nat.reduceMul, Nat.reduceLeDiff, Nat.reduceBEq, decide_true, decide_false, reduceCtorEq, Int.reduceLT, Int.reduceNeg, rvN, Nat.reduceLT, Int.reduceLE, Int.reduceEq, eq_self, List.reduceReplicate, rvF, rvG, e46, e32, Try.f46, VBook.c, h1, Bool.false_and, Bool.false_eq_true, if_false, List.map_nil]
  rw [d] at h1
  cases d2 : inR v b.floor b.now
  · rw [d2] at h2
    simp only [rv0, rv1, rvE, rvH, rvS, rvI, eT, eQ, ↓reduceIte, Nat.reduceEqDiff, Nat.reduceAdd, Nat.reduceSub, Nat.reduceMul, Nat.reduceLeDiff, Nat.reduceBEq, decide_true, decide_false, reduceCtorEq, Int.reduceLT, Int.reduceNeg, rvN, Nat.reduceLT, Int.reduceLE, Int.reduceEq, eq_self, List.reduceReplicate, rvF, rvG, e46, e32, e75, Try.f46, VBook.c, h1, h2, Bool.and_false, Bool.false_eq_true, if_false, List.map_nil]
  rw [d2] at h2
  simp only [rv0, rv1, rvE, rvH, rvS, rvI, eT, eQ, ↓reduceIte, Nat.reduceEqDiff, Nat.reduceAdd, Nat.reduceSub, Nat.reduceMul, Nat.reduceLeDiff, Nat.reduceBEq, decide_true, decide_false, reduceCtorEq, Int.reduceLT, Int.reduceNeg, rvN, Nat.reduceLT, Int.reduceLE, Int.reduceEq, eq_self, List.reduceReplicate, rvF, rvG, e46, e32, e75, Try.f46, VBook.c, h1, h2, Bool.and_self, if_true, List.map_nil]
  rw [for_block b.objects (fun i (L : List VBookObject) => ⟨5, [(1, .val 0 false [.p (.int .i64 v)]), (2, .box 1 1 (b.c .shr)), (6, .val 2 false [.sl .own 7 (L.map (VBookObject.c .shr))]), (7, .val 3 false [.p (.bool true)]), (8, .val 4 false [.p (.int .i64 i)])]⟩) (fun i L => wSBookObject L + wSBookObject (b.objects.drop i) ≤ 4194304)
    (fun r i L => .norm ⟨4, [(1, .val 0 false [.p (.int .i64 v)]), (2, .box 1 1 (b.c .shr)), (6, .val 2 false [.sl .own 7 ((r.foldl (oP b.floor) L).map (VBookObject.c .shr))]), (7, .val 3 false [.p (.bool true)])]⟩) ?_ ?_ (a := []) (by rw [List.drop_zero]; have : wSBookObject [] = 0 := rfl; unfold VBook.w at hw; omega) (by simp only [rv0, rv1, rvE, rvH, rvS, rvI, eT, eQ, ↓reduceIte, Nat.reduceEqDiff, Nat.reduceAdd, Nat.reduceSub, Nat.reduceMul, Nat.reduceLeDiff, Nat.reduceBEq, decide_true, decide_false, reduceCtorEq, Int.reduceLT, Int.reduceNeg, rvN, Nat.reduceLT, Int.reduceLE, Int.reduceEq, eq_self, List.reduceReplicate, rvF, rvG, e46, VBook.c, List.map_nil]; try rfl)]
  · have how := oP_w b.floor b.objects []
    have h00 : wSBookObject [] = 0 := rfl
    have hAw := atS_w b v
    unfold atS at hAw ⊢
    generalize b.objects.foldl (oP b.floor) [] = L0 at *
    simp only [rv0, rv1, rvE, rvH, rvS, rvI, eT, eQ, ↓reduceIte, Nat.reduceEqDiff, Nat.reduceAdd, Nat.reduceSub, Nat.reduceMul, Nat.reduceLeDiff, Nat.reduceBEq, decide_true, decide_false, reduceCtorEq, Int.reduceLT, Int.reduceNeg, rvN, Nat.reduceLT, Int.reduceLE, Int.reduceEq, eq_self, List.reduceReplicate, rvF, rvG, e46, VBook.c]
    rw [for_block b.history (fun i (a : List VBookObject × Bool) => ⟨5, [(1, .val 0 false [.p (.int .i64 v)]), (2, .box 1 1 (b.c .shr)), (6, .val 2 false [.sl .own 7 (a.1.map (VBookObject.c .shr))]), (7, .val 3 false [.p (.bool a.2)]), (9, .val 4 false [.p (.int .i64 i)])]⟩) (fun i a => wSBookObject a.1 + wSBookChange (b.history.drop i) ≤ 4194304)
      (fun r i a => .norm ⟨2, [(6, .val 0 false [.sl .own 7 ((r.foldl (hS v) a.1).map (VBookObject.c .shr))]), (7, .val 1 false [.p (.bool (wG b v i r a.2))])]⟩) ?_ ?_ (a := (L0, true)) (by rw [List.drop_zero]; show wSBookObject L0 + _ ≤ _; unfold VBook.w at hw; omega) (by simp only [rv0, rv1, rvE, rvH, rvS, rvI, eT, eQ, ↓reduceIte, Nat.reduceEqDiff, Nat.reduceAdd, Nat.reduceSub, Nat.reduceMul, Nat.reduceLeDiff, Nat.reduceBEq, decide_true, decide_false, reduceCtorEq, Int.reduceLT, Int.reduceNeg, rvN, Nat.reduceLT, Int.reduceLE, Int.reduceEq, eq_self, List.reduceReplicate, rvF, rvG, e46, VBook.c]; try rfl)]
    · have g := k90 (b.history.foldl (hS v) L0) (by omega)
      generalize b.history.foldl (hS v) L0 = L1 at *
      simp only [rv0, rv1, rvE, rvH, rvS, rvI, eT, eQ, ↓reduceIte, Nat.reduceEqDiff, Nat.reduceAdd, Nat.reduceSub, Nat.reduceMul, Nat.reduceLeDiff, Nat.reduceBEq, decide_true, decide_false, reduceCtorEq, Int.reduceLT, Int.reduceNeg, rvN, Nat.reduceLT, Int.reduceLE, Int.reduceEq, eq_self, List.reduceReplicate, rvF, rvG, e46, e90, g, rowsShr, rowsBookObject]
    · intro i c r a hd hi hA
      obtain ⟨L, all⟩ := a
      simp only at hA
      have hlen := (List.getElem?_eq_some_iff.1 hi).1
      have hlt : ((i : Int) < (b.history.length : Int)) := by omega
      have hr := getElem?_map_some (f := VBookChange.c .shr) hi
      have hi0 : (0 : Int) ≤ (i : Int) := by omega
      have hwi := wrap64 (n := (i : Int) + 1) (by omega) (by omega)
      have e3 : b.history.drop (i + 1) = r := by rw [← List.drop_drop, hd]; rfl
      have e4 : wSBookChange (b.history.drop i) = c.w + 1 + wSBookChange r := by
        rw [hd]; unfold wSBookChange; rw [show sumWBookChange (c :: r) = c.w + sumWBookChange r from rfl]; simp; omega
      have hcw : c.w = c.object.w := rfl
      have g1 := k70 L c (by unfold wSBookObject at hA; omega)
      have g2 := k88 b.history c.object i (by omega) hhl
      have g3 := k89 c
      have hst : wSBookObject (hS v L c) ≤ wSBookObject L + (c.w + 1) := by
        unfold hS
        split
        · rw [hcw]; exact putR_w c.object c.gone L
        · omega
      simp only [VBookChange.c, VBookObject.c] at hr g2 g3
      left
      refine ⟨(hS v L c, wStep b v i all c), ?_, by show wSBookObject (hS v L c) + _ ≤ _; rw [e3]; omega, rfl⟩
      by_cases c1 : c.version ≤ v
      · have s1 : hS v L c = putR c.object c.gone L := by unfold hS; rw [if_pos c1]
        have s2 : wStep b v i all c = all := by unfold wStep; rw [if_pos c1]
        rw [s1, s2]
        simp only [VBookChange.c, VBookObject.c] at g1
        cases hmr : mineRows ((putR c.object c.gone L).map (VBookObject.c .shr))
        all_goals
          simp only [rv0, rv1, rvE, rvH, rvS, rvI, eT, eQ, ↓reduceIte, Nat.reduceEqDiff, Nat.reduceAdd, Nat.reduceSub, Nat.reduceMul, Nat.reduceLeDiff, Nat.reduceBEq, decide_true, decide_false, reduceCtorEq, Int.reduceLT, Int.reduceNeg, rvN, Nat.reduceLT, Int.reduceLE, Int.reduceEq, eq_self, List.reduceReplicate, rvF, rvG, e46, e70, VBook.c, VBookChange.c, VBookObject.c, hlt, hr, hi0, hwi, c1, g1, hmr, rowsShr, i64c]
      · have s1 : hS v L c = L := by unfold hS; rw [if_neg c1]
        have s2 : wStep b v i all c = if (decide (lastF b.history c.object i < 0) && !creaB c) = true then false else all := by unfold wStep; rw [if_neg c1]
        rw [s1, s2]
        cases x1 : decide (lastF b.history c.object i < 0)
        · simp only [rv0, rv1, rvE, rvH, rvS, rvI, eT, eQ, ↓reduceIte, Nat.reduceEqDiff, Nat.reduceAdd, Nat.reduceSub, Nat.reduceMul, Nat.reduceLeDiff, Nat.reduceBEq, decide_true, decide_false, reduceCtorEq, Int.reduceLT, Int.reduceNeg, rvN, Nat.reduceLT, Int.reduceLE, Int.reduceEq, eq_self, List.reduceReplicate, rvF, rvG, e46, e88, VBook.c, VBookChange.c, VBookObject.c, hlt, hr, hi0, hwi, c1, g2, x1, Bool.false_and, Bool.false_eq_true, i64c]
        · cases x2 : creaB c
          · rw [x2] at g3
            simp only [rv0, rv1, rvE, rvH, rvS, rvI, eT, eQ, ↓reduceIte, Nat.reduceEqDiff, Nat.reduceAdd, Nat.reduceSub, Nat.reduceMul, Nat.reduceLeDiff, Nat.reduceBEq, decide_true, decide_false, reduceCtorEq, Int.reduceLT, Int.reduceNeg, rvN, Nat.reduceLT, Int.reduceLE, Int.reduceEq, eq_self, List.reduceReplicate, rvF, rvG, e46, e88, e89, VBook.c, VBookChange.c, VBookObject.c, hlt, hr, hi0, hwi, c1, g2, g3, x1, Bool.not_false, Bool.and_self, i64c]
          · rw [x2] at g3
            simp only [rv0, rv1, rvE, rvH, rvS, rvI, eT, eQ, ↓reduceIte, Nat.reduceEqDiff, Nat.reduceAdd, Nat.reduceSub, Nat.reduceMul, Nat.reduceLeDiff, Nat.reduceBEq, decide_true, decide_false, reduceCtorEq, Int.reduceLT, Int.reduceNeg, rvN, Nat.reduceLT, Int.reduceLE, Int.reduceEq, eq_self, List.reduceReplicate, rvF, rvG, e46, e88, e89, VBook.c, VBookChange.c, VBookObject.c, hlt, hr, hi0, hwi, c1, g2, g3, x1, Bool.not_true, Bool.and_false, Bool.false_eq_true, i64c]
    · intro a _
      have hn : ¬ ((b.history.length : Int) < (b.history.length : Int)) := by omega
      simp only [rv0, rv1, rvE, rvH, rvS, rvI, eT, eQ, ↓reduceIte, Nat.reduceEqDiff, Nat.reduceAdd, Nat.reduceSub, Nat.reduceMul, Nat.reduceLeDiff, Nat.reduceBEq, decide_true, decide_false, reduceCtorEq, Int.reduceLT, Int.reduceNeg, rvN, Nat.reduceLT, Int.reduceLE, Int.reduceEq, eq_self, List.reduceReplicate, rvF, rvG, e46, VBook.c, hn, wG, List.foldl_nil]
  · intro i o r L hd hi hA
    have hlen := (List.getElem?_eq_some_iff.1 hi).1
    have hlt : ((i : Int) < (b.objects.length : Int)) := by omega
    have hr := getElem?_map_some (f := VBookObject.c .shr) hi
    have hi0 : (0 : Int) ≤ (i : Int) := by omega
    have hwi := wrap64 (n := (i : Int) + 1) (by omega) (by omega)
    have e3 : b.objects.drop (i + 1) = r := by rw [← List.drop_drop, hd]; rfl
    have e4 : wSBookObject (b.objects.drop i) = o.w + 1 + wSBookObject r := by
      rw [hd]; unfold wSBookObject; rw [show sumWBookObject (o :: r) = o.w + sumWBookObject r from rfl]; simp; omega
    have g1 := k70 L ⟨0, false, o⟩ (by unfold wSBookObject at hA; omega)
    have hst : wSBookObject (oP b.floor L o) ≤ wSBookObject L + (o.w + 1) := by
      unfold oP
      split
      · exact putR_w o false L
      · omega
    simp only [VBookObject.c] at hr
    left
    refine ⟨oP b.floor L o, ?_, by rw [e3]; omega, rfl⟩
    by_cases c1 : o.version ≤ b.floor
    · have s1 : oP b.floor L o = putR o false L := by unfold oP; rw [if_pos c1]
      rw [s1]
      simp only [VBookChange.c, VBookObject.c] at g1
      cases hmr : mineRows ((putR o false L).map (VBookObject.c .shr))
      all_goals
        simp only [rv0, rv1, rvE, rvH, rvS, rvI, eT, eQ, ↓reduceIte, Nat.reduceEqDiff, Nat.reduceAdd, Nat.reduceSub, Nat.reduceMul, Nat.reduceLeDiff, Nat.reduceBEq, decide_true, decide_false, reduceCtorEq, Int.reduceLT, Int.reduceNeg, rvN, Nat.reduceLT, Int.reduceLE, Int.reduceEq, eq_self, List.reduceReplicate, rvF, rvG, e46, e70, VBook.c, VBookChange.c, VBookObject.c, hlt, hr, hi0, hwi, c1, g1, hmr, rowsShr, i64c]
    · have s1 : oP b.floor L o = L := by unfold oP; rw [if_neg c1]
      rw [s1]
      simp only [rv0, rv1, rvE, rvH, rvS, rvI, eT, eQ, ↓reduceIte, Nat.reduceEqDiff, Nat.reduceAdd, Nat.reduceSub, Nat.reduceMul, Nat.reduceLeDiff, Nat.reduceBEq, decide_true, decide_false, reduceCtorEq, Int.reduceLT, Int.reduceNeg, rvN, Nat.reduceLT, Int.reduceLE, Int.reduceEq, eq_self, List.reduceReplicate, rvF, rvG, e46, VBook.c, VBookObject.c, hlt, hr, hi0, hwi, c1, i64c]
  · intro a _
    have hn : ¬ ((b.objects.length : Int) < (b.objects.length : Int)) := by omega
    simp only [rv0, rv1, rvE, rvH, rvS, rvI, eT, eQ, ↓reduceIte, Nat.reduceEqDiff, Nat.reduceAdd, Nat.reduceSub, Nat.reduceMul, Nat.reduceLeDiff, Nat.reduceBEq, decide_true, decide_false, reduceCtorEq, Int.reduceLT, Int.reduceNeg, rvN, Nat.reduceLT, Int.reduceLE, Int.reduceEq, eq_self, List.reduceReplicate, rvF, rvG, e46, VBook.c, hn, List.foldl_nil]
end Go.Proofs.Ytdjapblnmkghoaa

