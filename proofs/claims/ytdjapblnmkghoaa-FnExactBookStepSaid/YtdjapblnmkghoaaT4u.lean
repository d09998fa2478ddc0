/- impl.BookTake; the law: what they compute. -/
import Derived.Test.YtdjapblnmkghoaaT4t
import Derived.Test.YtdjapblnmkghoaaM3o
namespace Go.Proofs.Ytdjapblnmkghoaa
open Go.Sx
set_option maxRecDepth 100000
set_option maxHeartbeats 8000000
set_option linter.unusedVariables false
set_option linter.unusedSimpArgs false
theorem tk_gone {m : VBookMirror} {c : VBookChange} (h : ¬ c.version ≤ m.at_) {g : Bool} (hg : c.gone = g) : tk m c = ⟨m.kind, m.prefix_, c.version, putR c.object g m.objects, IntKind.i64.wrap (m.seen + 1)⟩ := by
  unfold tk; rw [if_neg h, hg]
theorem risP_step (l : List VBookChange) {i : Nat} {x : VBookChange} {r : List VBookChange} (h : l[i]? = some x) : risF (prevO l i) (x :: r) = ((match prevO l i with | none => true | some p => !decide (x.version ≤ p.version)) && risF (prevO l (i + 1)) r) := by
  have e : prevO l (i + 1) = some x := h
  rw [e]
  cases hp : prevO l i with
  | none => simp [risF]
  | some p => rfl
theorem k26 (m : VBookMirror) (n : VBookNews) (hw : m.w + n.w ≤ 4194304) : EV Try.prog E 26 [.val 0 true (m.c .shr), .val 0 true (n.c .shr)] = some ⟨[(true, (takeM m n).c .own), (false, [.p (.int .i64 (takeC m n))])], []⟩ := by
  refine EV_intro Try.func26 rfl ?_
  have hm : m.w ≤ 4194304 := by omega
  have h1 := k71 m hm
  have hcl : n.changes.length ≤ 4194304 := by unfold VBookNews.w wSBookChange at hw; omega
  simp only [VBookMirror.c] at h1
  unfold takeM takeC
  by_cases c1 : n.code = 0
  case neg =>
    rw [if_pos c1, if_pos c1]
    simp only [rv0, rv1, rvE, rvH, rvS, rvI, eT, eQ, ↓reduceIte, Nat.reduceEqDiff, Nat.reduceAdd, Nat.reduceSub, Nat.reduceMul, Nat.reduceLeDiff, Nat.reduceBEq, decide_true, decide_false, reduceCtorEq, Int.reduceLT, Int.reduceNeg, rvN, Nat.reduceLT, Int.reduceLE, Int.reduceEq, eq_self, List.reduceReplicate, rvF, rvG, e26, e71, Try.f26, VBookMirror.c, VBookNews.c, h1, c1, rowsBookObject]
  have c1' : ¬ (n.code ≠ 0) := fun h => h c1
  rw [if_neg c1', if_neg c1']
  by_cases c2 : n.from_ < m.at_
  · rw [if_pos c2, if_pos c2]
    simp only [rv0, rv1, rvE, rvH, rvS, rvI, eT, eQ, ↓reduceIte, Nat.reduceEqDiff, Nat.reduceAdd, Nat.reduceSub, Nat.reduceMul, Nat.reduceLeDiff, Nat.reduceBEq, decide_true, decide_false, reduceCtorEq, Int.reduceLT, Int.reduceNeg, rvN, Nat.reduceLT, Int.reduceLE, Int.reduceEq, eq_self, List.reduceReplicate, rvF, rvG, e26, e71, Try.f26, VBookMirror.c, VBookNews.c, h1, c1, c2, rowsBookObject]
  rw [if_neg c2, if_neg c2]
  simp only [rv0, rv1, rvE, rvH, rvS, rvI, eT, eQ, ↓reduceIte, Nat.reduceEqDiff, Nat.reduceAdd, Nat.reduceSub, Nat.reduceMul, Nat.reduceLeDiff, Nat.reduceBEq, decide_true, decide_false, reduceCtorEq, Int.reduceLT, Int.reduceNeg, rvN, Nat.reduceLT, Int.reduceLE, Int.reduceEq, eq_self, List.reduceReplicate, rvF, rvG, e26, e71, Try.f26, VBookMirror.c, VBookNews.c, h1, c1, c2, rowsBookObject]
  rw [for_block n.changes (fun i (_ : Unit) => ⟨6, [(3, .box 0 0 (n.c .shr)), (4, .box 1 1 (nilM.c .own)), (6, .box 2 2 (m.c .own)), (24, .val 3 false [.sl .shr 9 (n.changes.map (VBookChange.c .shr))]), (25, .val 4 false [.p (.int .i64 n.changes.length)]), (26, .val 5 false [.p (.int .i64 i)])]⟩) (fun _ _ => True)
    (fun r i _ => if risF (prevO n.changes i) r = true then .norm ⟨3, [(3, .box 0 0 (n.c .shr)), (4, .box 1 1 (nilM.c .own)), (6, .box 2 2 (m.c .own))]⟩ else .ret ⟨[(true, m.c .own), (false, [.p (.int .i64 2)])], []⟩) ?_ ?_ (a := ()) trivial (by simp only [rv0, rv1, rvE, rvH, rvS, rvI, eT, eQ, ↓reduceIte, Nat.reduceEqDiff, Nat.reduceAdd, Nat.reduceSub, Nat.reduceMul, Nat.reduceLeDiff, Nat.reduceBEq, decide_true, decide_false, reduceCtorEq, Int.reduceLT, Int.reduceNeg, rvN, Nat.reduceLT, Int.reduceLE, Int.reduceEq, eq_self, List.reduceReplicate, rvF, rvG, e26, VBookMirror.c, VBookNews.c, nilM, c1, List.map_nil]; try rfl)]
  · have e0 : prevO n.changes 0 = none := rfl
    rw [e0]
    cases d1 : risF none n.changes
    · simp only [rv0, rv1, rvE, rvH, rvS, rvI, eT, eQ, ↓reduceIte, Nat.reduceEqDiff, Nat.reduceAdd, Nat.reduceSub, Nat.reduceMul, Nat.reduceLeDiff, Nat.reduceBEq, decide_true, decide_false, reduceCtorEq, Int.reduceLT, Int.reduceNeg, rvN, Nat.reduceLT, Int.reduceLE, Int.reduceEq, eq_self, List.reduceReplicate, rvF, rvG, e26, VBookMirror.c, VBookNews.c, nilM, c1, Bool.false_eq_true]
    simp only [rv0, rv1, rvE, rvH, rvS, rvI, eT, eQ, ↓reduceIte, Nat.reduceEqDiff, Nat.reduceAdd, Nat.reduceSub, Nat.reduceMul, Nat.reduceLeDiff, Nat.reduceBEq, decide_true, decide_false, reduceCtorEq, Int.reduceLT, Int.reduceNeg, rvN, Nat.reduceLT, Int.reduceLE, Int.reduceEq, eq_self, List.reduceReplicate, rvF, rvG, e26, VBookMirror.c, VBookNews.c, nilM, c1]
    rw [for_block n.changes (fun i (x : VBookMirror) => ⟨6, [(3, .box 0 0 (n.c .shr)), (4, .box 1 1 (nilM.c .own)), (6, .box 2 2 (x.c .own)), (48, .val 3 false [.sl .shr 9 (n.changes.map (VBookChange.c .shr))]), (49, .val 4 false [.p (.int .i64 n.changes.length)]), (50, .val 5 false [.p (.int .i64 i)])]⟩) (fun i x => wSBookObject x.objects + wSBookChange (n.changes.drop i) ≤ 4194304)
      (fun r i x => .norm ⟨3, [(3, .box 0 0 (n.c .shr)), (4, .box 1 1 (nilM.c .own)), (6, .box 2 2 ((tks x r).c .own))]⟩) ?_ ?_ (a := m) (by rw [List.drop_zero]; unfold VBookMirror.w VBookNews.w at hw; omega) (by simp only [rv0, rv1, rvE, rvH, rvS, rvI, eT, eQ, ↓reduceIte, Nat.reduceEqDiff, Nat.reduceAdd, Nat.reduceSub, Nat.reduceMul, Nat.reduceLeDiff, Nat.reduceBEq, decide_true, decide_false, reduceCtorEq, Int.reduceLT, Int.reduceNeg, rvN, Nat.reduceLT, Int.reduceLE, Int.reduceEq, eq_self, List.reduceReplicate, rvF, rvG, e26, VBookMirror.c, VBookNews.c, nilM, c1, List.map_nil]; try rfl)]
    · generalize tks m n.changes = x
      unfold endT
      simp only [rv0, rv1, rvE, rvH, rvS, rvI, eT, eQ, ↓reduceIte, Nat.reduceEqDiff, Nat.reduceAdd, Nat.reduceSub, Nat.reduceMul, Nat.reduceLeDiff, Nat.reduceBEq, decide_true, decide_false, reduceCtorEq, Int.reduceLT, Int.reduceNeg, rvN, Nat.reduceLT, Int.reduceLE, Int.reduceEq, eq_self, List.reduceReplicate, rvF, rvG, e26, VBookMirror.c, VBookNews.c, nilM, rowsBookObject]
    · intro i c r x hd hi hA
      have hlen := (List.getElem?_eq_some_iff.1 hi).1
      have hlt : ((i : Int) < (n.changes.length : Int)) := by omega
      have hr := getElem?_map_some (f := VBookChange.c .shr) hi
      have hi0 : (0 : Int) ≤ (i : Int) := by omega
      have hwi := wrap64 (n := (i : Int) + 1) (by omega) (by omega)
      have e3 : n.changes.drop (i + 1) = r := by rw [← List.drop_drop, hd]; rfl
      have e4 : wSBookChange (n.changes.drop i) = c.w + 1 + wSBookChange r := by
        rw [hd]; unfold wSBookChange; rw [show sumWBookChange (c :: r) = c.w + sumWBookChange r from rfl]; simp; omega
      have hcw : c.w = c.object.w := rfl
      have hxl : x.objects.length ≤ 4194304 := by unfold wSBookObject at hA; omega
      left
      refine ⟨tk x c, ?_, ?_, rfl⟩
      · by_cases d2 : c.version ≤ x.at_
        · have e1 : tk x c = x := by unfold tk; rw [if_pos d2]
          rw [e1]
          simp only [VBookChange.c] at hr
          simp only [rv0, rv1, rvE, rvH, rvS, rvI, eT, eQ, ↓reduceIte, Nat.reduceEqDiff, Nat.reduceAdd, Nat.reduceSub, Nat.reduceMul, Nat.reduceLeDiff, Nat.reduceBEq, decide_true, decide_false, reduceCtorEq, Int.reduceLT, Int.reduceNeg, rvN, Nat.reduceLT, Int.reduceLE, Int.reduceEq, eq_self, List.reduceReplicate, rvF, rvG, e26, VBookMirror.c, VBookNews.c, VBookChange.c, nilM, c1, hlt, hr, hi0, hwi, d2, i64c]
        · cases d3 : c.gone
          · rw [tk_gone d2 d3]
            have g1 := k61 c.object (holds_le (n := 4194304) (by omega))
            have g2 := k74 x.objects c.object hxl
            simp only [VBookChange.c, VBookObject.c] at hr g1
            simp only [VBookObject.c] at g2
            simp only [rv0, rv1, rvE, rvH, rvS, rvI, eT, eQ, ↓reduceIte, Nat.reduceEqDiff, Nat.reduceAdd, Nat.reduceSub, Nat.reduceMul, Nat.reduceLeDiff, Nat.reduceBEq, decide_true, decide_false, reduceCtorEq, Int.reduceLT, Int.reduceNeg, rvN, Nat.reduceLT, Int.reduceLE, Int.reduceEq, eq_self, List.reduceReplicate, rvF, rvG, e26, e61, e74, VBookMirror.c, VBookNews.c, VBookChange.c, VBookObject.c, nilM, c1, hlt, hr, hi0, hwi, d2, d3, g1, g2, rowsBookObject, rowsString, i64c]
          · rw [tk_gone d2 d3]
            have g1 := k73 c.object
            have g2 := k72 x.objects c.object hxl
            simp only [VBookChange.c, VBookObject.c] at hr g1
            simp only [rv0, rv1, rvE, rvH, rvS, rvI, eT, eQ, ↓reduceIte, Nat.reduceEqDiff, Nat.reduceAdd, Nat.reduceSub, Nat.reduceMul, Nat.reduceLeDiff, Nat.reduceBEq, decide_true, decide_false, reduceCtorEq, Int.reduceLT, Int.reduceNeg, rvN, Nat.reduceLT, Int.reduceLE, Int.reduceEq, eq_self, List.reduceReplicate, rvF, rvG, e26, e73, e72, VBookMirror.c, VBookNews.c, VBookChange.c, VBookObject.c, nilM, c1, hlt, hr, hi0, hwi, d2, d3, g1, g2, rowsBookObject, rowsString, i64c]
      · show wSBookObject (tk x c).objects + _ ≤ _
        have := tk_w x c
        rw [e3]
        omega
    · intro a _
      have hn : ¬ ((n.changes.length : Int) < (n.changes.length : Int)) := by omega
      simp only [rv0, rv1, rvE, rvH, rvS, rvI, eT, eQ, ↓reduceIte, Nat.reduceEqDiff, Nat.reduceAdd, Nat.reduceSub, Nat.reduceMul, Nat.reduceLeDiff, Nat.reduceBEq, decide_true, decide_false, reduceCtorEq, Int.reduceLT, Int.reduceNeg, rvN, Nat.reduceLT, Int.reduceLE, Int.reduceEq, eq_self, List.reduceReplicate, rvF, rvG, e26, VBookMirror.c, VBookNews.c, nilM, c1, hn, tks, List.foldl_nil]
  · intro i x r a hd hi _
    have hlen := (List.getElem?_eq_some_iff.1 hi).1
    have hlt : ((i : Int) < (n.changes.length : Int)) := by omega
    have hr := getElem?_map_some (f := VBookChange.c .shr) hi
    have hi0 : (0 : Int) ≤ (i : Int) := by omega
    have hwi := wrap64 (n := (i : Int) + 1) (by omega) (by omega)
    have hst := risP_step n.changes (r := r) hi
    simp only [VBookChange.c] at hr
    cases i with
    | zero =>
      have hlt0 : (0 : Int) < (n.changes.length : Int) := by omega
      have hw01 : IntKind.i64.wrap 1 = 1 := wrap64 (by omega) (by omega)
      left
      refine ⟨(), ?_, trivial, by rw [hst]; rfl⟩
      simp only [rv0, rv1, rvE, rvH, rvS, rvI, eT, eQ, ↓reduceIte, Nat.reduceEqDiff, Nat.reduceAdd, Nat.reduceSub, Nat.reduceMul, Nat.reduceLeDiff, Nat.reduceBEq, decide_true, decide_false, reduceCtorEq, Int.reduceLT, Int.reduceNeg, rvN, Nat.reduceLT, Int.reduceLE, Int.reduceEq, eq_self, List.reduceReplicate, rvF, rvG, e26, VBookMirror.c, VBookNews.c, VBookChange.c, nilM, c1, hlt, hr, hi0, hwi, i64c, Int.lt_irrefl, Int.natCast_zero, Int.zero_add, hw01, hlt0, Int.toNat_zero]
    | succ i =>
      have hil : i < n.changes.length := by omega
      have hp : n.changes[i]? = some n.changes[i] := List.getElem?_eq_getElem hil
      generalize n.changes[i] = p at hp
      have hr2 := getElem?_map_some (f := VBookChange.c .shr) hp
      have hpr : prevO n.changes (i + 1) = some p := hp
      have hip : (0 : Int) < ((i + 1 : Nat) : Int) := by omega
      have hi1 : (0 : Int) ≤ (i : Int) := by omega
      have hw1 : IntKind.i64.wrap (((i + 1 : Nat) : Int) - 1) = (i : Int) := by rw [wrap64 (by omega) (by omega)]; omega
      have hw2 : IntKind.i64.wrap (((i + 1 : Nat) : Int) + 1) = ((i + 1 + 1 : Nat) : Int) := by rw [wrap64 (by omega) (by omega)]; omega
      rw [hpr] at hst ⊢
      simp only at hst
      simp only [VBookChange.c] at hr2
      by_cases d : x.version ≤ p.version
      · right
        rw [hst, decide_eq_true d, Bool.not_true, Bool.false_and, if_neg (by simp)]
        simp only [rv0, rv1, rvE, rvH, rvS, rvI, eT, eQ, ↓reduceIte, Nat.reduceEqDiff, Nat.reduceAdd, Nat.reduceSub, Nat.reduceMul, Nat.reduceLeDiff, Nat.reduceBEq, decide_true, decide_false, reduceCtorEq, Int.reduceLT, Int.reduceNeg, rvN, Nat.reduceLT, Int.reduceLE, Int.reduceEq, eq_self, List.reduceReplicate, rvF, rvG, e26, VBookMirror.c, VBookNews.c, VBookChange.c, nilM, c1, hlt, hr, hr2, hi0, hi1, hip, hw1, d, rowsBookObject]
      · left
        refine ⟨(), ?_, trivial, by rw [hst, decide_eq_false d]; rfl⟩
        simp only [rv0, rv1, rvE, rvH, rvS, rvI, eT, eQ, ↓reduceIte, Nat.reduceEqDiff, Nat.reduceAdd, Nat.reduceSub, Nat.reduceMul, Nat.reduceLeDiff, Nat.reduceBEq, decide_true, decide_false, reduceCtorEq, Int.reduceLT, Int.reduceNeg, rvN, Nat.reduceLT, Int.reduceLE, Int.reduceEq, eq_self, List.reduceReplicate, rvF, rvG, e26, VBookMirror.c, VBookNews.c, VBookChange.c, nilM, c1, hlt, hr, hr2, hi0, hi1, hip, hw1, hw2, d]
  · intro a _
    have hn : ¬ ((n.changes.length : Int) < (n.changes.length : Int)) := by omega
    simp only [rv0, rv1, rvE, rvH, rvS, rvI, eT, eQ, ↓reduceIte, Nat.reduceEqDiff, Nat.reduceAdd, Nat.reduceSub, Nat.reduceMul, Nat.reduceLeDiff, Nat.reduceBEq, decide_true, decide_false, reduceCtorEq, Int.reduceLT, Int.reduceNeg, rvN, Nat.reduceLT, Int.reduceLE, Int.reduceEq, eq_self, List.reduceReplicate, rvF, rvG, e26, VBookMirror.c, VBookNews.c, nilM, c1, hn, risF]
end Go.Proofs.Ytdjapblnmkghoaa

