/- Fixed places, slots of most disks: what the functions compute. -/
import Derived.Test.YtjcbojcnfdlfaaaMj5
namespace Go.Proofs.Ytjcbojcnfdlfaaa
open Go.Sx
set_option maxRecDepth 100000
set_option maxHeartbeats 16000000
set_option linter.unusedVariables false
set_option linter.unusedSimpArgs false
def fixG (k : Int) : List VRecFix → ByteArray × Bool
  | [] => (eS, false)
  | f :: r => if f.index = k then (f.text, true) else fixG k r
theorem fixG_eq (k : Int) : ∀ l : List VRecFix, fixG k l = fixd l k
  | [] => rfl
  | f :: r => by
    have ih := fixG_eq k r
    unfold fixd at ih ⊢
    rw [fixG, List.find?_cons]
    by_cases h : f.index = k
    · rw [if_pos h, decide_eq_true h]
    · rw [if_neg h, decide_eq_false h]; exact ih
theorem k52 (w : VRecWorld) (k : Int) (hw : w.w ≤ 4194304) : EV Try.prog E 52 [.val 0 true (w.c .shr), .val 0 false [.p (.int .i64 k)]] = some ⟨[(false, [.p (.string (fixd w.fixed k).1)]), (false, [.p (.bool (fixd w.fixed k).2)])], []⟩ := by
  refine EV_intro Try.func52 rfl ?_
  have hl : w.fixed.length ≤ 4194304 := by unfold VRecWorld.w wSRecFix at hw; omega
  rw [← fixG_eq]
  simp only [rv0, rv1, rvE, rvH, rvS, rvI, eT, eQ, ↓reduceIte, Nat.reduceEqDiff, Nat.reduceAdd, Nat.reduceSub, Nat.reduceMul, Nat.reduceLeDiff, Nat.reduceBEq, decide_true, decide_false, reduceCtorEq, Int.reduceLT, Int.reduceNeg, rvN, Nat.reduceLT, Int.reduceLE, Int.reduceEq, eq_self, List.reduceReplicate, rvF, rvG, e52, Try.f52, VRecWorld.c]
  rw [for_block w.fixed (fun i (_ : Unit) => ⟨3, [(1, .val 0 false [.p (.int .i64 k)]), (2, .box 1 1 (w.c .shr)), (6, .val 2 false [.p (.int .i64 i)])]⟩) (fun _ _ => True)
    (fun r i _ => match fixG k r with
      | (t, true) => .ret ⟨[(false, [.p (.string t)]), (false, [.p (.bool true)])], []⟩
      | (_, false) => .norm ⟨0, []⟩) ?_ ?_ (a := ()) trivial (by simp only [rv0, rv1, rvE, rvH, rvS, rvI, eT, eQ, ↓reduceIte, Nat.reduceEqDiff, Nat.reduceAdd, Nat.reduceSub, Nat.reduceMul, Nat.reduceLeDiff, Nat.reduceBEq, decide_true, decide_false, reduceCtorEq, Int.reduceLT, Int.reduceNeg, rvN, Nat.reduceLT, Int.reduceLE, Int.reduceEq, eq_self, List.reduceReplicate, rvF, rvG, e52, VRecWorld.c]; try rfl)]
  · have hf : (fixG k w.fixed).2 = false → (fixG k w.fixed).1 = eS := by
      generalize w.fixed = l
      induction l with
      | nil => intro _; rfl
      | cons f r ih =>
        rw [fixG]
        split
        · intro h; cases h
        · exact ih
    generalize fixG k w.fixed = q at hf
    obtain ⟨t, b⟩ := q
    cases b
    · have ht : t = eS := hf rfl
      subst ht
      simp only [rv0, rv1, rvE, rvH, rvS, rvI, eT, eQ, ↓reduceIte, Nat.reduceEqDiff, Nat.reduceAdd, Nat.reduceSub, Nat.reduceMul, Nat.reduceLeDiff, Nat.reduceBEq, decide_true, decide_false, reduceCtorEq, Int.reduceLT, Int.reduceNeg, rvN, Nat.reduceLT, Int.reduceLE, Int.reduceEq, eq_self, List.reduceReplicate, rvF, rvG, e52, eS]
    · simp only [rv0, rv1, rvE, rvH, rvS, rvI, eT, eQ, ↓reduceIte, Nat.reduceEqDiff, Nat.reduceAdd, Nat.reduceSub, Nat.reduceMul, Nat.reduceLeDiff, Nat.reduceBEq, decide_true, decide_false, reduceCtorEq, Int.reduceLT, Int.reduceNeg, rvN, Nat.reduceLT, Int.reduceLE, Int.reduceEq, eq_self, List.reduceReplicate, rvF, rvG, e52]
  · intro i f r a hd hi _
    have hlen := (List.getElem?_eq_some_iff.1 hi).1
    have hlt : ((i : Int) < (w.fixed.length : Int)) := by omega
    have hr := getElem?_map_some (f := VRecFix.c) hi
    have hi0 : (0 : Int) ≤ (i : Int) := by omega
    have hwi := wrap64 (n := (i : Int) + 1) (by omega) (by omega)
    simp only [VRecFix.c] at hr
    rw [fixG]
    by_cases d : f.index = k
    · right
      have d' := eq_true d
      rw [if_pos d]
      simp only [rv0, rv1, rvE, rvH, rvS, rvI, eT, eQ, ↓reduceIte, Nat.reduceEqDiff, Nat.reduceAdd, Nat.reduceSub, Nat.reduceMul, Nat.reduceLeDiff, Nat.reduceBEq, decide_true, decide_false, reduceCtorEq, Int.reduceLT, Int.reduceNeg, rvN, Nat.reduceLT, Int.reduceLE, Int.reduceEq, eq_self, List.reduceReplicate, rvF, rvG, e52, VRecWorld.c, hlt, hr, hi0, d']
    · left
      rw [if_neg d]
      refine ⟨(), ?_, trivial, rfl⟩
      simp only [rv0, rv1, rvE, rvH, rvS, rvI, eT, eQ, ↓reduceIte, Nat.reduceEqDiff, Nat.reduceAdd, Nat.reduceSub, Nat.reduceMul, Nat.reduceLeDiff, Nat.reduceBEq, decide_true, decide_false, reduceCtorEq, Int.reduceLT, Int.reduceNeg, rvN, Nat.reduceLT, Int.reduceLE, Int.reduceEq, eq_self, List.reduceReplicate, rvF, rvG, e52, VRecWorld.c, hlt, hr, hi0, hwi, d, i64c]
  · intro a _
    have hn : ¬ ((w.fixed.length : Int) < (w.fixed.length : Int)) := by omega
    simp only [rv0, rv1, rvE, rvH, rvS, rvI, eT, eQ, ↓reduceIte, Nat.reduceEqDiff, Nat.reduceAdd, Nat.reduceSub, Nat.reduceMul, Nat.reduceLeDiff, Nat.reduceBEq, decide_true, decide_false, reduceCtorEq, Int.reduceLT, Int.reduceNeg, rvN, Nat.reduceLT, Int.reduceLE, Int.reduceEq, eq_self, List.reduceReplicate, rvF, rvG, e52, VRecWorld.c, hn, fixG]
theorem k130 (w : VRecWorld) (k : Int) (hw : w.w ≤ 4194304) : EV Try.prog E 130 [.box 0 0 (w.c .shr), .val 0 false [.p (.int .i64 k)]] = some ⟨[(false, [.p (.string (fixd w.fixed k).1)]), (false, [.p (.bool (fixd w.fixed k).2)])], [w.c .shr]⟩ := by
  refine EV_intro Try.func130 rfl ?_
  have hl : w.fixed.length ≤ 4194304 := by unfold VRecWorld.w wSRecFix at hw; omega
  rw [← fixG_eq]
  simp only [rv0, rv1, rvE, rvH, rvS, rvI, eT, eQ, ↓reduceIte, Nat.reduceEqDiff, Nat.reduceAdd, Nat.reduceSub, Nat.reduceMul, Nat.reduceLeDiff, Nat.reduceBEq, decide_true, decide_false, reduceCtorEq, Int.reduceLT, Int.reduceNeg, rvN, Nat.reduceLT, Int.reduceLE, Int.reduceEq, eq_self, List.reduceReplicate, rvF, rvG, e130, Try.f130, VRecWorld.c]
  rw [for_block w.fixed (fun i (_ : Unit) => ⟨5, [(0, .box 0 0 (w.c .shr)), (1, .val 1 false [.p (.int .i64 k)]), (11, .val 2 false [.sl .shr 2 (w.fixed.map VRecFix.c)]), (12, .val 3 false [.p (.int .i64 w.fixed.length)]), (13, .val 4 false [.p (.int .i64 i)])]⟩) (fun _ _ => True)
    (fun r i _ => match fixG k r with
      | (t, true) => .ret ⟨[(false, [.p (.string t)]), (false, [.p (.bool true)])], [w.c .shr]⟩
      | (_, false) => .norm ⟨1, [(0, .box 0 0 (w.c .shr))]⟩) ?_ ?_ (a := ()) trivial (by simp only [rv0, rv1, rvE, rvH, rvS, rvI, eT, eQ, ↓reduceIte, Nat.reduceEqDiff, Nat.reduceAdd, Nat.reduceSub, Nat.reduceMul, Nat.reduceLeDiff, Nat.reduceBEq, decide_true, decide_false, reduceCtorEq, Int.reduceLT, Int.reduceNeg, rvN, Nat.reduceLT, Int.reduceLE, Int.reduceEq, eq_self, List.reduceReplicate, rvF, rvG, e130, VRecWorld.c]; try rfl)]
  · have hf : (fixG k w.fixed).2 = false → (fixG k w.fixed).1 = eS := by
      generalize w.fixed = l
      induction l with
      | nil => intro _; rfl
      | cons f r ih =>
        rw [fixG]
        split
        · intro h; cases h
        · exact ih
    generalize fixG k w.fixed = q at hf
    obtain ⟨t, b⟩ := q
    cases b
    · have ht : t = eS := hf rfl
      subst ht
      simp only [rv0, rv1, rvE, rvH, rvS, rvI, eT, eQ, ↓reduceIte, Nat.reduceEqDiff, Nat.reduceAdd, Nat.reduceSub, Nat.reduceMul, Nat.reduceLeDiff, Nat.reduceBEq, decide_true, decide_false, reduceCtorEq, Int.reduceLT, Int.reduceNeg, rvN, Nat.reduceLT, Int.reduceLE, Int.reduceEq, eq_self, List.reduceReplicate, rvF, rvG, e130, VRecWorld.c, eS]
    · simp only [rv0, rv1, rvE, rvH, rvS, rvI, eT, eQ, ↓reduceIte, Nat.reduceEqDiff, Nat.reduceAdd, Nat.reduceSub, Nat.reduceMul, Nat.reduceLeDiff, Nat.reduceBEq, decide_true, decide_false, reduceCtorEq, Int.reduceLT, Int.reduceNeg, rvN, Nat.reduceLT, Int.reduceLE, Int.reduceEq, eq_self, List.reduceReplicate, rvF, rvG, e130, VRecWorld.c]
  · intro i f r a hd hi _
    have hlen := (List.getElem?_eq_some_iff.1 hi).1
    have hlt : ((i : Int) < (w.fixed.length : Int)) := by omega
    have hr := getElem?_map_some (f := VRecFix.c) hi
    have hi0 : (0 : Int) ≤ (i : Int) := by omega
    have hwi := wrap64 (n := (i : Int) + 1) (by omega) (by omega)
    simp only [VRecFix.c] at hr
    rw [fixG]
    by_cases d : f.index = k
    · right
      have d' := eq_true d
      rw [if_pos d]
      simp only [rv0, rv1, rvE, rvH, rvS, rvI, eT, eQ, ↓reduceIte, Nat.reduceEqDiff, Nat.reduceAdd, Nat.reduceSub, Nat.reduceMul, Nat.reduceLeDiff, Nat.reduceBEq, decide_true, decide_false, reduceCtorEq, Int.reduceLT, Int.reduceNeg, rvN, Nat.reduceLT, Int.reduceLE, Int.reduceEq, eq_self, List.reduceReplicate, rvF, rvG, e130, VRecWorld.c, hlt, hr, hi0, d']
    · left
      rw [if_neg d]
      refine ⟨(), ?_, trivial, rfl⟩
      simp only [rv0, rv1, rvE, rvH, rvS, rvI, eT, eQ, ↓reduceIte, Nat.reduceEqDiff, Nat.reduceAdd, Nat.reduceSub, Nat.reduceMul, Nat.reduceLeDiff, Nat.reduceBEq, decide_true, decide_false, reduceCtorEq, Int.reduceLT, Int.reduceNeg, rvN, Nat.reduceLT, Int.reduceLE, Int.reduceEq, eq_self, List.reduceReplicate, rvF, rvG, e130, VRecWorld.c, hlt, hr, hi0, hwi, d, i64c]
  · intro a _
    have hn : ¬ ((w.fixed.length : Int) < (w.fixed.length : Int)) := by omega
    simp only [rv0, rv1, rvE, rvH, rvS, rvI, eT, eQ, ↓reduceIte, Nat.reduceEqDiff, Nat.reduceAdd, Nat.reduceSub, Nat.reduceMul, Nat.reduceLeDiff, Nat.reduceBEq, decide_true, decide_false, reduceCtorEq, Int.reduceLT, Int.reduceNeg, rvN, Nat.reduceLT, Int.reduceLE, Int.reduceEq, eq_self, List.reduceReplicate, rvF, rvG, e130, VRecWorld.c, hn, fixG]
end Go.Proofs.Ytjcbojcnfdlfaaa

