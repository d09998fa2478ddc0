/- impl.RecValid: what it computes. -/
import Derived.Test.YtnhgopjnnedhdaaW2Cm
namespace Go.Proofs.Ytnhgopjnnedhdaa
open Go.Sx
set_option maxRecDepth 100000
set_option maxHeartbeats 4000000
set_option linter.unusedVariables false
set_option linter.unusedSimpArgs false

theorem k32 (x : VRecorder) (hw : x.w ≤ 4194304) : EV Try.prog E 32 [.val 0 true (x.c .shr)] = some ⟨[(false, [.p (.bool (valid x))])], []⟩ := by
  refine EV_intro Try.func32 rfl ?_
  have hw0 := hw
  unfold VRecorder.w VRecDisk.w wSInt wSRecSlot wSString wSRecMessage at hw
  have g1 := k31 x.of_ 1 5
  have g2 := k31 x.number 1 x.of_
  have g3 := k53 x.safe.promise x.safe.known x.safe.slots
  have g4 := k53 x.disk.promise x.disk.known x.disk.slots
  have g6 := k31 x.heard 0 1000000
  have g7 := k54 x.yes x.of_ (by omega)
  have g8 := k55 x.best
  have g10 := k31 x.ballot 1 x.disk.promise
  have hak : wSRecAck x.acks ≤ 4194304 := by omega
  have hakl : x.acks.length ≤ 4194304 := by unfold wSRecAck at hak; omega
  have w1 := wrap64 (n := (x.yes.length : Int) + x.best.length) (by omega) (by omega)
  have w2 := wrap64 (n := (x.held.length : Int) + x.wishes.length) (by omega) (by omega)
  have w4 := wrap64 (n := (x.yes.length : Int) + x.best.length + x.acks.length) (by omega) (by omega)
  cases c1 : inR x.of_ 1 5
  · simp only [rv0, rv1, rvE, rvH, rvS, rvI, eT, eQ, ↓reduceIte, Nat.reduceEqDiff, Nat.reduceAdd, Nat.reduceSub, Nat.reduceMul, Nat.reduceLeDiff, Nat.reduceBEq, decide_true, decide_false, reduceCtorEq, Int.reduceLT, Int.reduceNeg, rvN, Nat.reduceLT, Int.reduceLE, Int.reduceEq, eq_self, List.reduceReplicate, rvF, rvG, e32, e31, e53, e54, e55, e33, e56, Try.f32, VRecorder.c, valid, wishesOk, g1, g2, g3, g4, g6, g7, g8, c1]
  cases c2 : inR x.number 1 x.of_
  · simp only [rv0, rv1, rvE, rvH, rvS, rvI, eT, eQ, ↓reduceIte, Nat.reduceEqDiff, Nat.reduceAdd, Nat.reduceSub, Nat.reduceMul, Nat.reduceLeDiff, Nat.reduceBEq, decide_true, decide_false, reduceCtorEq, Int.reduceLT, Int.reduceNeg, rvN, Nat.reduceLT, Int.reduceLE, Int.reduceEq, eq_self, List.reduceReplicate, rvF, rvG, e32, e31, e53, e54, e55, e33, e56, Try.f32, VRecorder.c, valid, wishesOk, g1, g2, g3, g4, g6, g7, g8, c1, c2]
  cases c3 : diskOk x.safe.promise x.safe.known x.safe.slots
  · simp only [rv0, rv1, rvE, rvH, rvS, rvI, eT, eQ, ↓reduceIte, Nat.reduceEqDiff, Nat.reduceAdd, Nat.reduceSub, Nat.reduceMul, Nat.reduceLeDiff, Nat.reduceBEq, decide_true, decide_false, reduceCtorEq, Int.reduceLT, Int.reduceNeg, rvN, Nat.reduceLT, Int.reduceLE, Int.reduceEq, eq_self, List.reduceReplicate, rvF, rvG, e32, e31, e53, e54, e55, e33, e56, Try.f32, VRecorder.c, valid, wishesOk, g1, g2, g3, g4, g6, g7, g8, c1, c2, c3]
  cases c4 : diskOk x.disk.promise x.disk.known x.disk.slots
  · simp only [rv0, rv1, rvE, rvH, rvS, rvI, eT, eQ, ↓reduceIte, Nat.reduceEqDiff, Nat.reduceAdd, Nat.reduceSub, Nat.reduceMul, Nat.reduceLeDiff, Nat.reduceBEq, decide_true, decide_false, reduceCtorEq, Int.reduceLT, Int.reduceNeg, rvN, Nat.reduceLT, Int.reduceLE, Int.reduceEq, eq_self, List.reduceReplicate, rvF, rvG, e32, e31, e53, e54, e55, e33, e56, Try.f32, VRecorder.c, valid, wishesOk, g1, g2, g3, g4, g6, g7, g8, c1, c2, c3, c4]
  cases c5 : decide (400 < (x.held.length : Int))
  rotate_left
  · simp only [rv0, rv1, rvE, rvH, rvS, rvI, eT, eQ, ↓reduceIte, Nat.reduceEqDiff, Nat.reduceAdd, Nat.reduceSub, Nat.reduceMul, Nat.reduceLeDiff, Nat.reduceBEq, decide_true, decide_false, reduceCtorEq, Int.reduceLT, Int.reduceNeg, rvN, Nat.reduceLT, Int.reduceLE, Int.reduceEq, eq_self, List.reduceReplicate, rvF, rvG, e32, e31, e53, e54, e55, e33, e56, Try.f32, VRecorder.c, valid, wishesOk, g1, g2, g3, g4, g6, g7, g8, c1, c2, c3, c4, c5]
  cases c6 : decide (20 < (x.wishes.length : Int))
  rotate_left
  · simp only [rv0, rv1, rvE, rvH, rvS, rvI, eT, eQ, ↓reduceIte, Nat.reduceEqDiff, Nat.reduceAdd, Nat.reduceSub, Nat.reduceMul, Nat.reduceLeDiff, Nat.reduceBEq, decide_true, decide_false, reduceCtorEq, Int.reduceLT, Int.reduceNeg, rvN, Nat.reduceLT, Int.reduceLE, Int.reduceEq, eq_self, List.reduceReplicate, rvF, rvG, e32, e31, e53, e54, e55, e33, e56, Try.f32, VRecorder.c, valid, wishesOk, g1, g2, g3, g4, g6, g7, g8, c1, c2, c3, c4, c5, c6]
  cases c7 : inR x.heard 0 1000000
  · simp only [rv0, rv1, rvE, rvH, rvS, rvI, eT, eQ, ↓reduceIte, Nat.reduceEqDiff, Nat.reduceAdd, Nat.reduceSub, Nat.reduceMul, Nat.reduceLeDiff, Nat.reduceBEq, decide_true, decide_false, reduceCtorEq, Int.reduceLT, Int.reduceNeg, rvN, Nat.reduceLT, Int.reduceLE, Int.reduceEq, eq_self, List.reduceReplicate, rvF, rvG, e32, e31, e53, e54, e55, e33, e56, Try.f32, VRecorder.c, valid, wishesOk, g1, g2, g3, g4, g6, g7, g8, c1, c2, c3, c4, c5, c6, c7]
  cases c9 : people x.yes x.of_
  · simp only [rv0, rv1, rvE, rvH, rvS, rvI, eT, eQ, ↓reduceIte, Nat.reduceEqDiff, Nat.reduceAdd, Nat.reduceSub, Nat.reduceMul, Nat.reduceLeDiff, Nat.reduceBEq, decide_true, decide_false, reduceCtorEq, Int.reduceLT, Int.reduceNeg, rvN, Nat.reduceLT, Int.reduceLE, Int.reduceEq, eq_self, List.reduceReplicate, rvF, rvG, e32, e31, e53, e54, e55, e33, e56, Try.f32, VRecorder.c, valid, wishesOk, g1, g2, g3, g4, g6, g7, g8, c1, c2, c3, c4, c5, c6, c7, c9]
  cases c10 : slotsOk x.best
  · simp only [rv0, rv1, rvE, rvH, rvS, rvI, eT, eQ, ↓reduceIte, Nat.reduceEqDiff, Nat.reduceAdd, Nat.reduceSub, Nat.reduceMul, Nat.reduceLeDiff, Nat.reduceBEq, decide_true, decide_false, reduceCtorEq, Int.reduceLT, Int.reduceNeg, rvN, Nat.reduceLT, Int.reduceLE, Int.reduceEq, eq_self, List.reduceReplicate, rvF, rvG, e32, e31, e53, e54, e55, e33, e56, Try.f32, VRecorder.c, valid, wishesOk, g1, g2, g3, g4, g6, g7, g8, c1, c2, c3, c4, c5, c6, c7, c9, c10]
  simp only [rv0, rv1, rvE, rvH, rvS, rvI, eT, eQ, ↓reduceIte, Nat.reduceEqDiff, Nat.reduceAdd, Nat.reduceSub, Nat.reduceMul, Nat.reduceLeDiff, Nat.reduceBEq, decide_true, decide_false, reduceCtorEq, Int.reduceLT, Int.reduceNeg, rvN, Nat.reduceLT, Int.reduceLE, Int.reduceEq, eq_self, List.reduceReplicate, rvF, rvG, e32, e31, e53, e54, e55, e33, e56, Try.f32, VRecorder.c, g1, g2, g3, g4, g6, g7, g8, c1, c2, c3, c4, c5, c6, c7, c9, c10]
  rw [for_block x.held (fun i (_ : Unit) => ⟨4, [(1, .box 0 0 (x.c .shr)), (66, .val 1 false [.sl .shr 8 (x.held.map (VRecMessage.c .shr))]), (67, .val 2 false [.p (.int .i64 x.held.length)]), (68, .val 3 false [.p (.int .i64 i)])]⟩) (fun i _ => True)
    (fun r i a => if r.all (heldOk1 x) = true then .norm ⟨1, [(1, .box 0 0 (x.c .shr))]⟩ else .ret ⟨[(false, [.p (.bool false)])], []⟩) ?_ ?_ (a := ()) trivial (by simp only [rv0, rv1, rvE, rvH, rvS, rvI, eT, eQ, ↓reduceIte, Nat.reduceEqDiff, Nat.reduceAdd, Nat.reduceSub, Nat.reduceMul, Nat.reduceLeDiff, Nat.reduceBEq, decide_true, decide_false, reduceCtorEq, Int.reduceLT, Int.reduceNeg, rvN, Nat.reduceLT, Int.reduceLE, Int.reduceEq, eq_self, List.reduceReplicate, rvF, rvG, e32, VRecorder.c]; rfl)]
  · cases c8 : x.held.all (heldOk1 x)
    · simp only [rv0, rv1, rvE, rvH, rvS, rvI, eT, eQ, ↓reduceIte, Nat.reduceEqDiff, Nat.reduceAdd, Nat.reduceSub, Nat.reduceMul, Nat.reduceLeDiff, Nat.reduceBEq, decide_true, decide_false, reduceCtorEq, Int.reduceLT, Int.reduceNeg, rvN, Nat.reduceLT, Int.reduceLE, Int.reduceEq, eq_self, List.reduceReplicate, rvF, rvG, e32, valid, c8]
    simp only [rv0, rv1, rvE, rvH, rvS, rvI, eT, eQ, ↓reduceIte, Nat.reduceEqDiff, Nat.reduceAdd, Nat.reduceSub, Nat.reduceMul, Nat.reduceLeDiff, Nat.reduceBEq, decide_true, decide_false, reduceCtorEq, Int.reduceLT, Int.reduceNeg, rvN, Nat.reduceLT, Int.reduceLE, Int.reduceEq, eq_self, List.reduceReplicate, rvF, rvG, e32, e31, e53, e54, e55, e33, e56, VRecorder.c]
    rw [for_block x.wishes (fun i (_ : Unit) => ⟨4, [(1, .box 0 0 (x.c .shr)), (86, .val 1 false [.sl .shr 1 (x.wishes.map strC)]), (87, .val 2 false [.p (.int .i64 x.wishes.length)]), (88, .val 3 false [.p (.int .i64 i)])]⟩) (fun i _ => True)
      (fun r i a => if wGo x.wishes r i = true then .norm ⟨1, [(1, .box 0 0 (x.c .shr))]⟩ else .ret ⟨[(false, [.p (.bool false)])], []⟩) ?_ ?_ (a := ()) trivial (by simp only [rv0, rv1, rvE, rvH, rvS, rvI, eT, eQ, ↓reduceIte, Nat.reduceEqDiff, Nat.reduceAdd, Nat.reduceSub, Nat.reduceMul, Nat.reduceLeDiff, Nat.reduceBEq, decide_true, decide_false, reduceCtorEq, Int.reduceLT, Int.reduceNeg, rvN, Nat.reduceLT, Int.reduceLE, Int.reduceEq, eq_self, List.reduceReplicate, rvF, rvG, e32, VRecorder.c]; rfl)]
    · cases c11 : wGo x.wishes x.wishes 0
      · simp only [rv0, rv1, rvE, rvH, rvS, rvI, eT, eQ, ↓reduceIte, Nat.reduceEqDiff, Nat.reduceAdd, Nat.reduceSub, Nat.reduceMul, Nat.reduceLeDiff, Nat.reduceBEq, decide_true, decide_false, reduceCtorEq, Int.reduceLT, Int.reduceNeg, rvN, Nat.reduceLT, Int.reduceLE, Int.reduceEq, eq_self, List.reduceReplicate, rvF, rvG, e32, valid, wishesOk, c11]
      simp only [rv0, rv1, rvE, rvH, rvS, rvI, eT, eQ, ↓reduceIte, Nat.reduceEqDiff, Nat.reduceAdd, Nat.reduceSub, Nat.reduceMul, Nat.reduceLeDiff, Nat.reduceBEq, decide_true, decide_false, reduceCtorEq, Int.reduceLT, Int.reduceNeg, rvN, Nat.reduceLT, Int.reduceLE, Int.reduceEq, eq_self, List.reduceReplicate, rvF, rvG, e32, e31, e53, e54, e55, e33, e56, VRecorder.c]
      rw [for_block x.acks (fun i (_ : Unit) => ⟨4, [(1, .box 0 0 (x.c .shr)), (107, .val 1 false [.sl .shr 2 (x.acks.map (VRecAck.c .shr))]), (108, .val 2 false [.p (.int .i64 x.acks.length)]), (109, .val 3 false [.p (.int .i64 i)])]⟩) (fun i _ => True)
        (fun r i a => if aGo x.acks x.of_ r i = true then .norm ⟨1, [(1, .box 0 0 (x.c .shr))]⟩ else .ret ⟨[(false, [.p (.bool false)])], []⟩) ?_ ?_ (a := ()) trivial (by simp only [rv0, rv1, rvE, rvH, rvS, rvI, eT, eQ, ↓reduceIte, Nat.reduceEqDiff, Nat.reduceAdd, Nat.reduceSub, Nat.reduceMul, Nat.reduceLeDiff, Nat.reduceBEq, decide_true, decide_false, reduceCtorEq, Int.reduceLT, Int.reduceNeg, rvN, Nat.reduceLT, Int.reduceLE, Int.reduceEq, eq_self, List.reduceReplicate, rvF, rvG, e32, VRecorder.c]; rfl)]
      · cases c12 : aGo x.acks x.of_ x.acks 0
        · simp only [rv0, rv1, rvE, rvH, rvS, rvI, eT, eQ, ↓reduceIte, Nat.reduceEqDiff, Nat.reduceAdd, Nat.reduceSub, Nat.reduceMul, Nat.reduceLeDiff, Nat.reduceBEq, decide_true, decide_false, reduceCtorEq, Int.reduceLT, Int.reduceNeg, rvN, Nat.reduceLT, Int.reduceLE, Int.reduceEq, eq_self, List.reduceReplicate, rvF, rvG, e32, valid, acksOk, c12]
        cases c13 : x.lead
        · cases c14 : x.trying
          · cases c15 : decide (x.ballot = 0)
            · simp only [rv0, rv1, rvE, rvH, rvS, rvI, eT, eQ, ↓reduceIte, Nat.reduceEqDiff, Nat.reduceAdd, Nat.reduceSub, Nat.reduceMul, Nat.reduceLeDiff, Nat.reduceBEq, decide_true, decide_false, reduceCtorEq, Int.reduceLT, Int.reduceNeg, rvN, Nat.reduceLT, Int.reduceLE, Int.reduceEq, eq_self, List.reduceReplicate, rvF, rvG, e32, e31, e53, e54, e55, e33, e56, VRecorder.c, valid, wishesOk, acksOk, ends, c1, c2, c3, c4, c5, c6, c7, c9, c10, idle, c8, c11, c12, c13, c14, c15]
            cases c16 : decide (0 < (x.yes.length : Int) + x.best.length + x.acks.length)
            · cases c17 : x.up
              · cases c18 : decide ((x.held.length : Int) + x.wishes.length = 0)
                · simp only [rv0, rv1, rvE, rvH, rvS, rvI, eT, eQ, ↓reduceIte, Nat.reduceEqDiff, Nat.reduceAdd, Nat.reduceSub, Nat.reduceMul, Nat.reduceLeDiff, Nat.reduceBEq, decide_true, decide_false, reduceCtorEq, Int.reduceLT, Int.reduceNeg, rvN, Nat.reduceLT, Int.reduceLE, Int.reduceEq, eq_self, List.reduceReplicate, rvF, rvG, e32, e31, e53, e54, e55, e33, e56, VRecorder.c, valid, wishesOk, acksOk, ends, c1, c2, c3, c4, c5, c6, c7, c9, c10, idle, c8, c11, c12, c13, c14, c15, c16, c17, c18, w1, w2, w4]
                · simp only [rv0, rv1, rvE, rvH, rvS, rvI, eT, eQ, ↓reduceIte, Nat.reduceEqDiff, Nat.reduceAdd, Nat.reduceSub, Nat.reduceMul, Nat.reduceLeDiff, Nat.reduceBEq, decide_true, decide_false, reduceCtorEq, Int.reduceLT, Int.reduceNeg, rvN, Nat.reduceLT, Int.reduceLE, Int.reduceEq, eq_self, List.reduceReplicate, rvF, rvG, e32, e31, e53, e54, e55, e33, e56, VRecorder.c, valid, wishesOk, acksOk, ends, c1, c2, c3, c4, c5, c6, c7, c9, c10, idle, c8, c11, c12, c13, c14, c15, c16, c17, c18, w1, w2, w4]
              · simp only [rv0, rv1, rvE, rvH, rvS, rvI, eT, eQ, ↓reduceIte, Nat.reduceEqDiff, Nat.reduceAdd, Nat.reduceSub, Nat.reduceMul, Nat.reduceLeDiff, Nat.reduceBEq, decide_true, decide_false, reduceCtorEq, Int.reduceLT, Int.reduceNeg, rvN, Nat.reduceLT, Int.reduceLE, Int.reduceEq, eq_self, List.reduceReplicate, rvF, rvG, e32, e31, e53, e54, e55, e33, e56, VRecorder.c, valid, wishesOk, acksOk, ends, c1, c2, c3, c4, c5, c6, c7, c9, c10, idle, c8, c11, c12, c13, c14, c15, c16, c17, w1, w2, w4]
            · simp only [rv0, rv1, rvE, rvH, rvS, rvI, eT, eQ, ↓reduceIte, Nat.reduceEqDiff, Nat.reduceAdd, Nat.reduceSub, Nat.reduceMul, Nat.reduceLeDiff, Nat.reduceBEq, decide_true, decide_false, reduceCtorEq, Int.reduceLT, Int.reduceNeg, rvN, Nat.reduceLT, Int.reduceLE, Int.reduceEq, eq_self, List.reduceReplicate, rvF, rvG, e32, e31, e53, e54, e55, e33, e56, VRecorder.c, valid, wishesOk, acksOk, ends, c1, c2, c3, c4, c5, c6, c7, c9, c10, idle, c8, c11, c12, c13, c14, c15, c16, w1, w2, w4]
          · cases c15 : inR x.ballot 1 x.disk.promise
            · simp only [rv0, rv1, rvE, rvH, rvS, rvI, eT, eQ, ↓reduceIte, Nat.reduceEqDiff, Nat.reduceAdd, Nat.reduceSub, Nat.reduceMul, Nat.reduceLeDiff, Nat.reduceBEq, decide_true, decide_false, reduceCtorEq, Int.reduceLT, Int.reduceNeg, rvN, Nat.reduceLT, Int.reduceLE, Int.reduceEq, eq_self, List.reduceReplicate, rvF, rvG, e32, e31, e53, e54, e55, e33, e56, VRecorder.c, valid, wishesOk, acksOk, ends, c1, c2, c3, c4, c5, c6, c7, c9, c10, leads, g10, c8, c11, c12, c13, c14, c15]
            cases c16 : decide (0 < (x.acks.length : Int))
            · cases c17 : x.up
              · simp only [rv0, rv1, rvE, rvH, rvS, rvI, eT, eQ, ↓reduceIte, Nat.reduceEqDiff, Nat.reduceAdd, Nat.reduceSub, Nat.reduceMul, Nat.reduceLeDiff, Nat.reduceBEq, decide_true, decide_false, reduceCtorEq, Int.reduceLT, Int.reduceNeg, rvN, Nat.reduceLT, Int.reduceLE, Int.reduceEq, eq_self, List.reduceReplicate, rvF, rvG, e32, e31, e53, e54, e55, e33, e56, VRecorder.c, valid, wishesOk, acksOk, ends, c1, c2, c3, c4, c5, c6, c7, c9, c10, leads, g10, c8, c11, c12, c13, c14, c15, c16, c17]
              · simp only [rv0, rv1, rvE, rvH, rvS, rvI, eT, eQ, ↓reduceIte, Nat.reduceEqDiff, Nat.reduceAdd, Nat.reduceSub, Nat.reduceMul, Nat.reduceLeDiff, Nat.reduceBEq, decide_true, decide_false, reduceCtorEq, Int.reduceLT, Int.reduceNeg, rvN, Nat.reduceLT, Int.reduceLE, Int.reduceEq, eq_self, List.reduceReplicate, rvF, rvG, e32, e31, e53, e54, e55, e33, e56, VRecorder.c, valid, wishesOk, acksOk, ends, c1, c2, c3, c4, c5, c6, c7, c9, c10, leads, g10, c8, c11, c12, c13, c14, c15, c16, c17]
            · simp only [rv0, rv1, rvE, rvH, rvS, rvI, eT, eQ, ↓reduceIte, Nat.reduceEqDiff, Nat.reduceAdd, Nat.reduceSub, Nat.reduceMul, Nat.reduceLeDiff, Nat.reduceBEq, decide_true, decide_false, reduceCtorEq, Int.reduceLT, Int.reduceNeg, rvN, Nat.reduceLT, Int.reduceLE, Int.reduceEq, eq_self, List.reduceReplicate, rvF, rvG, e32, e31, e53, e54, e55, e33, e56, VRecorder.c, valid, wishesOk, acksOk, ends, c1, c2, c3, c4, c5, c6, c7, c9, c10, leads, g10, c8, c11, c12, c13, c14, c15, c16]
        · cases c14 : x.trying
          · cases c15 : inR x.ballot 1 x.disk.promise
            · simp only [rv0, rv1, rvE, rvH, rvS, rvI, eT, eQ, ↓reduceIte, Nat.reduceEqDiff, Nat.reduceAdd, Nat.reduceSub, Nat.reduceMul, Nat.reduceLeDiff, Nat.reduceBEq, decide_true, decide_false, reduceCtorEq, Int.reduceLT, Int.reduceNeg, rvN, Nat.reduceLT, Int.reduceLE, Int.reduceEq, eq_self, List.reduceReplicate, rvF, rvG, e32, e31, e53, e54, e55, e33, e56, VRecorder.c, valid, wishesOk, acksOk, ends, c1, c2, c3, c4, c5, c6, c7, c9, c10, leads, g10, c8, c11, c12, c13, c14, c15]
            cases c16 : decide (0 < (x.yes.length : Int) + x.best.length)
            · cases c17 : x.up
              · simp only [rv0, rv1, rvE, rvH, rvS, rvI, eT, eQ, ↓reduceIte, Nat.reduceEqDiff, Nat.reduceAdd, Nat.reduceSub, Nat.reduceMul, Nat.reduceLeDiff, Nat.reduceBEq, decide_true, decide_false, reduceCtorEq, Int.reduceLT, Int.reduceNeg, rvN, Nat.reduceLT, Int.reduceLE, Int.reduceEq, eq_self, List.reduceReplicate, rvF, rvG, e32, e31, e53, e54, e55, e33, e56, VRecorder.c, valid, wishesOk, acksOk, ends, c1, c2, c3, c4, c5, c6, c7, c9, c10, leads, g10, c8, c11, c12, c13, c14, c15, c16, c17, w1]
              · simp only [rv0, rv1, rvE, rvH, rvS, rvI, eT, eQ, ↓reduceIte, Nat.reduceEqDiff, Nat.reduceAdd, Nat.reduceSub, Nat.reduceMul, Nat.reduceLeDiff, Nat.reduceBEq, decide_true, decide_false, reduceCtorEq, Int.reduceLT, Int.reduceNeg, rvN, Nat.reduceLT, Int.reduceLE, Int.reduceEq, eq_self, List.reduceReplicate, rvF, rvG, e32, e31, e53, e54, e55, e33, e56, VRecorder.c, valid, wishesOk, acksOk, ends, c1, c2, c3, c4, c5, c6, c7, c9, c10, leads, g10, c8, c11, c12, c13, c14, c15, c16, c17, w1]
            · simp only [rv0, rv1, rvE, rvH, rvS, rvI, eT, eQ, ↓reduceIte, Nat.reduceEqDiff, Nat.reduceAdd, Nat.reduceSub, Nat.reduceMul, Nat.reduceLeDiff, Nat.reduceBEq, decide_true, decide_false, reduceCtorEq, Int.reduceLT, Int.reduceNeg, rvN, Nat.reduceLT, Int.reduceLE, Int.reduceEq, eq_self, List.reduceReplicate, rvF, rvG, e32, e31, e53, e54, e55, e33, e56, VRecorder.c, valid, wishesOk, acksOk, ends, c1, c2, c3, c4, c5, c6, c7, c9, c10, leads, g10, c8, c11, c12, c13, c14, c15, c16, w1]
          · simp only [rv0, rv1, rvE, rvH, rvS, rvI, eT, eQ, ↓reduceIte, Nat.reduceEqDiff, Nat.reduceAdd, Nat.reduceSub, Nat.reduceMul, Nat.reduceLeDiff, Nat.reduceBEq, decide_true, decide_false, reduceCtorEq, Int.reduceLT, Int.reduceNeg, rvN, Nat.reduceLT, Int.reduceLE, Int.reduceEq, eq_self, List.reduceReplicate, rvF, rvG, e32, e31, e53, e54, e55, e33, e56, VRecorder.c, valid, wishesOk, acksOk, ends, c1, c2, c3, c4, c5, c6, c7, c9, c10, c8, c11, c12, c13, c14]
      · intro i s r a hd hi _
        have hlen := (List.getElem?_eq_some_iff.1 hi).1
        have hlt : ((i : Int) < (x.acks.length : Int)) := by omega
        have hr := getElem?_map_some (f := VRecAck.c .shr) hi
        have hwi := wrap64 (n := (i : Int) + 1) (by omega) (by omega)
        have hi0 : (0 : Int) ≤ (i : Int) := by omega
        have hg := k31 s.index 1 60
        have hsl : s.from_.length ≤ 4194304 := by
          have := wSRecAck_mem (List.mem_of_getElem? hi)
          unfold VRecAck.w wSInt at this
          unfold wSRecAck at hak
          omega
        have hp77 := k54 s.from_ x.of_ hsl
        simp only [VRecAck.c] at hr
        cases d1 : inR s.index 1 60
        · right
          simp only [rv0, rv1, rvE, rvH, rvS, rvI, eT, eQ, ↓reduceIte, Nat.reduceEqDiff, Nat.reduceAdd, Nat.reduceSub, Nat.reduceMul, Nat.reduceLeDiff, Nat.reduceBEq, decide_true, decide_false, reduceCtorEq, Int.reduceLT, Int.reduceNeg, rvN, Nat.reduceLT, Int.reduceLE, Int.reduceEq, eq_self, List.reduceReplicate, rvF, rvG, e32, e31, e53, e54, e55, e33, e56, VRecorder.c, aGo, aOk, hlt, hr, hg, d1, hi0]
        · cases d4 : people s.from_ x.of_
          · right
            simp only [rv0, rv1, rvE, rvH, rvS, rvI, eT, eQ, ↓reduceIte, Nat.reduceEqDiff, Nat.reduceAdd, Nat.reduceSub, Nat.reduceMul, Nat.reduceLeDiff, Nat.reduceBEq, decide_true, decide_false, reduceCtorEq, Int.reduceLT, Int.reduceNeg, rvN, Nat.reduceLT, Int.reduceLE, Int.reduceEq, eq_self, List.reduceReplicate, rvF, rvG, e32, e31, e53, e54, e55, e33, e56, VRecorder.c, aGo, aOk, hlt, hr, hg, hp77, d1, d4, hi0]
          · cases d2 : decide (0 < (i : Int))
            · left
              refine ⟨(), ?_, trivial, by simp only [aGo, aOk, d1, d2, d4]; rfl⟩
              simp only [rv0, rv1, rvE, rvH, rvS, rvI, eT, eQ, ↓reduceIte, Nat.reduceEqDiff, Nat.reduceAdd, Nat.reduceSub, Nat.reduceMul, Nat.reduceLeDiff, Nat.reduceBEq, decide_true, decide_false, reduceCtorEq, Int.reduceLT, Int.reduceNeg, rvN, Nat.reduceLT, Int.reduceLE, Int.reduceEq, eq_self, List.reduceReplicate, rvF, rvG, e32, e31, e53, e54, e55, e33, e56, VRecorder.c, hlt, hr, hg, hp77, d1, d2, d4, hi0, hwi, i64c]
            · have hip : 0 < (i : Int) := by simpa using d2
              have hpl : i - 1 < x.acks.length := by omega
              have hp : x.acks[i - 1]? = some x.acks[i - 1] := List.getElem?_eq_getElem hpl
              have hrp := getElem?_map_some (f := VRecAck.c .shr) hp
              have hw1 := wrap64 (n := (i : Int) - 1) (by omega) (by omega)
              have hi1 : (0 : Int) ≤ (i : Int) - 1 := by omega
              have hnat : ((i : Int) - 1).toNat = i - 1 := by omega
              simp only [VRecAck.c] at hrp
              cases d3 : decide (s.index ≤ x.acks[i - 1].index)
              · left
                refine ⟨(), ?_, trivial, by simp only [aGo, aOk, d1, d2, d4, hp, Option.map_some, Option.getD_some, d3]; rfl⟩
                simp only [rv0, rv1, rvE, rvH, rvS, rvI, eT, eQ, ↓reduceIte, Nat.reduceEqDiff, Nat.reduceAdd, Nat.reduceSub, Nat.reduceMul, Nat.reduceLeDiff, Nat.reduceBEq, decide_true, decide_false, reduceCtorEq, Int.reduceLT, Int.reduceNeg, rvN, Nat.reduceLT, Int.reduceLE, Int.reduceEq, eq_self, List.reduceReplicate, rvF, rvG, e32, e31, e53, e54, e55, e33, e56, VRecorder.c, hlt, hr, hg, hp77, d1, d2, d3, d4, hrp, hw1, hi1, hnat, hi0, hwi, i64c]
              · right
                simp only [rv0, rv1, rvE, rvH, rvS, rvI, eT, eQ, ↓reduceIte, Nat.reduceEqDiff, Nat.reduceAdd, Nat.reduceSub, Nat.reduceMul, Nat.reduceLeDiff, Nat.reduceBEq, decide_true, decide_false, reduceCtorEq, Int.reduceLT, Int.reduceNeg, rvN, Nat.reduceLT, Int.reduceLE, Int.reduceEq, eq_self, List.reduceReplicate, rvF, rvG, e32, e31, e53, e54, e55, e33, e56, VRecorder.c, aGo, aOk, hp, Option.map_some, Option.getD_some, hlt, hr, hg, hp77, d1, d2, d3, d4, hrp, hw1, hi1, hnat, hi0]
      · intro a _
        simp only [rv0, rv1, rvE, rvH, rvS, rvI, eT, eQ, ↓reduceIte, Nat.reduceEqDiff, Nat.reduceAdd, Nat.reduceSub, Nat.reduceMul, Nat.reduceLeDiff, Nat.reduceBEq, decide_true, decide_false, reduceCtorEq, Int.reduceLT, Int.reduceNeg, rvN, Nat.reduceLT, Int.reduceLE, Int.reduceEq, eq_self, List.reduceReplicate, rvF, rvG, e32, VRecorder.c, aGo]
    · intro i s r a hd hi _
      have hlen := (List.getElem?_eq_some_iff.1 hi).1
      have hlt : ((i : Int) < (x.wishes.length : Int)) := by omega
      have hr := getElem?_map_some (f := strC) hi
      have hwi := wrap64 (n := (i : Int) + 1) (by omega) (by omega)
      have hi0 : (0 : Int) ≤ (i : Int) := by omega
      have hg := k31 (s.size : Int) 1 100
      have hle : i ≤ x.wishes.length := by omega
      have htk : (x.wishes.map strC).take i = (x.wishes.take i).map strC := by rw [List.map_take]
      have h80 := k56 (x.wishes.take i) s (by simp; omega)
      simp only [strC] at hr
      cases d1 : inR (s.size : Int) 1 100
      · right
        simp only [rv0, rv1, rvE, rvH, rvS, rvI, eT, eQ, ↓reduceIte, Nat.reduceEqDiff, Nat.reduceAdd, Nat.reduceSub, Nat.reduceMul, Nat.reduceLeDiff, Nat.reduceBEq, decide_true, decide_false, reduceCtorEq, Int.reduceLT, Int.reduceNeg, rvN, Nat.reduceLT, Int.reduceLE, Int.reduceEq, eq_self, List.reduceReplicate, rvF, rvG, e32, e31, e53, e54, e55, e33, e56, VRecorder.c, wGo, wOk, hlt, hr, hg, d1, hi0]
      · cases d2 : hasS s (x.wishes.take i)
        · left
          refine ⟨(), ?_, trivial, by simp only [wGo, wOk, d1, d2]; rfl⟩
          simp only [rv0, rv1, rvE, rvH, rvS, rvI, eT, eQ, ↓reduceIte, Nat.reduceEqDiff, Nat.reduceAdd, Nat.reduceSub, Nat.reduceMul, Nat.reduceLeDiff, Nat.reduceBEq, decide_true, decide_false, reduceCtorEq, Int.reduceLT, Int.reduceNeg, rvN, Nat.reduceLT, Int.reduceLE, Int.reduceEq, eq_self, List.reduceReplicate, rvF, rvG, e32, e31, e53, e54, e55, e33, e56, VRecorder.c, hlt, hr, hg, d1, d2, hi0, hwi, i64c, Nat.zero_le, hle, Nat.sub_zero, htk, h80]
        · right
          simp only [rv0, rv1, rvE, rvH, rvS, rvI, eT, eQ, ↓reduceIte, Nat.reduceEqDiff, Nat.reduceAdd, Nat.reduceSub, Nat.reduceMul, Nat.reduceLeDiff, Nat.reduceBEq, decide_true, decide_false, reduceCtorEq, Int.reduceLT, Int.reduceNeg, rvN, Nat.reduceLT, Int.reduceLE, Int.reduceEq, eq_self, List.reduceReplicate, rvF, rvG, e32, e31, e53, e54, e55, e33, e56, VRecorder.c, wGo, wOk, hlt, hr, hg, d1, d2, hi0, Nat.zero_le, hle, Nat.sub_zero, htk, h80]
    · intro a _
      simp only [rv0, rv1, rvE, rvH, rvS, rvI, eT, eQ, ↓reduceIte, Nat.reduceEqDiff, Nat.reduceAdd, Nat.reduceSub, Nat.reduceMul, Nat.reduceLeDiff, Nat.reduceBEq, decide_true, decide_false, reduceCtorEq, Int.reduceLT, Int.reduceNeg, rvN, Nat.reduceLT, Int.reduceLE, Int.reduceEq, eq_self, List.reduceReplicate, rvF, rvG, e32, VRecorder.c, wGo]
  · intro i s r a hd hi _
    have hlen := (List.getElem?_eq_some_iff.1 hi).1
    have hlt : ((i : Int) < (x.held.length : Int)) := by omega
    have hr := getElem?_map_some (f := VRecMessage.c .shr) hi
    have hwi := wrap64 (n := (i : Int) + 1) (by omega) (by omega)
    have hi0 : (0 : Int) ≤ (i : Int) := by omega
    have hg := k33 s.kind s.from_ s.to_ s.ballot s.index s.known s.text s.slots x.of_
    simp only [VRecMessage.c] at hr
    cases d1 : msgOkV s x.of_
    · right
      have d1' := d1
      unfold msgOkV at d1'
      rw [d1'] at hg
      simp only [rv0, rv1, rvE, rvH, rvS, rvI, eT, eQ, ↓reduceIte, Nat.reduceEqDiff, Nat.reduceAdd, Nat.reduceSub, Nat.reduceMul, Nat.reduceLeDiff, Nat.reduceBEq, decide_true, decide_false, reduceCtorEq, Int.reduceLT, Int.reduceNeg, rvN, Nat.reduceLT, Int.reduceLE, Int.reduceEq, eq_self, List.reduceReplicate, rvF, rvG, e32, e31, e53, e54, e55, e33, e56, VRecorder.c, List.all_cons, heldOk1, hlt, hr, hg, d1, hi0]
    · have d1' := d1
      unfold msgOkV at d1'
      rw [d1'] at hg
      cases d2 : decide (s.from_ = x.number)
      · right
        simp only [rv0, rv1, rvE, rvH, rvS, rvI, eT, eQ, ↓reduceIte, Nat.reduceEqDiff, Nat.reduceAdd, Nat.reduceSub, Nat.reduceMul, Nat.reduceLeDiff, Nat.reduceBEq, decide_true, decide_false, reduceCtorEq, Int.reduceLT, Int.reduceNeg, rvN, Nat.reduceLT, Int.reduceLE, Int.reduceEq, eq_self, List.reduceReplicate, rvF, rvG, e32, e31, e53, e54, e55, e33, e56, VRecorder.c, List.all_cons, heldOk1, hlt, hr, hg, d1, d2, hi0]
      · left
        refine ⟨(), ?_, trivial, by simp only [List.all_cons, heldOk1, d1, d2]; rfl⟩
        simp only [rv0, rv1, rvE, rvH, rvS, rvI, eT, eQ, ↓reduceIte, Nat.reduceEqDiff, Nat.reduceAdd, Nat.reduceSub, Nat.reduceMul, Nat.reduceLeDiff, Nat.reduceBEq, decide_true, decide_false, reduceCtorEq, Int.reduceLT, Int.reduceNeg, rvN, Nat.reduceLT, Int.reduceLE, Int.reduceEq, eq_self, List.reduceReplicate, rvF, rvG, e32, e31, e53, e54, e55, e33, e56, VRecorder.c, hlt, hr, hg, d2, hi0, hwi, i64c]
  · intro a _
    simp only [rv0, rv1, rvE, rvH, rvS, rvI, eT, eQ, ↓reduceIte, Nat.reduceEqDiff, Nat.reduceAdd, Nat.reduceSub, Nat.reduceMul, Nat.reduceLeDiff, Nat.reduceBEq, decide_true, decide_false, reduceCtorEq, Int.reduceLT, Int.reduceNeg, rvN, Nat.reduceLT, Int.reduceLE, Int.reduceEq, eq_self, List.reduceReplicate, rvF, rvG, e32, VRecorder.c, List.all_nil]

end Go.Proofs.Ytnhgopjnnedhdaa

