/- RecValid: what the functions compute. -/
import Derived.Test.YtnhgopjnnedhdaaW2Bm
namespace Go.Proofs.Ytnhgopjnnedhdaa
open Go.Sx
set_option maxRecDepth 100000
set_option linter.unusedVariables false
set_option linter.unusedSimpArgs false

def msgOkV (m : VRecMessage) (n : Int) : Bool := msgOk m.kind m.from_ m.to_ m.ballot m.index m.known m.text m.slots n
def heldOk1 (x : VRecorder) (m : VRecMessage) : Bool := msgOkV m x.of_ && decide (m.from_ = x.number)
def leads (x : VRecorder) : Bool := inR x.ballot 1 x.disk.promise && (!(x.trying && decide (0 < (x.acks.length : Int))) && !(x.lead && decide (0 < (x.yes.length : Int) + x.best.length)))
def idle (x : VRecorder) : Bool := decide (x.ballot = 0) && !decide (0 < (x.yes.length : Int) + x.best.length + x.acks.length)
def ends (x : VRecorder) : Bool := x.up || (!x.lead && (!x.trying && (decide ((x.held.length : Int) + x.wishes.length = 0) && decide (x.heard = 0))))
def valid (x : VRecorder) : Bool :=
  inR x.of_ 1 5 && (inR x.number 1 x.of_ && (diskOk x.safe.promise x.safe.known x.safe.slots && (diskOk x.disk.promise x.disk.known x.disk.slots && (!decide (400 < (x.held.length : Int)) && (wishesOk x.wishes && (inR x.heard 0 1000000 &&
  (people x.yes x.of_ && (slotsOk x.best && (x.held.all (heldOk1 x) && (acksOk x.acks x.of_ && (!(x.lead && x.trying) && ((if (x.lead || x.trying) = true then leads x else idle x) && ends x))))))))))))

theorem quiet_idle (x : VRecorder) (h1 : x.lead = false) (h2 : x.trying = false) : quiet x = idle x := by
  have e : decide ((x.yes.length : Int) + x.best.length + x.acks.length = 0) = !decide (0 < (x.yes.length : Int) + x.best.length + x.acks.length) := by
    by_cases h : 0 < (x.yes.length : Int) + x.best.length + x.acks.length
    · rw [decide_eq_true h, decide_eq_false (by omega)]; rfl
    · rw [decide_eq_false h, decide_eq_true (by omega)]; rfl
  simp only [quiet, idle, h1, h2, e, Bool.not_false, Bool.true_and]
theorem quiet_lead (x : VRecorder) (h : (x.lead || x.trying) = true) : quiet x = false := by
  unfold quiet
  cases h1 : x.lead
  · rw [h1] at h
    have h : x.trying = true := h
    simp only [h, Bool.not_true, Bool.false_and, Bool.and_false]
  · simp only [Bool.not_true, Bool.false_and]
theorem ends_eq (x : VRecorder) (h : inR x.heard 0 1000000 = true) : decide ((x.held.length : Int) + x.wishes.length + x.heard = 0) = (decide ((x.held.length : Int) + x.wishes.length = 0) && decide (x.heard = 0)) := by
  simp only [inR, Bool.and_eq_true, decide_eq_true_eq] at h
  by_cases h1 : (x.held.length : Int) + x.wishes.length = 0 <;> by_cases h2 : x.heard = 0
  · rw [decide_eq_true h1, decide_eq_true h2, decide_eq_true (by omega)]; rfl
  · rw [decide_eq_true h1, decide_eq_false h2, decide_eq_false (by omega)]; rfl
  · rw [decide_eq_false h1, decide_eq_true h2, decide_eq_false (by omega)]; rfl
  · rw [decide_eq_false h1, decide_eq_false h2, decide_eq_false (by omega)]; rfl

theorem k26 (x : VRecorder) (hw : x.w ≤ 4194304) : EV Try.prog E 26 [.val 0 true (x.c .shr)] = some ⟨[(false, [.p (.bool (valid x))])], []⟩ := by
  refine EV_intro Try.func26 rfl ?_
  have hw0 := hw
  unfold VRecorder.w VRecDisk.w wSInt wSRecSlot wSRecAck wSString wSRecMessage at hw
  have g1 := k25 x.of_ 1 5
  have g2 := k25 x.number 1 x.of_
  have g3 := k42 x.safe.promise x.safe.known x.safe.slots
  have g4 := k42 x.disk.promise x.disk.known x.disk.slots
  have g5 := k43 x.wishes (by omega)
  have g6 := k25 x.heard 0 1000000
  have g7 := k44 x.yes x.of_ (by omega)
  have g8 := k45 x.best
  have g9 := k46 x.acks x.of_ (by unfold wSRecAck; omega)
  have g10 := k25 x.ballot 1 x.disk.promise
  have g11 := k47 x hw0
  simp only [VRecorder.c] at g11
  have w1 := wrap64 (n := (x.yes.length : Int) + x.best.length) (by omega) (by omega)
  have w2 := wrap64 (n := (x.held.length : Int) + x.wishes.length) (by omega) (by omega)
  cases c1 : inR x.of_ 1 5
  · simp only [rv0, rv1, rvE, rvH, rvS, rvI, eT, eQ, ↓reduceIte, Nat.reduceEqDiff, Nat.reduceAdd, Nat.reduceSub, Nat.reduceMul, Nat.reduceLeDiff, Nat.reduceBEq, decide_true, decide_false, reduceCtorEq, Int.reduceLT, Int.reduceNeg, rvN, Nat.reduceLT, Int.reduceLE, Int.reduceEq, eq_self, List.reduceReplicate, rvF, rvG, e26, e25, e42, e43, e27, e44, e45, e46, e47, Try.f26, VRecorder.c, valid, g1, g2, g3, g4, g5, g6, c1]
  cases c2 : inR x.number 1 x.of_
  · simp only [rv0, rv1, rvE, rvH, rvS, rvI, eT, eQ, ↓reduceIte, Nat.reduceEqDiff, Nat.reduceAdd, Nat.reduceSub, Nat.reduceMul, Nat.reduceLeDiff, Nat.reduceBEq, decide_true, decide_false, reduceCtorEq, Int.reduceLT, Int.reduceNeg, rvN, Nat.reduceLT, Int.reduceLE, Int.reduceEq, eq_self, List.reduceReplicate, rvF, rvG, e26, e25, e42, e43, e27, e44, e45, e46, e47, Try.f26, VRecorder.c, valid, g1, g2, g3, g4, g5, g6, c1, c2]
  cases c3 : diskOk x.safe.promise x.safe.known x.safe.slots
  · simp only [rv0, rv1, rvE, rvH, rvS, rvI, eT, eQ, ↓reduceIte, Nat.reduceEqDiff, Nat.reduceAdd, Nat.reduceSub, Nat.reduceMul, Nat.reduceLeDiff, Nat.reduceBEq, decide_true, decide_false, reduceCtorEq, Int.reduceLT, Int.reduceNeg, rvN, Nat.reduceLT, Int.reduceLE, Int.reduceEq, eq_self, List.reduceReplicate, rvF, rvG, e26, e25, e42, e43, e27, e44, e45, e46, e47, Try.f26, VRecorder.c, valid, g1, g2, g3, g4, g5, g6, c1, c2, c3]
  cases c4 : diskOk x.disk.promise x.disk.known x.disk.slots
  · simp only [rv0, rv1, rvE, rvH, rvS, rvI, eT, eQ, ↓reduceIte, Nat.reduceEqDiff, Nat.reduceAdd, Nat.reduceSub, Nat.reduceMul, Nat.reduceLeDiff, Nat.reduceBEq, decide_true, decide_false, reduceCtorEq, Int.reduceLT, Int.reduceNeg, rvN, Nat.reduceLT, Int.reduceLE, Int.reduceEq, eq_self, List.reduceReplicate, rvF, rvG, e26, e25, e42, e43, e27, e44, e45, e46, e47, Try.f26, VRecorder.c, valid, g1, g2, g3, g4, g5, g6, c1, c2, c3, c4]
  cases c5 : decide (400 < (x.held.length : Int))
  rotate_left
  · simp only [rv0, rv1, rvE, rvH, rvS, rvI, eT, eQ, ↓reduceIte, Nat.reduceEqDiff, Nat.reduceAdd, Nat.reduceSub, Nat.reduceMul, Nat.reduceLeDiff, Nat.reduceBEq, decide_true, decide_false, reduceCtorEq, Int.reduceLT, Int.reduceNeg, rvN, Nat.reduceLT, Int.reduceLE, Int.reduceEq, eq_self, List.reduceReplicate, rvF, rvG, e26, e25, e42, e43, e27, e44, e45, e46, e47, Try.f26, VRecorder.c, valid, g1, g2, g3, g4, g5, g6, c1, c2, c3, c4, c5]
  cases c6 : wishesOk x.wishes
  · simp only [rv0, rv1, rvE, rvH, rvS, rvI, eT, eQ, ↓reduceIte, Nat.reduceEqDiff, Nat.reduceAdd, Nat.reduceSub, Nat.reduceMul, Nat.reduceLeDiff, Nat.reduceBEq, decide_true, decide_false, reduceCtorEq, Int.reduceLT, Int.reduceNeg, rvN, Nat.reduceLT, Int.reduceLE, Int.reduceEq, eq_self, List.reduceReplicate, rvF, rvG, e26, e25, e42, e43, e27, e44, e45, e46, e47, Try.f26, VRecorder.c, valid, g1, g2, g3, g4, g5, g6, c1, c2, c3, c4, c5, c6]
  cases c7 : inR x.heard 0 1000000
  · simp only [rv0, rv1, rvE, rvH, rvS, rvI, eT, eQ, ↓reduceIte, Nat.reduceEqDiff, Nat.reduceAdd, Nat.reduceSub, Nat.reduceMul, Nat.reduceLeDiff, Nat.reduceBEq, decide_true, decide_false, reduceCtorEq, Int.reduceLT, Int.reduceNeg, rvN, Nat.reduceLT, Int.reduceLE, Int.reduceEq, eq_self, List.reduceReplicate, rvF, rvG, e26, e25, e42, e43, e27, e44, e45, e46, e47, Try.f26, VRecorder.c, valid, g1, g2, g3, g4, g5, g6, c1, c2, c3, c4, c5, c6, c7]
  simp only [rv0, rv1, rvE, rvH, rvS, rvI, eT, eQ, ↓reduceIte, Nat.reduceEqDiff, Nat.reduceAdd, Nat.reduceSub, Nat.reduceMul, Nat.reduceLeDiff, Nat.reduceBEq, decide_true, decide_false, reduceCtorEq, Int.reduceLT, Int.reduceNeg, rvN, Nat.reduceLT, Int.reduceLE, Int.reduceEq, eq_self, List.reduceReplicate, rvF, rvG, e26, e25, e42, e43, e27, e44, e45, e46, e47, Try.f26, VRecorder.c, g1, g2, g3, g4, g5, g6, c1, c2, c3, c4, c5, c6, c7]
  rw [for_block x.held (fun i (_ : Unit) => ⟨2, [(1, .box 0 0 (x.c .shr)), (3, .val 1 false [.p (.int .i64 i)])]⟩) (fun i _ => True)
    (fun r i a => if r.all (heldOk1 x) = true then .norm ⟨1, [(1, .box 0 0 (x.c .shr))]⟩ else .ret ⟨[(false, [.p (.bool false)])], []⟩) ?_ ?_ (a := ()) trivial (by simp only [rv0, rv1, rvE, rvH, rvS, rvI, eT, eQ, ↓reduceIte, Nat.reduceEqDiff, Nat.reduceAdd, Nat.reduceSub, Nat.reduceMul, Nat.reduceLeDiff, Nat.reduceBEq, decide_true, decide_false, reduceCtorEq, Int.reduceLT, Int.reduceNeg, rvN, Nat.reduceLT, Int.reduceLE, Int.reduceEq, eq_self, List.reduceReplicate, rvF, rvG, e26, VRecorder.c]; rfl)]
  · cases c8 : x.held.all (heldOk1 x)
    · simp only [rv0, rv1, rvE, rvH, rvS, rvI, eT, eQ, ↓reduceIte, Nat.reduceEqDiff, Nat.reduceAdd, Nat.reduceSub, Nat.reduceMul, Nat.reduceLeDiff, Nat.reduceBEq, decide_true, decide_false, reduceCtorEq, Int.reduceLT, Int.reduceNeg, rvN, Nat.reduceLT, Int.reduceLE, Int.reduceEq, eq_self, List.reduceReplicate, rvF, rvG, e26, valid, c8]
    cases c9 : people x.yes x.of_
    · simp only [rv0, rv1, rvE, rvH, rvS, rvI, eT, eQ, ↓reduceIte, Nat.reduceEqDiff, Nat.reduceAdd, Nat.reduceSub, Nat.reduceMul, Nat.reduceLeDiff, Nat.reduceBEq, decide_true, decide_false, reduceCtorEq, Int.reduceLT, Int.reduceNeg, rvN, Nat.reduceLT, Int.reduceLE, Int.reduceEq, eq_self, List.reduceReplicate, rvF, rvG, e26, e25, e42, e43, e27, e44, e45, e46, e47, VRecorder.c, valid, g7, c8, c9]
    cases c10 : slotsOk x.best
    · simp only [rv0, rv1, rvE, rvH, rvS, rvI, eT, eQ, ↓reduceIte, Nat.reduceEqDiff, Nat.reduceAdd, Nat.reduceSub, Nat.reduceMul, Nat.reduceLeDiff, Nat.reduceBEq, decide_true, decide_false, reduceCtorEq, Int.reduceLT, Int.reduceNeg, rvN, Nat.reduceLT, Int.reduceLE, Int.reduceEq, eq_self, List.reduceReplicate, rvF, rvG, e26, e25, e42, e43, e27, e44, e45, e46, e47, VRecorder.c, valid, g7, g8, c8, c9, c10]
    cases c11 : acksOk x.acks x.of_
    · simp only [rv0, rv1, rvE, rvH, rvS, rvI, eT, eQ, ↓reduceIte, Nat.reduceEqDiff, Nat.reduceAdd, Nat.reduceSub, Nat.reduceMul, Nat.reduceLeDiff, Nat.reduceBEq, decide_true, decide_false, reduceCtorEq, Int.reduceLT, Int.reduceNeg, rvN, Nat.reduceLT, Int.reduceLE, Int.reduceEq, eq_self, List.reduceReplicate, rvF, rvG, e26, e25, e42, e43, e27, e44, e45, e46, e47, VRecorder.c, valid, g7, g8, g9, c8, c9, c10, c11]
    have e := ends_eq x c7
    cases c12 : x.lead
    · cases c13 : x.trying
      · -- neither
        have q := quiet_idle x c12 c13
        rw [q] at g11
        simp only [c12, c13] at g11
        cases c14 : idle x
        · rw [c14] at g11
          simp only [rv0, rv1, rvE, rvH, rvS, rvI, eT, eQ, ↓reduceIte, Nat.reduceEqDiff, Nat.reduceAdd, Nat.reduceSub, Nat.reduceMul, Nat.reduceLeDiff, Nat.reduceBEq, decide_true, decide_false, reduceCtorEq, Int.reduceLT, Int.reduceNeg, rvN, Nat.reduceLT, Int.reduceLE, Int.reduceEq, eq_self, List.reduceReplicate, rvF, rvG, e26, e25, e42, e43, e27, e44, e45, e46, e47, VRecorder.c, valid, g7, g8, g9, g11, c8, c9, c10, c11, c12, c13, c14]
        · rw [c14] at g11
          cases c15 : x.up
          · rw [c15] at g11
            have w3 := wrap64 (n := (x.held.length : Int) + x.wishes.length + x.heard) (by simp only [inR, Bool.and_eq_true, decide_eq_true_eq] at c7; omega) (by simp only [inR, Bool.and_eq_true, decide_eq_true_eq] at c7; omega)
            simp only [rv0, rv1, rvE, rvH, rvS, rvI, eT, eQ, ↓reduceIte, Nat.reduceEqDiff, Nat.reduceAdd, Nat.reduceSub, Nat.reduceMul, Nat.reduceLeDiff, Nat.reduceBEq, decide_true, decide_false, reduceCtorEq, Int.reduceLT, Int.reduceNeg, rvN, Nat.reduceLT, Int.reduceLE, Int.reduceEq, eq_self, List.reduceReplicate, rvF, rvG, e26, e25, e42, e43, e27, e44, e45, e46, e47, VRecorder.c, valid, ends, g7, g8, g9, g11, c1, c2, c3, c4, c5, c6, c7, c8, c9, c10, c11, c12, c13, c14, c15, w2, w3, e]
          · rw [c15] at g11
            simp only [rv0, rv1, rvE, rvH, rvS, rvI, eT, eQ, ↓reduceIte, Nat.reduceEqDiff, Nat.reduceAdd, Nat.reduceSub, Nat.reduceMul, Nat.reduceLeDiff, Nat.reduceBEq, decide_true, decide_false, reduceCtorEq, Int.reduceLT, Int.reduceNeg, rvN, Nat.reduceLT, Int.reduceLE, Int.reduceEq, eq_self, List.reduceReplicate, rvF, rvG, e26, e25, e42, e43, e27, e44, e45, e46, e47, VRecorder.c, valid, ends, g7, g8, g9, g11, c1, c2, c3, c4, c5, c6, c7, c8, c9, c10, c11, c12, c13, c14, c15]
      · have q := quiet_lead x (by rw [c12, c13]; rfl)
        rw [q] at g11
        simp only [c12, c13] at g11
        cases c14 : inR x.ballot 1 x.disk.promise
        · simp only [rv0, rv1, rvE, rvH, rvS, rvI, eT, eQ, ↓reduceIte, Nat.reduceEqDiff, Nat.reduceAdd, Nat.reduceSub, Nat.reduceMul, Nat.reduceLeDiff, Nat.reduceBEq, decide_true, decide_false, reduceCtorEq, Int.reduceLT, Int.reduceNeg, rvN, Nat.reduceLT, Int.reduceLE, Int.reduceEq, eq_self, List.reduceReplicate, rvF, rvG, e26, e25, e42, e43, e27, e44, e45, e46, e47, VRecorder.c, valid, leads, g7, g8, g9, g10, c8, c9, c10, c11, c12, c13, c14]
        cases c15 : decide (0 < (x.acks.length : Int))
        · cases c16 : x.up
          · rw [c16] at g11
            simp only [rv0, rv1, rvE, rvH, rvS, rvI, eT, eQ, ↓reduceIte, Nat.reduceEqDiff, Nat.reduceAdd, Nat.reduceSub, Nat.reduceMul, Nat.reduceLeDiff, Nat.reduceBEq, decide_true, decide_false, reduceCtorEq, Int.reduceLT, Int.reduceNeg, rvN, Nat.reduceLT, Int.reduceLE, Int.reduceEq, eq_self, List.reduceReplicate, rvF, rvG, e26, e25, e42, e43, e27, e44, e45, e46, e47, VRecorder.c, valid, leads, ends, g7, g8, g9, g10, g11, c1, c2, c3, c4, c5, c6, c7, c8, c9, c10, c11, c12, c13, c14, c15, c16]
          · simp only [rv0, rv1, rvE, rvH, rvS, rvI, eT, eQ, ↓reduceIte, Nat.reduceEqDiff, Nat.reduceAdd, Nat.reduceSub, Nat.reduceMul, Nat.reduceLeDiff, Nat.reduceBEq, decide_true, decide_false, reduceCtorEq, Int.reduceLT, Int.reduceNeg, rvN, Nat.reduceLT, Int.reduceLE, Int.reduceEq, eq_self, List.reduceReplicate, rvF, rvG, e26, e25, e42, e43, e27, e44, e45, e46, e47, VRecorder.c, valid, leads, ends, g7, g8, g9, g10, g11, c1, c2, c3, c4, c5, c6, c7, c8, c9, c10, c11, c12, c13, c14, c15, c16]
        · simp only [rv0, rv1, rvE, rvH, rvS, rvI, eT, eQ, ↓reduceIte, Nat.reduceEqDiff, Nat.reduceAdd, Nat.reduceSub, Nat.reduceMul, Nat.reduceLeDiff, Nat.reduceBEq, decide_true, decide_false, reduceCtorEq, Int.reduceLT, Int.reduceNeg, rvN, Nat.reduceLT, Int.reduceLE, Int.reduceEq, eq_self, List.reduceReplicate, rvF, rvG, e26, e25, e42, e43, e27, e44, e45, e46, e47, VRecorder.c, valid, leads, g7, g8, g9, g10, c8, c9, c10, c11, c12, c13, c14, c15]
    · cases c13 : x.trying
      · have q := quiet_lead x (by rw [c12]; rfl)
        rw [q] at g11
        simp only [c12, c13] at g11
        cases c14 : inR x.ballot 1 x.disk.promise
        · simp only [rv0, rv1, rvE, rvH, rvS, rvI, eT, eQ, ↓reduceIte, Nat.reduceEqDiff, Nat.reduceAdd, Nat.reduceSub, Nat.reduceMul, Nat.reduceLeDiff, Nat.reduceBEq, decide_true, decide_false, reduceCtorEq, Int.reduceLT, Int.reduceNeg, rvN, Nat.reduceLT, Int.reduceLE, Int.reduceEq, eq_self, List.reduceReplicate, rvF, rvG, e26, e25, e42, e43, e27, e44, e45, e46, e47, VRecorder.c, valid, leads, g7, g8, g9, g10, c8, c9, c10, c11, c12, c13, c14]
        cases c15 : decide (0 < (x.yes.length : Int) + x.best.length)
        · cases c16 : x.up
          · rw [c16] at g11
            simp only [rv0, rv1, rvE, rvH, rvS, rvI, eT, eQ, ↓reduceIte, Nat.reduceEqDiff, Nat.reduceAdd, Nat.reduceSub, Nat.reduceMul, Nat.reduceLeDiff, Nat.reduceBEq, decide_true, decide_false, reduceCtorEq, Int.reduceLT, Int.reduceNeg, rvN, Nat.reduceLT, Int.reduceLE, Int.reduceEq, eq_self, List.reduceReplicate, rvF, rvG, e26, e25, e42, e43, e27, e44, e45, e46, e47, VRecorder.c, valid, leads, ends, g7, g8, g9, g10, g11, c1, c2, c3, c4, c5, c6, c7, c8, c9, c10, c11, c12, c13, c14, c15, c16, w1]
          · simp only [rv0, rv1, rvE, rvH, rvS, rvI, eT, eQ, ↓reduceIte, Nat.reduceEqDiff, Nat.reduceAdd, Nat.reduceSub, Nat.reduceMul, Nat.reduceLeDiff, Nat.reduceBEq, decide_true, decide_false, reduceCtorEq, Int.reduceLT, Int.reduceNeg, rvN, Nat.reduceLT, Int.reduceLE, Int.reduceEq, eq_self, List.reduceReplicate, rvF, rvG, e26, e25, e42, e43, e27, e44, e45, e46, e47, VRecorder.c, valid, leads, ends, g7, g8, g9, g10, g11, c1, c2, c3, c4, c5, c6, c7, c8, c9, c10, c11, c12, c13, c14, c15, c16, w1]
        · simp only [rv0, rv1, rvE, rvH, rvS, rvI, eT, eQ, ↓reduceIte, Nat.reduceEqDiff, Nat.reduceAdd, Nat.reduceSub, Nat.reduceMul, Nat.reduceLeDiff, Nat.reduceBEq, decide_true, decide_false, reduceCtorEq, Int.reduceLT, Int.reduceNeg, rvN, Nat.reduceLT, Int.reduceLE, Int.reduceEq, eq_self, List.reduceReplicate, rvF, rvG, e26, e25, e42, e43, e27, e44, e45, e46, e47, VRecorder.c, valid, leads, g7, g8, g9, g10, c8, c9, c10, c11, c12, c13, c14, c15, w1]
      · simp only [rv0, rv1, rvE, rvH, rvS, rvI, eT, eQ, ↓reduceIte, Nat.reduceEqDiff, Nat.reduceAdd, Nat.reduceSub, Nat.reduceMul, Nat.reduceLeDiff, Nat.reduceBEq, decide_true, decide_false, reduceCtorEq, Int.reduceLT, Int.reduceNeg, rvN, Nat.reduceLT, Int.reduceLE, Int.reduceEq, eq_self, List.reduceReplicate, rvF, rvG, e26, e25, e42, e43, e27, e44, e45, e46, e47, VRecorder.c, valid, g7, g8, g9, c8, c9, c10, c11, c12, c13]
  · intro i s r a hd hi _
    have hlen := (List.getElem?_eq_some_iff.1 hi).1
    have hlt : ((i : Int) < (x.held.length : Int)) := by omega
    have hr := getElem?_map_some (f := VRecMessage.c .shr) hi
    have hwi := wrap64 (n := (i : Int) + 1) (by omega) (by omega)
    have hi0 : (0 : Int) ≤ (i : Int) := by omega
    have hg := k27 s.kind s.from_ s.to_ s.ballot s.index s.known s.text s.slots x.of_
    simp only [VRecMessage.c] at hr
    cases d1 : msgOkV s x.of_
    · right
      have d1' := d1
      unfold msgOkV at d1'
      rw [d1'] at hg
      simp only [rv0, rv1, rvE, rvH, rvS, rvI, eT, eQ, ↓reduceIte, Nat.reduceEqDiff, Nat.reduceAdd, Nat.reduceSub, Nat.reduceMul, Nat.reduceLeDiff, Nat.reduceBEq, decide_true, decide_false, reduceCtorEq, Int.reduceLT, Int.reduceNeg, rvN, Nat.reduceLT, Int.reduceLE, Int.reduceEq, eq_self, List.reduceReplicate, rvF, rvG, e26, e25, e42, e43, e27, e44, e45, e46, e47, VRecorder.c, List.all_cons, heldOk1, hlt, hr, hg, d1, hi0]
    · have d1' := d1
      unfold msgOkV at d1'
      rw [d1'] at hg
      cases d2 : decide (s.from_ = x.number)
      · right
        simp only [rv0, rv1, rvE, rvH, rvS, rvI, eT, eQ, ↓reduceIte, Nat.reduceEqDiff, Nat.reduceAdd, Nat.reduceSub, Nat.reduceMul, Nat.reduceLeDiff, Nat.reduceBEq, decide_true, decide_false, reduceCtorEq, Int.reduceLT, Int.reduceNeg, rvN, Nat.reduceLT, Int.reduceLE, Int.reduceEq, eq_self, List.reduceReplicate, rvF, rvG, e26, e25, e42, e43, e27, e44, e45, e46, e47, VRecorder.c, List.all_cons, heldOk1, hlt, hr, hg, d1, d2, hi0]
      · left
        refine ⟨(), ?_, trivial, by simp only [List.all_cons, heldOk1, d1, d2]; rfl⟩
        simp only [rv0, rv1, rvE, rvH, rvS, rvI, eT, eQ, ↓reduceIte, Nat.reduceEqDiff, Nat.reduceAdd, Nat.reduceSub, Nat.reduceMul, Nat.reduceLeDiff, Nat.reduceBEq, decide_true, decide_false, reduceCtorEq, Int.reduceLT, Int.reduceNeg, rvN, Nat.reduceLT, Int.reduceLE, Int.reduceEq, eq_self, List.reduceReplicate, rvF, rvG, e26, e25, e42, e43, e27, e44, e45, e46, e47, VRecorder.c, hlt, hr, hg, d2, hi0, hwi, i64c]
  · intro a _
    simp only [rv0, rv1, rvE, rvH, rvS, rvI, eT, eQ, ↓reduceIte, Nat.reduceEqDiff, Nat.reduceAdd, Nat.reduceSub, Nat.reduceMul, Nat.reduceLeDiff, Nat.reduceBEq, decide_true, decide_false, reduceCtorEq, Int.reduceLT, Int.reduceNeg, rvN, Nat.reduceLT, Int.reduceLE, Int.reduceEq, eq_self, List.reduceReplicate, rvF, rvG, e26, VRecorder.c, List.all_nil]
end Go.Proofs.Ytnhgopjnnedhdaa

