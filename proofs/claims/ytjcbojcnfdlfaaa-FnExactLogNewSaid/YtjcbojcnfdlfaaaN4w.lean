/- FnExactRecNewWorld: what the functions compute. -/
import Derived.Test.YtjcbojcnfdlfaaaN4
import Derived.Test.YtjcbojcnfdlfaaaM4w
import Derived.Test.YtjcbojcnfdlfaaaF4l
namespace Go.Proofs.Ytjcbojcnfdlfaaa
open Go.Sx
set_option maxRecDepth 100000
set_option linter.unusedVariables false
set_option linter.unusedSimpArgs false
def recs (n : Int) : Nat → List VRecorder
  | 0 => []
  | j + 1 => recs n j ++ [newRec ((j : Int) + 1) n]
theorem recs_length (n : Int) : ∀ j, (recs n j).length = j
  | 0 => rfl
  | j + 1 => by simp [recs, recs_length n j]
def newWorld (n : Int) : VRecWorld := if inR n 1 5 = true then ⟨recs n n.toNat, [], []⟩ else ⟨[], [], []⟩
theorem inR_of {n lo hi : Int} (h : inR n lo hi = true) : lo ≤ n ∧ n ≤ hi := by
  unfold inR at h
  simpa using h
theorem k62 (n : Int) : EV Try.prog E 62 [.val 0 false [.p (.int .i64 n)]] = some ⟨[(true, VRecWorld.c .own (newWorld n))], []⟩ := by
  refine EV_intro Try.func62 rfl ?_
  have h1 := k74 n 1 5
  unfold newWorld
  cases d1 : inR n 1 5
  · simp only [rv0, rv1, rv2, rv3, rv4, rv5, rv6, rv7, rv8, rv9, rv10, rvE, rvH, rvS, eT, ↓reduceIte, Nat.reduceEqDiff, Nat.reduceAdd, Nat.reduceSub, Nat.reduceMul, Nat.reduceLeDiff, Nat.reduceBEq, decide_true, decide_false, reduceCtorEq, Int.reduceLT, Int.reduceNeg, rvN, Nat.reduceLT, Int.reduceLE, Int.reduceEq, eq_self, List.reduceReplicate, rvF, rvG, e62, e74, Try.f62, h1, d1, VRecWorld.c, List.map_nil]
  · obtain ⟨hlo, hhi⟩ := inR_of d1
    simp only [rv0, rv1, rv2, rv3, rv4, rv5, rv6, rv7, rv8, rv9, rv10, rvE, rvH, rvS, eT, ↓reduceIte, Nat.reduceEqDiff, Nat.reduceAdd, Nat.reduceSub, Nat.reduceMul, Nat.reduceLeDiff, Nat.reduceBEq, decide_true, decide_false, reduceCtorEq, Int.reduceLT, Int.reduceNeg, rvN, Nat.reduceLT, Int.reduceLE, Int.reduceEq, eq_self, List.reduceReplicate, rvF, rvG, e62, e74, Try.f62, h1, d1, VRecWorld.c, List.map_nil]
    rw [while_block (fun (j : Nat) => ⟨4, [(0, .val 0 false [.p (.int .i64 n)]), (2, .box 1 1 [.sl .own 18 [], .sl .own 8 [], .sl .own 2 []]), (3, .box 2 2 [.sl .own 18 ((recs n j).map (VRecorder.c .own)), .sl .own 8 [], .sl .own 2 []]), (4, .val 3 false [.p (.int .i64 ((j : Int) + 1))])]⟩)
      (fun j => (j : Int) ≤ n) (fun j => .norm ⟨2, [(2, .box 0 0 [.sl .own 18 [], .sl .own 8 [], .sl .own 2 []]), (3, .box 1 1 [.sl .own 18 ((recs n n.toNat).map (VRecorder.c .own)), .sl .own 8 [], .sl .own 2 []])]⟩) (fun j => 5 - j) ?_ (i := 0) (by omega) (by simp only [rv0, rv1, rv2, rv3, rv4, rv5, rv6, rv7, rv8, rv9, rv10, rvE, rvH, rvS, eT, ↓reduceIte, Nat.reduceEqDiff, Nat.reduceAdd, Nat.reduceSub, Nat.reduceMul, Nat.reduceLeDiff, Nat.reduceBEq, decide_true, decide_false, reduceCtorEq, Int.reduceLT, Int.reduceNeg, rvN, Nat.reduceLT, Int.reduceLE, Int.reduceEq, eq_self, List.reduceReplicate, rvF, rvG, e62, recs, List.map_nil]; rfl)]
    · simp only [rv0, rv1, rv2, rv3, rv4, rv5, rv6, rv7, rv8, rv9, rv10, rvE, rvH, rvS, eT, ↓reduceIte, Nat.reduceEqDiff, Nat.reduceAdd, Nat.reduceSub, Nat.reduceMul, Nat.reduceLeDiff, Nat.reduceBEq, decide_true, decide_false, reduceCtorEq, Int.reduceLT, Int.reduceNeg, rvN, Nat.reduceLT, Int.reduceLE, Int.reduceEq, eq_self, List.reduceReplicate, rvF, rvG, e62, rowsRecorder]
    · intro j hj
      have hw1 := wrap64 (n := (j : Int) + 1 + 1) (by omega) (by omega)
      by_cases hc : (j : Int) + 1 ≤ n
      · left
        have h2 := k134 ((j : Int) + 1) n
        have hl : (recs n j).length + 1 < 4294967296 := by rw [recs_length]; omega
        have he : ((recs n (j + 1)).map (VRecorder.c .own)) = (recs n j).map (VRecorder.c .own) ++ [VRecorder.c .own (newRec ((j : Int) + 1) n)] := by simp [recs]
        refine ⟨j + 1, ?_, by omega, by omega, rfl⟩
        rw [he]
        generalize newRec ((j : Int) + 1) n = y at *
        simp only [VRecorder.c] at h2
        simp only [rv0, rv1, rv2, rv3, rv4, rv5, rv6, rv7, rv8, rv9, rv10, rvE, rvH, rvS, eT, ↓reduceIte, Nat.reduceEqDiff, Nat.reduceAdd, Nat.reduceSub, Nat.reduceMul, Nat.reduceLeDiff, Nat.reduceBEq, decide_true, decide_false, reduceCtorEq, Int.reduceLT, Int.reduceNeg, rvN, Nat.reduceLT, Int.reduceLE, Int.reduceEq, eq_self, List.reduceReplicate, rvF, rvG, e62, e134, hc, hw1, h2, hl, LIM, i64c, rowsRecorder, VRecorder.c, rowsRecSlot, rowsRecMessage, rowsString, rowsInt, rowsRecAck]
      · right
        have : j = n.toNat := by omega
        subst this
        simp only [rv0, rv1, rv2, rv3, rv4, rv5, rv6, rv7, rv8, rv9, rv10, rvE, rvH, rvS, eT, ↓reduceIte, Nat.reduceEqDiff, Nat.reduceAdd, Nat.reduceSub, Nat.reduceMul, Nat.reduceLeDiff, Nat.reduceBEq, decide_true, decide_false, reduceCtorEq, Int.reduceLT, Int.reduceNeg, rvN, Nat.reduceLT, Int.reduceLE, Int.reduceEq, eq_self, List.reduceReplicate, rvF, rvG, e62, hc]
theorem k63 (n : Int) : EV Try.prog E 63 [.val 0 false [.p (.int .i64 n)]] = some ⟨[(true, VRecWorld.c .own (newWorld n))], []⟩ := by
  refine EV_intro Try.func63 rfl ?_
  have h1 := k73 n 1 5
  unfold newWorld
  cases d1 : inR n 1 5
  · simp only [rv0, rv1, rv2, rv3, rv4, rv5, rv6, rv7, rv8, rv9, rv10, rvE, rvH, rvS, eT, ↓reduceIte, Nat.reduceEqDiff, Nat.reduceAdd, Nat.reduceSub, Nat.reduceMul, Nat.reduceLeDiff, Nat.reduceBEq, decide_true, decide_false, reduceCtorEq, Int.reduceLT, Int.reduceNeg, rvN, Nat.reduceLT, Int.reduceLE, Int.reduceEq, eq_self, List.reduceReplicate, rvF, rvG, e63, e73, Try.f63, h1, d1, VRecWorld.c, List.map_nil]
  · obtain ⟨hlo, hhi⟩ := inR_of d1
    simp only [rv0, rv1, rv2, rv3, rv4, rv5, rv6, rv7, rv8, rv9, rv10, rvE, rvH, rvS, eT, ↓reduceIte, Nat.reduceEqDiff, Nat.reduceAdd, Nat.reduceSub, Nat.reduceMul, Nat.reduceLeDiff, Nat.reduceBEq, decide_true, decide_false, reduceCtorEq, Int.reduceLT, Int.reduceNeg, rvN, Nat.reduceLT, Int.reduceLE, Int.reduceEq, eq_self, List.reduceReplicate, rvF, rvG, e63, e73, Try.f63, h1, d1, VRecWorld.c, List.map_nil]
    rw [while_block (fun (j : Nat) => ⟨4, [(0, .val 0 false [.p (.int .i64 n)]), (2, .box 1 1 [.sl .own 18 [], .sl .own 8 [], .sl .own 2 []]), (3, .box 2 2 [.sl .own 18 ((recs n j).map (VRecorder.c .own)), .sl .own 8 [], .sl .own 2 []]), (4, .val 3 false [.p (.int .i64 ((j : Int) + 1))])]⟩)
      (fun j => (j : Int) ≤ n) (fun j => .norm ⟨2, [(2, .box 0 0 [.sl .own 18 [], .sl .own 8 [], .sl .own 2 []]), (3, .box 1 1 [.sl .own 18 ((recs n n.toNat).map (VRecorder.c .own)), .sl .own 8 [], .sl .own 2 []])]⟩) (fun j => 5 - j) ?_ (i := 0) (by omega) (by simp only [rv0, rv1, rv2, rv3, rv4, rv5, rv6, rv7, rv8, rv9, rv10, rvE, rvH, rvS, eT, ↓reduceIte, Nat.reduceEqDiff, Nat.reduceAdd, Nat.reduceSub, Nat.reduceMul, Nat.reduceLeDiff, Nat.reduceBEq, decide_true, decide_false, reduceCtorEq, Int.reduceLT, Int.reduceNeg, rvN, Nat.reduceLT, Int.reduceLE, Int.reduceEq, eq_self, List.reduceReplicate, rvF, rvG, e63, recs, List.map_nil]; rfl)]
    · simp only [rv0, rv1, rv2, rv3, rv4, rv5, rv6, rv7, rv8, rv9, rv10, rvE, rvH, rvS, eT, ↓reduceIte, Nat.reduceEqDiff, Nat.reduceAdd, Nat.reduceSub, Nat.reduceMul, Nat.reduceLeDiff, Nat.reduceBEq, decide_true, decide_false, reduceCtorEq, Int.reduceLT, Int.reduceNeg, rvN, Nat.reduceLT, Int.reduceLE, Int.reduceEq, eq_self, List.reduceReplicate, rvF, rvG, e63, rowsRecorder]
    · intro j hj
      have hw1 := wrap64 (n := (j : Int) + 1 + 1) (by omega) (by omega)
      by_cases hc : (j : Int) + 1 ≤ n
      · left
        have h2 := k135 ((j : Int) + 1) n
        have hl : (recs n j).length + 1 < 4294967296 := by rw [recs_length]; omega
        have he : ((recs n (j + 1)).map (VRecorder.c .own)) = (recs n j).map (VRecorder.c .own) ++ [VRecorder.c .own (newRec ((j : Int) + 1) n)] := by simp [recs]
        refine ⟨j + 1, ?_, by omega, by omega, rfl⟩
        rw [he]
        generalize newRec ((j : Int) + 1) n = y at *
        simp only [VRecorder.c] at h2
        simp only [rv0, rv1, rv2, rv3, rv4, rv5, rv6, rv7, rv8, rv9, rv10, rvE, rvH, rvS, eT, ↓reduceIte, Nat.reduceEqDiff, Nat.reduceAdd, Nat.reduceSub, Nat.reduceMul, Nat.reduceLeDiff, Nat.reduceBEq, decide_true, decide_false, reduceCtorEq, Int.reduceLT, Int.reduceNeg, rvN, Nat.reduceLT, Int.reduceLE, Int.reduceEq, eq_self, List.reduceReplicate, rvF, rvG, e63, e135, hc, hw1, h2, hl, LIM, i64c, rowsRecorder, VRecorder.c, rowsRecSlot, rowsRecMessage, rowsString, rowsInt, rowsRecAck]
      · right
        have : j = n.toNat := by omega
        subst this
        simp only [rv0, rv1, rv2, rv3, rv4, rv5, rv6, rv7, rv8, rv9, rv10, rvE, rvH, rvS, eT, ↓reduceIte, Nat.reduceEqDiff, Nat.reduceAdd, Nat.reduceSub, Nat.reduceMul, Nat.reduceLeDiff, Nat.reduceBEq, decide_true, decide_false, reduceCtorEq, Int.reduceLT, Int.reduceNeg, rvN, Nat.reduceLT, Int.reduceLE, Int.reduceEq, eq_self, List.reduceReplicate, rvF, rvG, e63, hc]
theorem newRec_w (i n : Int) : (newRec i n).w = 0 ∧ mcRecorder (newRec i n) ≤ 100 := by
  unfold newRec
  split
  · split <;> exact ⟨by simp [VRecorder.w, VRecDisk.w, nilRec, wSRecSlot, wSRecMessage, wSString, wSRecAck, wSInt, sumWRecSlot, sumWRecMessage, sumWString, sumWRecAck], by simp [mcRecorder, nilRec, mcL]⟩
  · exact ⟨by simp [VRecorder.w, VRecDisk.w, nilRec, wSRecSlot, wSRecMessage, wSString, wSRecAck, wSInt, sumWRecSlot, sumWRecMessage, sumWString, sumWRecAck], by simp [mcRecorder, nilRec, mcL]⟩
theorem sumWRecorder_append (a b : List VRecorder) : sumWRecorder (a ++ b) = sumWRecorder a + sumWRecorder b := by
  induction a with
  | nil => simp [sumWRecorder]
  | cons x r ih => simp only [List.cons_append, sumWRecorder, ih]; omega
theorem recs_w (n : Int) : ∀ j, sumWRecorder (recs n j) = 0 ∧ mcL mcRecorder (recs n j) ≤ 100 * j
  | 0 => ⟨rfl, by simp [recs, mcL]⟩
  | j + 1 => by
    obtain ⟨h1, h2⟩ := recs_w n j
    obtain ⟨h3, h4⟩ := newRec_w ((j : Int) + 1) n
    simp only [recs, sumWRecorder_append, mcL_append, sumWRecorder, mcL]
    omega
theorem newWorld_w (n : Int) : (newWorld n).w ≤ 4194304 ∧ ocRecWorld (newWorld n) ≤ 1000 := by
  unfold newWorld
  cases d1 : inR n 1 5
  · exact ⟨by simp [VRecWorld.w, wSRecorder, wSRecMessage, wSRecFix, sumWRecorder, sumWRecMessage, sumWRecFix], by simp [ocRecWorld, mcL]⟩
  · obtain ⟨hlo, hhi⟩ := inR_of d1
    have h := recs_w n n.toNat
    have hl := recs_length n n.toNat
    simp only [VRecWorld.w, ocRecWorld, wSRecorder, wSRecMessage, wSRecFix, sumWRecMessage, sumWRecFix, if_true, List.length_nil, hl, h.1, mcL]
    omega
def newLog (n : Int) : VLogWorld := ⟨newWorld n, 0, []⟩
theorem kA (n : Int) : EV Try.prog E 13 [.val 0 false [.p (.int .i64 n)]] = some ⟨[(true, VLogWorld.c .own (newLog n))], []⟩ := by
  refine EV_intro Try.func13 rfl ?_
  have h1 := k62 n
  unfold newLog
  simp only [VRecWorld.c] at h1
  simp only [rv0, rv1, rv2, rv3, rv4, rv5, rv6, rv7, rv8, rv9, rv10, rvE, rvH, rvS, eT, ↓reduceIte, Nat.reduceEqDiff, Nat.reduceAdd, Nat.reduceSub, Nat.reduceMul, Nat.reduceLeDiff, Nat.reduceBEq, decide_true, decide_false, reduceCtorEq, Int.reduceLT, Int.reduceNeg, rvN, Nat.reduceLT, Int.reduceLE, Int.reduceEq, eq_self, List.reduceReplicate, rvF, rvG, e13, e62, Try.f13, VLogWorld.c, h1, List.map_nil, rowsRecorder, rowsRecMessage, rowsRecFix]
theorem kB (n : Int) : EV Try.prog E 14 [.val 0 false [.p (.int .i64 n)]] = some ⟨[(true, VLogWorld.c .own (newLog n))], []⟩ := by
  refine EV_intro Try.func14 rfl ?_
  have h1 := k63 n
  unfold newLog
  simp only [VRecWorld.c] at h1
  simp only [rv0, rv1, rv2, rv3, rv4, rv5, rv6, rv7, rv8, rv9, rv10, rvE, rvH, rvS, eT, ↓reduceIte, Nat.reduceEqDiff, Nat.reduceAdd, Nat.reduceSub, Nat.reduceMul, Nat.reduceLeDiff, Nat.reduceBEq, decide_true, decide_false, reduceCtorEq, Int.reduceLT, Int.reduceNeg, rvN, Nat.reduceLT, Int.reduceLE, Int.reduceEq, eq_self, List.reduceReplicate, rvF, rvG, e14, e63, Try.f14, VLogWorld.c, h1, List.map_nil, rowsRecorder, rowsRecMessage, rowsRecFix]
theorem newLog_w (n : Int) : (newLog n).w ≤ 4194304 ∧ ocLogWorld (newLog n) ≤ 1000 := by
  have := newWorld_w n
  simp only [VRecWorld.w, ocRecWorld] at this
  simp only [newLog, VLogWorld.w, ocLogWorld, ocRecWorld, VRecWorld.w, wSLogAsked, sumWLogAsked, mcL, List.length_nil]
  omega
theorem kC (n : Int) (_ : i64ok n) : EV Try.prog E 4 [.val 0 false [.p (.int .i64 n)]] = some ⟨[(false, [.p (.bool true)])], []⟩ := by
  refine EV_intro Try.func4 rfl ?_
  have h20 := kA n
  have h21 := kB n
  obtain ⟨hw, hoc⟩ := newLog_w n
  generalize newLog n = x at *
  have h22 := k_eqLogWorld x hw
  have h23 := k_markLogWorld x 1 (by omega) (by omega)
  have h24 := k_heldLogWorld x 1 (by omega) (by omega)
  have hn : ¬ (1 + (ocLogWorld x : Int) < 0) := by omega
  simp only [VLogWorld.c, moLogWorld, moRecWorld] at h20 h21 h22 h23 h24
  simp only [rv0, rv1, rv2, rv3, rv4, rv5, rv6, rv7, rv8, rv9, rv10, rvE, rvH, rvS, eT, ↓reduceIte, Nat.reduceEqDiff, Nat.reduceAdd, Nat.reduceSub, Nat.reduceMul, Nat.reduceLeDiff, Nat.reduceBEq, decide_true, decide_false, reduceCtorEq, Int.reduceLT, Int.reduceNeg, rvN, Nat.reduceLT, Int.reduceLE, Int.reduceEq, eq_self, List.reduceReplicate, rvF, rvG, e4, e13, e14, e15, e16, e17, Try.f4, h20, h21, h22, h23, h24, hn, VLogWorld.c, rowsRecorder, rowsRecMessage, rowsRecFix, rowsLogAsked, beq_self_eq_true]
end Go.Proofs.Ytjcbojcnfdlfaaa
