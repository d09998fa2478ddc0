/- FnExactRecAgree: what the functions compute; the law. -/
import Derived.Test.YtjcbojcnfdlfaaaAi5
namespace Go.Proofs.Ytjcbojcnfdlfaaa
open Go.Sx
set_option maxRecDepth 100000
set_option maxHeartbeats 32000000
set_option linter.unusedVariables false
set_option linter.unusedSimpArgs false
def isT (q : ByteArray × Bool) (t : ByteArray) : Bool := q.2 && decide (q.1 = t)
def bOk (l : List VRecFix) : List ByteArray → Nat → Bool
  | [], _ => true
  | t :: r, j => isT (fixd l ((j : Int) + 1)) t && bOk l r (j + 1)
def gOk (w : VRecWorld) (k : Int) : Bool := !(majS k w.recorders w.recorders).2 || isT (fixd w.fixed k) (majS k w.recorders w.recorders).1
def gAll (w : VRecWorld) : List Nat → Bool
  | [] => true
  | i :: r => gOk w ((1 + i : Nat) : Int) && gAll w r
def agr (w : VRecWorld) : Bool := w.recorders.all (fun x => bOk w.fixed (texts (agreed x)) 0) && gAll w (List.range 60)
def agreeB (w : VRecWorld) : Bool := worldOk w && agr w
theorem rGo_valid {n : Nat} : ∀ {l : List VRecorder} {i : Nat}, rGo n l i = true → ∀ x ∈ l, valid x = true
  | [], _, _, x, hx => by cases hx
  | r :: q, i, h, x, hx => by
    simp only [rGo, rOk, Bool.and_eq_true] at h
    rcases List.mem_cons.1 hx with rfl | hx
    · exact h.1.1
    · exact rGo_valid h.2 x hx
theorem world_valid {w : VRecWorld} (h : worldOk w = true) : ∀ x ∈ w.recorders, valid x = true := by
  simp only [worldOk, Bool.and_eq_true] at h
  exact rGo_valid h.2.2.1
theorem world_maj {w : VRecWorld} (h : worldOk w = true) (k : Int) : majI k w.recorders.length w.recorders [] = majS k w.recorders w.recorders := by
  refine maj_eq k w.recorders (fun r hr s hs => ?_)
  have hv := world_valid h r hr
  unfold slotK at hs
  split at hs
  · have hm := List.mem_of_getElem? hs
    simp only [valid, diskOk, slotsOk, Bool.and_eq_true] at hv
    have hall : r.safe.slots.all slotOk = true := by
      obtain ⟨_, _, h1, _⟩ := hv
      exact h1.2.1.2
    have := List.all_eq_true.1 hall s hm
    simp only [slotOk, inR, Bool.and_eq_true, decide_eq_true_eq] at this
    exact this.1.1
  · cases hs
theorem at_range {i x : Nat} (h : (List.range 60)[i]? = some x) : i < 60 ∧ x = i := by
  have h1 := (List.getElem?_eq_some_iff.1 h).1
  simp at h1
  rw [List.getElem?_eq_getElem (by simpa using h1)] at h
  simp at h
  exact ⟨h1, h.symm⟩
theorem k9 (w : VRecWorld) (hw : w.w ≤ 4194304) : EV Try.prog E 9 [.val 0 true (w.c .shr)] = some ⟨[(false, [.p (.bool (agreeB w))])], []⟩ := by
  refine EV_intro Try.func9 rfl ?_
  have h0 := k50 w hw
  have hl : w.recorders.length ≤ 4194304 := by unfold VRecWorld.w wSRecorder at hw; omega
  simp only [VRecWorld.c] at h0
  unfold agreeB
  cases d : worldOk w
  · rw [d] at h0
    simp only [rv0, rv1, rvE, rvH, rvS, rvI, eT, eQ, ↓reduceIte, Nat.reduceEqDiff, Nat.reduceAdd, Nat.reduceSub, Nat.reduceMul, Nat.reduceLeDiff, Nat.reduceBEq, decide_true, decide_false, reduceCtorEq, Int.reduceLT, Int.reduceNeg, rvN, Nat.reduceLT, Int.reduceLE, Int.reduceEq, eq_self, List.reduceReplicate, rvF, rvG, e9, e50, Try.f9, VRecWorld.c, h0, Bool.false_and]
  rw [d] at h0
  have hv := world_valid d
  simp only [rv0, rv1, rvE, rvH, rvS, rvI, eT, eQ, ↓reduceIte, Nat.reduceEqDiff, Nat.reduceAdd, Nat.reduceSub, Nat.reduceMul, Nat.reduceLeDiff, Nat.reduceBEq, decide_true, decide_false, reduceCtorEq, Int.reduceLT, Int.reduceNeg, rvN, Nat.reduceLT, Int.reduceLE, Int.reduceEq, eq_self, List.reduceReplicate, rvF, rvG, e9, e50, Try.f9, VRecWorld.c, h0, Bool.true_and]
  rw [for_block w.recorders (fun i (_ : Unit) => ⟨2, [(1, .box 0 0 (w.c .shr)), (3, .val 1 false [.p (.int .i64 i)])]⟩) (fun _ _ => True)
    (fun r i _ => if r.all (fun x => bOk w.fixed (texts (agreed x)) 0) = true then .norm ⟨1, [(1, .box 0 0 (w.c .shr))]⟩ else .ret ⟨[(false, [.p (.bool false)])], []⟩) ?_ ?_ (a := ()) trivial (by simp only [rv0, rv1, rvE, rvH, rvS, rvI, eT, eQ, ↓reduceIte, Nat.reduceEqDiff, Nat.reduceAdd, Nat.reduceSub, Nat.reduceMul, Nat.reduceLeDiff, Nat.reduceBEq, decide_true, decide_false, reduceCtorEq, Int.reduceLT, Int.reduceNeg, rvN, Nat.reduceLT, Int.reduceLE, Int.reduceEq, eq_self, List.reduceReplicate, rvF, rvG, e9, VRecWorld.c]; try rfl)]
  · unfold agr
    cases d1 : w.recorders.all (fun x => bOk w.fixed (texts (agreed x)) 0)
    · simp only [rv0, rv1, rvE, rvH, rvS, rvI, eT, eQ, ↓reduceIte, Nat.reduceEqDiff, Nat.reduceAdd, Nat.reduceSub, Nat.reduceMul, Nat.reduceLeDiff, Nat.reduceBEq, decide_true, decide_false, reduceCtorEq, Int.reduceLT, Int.reduceNeg, rvN, Nat.reduceLT, Int.reduceLE, Int.reduceEq, eq_self, List.reduceReplicate, rvF, rvG, e9, VRecWorld.c, Bool.false_eq_true, Bool.false_and]
    simp only [rv0, rv1, rvE, rvH, rvS, rvI, eT, eQ, ↓reduceIte, Nat.reduceEqDiff, Nat.reduceAdd, Nat.reduceSub, Nat.reduceMul, Nat.reduceLeDiff, Nat.reduceBEq, decide_true, decide_false, reduceCtorEq, Int.reduceLT, Int.reduceNeg, rvN, Nat.reduceLT, Int.reduceLE, Int.reduceEq, eq_self, List.reduceReplicate, rvF, rvG, e9, VRecWorld.c, Bool.true_and]
    rw [for_block (List.range 60) (fun i (_ : Unit) => ⟨2, [(1, .box 0 0 (w.c .shr)), (8, .val 1 false [.p (.int .i64 ((1 + i : Nat) : Int))])]⟩) (fun _ _ => True)
      (fun r i _ => if gAll w r = true then .norm ⟨0, []⟩ else .ret ⟨[(false, [.p (.bool false)])], []⟩) ?_ ?_ (a := ()) trivial (by simp only [rv0, rv1, rvE, rvH, rvS, rvI, eT, eQ, ↓reduceIte, Nat.reduceEqDiff, Nat.reduceAdd, Nat.reduceSub, Nat.reduceMul, Nat.reduceLeDiff, Nat.reduceBEq, decide_true, decide_false, reduceCtorEq, Int.reduceLT, Int.reduceNeg, rvN, Nat.reduceLT, Int.reduceLE, Int.reduceEq, eq_self, List.reduceReplicate, rvF, rvG, e9, VRecWorld.c]; try rfl)]
    · cases d2 : gAll w (List.range 60)
      · simp only [rv0, rv1, rvE, rvH, rvS, rvI, eT, eQ, ↓reduceIte, Nat.reduceEqDiff, Nat.reduceAdd, Nat.reduceSub, Nat.reduceMul, Nat.reduceLeDiff, Nat.reduceBEq, decide_true, decide_false, reduceCtorEq, Int.reduceLT, Int.reduceNeg, rvN, Nat.reduceLT, Int.reduceLE, Int.reduceEq, eq_self, List.reduceReplicate, rvF, rvG, e9, Bool.false_eq_true]
      · simp only [rv0, rv1, rvE, rvH, rvS, rvI, eT, eQ, ↓reduceIte, Nat.reduceEqDiff, Nat.reduceAdd, Nat.reduceSub, Nat.reduceMul, Nat.reduceLeDiff, Nat.reduceBEq, decide_true, decide_false, reduceCtorEq, Int.reduceLT, Int.reduceNeg, rvN, Nat.reduceLT, Int.reduceLE, Int.reduceEq, eq_self, List.reduceReplicate, rvF, rvG, e9]
    · intro i x r a hd hi _
      obtain ⟨hi6, rfl⟩ := at_range hi
      have hle : ((1 + x : Nat) : Int) ≤ 60 := by omega
      have hwi : IntKind.i64.wrap (((1 + x : Nat) : Int) + 1) = ((1 + (x + 1) : Nat) : Int) := by rw [wrap64 (by omega) (by omega)]; omega
      have g1 := k53 w ((1 + x : Nat) : Int) hw
      have g2 := k52 w ((1 + x : Nat) : Int) hw
      have e : gAll w (x :: r) = (gOk w ((1 + x : Nat) : Int) && gAll w r) := rfl
      rw [e]
      unfold gOk isT
      generalize majS ((1 + x : Nat) : Int) w.recorders w.recorders = mm at *
      generalize fixd w.fixed ((1 + x : Nat) : Int) = ff at *
      obtain ⟨mt, mb⟩ := mm
      obtain ⟨ft, fb⟩ := ff
      simp only [VRecWorld.c] at g1 g2
      cases mb
      · left
        refine ⟨(), ?_, trivial, by simp⟩
        simp only [rv0, rv1, rvE, rvH, rvS, rvI, eT, eQ, ↓reduceIte, Nat.reduceEqDiff, Nat.reduceAdd, Nat.reduceSub, Nat.reduceMul, Nat.reduceLeDiff, Nat.reduceBEq, decide_true, decide_false, reduceCtorEq, Int.reduceLT, Int.reduceNeg, rvN, Nat.reduceLT, Int.reduceLE, Int.reduceEq, eq_self, List.reduceReplicate, rvF, rvG, e9, e53, e52, VRecWorld.c, hle, hwi, g1, g2]
      cases fb
      · right
        simp only [rv0, rv1, rvE, rvH, rvS, rvI, eT, eQ, ↓reduceIte, Nat.reduceEqDiff, Nat.reduceAdd, Nat.reduceSub, Nat.reduceMul, Nat.reduceLeDiff, Nat.reduceBEq, decide_true, decide_false, reduceCtorEq, Int.reduceLT, Int.reduceNeg, rvN, Nat.reduceLT, Int.reduceLE, Int.reduceEq, eq_self, List.reduceReplicate, rvF, rvG, e9, e53, e52, VRecWorld.c, hle, hwi, g1, g2, Bool.not_true, Bool.false_or, Bool.false_and, Bool.false_eq_true]
      by_cases c : ft = mt
      · left
        refine ⟨(), ?_, trivial, by simp [c]⟩
        have c' := eq_true c
        simp only [rv0, rv1, rvE, rvH, rvS, rvI, eT, eQ, ↓reduceIte, Nat.reduceEqDiff, Nat.reduceAdd, Nat.reduceSub, Nat.reduceMul, Nat.reduceLeDiff, Nat.reduceBEq, decide_true, decide_false, reduceCtorEq, Int.reduceLT, Int.reduceNeg, rvN, Nat.reduceLT, Int.reduceLE, Int.reduceEq, eq_self, List.reduceReplicate, rvF, rvG, e9, e53, e52, VRecWorld.c, hle, hwi, g1, g2, c', Bool.not_true]
      · right
        simp only [rv0, rv1, rvE, rvH, rvS, rvI, eT, eQ, ↓reduceIte, Nat.reduceEqDiff, Nat.reduceAdd, Nat.reduceSub, Nat.reduceMul, Nat.reduceLeDiff, Nat.reduceBEq, decide_true, decide_false, reduceCtorEq, Int.reduceLT, Int.reduceNeg, rvN, Nat.reduceLT, Int.reduceLE, Int.reduceEq, eq_self, List.reduceReplicate, rvF, rvG, e9, e53, e52, VRecWorld.c, hle, hwi, g1, g2, c, Bool.not_true, Bool.false_or, Bool.true_and, Bool.false_and, Bool.false_eq_true, Bool.not_false]
    · intro a _
      have hn : ¬ (((1 + (List.range 60).length : Nat) : Int) ≤ 60) := by simp
      simp only [rv0, rv1, rvE, rvH, rvS, rvI, eT, eQ, ↓reduceIte, Nat.reduceEqDiff, Nat.reduceAdd, Nat.reduceSub, Nat.reduceMul, Nat.reduceLeDiff, Nat.reduceBEq, decide_true, decide_false, reduceCtorEq, Int.reduceLT, Int.reduceNeg, rvN, Nat.reduceLT, Int.reduceLE, Int.reduceEq, eq_self, List.reduceReplicate, rvF, rvG, e9, VRecWorld.c, hn, gAll]
  · intro i x r a hd hi _
    have hlen := (List.getElem?_eq_some_iff.1 hi).1
    have hlt : ((i : Int) < (w.recorders.length : Int)) := by omega
    have hr := getElem?_map_some (f := VRecorder.c .shr) hi
    have hi0 : (0 : Int) ≤ (i : Int) := by omega
    have hwi := wrap64 (n := (i : Int) + 1) (by omega) (by omega)
    have hmem := List.mem_of_getElem? hi
    obtain ⟨hxw, _, _⟩ := rec_le hw hmem
    have hb := k51 x hxw
    have hbk : book x = texts (agreed x) := by unfold book; rw [if_pos (hv x hmem)]
    rw [hbk] at hb
    have htl : (texts (agreed x)).length ≤ 4194304 := by
      rw [texts_length]; unfold agreed; rw [List.length_take]
      unfold VRecorder.w VRecDisk.w wSRecSlot at hxw
      omega
    simp only [VRecorder.c] at hr hb
    have e0 : (x :: r).all (fun x => bOk w.fixed (texts (agreed x)) 0) = (bOk w.fixed (texts (agreed x)) 0 && r.all (fun x => bOk w.fixed (texts (agreed x)) 0)) := by simp only [List.all_cons]
    rw [e0]
    simp only [rv0, rv1, rvE, rvH, rvS, rvI, eT, eQ, ↓reduceIte, Nat.reduceEqDiff, Nat.reduceAdd, Nat.reduceSub, Nat.reduceMul, Nat.reduceLeDiff, Nat.reduceBEq, decide_true, decide_false, reduceCtorEq, Int.reduceLT, Int.reduceNeg, rvN, Nat.reduceLT, Int.reduceLE, Int.reduceEq, eq_self, List.reduceReplicate, rvF, rvG, e9, e51, VRecWorld.c, hlt, hr, hi0, hb, rowsString]
    generalize texts (agreed x) = bk at *
    rw [for_block bk (fun j (_ : Unit) => ⟨4, [(1, .box 0 0 (w.c .shr)), (3, .val 1 false [.p (.int .i64 i)]), (4, .val 2 false [.sl .own 1 (bk.map strC)]), (5, .val 3 false [.p (.int .i64 j)])]⟩) (fun _ _ => True)
      (fun q j _ => if bOk w.fixed q j = true then .norm ⟨2, [(1, .box 0 0 (w.c .shr)), (3, .val 1 false [.p (.int .i64 i)])]⟩ else .ret ⟨[(false, [.p (.bool false)])], []⟩) ?_ ?_ (a := ()) trivial (by simp only [rv0, rv1, rvE, rvH, rvS, rvI, eT, eQ, ↓reduceIte, Nat.reduceEqDiff, Nat.reduceAdd, Nat.reduceSub, Nat.reduceMul, Nat.reduceLeDiff, Nat.reduceBEq, decide_true, decide_false, reduceCtorEq, Int.reduceLT, Int.reduceNeg, rvN, Nat.reduceLT, Int.reduceLE, Int.reduceEq, eq_self, List.reduceReplicate, rvF, rvG, e9, VRecWorld.c]; try rfl)]
    · cases d3 : bOk w.fixed bk 0
      · right
        simp only [rv0, rv1, rvE, rvH, rvS, rvI, eT, eQ, ↓reduceIte, Nat.reduceEqDiff, Nat.reduceAdd, Nat.reduceSub, Nat.reduceMul, Nat.reduceLeDiff, Nat.reduceBEq, decide_true, decide_false, reduceCtorEq, Int.reduceLT, Int.reduceNeg, rvN, Nat.reduceLT, Int.reduceLE, Int.reduceEq, eq_self, List.reduceReplicate, rvF, rvG, e9, VRecWorld.c, Bool.false_and, Bool.false_eq_true]
      · left
        refine ⟨(), ?_, trivial, rfl⟩
        simp only [rv0, rv1, rvE, rvH, rvS, rvI, eT, eQ, ↓reduceIte, Nat.reduceEqDiff, Nat.reduceAdd, Nat.reduceSub, Nat.reduceMul, Nat.reduceLeDiff, Nat.reduceBEq, decide_true, decide_false, reduceCtorEq, Int.reduceLT, Int.reduceNeg, rvN, Nat.reduceLT, Int.reduceLE, Int.reduceEq, eq_self, List.reduceReplicate, rvF, rvG, e9, VRecWorld.c, hwi, i64c]
    · intro j t q a2 hd2 hj _
      have hlen2 := (List.getElem?_eq_some_iff.1 hj).1
      have hlt2 : ((j : Int) < (bk.length : Int)) := by omega
      have hr2 := getElem?_map_some (f := strC) hj
      have hj0 : (0 : Int) ≤ (j : Int) := by omega
      have hwj := wrap64 (n := (j : Int) + 1) (by omega) (by omega)
      have g2 := k52 w ((j : Int) + 1) hw
      have e : bOk w.fixed (t :: q) j = (isT (fixd w.fixed ((j : Int) + 1)) t && bOk w.fixed q (j + 1)) := rfl
      rw [e]
      unfold isT
      generalize fixd w.fixed ((j : Int) + 1) = ff at *
      obtain ⟨ft, fb⟩ := ff
      simp only [VRecWorld.c] at g2
      simp only [strC] at hr2
      cases fb
      · right
        simp only [rv0, rv1, rvE, rvH, rvS, rvI, eT, eQ, ↓reduceIte, Nat.reduceEqDiff, Nat.reduceAdd, Nat.reduceSub, Nat.reduceMul, Nat.reduceLeDiff, Nat.reduceBEq, decide_true, decide_false, reduceCtorEq, Int.reduceLT, Int.reduceNeg, rvN, Nat.reduceLT, Int.reduceLE, Int.reduceEq, eq_self, List.reduceReplicate, rvF, rvG, e9, e52, VRecWorld.c, hlt2, hr2, hj0, hwj, g2, Bool.false_and, Bool.false_eq_true]
      by_cases c : ft = t
      · left
        refine ⟨(), ?_, trivial, by simp [c]⟩
        have c' := eq_true c
        simp only [rv0, rv1, rvE, rvH, rvS, rvI, eT, eQ, ↓reduceIte, Nat.reduceEqDiff, Nat.reduceAdd, Nat.reduceSub, Nat.reduceMul, Nat.reduceLeDiff, Nat.reduceBEq, decide_true, decide_false, reduceCtorEq, Int.reduceLT, Int.reduceNeg, rvN, Nat.reduceLT, Int.reduceLE, Int.reduceEq, eq_self, List.reduceReplicate, rvF, rvG, e9, e52, VRecWorld.c, hlt2, hlen2, hr2, hj0, hwj, g2, c', Bool.not_true, i64c]
      · right
        simp only [rv0, rv1, rvE, rvH, rvS, rvI, eT, eQ, ↓reduceIte, Nat.reduceEqDiff, Nat.reduceAdd, Nat.reduceSub, Nat.reduceMul, Nat.reduceLeDiff, Nat.reduceBEq, decide_true, decide_false, reduceCtorEq, Int.reduceLT, Int.reduceNeg, rvN, Nat.reduceLT, Int.reduceLE, Int.reduceEq, eq_self, List.reduceReplicate, rvF, rvG, e9, e52, VRecWorld.c, hlt2, hlen2, hr2, hj0, hwj, g2, c, Bool.true_and, Bool.false_and, Bool.false_eq_true, Bool.not_false]
    · intro a2 _
      have hn : ¬ ((bk.length : Int) < (bk.length : Int)) := by omega
      simp only [rv0, rv1, rvE, rvH, rvS, rvI, eT, eQ, ↓reduceIte, Nat.reduceEqDiff, Nat.reduceAdd, Nat.reduceSub, Nat.reduceMul, Nat.reduceLeDiff, Nat.reduceBEq, decide_true, decide_false, reduceCtorEq, Int.reduceLT, Int.reduceNeg, rvN, Nat.reduceLT, Int.reduceLE, Int.reduceEq, eq_self, List.reduceReplicate, rvF, rvG, e9, VRecWorld.c, hn, bOk]
  · intro a _
    have hn : ¬ ((w.recorders.length : Int) < (w.recorders.length : Int)) := by omega
    simp only [rv0, rv1, rvE, rvH, rvS, rvI, eT, eQ, ↓reduceIte, Nat.reduceEqDiff, Nat.reduceAdd, Nat.reduceSub, Nat.reduceMul, Nat.reduceLeDiff, Nat.reduceBEq, decide_true, decide_false, reduceCtorEq, Int.reduceLT, Int.reduceNeg, rvN, Nat.reduceLT, Int.reduceLE, Int.reduceEq, eq_self, List.reduceReplicate, rvF, rvG, e9, VRecWorld.c, hn, List.all_nil]
theorem k58 (w : VRecWorld) (hw : w.w ≤ 4194304) (d : worldOk w = true) : EV Try.prog E 58 [.box 0 0 (w.c .shr)] = some ⟨[(false, [.p (.bool (agr w))])], [w.c .shr]⟩ := by
  refine EV_intro Try.func58 rfl ?_
  have hl : w.recorders.length ≤ 4194304 := by unfold VRecWorld.w wSRecorder at hw; omega
  have hv := world_valid d
  simp only [rv0, rv1, rvE, rvH, rvS, rvI, eT, eQ, ↓reduceIte, Nat.reduceEqDiff, Nat.reduceAdd, Nat.reduceSub, Nat.reduceMul, Nat.reduceLeDiff, Nat.reduceBEq, decide_true, decide_false, reduceCtorEq, Int.reduceLT, Int.reduceNeg, rvN, Nat.reduceLT, Int.reduceLE, Int.reduceEq, eq_self, List.reduceReplicate, rvF, rvG, e58, Try.f58, VRecWorld.c]
  rw [for_block w.recorders (fun i (_ : Unit) => ⟨3, [(0, .box 0 0 (w.c .shr)), (17, .val 1 false [.p (.int .i64 w.recorders.length)]), (18, .val 2 false [.p (.int .i64 i)])]⟩) (fun _ _ => True)
    (fun r i _ => if r.all (fun x => bOk w.fixed (texts (agreed x)) 0) = true then .norm ⟨1, [(0, .box 0 0 (w.c .shr))]⟩ else .ret ⟨[(false, [.p (.bool false)])], [w.c .shr]⟩) ?_ ?_ (a := ()) trivial (by simp only [rv0, rv1, rvE, rvH, rvS, rvI, eT, eQ, ↓reduceIte, Nat.reduceEqDiff, Nat.reduceAdd, Nat.reduceSub, Nat.reduceMul, Nat.reduceLeDiff, Nat.reduceBEq, decide_true, decide_false, reduceCtorEq, Int.reduceLT, Int.reduceNeg, rvN, Nat.reduceLT, Int.reduceLE, Int.reduceEq, eq_self, List.reduceReplicate, rvF, rvG, e58, VRecWorld.c]; try rfl)]
  · unfold agr
    cases d1 : w.recorders.all (fun x => bOk w.fixed (texts (agreed x)) 0)
    · simp only [rv0, rv1, rvE, rvH, rvS, rvI, eT, eQ, ↓reduceIte, Nat.reduceEqDiff, Nat.reduceAdd, Nat.reduceSub, Nat.reduceMul, Nat.reduceLeDiff, Nat.reduceBEq, decide_true, decide_false, reduceCtorEq, Int.reduceLT, Int.reduceNeg, rvN, Nat.reduceLT, Int.reduceLE, Int.reduceEq, eq_self, List.reduceReplicate, rvF, rvG, e58, VRecWorld.c, Bool.false_eq_true, Bool.false_and]
    simp only [rv0, rv1, rvE, rvH, rvS, rvI, eT, eQ, ↓reduceIte, Nat.reduceEqDiff, Nat.reduceAdd, Nat.reduceSub, Nat.reduceMul, Nat.reduceLeDiff, Nat.reduceBEq, decide_true, decide_false, reduceCtorEq, Int.reduceLT, Int.reduceNeg, rvN, Nat.reduceLT, Int.reduceLE, Int.reduceEq, eq_self, List.reduceReplicate, rvF, rvG, e58, VRecWorld.c, Bool.true_and]
    rw [for_block (List.range 60) (fun i (_ : Unit) => ⟨2, [(0, .box 0 0 (w.c .shr)), (8, .val 1 false [.p (.int .i64 ((1 + i : Nat) : Int))])]⟩) (fun _ _ => True)
      (fun r i _ => if gAll w r = true then .norm ⟨1, [(0, .box 0 0 (w.c .shr))]⟩ else .ret ⟨[(false, [.p (.bool false)])], [w.c .shr]⟩) ?_ ?_ (a := ()) trivial (by simp only [rv0, rv1, rvE, rvH, rvS, rvI, eT, eQ, ↓reduceIte, Nat.reduceEqDiff, Nat.reduceAdd, Nat.reduceSub, Nat.reduceMul, Nat.reduceLeDiff, Nat.reduceBEq, decide_true, decide_false, reduceCtorEq, Int.reduceLT, Int.reduceNeg, rvN, Nat.reduceLT, Int.reduceLE, Int.reduceEq, eq_self, List.reduceReplicate, rvF, rvG, e58, VRecWorld.c]; try rfl)]
    · cases d2 : gAll w (List.range 60)
      · simp only [rv0, rv1, rvE, rvH, rvS, rvI, eT, eQ, ↓reduceIte, Nat.reduceEqDiff, Nat.reduceAdd, Nat.reduceSub, Nat.reduceMul, Nat.reduceLeDiff, Nat.reduceBEq, decide_true, decide_false, reduceCtorEq, Int.reduceLT, Int.reduceNeg, rvN, Nat.reduceLT, Int.reduceLE, Int.reduceEq, eq_self, List.reduceReplicate, rvF, rvG, e58, VRecWorld.c, Bool.false_eq_true]
      · simp only [rv0, rv1, rvE, rvH, rvS, rvI, eT, eQ, ↓reduceIte, Nat.reduceEqDiff, Nat.reduceAdd, Nat.reduceSub, Nat.reduceMul, Nat.reduceLeDiff, Nat.reduceBEq, decide_true, decide_false, reduceCtorEq, Int.reduceLT, Int.reduceNeg, rvN, Nat.reduceLT, Int.reduceLE, Int.reduceEq, eq_self, List.reduceReplicate, rvF, rvG, e58, VRecWorld.c]
    · intro i x r a hd hi _
      obtain ⟨hi6, rfl⟩ := at_range hi
      have hle : ((1 + x : Nat) : Int) ≤ 60 := by omega
      have hwi : IntKind.i64.wrap (((1 + x : Nat) : Int) + 1) = ((1 + (x + 1) : Nat) : Int) := by rw [wrap64 (by omega) (by omega)]; omega
      have g1 := k131 w ((1 + x : Nat) : Int) hw
      rw [world_maj d] at g1
      have g2 := k130 w ((1 + x : Nat) : Int) hw
      have e : gAll w (x :: r) = (gOk w ((1 + x : Nat) : Int) && gAll w r) := rfl
      rw [e]
      unfold gOk isT
      generalize majS ((1 + x : Nat) : Int) w.recorders w.recorders = mm at *
      generalize fixd w.fixed ((1 + x : Nat) : Int) = ff at *
      obtain ⟨mt, mb⟩ := mm
      obtain ⟨ft, fb⟩ := ff
      simp only [VRecWorld.c] at g1 g2
      cases mb
      · left
        refine ⟨(), ?_, trivial, by simp⟩
        simp only [rv0, rv1, rvE, rvH, rvS, rvI, eT, eQ, ↓reduceIte, Nat.reduceEqDiff, Nat.reduceAdd, Nat.reduceSub, Nat.reduceMul, Nat.reduceLeDiff, Nat.reduceBEq, decide_true, decide_false, reduceCtorEq, Int.reduceLT, Int.reduceNeg, rvN, Nat.reduceLT, Int.reduceLE, Int.reduceEq, eq_self, List.reduceReplicate, rvF, rvG, e58, e131, e130, VRecWorld.c, hle, hwi, g1, g2]
      cases fb
      · right
        simp only [rv0, rv1, rvE, rvH, rvS, rvI, eT, eQ, ↓reduceIte, Nat.reduceEqDiff, Nat.reduceAdd, Nat.reduceSub, Nat.reduceMul, Nat.reduceLeDiff, Nat.reduceBEq, decide_true, decide_false, reduceCtorEq, Int.reduceLT, Int.reduceNeg, rvN, Nat.reduceLT, Int.reduceLE, Int.reduceEq, eq_self, List.reduceReplicate, rvF, rvG, e58, e131, e130, VRecWorld.c, hle, hwi, g1, g2, Bool.not_true, Bool.false_or, Bool.false_and, Bool.false_eq_true]
      by_cases c : ft = mt
      · left
        refine ⟨(), ?_, trivial, by simp [c]⟩
        have c' := eq_true c
        simp only [rv0, rv1, rvE, rvH, rvS, rvI, eT, eQ, ↓reduceIte, Nat.reduceEqDiff, Nat.reduceAdd, Nat.reduceSub, Nat.reduceMul, Nat.reduceLeDiff, Nat.reduceBEq, decide_true, decide_false, reduceCtorEq, Int.reduceLT, Int.reduceNeg, rvN, Nat.reduceLT, Int.reduceLE, Int.reduceEq, eq_self, List.reduceReplicate, rvF, rvG, e58, e131, e130, VRecWorld.c, hle, hwi, g1, g2, c', Bool.not_true]
      · right
        simp only [rv0, rv1, rvE, rvH, rvS, rvI, eT, eQ, ↓reduceIte, Nat.reduceEqDiff, Nat.reduceAdd, Nat.reduceSub, Nat.reduceMul, Nat.reduceLeDiff, Nat.reduceBEq, decide_true, decide_false, reduceCtorEq, Int.reduceLT, Int.reduceNeg, rvN, Nat.reduceLT, Int.reduceLE, Int.reduceEq, eq_self, List.reduceReplicate, rvF, rvG, e58, e131, e130, VRecWorld.c, hle, hwi, g1, g2, c, Bool.not_true, Bool.false_or, Bool.true_and, Bool.false_and, Bool.false_eq_true, Bool.not_false]
    · intro a _
      have hn : ¬ (((1 + (List.range 60).length : Nat) : Int) ≤ 60) := by simp
      simp only [rv0, rv1, rvE, rvH, rvS, rvI, eT, eQ, ↓reduceIte, Nat.reduceEqDiff, Nat.reduceAdd, Nat.reduceSub, Nat.reduceMul, Nat.reduceLeDiff, Nat.reduceBEq, decide_true, decide_false, reduceCtorEq, Int.reduceLT, Int.reduceNeg, rvN, Nat.reduceLT, Int.reduceLE, Int.reduceEq, eq_self, List.reduceReplicate, rvF, rvG, e58, VRecWorld.c, hn, gAll]
  · intro i x r a hd hi _
    have hlen := (List.getElem?_eq_some_iff.1 hi).1
    have hlt : ((i : Int) < (w.recorders.length : Int)) := by omega
    have hr := getElem?_map_some (f := VRecorder.c .shr) hi
    have hi0 : (0 : Int) ≤ (i : Int) := by omega
    have hwi := wrap64 (n := (i : Int) + 1) (by omega) (by omega)
    have hmem := List.mem_of_getElem? hi
    obtain ⟨hxw, _, _⟩ := rec_le hw hmem
    obtain ⟨q1, q2⟩ := valid_known (hv x hmem)
    have hb := k129r x hxw q1 q2
    have htl : (texts (agreed x)).length ≤ 4194304 := by
      rw [texts_length]; unfold agreed; rw [List.length_take]
      unfold VRecorder.w VRecDisk.w wSRecSlot at hxw
      omega
    simp only [VRecorder.c] at hr hb
    have e0 : (x :: r).all (fun x => bOk w.fixed (texts (agreed x)) 0) = (bOk w.fixed (texts (agreed x)) 0 && r.all (fun x => bOk w.fixed (texts (agreed x)) 0)) := by simp only [List.all_cons]
    rw [e0]
    simp only [rv0, rv1, rvE, rvH, rvS, rvI, eT, eQ, ↓reduceIte, Nat.reduceEqDiff, Nat.reduceAdd, Nat.reduceSub, Nat.reduceMul, Nat.reduceLeDiff, Nat.reduceBEq, decide_true, decide_false, reduceCtorEq, Int.reduceLT, Int.reduceNeg, rvN, Nat.reduceLT, Int.reduceLE, Int.reduceEq, eq_self, List.reduceReplicate, rvF, rvG, e58, e129, VRecWorld.c, hlt, hr, hi0, hb, rowsString]
    generalize texts (agreed x) = bk at *
    rw [for_block bk (fun j (_ : Unit) => ⟨6, [(0, .box 0 0 (w.c .shr)), (17, .val 1 false [.p (.int .i64 w.recorders.length)]), (18, .val 2 false [.p (.int .i64 i)]), (27, .val 3 false [.sl .own 1 (bk.map strC)]), (28, .val 4 false [.p (.int .i64 bk.length)]), (29, .val 5 false [.p (.int .i64 j)])]⟩) (fun _ _ => True)
      (fun q j _ => if bOk w.fixed q j = true then .norm ⟨3, [(0, .box 0 0 (w.c .shr)), (17, .val 1 false [.p (.int .i64 w.recorders.length)]), (18, .val 2 false [.p (.int .i64 i)])]⟩ else .ret ⟨[(false, [.p (.bool false)])], [w.c .shr]⟩) ?_ ?_ (a := ()) trivial (by simp only [rv0, rv1, rvE, rvH, rvS, rvI, eT, eQ, ↓reduceIte, Nat.reduceEqDiff, Nat.reduceAdd, Nat.reduceSub, Nat.reduceMul, Nat.reduceLeDiff, Nat.reduceBEq, decide_true, decide_false, reduceCtorEq, Int.reduceLT, Int.reduceNeg, rvN, Nat.reduceLT, Int.reduceLE, Int.reduceEq, eq_self, List.reduceReplicate, rvF, rvG, e58, VRecWorld.c]; try rfl)]
    · cases d3 : bOk w.fixed bk 0
      · right
        simp only [rv0, rv1, rvE, rvH, rvS, rvI, eT, eQ, ↓reduceIte, Nat.reduceEqDiff, Nat.reduceAdd, Nat.reduceSub, Nat.reduceMul, Nat.reduceLeDiff, Nat.reduceBEq, decide_true, decide_false, reduceCtorEq, Int.reduceLT, Int.reduceNeg, rvN, Nat.reduceLT, Int.reduceLE, Int.reduceEq, eq_self, List.reduceReplicate, rvF, rvG, e58, VRecWorld.c, Bool.false_and, Bool.false_eq_true]
      · left
        refine ⟨(), ?_, trivial, rfl⟩
        simp only [rv0, rv1, rvE, rvH, rvS, rvI, eT, eQ, ↓reduceIte, Nat.reduceEqDiff, Nat.reduceAdd, Nat.reduceSub, Nat.reduceMul, Nat.reduceLeDiff, Nat.reduceBEq, decide_true, decide_false, reduceCtorEq, Int.reduceLT, Int.reduceNeg, rvN, Nat.reduceLT, Int.reduceLE, Int.reduceEq, eq_self, List.reduceReplicate, rvF, rvG, e58, VRecWorld.c, hwi, i64c]
    · intro j t q a2 hd2 hj _
      have hlen2 := (List.getElem?_eq_some_iff.1 hj).1
      have hlt2 : ((j : Int) < (bk.length : Int)) := by omega
      have hr2 := getElem?_map_some (f := strC) hj
      have hj0 : (0 : Int) ≤ (j : Int) := by omega
      have hwj := wrap64 (n := (j : Int) + 1) (by omega) (by omega)
      have g2 := k130 w ((j : Int) + 1) hw
      have e : bOk w.fixed (t :: q) j = (isT (fixd w.fixed ((j : Int) + 1)) t && bOk w.fixed q (j + 1)) := rfl
      rw [e]
      unfold isT
      generalize fixd w.fixed ((j : Int) + 1) = ff at *
      obtain ⟨ft, fb⟩ := ff
      simp only [VRecWorld.c] at g2
      simp only [strC] at hr2
      cases fb
      · right
        simp only [rv0, rv1, rvE, rvH, rvS, rvI, eT, eQ, ↓reduceIte, Nat.reduceEqDiff, Nat.reduceAdd, Nat.reduceSub, Nat.reduceMul, Nat.reduceLeDiff, Nat.reduceBEq, decide_true, decide_false, reduceCtorEq, Int.reduceLT, Int.reduceNeg, rvN, Nat.reduceLT, Int.reduceLE, Int.reduceEq, eq_self, List.reduceReplicate, rvF, rvG, e58, e130, VRecWorld.c, hlt2, hlen2, hr2, hj0, hwj, g2, Bool.false_and, Bool.false_eq_true]
      by_cases c : ft = t
      · left
        refine ⟨(), ?_, trivial, by simp [c]⟩
        have c' := eq_true c
        simp only [rv0, rv1, rvE, rvH, rvS, rvI, eT, eQ, ↓reduceIte, Nat.reduceEqDiff, Nat.reduceAdd, Nat.reduceSub, Nat.reduceMul, Nat.reduceLeDiff, Nat.reduceBEq, decide_true, decide_false, reduceCtorEq, Int.reduceLT, Int.reduceNeg, rvN, Nat.reduceLT, Int.reduceLE, Int.reduceEq, eq_self, List.reduceReplicate, rvF, rvG, e58, e130, VRecWorld.c, hlt2, hlen2, hr2, hj0, hwj, g2, c', Bool.not_true, i64c]
      · right
        simp only [rv0, rv1, rvE, rvH, rvS, rvI, eT, eQ, ↓reduceIte, Nat.reduceEqDiff, Nat.reduceAdd, Nat.reduceSub, Nat.reduceMul, Nat.reduceLeDiff, Nat.reduceBEq, decide_true, decide_false, reduceCtorEq, Int.reduceLT, Int.reduceNeg, rvN, Nat.reduceLT, Int.reduceLE, Int.reduceEq, eq_self, List.reduceReplicate, rvF, rvG, e58, e130, VRecWorld.c, hlt2, hlen2, hr2, hj0, hwj, g2, c, Bool.true_and, Bool.false_and, Bool.false_eq_true, Bool.not_false]
    · intro a2 _
      have hn : ¬ ((bk.length : Int) < (bk.length : Int)) := by omega
      simp only [rv0, rv1, rvE, rvH, rvS, rvI, eT, eQ, ↓reduceIte, Nat.reduceEqDiff, Nat.reduceAdd, Nat.reduceSub, Nat.reduceMul, Nat.reduceLeDiff, Nat.reduceBEq, decide_true, decide_false, reduceCtorEq, Int.reduceLT, Int.reduceNeg, rvN, Nat.reduceLT, Int.reduceLE, Int.reduceEq, eq_self, List.reduceReplicate, rvF, rvG, e58, VRecWorld.c, hn, bOk]
  · intro a _
    have hn : ¬ ((w.recorders.length : Int) < (w.recorders.length : Int)) := by omega
    simp only [rv0, rv1, rvE, rvH, rvS, rvI, eT, eQ, ↓reduceIte, Nat.reduceEqDiff, Nat.reduceAdd, Nat.reduceSub, Nat.reduceMul, Nat.reduceLeDiff, Nat.reduceBEq, decide_true, decide_false, reduceCtorEq, Int.reduceLT, Int.reduceNeg, rvN, Nat.reduceLT, Int.reduceLE, Int.reduceEq, eq_self, List.reduceReplicate, rvF, rvG, e58, VRecWorld.c, hn, List.all_nil]
theorem k11 (w : VRecWorld) (hw : w.w ≤ 4194304) : EV Try.prog E 11 [.val 0 true (w.c .shr)] = some ⟨[(false, [.p (.bool (agreeB w))])], []⟩ := by
  refine EV_intro Try.func11 rfl ?_
  have h0 := k57 w hw
  unfold agreeB
  cases d : worldOk w
  · rw [d] at h0
    simp only [VRecWorld.c] at h0
    simp only [rv0, rv1, rvE, rvH, rvS, rvI, eT, eQ, ↓reduceIte, Nat.reduceEqDiff, Nat.reduceAdd, Nat.reduceSub, Nat.reduceMul, Nat.reduceLeDiff, Nat.reduceBEq, decide_true, decide_false, reduceCtorEq, Int.reduceLT, Int.reduceNeg, rvN, Nat.reduceLT, Int.reduceLE, Int.reduceEq, eq_self, List.reduceReplicate, rvF, rvG, e11, e57, Try.f11, VRecWorld.c, h0, Bool.false_and]
  · rw [d] at h0
    have h1 := k58 w hw d
    simp only [VRecWorld.c] at h0 h1
    simp only [rv0, rv1, rvE, rvH, rvS, rvI, eT, eQ, ↓reduceIte, Nat.reduceEqDiff, Nat.reduceAdd, Nat.reduceSub, Nat.reduceMul, Nat.reduceLeDiff, Nat.reduceBEq, decide_true, decide_false, reduceCtorEq, Int.reduceLT, Int.reduceNeg, rvN, Nat.reduceLT, Int.reduceLE, Int.reduceEq, eq_self, List.reduceReplicate, rvF, rvG, e11, e57, e58, Try.f11, VRecWorld.c, h0, h1, Bool.true_and]
theorem k3 (w : VRecWorld) (hx : w.ok) : EV Try.prog E 3 [.val 0 true (w.c .shr)] = some ⟨[(false, [.p (.bool true)])], []⟩ := by
  refine EV_intro Try.func3 rfl ?_
  have hz := k_szRecWorld w 1048576 hx (by omega) (by omega)
  simp only [VRecWorld.c] at hz
  by_cases hc : (1048576 : Int) < w.w
  · rw [subW_lt hc] at hz
    simp only [rv0, rv1, rvE, rvH, rvS, rvI, eT, eQ, ↓reduceIte, Nat.reduceEqDiff, Nat.reduceAdd, Nat.reduceSub, Nat.reduceMul, Nat.reduceLeDiff, Nat.reduceBEq, decide_true, decide_false, reduceCtorEq, Int.reduceLT, Int.reduceNeg, rvN, Nat.reduceLT, Int.reduceLE, Int.reduceEq, eq_self, List.reduceReplicate, rvF, rvG, e3, e8, Try.f3, VRecWorld.c, hz]
  rw [subW_ge hc] at hz
  have hnn : ¬ ((1048576 : Int) - w.w < 0) := by omega
  have hw : w.w ≤ 4194304 := by omega
  have hto := k_toRecWorld w hw
  have he := k_eqRecWorld w hw
  have h1 := k9 w hw
  have h2 := k11 w hw
  simp only [VRecWorld.c] at hto he h1 h2
  cases d : agreeB w
  all_goals
    rw [d] at h1 h2
    simp only [rv0, rv1, rvE, rvH, rvS, rvI, eT, eQ, ↓reduceIte, Nat.reduceEqDiff, Nat.reduceAdd, Nat.reduceSub, Nat.reduceMul, Nat.reduceLeDiff, Nat.reduceBEq, decide_true, decide_false, reduceCtorEq, Int.reduceLT, Int.reduceNeg, rvN, Nat.reduceLT, Int.reduceLE, Int.reduceEq, eq_self, List.reduceReplicate, rvF, rvG, e3, e8, e9, e10, e11, e12, Try.f3, VRecWorld.c, hz, hnn, hto, he, h1, h2, beq_self_eq_true, Bool.not_true, rowsRecorder, rowsRecMessage, rowsRecFix]
end Go.Proofs.Ytjcbojcnfdlfaaa

