/- Wishes: what the functions compute. -/
import Derived.Test.YtjcbojcnfdlfaaaW2D
import Derived.Test.YtjcbojcnfdlfaaaC5
namespace Go.Proofs.Ytjcbojcnfdlfaaa
open Go.Sx
set_option maxRecDepth 100000
set_option maxHeartbeats 4000000
set_option linter.unusedVariables false
set_option linter.unusedSimpArgs false
def hasB1 (w : ByteArray) (l : List VRecSlot) : Bool := l.any fun s => decide (0 < s.ballot) && decide (s.text = w)
def hasB2 (w : ByteArray) (l : List VRecSlot) : Bool := l.any fun s => decide (s.text = w)
def agreed (x : VRecorder) : List VRecSlot := x.disk.slots.take x.disk.known.toNat
theorem k151 (l : List VRecSlot) (w : ByteArray) (hl : l.length ≤ 4194304) : EV Try.prog E 151 [.val 0 false [.sl .shr 2 (l.map VRecSlot.c)], .val 0 false [.p (.string w)]] = some ⟨[(false, [.p (.bool (hasB1 w l))])], []⟩ := by
  refine EV_intro Try.func151 rfl ?_
  simp only [rv0, rv1, rv2, rv3, rv4, rv5, rv6, rv7, rv8, rv9, rv10, rv11, rv12, rv13, rv14, rvE, rvH, rvS, rvI, eT, eQ, ↓reduceIte, Nat.reduceEqDiff, Nat.reduceAdd, Nat.reduceSub, Nat.reduceMul, Nat.reduceLeDiff, Nat.reduceBEq, decide_true, decide_false, reduceCtorEq, Int.reduceLT, Int.reduceNeg, rvN, Nat.reduceLT, Int.reduceLE, Int.reduceEq, eq_self, List.reduceReplicate, rvF, rvG, e151, Try.f151]
  rw [for_block l (fun i (_ : Unit) => ⟨3, [(0, .val 0 false [.sl .shr 2 (l.map VRecSlot.c)]), (1, .val 1 false [.p (.string w)]), (5, .val 2 false [.p (.int .i64 i)])]⟩) (fun i _ => True)
    (fun r i a => if hasB1 w r = true then .ret ⟨[(false, [.p (.bool true)])], []⟩ else .norm ⟨0, []⟩) ?_ ?_ (a := ()) trivial (by simp only [rv0, rv1, rv2, rv3, rv4, rv5, rv6, rv7, rv8, rv9, rv10, rv11, rv12, rv13, rv14, rvE, rvH, rvS, rvI, eT, eQ, ↓reduceIte, Nat.reduceEqDiff, Nat.reduceAdd, Nat.reduceSub, Nat.reduceMul, Nat.reduceLeDiff, Nat.reduceBEq, decide_true, decide_false, reduceCtorEq, Int.reduceLT, Int.reduceNeg, rvN, Nat.reduceLT, Int.reduceLE, Int.reduceEq, eq_self, List.reduceReplicate, rvF, rvG, e151]; rfl)]
  · cases h : hasB1 w l
    · simp only [rv0, rv1, rv2, rv3, rv4, rv5, rv6, rv7, rv8, rv9, rv10, rv11, rv12, rv13, rv14, rvE, rvH, rvS, rvI, eT, eQ, ↓reduceIte, Nat.reduceEqDiff, Nat.reduceAdd, Nat.reduceSub, Nat.reduceMul, Nat.reduceLeDiff, Nat.reduceBEq, decide_true, decide_false, reduceCtorEq, Int.reduceLT, Int.reduceNeg, rvN, Nat.reduceLT, Int.reduceLE, Int.reduceEq, eq_self, List.reduceReplicate, rvF, rvG, e151, h]
    · simp only [rv0, rv1, rv2, rv3, rv4, rv5, rv6, rv7, rv8, rv9, rv10, rv11, rv12, rv13, rv14, rvE, rvH, rvS, rvI, eT, eQ, ↓reduceIte, Nat.reduceEqDiff, Nat.reduceAdd, Nat.reduceSub, Nat.reduceMul, Nat.reduceLeDiff, Nat.reduceBEq, decide_true, decide_false, reduceCtorEq, Int.reduceLT, Int.reduceNeg, rvN, Nat.reduceLT, Int.reduceLE, Int.reduceEq, eq_self, List.reduceReplicate, rvF, rvG, e151, h]
  · intro i x r a hd hi _
    have hlen := (List.getElem?_eq_some_iff.1 hi).1
    have hlt : ((i : Int) < (l.length : Int)) := by omega
    have hr := getElem?_map_some (f := VRecSlot.c) hi
    have hi0 : (0 : Int) ≤ (i : Int) := by omega
    have hwi := wrap64 (n := (i : Int) + 1) (by omega) (by omega)
    simp only [VRecSlot.c] at hr
    have hE : hasB1 w (x :: r) = ((decide (0 < x.ballot) && decide (x.text = w)) || hasB1 w r) := rfl
    by_cases d1 : 0 < x.ballot
    · by_cases d2 : x.text = w
      · right
        have d2' := eq_true d2
        rw [decide_eq_true d1, decide_eq_true d2, Bool.and_self, Bool.true_or] at hE
        simp only [rv0, rv1, rv2, rv3, rv4, rv5, rv6, rv7, rv8, rv9, rv10, rv11, rv12, rv13, rv14, rvE, rvH, rvS, rvI, eT, eQ, ↓reduceIte, Nat.reduceEqDiff, Nat.reduceAdd, Nat.reduceSub, Nat.reduceMul, Nat.reduceLeDiff, Nat.reduceBEq, decide_true, decide_false, reduceCtorEq, Int.reduceLT, Int.reduceNeg, rvN, Nat.reduceLT, Int.reduceLE, Int.reduceEq, eq_self, List.reduceReplicate, rvF, rvG, e151, VRecSlot.c, hlt, hr, hi0, d1, d2', hE]
      · left
        rw [decide_eq_true d1, decide_eq_false d2, Bool.and_false, Bool.false_or] at hE
        refine ⟨(), ?_, trivial, by rw [hE]⟩
        simp only [rv0, rv1, rv2, rv3, rv4, rv5, rv6, rv7, rv8, rv9, rv10, rv11, rv12, rv13, rv14, rvE, rvH, rvS, rvI, eT, eQ, ↓reduceIte, Nat.reduceEqDiff, Nat.reduceAdd, Nat.reduceSub, Nat.reduceMul, Nat.reduceLeDiff, Nat.reduceBEq, decide_true, decide_false, reduceCtorEq, Int.reduceLT, Int.reduceNeg, rvN, Nat.reduceLT, Int.reduceLE, Int.reduceEq, eq_self, List.reduceReplicate, rvF, rvG, e151, VRecSlot.c, hlt, hr, hi0, d1, d2, hwi, i64c]
    · left
      rw [decide_eq_false d1, Bool.false_and, Bool.false_or] at hE
      refine ⟨(), ?_, trivial, by rw [hE]⟩
      simp only [rv0, rv1, rv2, rv3, rv4, rv5, rv6, rv7, rv8, rv9, rv10, rv11, rv12, rv13, rv14, rvE, rvH, rvS, rvI, eT, eQ, ↓reduceIte, Nat.reduceEqDiff, Nat.reduceAdd, Nat.reduceSub, Nat.reduceMul, Nat.reduceLeDiff, Nat.reduceBEq, decide_true, decide_false, reduceCtorEq, Int.reduceLT, Int.reduceNeg, rvN, Nat.reduceLT, Int.reduceLE, Int.reduceEq, eq_self, List.reduceReplicate, rvF, rvG, e151, VRecSlot.c, hlt, hr, hi0, d1, hwi, i64c]
  · intro a _
    simp only [rv0, rv1, rv2, rv3, rv4, rv5, rv6, rv7, rv8, rv9, rv10, rv11, rv12, rv13, rv14, rvE, rvH, rvS, rvI, eT, eQ, ↓reduceIte, Nat.reduceEqDiff, Nat.reduceAdd, Nat.reduceSub, Nat.reduceMul, Nat.reduceLeDiff, Nat.reduceBEq, decide_true, decide_false, reduceCtorEq, Int.reduceLT, Int.reduceNeg, rvN, Nat.reduceLT, Int.reduceLE, Int.reduceEq, eq_self, List.reduceReplicate, rvF, rvG, e151, hasB1, List.any_nil]
theorem valid_known {x : VRecorder} (h : valid x = true) : 0 ≤ x.disk.known ∧ x.disk.known ≤ x.disk.slots.length := by
  simp only [valid, diskOk, inR, Bool.and_eq_true, decide_eq_true_eq] at h
  obtain ⟨_, _, _, ⟨_, _, h, _⟩, _⟩ := h
  exact h
theorem k157 (x : VRecorder) (w : ByteArray) (hw : x.w ≤ 4194304) (h1 : 0 ≤ x.disk.known) (h2 : x.disk.known ≤ x.disk.slots.length) : EV Try.prog E 157 [.box 0 0 (x.c .own), .val 0 false [.p (.string w)]] = some ⟨[(false, [.p (.bool (hasB2 w (agreed x)))])], [x.c .own]⟩ := by
  refine EV_intro Try.func157 rfl ?_
  have hsl : x.disk.slots.length ≤ 4194304 := by unfold VRecorder.w VRecDisk.w wSRecSlot at hw; omega
  have hal : ((agreed x).length : Int) = x.disk.known := by unfold agreed; simp; omega
  have hm : List.take x.disk.known.toNat (x.disk.slots.map VRecSlot.c) = (agreed x).map VRecSlot.c := by unfold agreed; rw [List.map_take]
  have h3 : x.disk.known.toNat ≤ x.disk.slots.length := by omega
  have h0 : 0 ≤ x.disk.known.toNat := Nat.zero_le _
  have hkt : ((x.disk.known.toNat : Nat) : Int) = x.disk.known := by omega
  simp only [rv0, rv1, rv2, rv3, rv4, rv5, rv6, rv7, rv8, rv9, rv10, rv11, rv12, rv13, rv14, rvE, rvH, rvS, rvI, eT, eQ, ↓reduceIte, Nat.reduceEqDiff, Nat.reduceAdd, Nat.reduceSub, Nat.reduceMul, Nat.reduceLeDiff, Nat.reduceBEq, decide_true, decide_false, reduceCtorEq, Int.reduceLT, Int.reduceNeg, rvN, Nat.reduceLT, Int.reduceLE, Int.reduceEq, eq_self, List.reduceReplicate, rvF, rvG, e157, Try.f157, VRecorder.c, h1, h3, h0, hm, Nat.sub_zero]
  rw [for_block (agreed x) (fun i (_ : Unit) => ⟨5, [(0, .box 0 0 (x.c .own)), (1, .val 1 false [.p (.string w)]), (17, .lnk 0 0 8 1 false none (some (0, x.disk.known.toNat))), (18, .val 3 false [.p (.int .i64 (agreed x).length)]), (19, .val 4 false [.p (.int .i64 i)])]⟩) (fun i _ => True)
    (fun r i a => if hasB2 w r = true then .ret ⟨[(false, [.p (.bool true)])], [x.c .own]⟩ else .norm ⟨1, [(0, .box 0 0 (x.c .own))]⟩) ?_ ?_ (a := ()) trivial (by simp only [rv0, rv1, rv2, rv3, rv4, rv5, rv6, rv7, rv8, rv9, rv10, rv11, rv12, rv13, rv14, rvE, rvH, rvS, rvI, eT, eQ, ↓reduceIte, Nat.reduceEqDiff, Nat.reduceAdd, Nat.reduceSub, Nat.reduceMul, Nat.reduceLeDiff, Nat.reduceBEq, decide_true, decide_false, reduceCtorEq, Int.reduceLT, Int.reduceNeg, rvN, Nat.reduceLT, Int.reduceLE, Int.reduceEq, eq_self, List.reduceReplicate, rvF, rvG, e157, VRecorder.c]; rfl)]
  · cases h : hasB2 w (agreed x)
    · simp only [rv0, rv1, rv2, rv3, rv4, rv5, rv6, rv7, rv8, rv9, rv10, rv11, rv12, rv13, rv14, rvE, rvH, rvS, rvI, eT, eQ, ↓reduceIte, Nat.reduceEqDiff, Nat.reduceAdd, Nat.reduceSub, Nat.reduceMul, Nat.reduceLeDiff, Nat.reduceBEq, decide_true, decide_false, reduceCtorEq, Int.reduceLT, Int.reduceNeg, rvN, Nat.reduceLT, Int.reduceLE, Int.reduceEq, eq_self, List.reduceReplicate, rvF, rvG, e157, VRecorder.c, h]
    · simp only [rv0, rv1, rv2, rv3, rv4, rv5, rv6, rv7, rv8, rv9, rv10, rv11, rv12, rv13, rv14, rvE, rvH, rvS, rvI, eT, eQ, ↓reduceIte, Nat.reduceEqDiff, Nat.reduceAdd, Nat.reduceSub, Nat.reduceMul, Nat.reduceLeDiff, Nat.reduceBEq, decide_true, decide_false, reduceCtorEq, Int.reduceLT, Int.reduceNeg, rvN, Nat.reduceLT, Int.reduceLE, Int.reduceEq, eq_self, List.reduceReplicate, rvF, rvG, e157, VRecorder.c, h]
  · intro i s r a hd hi _
    have hlen := (List.getElem?_eq_some_iff.1 hi).1
    have hlt : ((i : Int) < ((agreed x).length : Int)) := by omega
    have hik : i < x.disk.known.toNat := by omega
    have hi2 : x.disk.slots[i]? = some s := by
      unfold agreed at hi
      rwa [List.getElem?_take_of_lt hik] at hi
    have hr := getElem?_map_some (f := VRecSlot.c) hi2
    have his : i < x.disk.slots.length := by omega
    have hi0 : (0 : Int) ≤ (i : Int) := by omega
    have hwi := wrap64 (n := (i : Int) + 1) (by omega) (by omega)
    simp only [VRecSlot.c] at hr
    have hE : hasB2 w (s :: r) = (decide (s.text = w) || hasB2 w r) := rfl
    by_cases d2 : s.text = w
    · right
      have d2' := eq_true d2
      rw [decide_eq_true d2, Bool.true_or] at hE
      simp only [rv0, rv1, rv2, rv3, rv4, rv5, rv6, rv7, rv8, rv9, rv10, rv11, rv12, rv13, rv14, rvE, rvH, rvS, rvI, eT, eQ, ↓reduceIte, Nat.reduceEqDiff, Nat.reduceAdd, Nat.reduceSub, Nat.reduceMul, Nat.reduceLeDiff, Nat.reduceBEq, decide_true, decide_false, reduceCtorEq, Int.reduceLT, Int.reduceNeg, rvN, Nat.reduceLT, Int.reduceLE, Int.reduceEq, eq_self, List.reduceReplicate, rvF, rvG, e157, VRecorder.c, VRecSlot.c, hlt, hr, hi0, hik, his, h3, hm, hlen, d2', hE]
    · left
      rw [decide_eq_false d2, Bool.false_or] at hE
      refine ⟨(), ?_, trivial, by rw [hE]⟩
      simp only [rv0, rv1, rv2, rv3, rv4, rv5, rv6, rv7, rv8, rv9, rv10, rv11, rv12, rv13, rv14, rvE, rvH, rvS, rvI, eT, eQ, ↓reduceIte, Nat.reduceEqDiff, Nat.reduceAdd, Nat.reduceSub, Nat.reduceMul, Nat.reduceLeDiff, Nat.reduceBEq, decide_true, decide_false, reduceCtorEq, Int.reduceLT, Int.reduceNeg, rvN, Nat.reduceLT, Int.reduceLE, Int.reduceEq, eq_self, List.reduceReplicate, rvF, rvG, e157, VRecorder.c, VRecSlot.c, hlt, hr, hi0, hik, his, h3, hm, hlen, d2, hwi, i64c]
  · intro a _
    simp only [rv0, rv1, rv2, rv3, rv4, rv5, rv6, rv7, rv8, rv9, rv10, rv11, rv12, rv13, rv14, rvE, rvH, rvS, rvI, eT, eQ, ↓reduceIte, Nat.reduceEqDiff, Nat.reduceAdd, Nat.reduceSub, Nat.reduceMul, Nat.reduceLeDiff, Nat.reduceBEq, decide_true, decide_false, reduceCtorEq, Int.reduceLT, Int.reduceNeg, rvN, Nat.reduceLT, Int.reduceLE, Int.reduceEq, eq_self, List.reduceReplicate, rvF, rvG, e157, VRecorder.c, hasB2, List.any_nil]
/-- A wish taken, where it may be. -/
def mayW (x : VRecorder) (w : ByteArray) : Bool := inR (w.size : Int) 1 100 && (!hasS w x.wishes && (decide ((x.wishes.length : Int) < 20) && !hasB2 w (agreed x)))
def wished (x : VRecorder) (w : ByteArray) : VRecorder := if mayW x w = true then { x with wishes := x.wishes ++ [w] } else x
theorem k95 (x : VRecorder) (w : ByteArray) (hw : x.w ≤ 4194304) (h1 : 0 ≤ x.disk.known) (h2 : x.disk.known ≤ x.disk.slots.length) : EV Try.prog E 95 [.box 0 0 (x.c .own), .val 0 false [.p (.string w)]] = some ⟨[], [(wished x w).c .own]⟩ := by
  refine EV_intro Try.func95 rfl ?_
  have hwl : x.wishes.length ≤ 4194304 := by unfold VRecorder.w wSString at hw; omega
  have g1 := k73 (w.size : Int) 1 100
  have g2 := k124 x.wishes w hwl
  have g3 := k157 x w hw h1 h2
  simp only [VRecorder.c] at g3
  unfold wished mayW
  cases c1 : inR (w.size : Int) 1 100
  · rw [c1] at g1
    simp only [rv0, rv1, rv2, rv3, rv4, rv5, rv6, rv7, rv8, rv9, rv10, rv11, rv12, rv13, rv14, rvE, rvH, rvS, rvI, eT, eQ, ↓reduceIte, Nat.reduceEqDiff, Nat.reduceAdd, Nat.reduceSub, Nat.reduceMul, Nat.reduceLeDiff, Nat.reduceBEq, decide_true, decide_false, reduceCtorEq, Int.reduceLT, Int.reduceNeg, rvN, Nat.reduceLT, Int.reduceLE, Int.reduceEq, eq_self, List.reduceReplicate, rvF, rvG, e95, e73, Try.f95, VRecorder.c, g1]
  rw [c1] at g1
  cases c2 : hasS w x.wishes
  case true =>
    rw [c2] at g2
    simp only [rv0, rv1, rv2, rv3, rv4, rv5, rv6, rv7, rv8, rv9, rv10, rv11, rv12, rv13, rv14, rvE, rvH, rvS, rvI, eT, eQ, ↓reduceIte, Nat.reduceEqDiff, Nat.reduceAdd, Nat.reduceSub, Nat.reduceMul, Nat.reduceLeDiff, Nat.reduceBEq, decide_true, decide_false, reduceCtorEq, Int.reduceLT, Int.reduceNeg, rvN, Nat.reduceLT, Int.reduceLE, Int.reduceEq, eq_self, List.reduceReplicate, rvF, rvG, e95, e73, e124, Try.f95, VRecorder.c, g1, g2, rowsString]
  rw [c2] at g2
  by_cases c3 : (x.wishes.length : Int) < 20
  case neg => simp only [rv0, rv1, rv2, rv3, rv4, rv5, rv6, rv7, rv8, rv9, rv10, rv11, rv12, rv13, rv14, rvE, rvH, rvS, rvI, eT, eQ, ↓reduceIte, Nat.reduceEqDiff, Nat.reduceAdd, Nat.reduceSub, Nat.reduceMul, Nat.reduceLeDiff, Nat.reduceBEq, decide_true, decide_false, reduceCtorEq, Int.reduceLT, Int.reduceNeg, rvN, Nat.reduceLT, Int.reduceLE, Int.reduceEq, eq_self, List.reduceReplicate, rvF, rvG, e95, e73, e124, Try.f95, VRecorder.c, g1, g2, c3, rowsString]
  have hL : x.wishes.length + 1 < 4294967296 := by omega
  cases c4 : hasB2 w (agreed x)
  · rw [c4] at g3
    simp only [rv0, rv1, rv2, rv3, rv4, rv5, rv6, rv7, rv8, rv9, rv10, rv11, rv12, rv13, rv14, rvE, rvH, rvS, rvI, eT, eQ, ↓reduceIte, Nat.reduceEqDiff, Nat.reduceAdd, Nat.reduceSub, Nat.reduceMul, Nat.reduceLeDiff, Nat.reduceBEq, decide_true, decide_false, reduceCtorEq, Int.reduceLT, Int.reduceNeg, rvN, Nat.reduceLT, Int.reduceLE, Int.reduceEq, eq_self, List.reduceReplicate, rvF, rvG, e95, e73, e124, e157, Try.f95, VRecorder.c, g1, g2, g3, c3, hL, LIM, rowsString, List.map_append, List.map_cons, List.map_nil, strC]
  · rw [c4] at g3
    simp only [rv0, rv1, rv2, rv3, rv4, rv5, rv6, rv7, rv8, rv9, rv10, rv11, rv12, rv13, rv14, rvE, rvH, rvS, rvI, eT, eQ, ↓reduceIte, Nat.reduceEqDiff, Nat.reduceAdd, Nat.reduceSub, Nat.reduceMul, Nat.reduceLeDiff, Nat.reduceBEq, decide_true, decide_false, reduceCtorEq, Int.reduceLT, Int.reduceNeg, rvN, Nat.reduceLT, Int.reduceLE, Int.reduceEq, eq_self, List.reduceReplicate, rvF, rvG, e95, e73, e124, e157, Try.f95, VRecorder.c, g1, g2, g3, c3, rowsString]
end Go.Proofs.Ytjcbojcnfdlfaaa
