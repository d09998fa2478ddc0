/- FnExactRecBook: what the functions compute. -/
import Derived.Test.YtjcbojcnfdlfaaaW2D
namespace Go.Proofs.Ytjcbojcnfdlfaaa
open Go.Sx
set_option maxRecDepth 100000
set_option linter.unusedVariables false
set_option linter.unusedSimpArgs false
def texts (l : List VRecSlot) : List ByteArray := l.map (·.text)
def agreed (x : VRecorder) : List VRecSlot := x.disk.slots.take x.disk.known.toNat
def book (x : VRecorder) : List ByteArray := if valid x = true then texts (agreed x) else []
theorem valid_known {x : VRecorder} (h : valid x = true) : 0 ≤ x.disk.known ∧ x.disk.known ≤ x.disk.slots.length := by
  simp only [valid, diskOk, inR, Bool.and_eq_true, decide_eq_true_eq] at h
  obtain ⟨_, _, _, ⟨_, _, h, _⟩, _⟩ := h
  exact h
theorem texts_take {l : List VRecSlot} {i : Nat} {s : VRecSlot} (h : l[i]? = some s) : (texts (l.take (i + 1))).map strC = (texts (l.take i)).map strC ++ [[.p (.string s.text)]] := by
  rw [List.take_add_one, h]
  simp [texts, strC]
theorem texts_length (l : List VRecSlot) : (texts l).length = l.length := by simp [texts]
theorem k51 (x : VRecorder) (hw : x.w ≤ 4194304) : EV Try.prog E 51 [.val 0 true (x.c .shr)] = some ⟨[(false, [.sl .own 1 ((book x).map strC)])], []⟩ := by
  refine EV_intro Try.func51 rfl ?_
  have h17 := k44 x hw
  simp only [VRecorder.c] at h17
  unfold book
  cases d : valid x
  · simp only [rv0, rv1, rvE, rvH, rvS, rvI, eT, eQ, ↓reduceIte, Nat.reduceEqDiff, Nat.reduceAdd, Nat.reduceSub, Nat.reduceMul, Nat.reduceLeDiff, Nat.reduceBEq, decide_true, decide_false, reduceCtorEq, Int.reduceLT, Int.reduceNeg, rvN, Nat.reduceLT, Int.reduceLE, Int.reduceEq, eq_self, List.reduceReplicate, rvF, rvG, e51, e44, Try.f51, VRecorder.c, h17, d, List.map_nil]
  · obtain ⟨h1, h2⟩ := valid_known d
    have hsl : x.disk.slots.length ≤ 4194304 := by unfold VRecorder.w VRecDisk.w wSRecSlot at hw; omega
    have hal : ((agreed x).length : Int) = x.disk.known := by unfold agreed; simp; omega
    simp only [rv0, rv1, rvE, rvH, rvS, rvI, eT, eQ, ↓reduceIte, Nat.reduceEqDiff, Nat.reduceAdd, Nat.reduceSub, Nat.reduceMul, Nat.reduceLeDiff, Nat.reduceBEq, decide_true, decide_false, reduceCtorEq, Int.reduceLT, Int.reduceNeg, rvN, Nat.reduceLT, Int.reduceLE, Int.reduceEq, eq_self, List.reduceReplicate, rvF, rvG, e51, e44, Try.f51, VRecorder.c, h17, d]
    rw [for_block (agreed x) (fun i (_ : Unit) => ⟨3, [(1, .box 0 0 (x.c .shr)), (3, .val 1 false [.sl .own 1 ((texts ((agreed x).take i)).map strC)]), (4, .val 2 false [.p (.int .i64 i)])]⟩) (fun i _ => True)
      (fun r i a => .norm ⟨1, [(3, .val 0 false [.sl .own 1 ((texts (agreed x)).map strC)])]⟩) ?_ ?_ (a := ()) trivial (by simp only [rv0, rv1, rvE, rvH, rvS, rvI, eT, eQ, ↓reduceIte, Nat.reduceEqDiff, Nat.reduceAdd, Nat.reduceSub, Nat.reduceMul, Nat.reduceLeDiff, Nat.reduceBEq, decide_true, decide_false, reduceCtorEq, Int.reduceLT, Int.reduceNeg, rvN, Nat.reduceLT, Int.reduceLE, Int.reduceEq, eq_self, List.reduceReplicate, rvF, rvG, e51, VRecorder.c, List.take_zero, texts, List.map_nil]; rfl)]
    · simp only [rv0, rv1, rvE, rvH, rvS, rvI, eT, eQ, ↓reduceIte, Nat.reduceEqDiff, Nat.reduceAdd, Nat.reduceSub, Nat.reduceMul, Nat.reduceLeDiff, Nat.reduceBEq, decide_true, decide_false, reduceCtorEq, Int.reduceLT, Int.reduceNeg, rvN, Nat.reduceLT, Int.reduceLE, Int.reduceEq, eq_self, List.reduceReplicate, rvF, rvG, e51, rowsString]
    · intro i s r a hd hi _
      have hlen := (List.getElem?_eq_some_iff.1 hi).1
      have hlt : (i : Int) < x.disk.known := by omega
      have hi2 : x.disk.slots[i]? = some s := by
        unfold agreed at hi
        rw [List.getElem?_take] at hi
        split at hi
        · exact hi
        · cases hi
      have hl2 := (List.getElem?_eq_some_iff.1 hi2).1
      have hr := getElem?_map_some (f := VRecSlot.c) hi2
      have hwi := wrap64 (n := (i : Int) + 1) (by omega) (by omega)
      have hi0 : (0 : Int) ≤ (i : Int) := by omega
      have hL : ((texts ((agreed x).take i)).map strC).length + 1 < 4294967296 := by rw [List.length_map, texts_length, List.length_take]; omega
      have hL2 : (texts ((agreed x).take i)).length + 1 < 4294967296 := by rw [texts_length, List.length_take]; omega
      have ht := texts_take hi
      simp only [VRecSlot.c] at hr
      left
      refine ⟨(), ?_, trivial, rfl⟩
      rw [ht]
      simp only [rv0, rv1, rvE, rvH, rvS, rvI, eT, eQ, ↓reduceIte, Nat.reduceEqDiff, Nat.reduceAdd, Nat.reduceSub, Nat.reduceMul, Nat.reduceLeDiff, Nat.reduceBEq, decide_true, decide_false, reduceCtorEq, Int.reduceLT, Int.reduceNeg, rvN, Nat.reduceLT, Int.reduceLE, Int.reduceEq, eq_self, List.reduceReplicate, rvF, rvG, e51, VRecorder.c, hlt, hr, hwi, hi0, hL, hL2, LIM, hlen, hl2, i64c, rowsString]
    · intro a _
      have hge : ¬ (((agreed x).length : Int) < x.disk.known) := by omega
      simp only [rv0, rv1, rvE, rvH, rvS, rvI, eT, eQ, ↓reduceIte, Nat.reduceEqDiff, Nat.reduceAdd, Nat.reduceSub, Nat.reduceMul, Nat.reduceLeDiff, Nat.reduceBEq, decide_true, decide_false, reduceCtorEq, Int.reduceLT, Int.reduceNeg, rvN, Nat.reduceLT, Int.reduceLE, Int.reduceEq, eq_self, List.reduceReplicate, rvF, rvG, e51, VRecorder.c, hge, List.take_length]
theorem k129r (x : VRecorder) (hw : x.w ≤ 4194304) (h1 : 0 ≤ x.disk.known) (h2 : x.disk.known ≤ x.disk.slots.length) : EV Try.prog E 129 [.rp (x.c .shr)] = some ⟨[(false, [.sl .own 1 ((texts (agreed x)).map strC)])], []⟩ := by
  refine EV_intro Try.func129 rfl ?_
  have hsl : x.disk.slots.length ≤ 4194304 := by unfold VRecorder.w VRecDisk.w wSRecSlot at hw; omega
  have hal : ((agreed x).length : Int) = x.disk.known := by unfold agreed; simp; omega
  have hm : List.take x.disk.known.toNat (x.disk.slots.map VRecSlot.c) = (agreed x).map VRecSlot.c := by unfold agreed; rw [List.map_take]
  have h3 : x.disk.known.toNat ≤ x.disk.slots.length := by omega
  have h0 : 0 ≤ x.disk.known.toNat := Nat.zero_le _
  simp only [rv0, rv1, rvE, rvH, rvS, rvI, eT, eQ, ↓reduceIte, Nat.reduceEqDiff, Nat.reduceAdd, Nat.reduceSub, Nat.reduceMul, Nat.reduceLeDiff, Nat.reduceBEq, decide_true, decide_false, reduceCtorEq, Int.reduceLT, Int.reduceNeg, rvN, Nat.reduceLT, Int.reduceLE, Int.reduceEq, eq_self, List.reduceReplicate, rvF, rvG, e129, Try.f129, VRecorder.c, h1, h3, h0, hm, Nat.sub_zero]
  rw [for_block (agreed x) (fun i (_ : Unit) => ⟨5, [(0, .rp (x.c .shr)), (3, .val 1 false [.sl .own 1 ((texts ((agreed x).take i)).map strC)]), (16, .val 2 false [.sl .shr 2 ((agreed x).map VRecSlot.c)]), (17, .val 3 false [.p (.int .i64 (agreed x).length)]), (18, .val 4 false [.p (.int .i64 i)])]⟩) (fun i _ => True)
      (fun r i a => .norm ⟨2, [(0, .rp (x.c .shr)), (3, .val 1 false [.sl .own 1 ((texts (agreed x)).map strC)])]⟩) ?_ ?_ (a := ()) trivial (by simp only [rv0, rv1, rvE, rvH, rvS, rvI, eT, eQ, ↓reduceIte, Nat.reduceEqDiff, Nat.reduceAdd, Nat.reduceSub, Nat.reduceMul, Nat.reduceLeDiff, Nat.reduceBEq, decide_true, decide_false, reduceCtorEq, Int.reduceLT, Int.reduceNeg, rvN, Nat.reduceLT, Int.reduceLE, Int.reduceEq, eq_self, List.reduceReplicate, rvF, rvG, e129, VRecorder.c, List.take_zero, texts, List.map_nil]; rfl)]
  · simp only [rv0, rv1, rvE, rvH, rvS, rvI, eT, eQ, ↓reduceIte, Nat.reduceEqDiff, Nat.reduceAdd, Nat.reduceSub, Nat.reduceMul, Nat.reduceLeDiff, Nat.reduceBEq, decide_true, decide_false, reduceCtorEq, Int.reduceLT, Int.reduceNeg, rvN, Nat.reduceLT, Int.reduceLE, Int.reduceEq, eq_self, List.reduceReplicate, rvF, rvG, e129, VRecorder.c, rowsString]
  · intro i s r a hd hi _
    have hlen := (List.getElem?_eq_some_iff.1 hi).1
    have hlt : (i : Int) < ((agreed x).length : Int) := by omega
    have hr := getElem?_map_some (f := VRecSlot.c) hi
    have hwi := wrap64 (n := (i : Int) + 1) (by omega) (by omega)
    have hi0 : (0 : Int) ≤ (i : Int) := by omega
    have hL : (texts ((agreed x).take i)).length + 1 < 4294967296 := by rw [texts_length, List.length_take]; omega
    have ht := texts_take hi
    simp only [VRecSlot.c] at hr
    left
    refine ⟨(), ?_, trivial, rfl⟩
    rw [ht]
    simp only [rv0, rv1, rvE, rvH, rvS, rvI, eT, eQ, ↓reduceIte, Nat.reduceEqDiff, Nat.reduceAdd, Nat.reduceSub, Nat.reduceMul, Nat.reduceLeDiff, Nat.reduceBEq, decide_true, decide_false, reduceCtorEq, Int.reduceLT, Int.reduceNeg, rvN, Nat.reduceLT, Int.reduceLE, Int.reduceEq, eq_self, List.reduceReplicate, rvF, rvG, e129, VRecorder.c, hlt, hr, hwi, hi0, hL, LIM, hlen, i64c, rowsString]
  · intro a _
    simp only [rv0, rv1, rvE, rvH, rvS, rvI, eT, eQ, ↓reduceIte, Nat.reduceEqDiff, Nat.reduceAdd, Nat.reduceSub, Nat.reduceMul, Nat.reduceLeDiff, Nat.reduceBEq, decide_true, decide_false, reduceCtorEq, Int.reduceLT, Int.reduceNeg, rvN, Nat.reduceLT, Int.reduceLE, Int.reduceEq, eq_self, List.reduceReplicate, rvF, rvG, e129, VRecorder.c, List.take_length]
end Go.Proofs.Ytjcbojcnfdlfaaa

