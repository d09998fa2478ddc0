/- FnExactRecWish: what the functions compute. -/
import Derived.Test.YtjcbojcnfdlfaaaWi5
import Derived.Test.YtjcbojcnfdlfaaaM5
namespace Go.Proofs.Ytjcbojcnfdlfaaa
open Go.Sx
set_option maxRecDepth 100000
set_option maxHeartbeats 4000000
set_option linter.unusedVariables false
set_option linter.unusedSimpArgs false
def nilRec : VRecorder := ⟨0, 0, false, ⟨0, 0, []⟩, ⟨0, 0, []⟩, [], [], false, false, 0, [], [], [], 0⟩
theorem has_one (w : ByteArray) (hw : 1 ≤ w.size) : ∀ l : List VRecSlot, (∀ s ∈ l, s.ballot ≤ 0 → s.text.size = 0) → hasB1 w l = hasB2 w l
  | [], _ => rfl
  | s :: r, h => by
    have ih := has_one w hw r (fun t ht => h t (List.mem_cons_of_mem _ ht))
    have hs := h s (by simp)
    show ((decide (0 < s.ballot) && decide (s.text = w)) || hasB1 w r) = (decide (s.text = w) || hasB2 w r)
    rw [ih]
    by_cases d : s.text = w
    · have : 0 < s.ballot := by
        rcases Int.lt_or_le 0 s.ballot with h | h
        · exact h
        · have := hs h
          rw [d] at this
          omega
      simp [this, d]
    · simp [d]
theorem k88 (x : VRecorder) (w : ByteArray) (hw : x.w ≤ 4194304) (h1 : 0 ≤ x.disk.known) (h2 : x.disk.known ≤ x.disk.slots.length) (ha : 1 ≤ w.size → hasB1 w (agreed x) = hasB2 w (agreed x)) : EV Try.prog E 88 [.val 0 true (x.c .own), .val 0 false [.p (.string w)]] = some ⟨[(true, (wished x w).c .own)], []⟩ := by
  refine EV_intro Try.func88 rfl ?_
  have hwl : x.wishes.length ≤ 4194304 := by unfold VRecorder.w wSString at hw; omega
  have hal0 : (agreed x).length ≤ x.disk.slots.length := by unfold agreed; rw [List.length_take]; omega
  have hal : (agreed x).length ≤ 4194304 := by unfold VRecorder.w VRecDisk.w wSRecSlot at hw; omega
  have g1 := k151 (agreed x) w hal
  have hm : List.take x.disk.known.toNat (x.disk.slots.map VRecSlot.c) = (agreed x).map VRecSlot.c := by unfold agreed; rw [List.map_take]
  have h3 : x.disk.known.toNat ≤ x.disk.slots.length := by omega
  have h0 : 0 ≤ x.disk.known.toNat := Nat.zero_le _
  have no : mayW x w = false → wished x w = x := fun h => by unfold wished; rw [h]; rfl
  by_cases c1 : (w.size : Int) < 1
  · rw [no (by unfold mayW inR; simp [show ¬ (1 : Int) ≤ w.size by omega])]
    simp only [rv0, rv1, rv2, rv3, rv4, rv5, rv6, rv7, rv8, rv9, rv10, rv11, rv12, rv13, rv14, rvE, rvH, rvS, rvI, eT, eQ, ↓reduceIte, Nat.reduceEqDiff, Nat.reduceAdd, Nat.reduceSub, Nat.reduceMul, Nat.reduceLeDiff, Nat.reduceBEq, decide_true, decide_false, reduceCtorEq, Int.reduceLT, Int.reduceNeg, rvN, Nat.reduceLT, Int.reduceLE, Int.reduceEq, eq_self, List.reduceReplicate, rvF, rvG, e88, Try.f88, VRecorder.c, rowsString, rowsRecSlot, rowsRecMessage, rowsInt, rowsRecAck, c1]
  by_cases c2 : (100 : Int) < (w.size : Int)
  · rw [no (by unfold mayW inR; simp [show ¬ (w.size : Int) ≤ 100 by omega])]
    simp only [rv0, rv1, rv2, rv3, rv4, rv5, rv6, rv7, rv8, rv9, rv10, rv11, rv12, rv13, rv14, rvE, rvH, rvS, rvI, eT, eQ, ↓reduceIte, Nat.reduceEqDiff, Nat.reduceAdd, Nat.reduceSub, Nat.reduceMul, Nat.reduceLeDiff, Nat.reduceBEq, decide_true, decide_false, reduceCtorEq, Int.reduceLT, Int.reduceNeg, rvN, Nat.reduceLT, Int.reduceLE, Int.reduceEq, eq_self, List.reduceReplicate, rvF, rvG, e88, Try.f88, VRecorder.c, rowsString, rowsRecSlot, rowsRecMessage, rowsInt, rowsRecAck, c1, c2]
  by_cases c3 : (20 : Int) ≤ (x.wishes.length : Int)
  · rw [no (by unfold mayW; simp; intros; omega)]
    simp only [rv0, rv1, rv2, rv3, rv4, rv5, rv6, rv7, rv8, rv9, rv10, rv11, rv12, rv13, rv14, rvE, rvH, rvS, rvI, eT, eQ, ↓reduceIte, Nat.reduceEqDiff, Nat.reduceAdd, Nat.reduceSub, Nat.reduceMul, Nat.reduceLeDiff, Nat.reduceBEq, decide_true, decide_false, reduceCtorEq, Int.reduceLT, Int.reduceNeg, rvN, Nat.reduceLT, Int.reduceLE, Int.reduceEq, eq_self, List.reduceReplicate, rvF, rvG, e88, Try.f88, VRecorder.c, rowsString, rowsRecSlot, rowsRecMessage, rowsInt, rowsRecAck, c1, c2, c3]
  cases c4 : hasB1 w (agreed x)
  case true =>
    rw [c4] at g1
    rw [no (by unfold mayW; rw [← ha (by omega), c4]; simp)]
    simp only [rv0, rv1, rv2, rv3, rv4, rv5, rv6, rv7, rv8, rv9, rv10, rv11, rv12, rv13, rv14, rvE, rvH, rvS, rvI, eT, eQ, ↓reduceIte, Nat.reduceEqDiff, Nat.reduceAdd, Nat.reduceSub, Nat.reduceMul, Nat.reduceLeDiff, Nat.reduceBEq, decide_true, decide_false, reduceCtorEq, Int.reduceLT, Int.reduceNeg, rvN, Nat.reduceLT, Int.reduceLE, Int.reduceEq, eq_self, List.reduceReplicate, rvF, rvG, e88, e151, Try.f88, VRecorder.c, rowsString, rowsRecSlot, rowsRecMessage, rowsInt, rowsRecAck, c1, c2, c3, h1, h3, h0, hm, Nat.sub_zero, g1]
  rw [c4] at g1
  have hmay : mayW x w = !hasS w x.wishes := by
    unfold mayW inR
    rw [← ha (by omega), c4]
    simp [show (1 : Int) ≤ w.size by omega, show (w.size : Int) ≤ 100 by omega]
    intros; omega
  simp only [rv0, rv1, rv2, rv3, rv4, rv5, rv6, rv7, rv8, rv9, rv10, rv11, rv12, rv13, rv14, rvE, rvH, rvS, rvI, eT, eQ, ↓reduceIte, Nat.reduceEqDiff, Nat.reduceAdd, Nat.reduceSub, Nat.reduceMul, Nat.reduceLeDiff, Nat.reduceBEq, decide_true, decide_false, reduceCtorEq, Int.reduceLT, Int.reduceNeg, rvN, Nat.reduceLT, Int.reduceLE, Int.reduceEq, eq_self, List.reduceReplicate, rvF, rvG, e88, e151, Try.f88, VRecorder.c, rowsString, rowsRecSlot, rowsRecMessage, rowsInt, rowsRecAck, c1, c2, c3, h1, h3, h0, hm, Nat.sub_zero, g1]
  rw [for_block x.wishes (fun i (_ : Unit) => ⟨4, [(1, .val 0 false [.p (.string w)]), (2, .box 1 1 (x.c .own)), (4, .box 2 2 (nilRec.c .own)), (5, .val 3 false [.p (.int .i64 i)])]⟩) (fun i _ => True)
    (fun r i a => if hasS w r = true then .ret ⟨[(true, x.c .own)], []⟩ else .norm ⟨3, [(1, .val 0 false [.p (.string w)]), (2, .box 1 1 (x.c .own)), (4, .box 2 2 (nilRec.c .own))]⟩) ?_ ?_ (a := ()) trivial (by simp only [rv0, rv1, rv2, rv3, rv4, rv5, rv6, rv7, rv8, rv9, rv10, rv11, rv12, rv13, rv14, rvE, rvH, rvS, rvI, eT, eQ, ↓reduceIte, Nat.reduceEqDiff, Nat.reduceAdd, Nat.reduceSub, Nat.reduceMul, Nat.reduceLeDiff, Nat.reduceBEq, decide_true, decide_false, reduceCtorEq, Int.reduceLT, Int.reduceNeg, rvN, Nat.reduceLT, Int.reduceLE, Int.reduceEq, eq_self, List.reduceReplicate, rvF, rvG, e88, VRecorder.c, nilRec, List.map_nil]; rfl)]
  · have hL : x.wishes.length + 1 < 4294967296 := by omega
    cases h : hasS w x.wishes
    · rw [h] at hmay
      unfold wished
      rw [hmay]
      simp only [rv0, rv1, rv2, rv3, rv4, rv5, rv6, rv7, rv8, rv9, rv10, rv11, rv12, rv13, rv14, rvE, rvH, rvS, rvI, eT, eQ, ↓reduceIte, Nat.reduceEqDiff, Nat.reduceAdd, Nat.reduceSub, Nat.reduceMul, Nat.reduceLeDiff, Nat.reduceBEq, decide_true, decide_false, reduceCtorEq, Int.reduceLT, Int.reduceNeg, rvN, Nat.reduceLT, Int.reduceLE, Int.reduceEq, eq_self, List.reduceReplicate, rvF, rvG, e88, VRecorder.c, hL, LIM, rowsString, rowsRecSlot, rowsRecMessage, rowsInt, rowsRecAck, List.map_append, List.map_cons, List.map_nil, strC, nilRec, Bool.not_false]
    · rw [h] at hmay
      rw [no hmay]
      simp only [rv0, rv1, rv2, rv3, rv4, rv5, rv6, rv7, rv8, rv9, rv10, rv11, rv12, rv13, rv14, rvE, rvH, rvS, rvI, eT, eQ, ↓reduceIte, Nat.reduceEqDiff, Nat.reduceAdd, Nat.reduceSub, Nat.reduceMul, Nat.reduceLeDiff, Nat.reduceBEq, decide_true, decide_false, reduceCtorEq, Int.reduceLT, Int.reduceNeg, rvN, Nat.reduceLT, Int.reduceLE, Int.reduceEq, eq_self, List.reduceReplicate, rvF, rvG, e88, VRecorder.c, rowsString, rowsRecSlot, rowsRecMessage, rowsInt, rowsRecAck]
  · intro i s r a hd hi _
    have hlen := (List.getElem?_eq_some_iff.1 hi).1
    have hlt : ((i : Int) < (x.wishes.length : Int)) := by omega
    have hr := getElem?_map_some (f := strC) hi
    have hi0 : (0 : Int) ≤ (i : Int) := by omega
    have hwi := wrap64 (n := (i : Int) + 1) (by omega) (by omega)
    simp only [strC] at hr
    have hE : hasS w (s :: r) = (decide (w = s) || hasS w r) := rfl
    by_cases d2 : s = w
    · right
      have d2' := eq_true d2
      rw [decide_eq_true d2.symm, Bool.true_or] at hE
      simp only [rv0, rv1, rv2, rv3, rv4, rv5, rv6, rv7, rv8, rv9, rv10, rv11, rv12, rv13, rv14, rvE, rvH, rvS, rvI, eT, eQ, ↓reduceIte, Nat.reduceEqDiff, Nat.reduceAdd, Nat.reduceSub, Nat.reduceMul, Nat.reduceLeDiff, Nat.reduceBEq, decide_true, decide_false, reduceCtorEq, Int.reduceLT, Int.reduceNeg, rvN, Nat.reduceLT, Int.reduceLE, Int.reduceEq, eq_self, List.reduceReplicate, rvF, rvG, e88, VRecorder.c, rowsString, rowsRecSlot, rowsRecMessage, rowsInt, rowsRecAck, nilRec, List.map_nil, hlt, hr, hi0, hlen, d2', hE]
    · left
      rw [decide_eq_false (fun e => d2 e.symm), Bool.false_or] at hE
      refine ⟨(), ?_, trivial, by rw [hE]⟩
      simp only [rv0, rv1, rv2, rv3, rv4, rv5, rv6, rv7, rv8, rv9, rv10, rv11, rv12, rv13, rv14, rvE, rvH, rvS, rvI, eT, eQ, ↓reduceIte, Nat.reduceEqDiff, Nat.reduceAdd, Nat.reduceSub, Nat.reduceMul, Nat.reduceLeDiff, Nat.reduceBEq, decide_true, decide_false, reduceCtorEq, Int.reduceLT, Int.reduceNeg, rvN, Nat.reduceLT, Int.reduceLE, Int.reduceEq, eq_self, List.reduceReplicate, rvF, rvG, e88, VRecorder.c, nilRec, List.map_nil, hlt, hr, hi0, hlen, d2, hwi, i64c]
  · intro a _
    simp only [rv0, rv1, rv2, rv3, rv4, rv5, rv6, rv7, rv8, rv9, rv10, rv11, rv12, rv13, rv14, rvE, rvH, rvS, rvI, eT, eQ, ↓reduceIte, Nat.reduceEqDiff, Nat.reduceAdd, Nat.reduceSub, Nat.reduceMul, Nat.reduceLeDiff, Nat.reduceBEq, decide_true, decide_false, reduceCtorEq, Int.reduceLT, Int.reduceNeg, rvN, Nat.reduceLT, Int.reduceLE, Int.reduceEq, eq_self, List.reduceReplicate, rvF, rvG, e88, VRecorder.c, nilRec, List.map_nil, hasS]
theorem valid_agreed {x : VRecorder} (h : valid x = true) (w : ByteArray) (hw : 1 ≤ w.size) : hasB1 w (agreed x) = hasB2 w (agreed x) := by
  refine has_one w hw _ (fun s hs hb => ?_)
  have hs2 : s ∈ x.disk.slots := List.mem_of_mem_take hs
  simp only [valid, diskOk, slotsOk, Bool.and_eq_true] at h
  obtain ⟨_, _, _, ⟨_, ⟨_, h⟩, _⟩, _⟩ := h
  have := List.all_eq_true.1 h s hs2
  simp only [slotOk, inR, Bool.and_eq_true, decide_eq_true_eq, Bool.not_eq_true', Bool.and_eq_false_iff, decide_eq_false_iff_not, Bool.not_eq_false] at this
  obtain ⟨⟨h1, _⟩, _, h3⟩ := this
  rcases h3 with h3 | h3
  · exact absurd (by omega) h3
  · have h3 : s.text = ⟨#[]⟩ := by simpa using h3
    rw [h3]
    rfl
theorem wished_w (x : VRecorder) (w : ByteArray) : (wished x w).w ≤ x.w + (w.size + 1) := by
  unfold wished
  split
  · unfold VRecorder.w wSString
    have h : ∀ a b : List ByteArray, sumWString (a ++ b) = sumWString a + sumWString b := by
      intro a b
      induction a with
      | nil => simp [sumWString]
      | cons c a ih => simp only [List.cons_append, sumWString, ih]; omega
    simp only [h, List.length_append, List.length_singleton, sumWString]
    omega
  · omega
/-- What RecWish answers. -/
def wishB (x : VRecorder) (w : ByteArray) : VRecorder := if valid x = true then (if x.up = true then wished x w else x) else nilRec
theorem nilRec_w : nilRec.w = 0 := by simp [VRecorder.w, VRecDisk.w, nilRec, wSRecSlot, wSRecMessage, wSString, wSRecAck, wSInt, sumWRecSlot, sumWRecMessage, sumWString, sumWRecAck]
theorem wishB_w (x : VRecorder) (w : ByteArray) : (wishB x w).w ≤ x.w + (w.size + 1) := by
  unfold wishB
  split
  · split
    · exact wished_w x w
    · omega
  · rw [nilRec_w]; omega
theorem k32 (x : VRecorder) (w : ByteArray) (hw : x.w + (w.size + 1) ≤ 4194304) : EV Try.prog E 32 [.val 0 true (x.c .shr), .val 0 false [.p (.string w)]] = some ⟨[(true, (wishB x w).c .own)], []⟩ := by
  refine EV_intro Try.func32 rfl ?_
  have g1 := k44 x (by omega)
  have g2 := k87 x (by omega)
  unfold wishB
  cases d : valid x
  · rw [d] at g1
    simp only [VRecorder.c] at g1
    simp only [rv0, rv1, rv2, rv3, rv4, rv5, rv6, rv7, rv8, rv9, rv10, rv11, rv12, rv13, rv14, rvE, rvH, rvS, rvI, eT, eQ, ↓reduceIte, Nat.reduceEqDiff, Nat.reduceAdd, Nat.reduceSub, Nat.reduceMul, Nat.reduceLeDiff, Nat.reduceBEq, decide_true, decide_false, reduceCtorEq, Int.reduceLT, Int.reduceNeg, rvN, Nat.reduceLT, Int.reduceLE, Int.reduceEq, eq_self, List.reduceReplicate, rvF, rvG, e32, e44, Try.f32, VRecorder.c, g1, nilRec, List.map_nil]
  rw [d] at g1
  obtain ⟨h1, h2⟩ := valid_known d
  have g3 := k88 x w (by omega) h1 h2 (valid_agreed d w)
  have hww := wished_w x w
  have g4 := k87 (wished x w) (by omega)
  generalize wished x w = y at *
  simp only [VRecorder.c] at g1 g2 g3 g4
  cases d2 : x.up
  · rw [d2] at g1 g2 g3
    simp only [rv0, rv1, rv2, rv3, rv4, rv5, rv6, rv7, rv8, rv9, rv10, rv11, rv12, rv13, rv14, rvE, rvH, rvS, rvI, eT, eQ, ↓reduceIte, Nat.reduceEqDiff, Nat.reduceAdd, Nat.reduceSub, Nat.reduceMul, Nat.reduceLeDiff, Nat.reduceBEq, decide_true, decide_false, reduceCtorEq, Int.reduceLT, Int.reduceNeg, rvN, Nat.reduceLT, Int.reduceLE, Int.reduceEq, eq_self, List.reduceReplicate, rvF, rvG, e32, e44, e87, Try.f32, VRecorder.c, g1, g2, d2, rowsString, rowsRecSlot, rowsRecMessage, rowsInt, rowsRecAck]
  · rw [d2] at g2 g1 g3
    simp only [rv0, rv1, rv2, rv3, rv4, rv5, rv6, rv7, rv8, rv9, rv10, rv11, rv12, rv13, rv14, rvE, rvH, rvS, rvI, eT, eQ, ↓reduceIte, Nat.reduceEqDiff, Nat.reduceAdd, Nat.reduceSub, Nat.reduceMul, Nat.reduceLeDiff, Nat.reduceBEq, decide_true, decide_false, reduceCtorEq, Int.reduceLT, Int.reduceNeg, rvN, Nat.reduceLT, Int.reduceLE, Int.reduceEq, eq_self, List.reduceReplicate, rvF, rvG, e32, e44, e87, e88, Try.f32, VRecorder.c, g1, g2, g3, g4, d2, rowsString, rowsRecSlot, rowsRecMessage, rowsInt, rowsRecAck]
theorem k34 (x : VRecorder) (w : ByteArray) (hw : x.w + (w.size + 1) ≤ 4194304) : EV Try.prog E 34 [.val 0 true (x.c .shr), .val 0 false [.p (.string w)]] = some ⟨[(true, (wishB x w).c .own)], []⟩ := by
  refine EV_intro Try.func34 rfl ?_
  have g1 := k45 x (by omega)
  have g2 := k94 x (by omega)
  unfold wishB
  cases d : valid x
  · rw [d] at g1
    simp only [VRecorder.c] at g1
    simp only [rv0, rv1, rv2, rv3, rv4, rv5, rv6, rv7, rv8, rv9, rv10, rv11, rv12, rv13, rv14, rvE, rvH, rvS, rvI, eT, eQ, ↓reduceIte, Nat.reduceEqDiff, Nat.reduceAdd, Nat.reduceSub, Nat.reduceMul, Nat.reduceLeDiff, Nat.reduceBEq, decide_true, decide_false, reduceCtorEq, Int.reduceLT, Int.reduceNeg, rvN, Nat.reduceLT, Int.reduceLE, Int.reduceEq, eq_self, List.reduceReplicate, rvF, rvG, e34, e45, Try.f34, VRecorder.c, g1, nilRec, List.map_nil]
  rw [d] at g1
  obtain ⟨h1, h2⟩ := valid_known d
  have g3 := k95 x w (by omega) h1 h2
  generalize wished x w = y at *
  simp only [VRecorder.c] at g1 g2 g3
  cases d2 : x.up
  · rw [d2] at g1 g2 g3
    simp only [rv0, rv1, rv2, rv3, rv4, rv5, rv6, rv7, rv8, rv9, rv10, rv11, rv12, rv13, rv14, rvE, rvH, rvS, rvI, eT, eQ, ↓reduceIte, Nat.reduceEqDiff, Nat.reduceAdd, Nat.reduceSub, Nat.reduceMul, Nat.reduceLeDiff, Nat.reduceBEq, decide_true, decide_false, reduceCtorEq, Int.reduceLT, Int.reduceNeg, rvN, Nat.reduceLT, Int.reduceLE, Int.reduceEq, eq_self, List.reduceReplicate, rvF, rvG, e34, e45, e94, Try.f34, VRecorder.c, g1, g2, d2, rowsString, rowsRecSlot, rowsRecMessage, rowsInt, rowsRecAck]
  · rw [d2] at g2 g1 g3
    simp only [rv0, rv1, rv2, rv3, rv4, rv5, rv6, rv7, rv8, rv9, rv10, rv11, rv12, rv13, rv14, rvE, rvH, rvS, rvI, eT, eQ, ↓reduceIte, Nat.reduceEqDiff, Nat.reduceAdd, Nat.reduceSub, Nat.reduceMul, Nat.reduceLeDiff, Nat.reduceBEq, decide_true, decide_false, reduceCtorEq, Int.reduceLT, Int.reduceNeg, rvN, Nat.reduceLT, Int.reduceLE, Int.reduceEq, eq_self, List.reduceReplicate, rvF, rvG, e34, e45, e94, e95, Try.f34, VRecorder.c, g1, g2, g3, d2, rowsString, rowsRecSlot, rowsRecMessage, rowsInt, rowsRecAck]
end Go.Proofs.Ytjcbojcnfdlfaaa
