/- spec.l18Major: what it computes. -/
import Derived.Test.YtnhgopjnnedhdaaMj5m
namespace Go.Proofs.Ytnhgopjnnedhdaa
open Go.Sx
set_option maxRecDepth 100000
set_option maxHeartbeats 16000000
set_option linter.unusedVariables false
set_option linter.unusedSimpArgs false
theorem rec_le {w : VRecWorld} {x : VRecorder} (hw : w.w ≤ 4194304) (hx : x ∈ w.recorders) : x.w ≤ 4194304 ∧ x.safe.slots.length ≤ 4194304 ∧ w.recorders.length ≤ 4194304 := by
  have h1 := wSRecorder_mem hx
  unfold VRecWorld.w wSRecorder at hw
  have h2 : x.w ≤ 4194304 := by omega
  refine ⟨h2, ?_, by omega⟩
  unfold VRecorder.w VRecDisk.w wSRecSlot at h2
  omega
theorem slotK_lt {k : Int} {x : VRecorder} (h : k < 1) : slotK k x = none := by unfold slotK; rw [if_neg (by omega)]
theorem slotK_gt {k : Int} {x : VRecorder} (h : (x.safe.slots.length : Int) < k) : slotK k x = none := by unfold slotK; rw [if_neg (by omega)]
theorem slotK_in {k : Int} {x : VRecorder} (h1 : 1 ≤ k) (h2 : k ≤ x.safe.slots.length) : ∃ s, slotK k x = some s ∧ x.safe.slots[(k - 1).toNat]? = some s := by
  have hlt : (k - 1).toNat < x.safe.slots.length := by omega
  refine ⟨x.safe.slots[(k - 1).toNat], ?_, List.getElem?_eq_getElem hlt⟩
  unfold slotK
  rw [if_pos ⟨h1, h2⟩]
  exact List.getElem?_eq_getElem hlt
theorem cntS_le (k : Int) (s : VRecSlot) (l : List VRecorder) : cntS k s l ≤ l.length := by
  unfold cntS
  exact List.length_filter_le _ _
theorem cntS_cons (k : Int) (s : VRecSlot) (x : VRecorder) (r : List VRecorder) : cntS k s (x :: r) = (if hasK k s x = true then 1 else 0) + cntS k s r := by
  unfold cntS
  rw [List.filter_cons]
  split <;> simp <;> omega
theorem k13 (w : VRecWorld) (k : Int) (hw : w.w ≤ 4194304) : EV Try.prog E 13 [.val 0 true (w.c .shr), .val 0 false [.p (.int .i64 k)]] = some ⟨[(false, [.p (.string (majS k w.recorders w.recorders).1)]), (false, [.p (.bool (majS k w.recorders w.recorders).2)])], []⟩ := by
  refine EV_intro Try.func13 rfl ?_
  have hl : w.recorders.length ≤ 4194304 := by unfold VRecWorld.w wSRecorder at hw; omega
  simp only [rv0, rv1, rvE, rvH, rvS, rvI, eT, eQ, ↓reduceIte, Nat.reduceEqDiff, Nat.reduceAdd, Nat.reduceSub, Nat.reduceMul, Nat.reduceLeDiff, Nat.reduceBEq, decide_true, decide_false, reduceCtorEq, Int.reduceLT, Int.reduceNeg, rvN, Nat.reduceLT, Int.reduceLE, Int.reduceEq, eq_self, List.reduceReplicate, rvF, rvG, e13, Try.f13, VRecWorld.c]
  rw [for_block w.recorders (fun i (_ : Unit) => ⟨3, [(1, .val 0 false [.p (.int .i64 k)]), (2, .box 1 1 (w.c .shr)), (6, .val 2 false [.p (.int .i64 i)])]⟩) (fun _ _ => True)
    (fun r i _ => match majS k w.recorders r with
      | (t, true) => .ret ⟨[(false, [.p (.string t)]), (false, [.p (.bool true)])], []⟩
      | (_, false) => .norm ⟨0, []⟩) ?_ ?_ (a := ()) trivial (by simp only [rv0, rv1, rvE, rvH, rvS, rvI, eT, eQ, ↓reduceIte, Nat.reduceEqDiff, Nat.reduceAdd, Nat.reduceSub, Nat.reduceMul, Nat.reduceLeDiff, Nat.reduceBEq, decide_true, decide_false, reduceCtorEq, Int.reduceLT, Int.reduceNeg, rvN, Nat.reduceLT, Int.reduceLE, Int.reduceEq, eq_self, List.reduceReplicate, rvF, rvG, e13, VRecWorld.c]; try rfl)]
  · have hf := majS_spec k w.recorders w.recorders
    generalize majS k w.recorders w.recorders = q at hf
    obtain ⟨t, b⟩ := q
    cases b
    · have ht : t = eS := by
        rcases hf with ⟨s, _, e⟩ | ⟨e, _⟩
        · cases e
        · exact congrArg Prod.fst e
      subst ht
      simp only [rv0, rv1, rvE, rvH, rvS, rvI, eT, eQ, ↓reduceIte, Nat.reduceEqDiff, Nat.reduceAdd, Nat.reduceSub, Nat.reduceMul, Nat.reduceLeDiff, Nat.reduceBEq, decide_true, decide_false, reduceCtorEq, Int.reduceLT, Int.reduceNeg, rvN, Nat.reduceLT, Int.reduceLE, Int.reduceEq, eq_self, List.reduceReplicate, rvF, rvG, e13, eS]
    · simp only [rv0, rv1, rvE, rvH, rvS, rvI, eT, eQ, ↓reduceIte, Nat.reduceEqDiff, Nat.reduceAdd, Nat.reduceSub, Nat.reduceMul, Nat.reduceLeDiff, Nat.reduceBEq, decide_true, decide_false, reduceCtorEq, Int.reduceLT, Int.reduceNeg, rvN, Nat.reduceLT, Int.reduceLE, Int.reduceEq, eq_self, List.reduceReplicate, rvF, rvG, e13]
  · intro i x r a hd hi _
    have hlen := (List.getElem?_eq_some_iff.1 hi).1
    have hlt : ((i : Int) < (w.recorders.length : Int)) := by omega
    have hr := getElem?_map_some (f := VRecorder.c .shr) hi
    have hi0 : (0 : Int) ≤ (i : Int) := by omega
    have hwi := wrap64 (n := (i : Int) + 1) (by omega) (by omega)
    obtain ⟨_, hsl, _⟩ := rec_le hw (List.mem_of_getElem? hi)
    simp only [VRecorder.c] at hr
    by_cases c1 : k < 1
    · left
      refine ⟨(), ?_, trivial, by rw [majS, slotK_lt c1]⟩
      simp only [rv0, rv1, rvE, rvH, rvS, rvI, eT, eQ, ↓reduceIte, Nat.reduceEqDiff, Nat.reduceAdd, Nat.reduceSub, Nat.reduceMul, Nat.reduceLeDiff, Nat.reduceBEq, decide_true, decide_false, reduceCtorEq, Int.reduceLT, Int.reduceNeg, rvN, Nat.reduceLT, Int.reduceLE, Int.reduceEq, eq_self, List.reduceReplicate, rvF, rvG, e13, VRecWorld.c, hlt, hr, hi0, hwi, c1, i64c]
    by_cases c2 : (x.safe.slots.length : Int) < k
    · left
      refine ⟨(), ?_, trivial, by rw [majS, slotK_gt c2]⟩
      simp only [rv0, rv1, rvE, rvH, rvS, rvI, eT, eQ, ↓reduceIte, Nat.reduceEqDiff, Nat.reduceAdd, Nat.reduceSub, Nat.reduceMul, Nat.reduceLeDiff, Nat.reduceBEq, decide_true, decide_false, reduceCtorEq, Int.reduceLT, Int.reduceNeg, rvN, Nat.reduceLT, Int.reduceLE, Int.reduceEq, eq_self, List.reduceReplicate, rvF, rvG, e13, VRecWorld.c, hlt, hr, hi0, hwi, c1, c2, i64c]
    obtain ⟨s, hs, hsi⟩ := slotK_in (x := x) (by omega : 1 ≤ k) (by omega)
    have hsr := getElem?_map_some (f := VRecSlot.c) hsi
    have hsn : (k - 1).toNat < x.safe.slots.length := by omega
    have hk0 : (0 : Int) ≤ k - 1 := by omega
    have hkw := wrap64 (n := k - 1) (by omega) (by omega)
    simp only [VRecSlot.c] at hsr
    have e0 : majS k w.recorders (x :: r) = if s.ballot = 0 then majS k w.recorders r else if ((w.recorders.length : Int) < 2 * (cntS k s w.recorders : Int)) then (s.text, true) else majS k w.recorders r := by rw [majS, hs]
    by_cases c3 : s.ballot = 0
    · left
      rw [if_pos c3] at e0
      refine ⟨(), ?_, trivial, by rw [e0]⟩
      simp only [rv0, rv1, rvE, rvH, rvS, rvI, eT, eQ, ↓reduceIte, Nat.reduceEqDiff, Nat.reduceAdd, Nat.reduceSub, Nat.reduceMul, Nat.reduceLeDiff, Nat.reduceBEq, decide_true, decide_false, reduceCtorEq, Int.reduceLT, Int.reduceNeg, rvN, Nat.reduceLT, Int.reduceLE, Int.reduceEq, eq_self, List.reduceReplicate, rvF, rvG, e13, VRecWorld.c, hlt, hr, hi0, hwi, c1, c2, c3, hsr, hsn, hk0, hkw, i64c]
    rw [if_neg c3] at e0
    have hcle := cntS_le k s w.recorders
    have loop : ∀ (P : Prop), P → P := fun _ h => h
    have hmw := wrap64 (n := 2 * (cntS k s w.recorders : Int)) (by omega) (by omega)
    have inner : ∀ (X : Option O → Prop), (∀ o, X o) → True := fun _ _ => trivial
    simp only [rv0, rv1, rvE, rvH, rvS, rvI, eT, eQ, ↓reduceIte, Nat.reduceEqDiff, Nat.reduceAdd, Nat.reduceSub, Nat.reduceMul, Nat.reduceLeDiff, Nat.reduceBEq, decide_true, decide_false, reduceCtorEq, Int.reduceLT, Int.reduceNeg, rvN, Nat.reduceLT, Int.reduceLE, Int.reduceEq, eq_self, List.reduceReplicate, rvF, rvG, e13, VRecWorld.c, hlt, hr, hi0, c1, c2, c3, hsr, hsn, hk0, hkw]
    rw [for_block w.recorders (fun j (n : Nat) => ⟨6, [(1, .val 0 false [.p (.int .i64 k)]), (2, .box 1 1 (w.c .shr)), (6, .val 2 false [.p (.int .i64 i)]), (7, .box 3 3 (x.safe.c .shr)), (8, .val 4 false [.p (.int .i64 n)]), (9, .val 5 false [.p (.int .i64 j)])]⟩) (fun j n => n ≤ j)
      (fun q j n => .norm ⟨5, [(1, .val 0 false [.p (.int .i64 k)]), (2, .box 1 1 (w.c .shr)), (6, .val 2 false [.p (.int .i64 i)]), (7, .box 3 3 (x.safe.c .shr)), (8, .val 4 false [.p (.int .i64 ((n + cntS k s q : Nat) : Int))])]⟩) ?_ ?_ (a := 0) (Nat.le_refl _) (by simp only [rv0, rv1, rvE, rvH, rvS, rvI, eT, eQ, ↓reduceIte, Nat.reduceEqDiff, Nat.reduceAdd, Nat.reduceSub, Nat.reduceMul, Nat.reduceLeDiff, Nat.reduceBEq, decide_true, decide_false, reduceCtorEq, Int.reduceLT, Int.reduceNeg, rvN, Nat.reduceLT, Int.reduceLE, Int.reduceEq, eq_self, List.reduceReplicate, rvF, rvG, e13, VRecWorld.c, VRecDisk.c]; try rfl)]
    · rw [Nat.zero_add, e0]
      by_cases c4 : (w.recorders.length : Int) < 2 * (cntS k s w.recorders : Int)
      · right
        rw [if_pos c4]
        simp only [rv0, rv1, rvE, rvH, rvS, rvI, eT, eQ, ↓reduceIte, Nat.reduceEqDiff, Nat.reduceAdd, Nat.reduceSub, Nat.reduceMul, Nat.reduceLeDiff, Nat.reduceBEq, decide_true, decide_false, reduceCtorEq, Int.reduceLT, Int.reduceNeg, rvN, Nat.reduceLT, Int.reduceLE, Int.reduceEq, eq_self, List.reduceReplicate, rvF, rvG, e13, VRecWorld.c, VRecDisk.c, hmw, c4, hsr, hsn, hk0, hkw]
      · left
        rw [if_neg c4]
        refine ⟨(), ?_, trivial, rfl⟩
        simp only [rv0, rv1, rvE, rvH, rvS, rvI, eT, eQ, ↓reduceIte, Nat.reduceEqDiff, Nat.reduceAdd, Nat.reduceSub, Nat.reduceMul, Nat.reduceLeDiff, Nat.reduceBEq, decide_true, decide_false, reduceCtorEq, Int.reduceLT, Int.reduceNeg, rvN, Nat.reduceLT, Int.reduceLE, Int.reduceEq, eq_self, List.reduceReplicate, rvF, rvG, e13, VRecWorld.c, VRecDisk.c, hmw, c4, hwi, i64c]
    · intro j y q n hd2 hj hn
      have hlen2 := (List.getElem?_eq_some_iff.1 hj).1
      have hlt2 : ((j : Int) < (w.recorders.length : Int)) := by omega
      have hr2 := getElem?_map_some (f := VRecorder.c .shr) hj
      have hj0 : (0 : Int) ≤ (j : Int) := by omega
      have hwj := wrap64 (n := (j : Int) + 1) (by omega) (by omega)
      have hwn := wrap64 (n := (n : Int) + 1) (by omega) (by omega)
      have hwn' : IntKind.i64.wrap ((n : Int) + 1) = ((n + 1 : Nat) : Int) := by rw [hwn]; omega
      simp only [VRecorder.c] at hr2
      left
      refine ⟨n + (if hasK k s y = true then 1 else 0), ?_, by split <;> omega, by rw [cntS_cons]; rw [Nat.add_assoc]⟩
      by_cases d1 : k ≤ (y.safe.slots.length : Int)
      · obtain ⟨t, ht, hti⟩ := slotK_in (x := y) (by omega : 1 ≤ k) d1
        have htr := getElem?_map_some (f := VRecSlot.c) hti
        have htn : (k - 1).toNat < y.safe.slots.length := by omega
        simp only [VRecSlot.c] at htr
        have hh : hasK k s y = (decide (t.ballot = s.ballot) && decide (t.text = s.text)) := by unfold hasK; rw [ht]; rfl
        rw [hh]
        cases b1 : decide (t.ballot = s.ballot) <;> cases b2 : decide (t.text = s.text)
        all_goals simp only [rv0, rv1, rvE, rvH, rvS, rvI, eT, eQ, ↓reduceIte, Nat.reduceEqDiff, Nat.reduceAdd, Nat.reduceSub, Nat.reduceMul, Nat.reduceLeDiff, Nat.reduceBEq, decide_true, decide_false, reduceCtorEq, Int.reduceLT, Int.reduceNeg, rvN, Nat.reduceLT, Int.reduceLE, Int.reduceEq, eq_self, List.reduceReplicate, rvF, rvG, e13, VRecWorld.c, VRecDisk.c, hlt2, hr2, hj0, hwj, d1, htr, htn, hsr, hsn, hk0, hkw, b1, b2, hwn', i64c, Bool.and_true, Bool.and_false, Bool.false_eq_true, Nat.add_zero]
      · have hh : hasK k s y = false := by unfold hasK; rw [slotK_gt (by omega)]
        rw [hh]
        simp only [rv0, rv1, rvE, rvH, rvS, rvI, eT, eQ, ↓reduceIte, Nat.reduceEqDiff, Nat.reduceAdd, Nat.reduceSub, Nat.reduceMul, Nat.reduceLeDiff, Nat.reduceBEq, decide_true, decide_false, reduceCtorEq, Int.reduceLT, Int.reduceNeg, rvN, Nat.reduceLT, Int.reduceLE, Int.reduceEq, eq_self, List.reduceReplicate, rvF, rvG, e13, VRecWorld.c, VRecDisk.c, hlt2, hr2, hj0, hwj, d1, i64c, Bool.false_eq_true, Nat.add_zero]
    · intro n _
      have hn : ¬ ((w.recorders.length : Int) < (w.recorders.length : Int)) := by omega
      have hc0 : cntS k s [] = 0 := rfl
      simp only [rv0, rv1, rvE, rvH, rvS, rvI, eT, eQ, ↓reduceIte, Nat.reduceEqDiff, Nat.reduceAdd, Nat.reduceSub, Nat.reduceMul, Nat.reduceLeDiff, Nat.reduceBEq, decide_true, decide_false, reduceCtorEq, Int.reduceLT, Int.reduceNeg, rvN, Nat.reduceLT, Int.reduceLE, Int.reduceEq, eq_self, List.reduceReplicate, rvF, rvG, e13, VRecWorld.c, VRecDisk.c, hn, hc0, Nat.add_zero]
  · intro a _
    have hn : ¬ ((w.recorders.length : Int) < (w.recorders.length : Int)) := by omega
    simp only [rv0, rv1, rvE, rvH, rvS, rvI, eT, eQ, ↓reduceIte, Nat.reduceEqDiff, Nat.reduceAdd, Nat.reduceSub, Nat.reduceMul, Nat.reduceLeDiff, Nat.reduceBEq, decide_true, decide_false, reduceCtorEq, Int.reduceLT, Int.reduceNeg, rvN, Nat.reduceLT, Int.reduceLE, Int.reduceEq, eq_self, List.reduceReplicate, rvF, rvG, e13, VRecWorld.c, hn, majS]
end Go.Proofs.Ytnhgopjnnedhdaa

