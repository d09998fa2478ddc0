/- (*impl.RecWorld).major: what it computes. -/
import Derived.Test.YtnhgopjnnedhdaaAh5m
namespace Go.Proofs.Ytnhgopjnnedhdaa
open Go.Sx
set_option maxRecDepth 100000
set_option maxHeartbeats 32000000
set_option linter.unusedVariables false
set_option linter.unusedSimpArgs false
def rowM (q : VRecSlot × Int) : List C := [.p (.int .i64 q.1.ballot), .p (.string q.1.text), .p (.int .i64 q.2)]
theorem find_M (M : List (VRecSlot × Int)) (s : VRecSlot) : findR [.int .i64 s.ballot, .string s.text] 2 (M.map rowM) = some (fstR (fun q => eqS s q.1) rowM M) := by
  refine findR_map (key := fun q => [.int .i64 q.1.ballot, .string q.1.text]) (fun x => rfl) (fun x => ?_) M
  have hb : ∀ b, Go.Sx.asBool (.bool b) = some b := fun _ => rfl
  simp only [eqVals, bin, if_true, bnd, intBin, strBin, hb, eqS, Bool.and_true]
theorem cnt_find {M : List (VRecSlot × Int)} {s : VRecSlot} {x : VRecSlot × Int} (h : M.find? (fun q => eqS s q.1) = some x) : cntM M s = x.2 := by unfold cntM; rw [h]
theorem find_add (M : List (VRecSlot × Int)) (s : VRecSlot) (h0 : 0 ≤ cntM M s) : ∃ j, findR [.int .i64 s.ballot, .string s.text] 2 ((addM M s).map rowM) = some (some (j, rowM (s, cntM M s + 1))) := by
  rw [find_M]
  have hc := cntM_add M s s
  rw [if_pos rfl] at hc
  rcases fstR_cases (fun q : VRecSlot × Int => eqS s q.1) rowM (addM M s) with ⟨h1, h2⟩ | ⟨j, x, h1, h2, h3, h4, h5⟩
  · unfold cntM at hc
    rw [h1] at hc
    simp only at hc
    unfold cntM at h0
    omega
  · refine ⟨j, ?_⟩
    have e1 := cnt_find h1
    rw [hc] at e1
    have e2 := eqS_iff.1 h3
    rw [h5]
    obtain ⟨a, b⟩ := x
    simp only at e1 e2
    rw [e1, ← e2]
theorem k18 (w : VRecWorld) (k : Int) (hw : w.w ≤ 4194304) : EV Try.prog E 18 [.box 0 0 (w.c .shr), .val 0 false [.p (.int .i64 k)]] = some ⟨[(false, [.p (.string (majI k w.recorders.length w.recorders []).1)]), (false, [.p (.bool (majI k w.recorders.length w.recorders []).2)])], [w.c .shr]⟩ := by
  refine EV_intro Try.func18 rfl ?_
  have hl : w.recorders.length ≤ 4194304 := by unfold VRecWorld.w wSRecorder at hw; omega
  simp only [rv0, rv1, rvE, rvH, rvS, rvI, eT, eQ, ↓reduceIte, Nat.reduceEqDiff, Nat.reduceAdd, Nat.reduceSub, Nat.reduceMul, Nat.reduceLeDiff, Nat.reduceBEq, decide_true, decide_false, reduceCtorEq, Int.reduceLT, Int.reduceNeg, rvN, Nat.reduceLT, Int.reduceLE, Int.reduceEq, eq_self, List.reduceReplicate, rvF, rvG, e18, Try.f18, VRecWorld.c]
  rw [for_block w.recorders (fun i (M : List (VRecSlot × Int)) => ⟨6, [(0, .box 0 0 (w.c .shr)), (1, .val 1 false [.p (.int .i64 k)]), (6, .val 2 false [.mp .own 0 true false 2 (M.map rowM)]), (14, .val 3 false [.sl .shr 18 (w.recorders.map (VRecorder.c .shr))]), (15, .val 4 false [.p (.int .i64 w.recorders.length)]), (16, .val 5 false [.p (.int .i64 i)])]⟩) (fun i M => ∀ s, 0 ≤ cntM M s ∧ cntM M s ≤ (i : Int))
    (fun r i M => match majI k w.recorders.length r M with
      | (t, true) => .ret ⟨[(false, [.p (.string t)]), (false, [.p (.bool true)])], [w.c .shr]⟩
      | (_, false) => .norm ⟨1, [(0, .box 0 0 (w.c .shr))]⟩) ?_ ?_ (a := []) (fun s => by simp [cntM]) (by simp only [rv0, rv1, rvE, rvH, rvS, rvI, eT, eQ, ↓reduceIte, Nat.reduceEqDiff, Nat.reduceAdd, Nat.reduceSub, Nat.reduceMul, Nat.reduceLeDiff, Nat.reduceBEq, decide_true, decide_false, reduceCtorEq, Int.reduceLT, Int.reduceNeg, rvN, Nat.reduceLT, Int.reduceLE, Int.reduceEq, eq_self, List.reduceReplicate, rvF, rvG, e18, VRecWorld.c, List.map_nil]; try rfl)]
  · have hf : ∀ (l : List VRecorder) (M : List (VRecSlot × Int)), (majI k w.recorders.length l M).2 = false → (majI k w.recorders.length l M).1 = eS := by
      intro l
      induction l with
      | nil => intro M _; rfl
      | cons x r ih =>
        intro M
        rw [majI]
        split
        · exact ih M
        · split
          · intro h; cases h
          · exact ih _
    have hf := hf w.recorders []
    generalize majI k w.recorders.length w.recorders [] = q at hf
    obtain ⟨t, b⟩ := q
    cases b
    · have ht : t = eS := hf rfl
      subst ht
      simp only [rv0, rv1, rvE, rvH, rvS, rvI, eT, eQ, ↓reduceIte, Nat.reduceEqDiff, Nat.reduceAdd, Nat.reduceSub, Nat.reduceMul, Nat.reduceLeDiff, Nat.reduceBEq, decide_true, decide_false, reduceCtorEq, Int.reduceLT, Int.reduceNeg, rvN, Nat.reduceLT, Int.reduceLE, Int.reduceEq, eq_self, List.reduceReplicate, rvF, rvG, e18, VRecWorld.c, eS]
    · simp only [rv0, rv1, rvE, rvH, rvS, rvI, eT, eQ, ↓reduceIte, Nat.reduceEqDiff, Nat.reduceAdd, Nat.reduceSub, Nat.reduceMul, Nat.reduceLeDiff, Nat.reduceBEq, decide_true, decide_false, reduceCtorEq, Int.reduceLT, Int.reduceNeg, rvN, Nat.reduceLT, Int.reduceLE, Int.reduceEq, eq_self, List.reduceReplicate, rvF, rvG, e18, VRecWorld.c]
  · intro i x r M hd hi hM
    have hlen := (List.getElem?_eq_some_iff.1 hi).1
    have hlt : ((i : Int) < (w.recorders.length : Int)) := by omega
    have hr := getElem?_map_some (f := VRecorder.c .shr) hi
    have hi0 : (0 : Int) ≤ (i : Int) := by omega
    have hwi := wrap64 (n := (i : Int) + 1) (by omega) (by omega)
    obtain ⟨_, hsl, _⟩ := rec_le hw (List.mem_of_getElem? hi)
    have hMi : ∀ s, 0 ≤ cntM M s ∧ cntM M s ≤ ((i + 1 : Nat) : Int) := fun s => ⟨(hM s).1, by have := (hM s).2; omega⟩
    simp only [VRecorder.c] at hr
    by_cases c1 : 1 ≤ k
    case neg =>
      left
      refine ⟨M, ?_, hMi, by rw [majI, slotK_lt (by omega)]⟩
      simp only [rv0, rv1, rvE, rvH, rvS, rvI, eT, eQ, ↓reduceIte, Nat.reduceEqDiff, Nat.reduceAdd, Nat.reduceSub, Nat.reduceMul, Nat.reduceLeDiff, Nat.reduceBEq, decide_true, decide_false, reduceCtorEq, Int.reduceLT, Int.reduceNeg, rvN, Nat.reduceLT, Int.reduceLE, Int.reduceEq, eq_self, List.reduceReplicate, rvF, rvG, e18, VRecWorld.c, hlt, hr, hi0, hwi, c1, i64c]
    by_cases c2 : k ≤ (x.safe.slots.length : Int)
    case neg =>
      left
      refine ⟨M, ?_, hMi, by rw [majI, slotK_gt (by omega)]⟩
      simp only [rv0, rv1, rvE, rvH, rvS, rvI, eT, eQ, ↓reduceIte, Nat.reduceEqDiff, Nat.reduceAdd, Nat.reduceSub, Nat.reduceMul, Nat.reduceLeDiff, Nat.reduceBEq, decide_true, decide_false, reduceCtorEq, Int.reduceLT, Int.reduceNeg, rvN, Nat.reduceLT, Int.reduceLE, Int.reduceEq, eq_self, List.reduceReplicate, rvF, rvG, e18, VRecWorld.c, hlt, hr, hi0, hwi, c1, c2, i64c]
    obtain ⟨s, hs, hsi⟩ := slotK_in (x := x) c1 c2
    have hsr := getElem?_map_some (f := VRecSlot.c) hsi
    have hsn : (k - 1).toNat < x.safe.slots.length := by omega
    have hk0 : (0 : Int) ≤ k - 1 := by omega
    have hkw := wrap64 (n := k - 1) (by omega) (by omega)
    obtain ⟨m0, m1⟩ := hM s
    have hcw := wrap64 (n := cntM M s + 1) (by omega) (by omega)
    have hmw := wrap64 (n := 2 * (cntM M s + 1)) (by omega) (by omega)
    have e0 : majI k w.recorders.length (x :: r) M = if 0 < s.ballot ∧ (w.recorders.length : Int) < 2 * (cntM M s + 1) then (s.text, true) else majI k w.recorders.length r (addM M s) := by rw [majI, hs]
    obtain ⟨j5, h5⟩ := find_add M s m0
    have hM' : ∀ t, 0 ≤ cntM (addM M s) t ∧ cntM (addM M s) t ≤ ((i + 1 : Nat) : Int) := fun t => by
      rw [cntM_add]
      have := hM t
      split <;> omega
    simp only [VRecSlot.c] at hsr
    simp only [rowM] at h5
    -- what follows the count
    have fin : ∀ (b1 b2 : Bool), decide (0 < s.ballot) = b1 → decide ((w.recorders.length : Int) < 2 * (cntM M s + 1)) = b2 → majI k w.recorders.length (x :: r) M = if (b1 && b2) = true then (s.text, true) else majI k w.recorders.length r (addM M s) := by
      intro b1 b2 e1 e2
      rw [e0]
      subst e1
      subst e2
      simp
    have hA : ∀ M2 : List (VRecSlot × Int), borRows (M2.map rowM) = M2.map rowM := by
      intro M2
      induction M2 with
      | nil => rfl
      | cons q M2 ih => rw [List.map_cons, borRows, ih]; rfl
    cases b1 : decide (0 < s.ballot)
    · cases b2 : decide ((w.recorders.length : Int) < 2 * (cntM M s + 1))
      all_goals
          have e1 := fin _ _ b1 b2
          simp only [Bool.and_true, Bool.and_false, Bool.false_eq_true, if_false, if_true] at e1
          rcases fstR_cases (fun q : VRecSlot × Int => eqS s q.1) rowM M with ⟨g1, g2⟩ | ⟨j, q, g1, g2, g3, g4, g5⟩
          · -- a new slot
            have hc0 : cntM M s = 0 := by unfold cntM; rw [g1]
            have hf1 := find_M M s
            rw [g2] at hf1
            have hnone : M.findIdx? (fun q => eqS s q.1) = none := by
              rw [List.findIdx?_eq_none_iff]
              intro a ha
              simpa using List.find?_eq_none.1 g1 a ha
            have hadd : addM M s = M ++ [(s, 1)] := by unfold addM mput; rw [hnone, hc0]; rfl
            have hz2 : (M.map rowM ++ [[C.p (.int .i64 s.ballot), C.p (.string s.text), C.p (.int .i64 0)]])[M.length]? = some [C.p (.int .i64 s.ballot), C.p (.string s.text), C.p (.int .i64 0)] := by
              rw [List.getElem?_append_right (by simp)]; simp
            have hz3 : (M.map rowM ++ [[C.p (.int .i64 s.ballot), C.p (.string s.text), C.p (.int .i64 0)]]).set M.length [C.p (.int .i64 s.ballot), C.p (.string s.text), C.p (.int .i64 1)] = (addM M s).map rowM := by
              rw [hadd, List.set_append_right _ _ (by simp)]; simp [rowM]
            have hz4 : findR [.int .i64 s.ballot, .string s.text] 2 (M.map rowM ++ [[C.p (.int .i64 s.ballot), C.p (.string s.text), C.p (.int .i64 0)]]) = some (some (M.length, [C.p (.int .i64 s.ballot), C.p (.string s.text), C.p (.int .i64 0)])) := by
              have := find_M (M ++ [(s, 0)]) s
              rw [List.map_append] at this
              rcases fstR_cases (fun q : VRecSlot × Int => eqS s q.1) rowM (M ++ [(s, 0)]) with ⟨u1, u2⟩ | ⟨j, q, u1, u2, u3, u4, u5⟩
              · rw [List.find?_append] at u1
                simp [eqS_iff.2 rfl] at u1
              · have hj : M.length = j := by
                  rw [List.findIdx?_append, hnone] at u4
                  simpa [List.findIdx?_cons, eqS_iff.2 rfl] using u4
                subst hj
                rw [u5] at this
                rw [List.getElem?_append_right (Nat.le_refl _)] at u2
                simp at u2
                rw [← u2] at this
                exact this
            have hl0 : (0 : Int) ≤ (M.length : Int) := by omega
            have w0 : IntKind.i64.wrap ((0 : Int) + 1) = 1 := wrap64 (by omega) (by omega)
            have w01 : IntKind.i64.wrap (1 : Int) = 1 := wrap64 (by omega) (by omega)
            rw [hc0] at h5 hcw hmw b2
            have b3 := b2
            rw [show (2 : Int) * (0 + 1) = 2 from rfl] at b3
            have w21 : IntKind.i64.wrap ((2 : Int) * 1) = 2 := wrap64 (by omega) (by omega)
            left
            refine ⟨addM M s, ?_, hM', by rw [e1]⟩
            simp only [addF_same, n18_7, rv0, rv1, rvE, rvH, rvS, rvI, eT, eQ, ↓reduceIte, Nat.reduceEqDiff, Nat.reduceAdd, Nat.reduceSub, Nat.reduceMul, Nat.reduceLeDiff, Nat.reduceBEq, decide_true, decide_false, reduceCtorEq, Int.reduceLT, Int.reduceNeg, rvN, Nat.reduceLT, Int.reduceLE, Int.reduceEq, eq_self, List.reduceReplicate, rvF, rvG, e18, VRecWorld.c, hlt, hr, hi0, c1, c2, hsr, hsn, hk0, hkw, hf1, hz2, hz3, hz4, hl0, h5, hcw, hmw, w0, w01, w21, b1, b3, hwi, i64c, List.length_map, List.cons_append, List.nil_append, Int.zero_add, List.take_succ_cons, List.take_zero, List.drop_succ_cons, List.drop_zero]
          · -- one that is there
            have hq := cnt_find g1
            have hqs := eqS_iff.1 g3
            obtain ⟨q1, q2⟩ := q
            simp only at hq hqs
            subst hqs
            have hf1 := find_M M s
            rw [g5] at hf1
            simp only [rowM] at hf1
            rw [← hq] at hf1 g2
            have hg := getElem?_map_some (f := rowM) g2
            simp only [rowM] at hg
            have hs2 : (M.map rowM).set j [C.p (.int .i64 s.ballot), C.p (.string s.text), C.p (.int .i64 (cntM M s))] = M.map rowM := by
              have hj := (List.getElem?_eq_some_iff.1 hg).1
              have he := (List.getElem?_eq_some_iff.1 hg).2
              rw [← he]
              exact List.set_getElem_self hj
            have hs3 : (M.map rowM).set j [C.p (.int .i64 s.ballot), C.p (.string s.text), C.p (.int .i64 (cntM M s + 1))] = (addM M s).map rowM := by
              unfold addM mput
              rw [g4]
              simp only
              rw [List.map_set]
              rfl
            have hj0 : (0 : Int) ≤ (j : Int) := by omega
            left
            refine ⟨addM M s, ?_, hM', by rw [e1]⟩
            simp only [addF_same, n18_7, rv0, rv1, rvE, rvH, rvS, rvI, eT, eQ, ↓reduceIte, Nat.reduceEqDiff, Nat.reduceAdd, Nat.reduceSub, Nat.reduceMul, Nat.reduceLeDiff, Nat.reduceBEq, decide_true, decide_false, reduceCtorEq, Int.reduceLT, Int.reduceNeg, rvN, Nat.reduceLT, Int.reduceLE, Int.reduceEq, eq_self, List.reduceReplicate, rvF, rvG, e18, VRecWorld.c, hlt, hr, hi0, c1, c2, hsr, hsn, hk0, hkw, hf1, hg, hs2, hs3, h5, hcw, hmw, hj0, b1, b2, hwi, i64c, List.length_map, List.cons_append, List.nil_append, List.take_succ_cons, List.take_zero, List.drop_succ_cons, List.drop_zero]
    · cases b2 : decide ((w.recorders.length : Int) < 2 * (cntM M s + 1))
      · have e1 := fin _ _ b1 b2
        simp only [Bool.and_true, Bool.and_false, Bool.false_eq_true, if_false, if_true] at e1
        rcases fstR_cases (fun q : VRecSlot × Int => eqS s q.1) rowM M with ⟨g1, g2⟩ | ⟨j, q, g1, g2, g3, g4, g5⟩
        · -- a new slot
          have hc0 : cntM M s = 0 := by unfold cntM; rw [g1]
          have hf1 := find_M M s
          rw [g2] at hf1
          have hnone : M.findIdx? (fun q => eqS s q.1) = none := by
            rw [List.findIdx?_eq_none_iff]
            intro a ha
            simpa using List.find?_eq_none.1 g1 a ha
          have hadd : addM M s = M ++ [(s, 1)] := by unfold addM mput; rw [hnone, hc0]; rfl
          have hz2 : (M.map rowM ++ [[C.p (.int .i64 s.ballot), C.p (.string s.text), C.p (.int .i64 0)]])[M.length]? = some [C.p (.int .i64 s.ballot), C.p (.string s.text), C.p (.int .i64 0)] := by
            rw [List.getElem?_append_right (by simp)]; simp
          have hz3 : (M.map rowM ++ [[C.p (.int .i64 s.ballot), C.p (.string s.text), C.p (.int .i64 0)]]).set M.length [C.p (.int .i64 s.ballot), C.p (.string s.text), C.p (.int .i64 1)] = (addM M s).map rowM := by
            rw [hadd, List.set_append_right _ _ (by simp)]; simp [rowM]
          have hz4 : findR [.int .i64 s.ballot, .string s.text] 2 (M.map rowM ++ [[C.p (.int .i64 s.ballot), C.p (.string s.text), C.p (.int .i64 0)]]) = some (some (M.length, [C.p (.int .i64 s.ballot), C.p (.string s.text), C.p (.int .i64 0)])) := by
            have := find_M (M ++ [(s, 0)]) s
            rw [List.map_append] at this
            rcases fstR_cases (fun q : VRecSlot × Int => eqS s q.1) rowM (M ++ [(s, 0)]) with ⟨u1, u2⟩ | ⟨j, q, u1, u2, u3, u4, u5⟩
            · rw [List.find?_append] at u1
              simp [eqS_iff.2 rfl] at u1
            · have hj : M.length = j := by
                rw [List.findIdx?_append, hnone] at u4
                simpa [List.findIdx?_cons, eqS_iff.2 rfl] using u4
              subst hj
              rw [u5] at this
              rw [List.getElem?_append_right (Nat.le_refl _)] at u2
              simp at u2
              rw [← u2] at this
              exact this
          have hl0 : (0 : Int) ≤ (M.length : Int) := by omega
          have w0 : IntKind.i64.wrap ((0 : Int) + 1) = 1 := wrap64 (by omega) (by omega)
          have w01 : IntKind.i64.wrap (1 : Int) = 1 := wrap64 (by omega) (by omega)
          rw [hc0] at h5 hcw hmw b2
          have b3 := b2
          rw [show (2 : Int) * (0 + 1) = 2 from rfl] at b3
          have w21 : IntKind.i64.wrap ((2 : Int) * 1) = 2 := wrap64 (by omega) (by omega)
          left
          refine ⟨addM M s, ?_, hM', by rw [e1]⟩
          simp only [addF_same, n18_7, rv0, rv1, rvE, rvH, rvS, rvI, eT, eQ, ↓reduceIte, Nat.reduceEqDiff, Nat.reduceAdd, Nat.reduceSub, Nat.reduceMul, Nat.reduceLeDiff, Nat.reduceBEq, decide_true, decide_false, reduceCtorEq, Int.reduceLT, Int.reduceNeg, rvN, Nat.reduceLT, Int.reduceLE, Int.reduceEq, eq_self, List.reduceReplicate, rvF, rvG, e18, VRecWorld.c, hlt, hr, hi0, c1, c2, hsr, hsn, hk0, hkw, hf1, hz2, hz3, hz4, hl0, h5, hcw, hmw, w0, w01, w21, b1, b3, hwi, i64c, List.length_map, List.cons_append, List.nil_append, Int.zero_add, List.take_succ_cons, List.take_zero, List.drop_succ_cons, List.drop_zero]
        · -- one that is there
          have hq := cnt_find g1
          have hqs := eqS_iff.1 g3
          obtain ⟨q1, q2⟩ := q
          simp only at hq hqs
          subst hqs
          have hf1 := find_M M s
          rw [g5] at hf1
          simp only [rowM] at hf1
          rw [← hq] at hf1 g2
          have hg := getElem?_map_some (f := rowM) g2
          simp only [rowM] at hg
          have hs2 : (M.map rowM).set j [C.p (.int .i64 s.ballot), C.p (.string s.text), C.p (.int .i64 (cntM M s))] = M.map rowM := by
            have hj := (List.getElem?_eq_some_iff.1 hg).1
            have he := (List.getElem?_eq_some_iff.1 hg).2
            rw [← he]
            exact List.set_getElem_self hj
          have hs3 : (M.map rowM).set j [C.p (.int .i64 s.ballot), C.p (.string s.text), C.p (.int .i64 (cntM M s + 1))] = (addM M s).map rowM := by
            unfold addM mput
            rw [g4]
            simp only
            rw [List.map_set]
            rfl
          have hj0 : (0 : Int) ≤ (j : Int) := by omega
          left
          refine ⟨addM M s, ?_, hM', by rw [e1]⟩
          simp only [addF_same, n18_7, rv0, rv1, rvE, rvH, rvS, rvI, eT, eQ, ↓reduceIte, Nat.reduceEqDiff, Nat.reduceAdd, Nat.reduceSub, Nat.reduceMul, Nat.reduceLeDiff, Nat.reduceBEq, decide_true, decide_false, reduceCtorEq, Int.reduceLT, Int.reduceNeg, rvN, Nat.reduceLT, Int.reduceLE, Int.reduceEq, eq_self, List.reduceReplicate, rvF, rvG, e18, VRecWorld.c, hlt, hr, hi0, c1, c2, hsr, hsn, hk0, hkw, hf1, hg, hs2, hs3, h5, hcw, hmw, hj0, b1, b2, hwi, i64c, List.length_map, List.cons_append, List.nil_append, List.take_succ_cons, List.take_zero, List.drop_succ_cons, List.drop_zero]
      · have e1 := fin _ _ b1 b2
        simp only [Bool.and_true, Bool.and_false, Bool.false_eq_true, if_false, if_true] at e1
        rcases fstR_cases (fun q : VRecSlot × Int => eqS s q.1) rowM M with ⟨g1, g2⟩ | ⟨j, q, g1, g2, g3, g4, g5⟩
        · -- a new slot
          have hc0 : cntM M s = 0 := by unfold cntM; rw [g1]
          have hf1 := find_M M s
          rw [g2] at hf1
          have hnone : M.findIdx? (fun q => eqS s q.1) = none := by
            rw [List.findIdx?_eq_none_iff]
            intro a ha
            simpa using List.find?_eq_none.1 g1 a ha
          have hadd : addM M s = M ++ [(s, 1)] := by unfold addM mput; rw [hnone, hc0]; rfl
          have hz2 : (M.map rowM ++ [[C.p (.int .i64 s.ballot), C.p (.string s.text), C.p (.int .i64 0)]])[M.length]? = some [C.p (.int .i64 s.ballot), C.p (.string s.text), C.p (.int .i64 0)] := by
            rw [List.getElem?_append_right (by simp)]; simp
          have hz3 : (M.map rowM ++ [[C.p (.int .i64 s.ballot), C.p (.string s.text), C.p (.int .i64 0)]]).set M.length [C.p (.int .i64 s.ballot), C.p (.string s.text), C.p (.int .i64 1)] = (addM M s).map rowM := by
            rw [hadd, List.set_append_right _ _ (by simp)]; simp [rowM]
          have hz4 : findR [.int .i64 s.ballot, .string s.text] 2 (M.map rowM ++ [[C.p (.int .i64 s.ballot), C.p (.string s.text), C.p (.int .i64 0)]]) = some (some (M.length, [C.p (.int .i64 s.ballot), C.p (.string s.text), C.p (.int .i64 0)])) := by
            have := find_M (M ++ [(s, 0)]) s
            rw [List.map_append] at this
            rcases fstR_cases (fun q : VRecSlot × Int => eqS s q.1) rowM (M ++ [(s, 0)]) with ⟨u1, u2⟩ | ⟨j, q, u1, u2, u3, u4, u5⟩
            · rw [List.find?_append] at u1
              simp [eqS_iff.2 rfl] at u1
            · have hj : M.length = j := by
                rw [List.findIdx?_append, hnone] at u4
                simpa [List.findIdx?_cons, eqS_iff.2 rfl] using u4
              subst hj
              rw [u5] at this
              rw [List.getElem?_append_right (Nat.le_refl _)] at u2
              simp at u2
              rw [← u2] at this
              exact this
          have hl0 : (0 : Int) ≤ (M.length : Int) := by omega
          have w0 : IntKind.i64.wrap ((0 : Int) + 1) = 1 := wrap64 (by omega) (by omega)
          have w01 : IntKind.i64.wrap (1 : Int) = 1 := wrap64 (by omega) (by omega)
          rw [hc0] at h5 hcw hmw b2
          have b3 := b2
          rw [show (2 : Int) * (0 + 1) = 2 from rfl] at b3
          have w21 : IntKind.i64.wrap ((2 : Int) * 1) = 2 := wrap64 (by omega) (by omega)
          right
          rw [e1]
          simp only [addF_same, n18_7, rv0, rv1, rvE, rvH, rvS, rvI, eT, eQ, ↓reduceIte, Nat.reduceEqDiff, Nat.reduceAdd, Nat.reduceSub, Nat.reduceMul, Nat.reduceLeDiff, Nat.reduceBEq, decide_true, decide_false, reduceCtorEq, Int.reduceLT, Int.reduceNeg, rvN, Nat.reduceLT, Int.reduceLE, Int.reduceEq, eq_self, List.reduceReplicate, rvF, rvG, e18, VRecWorld.c, hlt, hr, hi0, c1, c2, hsr, hsn, hk0, hkw, hf1, hz2, hz3, hz4, hl0, h5, hcw, hmw, w0, w01, w21, b1, b3, List.length_map, List.cons_append, List.nil_append, Int.zero_add, List.take_succ_cons, List.take_zero, List.drop_succ_cons, List.drop_zero]
        · -- one that is there
          have hq := cnt_find g1
          have hqs := eqS_iff.1 g3
          obtain ⟨q1, q2⟩ := q
          simp only at hq hqs
          subst hqs
          have hf1 := find_M M s
          rw [g5] at hf1
          simp only [rowM] at hf1
          rw [← hq] at hf1 g2
          have hg := getElem?_map_some (f := rowM) g2
          simp only [rowM] at hg
          have hs2 : (M.map rowM).set j [C.p (.int .i64 s.ballot), C.p (.string s.text), C.p (.int .i64 (cntM M s))] = M.map rowM := by
            have hj := (List.getElem?_eq_some_iff.1 hg).1
            have he := (List.getElem?_eq_some_iff.1 hg).2
            rw [← he]
            exact List.set_getElem_self hj
          have hs3 : (M.map rowM).set j [C.p (.int .i64 s.ballot), C.p (.string s.text), C.p (.int .i64 (cntM M s + 1))] = (addM M s).map rowM := by
            unfold addM mput
            rw [g4]
            simp only
            rw [List.map_set]
            rfl
          have hj0 : (0 : Int) ≤ (j : Int) := by omega
          right
          rw [e1]
          simp only [addF_same, n18_7, rv0, rv1, rvE, rvH, rvS, rvI, eT, eQ, ↓reduceIte, Nat.reduceEqDiff, Nat.reduceAdd, Nat.reduceSub, Nat.reduceMul, Nat.reduceLeDiff, Nat.reduceBEq, decide_true, decide_false, reduceCtorEq, Int.reduceLT, Int.reduceNeg, rvN, Nat.reduceLT, Int.reduceLE, Int.reduceEq, eq_self, List.reduceReplicate, rvF, rvG, e18, VRecWorld.c, hlt, hr, hi0, c1, c2, hsr, hsn, hk0, hkw, hf1, hg, hs2, hs3, h5, hcw, hmw, hj0, b1, b2, List.length_map, List.cons_append, List.nil_append, List.take_succ_cons, List.take_zero, List.drop_succ_cons, List.drop_zero]
  · intro a _
    have hn : ¬ ((w.recorders.length : Int) < (w.recorders.length : Int)) := by omega
    simp only [rv0, rv1, rvE, rvH, rvS, rvI, eT, eQ, ↓reduceIte, Nat.reduceEqDiff, Nat.reduceAdd, Nat.reduceSub, Nat.reduceMul, Nat.reduceLeDiff, Nat.reduceBEq, decide_true, decide_false, reduceCtorEq, Int.reduceLT, Int.reduceNeg, rvN, Nat.reduceLT, Int.reduceLE, Int.reduceEq, eq_self, List.reduceReplicate, rvF, rvG, e18, VRecWorld.c, hn, majI]
end Go.Proofs.Ytnhgopjnnedhdaa

