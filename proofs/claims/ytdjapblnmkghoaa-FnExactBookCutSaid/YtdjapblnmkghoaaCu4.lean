/- A book cut: what the functions compute. -/
import Derived.Test.YtdjapblnmkghoaaC4
namespace Go.Proofs.Ytdjapblnmkghoaa
open Go.Sx
set_option maxRecDepth 100000
set_option maxHeartbeats 4000000
set_option linter.unusedVariables false
set_option linter.unusedSimpArgs false
theorem hist_at {b : VBook} : ∀ {l : List VBookChange} {k : Nat}, hist1F b k l = true → ∀ i x, l[i]? = some x → hist1 b (k + i) x = true
  | [], _, _, i, x, h => by simp at h
  | y :: r, k, hF, i, x, h => by
    rw [hist1F, Bool.and_eq_true] at hF
    cases i with
    | zero => simp at h; subst h; exact hF.1
    | succ i =>
      have := hist_at hF.2 i x (by simpa using h)
      rw [show k + (i + 1) = k + 1 + i by omega]
      exact this
theorem valid_facts {b : VBook} (h : implB b = true) : 0 ≤ b.now ∧ b.now ≤ 1000000 ∧ 0 ≤ b.floor ∧ b.floor ≤ b.now ∧ (b.history.length : Int) = b.now - b.floor ∧ ∀ (i : Nat) (x : VBookChange), b.history[i]? = some x → x.version = b.floor + 1 + i ∧ x.object.version = x.version := by
  simp only [implB, inR, Bool.and_eq_true, decide_eq_true_eq] at h
  refine ⟨h.1.1, h.1.2, h.2.1.1, h.2.1.2, h.2.2.2.2.1, fun i x hx => ?_⟩
  have := hist_at h.2.2.2.2.2.2.2.1 i x hx
  simp only [hist1, Bool.and_eq_true, decide_eq_true_eq] at this
  rw [Nat.zero_add] at this
  exact ⟨this.1, this.2.1⟩
def cutB (b : VBook) (n : Nat) : VBook := ⟨b.now, b.floor + n, b.objects, b.history.drop n, b.tickets⟩
def cutN (b : VBook) (fl : Int) : Nat := (min (max fl b.floor) b.now - b.floor).toNat
def nilB : VBook := ⟨0, 0, [], [], []⟩
def bcut (b : VBook) (fl : Int) : VBook := if implB b = true then cutB b (cutN b fl) else nilB
theorem drop_sum (l : List VBookChange) (n : Nat) : wSBookChange (l.drop n) ≤ wSBookChange l := by
  induction l generalizing n with
  | nil => simp
  | cons x l ih =>
    cases n with
    | zero => exact Nat.le_refl _
    | succ n =>
      have := ih n
      unfold wSBookChange at *
      simp only [List.drop_succ_cons, List.length_cons, sumWBookChange]
      omega
theorem k49 (b : VBook) (fl : Int) (hw : b.w ≤ 4194304) : EV Try.prog E 49 [.val 0 true (b.c .shr), .val 0 false [.p (.int .i64 fl)]] = some ⟨[(true, (bcut b fl).c .own)], []⟩ := by
  refine EV_intro Try.func49 rfl ?_
  have h1 := k33 b hw
  have h2 := k92 b hw
  simp only [VBook.c] at h1 h2
  unfold bcut
  cases d : implB b
  · rw [d] at h1
    simp only [rv0, rv1, rv2, rv3, rv4, rv5, rv6, rv7, rv8, rv9, rv10, rv11, rv12, rv13, rv14, rvE, rvH, rvS, rvI, eT, eQ, ↓reduceIte, Nat.reduceEqDiff, Nat.reduceAdd, Nat.reduceSub, Nat.reduceMul, Nat.reduceLeDiff, Nat.reduceBEq, decide_true, decide_false, reduceCtorEq, Int.reduceLT, Int.reduceNeg, rvN, Nat.reduceLT, Int.reduceLE, Int.reduceEq, eq_self, List.reduceReplicate, rvF, rvG, e49, e33, Try.f49, VBook.c, nilB, h1, List.map_nil]
  rw [d] at h1
  obtain ⟨v1, v2, v3, v4, v5, v6⟩ := valid_facts d
  have hsub := wrap64 (n := min (max fl b.floor) b.now - b.floor) (by omega) (by omega)
  have hn : min (max fl b.floor) b.now - b.floor = (cutN b fl : Int) := by unfold cutN; omega
  have hn0 : (0 : Int) ≤ (cutN b fl : Int) := by omega
  have hnl : cutN b fl ≤ b.history.length := by unfold cutN; omega
  have h3 := k93 (b.history.drop (cutN b fl)) (Nat.le_trans (drop_sum _ _) (by unfold VBook.w at hw; omega))
  have hsl : List.take (b.history.length - cutN b fl) (List.drop (cutN b fl) (b.history.map (VBookChange.c .shr))) = (b.history.drop (cutN b fl)).map (VBookChange.c .shr) := by
    rw [← List.map_drop, List.take_of_length_le]
    simp
  have hf : b.floor + (cutN b fl : Int) = min (max fl b.floor) b.now := by omega
  rw [hn] at hsub
  simp only [rv0, rv1, rv2, rv3, rv4, rv5, rv6, rv7, rv8, rv9, rv10, rv11, rv12, rv13, rv14, rvE, rvH, rvS, rvI, eT, eQ, ↓reduceIte, Nat.reduceEqDiff, Nat.reduceAdd, Nat.reduceSub, Nat.reduceMul, Nat.reduceLeDiff, Nat.reduceBEq, decide_true, decide_false, reduceCtorEq, Int.reduceLT, Int.reduceNeg, rvN, Nat.reduceLT, Int.reduceLE, Int.reduceEq, eq_self, List.reduceReplicate, rvF, rvG, e49, e33, e92, e93, Try.f49, VBook.c, cutB, h1, h2, h3, hn, hsub, hn0, hnl, hsl, hf, rowsBookObject, rowsBookChange, rowsBookTicket, rowsString, Nat.le_refl]
theorem cut_zero (b : VBook) : cutB b 0 = b := by
  cases b
  simp [cutB]
theorem k48 (b : VBook) (fl : Int) (hw : b.w ≤ 4194304) : EV Try.prog E 48 [.val 0 true (b.c .shr), .val 0 false [.p (.int .i64 fl)]] = some ⟨[(true, (bcut b fl).c .own)], []⟩ := by
  refine EV_intro Try.func48 rfl ?_
  have h1 := kS b hw
  have h2 := k91 b hw
  simp only [VBook.c] at h1 h2
  unfold bcut
  cases d : implB b
  · rw [d] at h1
    simp only [rv0, rv1, rv2, rv3, rv4, rv5, rv6, rv7, rv8, rv9, rv10, rv11, rv12, rv13, rv14, rvE, rvH, rvS, rvI, eT, eQ, ↓reduceIte, Nat.reduceEqDiff, Nat.reduceAdd, Nat.reduceSub, Nat.reduceMul, Nat.reduceLeDiff, Nat.reduceBEq, decide_true, decide_false, reduceCtorEq, Int.reduceLT, Int.reduceNeg, rvN, Nat.reduceLT, Int.reduceLE, Int.reduceEq, eq_self, List.reduceReplicate, rvF, rvG, e48, e32, Try.f48, VBook.c, nilB, h1, List.map_nil]
  rw [d] at h1
  obtain ⟨v1, v2, v3, v4, v5, v6⟩ := valid_facts d
  simp only [rv0, rv1, rv2, rv3, rv4, rv5, rv6, rv7, rv8, rv9, rv10, rv11, rv12, rv13, rv14, rvE, rvH, rvS, rvI, eT, eQ, ↓reduceIte, Nat.reduceEqDiff, Nat.reduceAdd, Nat.reduceSub, Nat.reduceMul, Nat.reduceLeDiff, Nat.reduceBEq, decide_true, decide_false, reduceCtorEq, Int.reduceLT, Int.reduceNeg, rvN, Nat.reduceLT, Int.reduceLE, Int.reduceEq, eq_self, List.reduceReplicate, rvF, rvG, e48, e32, e91, Try.f48, VBook.c, h1, h2, rowsBookObject, rowsBookChange, rowsBookTicket]
  rw [while_block (fun j : Nat => ⟨3, [(1, .val 0 false [.p (.int .i64 fl)]), (4, .box 1 1 (nilB.c .own)), (5, .box 2 2 ((cutB b j).c .own))]⟩) (fun j => j ≤ cutN b fl)
    (fun j => .norm ⟨2, [(4, .box 0 0 (nilB.c .own)), (5, .box 1 1 ((cutB b (cutN b fl)).c .own))]⟩) (fun j => b.history.length - j) ?_ (i := 0) (Nat.zero_le _) (by simp only [rv0, rv1, rv2, rv3, rv4, rv5, rv6, rv7, rv8, rv9, rv10, rv11, rv12, rv13, rv14, rvE, rvH, rvS, rvI, eT, eQ, ↓reduceIte, Nat.reduceEqDiff, Nat.reduceAdd, Nat.reduceSub, Nat.reduceMul, Nat.reduceLeDiff, Nat.reduceBEq, decide_true, decide_false, reduceCtorEq, Int.reduceLT, Int.reduceNeg, rvN, Nat.reduceLT, Int.reduceLE, Int.reduceEq, eq_self, List.reduceReplicate, rvF, rvG, e48, VBook.c, cut_zero, nilB, List.map_nil])]
  · simp only [rv0, rv1, rv2, rv3, rv4, rv5, rv6, rv7, rv8, rv9, rv10, rv11, rv12, rv13, rv14, rvE, rvH, rvS, rvI, eT, eQ, ↓reduceIte, Nat.reduceEqDiff, Nat.reduceAdd, Nat.reduceSub, Nat.reduceMul, Nat.reduceLeDiff, Nat.reduceBEq, decide_true, decide_false, reduceCtorEq, Int.reduceLT, Int.reduceNeg, rvN, Nat.reduceLT, Int.reduceLE, Int.reduceEq, eq_self, List.reduceReplicate, rvF, rvG, e48, VBook.c, cutB, nilB, rowsBookObject, rowsBookChange, rowsBookTicket, List.map_nil]
  · intro j hj
    have hjl : j ≤ b.history.length := by unfold cutN at hj; omega
    have hdl : (b.history.drop j).length = b.history.length - j := List.length_drop
    by_cases e : j = cutN b fl
    · right
      rw [← e]
      have cc : ¬ (b.floor + (j : Int) < fl) ∨ (b.floor + (j : Int) < fl) ∧ ¬ (0 : Int) < ((b.history.drop j).length : Int) := by
        by_cases h : b.floor + (j : Int) < fl
        · right
          refine ⟨h, ?_⟩
          unfold cutN at e
          omega
        · exact .inl h
      rcases cc with h | ⟨h, h'⟩
      · simp only [rv0, rv1, rv2, rv3, rv4, rv5, rv6, rv7, rv8, rv9, rv10, rv11, rv12, rv13, rv14, rvE, rvH, rvS, rvI, eT, eQ, ↓reduceIte, Nat.reduceEqDiff, Nat.reduceAdd, Nat.reduceSub, Nat.reduceMul, Nat.reduceLeDiff, Nat.reduceBEq, decide_true, decide_false, reduceCtorEq, Int.reduceLT, Int.reduceNeg, rvN, Nat.reduceLT, Int.reduceLE, Int.reduceEq, eq_self, List.reduceReplicate, rvF, rvG, e48, VBook.c, cutB, nilB, List.map_nil, h]
      · simp only [rv0, rv1, rv2, rv3, rv4, rv5, rv6, rv7, rv8, rv9, rv10, rv11, rv12, rv13, rv14, rvE, rvH, rvS, rvI, eT, eQ, ↓reduceIte, Nat.reduceEqDiff, Nat.reduceAdd, Nat.reduceSub, Nat.reduceMul, Nat.reduceLeDiff, Nat.reduceBEq, decide_true, decide_false, reduceCtorEq, Int.reduceLT, Int.reduceNeg, rvN, Nat.reduceLT, Int.reduceLE, Int.reduceEq, eq_self, List.reduceReplicate, rvF, rvG, e48, VBook.c, cutB, nilB, List.map_nil, h, h']
    · left
      have hlt : j < b.history.length := by unfold cutN at hj e; omega
      have h1 : b.floor + (j : Int) < fl := by unfold cutN at hj e; omega
      have h2 : (0 : Int) < ((b.history.drop j).length : Int) := by omega
      have hd : b.history.drop j = b.history[j] :: b.history.drop (j + 1) := List.drop_eq_getElem_cons hlt
      have hv := (v6 j b.history[j] (List.getElem?_eq_getElem hlt)).1
      generalize b.history[j] = c at hd hv
      refine ⟨j + 1, ?_, by unfold cutN at hj e ⊢; omega, by omega, rfl⟩
      have hL : 0 + (b.history.drop (j + 1)).length < 4294967296 := by rw [List.length_drop]; omega
      have hL2 : (b.history.drop (j + 1)).length < 4294967296 := by rw [List.length_drop]; omega
      have hvv : c.version = b.floor + ((j + 1 : Nat) : Int) := by omega
      rw [hd] at h2
      simp only [List.length_cons] at h2
      have hpos : 0 < (b.history.drop (j + 1)).length + 1 := Nat.succ_pos _
      have hpos1 : 1 ≤ (b.history.drop (j + 1)).length + 1 := Nat.succ_pos _
      have hadd : 1 + (b.history.drop (j + 1)).length ≤ (b.history.drop (j + 1)).length + 1 := by omega
      have hst : List.take (b.history.drop (j + 1)).length ((b.history.drop (j + 1)).map (VBookChange.c .own)) = (b.history.drop (j + 1)).map (VBookChange.c .own) := List.take_of_length_le (by simp)
      cases hfr : allFreeRows ((b.history.drop (j + 1)).map (VBookChange.c .own))
      all_goals simp only [rv0, rv1, rv2, rv3, rv4, rv5, rv6, rv7, rv8, rv9, rv10, rv11, rv12, rv13, rv14, rvE, rvH, rvS, rvI, eT, eQ, ↓reduceIte, Nat.reduceEqDiff, Nat.reduceAdd, Nat.reduceSub, Nat.reduceMul, Nat.reduceLeDiff, Nat.reduceBEq, decide_true, decide_false, reduceCtorEq, Int.reduceLT, Int.reduceNeg, rvN, Nat.reduceLT, Int.reduceLE, Int.reduceEq, eq_self, List.reduceReplicate, rvF, rvG, e48, VBook.c, cutB, nilB, List.map_nil, h1, h2, hd, hadd, hst, hfr, List.map_cons, VBookChange.c, hvv, LIM, hL, hL2, hpos, hpos1, Nat.le_refl, Nat.add_sub_cancel, List.getElem?_cons_zero, Int.toNat_zero, Int.toNat_one, rowsBookChange, rowsBookObject, rowsString]
end Go.Proofs.Ytdjapblnmkghoaa
