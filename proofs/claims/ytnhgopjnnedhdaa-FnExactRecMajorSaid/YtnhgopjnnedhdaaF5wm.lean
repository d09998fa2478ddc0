/- Worlds: views, conversions (written by a program). -/
import Derived.Test.YtnhgopjnnedhdaaF5m
namespace Go.Proofs.Ytnhgopjnnedhdaa
open Go.Sx
set_option maxRecDepth 100000
set_option maxHeartbeats 4000000
set_option linter.unusedVariables false
set_option linter.unusedSimpArgs false
def sumWRecorder : List VRecorder → Nat
  | [] => 0
  | x :: r => x.w + sumWRecorder r
def wSRecorder (l : List VRecorder) : Nat := l.length + sumWRecorder l
theorem wSRecorder_mem {l : List VRecorder} {x : VRecorder} (h : x ∈ l) : x.w ≤ sumWRecorder l := by
  induction l with
  | nil => cases h
  | cons y r ih =>
    simp only [sumWRecorder]
    rcases List.mem_cons.1 h with rfl | h
    · omega
    · have := ih h
      omega
structure VRecFix where
  index : Int
  text : ByteArray
def VRecFix.c (x : VRecFix) : List C := [.p (.int .i64 x.index), .p (.string x.text)]
def VRecFix.w (x : VRecFix) : Nat := x.text.size
def VRecFix.ok (x : VRecFix) : Prop := i64ok x.index ∧ x.text.size ≤ maxLen
theorem rowsRecFix (l : List VRecFix) : borRows (l.map VRecFix.c) = l.map VRecFix.c ∧ mineRows (l.map VRecFix.c) = true ∧ wholeRows (l.map VRecFix.c) = true ∧ allFreeRows (l.map VRecFix.c) = true := flat_rows VRecFix.c (fun _ => rfl) l
def sumWRecFix : List VRecFix → Nat
  | [] => 0
  | x :: r => x.w + sumWRecFix r
def wSRecFix (l : List VRecFix) : Nat := l.length + sumWRecFix l
theorem wSRecFix_mem {l : List VRecFix} {x : VRecFix} (h : x ∈ l) : x.w ≤ sumWRecFix l := by
  induction l with
  | nil => cases h
  | cons y r ih =>
    simp only [sumWRecFix]
    rcases List.mem_cons.1 h with rfl | h
    · omega
    · have := ih h
      omega
structure VRecWorld where
  recorders : List VRecorder
  flight : List VRecMessage
  fixed : List VRecFix
def VRecWorld.c (f : Fl) (x : VRecWorld) : List C := [.sl f 18 (x.recorders.map (VRecorder.c f)), .sl f 8 (x.flight.map (VRecMessage.c f)), .sl f 2 (x.fixed.map VRecFix.c)]
def VRecWorld.w (x : VRecWorld) : Nat := wSRecorder x.recorders + wSRecMessage x.flight + wSRecFix x.fixed
def VRecWorld.ok (x : VRecWorld) : Prop := (x.recorders.length ≤ maxLen ∧ ∀ e ∈ x.recorders, e.ok) ∧ (x.flight.length ≤ maxLen ∧ ∀ e ∈ x.flight, e.ok) ∧ (x.fixed.length ≤ maxLen ∧ ∀ e ∈ x.fixed, e.ok)
theorem k_szRecorderS (l : List VRecorder) (left : Int) (hx : l.length ≤ maxLen ∧ ∀ e ∈ l, e.ok) (h0 : 0 ≤ left) (h1 : left ≤ 1048576) : EV Try.prog E 9 [.val 0 false [.sl .shr 18 (l.map (VRecorder.c .shr))], .val 0 false [.p (.int .i64 left)]] = some ⟨[(false, [.p (.int .i64 (subW left (wSRecorder l)))])], []⟩ := by
  refine EV_intro Try.func9 rfl ?_
  obtain ⟨hn, hl⟩ := hx
  have hw := wrap64 (n := left - l.length) (by unfold maxLen at hn; omega) (by omega)
  by_cases hc : left - l.length < 0
  · have e : subW left (wSRecorder l) = -1 := subW_lt (by unfold wSRecorder; omega)
    simp only [rv0, rv1, rvE, rvH, rvS, rvI, eT, eQ, ↓reduceIte, Nat.reduceEqDiff, Nat.reduceAdd, Nat.reduceSub, Nat.reduceMul, Nat.reduceLeDiff, Nat.reduceBEq, decide_true, decide_false, reduceCtorEq, Int.reduceLT, Int.reduceNeg, rvN, Nat.reduceLT, Int.reduceLE, Int.reduceEq, eq_self, List.reduceReplicate, rvF, rvG, e9, Try.f9, hw, hc, e]
  · simp only [rv0, rv1, rvE, rvH, rvS, rvI, eT, eQ, ↓reduceIte, Nat.reduceEqDiff, Nat.reduceAdd, Nat.reduceSub, Nat.reduceMul, Nat.reduceLeDiff, Nat.reduceBEq, decide_true, decide_false, reduceCtorEq, Int.reduceLT, Int.reduceNeg, rvN, Nat.reduceLT, Int.reduceLE, Int.reduceEq, eq_self, List.reduceReplicate, rvF, rvG, e9, Try.f9, hw, hc]
    rw [for_block l (fun i a => ⟨3, [(0, .val 0 false [.sl .shr 18 (l.map (VRecorder.c .shr))]), (1, .val 1 false [.p (.int .i64 a)]), (5, .val 2 false [.p (.int .i64 i)])]⟩) (fun i a => 0 ≤ a ∧ a ≤ 1048576)
      (fun r i a => if a < (sumWRecorder r : Nat) then .ret ⟨[(false, [.p (.int .i64 (-1))])], []⟩ else .norm ⟨1, [(1, .val 0 false [.p (.int .i64 (a - (sumWRecorder r : Nat)))])]⟩) ?_ ?_ (a := left - l.length) ⟨by omega, by omega⟩ (by simp only [rv0, rv1, rvE, rvH, rvS, rvI, eT, eQ, ↓reduceIte, Nat.reduceEqDiff, Nat.reduceAdd, Nat.reduceSub, Nat.reduceMul, Nat.reduceLeDiff, Nat.reduceBEq, decide_true, decide_false, reduceCtorEq, Int.reduceLT, Int.reduceNeg, rvN, Nat.reduceLT, Int.reduceLE, Int.reduceEq, eq_self, List.reduceReplicate, rvF, rvG, e9]; rfl)]
    · by_cases hz : left - l.length < (sumWRecorder l : Nat)
      · have e : subW left (wSRecorder l) = -1 := subW_lt (by unfold wSRecorder; omega)
        simp only [rv0, rv1, rvE, rvH, rvS, rvI, eT, eQ, ↓reduceIte, Nat.reduceEqDiff, Nat.reduceAdd, Nat.reduceSub, Nat.reduceMul, Nat.reduceLeDiff, Nat.reduceBEq, decide_true, decide_false, reduceCtorEq, Int.reduceLT, Int.reduceNeg, rvN, Nat.reduceLT, Int.reduceLE, Int.reduceEq, eq_self, List.reduceReplicate, rvF, rvG, e9, hz, e]
      · have e : subW left (wSRecorder l) = left - l.length - (sumWRecorder l : Nat) := by rw [subW_ge (by unfold wSRecorder; omega)]; unfold wSRecorder; omega
        simp only [rv0, rv1, rvE, rvH, rvS, rvI, eT, eQ, ↓reduceIte, Nat.reduceEqDiff, Nat.reduceAdd, Nat.reduceSub, Nat.reduceMul, Nat.reduceLeDiff, Nat.reduceBEq, decide_true, decide_false, reduceCtorEq, Int.reduceLT, Int.reduceNeg, rvN, Nat.reduceLT, Int.reduceLE, Int.reduceEq, eq_self, List.reduceReplicate, rvF, rvG, e9, hz, e]
    · intro i s r a hd hi ⟨ha, hb⟩
      have hlen := (List.getElem?_eq_some_iff.1 hi).1
      have hlt : ((i : Int) < (l.length : Int)) := by omega
      have hr := getElem?_map_some (f := (VRecorder.c .shr)) hi
      have hsz := hl s (List.mem_of_getElem? hi)
      unfold maxLen at hn
      have hwi := wrap64 (n := (i : Int) + 1) (by omega) (by omega)
      have hi0 : (0 : Int) ≤ (i : Int) := by omega
      simp only [VRecorder.c] at hr
      have hk := k_szRecorder s a hsz ha hb
      simp only [VRecorder.c] at hk
      by_cases hcs : a < (s.w : Nat)
      · right
        rw [subW_lt hcs] at hk
        have e : a < (sumWRecorder (s :: r) : Nat) := by simp only [sumWRecorder]; omega
        simp only [rv0, rv1, rvE, rvH, rvS, rvI, eT, eQ, ↓reduceIte, Nat.reduceEqDiff, Nat.reduceAdd, Nat.reduceSub, Nat.reduceMul, Nat.reduceLeDiff, Nat.reduceBEq, decide_true, decide_false, reduceCtorEq, Int.reduceLT, Int.reduceNeg, rvN, Nat.reduceLT, Int.reduceLE, Int.reduceEq, eq_self, List.reduceReplicate, rvF, rvG, e9, e22, hlt, hr, hk, hwi, hi0, e]
      · left
        rw [subW_ge hcs] at hk
        have hnn : ¬ (a - (s.w : Nat) < 0) := by omega
        refine ⟨a - (s.w : Nat), ?_, ⟨by omega, by omega⟩, ?_⟩
        · simp only [rv0, rv1, rvE, rvH, rvS, rvI, eT, eQ, ↓reduceIte, Nat.reduceEqDiff, Nat.reduceAdd, Nat.reduceSub, Nat.reduceMul, Nat.reduceLeDiff, Nat.reduceBEq, decide_true, decide_false, reduceCtorEq, Int.reduceLT, Int.reduceNeg, rvN, Nat.reduceLT, Int.reduceLE, Int.reduceEq, eq_self, List.reduceReplicate, rvF, rvG, e9, e22, hlt, hr, hk, hnn, hwi, hi0, i64c]
        · have e1 : (a < (sumWRecorder (s :: r) : Nat)) ↔ (a - (s.w : Nat) < (sumWRecorder r : Nat)) := by simp only [sumWRecorder]; omega
          have e2 : a - (sumWRecorder (s :: r) : Nat) = a - (s.w : Nat) - (sumWRecorder r : Nat) := by simp only [sumWRecorder]; omega
          simp only [e1, e2]
    · intro a ⟨ha, hb⟩
      have e : ¬ (a < (sumWRecorder [] : Nat)) := by simp only [sumWRecorder]; omega
      have e2 : a - (sumWRecorder [] : Nat) = a := by simp only [sumWRecorder]; omega
      simp only [rv0, rv1, rvE, rvH, rvS, rvI, eT, eQ, ↓reduceIte, Nat.reduceEqDiff, Nat.reduceAdd, Nat.reduceSub, Nat.reduceMul, Nat.reduceLeDiff, Nat.reduceBEq, decide_true, decide_false, reduceCtorEq, Int.reduceLT, Int.reduceNeg, rvN, Nat.reduceLT, Int.reduceLE, Int.reduceEq, eq_self, List.reduceReplicate, rvF, rvG, e9, e, e2]
theorem k_szRecFix (x : VRecFix) (left : Int) (hx : x.ok) (h0 : 0 ≤ left) (h1 : left ≤ 1048576) : EV Try.prog E 24 [.val 0 true (VRecFix.c x), .val 0 false [.p (.int .i64 left)]] = some ⟨[(false, [.p (.int .i64 (subW left x.w))])], []⟩ := by
  refine EV_intro Try.func24 rfl ?_
  have hx0 := hx
  simp only [VRecFix.ok] at hx
  obtain ⟨o_index, o_text⟩ := hx
  have w0 := wrap64 (n := left - x.text.size) (by unfold maxLen at *; omega) (by omega)
  by_cases c0 : left < (x.text.size : Nat)
  · have e : subW left x.w = -1 := subW_lt (by unfold VRecFix.w; omega)
    have d0 : left - (x.text.size : Int) < 0 := by omega
    simp only [rv0, rv1, rvE, rvH, rvS, rvI, eT, eQ, ↓reduceIte, Nat.reduceEqDiff, Nat.reduceAdd, Nat.reduceSub, Nat.reduceMul, Nat.reduceLeDiff, Nat.reduceBEq, decide_true, decide_false, reduceCtorEq, Int.reduceLT, Int.reduceNeg, rvN, Nat.reduceLT, Int.reduceLE, Int.reduceEq, eq_self, List.reduceReplicate, rvF, rvG, e24, Try.f24, VRecFix.c, w0, d0, e]
  have d0 : ¬ (left - (x.text.size : Nat) < 0) := by omega
  have e : subW left x.w = left - (x.text.size : Nat) := by rw [subW_ge (by unfold VRecFix.w; omega)]; unfold VRecFix.w; omega
  simp only [rv0, rv1, rvE, rvH, rvS, rvI, eT, eQ, ↓reduceIte, Nat.reduceEqDiff, Nat.reduceAdd, Nat.reduceSub, Nat.reduceMul, Nat.reduceLeDiff, Nat.reduceBEq, decide_true, decide_false, reduceCtorEq, Int.reduceLT, Int.reduceNeg, rvN, Nat.reduceLT, Int.reduceLE, Int.reduceEq, eq_self, List.reduceReplicate, rvF, rvG, e24, Try.f24, VRecFix.c, w0, d0, e]
theorem k_szRecFixS (l : List VRecFix) (left : Int) (hx : l.length ≤ maxLen ∧ ∀ e ∈ l, e.ok) (h0 : 0 ≤ left) (h1 : left ≤ 1048576) : EV Try.prog E 11 [.val 0 false [.sl .shr 2 (l.map VRecFix.c)], .val 0 false [.p (.int .i64 left)]] = some ⟨[(false, [.p (.int .i64 (subW left (wSRecFix l)))])], []⟩ := by
  refine EV_intro Try.func11 rfl ?_
  obtain ⟨hn, hl⟩ := hx
  have hw := wrap64 (n := left - l.length) (by unfold maxLen at hn; omega) (by omega)
  by_cases hc : left - l.length < 0
  · have e : subW left (wSRecFix l) = -1 := subW_lt (by unfold wSRecFix; omega)
    simp only [rv0, rv1, rvE, rvH, rvS, rvI, eT, eQ, ↓reduceIte, Nat.reduceEqDiff, Nat.reduceAdd, Nat.reduceSub, Nat.reduceMul, Nat.reduceLeDiff, Nat.reduceBEq, decide_true, decide_false, reduceCtorEq, Int.reduceLT, Int.reduceNeg, rvN, Nat.reduceLT, Int.reduceLE, Int.reduceEq, eq_self, List.reduceReplicate, rvF, rvG, e11, Try.f11, hw, hc, e]
  · simp only [rv0, rv1, rvE, rvH, rvS, rvI, eT, eQ, ↓reduceIte, Nat.reduceEqDiff, Nat.reduceAdd, Nat.reduceSub, Nat.reduceMul, Nat.reduceLeDiff, Nat.reduceBEq, decide_true, decide_false, reduceCtorEq, Int.reduceLT, Int.reduceNeg, rvN, Nat.reduceLT, Int.reduceLE, Int.reduceEq, eq_self, List.reduceReplicate, rvF, rvG, e11, Try.f11, hw, hc]
    rw [for_block l (fun i a => ⟨3, [(0, .val 0 false [.sl .shr 2 (l.map VRecFix.c)]), (1, .val 1 false [.p (.int .i64 a)]), (5, .val 2 false [.p (.int .i64 i)])]⟩) (fun i a => 0 ≤ a ∧ a ≤ 1048576)
      (fun r i a => if a < (sumWRecFix r : Nat) then .ret ⟨[(false, [.p (.int .i64 (-1))])], []⟩ else .norm ⟨1, [(1, .val 0 false [.p (.int .i64 (a - (sumWRecFix r : Nat)))])]⟩) ?_ ?_ (a := left - l.length) ⟨by omega, by omega⟩ (by simp only [rv0, rv1, rvE, rvH, rvS, rvI, eT, eQ, ↓reduceIte, Nat.reduceEqDiff, Nat.reduceAdd, Nat.reduceSub, Nat.reduceMul, Nat.reduceLeDiff, Nat.reduceBEq, decide_true, decide_false, reduceCtorEq, Int.reduceLT, Int.reduceNeg, rvN, Nat.reduceLT, Int.reduceLE, Int.reduceEq, eq_self, List.reduceReplicate, rvF, rvG, e11]; rfl)]
    · by_cases hz : left - l.length < (sumWRecFix l : Nat)
      · have e : subW left (wSRecFix l) = -1 := subW_lt (by unfold wSRecFix; omega)
        simp only [rv0, rv1, rvE, rvH, rvS, rvI, eT, eQ, ↓reduceIte, Nat.reduceEqDiff, Nat.reduceAdd, Nat.reduceSub, Nat.reduceMul, Nat.reduceLeDiff, Nat.reduceBEq, decide_true, decide_false, reduceCtorEq, Int.reduceLT, Int.reduceNeg, rvN, Nat.reduceLT, Int.reduceLE, Int.reduceEq, eq_self, List.reduceReplicate, rvF, rvG, e11, hz, e]
      · have e : subW left (wSRecFix l) = left - l.length - (sumWRecFix l : Nat) := by rw [subW_ge (by unfold wSRecFix; omega)]; unfold wSRecFix; omega
        simp only [rv0, rv1, rvE, rvH, rvS, rvI, eT, eQ, ↓reduceIte, Nat.reduceEqDiff, Nat.reduceAdd, Nat.reduceSub, Nat.reduceMul, Nat.reduceLeDiff, Nat.reduceBEq, decide_true, decide_false, reduceCtorEq, Int.reduceLT, Int.reduceNeg, rvN, Nat.reduceLT, Int.reduceLE, Int.reduceEq, eq_self, List.reduceReplicate, rvF, rvG, e11, hz, e]
    · intro i s r a hd hi ⟨ha, hb⟩
      have hlen := (List.getElem?_eq_some_iff.1 hi).1
      have hlt : ((i : Int) < (l.length : Int)) := by omega
      have hr := getElem?_map_some (f := VRecFix.c) hi
      have hsz := hl s (List.mem_of_getElem? hi)
      unfold maxLen at hn
      have hwi := wrap64 (n := (i : Int) + 1) (by omega) (by omega)
      have hi0 : (0 : Int) ≤ (i : Int) := by omega
      simp only [VRecFix.c] at hr
      have hk := k_szRecFix s a hsz ha hb
      simp only [VRecFix.c] at hk
      by_cases hcs : a < (s.w : Nat)
      · right
        rw [subW_lt hcs] at hk
        have e : a < (sumWRecFix (s :: r) : Nat) := by simp only [sumWRecFix]; omega
        simp only [rv0, rv1, rvE, rvH, rvS, rvI, eT, eQ, ↓reduceIte, Nat.reduceEqDiff, Nat.reduceAdd, Nat.reduceSub, Nat.reduceMul, Nat.reduceLeDiff, Nat.reduceBEq, decide_true, decide_false, reduceCtorEq, Int.reduceLT, Int.reduceNeg, rvN, Nat.reduceLT, Int.reduceLE, Int.reduceEq, eq_self, List.reduceReplicate, rvF, rvG, e11, e24, hlt, hr, hk, hwi, hi0, e]
      · left
        rw [subW_ge hcs] at hk
        have hnn : ¬ (a - (s.w : Nat) < 0) := by omega
        refine ⟨a - (s.w : Nat), ?_, ⟨by omega, by omega⟩, ?_⟩
        · simp only [rv0, rv1, rvE, rvH, rvS, rvI, eT, eQ, ↓reduceIte, Nat.reduceEqDiff, Nat.reduceAdd, Nat.reduceSub, Nat.reduceMul, Nat.reduceLeDiff, Nat.reduceBEq, decide_true, decide_false, reduceCtorEq, Int.reduceLT, Int.reduceNeg, rvN, Nat.reduceLT, Int.reduceLE, Int.reduceEq, eq_self, List.reduceReplicate, rvF, rvG, e11, e24, hlt, hr, hk, hnn, hwi, hi0, i64c]
        · have e1 : (a < (sumWRecFix (s :: r) : Nat)) ↔ (a - (s.w : Nat) < (sumWRecFix r : Nat)) := by simp only [sumWRecFix]; omega
          have e2 : a - (sumWRecFix (s :: r) : Nat) = a - (s.w : Nat) - (sumWRecFix r : Nat) := by simp only [sumWRecFix]; omega
          simp only [e1, e2]
    · intro a ⟨ha, hb⟩
      have e : ¬ (a < (sumWRecFix [] : Nat)) := by simp only [sumWRecFix]; omega
      have e2 : a - (sumWRecFix [] : Nat) = a := by simp only [sumWRecFix]; omega
      simp only [rv0, rv1, rvE, rvH, rvS, rvI, eT, eQ, ↓reduceIte, Nat.reduceEqDiff, Nat.reduceAdd, Nat.reduceSub, Nat.reduceMul, Nat.reduceLeDiff, Nat.reduceBEq, decide_true, decide_false, reduceCtorEq, Int.reduceLT, Int.reduceNeg, rvN, Nat.reduceLT, Int.reduceLE, Int.reduceEq, eq_self, List.reduceReplicate, rvF, rvG, e11, e, e2]
theorem k_szRecWorld (x : VRecWorld) (left : Int) (hx : x.ok) (h0 : 0 ≤ left) (h1 : left ≤ 1048576) : EV Try.prog E 4 [.val 0 true (VRecWorld.c .shr x), .val 0 false [.p (.int .i64 left)]] = some ⟨[(false, [.p (.int .i64 (subW left x.w))])], []⟩ := by
  refine EV_intro Try.func4 rfl ?_
  have hx0 := hx
  simp only [VRecWorld.ok] at hx
  obtain ⟨o_recorders, o_flight, o_fixed⟩ := hx
  have w0 := k_szRecorderS x.recorders (left) o_recorders (by omega) (by omega)
  by_cases c0 : left < (wSRecorder x.recorders : Nat)
  · have e : subW left x.w = -1 := subW_lt (by unfold VRecWorld.w; omega)
    rw [subW_lt c0] at w0
    simp only [rv0, rv1, rvE, rvH, rvS, rvI, eT, eQ, ↓reduceIte, Nat.reduceEqDiff, Nat.reduceAdd, Nat.reduceSub, Nat.reduceMul, Nat.reduceLeDiff, Nat.reduceBEq, decide_true, decide_false, reduceCtorEq, Int.reduceLT, Int.reduceNeg, rvN, Nat.reduceLT, Int.reduceLE, Int.reduceEq, eq_self, List.reduceReplicate, rvF, rvG, e4, e9, Try.f4, VRecWorld.c, w0, e]
  rw [subW_ge c0] at w0
  have d0 : ¬ (left - (wSRecorder x.recorders : Nat) < 0) := by omega
  have w1 := k_szRecMessageS x.flight (left - (wSRecorder x.recorders : Nat)) o_flight (by omega) (by omega)
  by_cases c1 : left - (wSRecorder x.recorders : Nat) < (wSRecMessage x.flight : Nat)
  · have e : subW left x.w = -1 := subW_lt (by unfold VRecWorld.w; omega)
    rw [subW_lt c1] at w1
    simp only [rv0, rv1, rvE, rvH, rvS, rvI, eT, eQ, ↓reduceIte, Nat.reduceEqDiff, Nat.reduceAdd, Nat.reduceSub, Nat.reduceMul, Nat.reduceLeDiff, Nat.reduceBEq, decide_true, decide_false, reduceCtorEq, Int.reduceLT, Int.reduceNeg, rvN, Nat.reduceLT, Int.reduceLE, Int.reduceEq, eq_self, List.reduceReplicate, rvF, rvG, e4, e9, e10, Try.f4, VRecWorld.c, w0, d0, w1, e]
  rw [subW_ge c1] at w1
  have d1 : ¬ (left - (wSRecorder x.recorders : Nat) - (wSRecMessage x.flight : Nat) < 0) := by omega
  have w2 := k_szRecFixS x.fixed (left - (wSRecorder x.recorders : Nat) - (wSRecMessage x.flight : Nat)) o_fixed (by omega) (by omega)
  by_cases c2 : left - (wSRecorder x.recorders : Nat) - (wSRecMessage x.flight : Nat) < (wSRecFix x.fixed : Nat)
  · have e : subW left x.w = -1 := subW_lt (by unfold VRecWorld.w; omega)
    rw [subW_lt c2] at w2
    simp only [rv0, rv1, rvE, rvH, rvS, rvI, eT, eQ, ↓reduceIte, Nat.reduceEqDiff, Nat.reduceAdd, Nat.reduceSub, Nat.reduceMul, Nat.reduceLeDiff, Nat.reduceBEq, decide_true, decide_false, reduceCtorEq, Int.reduceLT, Int.reduceNeg, rvN, Nat.reduceLT, Int.reduceLE, Int.reduceEq, eq_self, List.reduceReplicate, rvF, rvG, e4, e9, e10, e11, Try.f4, VRecWorld.c, w0, d0, w1, d1, w2, e]
  rw [subW_ge c2] at w2
  have d2 : ¬ (left - (wSRecorder x.recorders : Nat) - (wSRecMessage x.flight : Nat) - (wSRecFix x.fixed : Nat) < 0) := by omega
  have e : subW left x.w = left - (wSRecorder x.recorders : Nat) - (wSRecMessage x.flight : Nat) - (wSRecFix x.fixed : Nat) := by rw [subW_ge (by unfold VRecWorld.w; omega)]; unfold VRecWorld.w; omega
  simp only [rv0, rv1, rvE, rvH, rvS, rvI, eT, eQ, ↓reduceIte, Nat.reduceEqDiff, Nat.reduceAdd, Nat.reduceSub, Nat.reduceMul, Nat.reduceLeDiff, Nat.reduceBEq, decide_true, decide_false, reduceCtorEq, Int.reduceLT, Int.reduceNeg, rvN, Nat.reduceLT, Int.reduceLE, Int.reduceEq, eq_self, List.reduceReplicate, rvF, rvG, e4, e9, e10, e11, Try.f4, VRecWorld.c, w0, d0, w1, d1, w2, d2, e]
theorem k_toRecorderS (l : List VRecorder) (hw : wSRecorder l ≤ 4194304) : EV Try.prog E 14 [.val 0 false [.sl .shr 18 (l.map (VRecorder.c .shr))]] = some ⟨[(false, [.sl .own 18 (l.map (VRecorder.c .own))])], []⟩ := by
  refine EV_intro Try.func14 rfl ?_
  have hn : l.length ≤ 4194304 := by unfold wSRecorder at hw; omega
  have h1 : l.length < 4294967296 := by omega
  have h0 : (0 : Int) ≤ (l.length : Int) := by omega
  have hz := repl_whole (z := [.p (.int .i64 0), .p (.int .i64 0), .p (.bool false), .p (.int .i64 0), .p (.int .i64 0), .sl .own 2 [], .p (.int .i64 0), .p (.int .i64 0), .sl .own 2 [], .sl .own 8 [], .sl .own 1 [], .p (.bool false), .p (.bool false), .p (.int .i64 0), .sl .own 1 [], .sl .own 2 [], .sl .own 2 [], .p (.int .i64 0)]) (by simp only [rv0, rv1, rvE, rvH, rvS, rvI, eT, eQ, ↓reduceIte, Nat.reduceEqDiff, Nat.reduceAdd, Nat.reduceSub, Nat.reduceMul, Nat.reduceLeDiff, Nat.reduceBEq, decide_true, decide_false, reduceCtorEq, Int.reduceLT, Int.reduceNeg, rvN, Nat.reduceLT, Int.reduceLE, Int.reduceEq, eq_self, List.reduceReplicate, rvF, rvG, Fl.isShr, Fl.isOwn]) l.length
  simp only [rv0, rv1, rvE, rvH, rvS, rvI, eT, eQ, ↓reduceIte, Nat.reduceEqDiff, Nat.reduceAdd, Nat.reduceSub, Nat.reduceMul, Nat.reduceLeDiff, Nat.reduceBEq, decide_true, decide_false, reduceCtorEq, Int.reduceLT, Int.reduceNeg, rvN, Nat.reduceLT, Int.reduceLE, Int.reduceEq, eq_self, List.reduceReplicate, rvF, rvG, e14, Try.f14, LIM, h1, h0, hz]
  rw [for_block l (fun i (_ : Unit) => ⟨3, [(0, .val 0 false [.sl .shr 18 (l.map (VRecorder.c .shr))]), (3, .val 1 false [.sl .own 18 (fillR (VRecorder.c .own) l [.p (.int .i64 0), .p (.int .i64 0), .p (.bool false), .p (.int .i64 0), .p (.int .i64 0), .sl .own 2 [], .p (.int .i64 0), .p (.int .i64 0), .sl .own 2 [], .sl .own 8 [], .sl .own 1 [], .p (.bool false), .p (.bool false), .p (.int .i64 0), .sl .own 1 [], .sl .own 2 [], .sl .own 2 [], .p (.int .i64 0)] i)]), (4, .val 2 false [.p (.int .i64 i)])]⟩) (fun i _ => True)
      (fun r i a => .norm ⟨1, [(3, .val 0 false [.sl .own 18 (l.map (VRecorder.c .own))])]⟩) ?_ ?_ (a := ()) trivial (by simp only [rv0, rv1, rvE, rvH, rvS, rvI, eT, eQ, ↓reduceIte, Nat.reduceEqDiff, Nat.reduceAdd, Nat.reduceSub, Nat.reduceMul, Nat.reduceLeDiff, Nat.reduceBEq, decide_true, decide_false, reduceCtorEq, Int.reduceLT, Int.reduceNeg, rvN, Nat.reduceLT, Int.reduceLE, Int.reduceEq, eq_self, List.reduceReplicate, rvF, rvG, e14, fill_zero]; rfl)]
  · simp only [rv0, rv1, rvE, rvH, rvS, rvI, eT, eQ, ↓reduceIte, Nat.reduceEqDiff, Nat.reduceAdd, Nat.reduceSub, Nat.reduceMul, Nat.reduceLeDiff, Nat.reduceBEq, decide_true, decide_false, reduceCtorEq, Int.reduceLT, Int.reduceNeg, rvN, Nat.reduceLT, Int.reduceLE, Int.reduceEq, eq_self, List.reduceReplicate, rvF, rvG, e14, rowsRecorder]
  · intro i s r a hd hi _
    have hlen := (List.getElem?_eq_some_iff.1 hi).1
    have hlt : ((i : Int) < (l.length : Int)) := by omega
    have hr := getElem?_map_some (f := (VRecorder.c .shr)) hi
    have hwi := wrap64 (n := (i : Int) + 1) (by omega) (by omega)
    have hi0 : (0 : Int) ≤ (i : Int) := by omega
    have hg := fill_get (VRecorder.c .own) [.p (.int .i64 0), .p (.int .i64 0), .p (.bool false), .p (.int .i64 0), .p (.int .i64 0), .sl .own 2 [], .p (.int .i64 0), .p (.int .i64 0), .sl .own 2 [], .sl .own 8 [], .sl .own 1 [], .p (.bool false), .p (.bool false), .p (.int .i64 0), .sl .own 1 [], .sl .own 2 [], .sl .own 2 [], .p (.int .i64 0)] hlen
    have hs := fill_set (VRecorder.c .own) [.p (.int .i64 0), .p (.int .i64 0), .p (.bool false), .p (.int .i64 0), .p (.int .i64 0), .sl .own 2 [], .p (.int .i64 0), .p (.int .i64 0), .sl .own 2 [], .sl .own 8 [], .sl .own 1 [], .p (.bool false), .p (.bool false), .p (.int .i64 0), .sl .own 1 [], .sl .own 2 [], .sl .own 2 [], .p (.int .i64 0)] hi
    have hfl := fill_length (VRecorder.c .own) l [.p (.int .i64 0), .p (.int .i64 0), .p (.bool false), .p (.int .i64 0), .p (.int .i64 0), .sl .own 2 [], .p (.int .i64 0), .p (.int .i64 0), .sl .own 2 [], .sl .own 8 [], .sl .own 1 [], .p (.bool false), .p (.bool false), .p (.int .i64 0), .sl .own 1 [], .sl .own 2 [], .sl .own 2 [], .p (.int .i64 0)] (Nat.le_of_lt hlen)
    simp only [VRecorder.c] at hr hs
    have hm := k_toRecorder s (by have := wSRecorder_mem (List.mem_of_getElem? hi); unfold wSRecorder at hw; omega)
    simp only [VRecorder.c] at hm
    left
    refine ⟨(), ?_, trivial, rfl⟩
    simp only [rv0, rv1, rvE, rvH, rvS, rvI, eT, eQ, ↓reduceIte, Nat.reduceEqDiff, Nat.reduceAdd, Nat.reduceSub, Nat.reduceMul, Nat.reduceLeDiff, Nat.reduceBEq, decide_true, decide_false, reduceCtorEq, Int.reduceLT, Int.reduceNeg, rvN, Nat.reduceLT, Int.reduceLE, Int.reduceEq, eq_self, List.reduceReplicate, rvF, rvG, e14, e28, hlt, hr, hm, hwi, hi0, hg, hs, hfl, hlen, i64c, rowsRecSlot, rowsRecMessage, rowsString, rowsInt, rowsRecAck]
  · intro a _
    simp only [rv0, rv1, rvE, rvH, rvS, rvI, eT, eQ, ↓reduceIte, Nat.reduceEqDiff, Nat.reduceAdd, Nat.reduceSub, Nat.reduceMul, Nat.reduceLeDiff, Nat.reduceBEq, decide_true, decide_false, reduceCtorEq, Int.reduceLT, Int.reduceNeg, rvN, Nat.reduceLT, Int.reduceLE, Int.reduceEq, eq_self, List.reduceReplicate, rvF, rvG, e14, fill_end]
theorem k_toRecFix (x : VRecFix) (hw : x.w ≤ 4194304) : EV Try.prog E 30 [.val 0 true (VRecFix.c x)] = some ⟨[(true, VRecFix.c x)], []⟩ := by
  refine EV_intro Try.func30 rfl ?_
  unfold VRecFix.w at hw
  simp only [rv0, rv1, rvE, rvH, rvS, rvI, eT, eQ, ↓reduceIte, Nat.reduceEqDiff, Nat.reduceAdd, Nat.reduceSub, Nat.reduceMul, Nat.reduceLeDiff, Nat.reduceBEq, decide_true, decide_false, reduceCtorEq, Int.reduceLT, Int.reduceNeg, rvN, Nat.reduceLT, Int.reduceLE, Int.reduceEq, eq_self, List.reduceReplicate, rvF, rvG, e30, Try.f30, VRecFix.c]
theorem k_toRecFixS (l : List VRecFix) (hw : wSRecFix l ≤ 4194304) : EV Try.prog E 16 [.val 0 false [.sl .shr 2 (l.map VRecFix.c)]] = some ⟨[(false, [.sl .own 2 (l.map VRecFix.c)])], []⟩ := by
  refine EV_intro Try.func16 rfl ?_
  have hn : l.length ≤ 4194304 := by unfold wSRecFix at hw; omega
  have h1 : l.length < 4294967296 := by omega
  have h0 : (0 : Int) ≤ (l.length : Int) := by omega
  have hz := repl_whole (z := [.p (.int .i64 0), .p (.string ⟨#[]⟩)]) (by simp only [rv0, rv1, rvE, rvH, rvS, rvI, eT, eQ, ↓reduceIte, Nat.reduceEqDiff, Nat.reduceAdd, Nat.reduceSub, Nat.reduceMul, Nat.reduceLeDiff, Nat.reduceBEq, decide_true, decide_false, reduceCtorEq, Int.reduceLT, Int.reduceNeg, rvN, Nat.reduceLT, Int.reduceLE, Int.reduceEq, eq_self, List.reduceReplicate, rvF, rvG, Fl.isShr, Fl.isOwn]) l.length
  simp only [rv0, rv1, rvE, rvH, rvS, rvI, eT, eQ, ↓reduceIte, Nat.reduceEqDiff, Nat.reduceAdd, Nat.reduceSub, Nat.reduceMul, Nat.reduceLeDiff, Nat.reduceBEq, decide_true, decide_false, reduceCtorEq, Int.reduceLT, Int.reduceNeg, rvN, Nat.reduceLT, Int.reduceLE, Int.reduceEq, eq_self, List.reduceReplicate, rvF, rvG, e16, Try.f16, LIM, h1, h0, hz]
  rw [for_block l (fun i (_ : Unit) => ⟨3, [(0, .val 0 false [.sl .shr 2 (l.map VRecFix.c)]), (3, .val 1 false [.sl .own 2 (fillR VRecFix.c l [.p (.int .i64 0), .p (.string ⟨#[]⟩)] i)]), (4, .val 2 false [.p (.int .i64 i)])]⟩) (fun i _ => True)
      (fun r i a => .norm ⟨1, [(3, .val 0 false [.sl .own 2 (l.map VRecFix.c)])]⟩) ?_ ?_ (a := ()) trivial (by simp only [rv0, rv1, rvE, rvH, rvS, rvI, eT, eQ, ↓reduceIte, Nat.reduceEqDiff, Nat.reduceAdd, Nat.reduceSub, Nat.reduceMul, Nat.reduceLeDiff, Nat.reduceBEq, decide_true, decide_false, reduceCtorEq, Int.reduceLT, Int.reduceNeg, rvN, Nat.reduceLT, Int.reduceLE, Int.reduceEq, eq_self, List.reduceReplicate, rvF, rvG, e16, fill_zero]; rfl)]
  · simp only [rv0, rv1, rvE, rvH, rvS, rvI, eT, eQ, ↓reduceIte, Nat.reduceEqDiff, Nat.reduceAdd, Nat.reduceSub, Nat.reduceMul, Nat.reduceLeDiff, Nat.reduceBEq, decide_true, decide_false, reduceCtorEq, Int.reduceLT, Int.reduceNeg, rvN, Nat.reduceLT, Int.reduceLE, Int.reduceEq, eq_self, List.reduceReplicate, rvF, rvG, e16, rowsRecFix]
  · intro i s r a hd hi _
    have hlen := (List.getElem?_eq_some_iff.1 hi).1
    have hlt : ((i : Int) < (l.length : Int)) := by omega
    have hr := getElem?_map_some (f := VRecFix.c) hi
    have hwi := wrap64 (n := (i : Int) + 1) (by omega) (by omega)
    have hi0 : (0 : Int) ≤ (i : Int) := by omega
    have hg := fill_get VRecFix.c [.p (.int .i64 0), .p (.string ⟨#[]⟩)] hlen
    have hs := fill_set VRecFix.c [.p (.int .i64 0), .p (.string ⟨#[]⟩)] hi
    have hfl := fill_length VRecFix.c l [.p (.int .i64 0), .p (.string ⟨#[]⟩)] (Nat.le_of_lt hlen)
    simp only [VRecFix.c] at hr hs
    have hm := k_toRecFix s (by have := wSRecFix_mem (List.mem_of_getElem? hi); unfold wSRecFix at hw; omega)
    simp only [VRecFix.c] at hm
    left
    refine ⟨(), ?_, trivial, rfl⟩
    simp only [rv0, rv1, rvE, rvH, rvS, rvI, eT, eQ, ↓reduceIte, Nat.reduceEqDiff, Nat.reduceAdd, Nat.reduceSub, Nat.reduceMul, Nat.reduceLeDiff, Nat.reduceBEq, decide_true, decide_false, reduceCtorEq, Int.reduceLT, Int.reduceNeg, rvN, Nat.reduceLT, Int.reduceLE, Int.reduceEq, eq_self, List.reduceReplicate, rvF, rvG, e16, e30, hlt, hr, hm, hwi, hi0, hg, hs, hfl, hlen, i64c]
  · intro a _
    simp only [rv0, rv1, rvE, rvH, rvS, rvI, eT, eQ, ↓reduceIte, Nat.reduceEqDiff, Nat.reduceAdd, Nat.reduceSub, Nat.reduceMul, Nat.reduceLeDiff, Nat.reduceBEq, decide_true, decide_false, reduceCtorEq, Int.reduceLT, Int.reduceNeg, rvN, Nat.reduceLT, Int.reduceLE, Int.reduceEq, eq_self, List.reduceReplicate, rvF, rvG, e16, fill_end]
theorem k_toRecWorld (x : VRecWorld) (hw : x.w ≤ 4194304) : EV Try.prog E 6 [.val 0 true (VRecWorld.c .shr x)] = some ⟨[(true, VRecWorld.c .own x)], []⟩ := by
  refine EV_intro Try.func6 rfl ?_
  unfold VRecWorld.w at hw
  have h0 := k_toRecorderS x.recorders (by omega)
  have h1 := k_toRecMessageS x.flight (by omega)
  have h2 := k_toRecFixS x.fixed (by omega)
  simp only [rv0, rv1, rvE, rvH, rvS, rvI, eT, eQ, ↓reduceIte, Nat.reduceEqDiff, Nat.reduceAdd, Nat.reduceSub, Nat.reduceMul, Nat.reduceLeDiff, Nat.reduceBEq, decide_true, decide_false, reduceCtorEq, Int.reduceLT, Int.reduceNeg, rvN, Nat.reduceLT, Int.reduceLE, Int.reduceEq, eq_self, List.reduceReplicate, rvF, rvG, e6, e14, e15, e16, Try.f6, VRecWorld.c, h0, h1, h2, rowsRecorder, rowsRecMessage, rowsRecFix]
theorem k_eqRecorderS (l : List VRecorder) (hw : wSRecorder l ≤ 4194304) : EV Try.prog E 19 [.val 0 false [.sl .shr 18 (l.map (VRecorder.c .shr))], .val 0 false [.sl .shr 18 (l.map (VRecorder.c .shr))]] = some ⟨[(false, [.p (.bool true)])], []⟩ := by
  refine EV_intro Try.func19 rfl ?_
  have hn : l.length ≤ 4194304 := by unfold wSRecorder at hw; omega
  simp only [rv0, rv1, rvE, rvH, rvS, rvI, eT, eQ, ↓reduceIte, Nat.reduceEqDiff, Nat.reduceAdd, Nat.reduceSub, Nat.reduceMul, Nat.reduceLeDiff, Nat.reduceBEq, decide_true, decide_false, reduceCtorEq, Int.reduceLT, Int.reduceNeg, rvN, Nat.reduceLT, Int.reduceLE, Int.reduceEq, eq_self, List.reduceReplicate, rvF, rvG, e19, Try.f19]
  rw [for_block l (fun i (_ : Unit) => ⟨3, [(0, .val 0 false [.sl .shr 18 (l.map (VRecorder.c .shr))]), (1, .val 1 false [.sl .shr 18 (l.map (VRecorder.c .shr))]), (5, .val 2 false [.p (.int .i64 i)])]⟩) (fun i _ => True)
      (fun r i a => .norm ⟨0, []⟩) ?_ ?_ (a := ()) trivial (by simp only [rv0, rv1, rvE, rvH, rvS, rvI, eT, eQ, ↓reduceIte, Nat.reduceEqDiff, Nat.reduceAdd, Nat.reduceSub, Nat.reduceMul, Nat.reduceLeDiff, Nat.reduceBEq, decide_true, decide_false, reduceCtorEq, Int.reduceLT, Int.reduceNeg, rvN, Nat.reduceLT, Int.reduceLE, Int.reduceEq, eq_self, List.reduceReplicate, rvF, rvG, e19]; rfl)]
  · simp only [rv0, rv1, rvE, rvH, rvS, rvI, eT, eQ, ↓reduceIte, Nat.reduceEqDiff, Nat.reduceAdd, Nat.reduceSub, Nat.reduceMul, Nat.reduceLeDiff, Nat.reduceBEq, decide_true, decide_false, reduceCtorEq, Int.reduceLT, Int.reduceNeg, rvN, Nat.reduceLT, Int.reduceLE, Int.reduceEq, eq_self, List.reduceReplicate, rvF, rvG, e19]
  · intro i s r a hd hi _
    have hlen := (List.getElem?_eq_some_iff.1 hi).1
    have hlt : ((i : Int) < (l.length : Int)) := by omega
    have hr := getElem?_map_some (f := (VRecorder.c .shr)) hi
    have hwi := wrap64 (n := (i : Int) + 1) (by omega) (by omega)
    have hi0 : (0 : Int) ≤ (i : Int) := by omega
    simp only [VRecorder.c] at hr
    have hm := k_eqRecorder s (by have := wSRecorder_mem (List.mem_of_getElem? hi); unfold wSRecorder at hw; omega)
    simp only [VRecorder.c] at hm
    left
    refine ⟨(), ?_, trivial, rfl⟩
    simp only [rv0, rv1, rvE, rvH, rvS, rvI, eT, eQ, ↓reduceIte, Nat.reduceEqDiff, Nat.reduceAdd, Nat.reduceSub, Nat.reduceMul, Nat.reduceLeDiff, Nat.reduceBEq, decide_true, decide_false, reduceCtorEq, Int.reduceLT, Int.reduceNeg, rvN, Nat.reduceLT, Int.reduceLE, Int.reduceEq, eq_self, List.reduceReplicate, rvF, rvG, e19, e34, hlt, hr, hm, hwi, hi0, i64c, beq_self_eq_true]
  · intro a _
    simp only [rv0, rv1, rvE, rvH, rvS, rvI, eT, eQ, ↓reduceIte, Nat.reduceEqDiff, Nat.reduceAdd, Nat.reduceSub, Nat.reduceMul, Nat.reduceLeDiff, Nat.reduceBEq, decide_true, decide_false, reduceCtorEq, Int.reduceLT, Int.reduceNeg, rvN, Nat.reduceLT, Int.reduceLE, Int.reduceEq, eq_self, List.reduceReplicate, rvF, rvG, e19]
theorem k_eqRecFix (x : VRecFix) (hw : x.w ≤ 4194304) : EV Try.prog E 36 [.val 0 true (VRecFix.c x), .val 0 true (VRecFix.c x)] = some ⟨[(false, [.p (.bool true)])], []⟩ := by
  refine EV_intro Try.func36 rfl ?_
  unfold VRecFix.w at hw
  simp only [rv0, rv1, rvE, rvH, rvS, rvI, eT, eQ, ↓reduceIte, Nat.reduceEqDiff, Nat.reduceAdd, Nat.reduceSub, Nat.reduceMul, Nat.reduceLeDiff, Nat.reduceBEq, decide_true, decide_false, reduceCtorEq, Int.reduceLT, Int.reduceNeg, rvN, Nat.reduceLT, Int.reduceLE, Int.reduceEq, eq_self, List.reduceReplicate, rvF, rvG, e36, Try.f36, VRecFix.c, beq_self_eq_true]
theorem k_eqRecFixS (l : List VRecFix) (hw : wSRecFix l ≤ 4194304) : EV Try.prog E 21 [.val 0 false [.sl .shr 2 (l.map VRecFix.c)], .val 0 false [.sl .shr 2 (l.map VRecFix.c)]] = some ⟨[(false, [.p (.bool true)])], []⟩ := by
  refine EV_intro Try.func21 rfl ?_
  have hn : l.length ≤ 4194304 := by unfold wSRecFix at hw; omega
  simp only [rv0, rv1, rvE, rvH, rvS, rvI, eT, eQ, ↓reduceIte, Nat.reduceEqDiff, Nat.reduceAdd, Nat.reduceSub, Nat.reduceMul, Nat.reduceLeDiff, Nat.reduceBEq, decide_true, decide_false, reduceCtorEq, Int.reduceLT, Int.reduceNeg, rvN, Nat.reduceLT, Int.reduceLE, Int.reduceEq, eq_self, List.reduceReplicate, rvF, rvG, e21, Try.f21]
  rw [for_block l (fun i (_ : Unit) => ⟨3, [(0, .val 0 false [.sl .shr 2 (l.map VRecFix.c)]), (1, .val 1 false [.sl .shr 2 (l.map VRecFix.c)]), (5, .val 2 false [.p (.int .i64 i)])]⟩) (fun i _ => True)
      (fun r i a => .norm ⟨0, []⟩) ?_ ?_ (a := ()) trivial (by simp only [rv0, rv1, rvE, rvH, rvS, rvI, eT, eQ, ↓reduceIte, Nat.reduceEqDiff, Nat.reduceAdd, Nat.reduceSub, Nat.reduceMul, Nat.reduceLeDiff, Nat.reduceBEq, decide_true, decide_false, reduceCtorEq, Int.reduceLT, Int.reduceNeg, rvN, Nat.reduceLT, Int.reduceLE, Int.reduceEq, eq_self, List.reduceReplicate, rvF, rvG, e21]; rfl)]
  · simp only [rv0, rv1, rvE, rvH, rvS, rvI, eT, eQ, ↓reduceIte, Nat.reduceEqDiff, Nat.reduceAdd, Nat.reduceSub, Nat.reduceMul, Nat.reduceLeDiff, Nat.reduceBEq, decide_true, decide_false, reduceCtorEq, Int.reduceLT, Int.reduceNeg, rvN, Nat.reduceLT, Int.reduceLE, Int.reduceEq, eq_self, List.reduceReplicate, rvF, rvG, e21]
  · intro i s r a hd hi _
    have hlen := (List.getElem?_eq_some_iff.1 hi).1
    have hlt : ((i : Int) < (l.length : Int)) := by omega
    have hr := getElem?_map_some (f := VRecFix.c) hi
    have hwi := wrap64 (n := (i : Int) + 1) (by omega) (by omega)
    have hi0 : (0 : Int) ≤ (i : Int) := by omega
    simp only [VRecFix.c] at hr
    have hm := k_eqRecFix s (by have := wSRecFix_mem (List.mem_of_getElem? hi); unfold wSRecFix at hw; omega)
    simp only [VRecFix.c] at hm
    left
    refine ⟨(), ?_, trivial, rfl⟩
    simp only [rv0, rv1, rvE, rvH, rvS, rvI, eT, eQ, ↓reduceIte, Nat.reduceEqDiff, Nat.reduceAdd, Nat.reduceSub, Nat.reduceMul, Nat.reduceLeDiff, Nat.reduceBEq, decide_true, decide_false, reduceCtorEq, Int.reduceLT, Int.reduceNeg, rvN, Nat.reduceLT, Int.reduceLE, Int.reduceEq, eq_self, List.reduceReplicate, rvF, rvG, e21, e36, hlt, hr, hm, hwi, hi0, i64c, beq_self_eq_true]
  · intro a _
    simp only [rv0, rv1, rvE, rvH, rvS, rvI, eT, eQ, ↓reduceIte, Nat.reduceEqDiff, Nat.reduceAdd, Nat.reduceSub, Nat.reduceMul, Nat.reduceLeDiff, Nat.reduceBEq, decide_true, decide_false, reduceCtorEq, Int.reduceLT, Int.reduceNeg, rvN, Nat.reduceLT, Int.reduceLE, Int.reduceEq, eq_self, List.reduceReplicate, rvF, rvG, e21]
theorem k_eqRecWorld (x : VRecWorld) (hw : x.w ≤ 4194304) : EV Try.prog E 8 [.val 0 true (VRecWorld.c .shr x), .val 0 true (VRecWorld.c .shr x)] = some ⟨[(false, [.p (.bool true)])], []⟩ := by
  refine EV_intro Try.func8 rfl ?_
  unfold VRecWorld.w at hw
  have h0 := k_eqRecorderS x.recorders (by omega)
  have h1 := k_eqRecMessageS x.flight (by omega)
  have h2 := k_eqRecFixS x.fixed (by omega)
  simp only [rv0, rv1, rvE, rvH, rvS, rvI, eT, eQ, ↓reduceIte, Nat.reduceEqDiff, Nat.reduceAdd, Nat.reduceSub, Nat.reduceMul, Nat.reduceLeDiff, Nat.reduceBEq, decide_true, decide_false, reduceCtorEq, Int.reduceLT, Int.reduceNeg, rvN, Nat.reduceLT, Int.reduceLE, Int.reduceEq, eq_self, List.reduceReplicate, rvF, rvG, e8, e19, e20, e21, Try.f8, VRecWorld.c, h0, h1, h2, beq_self_eq_true]
end Go.Proofs.Ytnhgopjnnedhdaa

