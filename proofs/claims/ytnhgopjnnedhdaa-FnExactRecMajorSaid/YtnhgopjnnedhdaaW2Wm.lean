/- RecWorldOk: what the functions compute. -/
import Derived.Test.YtnhgopjnnedhdaaW2Dm
import Derived.Test.YtnhgopjnnedhdaaF5wm
namespace Go.Proofs.Ytnhgopjnnedhdaa
open Go.Sx
set_option maxRecDepth 100000
set_option linter.unusedVariables false
set_option linter.unusedSimpArgs false

def rOk (n : Nat) (i : Nat) (r : VRecorder) : Bool := valid r && (decide (r.number = (i : Int) + 1) && decide (r.of_ = (n : Int)))
def rGo (n : Nat) : List VRecorder → Nat → Bool
  | [], _ => true
  | r :: q, i => rOk n i r && rGo n q (i + 1)
def fOk (l : List VRecFix) (i : Nat) (f : VRecFix) : Bool := inR f.index 1 60 && (!decide (100 < (f.text.size : Int)) && !(decide (0 < (i : Int)) && decide (f.index ≤ ((l[i - 1]?).map VRecFix.index).getD 0)))
def fGo (l : List VRecFix) : List VRecFix → Nat → Bool
  | [], _ => true
  | f :: q, i => fOk l i f && fGo l q (i + 1)
def worldOk (w : VRecWorld) : Bool := inR (w.recorders.length : Int) 1 5 && (!decide (600 < (w.flight.length : Int)) && (rGo w.recorders.length w.recorders 0 && (w.flight.all (fun m => msgOkV m w.recorders.length) && fGo w.fixed w.fixed 0)))

theorem k12 (x : VRecWorld) (hw : x.w ≤ 4194304) : EV Try.prog E 12 [.val 0 true (x.c .shr)] = some ⟨[(false, [.p (.bool (worldOk x))])], []⟩ := by
  refine EV_intro Try.func12 rfl ?_
  have hw0 := hw
  unfold VRecWorld.w wSRecorder wSRecMessage wSRecFix at hw
  have g1 := k25 x.recorders.length 1 5
  cases c1 : inR (x.recorders.length : Int) 1 5
  · simp only [rv0, rv1, rvE, rvH, rvS, rvI, eT, eQ, ↓reduceIte, Nat.reduceEqDiff, Nat.reduceAdd, Nat.reduceSub, Nat.reduceMul, Nat.reduceLeDiff, Nat.reduceBEq, decide_true, decide_false, reduceCtorEq, Int.reduceLT, Int.reduceNeg, rvN, Nat.reduceLT, Int.reduceLE, Int.reduceEq, eq_self, List.reduceReplicate, rvF, rvG, e12, e26, e27, e25, Try.f12, VRecWorld.c, worldOk, g1, c1]
  cases c2 : decide (600 < (x.flight.length : Int))
  rotate_left
  · simp only [rv0, rv1, rvE, rvH, rvS, rvI, eT, eQ, ↓reduceIte, Nat.reduceEqDiff, Nat.reduceAdd, Nat.reduceSub, Nat.reduceMul, Nat.reduceLeDiff, Nat.reduceBEq, decide_true, decide_false, reduceCtorEq, Int.reduceLT, Int.reduceNeg, rvN, Nat.reduceLT, Int.reduceLE, Int.reduceEq, eq_self, List.reduceReplicate, rvF, rvG, e12, e26, e27, e25, Try.f12, VRecWorld.c, worldOk, g1, c1, c2]
  simp only [rv0, rv1, rvE, rvH, rvS, rvI, eT, eQ, ↓reduceIte, Nat.reduceEqDiff, Nat.reduceAdd, Nat.reduceSub, Nat.reduceMul, Nat.reduceLeDiff, Nat.reduceBEq, decide_true, decide_false, reduceCtorEq, Int.reduceLT, Int.reduceNeg, rvN, Nat.reduceLT, Int.reduceLE, Int.reduceEq, eq_self, List.reduceReplicate, rvF, rvG, e12, e26, e27, e25, Try.f12, VRecWorld.c, g1, c1, c2]
  rw [for_block x.recorders (fun i (_ : Unit) => ⟨3, [(1, .box 0 0 (x.c .shr)), (3, .val 1 false [.p (.int .i64 x.recorders.length)]), (4, .val 2 false [.p (.int .i64 i)])]⟩) (fun i _ => True)
    (fun r i a => if rGo x.recorders.length r i = true then .norm ⟨2, [(1, .box 0 0 (x.c .shr)), (3, .val 1 false [.p (.int .i64 x.recorders.length)])]⟩ else .ret ⟨[(false, [.p (.bool false)])], []⟩) ?_ ?_ (a := ()) trivial (by simp only [rv0, rv1, rvE, rvH, rvS, rvI, eT, eQ, ↓reduceIte, Nat.reduceEqDiff, Nat.reduceAdd, Nat.reduceSub, Nat.reduceMul, Nat.reduceLeDiff, Nat.reduceBEq, decide_true, decide_false, reduceCtorEq, Int.reduceLT, Int.reduceNeg, rvN, Nat.reduceLT, Int.reduceLE, Int.reduceEq, eq_self, List.reduceReplicate, rvF, rvG, e12, VRecWorld.c]; rfl)]
  · cases c3 : rGo x.recorders.length x.recorders 0
    · simp only [rv0, rv1, rvE, rvH, rvS, rvI, eT, eQ, ↓reduceIte, Nat.reduceEqDiff, Nat.reduceAdd, Nat.reduceSub, Nat.reduceMul, Nat.reduceLeDiff, Nat.reduceBEq, decide_true, decide_false, reduceCtorEq, Int.reduceLT, Int.reduceNeg, rvN, Nat.reduceLT, Int.reduceLE, Int.reduceEq, eq_self, List.reduceReplicate, rvF, rvG, e12, worldOk, c3]
    simp only [rv0, rv1, rvE, rvH, rvS, rvI, eT, eQ, ↓reduceIte, Nat.reduceEqDiff, Nat.reduceAdd, Nat.reduceSub, Nat.reduceMul, Nat.reduceLeDiff, Nat.reduceBEq, decide_true, decide_false, reduceCtorEq, Int.reduceLT, Int.reduceNeg, rvN, Nat.reduceLT, Int.reduceLE, Int.reduceEq, eq_self, List.reduceReplicate, rvF, rvG, e12, e26, e27, e25, VRecWorld.c]
    rw [for_block x.flight (fun i (_ : Unit) => ⟨3, [(1, .box 0 0 (x.c .shr)), (3, .val 1 false [.p (.int .i64 x.recorders.length)]), (5, .val 2 false [.p (.int .i64 i)])]⟩) (fun i _ => True)
      (fun r i a => if r.all (fun m => msgOkV m x.recorders.length) = true then .norm ⟨1, [(1, .box 0 0 (x.c .shr))]⟩ else .ret ⟨[(false, [.p (.bool false)])], []⟩) ?_ ?_ (a := ()) trivial (by simp only [rv0, rv1, rvE, rvH, rvS, rvI, eT, eQ, ↓reduceIte, Nat.reduceEqDiff, Nat.reduceAdd, Nat.reduceSub, Nat.reduceMul, Nat.reduceLeDiff, Nat.reduceBEq, decide_true, decide_false, reduceCtorEq, Int.reduceLT, Int.reduceNeg, rvN, Nat.reduceLT, Int.reduceLE, Int.reduceEq, eq_self, List.reduceReplicate, rvF, rvG, e12, VRecWorld.c]; rfl)]
    · cases c4 : x.flight.all (fun m => msgOkV m x.recorders.length)
      · simp only [rv0, rv1, rvE, rvH, rvS, rvI, eT, eQ, ↓reduceIte, Nat.reduceEqDiff, Nat.reduceAdd, Nat.reduceSub, Nat.reduceMul, Nat.reduceLeDiff, Nat.reduceBEq, decide_true, decide_false, reduceCtorEq, Int.reduceLT, Int.reduceNeg, rvN, Nat.reduceLT, Int.reduceLE, Int.reduceEq, eq_self, List.reduceReplicate, rvF, rvG, e12, worldOk, c4]
      simp only [rv0, rv1, rvE, rvH, rvS, rvI, eT, eQ, ↓reduceIte, Nat.reduceEqDiff, Nat.reduceAdd, Nat.reduceSub, Nat.reduceMul, Nat.reduceLeDiff, Nat.reduceBEq, decide_true, decide_false, reduceCtorEq, Int.reduceLT, Int.reduceNeg, rvN, Nat.reduceLT, Int.reduceLE, Int.reduceEq, eq_self, List.reduceReplicate, rvF, rvG, e12, e26, e27, e25, VRecWorld.c]
      rw [for_block x.fixed (fun i (_ : Unit) => ⟨2, [(1, .box 0 0 (x.c .shr)), (6, .val 1 false [.p (.int .i64 i)])]⟩) (fun i _ => True)
        (fun r i a => if fGo x.fixed r i = true then .norm ⟨0, []⟩ else .ret ⟨[(false, [.p (.bool false)])], []⟩) ?_ ?_ (a := ()) trivial (by simp only [rv0, rv1, rvE, rvH, rvS, rvI, eT, eQ, ↓reduceIte, Nat.reduceEqDiff, Nat.reduceAdd, Nat.reduceSub, Nat.reduceMul, Nat.reduceLeDiff, Nat.reduceBEq, decide_true, decide_false, reduceCtorEq, Int.reduceLT, Int.reduceNeg, rvN, Nat.reduceLT, Int.reduceLE, Int.reduceEq, eq_self, List.reduceReplicate, rvF, rvG, e12, VRecWorld.c]; rfl)]
      · cases c5 : fGo x.fixed x.fixed 0
        · simp only [rv0, rv1, rvE, rvH, rvS, rvI, eT, eQ, ↓reduceIte, Nat.reduceEqDiff, Nat.reduceAdd, Nat.reduceSub, Nat.reduceMul, Nat.reduceLeDiff, Nat.reduceBEq, decide_true, decide_false, reduceCtorEq, Int.reduceLT, Int.reduceNeg, rvN, Nat.reduceLT, Int.reduceLE, Int.reduceEq, eq_self, List.reduceReplicate, rvF, rvG, e12, worldOk, c5]
        · simp only [rv0, rv1, rvE, rvH, rvS, rvI, eT, eQ, ↓reduceIte, Nat.reduceEqDiff, Nat.reduceAdd, Nat.reduceSub, Nat.reduceMul, Nat.reduceLeDiff, Nat.reduceBEq, decide_true, decide_false, reduceCtorEq, Int.reduceLT, Int.reduceNeg, rvN, Nat.reduceLT, Int.reduceLE, Int.reduceEq, eq_self, List.reduceReplicate, rvF, rvG, e12, worldOk, c1, c2, c3, c4, c5]
      · intro i s r a hd hi _
        have hlen := (List.getElem?_eq_some_iff.1 hi).1
        have hlt : ((i : Int) < (x.fixed.length : Int)) := by omega
        have hr := getElem?_map_some (f := VRecFix.c) hi
        have hwi := wrap64 (n := (i : Int) + 1) (by omega) (by omega)
        have hi0 : (0 : Int) ≤ (i : Int) := by omega
        have hg := k25 s.index 1 60
        simp only [VRecFix.c] at hr
        cases d1 : inR s.index 1 60
        · right
          simp only [rv0, rv1, rvE, rvH, rvS, rvI, eT, eQ, ↓reduceIte, Nat.reduceEqDiff, Nat.reduceAdd, Nat.reduceSub, Nat.reduceMul, Nat.reduceLeDiff, Nat.reduceBEq, decide_true, decide_false, reduceCtorEq, Int.reduceLT, Int.reduceNeg, rvN, Nat.reduceLT, Int.reduceLE, Int.reduceEq, eq_self, List.reduceReplicate, rvF, rvG, e12, e26, e27, e25, VRecWorld.c, fGo, fOk, hlt, hr, hg, d1, hi0]
        · cases d4 : decide (100 < (s.text.size : Int))
          · cases d2 : decide (0 < (i : Int))
            · left
              refine ⟨(), ?_, trivial, by simp only [fGo, fOk, d1, d2, d4]; rfl⟩
              simp only [rv0, rv1, rvE, rvH, rvS, rvI, eT, eQ, ↓reduceIte, Nat.reduceEqDiff, Nat.reduceAdd, Nat.reduceSub, Nat.reduceMul, Nat.reduceLeDiff, Nat.reduceBEq, decide_true, decide_false, reduceCtorEq, Int.reduceLT, Int.reduceNeg, rvN, Nat.reduceLT, Int.reduceLE, Int.reduceEq, eq_self, List.reduceReplicate, rvF, rvG, e12, e26, e27, e25, VRecWorld.c, hlt, hr, hg, d1, d2, d4, hi0, hwi, i64c]
            · have hip : 0 < (i : Int) := by simpa using d2
              have hpl : i - 1 < x.fixed.length := by omega
              have hp : x.fixed[i - 1]? = some x.fixed[i - 1] := List.getElem?_eq_getElem hpl
              have hrp := getElem?_map_some (f := VRecFix.c) hp
              have hw1 := wrap64 (n := (i : Int) - 1) (by omega) (by omega)
              have hi1 : (0 : Int) ≤ (i : Int) - 1 := by omega
              have hnat : ((i : Int) - 1).toNat = i - 1 := by omega
              simp only [VRecFix.c] at hrp
              cases d3 : decide (s.index ≤ x.fixed[i - 1].index)
              · left
                refine ⟨(), ?_, trivial, by simp only [fGo, fOk, d1, d2, d4, hp, Option.map_some, Option.getD_some, d3]; rfl⟩
                simp only [rv0, rv1, rvE, rvH, rvS, rvI, eT, eQ, ↓reduceIte, Nat.reduceEqDiff, Nat.reduceAdd, Nat.reduceSub, Nat.reduceMul, Nat.reduceLeDiff, Nat.reduceBEq, decide_true, decide_false, reduceCtorEq, Int.reduceLT, Int.reduceNeg, rvN, Nat.reduceLT, Int.reduceLE, Int.reduceEq, eq_self, List.reduceReplicate, rvF, rvG, e12, e26, e27, e25, VRecWorld.c, hlt, hr, hg, d1, d2, d3, d4, hrp, hw1, hi1, hnat, hi0, hwi, i64c]
              · right
                simp only [rv0, rv1, rvE, rvH, rvS, rvI, eT, eQ, ↓reduceIte, Nat.reduceEqDiff, Nat.reduceAdd, Nat.reduceSub, Nat.reduceMul, Nat.reduceLeDiff, Nat.reduceBEq, decide_true, decide_false, reduceCtorEq, Int.reduceLT, Int.reduceNeg, rvN, Nat.reduceLT, Int.reduceLE, Int.reduceEq, eq_self, List.reduceReplicate, rvF, rvG, e12, e26, e27, e25, VRecWorld.c, fGo, fOk, hp, Option.map_some, Option.getD_some, hlt, hr, hg, d1, d2, d3, d4, hrp, hw1, hi1, hnat, hi0]
          · right
            simp only [rv0, rv1, rvE, rvH, rvS, rvI, eT, eQ, ↓reduceIte, Nat.reduceEqDiff, Nat.reduceAdd, Nat.reduceSub, Nat.reduceMul, Nat.reduceLeDiff, Nat.reduceBEq, decide_true, decide_false, reduceCtorEq, Int.reduceLT, Int.reduceNeg, rvN, Nat.reduceLT, Int.reduceLE, Int.reduceEq, eq_self, List.reduceReplicate, rvF, rvG, e12, e26, e27, e25, VRecWorld.c, fGo, fOk, hlt, hr, hg, d1, d4, hi0]
      · intro a _
        simp only [rv0, rv1, rvE, rvH, rvS, rvI, eT, eQ, ↓reduceIte, Nat.reduceEqDiff, Nat.reduceAdd, Nat.reduceSub, Nat.reduceMul, Nat.reduceLeDiff, Nat.reduceBEq, decide_true, decide_false, reduceCtorEq, Int.reduceLT, Int.reduceNeg, rvN, Nat.reduceLT, Int.reduceLE, Int.reduceEq, eq_self, List.reduceReplicate, rvF, rvG, e12, VRecWorld.c, fGo]
    · intro i s r a hd hi _
      have hlen := (List.getElem?_eq_some_iff.1 hi).1
      have hlt : ((i : Int) < (x.flight.length : Int)) := by omega
      have hr := getElem?_map_some (f := VRecMessage.c .shr) hi
      have hwi := wrap64 (n := (i : Int) + 1) (by omega) (by omega)
      have hi0 : (0 : Int) ≤ (i : Int) := by omega
      have hg := k27 s.kind s.from_ s.to_ s.ballot s.index s.known s.text s.slots x.recorders.length
      simp only [VRecMessage.c] at hr
      cases d1 : msgOkV s x.recorders.length
      · right
        have d1' := d1
        unfold msgOkV at d1'
        rw [d1'] at hg
        simp only [rv0, rv1, rvE, rvH, rvS, rvI, eT, eQ, ↓reduceIte, Nat.reduceEqDiff, Nat.reduceAdd, Nat.reduceSub, Nat.reduceMul, Nat.reduceLeDiff, Nat.reduceBEq, decide_true, decide_false, reduceCtorEq, Int.reduceLT, Int.reduceNeg, rvN, Nat.reduceLT, Int.reduceLE, Int.reduceEq, eq_self, List.reduceReplicate, rvF, rvG, e12, e26, e27, e25, VRecWorld.c, List.all_cons, hlt, hr, hg, d1, hi0]
      · left
        have d1' := d1
        unfold msgOkV at d1'
        rw [d1'] at hg
        refine ⟨(), ?_, trivial, by simp only [List.all_cons, d1]; rfl⟩
        simp only [rv0, rv1, rvE, rvH, rvS, rvI, eT, eQ, ↓reduceIte, Nat.reduceEqDiff, Nat.reduceAdd, Nat.reduceSub, Nat.reduceMul, Nat.reduceLeDiff, Nat.reduceBEq, decide_true, decide_false, reduceCtorEq, Int.reduceLT, Int.reduceNeg, rvN, Nat.reduceLT, Int.reduceLE, Int.reduceEq, eq_self, List.reduceReplicate, rvF, rvG, e12, e26, e27, e25, VRecWorld.c, hlt, hr, hg, hi0, hwi, i64c]
    · intro a _
      simp only [rv0, rv1, rvE, rvH, rvS, rvI, eT, eQ, ↓reduceIte, Nat.reduceEqDiff, Nat.reduceAdd, Nat.reduceSub, Nat.reduceMul, Nat.reduceLeDiff, Nat.reduceBEq, decide_true, decide_false, reduceCtorEq, Int.reduceLT, Int.reduceNeg, rvN, Nat.reduceLT, Int.reduceLE, Int.reduceEq, eq_self, List.reduceReplicate, rvF, rvG, e12, VRecWorld.c, List.all_nil]
  · intro i s r a hd hi _
    have hlen := (List.getElem?_eq_some_iff.1 hi).1
    have hlt : ((i : Int) < (x.recorders.length : Int)) := by omega
    have hr := getElem?_map_some (f := VRecorder.c .shr) hi
    have hwi := wrap64 (n := (i : Int) + 1) (by omega) (by omega)
    have hi0 : (0 : Int) ≤ (i : Int) := by omega
    have hg := k26 s (by have := wSRecorder_mem (List.mem_of_getElem? hi); omega)
    simp only [VRecorder.c] at hr hg
    cases d1 : valid s
    · right
      rw [d1] at hg
      simp only [rv0, rv1, rvE, rvH, rvS, rvI, eT, eQ, ↓reduceIte, Nat.reduceEqDiff, Nat.reduceAdd, Nat.reduceSub, Nat.reduceMul, Nat.reduceLeDiff, Nat.reduceBEq, decide_true, decide_false, reduceCtorEq, Int.reduceLT, Int.reduceNeg, rvN, Nat.reduceLT, Int.reduceLE, Int.reduceEq, eq_self, List.reduceReplicate, rvF, rvG, e12, e26, e27, e25, VRecWorld.c, rGo, rOk, hlt, hr, hg, d1, hi0]
    · rw [d1] at hg
      cases d2 : decide (s.number = (i : Int) + 1)
      · right
        simp only [rv0, rv1, rvE, rvH, rvS, rvI, eT, eQ, ↓reduceIte, Nat.reduceEqDiff, Nat.reduceAdd, Nat.reduceSub, Nat.reduceMul, Nat.reduceLeDiff, Nat.reduceBEq, decide_true, decide_false, reduceCtorEq, Int.reduceLT, Int.reduceNeg, rvN, Nat.reduceLT, Int.reduceLE, Int.reduceEq, eq_self, List.reduceReplicate, rvF, rvG, e12, e26, e27, e25, VRecWorld.c, rGo, rOk, hlt, hr, hg, d1, d2, hi0, hwi]
      · cases d3 : decide (s.of_ = (x.recorders.length : Int))
        · right
          simp only [rv0, rv1, rvE, rvH, rvS, rvI, eT, eQ, ↓reduceIte, Nat.reduceEqDiff, Nat.reduceAdd, Nat.reduceSub, Nat.reduceMul, Nat.reduceLeDiff, Nat.reduceBEq, decide_true, decide_false, reduceCtorEq, Int.reduceLT, Int.reduceNeg, rvN, Nat.reduceLT, Int.reduceLE, Int.reduceEq, eq_self, List.reduceReplicate, rvF, rvG, e12, e26, e27, e25, VRecWorld.c, rGo, rOk, hlt, hr, hg, d1, d2, d3, hi0, hwi]
        · left
          refine ⟨(), ?_, trivial, by simp only [rGo, rOk, d1, d2, d3]; rfl⟩
          simp only [rv0, rv1, rvE, rvH, rvS, rvI, eT, eQ, ↓reduceIte, Nat.reduceEqDiff, Nat.reduceAdd, Nat.reduceSub, Nat.reduceMul, Nat.reduceLeDiff, Nat.reduceBEq, decide_true, decide_false, reduceCtorEq, Int.reduceLT, Int.reduceNeg, rvN, Nat.reduceLT, Int.reduceLE, Int.reduceEq, eq_self, List.reduceReplicate, rvF, rvG, e12, e26, e27, e25, VRecWorld.c, hlt, hr, hg, d2, d3, hi0, hwi, i64c]
  · intro a _
    simp only [rv0, rv1, rvE, rvH, rvS, rvI, eT, eQ, ↓reduceIte, Nat.reduceEqDiff, Nat.reduceAdd, Nat.reduceSub, Nat.reduceMul, Nat.reduceLeDiff, Nat.reduceBEq, decide_true, decide_false, reduceCtorEq, Int.reduceLT, Int.reduceNeg, rvN, Nat.reduceLT, Int.reduceLE, Int.reduceEq, eq_self, List.reduceReplicate, rvF, rvG, e12, VRecWorld.c, rGo]

theorem k17 (x : VRecWorld) (hw : x.w ≤ 4194304) : EV Try.prog E 17 [.val 0 true (x.c .shr)] = some ⟨[(false, [.p (.bool (worldOk x))])], []⟩ := by
  refine EV_intro Try.func17 rfl ?_
  have hw0 := hw
  unfold VRecWorld.w wSRecorder wSRecMessage wSRecFix at hw
  have g1 := k31 x.recorders.length 1 5
  cases c1 : inR (x.recorders.length : Int) 1 5
  · simp only [rv0, rv1, rvE, rvH, rvS, rvI, eT, eQ, ↓reduceIte, Nat.reduceEqDiff, Nat.reduceAdd, Nat.reduceSub, Nat.reduceMul, Nat.reduceLeDiff, Nat.reduceBEq, decide_true, decide_false, reduceCtorEq, Int.reduceLT, Int.reduceNeg, rvN, Nat.reduceLT, Int.reduceLE, Int.reduceEq, eq_self, List.reduceReplicate, rvF, rvG, e17, e32, e33, e31, Try.f17, VRecWorld.c, worldOk, g1, c1]
  cases c2 : decide (600 < (x.flight.length : Int))
  rotate_left
  · simp only [rv0, rv1, rvE, rvH, rvS, rvI, eT, eQ, ↓reduceIte, Nat.reduceEqDiff, Nat.reduceAdd, Nat.reduceSub, Nat.reduceMul, Nat.reduceLeDiff, Nat.reduceBEq, decide_true, decide_false, reduceCtorEq, Int.reduceLT, Int.reduceNeg, rvN, Nat.reduceLT, Int.reduceLE, Int.reduceEq, eq_self, List.reduceReplicate, rvF, rvG, e17, e32, e33, e31, Try.f17, VRecWorld.c, worldOk, g1, c1, c2]
  simp only [rv0, rv1, rvE, rvH, rvS, rvI, eT, eQ, ↓reduceIte, Nat.reduceEqDiff, Nat.reduceAdd, Nat.reduceSub, Nat.reduceMul, Nat.reduceLeDiff, Nat.reduceBEq, decide_true, decide_false, reduceCtorEq, Int.reduceLT, Int.reduceNeg, rvN, Nat.reduceLT, Int.reduceLE, Int.reduceEq, eq_self, List.reduceReplicate, rvF, rvG, e17, e32, e33, e31, Try.f17, VRecWorld.c, g1, c1, c2]
  rw [for_block x.recorders (fun i (_ : Unit) => ⟨5, [(1, .box 0 0 (x.c .shr)), (3, .val 1 false [.p (.int .i64 x.recorders.length)]), (23, .val 2 false [.sl .shr 18 (x.recorders.map (VRecorder.c .shr))]), (24, .val 3 false [.p (.int .i64 x.recorders.length)]), (25, .val 4 false [.p (.int .i64 i)])]⟩) (fun i _ => True)
    (fun r i a => if rGo x.recorders.length r i = true then .norm ⟨2, [(1, .box 0 0 (x.c .shr)), (3, .val 1 false [.p (.int .i64 x.recorders.length)])]⟩ else .ret ⟨[(false, [.p (.bool false)])], []⟩) ?_ ?_ (a := ()) trivial (by simp only [rv0, rv1, rvE, rvH, rvS, rvI, eT, eQ, ↓reduceIte, Nat.reduceEqDiff, Nat.reduceAdd, Nat.reduceSub, Nat.reduceMul, Nat.reduceLeDiff, Nat.reduceBEq, decide_true, decide_false, reduceCtorEq, Int.reduceLT, Int.reduceNeg, rvN, Nat.reduceLT, Int.reduceLE, Int.reduceEq, eq_self, List.reduceReplicate, rvF, rvG, e17, VRecWorld.c]; rfl)]
  · cases c3 : rGo x.recorders.length x.recorders 0
    · simp only [rv0, rv1, rvE, rvH, rvS, rvI, eT, eQ, ↓reduceIte, Nat.reduceEqDiff, Nat.reduceAdd, Nat.reduceSub, Nat.reduceMul, Nat.reduceLeDiff, Nat.reduceBEq, decide_true, decide_false, reduceCtorEq, Int.reduceLT, Int.reduceNeg, rvN, Nat.reduceLT, Int.reduceLE, Int.reduceEq, eq_self, List.reduceReplicate, rvF, rvG, e17, worldOk, c3]
    simp only [rv0, rv1, rvE, rvH, rvS, rvI, eT, eQ, ↓reduceIte, Nat.reduceEqDiff, Nat.reduceAdd, Nat.reduceSub, Nat.reduceMul, Nat.reduceLeDiff, Nat.reduceBEq, decide_true, decide_false, reduceCtorEq, Int.reduceLT, Int.reduceNeg, rvN, Nat.reduceLT, Int.reduceLE, Int.reduceEq, eq_self, List.reduceReplicate, rvF, rvG, e17, e32, e33, e31, VRecWorld.c]
    rw [for_block x.flight (fun i (_ : Unit) => ⟨5, [(1, .box 0 0 (x.c .shr)), (3, .val 1 false [.p (.int .i64 x.recorders.length)]), (48, .val 2 false [.sl .shr 8 (x.flight.map (VRecMessage.c .shr))]), (49, .val 3 false [.p (.int .i64 x.flight.length)]), (50, .val 4 false [.p (.int .i64 i)])]⟩) (fun i _ => True)
      (fun r i a => if r.all (fun m => msgOkV m x.recorders.length) = true then .norm ⟨1, [(1, .box 0 0 (x.c .shr))]⟩ else .ret ⟨[(false, [.p (.bool false)])], []⟩) ?_ ?_ (a := ()) trivial (by simp only [rv0, rv1, rvE, rvH, rvS, rvI, eT, eQ, ↓reduceIte, Nat.reduceEqDiff, Nat.reduceAdd, Nat.reduceSub, Nat.reduceMul, Nat.reduceLeDiff, Nat.reduceBEq, decide_true, decide_false, reduceCtorEq, Int.reduceLT, Int.reduceNeg, rvN, Nat.reduceLT, Int.reduceLE, Int.reduceEq, eq_self, List.reduceReplicate, rvF, rvG, e17, VRecWorld.c]; rfl)]
    · cases c4 : x.flight.all (fun m => msgOkV m x.recorders.length)
      · simp only [rv0, rv1, rvE, rvH, rvS, rvI, eT, eQ, ↓reduceIte, Nat.reduceEqDiff, Nat.reduceAdd, Nat.reduceSub, Nat.reduceMul, Nat.reduceLeDiff, Nat.reduceBEq, decide_true, decide_false, reduceCtorEq, Int.reduceLT, Int.reduceNeg, rvN, Nat.reduceLT, Int.reduceLE, Int.reduceEq, eq_self, List.reduceReplicate, rvF, rvG, e17, worldOk, c4]
      simp only [rv0, rv1, rvE, rvH, rvS, rvI, eT, eQ, ↓reduceIte, Nat.reduceEqDiff, Nat.reduceAdd, Nat.reduceSub, Nat.reduceMul, Nat.reduceLeDiff, Nat.reduceBEq, decide_true, decide_false, reduceCtorEq, Int.reduceLT, Int.reduceNeg, rvN, Nat.reduceLT, Int.reduceLE, Int.reduceEq, eq_self, List.reduceReplicate, rvF, rvG, e17, e32, e33, e31, VRecWorld.c]
      rw [for_block x.fixed (fun i (_ : Unit) => ⟨4, [(1, .box 0 0 (x.c .shr)), (60, .val 1 false [.sl .shr 2 (x.fixed.map VRecFix.c)]), (61, .val 2 false [.p (.int .i64 x.fixed.length)]), (62, .val 3 false [.p (.int .i64 i)])]⟩) (fun i _ => True)
        (fun r i a => if fGo x.fixed r i = true then .norm ⟨0, []⟩ else .ret ⟨[(false, [.p (.bool false)])], []⟩) ?_ ?_ (a := ()) trivial (by simp only [rv0, rv1, rvE, rvH, rvS, rvI, eT, eQ, ↓reduceIte, Nat.reduceEqDiff, Nat.reduceAdd, Nat.reduceSub, Nat.reduceMul, Nat.reduceLeDiff, Nat.reduceBEq, decide_true, decide_false, reduceCtorEq, Int.reduceLT, Int.reduceNeg, rvN, Nat.reduceLT, Int.reduceLE, Int.reduceEq, eq_self, List.reduceReplicate, rvF, rvG, e17, VRecWorld.c]; rfl)]
      · cases c5 : fGo x.fixed x.fixed 0
        · simp only [rv0, rv1, rvE, rvH, rvS, rvI, eT, eQ, ↓reduceIte, Nat.reduceEqDiff, Nat.reduceAdd, Nat.reduceSub, Nat.reduceMul, Nat.reduceLeDiff, Nat.reduceBEq, decide_true, decide_false, reduceCtorEq, Int.reduceLT, Int.reduceNeg, rvN, Nat.reduceLT, Int.reduceLE, Int.reduceEq, eq_self, List.reduceReplicate, rvF, rvG, e17, worldOk, c5]
        · simp only [rv0, rv1, rvE, rvH, rvS, rvI, eT, eQ, ↓reduceIte, Nat.reduceEqDiff, Nat.reduceAdd, Nat.reduceSub, Nat.reduceMul, Nat.reduceLeDiff, Nat.reduceBEq, decide_true, decide_false, reduceCtorEq, Int.reduceLT, Int.reduceNeg, rvN, Nat.reduceLT, Int.reduceLE, Int.reduceEq, eq_self, List.reduceReplicate, rvF, rvG, e17, worldOk, c1, c2, c3, c4, c5]
      · intro i s r a hd hi _
        have hlen := (List.getElem?_eq_some_iff.1 hi).1
        have hlt : ((i : Int) < (x.fixed.length : Int)) := by omega
        have hr := getElem?_map_some (f := VRecFix.c) hi
        have hwi := wrap64 (n := (i : Int) + 1) (by omega) (by omega)
        have hi0 : (0 : Int) ≤ (i : Int) := by omega
        have hg := k31 s.index 1 60
        simp only [VRecFix.c] at hr
        cases d1 : inR s.index 1 60
        · right
          simp only [rv0, rv1, rvE, rvH, rvS, rvI, eT, eQ, ↓reduceIte, Nat.reduceEqDiff, Nat.reduceAdd, Nat.reduceSub, Nat.reduceMul, Nat.reduceLeDiff, Nat.reduceBEq, decide_true, decide_false, reduceCtorEq, Int.reduceLT, Int.reduceNeg, rvN, Nat.reduceLT, Int.reduceLE, Int.reduceEq, eq_self, List.reduceReplicate, rvF, rvG, e17, e32, e33, e31, VRecWorld.c, fGo, fOk, hlt, hr, hg, d1, hi0]
        · cases d4 : decide (100 < (s.text.size : Int))
          · cases d2 : decide (0 < (i : Int))
            · left
              refine ⟨(), ?_, trivial, by simp only [fGo, fOk, d1, d2, d4]; rfl⟩
              simp only [rv0, rv1, rvE, rvH, rvS, rvI, eT, eQ, ↓reduceIte, Nat.reduceEqDiff, Nat.reduceAdd, Nat.reduceSub, Nat.reduceMul, Nat.reduceLeDiff, Nat.reduceBEq, decide_true, decide_false, reduceCtorEq, Int.reduceLT, Int.reduceNeg, rvN, Nat.reduceLT, Int.reduceLE, Int.reduceEq, eq_self, List.reduceReplicate, rvF, rvG, e17, e32, e33, e31, VRecWorld.c, hlt, hr, hg, d1, d2, d4, hi0, hwi, i64c]
            · have hip : 0 < (i : Int) := by simpa using d2
              have hpl : i - 1 < x.fixed.length := by omega
              have hp : x.fixed[i - 1]? = some x.fixed[i - 1] := List.getElem?_eq_getElem hpl
              have hrp := getElem?_map_some (f := VRecFix.c) hp
              have hw1 := wrap64 (n := (i : Int) - 1) (by omega) (by omega)
              have hi1 : (0 : Int) ≤ (i : Int) - 1 := by omega
              have hnat : ((i : Int) - 1).toNat = i - 1 := by omega
              simp only [VRecFix.c] at hrp
              cases d3 : decide (s.index ≤ x.fixed[i - 1].index)
              · left
                refine ⟨(), ?_, trivial, by simp only [fGo, fOk, d1, d2, d4, hp, Option.map_some, Option.getD_some, d3]; rfl⟩
                simp only [rv0, rv1, rvE, rvH, rvS, rvI, eT, eQ, ↓reduceIte, Nat.reduceEqDiff, Nat.reduceAdd, Nat.reduceSub, Nat.reduceMul, Nat.reduceLeDiff, Nat.reduceBEq, decide_true, decide_false, reduceCtorEq, Int.reduceLT, Int.reduceNeg, rvN, Nat.reduceLT, Int.reduceLE, Int.reduceEq, eq_self, List.reduceReplicate, rvF, rvG, e17, e32, e33, e31, VRecWorld.c, hlt, hr, hg, d1, d2, d3, d4, hrp, hw1, hi1, hnat, hi0, hwi, i64c]
              · right
                simp only [rv0, rv1, rvE, rvH, rvS, rvI, eT, eQ, ↓reduceIte, Nat.reduceEqDiff, Nat.reduceAdd, Nat.reduceSub, Nat.reduceMul, Nat.reduceLeDiff, Nat.reduceBEq, decide_true, decide_false, reduceCtorEq, Int.reduceLT, Int.reduceNeg, rvN, Nat.reduceLT, Int.reduceLE, Int.reduceEq, eq_self, List.reduceReplicate, rvF, rvG, e17, e32, e33, e31, VRecWorld.c, fGo, fOk, hp, Option.map_some, Option.getD_some, hlt, hr, hg, d1, d2, d3, d4, hrp, hw1, hi1, hnat, hi0]
          · right
            simp only [rv0, rv1, rvE, rvH, rvS, rvI, eT, eQ, ↓reduceIte, Nat.reduceEqDiff, Nat.reduceAdd, Nat.reduceSub, Nat.reduceMul, Nat.reduceLeDiff, Nat.reduceBEq, decide_true, decide_false, reduceCtorEq, Int.reduceLT, Int.reduceNeg, rvN, Nat.reduceLT, Int.reduceLE, Int.reduceEq, eq_self, List.reduceReplicate, rvF, rvG, e17, e32, e33, e31, VRecWorld.c, fGo, fOk, hlt, hr, hg, d1, d4, hi0]
      · intro a _
        simp only [rv0, rv1, rvE, rvH, rvS, rvI, eT, eQ, ↓reduceIte, Nat.reduceEqDiff, Nat.reduceAdd, Nat.reduceSub, Nat.reduceMul, Nat.reduceLeDiff, Nat.reduceBEq, decide_true, decide_false, reduceCtorEq, Int.reduceLT, Int.reduceNeg, rvN, Nat.reduceLT, Int.reduceLE, Int.reduceEq, eq_self, List.reduceReplicate, rvF, rvG, e17, VRecWorld.c, fGo]
    · intro i s r a hd hi _
      have hlen := (List.getElem?_eq_some_iff.1 hi).1
      have hlt : ((i : Int) < (x.flight.length : Int)) := by omega
      have hr := getElem?_map_some (f := VRecMessage.c .shr) hi
      have hwi := wrap64 (n := (i : Int) + 1) (by omega) (by omega)
      have hi0 : (0 : Int) ≤ (i : Int) := by omega
      have hg := k33 s.kind s.from_ s.to_ s.ballot s.index s.known s.text s.slots x.recorders.length
      simp only [VRecMessage.c] at hr
      cases d1 : msgOkV s x.recorders.length
      · right
        have d1' := d1
        unfold msgOkV at d1'
        rw [d1'] at hg
        simp only [rv0, rv1, rvE, rvH, rvS, rvI, eT, eQ, ↓reduceIte, Nat.reduceEqDiff, Nat.reduceAdd, Nat.reduceSub, Nat.reduceMul, Nat.reduceLeDiff, Nat.reduceBEq, decide_true, decide_false, reduceCtorEq, Int.reduceLT, Int.reduceNeg, rvN, Nat.reduceLT, Int.reduceLE, Int.reduceEq, eq_self, List.reduceReplicate, rvF, rvG, e17, e32, e33, e31, VRecWorld.c, List.all_cons, hlt, hr, hg, d1, hi0]
      · left
        have d1' := d1
        unfold msgOkV at d1'
        rw [d1'] at hg
        refine ⟨(), ?_, trivial, by simp only [List.all_cons, d1]; rfl⟩
        simp only [rv0, rv1, rvE, rvH, rvS, rvI, eT, eQ, ↓reduceIte, Nat.reduceEqDiff, Nat.reduceAdd, Nat.reduceSub, Nat.reduceMul, Nat.reduceLeDiff, Nat.reduceBEq, decide_true, decide_false, reduceCtorEq, Int.reduceLT, Int.reduceNeg, rvN, Nat.reduceLT, Int.reduceLE, Int.reduceEq, eq_self, List.reduceReplicate, rvF, rvG, e17, e32, e33, e31, VRecWorld.c, hlt, hr, hg, hi0, hwi, i64c]
    · intro a _
      simp only [rv0, rv1, rvE, rvH, rvS, rvI, eT, eQ, ↓reduceIte, Nat.reduceEqDiff, Nat.reduceAdd, Nat.reduceSub, Nat.reduceMul, Nat.reduceLeDiff, Nat.reduceBEq, decide_true, decide_false, reduceCtorEq, Int.reduceLT, Int.reduceNeg, rvN, Nat.reduceLT, Int.reduceLE, Int.reduceEq, eq_self, List.reduceReplicate, rvF, rvG, e17, VRecWorld.c, List.all_nil]
  · intro i s r a hd hi _
    have hlen := (List.getElem?_eq_some_iff.1 hi).1
    have hlt : ((i : Int) < (x.recorders.length : Int)) := by omega
    have hr := getElem?_map_some (f := VRecorder.c .shr) hi
    have hwi := wrap64 (n := (i : Int) + 1) (by omega) (by omega)
    have hi0 : (0 : Int) ≤ (i : Int) := by omega
    have hg := k32 s (by have := wSRecorder_mem (List.mem_of_getElem? hi); omega)
    simp only [VRecorder.c] at hr hg
    cases d1 : valid s
    · right
      rw [d1] at hg
      simp only [rv0, rv1, rvE, rvH, rvS, rvI, eT, eQ, ↓reduceIte, Nat.reduceEqDiff, Nat.reduceAdd, Nat.reduceSub, Nat.reduceMul, Nat.reduceLeDiff, Nat.reduceBEq, decide_true, decide_false, reduceCtorEq, Int.reduceLT, Int.reduceNeg, rvN, Nat.reduceLT, Int.reduceLE, Int.reduceEq, eq_self, List.reduceReplicate, rvF, rvG, e17, e32, e33, e31, VRecWorld.c, rGo, rOk, hlt, hr, hg, d1, hi0]
    · rw [d1] at hg
      cases d2 : decide (s.number = (i : Int) + 1)
      · right
        simp only [rv0, rv1, rvE, rvH, rvS, rvI, eT, eQ, ↓reduceIte, Nat.reduceEqDiff, Nat.reduceAdd, Nat.reduceSub, Nat.reduceMul, Nat.reduceLeDiff, Nat.reduceBEq, decide_true, decide_false, reduceCtorEq, Int.reduceLT, Int.reduceNeg, rvN, Nat.reduceLT, Int.reduceLE, Int.reduceEq, eq_self, List.reduceReplicate, rvF, rvG, e17, e32, e33, e31, VRecWorld.c, rGo, rOk, hlt, hr, hg, d1, d2, hi0, hwi]
      · cases d3 : decide (s.of_ = (x.recorders.length : Int))
        · right
          simp only [rv0, rv1, rvE, rvH, rvS, rvI, eT, eQ, ↓reduceIte, Nat.reduceEqDiff, Nat.reduceAdd, Nat.reduceSub, Nat.reduceMul, Nat.reduceLeDiff, Nat.reduceBEq, decide_true, decide_false, reduceCtorEq, Int.reduceLT, Int.reduceNeg, rvN, Nat.reduceLT, Int.reduceLE, Int.reduceEq, eq_self, List.reduceReplicate, rvF, rvG, e17, e32, e33, e31, VRecWorld.c, rGo, rOk, hlt, hr, hg, d1, d2, d3, hi0, hwi]
        · left
          refine ⟨(), ?_, trivial, by simp only [rGo, rOk, d1, d2, d3]; rfl⟩
          simp only [rv0, rv1, rvE, rvH, rvS, rvI, eT, eQ, ↓reduceIte, Nat.reduceEqDiff, Nat.reduceAdd, Nat.reduceSub, Nat.reduceMul, Nat.reduceLeDiff, Nat.reduceBEq, decide_true, decide_false, reduceCtorEq, Int.reduceLT, Int.reduceNeg, rvN, Nat.reduceLT, Int.reduceLE, Int.reduceEq, eq_self, List.reduceReplicate, rvF, rvG, e17, e32, e33, e31, VRecWorld.c, hlt, hr, hg, d2, d3, hi0, hwi, i64c]
  · intro a _
    simp only [rv0, rv1, rvE, rvH, rvS, rvI, eT, eQ, ↓reduceIte, Nat.reduceEqDiff, Nat.reduceAdd, Nat.reduceSub, Nat.reduceMul, Nat.reduceLeDiff, Nat.reduceBEq, decide_true, decide_false, reduceCtorEq, Int.reduceLT, Int.reduceNeg, rvN, Nat.reduceLT, Int.reduceLE, Int.reduceEq, eq_self, List.reduceReplicate, rvF, rvG, e17, VRecWorld.c, rGo]

end Go.Proofs.Ytnhgopjnnedhdaa

