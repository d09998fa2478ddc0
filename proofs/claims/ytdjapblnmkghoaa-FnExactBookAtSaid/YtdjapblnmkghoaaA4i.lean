/- impl.BookAt; the law: what they compute. -/
import Derived.Test.YtdjapblnmkghoaaA4w
import Derived.Test.YtdjapblnmkghoaaM3o
namespace Go.Proofs.Ytdjapblnmkghoaa
open Go.Sx
set_option maxRecDepth 100000
set_option maxHeartbeats 16000000
set_option linter.unusedVariables false
set_option linter.unusedSimpArgs false
def kR (c : VBookChange) : List C := [.p (.string c.object.kind), .p (.string c.object.name), .p (.bool true)]
theorem find_kR (k n : ByteArray) (l : List VBookChange) : findR [.string k, .string n] 2 (l.map kR) = some (fstR (isC k n) kR l) :=
  findR_map (key := fun o => [.string o.object.kind, .string o.object.name]) (fun o => rfl) (fun o => by simp [eqVals, bin, strBin, bnd, Sx.asBool, isC]) l
theorem put_kR {l : List VBookChange} {i : Nat} {x : VBookChange} (h : l[i]? = some x) : Go.Sx.putR [.string x.object.kind, .string x.object.name] [.p (.bool true)] ((csF (l.take i)).map kR) (fstR (isC x.object.kind x.object.name) kR (csF (l.take i))) = (csF (l.take (i + 1))).map kR := by
  rw [csF_snoc h]
  exact putR_map (f := kR) rfl _
theorem hI_w (v : Int) (l : List VBookObject) (c : VBookChange) : wSBookObject (hI v l c) ≤ wSBookObject l + (c.w + 1) := by
  have hc : c.w = c.object.w := rfl
  have h1 : wSBookObject (putR c.object true l) ≤ wSBookObject l := by
    rw [putR_done]
    have h2 := sumObj_filter (neK c.object) l
    have h3 := List.length_filter_le (neK c.object) l
    unfold wSBookObject
    omega
  unfold hI
  split
  · omega
  · unfold apC
    split
    · omega
    · have := putR_w c.object false (putR c.object true l)
      omega
theorem hIs_w (v : Int) : ∀ (cs : List VBookChange) (l : List VBookObject), wSBookObject (cs.foldl (hI v) l) ≤ wSBookObject l + wSBookChange cs
  | [], l => by simp
  | c :: cs, l => by
    have h1 := hIs_w v cs (hI v l c)
    have h2 := hI_w v l c
    have h3 : wSBookChange (c :: cs) = c.w + 1 + wSBookChange cs := by unfold wSBookChange; rw [show sumWBookChange (c :: cs) = c.w + sumWBookChange cs from rfl]; simp; omega
    rw [List.foldl_cons]
    omega
theorem k47 (b : VBook) (v : Int) (hw : b.w ≤ 4194304) : EV Try.prog E 47 [.val 0 true (b.c .shr), .val 0 false [.p (.int .i64 v)]] = some ⟨[(false, [.sl .own 7 ((batL b v).map (VBookObject.c .own))]), (false, [.p (.bool (batB b v))])], []⟩ := by
  refine EV_intro Try.func47 rfl ?_
  have h1 := k33 b hw
  have hol : b.objects.length ≤ 4194304 := by unfold VBook.w wSBookObject at hw; omega
  have hhl : b.history.length ≤ 4194304 := by unfold VBook.w wSBookChange at hw; omega
  simp only [VBook.c] at h1
  unfold batL batB
  cases d : implB b
  · rw [d] at h1
    simp only [rv0, rv1, rvE, rvH, rvS, rvI, eT, eQ, ↓reduceIte, Nat.reduceEqDiff, Nat.reduceAdd, Nat.reduceSub, Nat.reduceMul, Nat.reduceLeDiff, Nat.reduceBEq, decide_true, decide_false, reduceCtorEq, Int.reduceLT, Int.reduceNeg, rvN, Nat.reduceLT, Int.reduceLE, Int.reduceEq, eq_self, List.reduceReplicate, rvF, rvG, e47, e33, Try.f47, VBook.c, h1, Bool.false_and, Bool.false_eq_true, if_false, List.map_nil]
  rw [d] at h1
  by_cases c1 : v < b.floor
  · have e : inR v b.floor b.now = false := by unfold inR; rw [decide_eq_false (by omega)]; rfl
    rw [e]
    simp only [rv0, rv1, rvE, rvH, rvS, rvI, eT, eQ, ↓reduceIte, Nat.reduceEqDiff, Nat.reduceAdd, Nat.reduceSub, Nat.reduceMul, Nat.reduceLeDiff, Nat.reduceBEq, decide_true, decide_false, reduceCtorEq, Int.reduceLT, Int.reduceNeg, rvN, Nat.reduceLT, Int.reduceLE, Int.reduceEq, eq_self, List.reduceReplicate, rvF, rvG, e47, e33, Try.f47, VBook.c, h1, c1, Bool.and_false, Bool.false_eq_true, if_false, List.map_nil]
  by_cases c2 : b.now < v
  · have e : inR v b.floor b.now = false := by unfold inR; rw [decide_eq_false (show ¬ v ≤ b.now by omega), Bool.and_false]
    rw [e]
    simp only [rv0, rv1, rvE, rvH, rvS, rvI, eT, eQ, ↓reduceIte, Nat.reduceEqDiff, Nat.reduceAdd, Nat.reduceSub, Nat.reduceMul, Nat.reduceLeDiff, Nat.reduceBEq, decide_true, decide_false, reduceCtorEq, Int.reduceLT, Int.reduceNeg, rvN, Nat.reduceLT, Int.reduceLE, Int.reduceEq, eq_self, List.reduceReplicate, rvF, rvG, e47, e33, Try.f47, VBook.c, h1, c1, c2, Bool.and_false, Bool.false_eq_true, if_false, List.map_nil]
  have e : inR v b.floor b.now = true := by unfold inR; rw [decide_eq_true (by omega), decide_eq_true (show v ≤ b.now by omega)]; rfl
  rw [e, ← at_eq d]
  simp only [rv0, rv1, rvE, rvH, rvS, rvI, eT, eQ, ↓reduceIte, Nat.reduceEqDiff, Nat.reduceAdd, Nat.reduceSub, Nat.reduceMul, Nat.reduceLeDiff, Nat.reduceBEq, decide_true, decide_false, reduceCtorEq, Int.reduceLT, Int.reduceNeg, rvN, Nat.reduceLT, Int.reduceLE, Int.reduceEq, eq_self, List.reduceReplicate, rvF, rvG, e47, e33, Try.f47, VBook.c, h1, c1, c2, Bool.and_self, if_true, List.map_nil]
  rw [for_block b.history (fun i (a : List VBookObject × Bool) => ⟨8, [(1, .val 0 false [.p (.int .i64 v)]), (2, .box 1 1 (b.c .shr)), (6, .val 2 false [.sl .own 7 (a.1.map (VBookObject.c .own))]), (7, .val 3 false [.p (.bool a.2)]), (8, .val 4 false [.mp .own 0 true false 2 ((csF (b.history.take i)).map kR)]), (31, .val 5 false [.sl .shr 9 (b.history.map (VBookChange.c .shr))]), (32, .val 6 false [.p (.int .i64 b.history.length)]), (33, .val 7 false [.p (.int .i64 i)])]⟩) (fun i a => wSBookObject a.1 + wSBookChange (b.history.drop i) ≤ 4194304)
    (fun r i a => .norm ⟨3, [(2, .box 0 0 (b.c .shr)), (6, .val 1 false [.sl .own 7 ((r.foldl (hI v) a.1).map (VBookObject.c .own))]), (7, .val 2 false [.p (.bool (wG b v i r a.2))])]⟩) ?_ ?_ (a := ([], true)) (by rw [List.drop_zero]; show wSBookObject [] + _ ≤ _; have : wSBookObject [] = 0 := rfl; unfold VBook.w at hw; omega) (by simp only [rv0, rv1, rvE, rvH, rvS, rvI, eT, eQ, ↓reduceIte, Nat.reduceEqDiff, Nat.reduceAdd, Nat.reduceSub, Nat.reduceMul, Nat.reduceLeDiff, Nat.reduceBEq, decide_true, decide_false, reduceCtorEq, Int.reduceLT, Int.reduceNeg, rvN, Nat.reduceLT, Int.reduceLE, Int.reduceEq, eq_self, List.reduceReplicate, rvF, rvG, e47, VBook.c, List.map_nil, List.take_zero, csF, List.foldl_nil]; try rfl)]
  · have how := hIs_w v b.history []
    have h00 : wSBookObject [] = 0 := rfl
    unfold atI
    generalize b.history.foldl (hI v) [] = L0 at *
    simp only [rv0, rv1, rvE, rvH, rvS, rvI, eT, eQ, ↓reduceIte, Nat.reduceEqDiff, Nat.reduceAdd, Nat.reduceSub, Nat.reduceMul, Nat.reduceLeDiff, Nat.reduceBEq, decide_true, decide_false, reduceCtorEq, Int.reduceLT, Int.reduceNeg, rvN, Nat.reduceLT, Int.reduceLE, Int.reduceEq, eq_self, List.reduceReplicate, rvF, rvG, e47, VBook.c]
    rw [for_block b.objects (fun i (L : List VBookObject) => ⟨6, [(2, .box 0 0 (b.c .shr)), (6, .val 1 false [.sl .own 7 (L.map (VBookObject.c .own))]), (7, .val 2 false [.p (.bool (wG b v 0 b.history true))]), (79, .val 3 false [.sl .shr 7 (b.objects.map (VBookObject.c .shr))]), (80, .val 4 false [.p (.int .i64 b.objects.length)]), (81, .val 5 false [.p (.int .i64 i)])]⟩) (fun i L => wSBookObject L + wSBookObject (b.objects.drop i) ≤ 4194304)
      (fun r i L => .norm ⟨2, [(6, .val 0 false [.sl .own 7 ((r.foldl (oP b.floor) L).map (VBookObject.c .own))]), (7, .val 1 false [.p (.bool (wG b v 0 b.history true))])]⟩) ?_ ?_ (a := L0) (by rw [List.drop_zero]; unfold VBook.w at hw; omega) (by simp only [rv0, rv1, rvE, rvH, rvS, rvI, eT, eQ, ↓reduceIte, Nat.reduceEqDiff, Nat.reduceAdd, Nat.reduceSub, Nat.reduceMul, Nat.reduceLeDiff, Nat.reduceBEq, decide_true, decide_false, reduceCtorEq, Int.reduceLT, Int.reduceNeg, rvN, Nat.reduceLT, Int.reduceLE, Int.reduceEq, eq_self, List.reduceReplicate, rvF, rvG, e47, VBook.c]; try rfl)]
    · simp only [rv0, rv1, rvE, rvH, rvS, rvI, eT, eQ, ↓reduceIte, Nat.reduceEqDiff, Nat.reduceAdd, Nat.reduceSub, Nat.reduceMul, Nat.reduceLeDiff, Nat.reduceBEq, decide_true, decide_false, reduceCtorEq, Int.reduceLT, Int.reduceNeg, rvN, Nat.reduceLT, Int.reduceLE, Int.reduceEq, eq_self, List.reduceReplicate, rvF, rvG, e47, rowsBookObject]
    · intro i o r L hd hi hA
      have hlen := (List.getElem?_eq_some_iff.1 hi).1
      have hlt : ((i : Int) < (b.objects.length : Int)) := by omega
      have hr := getElem?_map_some (f := VBookObject.c .shr) hi
      have hi0 : (0 : Int) ≤ (i : Int) := by omega
      have hwi := wrap64 (n := (i : Int) + 1) (by omega) (by omega)
      have e3 : b.objects.drop (i + 1) = r := by rw [← List.drop_drop, hd]; rfl
      have e4 : wSBookObject (b.objects.drop i) = o.w + 1 + wSBookObject r := by
        rw [hd]; unfold wSBookObject; rw [show sumWBookObject (o :: r) = o.w + sumWBookObject r from rfl]; simp; omega
      have g1 := k61 o (holds_le (n := 4194304) (by omega))
      have g2 := k74 L o (by unfold wSBookObject at hA; omega)
      have hst : wSBookObject (oP b.floor L o) ≤ wSBookObject L + (o.w + 1) := by
        unfold oP
        split
        · exact putR_w o false L
        · omega
      simp only [VBookObject.c] at hr g1 g2
      left
      refine ⟨oP b.floor L o, ?_, by rw [e3]; omega, rfl⟩
      by_cases c3 : o.version ≤ b.floor
      · have s1 : oP b.floor L o = putR o false L := by unfold oP; rw [if_pos c3]
        rw [s1]
        simp only [rv0, rv1, rvE, rvH, rvS, rvI, eT, eQ, ↓reduceIte, Nat.reduceEqDiff, Nat.reduceAdd, Nat.reduceSub, Nat.reduceMul, Nat.reduceLeDiff, Nat.reduceBEq, decide_true, decide_false, reduceCtorEq, Int.reduceLT, Int.reduceNeg, rvN, Nat.reduceLT, Int.reduceLE, Int.reduceEq, eq_self, List.reduceReplicate, rvF, rvG, e47, e61, e74, VBook.c, VBookObject.c, hlt, hr, hi0, hwi, c3, g1, g2, rowsBookObject, rowsString, i64c]
      · have s1 : oP b.floor L o = L := by unfold oP; rw [if_neg c3]
        rw [s1]
        simp only [rv0, rv1, rvE, rvH, rvS, rvI, eT, eQ, ↓reduceIte, Nat.reduceEqDiff, Nat.reduceAdd, Nat.reduceSub, Nat.reduceMul, Nat.reduceLeDiff, Nat.reduceBEq, decide_true, decide_false, reduceCtorEq, Int.reduceLT, Int.reduceNeg, rvN, Nat.reduceLT, Int.reduceLE, Int.reduceEq, eq_self, List.reduceReplicate, rvF, rvG, e47, VBook.c, VBookObject.c, hlt, hr, hi0, hwi, c3, i64c]
    · intro a _
      have hn : ¬ ((b.objects.length : Int) < (b.objects.length : Int)) := by omega
      simp only [rv0, rv1, rvE, rvH, rvS, rvI, eT, eQ, ↓reduceIte, Nat.reduceEqDiff, Nat.reduceAdd, Nat.reduceSub, Nat.reduceMul, Nat.reduceLeDiff, Nat.reduceBEq, decide_true, decide_false, reduceCtorEq, Int.reduceLT, Int.reduceNeg, rvN, Nat.reduceLT, Int.reduceLE, Int.reduceEq, eq_self, List.reduceReplicate, rvF, rvG, e47, VBook.c, hn, List.foldl_nil]
  · intro i c r a hd hi hA
    obtain ⟨L, all⟩ := a
    simp only at hA
    have hlen := (List.getElem?_eq_some_iff.1 hi).1
    have hlt : ((i : Int) < (b.history.length : Int)) := by omega
    have hr := getElem?_map_some (f := VBookChange.c .shr) hi
    have hi0 : (0 : Int) ≤ (i : Int) := by omega
    have hwi := wrap64 (n := (i : Int) + 1) (by omega) (by omega)
    have e3 : b.history.drop (i + 1) = r := by rw [← List.drop_drop, hd]; rfl
    have e4 : wSBookChange (b.history.drop i) = c.w + 1 + wSBookChange r := by
      rw [hd]; unfold wSBookChange; rw [show sumWBookChange (c :: r) = c.w + sumWBookChange r from rfl]; simp; omega
    have hcw : c.w = c.object.w := rfl
    have hLl : L.length ≤ 4194304 := by unfold wSBookObject at hA; omega
    have g1 := k73 c.object
    have g2 := k72 L c.object hLl
    have hpl : (putR c.object true L).length ≤ 4194304 := by rw [putR_done]; have := List.length_filter_le (neK c.object) L; omega
    have g3 := k74 (putR c.object true L) c.object hpl
    have g4 := k61 c.object (holds_le (n := 4194304) (by omega))
    have hst := hI_w v L c
    have hf := find_kR c.object.kind c.object.name (csF (b.history.take i))
    have hp := put_kR hi
    have hlo := csF_find b.history c.object i (by omega)
    simp only [VBookChange.c, VBookObject.c] at hr g1 g3 g4
    left
    refine ⟨(hI v L c, wStep b v i all c), ?_, by show wSBookObject (hI v L c) + _ ≤ _; rw [e3]; omega, rfl⟩
    have hlast : ((csF (b.history.take i)).find? (isC c.object.kind c.object.name) = none → lastF b.history c.object i < 0) ∧ (∀ x, (csF (b.history.take i)).find? (isC c.object.kind c.object.name) = some x → ¬ lastF b.history c.object i < 0) := by
      rw [hlo]
      rcases last_cases b.history c.object i (by omega) with ⟨q1, q2⟩ | ⟨j, c', q1, _, _, _, q5⟩
      · rw [q1, q2]
        exact ⟨fun _ => by omega, (fun x hx => by cases hx)⟩
      · rw [q1, q5]
        exact ⟨(fun hx => by cases hx), fun _ _ => by omega⟩
    rcases fstR_cases (isC c.object.kind c.object.name) kR (csF (b.history.take i)) with ⟨u1, u2⟩ | ⟨j, x, u1, u2, u3, u4, u5⟩
    · have hlt0 := hlast.1 u1
      rw [u2] at hf hp
      by_cases c3 : v < c.version
      · have s1 : hI v L c = L := by unfold hI; rw [if_pos c3]
        rw [s1]
        by_cases x1 : c.gone = true
        · have s2 : wStep b v i all c = false := by
            unfold wStep creaB
            rw [if_neg (by omega), x1, decide_eq_true hlt0]
            rfl
          rw [s2]
          simp only [rv0, rv1, rvE, rvH, rvS, rvI, eT, eQ, ↓reduceIte, Nat.reduceEqDiff, Nat.reduceAdd, Nat.reduceSub, Nat.reduceMul, Nat.reduceLeDiff, Nat.reduceBEq, decide_true, decide_false, reduceCtorEq, Int.reduceLT, Int.reduceNeg, rvN, Nat.reduceLT, Int.reduceLE, Int.reduceEq, eq_self, List.reduceReplicate, rvF, rvG, e47, e73, VBook.c, VBookChange.c, VBookObject.c, hlt, hr, hi0, hwi, c3, g1, hf, hp, x1, rowsBookObject, i64c]
        · have x1' : c.gone = false := by simpa using x1
          by_cases x2 : c.object.born = c.version
          · have s2 : wStep b v i all c = all := by
              unfold wStep creaB
              rw [if_neg (by omega), x1', decide_eq_true hlt0, decide_eq_true x2]
              rfl
            rw [s2]
            have x2' := eq_true x2
            simp only [rv0, rv1, rvE, rvH, rvS, rvI, eT, eQ, ↓reduceIte, Nat.reduceEqDiff, Nat.reduceAdd, Nat.reduceSub, Nat.reduceMul, Nat.reduceLeDiff, Nat.reduceBEq, decide_true, decide_false, reduceCtorEq, Int.reduceLT, Int.reduceNeg, rvN, Nat.reduceLT, Int.reduceLE, Int.reduceEq, eq_self, List.reduceReplicate, rvF, rvG, e47, e73, VBook.c, VBookChange.c, VBookObject.c, hlt, hr, hi0, hwi, c3, g1, hf, hp, x1', x2', rowsBookObject, i64c]
          · have s2 : wStep b v i all c = false := by
              unfold wStep creaB
              rw [if_neg (by omega), x1', decide_eq_true hlt0, decide_eq_false x2]
              rfl
            rw [s2]
            simp only [rv0, rv1, rvE, rvH, rvS, rvI, eT, eQ, ↓reduceIte, Nat.reduceEqDiff, Nat.reduceAdd, Nat.reduceSub, Nat.reduceMul, Nat.reduceLeDiff, Nat.reduceBEq, decide_true, decide_false, reduceCtorEq, Int.reduceLT, Int.reduceNeg, rvN, Nat.reduceLT, Int.reduceLE, Int.reduceEq, eq_self, List.reduceReplicate, rvF, rvG, e47, e73, VBook.c, VBookChange.c, VBookObject.c, hlt, hr, hi0, hwi, c3, g1, hf, hp, x1', x2, rowsBookObject, i64c]
      · have s1 : hI v L c = apC L c := by unfold hI; rw [if_neg c3]
        have s2 : wStep b v i all c = all := by unfold wStep; rw [if_pos (by omega)]
        rw [s1, s2]
        unfold apC
        cases x1 : c.gone
        · simp only [Bool.false_eq_true, if_false]
          simp only [rv0, rv1, rvE, rvH, rvS, rvI, eT, eQ, ↓reduceIte, Nat.reduceEqDiff, Nat.reduceAdd, Nat.reduceSub, Nat.reduceMul, Nat.reduceLeDiff, Nat.reduceBEq, decide_true, decide_false, reduceCtorEq, Int.reduceLT, Int.reduceNeg, rvN, Nat.reduceLT, Int.reduceLE, Int.reduceEq, eq_self, List.reduceReplicate, rvF, rvG, e47, e73, e72, e61, e74, VBook.c, VBookChange.c, VBookObject.c, hlt, hr, hi0, hwi, c3, g1, g2, g3, g4, hf, hp, x1, rowsBookObject, rowsString, i64c]
        · simp only [if_true]
          simp only [rv0, rv1, rvE, rvH, rvS, rvI, eT, eQ, ↓reduceIte, Nat.reduceEqDiff, Nat.reduceAdd, Nat.reduceSub, Nat.reduceMul, Nat.reduceLeDiff, Nat.reduceBEq, decide_true, decide_false, reduceCtorEq, Int.reduceLT, Int.reduceNeg, rvN, Nat.reduceLT, Int.reduceLE, Int.reduceEq, eq_self, List.reduceReplicate, rvF, rvG, e47, e73, e72, VBook.c, VBookChange.c, VBookObject.c, hlt, hr, hi0, hwi, c3, g1, g2, hf, hp, x1, rowsBookObject, i64c]
    · have hge0 := hlast.2 x u1
      rw [u5] at hf hp
      simp only [kR] at hf hp
      by_cases c3 : v < c.version
      · have s1 : hI v L c = L := by unfold hI; rw [if_pos c3]
        have s2 : wStep b v i all c = all := by
          unfold wStep
          rw [if_neg (by omega), decide_eq_false hge0]
          rfl
        rw [s1, s2]
        simp only [rv0, rv1, rvE, rvH, rvS, rvI, eT, eQ, ↓reduceIte, Nat.reduceEqDiff, Nat.reduceAdd, Nat.reduceSub, Nat.reduceMul, Nat.reduceLeDiff, Nat.reduceBEq, decide_true, decide_false, reduceCtorEq, Int.reduceLT, Int.reduceNeg, rvN, Nat.reduceLT, Int.reduceLE, Int.reduceEq, eq_self, List.reduceReplicate, rvF, rvG, e47, e73, VBook.c, VBookChange.c, VBookObject.c, kR, hlt, hr, hi0, hwi, c3, g1, hf, hp, rowsBookObject, i64c]
      · have s1 : hI v L c = apC L c := by unfold hI; rw [if_neg c3]
        have s2 : wStep b v i all c = all := by unfold wStep; rw [if_pos (by omega)]
        rw [s1, s2]
        unfold apC
        cases x1 : c.gone
        · simp only [Bool.false_eq_true, if_false]
          simp only [rv0, rv1, rvE, rvH, rvS, rvI, eT, eQ, ↓reduceIte, Nat.reduceEqDiff, Nat.reduceAdd, Nat.reduceSub, Nat.reduceMul, Nat.reduceLeDiff, Nat.reduceBEq, decide_true, decide_false, reduceCtorEq, Int.reduceLT, Int.reduceNeg, rvN, Nat.reduceLT, Int.reduceLE, Int.reduceEq, eq_self, List.reduceReplicate, rvF, rvG, e47, e73, e72, e61, e74, VBook.c, VBookChange.c, VBookObject.c, kR, hlt, hr, hi0, hwi, c3, g1, g2, g3, g4, hf, hp, x1, rowsBookObject, rowsString, i64c]
        · simp only [if_true]
          simp only [rv0, rv1, rvE, rvH, rvS, rvI, eT, eQ, ↓reduceIte, Nat.reduceEqDiff, Nat.reduceAdd, Nat.reduceSub, Nat.reduceMul, Nat.reduceLeDiff, Nat.reduceBEq, decide_true, decide_false, reduceCtorEq, Int.reduceLT, Int.reduceNeg, rvN, Nat.reduceLT, Int.reduceLE, Int.reduceEq, eq_self, List.reduceReplicate, rvF, rvG, e47, e73, e72, VBook.c, VBookChange.c, VBookObject.c, kR, hlt, hr, hi0, hwi, c3, g1, g2, hf, hp, x1, rowsBookObject, i64c]
  · intro a _
    have hn : ¬ ((b.history.length : Int) < (b.history.length : Int)) := by omega
    simp only [rv0, rv1, rvE, rvH, rvS, rvI, eT, eQ, ↓reduceIte, Nat.reduceEqDiff, Nat.reduceAdd, Nat.reduceSub, Nat.reduceMul, Nat.reduceLeDiff, Nat.reduceBEq, decide_true, decide_false, reduceCtorEq, Int.reduceLT, Int.reduceNeg, rvN, Nat.reduceLT, Int.reduceLE, Int.reduceEq, eq_self, List.reduceReplicate, rvF, rvG, e47, VBook.c, hn, wG, List.foldl_nil]
end Go.Proofs.Ytdjapblnmkghoaa

