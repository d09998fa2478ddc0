/- BookTake: what the functions compute. -/
import Derived.Test.YtdjapblnmkghoaaT4k
namespace Go.Proofs.Ytdjapblnmkghoaa
open Go.Sx
set_option maxRecDepth 100000
set_option maxHeartbeats 8000000
set_option linter.unusedVariables false
set_option linter.unusedSimpArgs false
def flB : Bool → Fl
  | true => .own
  | false => .shr
theorem flB_t : flB true = .own := rfl
theorem flB_f : flB false = .shr := rfl
theorem rowsFl (b : Bool) (l : List VBookObject) : borRows (l.map (VBookObject.c (flB b))) = l.map (VBookObject.c .shr) ∧ wholeRows (l.map (VBookObject.c (flB b))) = true := by
  cases b
  · exact ⟨(rowsShr l).1, (rowsShr l).2.1⟩
  · exact ⟨(rowsBookObject l).1, (rowsBookObject l).2.2.1⟩
def VBookMirror.m (b : Bool) (x : VBookMirror) : List C := [.p (.string x.kind), .p (.string x.prefix_), .p (.int .i64 x.at_), .sl .own 7 (x.objects.map (VBookObject.c (flB b))), .p (.int .i64 x.seen)]
def nilM : VBookMirror := ⟨⟨#[]⟩, ⟨#[]⟩, 0, [], 0⟩
def tkB (b : Bool) (m : VBookMirror) (c : VBookChange) : Bool := if c.version ≤ m.at_ then b else false
def tksB : Bool → VBookMirror → List VBookChange → Bool
  | b, _, [] => b
  | b, m, c :: r => tksB (tkB b m c) (tk m c) r
def takeB (m : VBookMirror) (n : VBookNews) : Bool := if n.code ≠ 0 then true else if n.from_ < m.at_ then true else if risF none n.changes = true then tksB true m n.changes else true
theorem risF_head : ∀ l : List VBookChange, risF l[0]? (l.drop 1) = risF none l
  | [] => rfl
  | x :: r => rfl
theorem max_at (a f : Int) : max a f = if a < f then f else a := by
  split <;> omega
theorem k23 (m : VBookMirror) (n : VBookNews) (hw : m.w + n.w ≤ 4194304) : EV Try.prog E 23 [.val 0 true (m.c .shr), .val 0 true (n.c .shr)] = some ⟨[(true, (takeM m n).m (takeB m n)), (false, [.p (.int .i64 (takeC m n))])], []⟩ := by
  refine EV_intro Try.func23 rfl ?_
  have hm : m.w ≤ 4194304 := by omega
  have h1 := k69 m hm
  have hcl : n.changes.length ≤ 4194304 := by unfold VBookNews.w wSBookChange at hw; omega
  simp only [VBookMirror.c] at h1
  unfold takeM takeB takeC
  by_cases c1 : n.code = 0
  case neg =>
    rw [if_pos c1, if_pos c1, if_pos c1]
    simp only [rv0, rv1, rvE, rvH, rvS, rvI, eT, eQ, ↓reduceIte, Nat.reduceEqDiff, Nat.reduceAdd, Nat.reduceSub, Nat.reduceMul, Nat.reduceLeDiff, Nat.reduceBEq, decide_true, decide_false, reduceCtorEq, Int.reduceLT, Int.reduceNeg, rvN, Nat.reduceLT, Int.reduceLE, Int.reduceEq, eq_self, List.reduceReplicate, rvF, rvG, e23, e69, Try.f23, VBookMirror.c, VBookNews.c, VBookMirror.m, flB_t, h1, c1, rowsBookObject]
  have c1' : ¬ (n.code ≠ 0) := fun h => h c1
  rw [if_neg c1', if_neg c1', if_neg c1']
  simp only [rv0, rv1, rvE, rvH, rvS, rvI, eT, eQ, ↓reduceIte, Nat.reduceEqDiff, Nat.reduceAdd, Nat.reduceSub, Nat.reduceMul, Nat.reduceLeDiff, Nat.reduceBEq, decide_true, decide_false, reduceCtorEq, Int.reduceLT, Int.reduceNeg, rvN, Nat.reduceLT, Int.reduceLE, Int.reduceEq, eq_self, List.reduceReplicate, rvF, rvG, e23, e69, Try.f23, VBookMirror.c, VBookNews.c, h1, c1, rowsBookObject]
  rw [for_block (n.changes.drop 1) (fun k (_ : Unit) => ⟨5, [(2, .box 0 0 (m.c .shr)), (3, .box 1 1 (n.c .shr)), (4, .box 2 2 (nilM.c .own)), (6, .box 3 3 (m.c .own)), (7, .val 4 false [.p (.int .i64 ((1 + k : Nat) : Int))])]⟩) (fun _ _ => True)
    (fun r k _ => if risF n.changes[k]? r = true then .norm ⟨4, [(2, .box 0 0 (m.c .shr)), (3, .box 1 1 (n.c .shr)), (4, .box 2 2 (nilM.c .own)), (6, .box 3 3 (m.c .own))]⟩ else .ret ⟨[(true, m.c .own), (false, [.p (.int .i64 2)])], []⟩) ?_ ?_ (a := ()) trivial (by simp only [rv0, rv1, rvE, rvH, rvS, rvI, eT, eQ, ↓reduceIte, Nat.reduceEqDiff, Nat.reduceAdd, Nat.reduceSub, Nat.reduceMul, Nat.reduceLeDiff, Nat.reduceBEq, decide_true, decide_false, reduceCtorEq, Int.reduceLT, Int.reduceNeg, rvN, Nat.reduceLT, Int.reduceLE, Int.reduceEq, eq_self, List.reduceReplicate, rvF, rvG, e23, VBookMirror.c, VBookNews.c, nilM, c1, List.map_nil]; try rfl)]
  · rw [risF_head]
    cases d1 : risF none n.changes
    · by_cases c2 : n.from_ < m.at_
      · rw [if_pos c2, if_pos c2, if_pos c2]
        simp only [rv0, rv1, rvE, rvH, rvS, rvI, eT, eQ, ↓reduceIte, Nat.reduceEqDiff, Nat.reduceAdd, Nat.reduceSub, Nat.reduceMul, Nat.reduceLeDiff, Nat.reduceBEq, decide_true, decide_false, reduceCtorEq, Int.reduceLT, Int.reduceNeg, rvN, Nat.reduceLT, Int.reduceLE, Int.reduceEq, eq_self, List.reduceReplicate, rvF, rvG, e23, VBookMirror.c, VBookNews.c, VBookMirror.m, flB_t, nilM, c1, c2, Bool.false_eq_true]
      · rw [if_neg c2, if_neg c2, if_neg c2]
        simp only [rv0, rv1, rvE, rvH, rvS, rvI, eT, eQ, ↓reduceIte, Nat.reduceEqDiff, Nat.reduceAdd, Nat.reduceSub, Nat.reduceMul, Nat.reduceLeDiff, Nat.reduceBEq, decide_true, decide_false, reduceCtorEq, Int.reduceLT, Int.reduceNeg, rvN, Nat.reduceLT, Int.reduceLE, Int.reduceEq, eq_self, List.reduceReplicate, rvF, rvG, e23, VBookMirror.c, VBookNews.c, VBookMirror.m, flB_t, nilM, c1, c2, Bool.false_eq_true]
    by_cases c2 : n.from_ < m.at_
    · rw [if_pos c2, if_pos c2, if_pos c2]
      simp only [rv0, rv1, rvE, rvH, rvS, rvI, eT, eQ, ↓reduceIte, Nat.reduceEqDiff, Nat.reduceAdd, Nat.reduceSub, Nat.reduceMul, Nat.reduceLeDiff, Nat.reduceBEq, decide_true, decide_false, reduceCtorEq, Int.reduceLT, Int.reduceNeg, rvN, Nat.reduceLT, Int.reduceLE, Int.reduceEq, eq_self, List.reduceReplicate, rvF, rvG, e23, VBookMirror.c, VBookNews.c, VBookMirror.m, flB_t, nilM, c1, c2, rowsBookObject]
    rw [if_neg c2, if_neg c2, if_neg c2]
    simp only [rv0, rv1, rvE, rvH, rvS, rvI, eT, eQ, ↓reduceIte, Nat.reduceEqDiff, Nat.reduceAdd, Nat.reduceSub, Nat.reduceMul, Nat.reduceLeDiff, Nat.reduceBEq, decide_true, decide_false, reduceCtorEq, Int.reduceLT, Int.reduceNeg, rvN, Nat.reduceLT, Int.reduceLE, Int.reduceEq, eq_self, List.reduceReplicate, rvF, rvG, e23, VBookMirror.c, VBookNews.c, nilM, c1, c2, rowsBookObject]
    rw [for_block n.changes (fun i (a : VBookMirror × Bool) => ⟨4, [(3, .box 0 0 (n.c .shr)), (4, .box 1 1 (nilM.c .own)), (6, .box 2 2 (a.1.m a.2)), (8, .val 3 false [.p (.int .i64 i)])]⟩) (fun i a => wSBookObject a.1.objects + wSBookChange (n.changes.drop i) ≤ 4194304)
      (fun r i a => .norm ⟨3, [(3, .box 0 0 (n.c .shr)), (4, .box 1 1 (nilM.c .own)), (6, .box 2 2 ((tks a.1 r).m (tksB a.2 a.1 r)))]⟩) ?_ ?_ (a := (m, true)) (by rw [List.drop_zero]; show wSBookObject m.objects + _ ≤ _; unfold VBookMirror.w VBookNews.w at hw; omega) (by simp only [rv0, rv1, rvE, rvH, rvS, rvI, eT, eQ, ↓reduceIte, Nat.reduceEqDiff, Nat.reduceAdd, Nat.reduceSub, Nat.reduceMul, Nat.reduceLeDiff, Nat.reduceBEq, decide_true, decide_false, reduceCtorEq, Int.reduceLT, Int.reduceNeg, rvN, Nat.reduceLT, Int.reduceLE, Int.reduceEq, eq_self, List.reduceReplicate, rvF, rvG, e23, VBookMirror.c, VBookNews.c, VBookMirror.m, flB_t, nilM, c1, List.map_nil]; try rfl)]
    · show _ = some _
      generalize tks m n.changes = x
      generalize tksB true m n.changes = b
      unfold endT
      rw [max_at]
      by_cases c3 : x.at_ < n.from_
      · rw [if_pos c3]
        simp only [rv0, rv1, rvE, rvH, rvS, rvI, eT, eQ, ↓reduceIte, Nat.reduceEqDiff, Nat.reduceAdd, Nat.reduceSub, Nat.reduceMul, Nat.reduceLeDiff, Nat.reduceBEq, decide_true, decide_false, reduceCtorEq, Int.reduceLT, Int.reduceNeg, rvN, Nat.reduceLT, Int.reduceLE, Int.reduceEq, eq_self, List.reduceReplicate, rvF, rvG, e23, VBookMirror.c, VBookNews.c, VBookMirror.m, nilM, c3, rowsFl]
      · rw [if_neg c3]
        simp only [rv0, rv1, rvE, rvH, rvS, rvI, eT, eQ, ↓reduceIte, Nat.reduceEqDiff, Nat.reduceAdd, Nat.reduceSub, Nat.reduceMul, Nat.reduceLeDiff, Nat.reduceBEq, decide_true, decide_false, reduceCtorEq, Int.reduceLT, Int.reduceNeg, rvN, Nat.reduceLT, Int.reduceLE, Int.reduceEq, eq_self, List.reduceReplicate, rvF, rvG, e23, VBookMirror.c, VBookNews.c, VBookMirror.m, nilM, c3, rowsFl]
    · intro i c r a hd hi hA
      obtain ⟨x, b⟩ := a
      simp only at hA
      have hlen := (List.getElem?_eq_some_iff.1 hi).1
      have hlt : ((i : Int) < (n.changes.length : Int)) := by omega
      have hr := getElem?_map_some (f := VBookChange.c .shr) hi
      have hi0 : (0 : Int) ≤ (i : Int) := by omega
      have hwi := wrap64 (n := (i : Int) + 1) (by omega) (by omega)
      have e3 : n.changes.drop (i + 1) = r := by rw [← List.drop_drop, hd]; rfl
      have e4 : wSBookChange (n.changes.drop i) = c.w + 1 + wSBookChange r := by
        rw [hd]; unfold wSBookChange; rw [show sumWBookChange (c :: r) = c.w + sumWBookChange r from rfl]; simp; omega
      have hcw : c.w = c.object.w := rfl
      left
      refine ⟨(tk x c, tkB b x c), ?_, ?_, rfl⟩
      · by_cases d2 : c.version ≤ x.at_
        · have e1 : tk x c = x := by unfold tk; rw [if_pos d2]
          have e2 : tkB b x c = b := by unfold tkB; rw [if_pos d2]
          rw [e1, e2]
          simp only [VBookChange.c] at hr
          simp only [rv0, rv1, rvE, rvH, rvS, rvI, eT, eQ, ↓reduceIte, Nat.reduceEqDiff, Nat.reduceAdd, Nat.reduceSub, Nat.reduceMul, Nat.reduceLeDiff, Nat.reduceBEq, decide_true, decide_false, reduceCtorEq, Int.reduceLT, Int.reduceNeg, rvN, Nat.reduceLT, Int.reduceLE, Int.reduceEq, eq_self, List.reduceReplicate, rvF, rvG, e23, VBookMirror.c, VBookNews.c, VBookMirror.m, VBookChange.c, nilM, c1, hlt, hr, hi0, hwi, d2, i64c]
        · have e1 : tk x c = ⟨x.kind, x.prefix_, c.version, putR c.object c.gone x.objects, IntKind.i64.wrap (x.seen + 1)⟩ := by unfold tk; rw [if_neg d2]
          have e2 : tkB b x c = false := by unfold tkB; rw [if_neg d2]
          rw [e1, e2]
          have g1 := k56 c.object (holds_le (n := 4194304) (by omega))
          have g2 := k70 x.objects c (by unfold wSBookObject at hA; omega)
          simp only [VBookChange.c, VBookObject.c] at hr g1 g2
          cases hmr : mineRows ((putR c.object c.gone x.objects).map (VBookObject.c .shr))
          all_goals simp only [rv0, rv1, rvE, rvH, rvS, rvI, eT, eQ, ↓reduceIte, Nat.reduceEqDiff, Nat.reduceAdd, Nat.reduceSub, Nat.reduceMul, Nat.reduceLeDiff, Nat.reduceBEq, decide_true, decide_false, reduceCtorEq, Int.reduceLT, Int.reduceNeg, rvN, Nat.reduceLT, Int.reduceLE, Int.reduceEq, eq_self, List.reduceReplicate, rvF, rvG, e23, e56, e70, VBookMirror.c, VBookNews.c, VBookMirror.m, flB_f, VBookChange.c, VBookObject.c, nilM, c1, hlt, hr, hi0, hwi, d2, g1, g2, hmr, rowsFl, rowsShr, rowsString, i64c]
      · show wSBookObject (tk x c).objects + _ ≤ _
        have := tk_w x c
        rw [e3]
        omega
    · intro a _
      have hn : ¬ ((n.changes.length : Int) < (n.changes.length : Int)) := by omega
      simp only [rv0, rv1, rvE, rvH, rvS, rvI, eT, eQ, ↓reduceIte, Nat.reduceEqDiff, Nat.reduceAdd, Nat.reduceSub, Nat.reduceMul, Nat.reduceLeDiff, Nat.reduceBEq, decide_true, decide_false, reduceCtorEq, Int.reduceLT, Int.reduceNeg, rvN, Nat.reduceLT, Int.reduceLE, Int.reduceEq, eq_self, List.reduceReplicate, rvF, rvG, e23, VBookMirror.c, VBookNews.c, VBookMirror.m, nilM, c1, hn, tks, tksB, List.foldl_nil]
  · intro k x r a hd hk _
    rw [List.getElem?_drop] at hk
    have hlen := (List.getElem?_eq_some_iff.1 hk).1
    have hlt : (((1 + k : Nat) : Int) < (n.changes.length : Int)) := by omega
    have hkl : k < n.changes.length := by omega
    have hp : n.changes[k]? = some n.changes[k] := List.getElem?_eq_getElem hkl
    generalize n.changes[k] = p at hp
    have hr := getElem?_map_some (f := VBookChange.c .shr) hk
    have hr2 := getElem?_map_some (f := VBookChange.c .shr) hp
    have hk0 : (0 : Int) ≤ ((1 + k : Nat) : Int) := by omega
    have hk1 : (0 : Int) ≤ (k : Int) := by omega
    have hw1 : IntKind.i64.wrap (((1 + k : Nat) : Int) - 1) = (k : Int) := by rw [wrap64 (by omega) (by omega)]; omega
    have hw2 : IntKind.i64.wrap (((1 + k : Nat) : Int) + 1) = ((1 + (k + 1) : Nat) : Int) := by rw [wrap64 (by omega) (by omega)]; omega
    have hf : risF n.changes[k]? (x :: r) = (!decide (x.version ≤ p.version) && risF (some x) r) := by rw [hp]; rfl
    have hf2 : n.changes[k + 1]? = some x := by rw [Nat.add_comm]; exact hk
    simp only [VBookChange.c] at hr hr2
    by_cases d : x.version ≤ p.version
    · right
      rw [hf, decide_eq_true d, Bool.not_true, Bool.false_and, if_neg (by simp)]
      simp only [rv0, rv1, rvE, rvH, rvS, rvI, eT, eQ, ↓reduceIte, Nat.reduceEqDiff, Nat.reduceAdd, Nat.reduceSub, Nat.reduceMul, Nat.reduceLeDiff, Nat.reduceBEq, decide_true, decide_false, reduceCtorEq, Int.reduceLT, Int.reduceNeg, rvN, Nat.reduceLT, Int.reduceLE, Int.reduceEq, eq_self, List.reduceReplicate, rvF, rvG, e23, VBookMirror.c, VBookNews.c, VBookChange.c, nilM, c1, hlt, hr, hr2, hk0, hk1, hw1, d, rowsBookObject]
    · left
      refine ⟨(), ?_, trivial, by rw [hf, hf2, decide_eq_false d]; rfl⟩
      simp only [rv0, rv1, rvE, rvH, rvS, rvI, eT, eQ, ↓reduceIte, Nat.reduceEqDiff, Nat.reduceAdd, Nat.reduceSub, Nat.reduceMul, Nat.reduceLeDiff, Nat.reduceBEq, decide_true, decide_false, reduceCtorEq, Int.reduceLT, Int.reduceNeg, rvN, Nat.reduceLT, Int.reduceLE, Int.reduceEq, eq_self, List.reduceReplicate, rvF, rvG, e23, VBookMirror.c, VBookNews.c, VBookChange.c, nilM, c1, hlt, hr, hr2, hk0, hk1, hw1, hw2, d]
  · intro a _
    have hn : ¬ (((1 + (n.changes.drop 1).length : Nat) : Int) < (n.changes.length : Int)) := by rw [List.length_drop]; omega
    simp only [rv0, rv1, rvE, rvH, rvS, rvI, eT, eQ, ↓reduceIte, Nat.reduceEqDiff, Nat.reduceAdd, Nat.reduceSub, Nat.reduceMul, Nat.reduceLeDiff, Nat.reduceBEq, decide_true, decide_false, reduceCtorEq, Int.reduceLT, Int.reduceNeg, rvN, Nat.reduceLT, Int.reduceLE, Int.reduceEq, eq_self, List.reduceReplicate, rvF, rvG, e23, VBookMirror.c, VBookNews.c, nilM, c1, hn, risF]
end Go.Proofs.Ytdjapblnmkghoaa

