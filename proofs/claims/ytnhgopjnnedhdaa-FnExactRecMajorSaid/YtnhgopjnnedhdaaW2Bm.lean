/- Numbers, wishes, acks: what the functions compute. -/
import Derived.Test.YtnhgopjnnedhdaaW2Am
namespace Go.Proofs.Ytnhgopjnnedhdaa
open Go.Sx
set_option maxRecDepth 100000
set_option linter.unusedVariables false
set_option linter.unusedSimpArgs false

def pOk (l : List Int) (of : Int) (i : Nat) (n : Int) : Bool := inR n 1 of && !(decide (0 < (i : Int)) && decide (n ≤ (l[i - 1]?).getD 0))
def pGo (l : List Int) (of : Int) : List Int → Nat → Bool
  | [], _ => true
  | n :: r, i => pOk l of i n && pGo l of r (i + 1)
def people (l : List Int) (of : Int) : Bool := pGo l of l 0
def aOk (l : List VRecAck) (of : Int) (i : Nat) (a : VRecAck) : Bool := inR a.index 1 60 && (people a.from_ of && !(decide (0 < (i : Int)) && decide (a.index ≤ ((l[i - 1]?).map VRecAck.index).getD 0)))
def aGo (l : List VRecAck) (of : Int) : List VRecAck → Nat → Bool
  | [], _ => true
  | n :: r, i => aOk l of i n && aGo l of r (i + 1)
def acksOk (l : List VRecAck) (of : Int) : Bool := aGo l of l 0

theorem k44 (l : List Int) (of : Int) (hn : l.length ≤ 4194304) : EV Try.prog E 44 [.val 0 false [.sl .shr 1 (l.map intC)], .val 0 false [.p (.int .i64 of)]] = some ⟨[(false, [.p (.bool (people l of))])], []⟩ := by
  refine EV_intro Try.func44 rfl ?_
  simp only [rv0, rv1, rvE, rvH, rvS, rvI, eT, eQ, ↓reduceIte, Nat.reduceEqDiff, Nat.reduceAdd, Nat.reduceSub, Nat.reduceMul, Nat.reduceLeDiff, Nat.reduceBEq, decide_true, decide_false, reduceCtorEq, Int.reduceLT, Int.reduceNeg, rvN, Nat.reduceLT, Int.reduceLE, Int.reduceEq, eq_self, List.reduceReplicate, rvF, rvG, e44, Try.f44, people]
  rw [for_block l (fun i (_ : Unit) => ⟨3, [(0, .val 0 false [.sl .shr 1 (l.map intC)]), (1, .val 1 false [.p (.int .i64 of)]), (5, .val 2 false [.p (.int .i64 i)])]⟩) (fun i _ => True)
    (fun r i a => if pGo l of r i = true then .norm ⟨0, []⟩ else .ret ⟨[(false, [.p (.bool false)])], []⟩) ?_ ?_ (a := ()) trivial (by simp only [rv0, rv1, rvE, rvH, rvS, rvI, eT, eQ, ↓reduceIte, Nat.reduceEqDiff, Nat.reduceAdd, Nat.reduceSub, Nat.reduceMul, Nat.reduceLeDiff, Nat.reduceBEq, decide_true, decide_false, reduceCtorEq, Int.reduceLT, Int.reduceNeg, rvN, Nat.reduceLT, Int.reduceLE, Int.reduceEq, eq_self, List.reduceReplicate, rvF, rvG, e44]; rfl)]
  · cases h : pGo l of l 0 <;> simp only [rv0, rv1, rvE, rvH, rvS, rvI, eT, eQ, ↓reduceIte, Nat.reduceEqDiff, Nat.reduceAdd, Nat.reduceSub, Nat.reduceMul, Nat.reduceLeDiff, Nat.reduceBEq, decide_true, decide_false, reduceCtorEq, Int.reduceLT, Int.reduceNeg, rvN, Nat.reduceLT, Int.reduceLE, Int.reduceEq, eq_self, List.reduceReplicate, rvF, rvG, e44]
  · intro i s r a hd hi _
    have hlen := (List.getElem?_eq_some_iff.1 hi).1
    have hlt : ((i : Int) < (l.length : Int)) := by omega
    have hr := getElem?_map_some (f := intC) hi
    have hwi := wrap64 (n := (i : Int) + 1) (by omega) (by omega)
    have hi0 : (0 : Int) ≤ (i : Int) := by omega
    have hg := k25 s 1 of
    simp only [intC] at hr
    cases c1 : inR s 1 of
    · right
      simp only [rv0, rv1, rvE, rvH, rvS, rvI, eT, eQ, ↓reduceIte, Nat.reduceEqDiff, Nat.reduceAdd, Nat.reduceSub, Nat.reduceMul, Nat.reduceLeDiff, Nat.reduceBEq, decide_true, decide_false, reduceCtorEq, Int.reduceLT, Int.reduceNeg, rvN, Nat.reduceLT, Int.reduceLE, Int.reduceEq, eq_self, List.reduceReplicate, rvF, rvG, e44, e25, pGo, pOk, hlt, hr, hg, c1, hi0]
    · cases c2 : decide (0 < (i : Int))
      · left
        refine ⟨(), ?_, trivial, by simp only [pGo, pOk, c1, c2]; rfl⟩
        simp only [rv0, rv1, rvE, rvH, rvS, rvI, eT, eQ, ↓reduceIte, Nat.reduceEqDiff, Nat.reduceAdd, Nat.reduceSub, Nat.reduceMul, Nat.reduceLeDiff, Nat.reduceBEq, decide_true, decide_false, reduceCtorEq, Int.reduceLT, Int.reduceNeg, rvN, Nat.reduceLT, Int.reduceLE, Int.reduceEq, eq_self, List.reduceReplicate, rvF, rvG, e44, e25, hlt, hr, hg, c1, c2, hi0, hwi, i64c]
      · have hip : 0 < (i : Int) := by simpa using c2
        have hpl : i - 1 < l.length := by omega
        have hp : l[i - 1]? = some l[i - 1] := List.getElem?_eq_getElem hpl
        have hrp := getElem?_map_some (f := intC) hp
        have hw1 := wrap64 (n := (i : Int) - 1) (by omega) (by omega)
        have hi1 : (0 : Int) ≤ (i : Int) - 1 := by omega
        have hnat : ((i : Int) - 1).toNat = i - 1 := by omega
        simp only [intC] at hrp
        cases c3 : decide (s ≤ l[i - 1])
        · left
          refine ⟨(), ?_, trivial, by simp only [pGo, pOk, c1, c2, hp, Option.getD_some, c3]; rfl⟩
          simp only [rv0, rv1, rvE, rvH, rvS, rvI, eT, eQ, ↓reduceIte, Nat.reduceEqDiff, Nat.reduceAdd, Nat.reduceSub, Nat.reduceMul, Nat.reduceLeDiff, Nat.reduceBEq, decide_true, decide_false, reduceCtorEq, Int.reduceLT, Int.reduceNeg, rvN, Nat.reduceLT, Int.reduceLE, Int.reduceEq, eq_self, List.reduceReplicate, rvF, rvG, e44, e25, hlt, hr, hg, c1, c2, c3, hrp, hw1, hi1, hnat, hi0, hwi, i64c]
        · right
          simp only [rv0, rv1, rvE, rvH, rvS, rvI, eT, eQ, ↓reduceIte, Nat.reduceEqDiff, Nat.reduceAdd, Nat.reduceSub, Nat.reduceMul, Nat.reduceLeDiff, Nat.reduceBEq, decide_true, decide_false, reduceCtorEq, Int.reduceLT, Int.reduceNeg, rvN, Nat.reduceLT, Int.reduceLE, Int.reduceEq, eq_self, List.reduceReplicate, rvF, rvG, e44, e25, pGo, pOk, hp, Option.getD_some, hlt, hr, hg, c1, c2, c3, hrp, hw1, hi1, hnat, hi0]
  · intro a _
    simp only [rv0, rv1, rvE, rvH, rvS, rvI, eT, eQ, ↓reduceIte, Nat.reduceEqDiff, Nat.reduceAdd, Nat.reduceSub, Nat.reduceMul, Nat.reduceLeDiff, Nat.reduceBEq, decide_true, decide_false, reduceCtorEq, Int.reduceLT, Int.reduceNeg, rvN, Nat.reduceLT, Int.reduceLE, Int.reduceEq, eq_self, List.reduceReplicate, rvF, rvG, e44, pGo]

theorem k54 (l : List Int) (of : Int) (hn : l.length ≤ 4194304) : EV Try.prog E 54 [.val 0 false [.sl .shr 1 (l.map intC)], .val 0 false [.p (.int .i64 of)]] = some ⟨[(false, [.p (.bool (people l of))])], []⟩ := by
  refine EV_intro Try.func54 rfl ?_
  simp only [rv0, rv1, rvE, rvH, rvS, rvI, eT, eQ, ↓reduceIte, Nat.reduceEqDiff, Nat.reduceAdd, Nat.reduceSub, Nat.reduceMul, Nat.reduceLeDiff, Nat.reduceBEq, decide_true, decide_false, reduceCtorEq, Int.reduceLT, Int.reduceNeg, rvN, Nat.reduceLT, Int.reduceLE, Int.reduceEq, eq_self, List.reduceReplicate, rvF, rvG, e54, Try.f54, people]
  rw [for_block l (fun i (_ : Unit) => ⟨5, [(0, .val 0 false [.sl .shr 1 (l.map intC)]), (1, .val 1 false [.p (.int .i64 of)]), (7, .val 2 false [.sl .shr 1 (l.map intC)]), (8, .val 3 false [.p (.int .i64 l.length)]), (9, .val 4 false [.p (.int .i64 i)])]⟩) (fun i _ => True)
    (fun r i a => if pGo l of r i = true then .norm ⟨0, []⟩ else .ret ⟨[(false, [.p (.bool false)])], []⟩) ?_ ?_ (a := ()) trivial (by simp only [rv0, rv1, rvE, rvH, rvS, rvI, eT, eQ, ↓reduceIte, Nat.reduceEqDiff, Nat.reduceAdd, Nat.reduceSub, Nat.reduceMul, Nat.reduceLeDiff, Nat.reduceBEq, decide_true, decide_false, reduceCtorEq, Int.reduceLT, Int.reduceNeg, rvN, Nat.reduceLT, Int.reduceLE, Int.reduceEq, eq_self, List.reduceReplicate, rvF, rvG, e54]; rfl)]
  · cases h : pGo l of l 0 <;> simp only [rv0, rv1, rvE, rvH, rvS, rvI, eT, eQ, ↓reduceIte, Nat.reduceEqDiff, Nat.reduceAdd, Nat.reduceSub, Nat.reduceMul, Nat.reduceLeDiff, Nat.reduceBEq, decide_true, decide_false, reduceCtorEq, Int.reduceLT, Int.reduceNeg, rvN, Nat.reduceLT, Int.reduceLE, Int.reduceEq, eq_self, List.reduceReplicate, rvF, rvG, e54]
  · intro i s r a hd hi _
    have hlen := (List.getElem?_eq_some_iff.1 hi).1
    have hlt : ((i : Int) < (l.length : Int)) := by omega
    have hr := getElem?_map_some (f := intC) hi
    have hwi := wrap64 (n := (i : Int) + 1) (by omega) (by omega)
    have hi0 : (0 : Int) ≤ (i : Int) := by omega
    have hg := k31 s 1 of
    simp only [intC] at hr
    cases c1 : inR s 1 of
    · right
      simp only [rv0, rv1, rvE, rvH, rvS, rvI, eT, eQ, ↓reduceIte, Nat.reduceEqDiff, Nat.reduceAdd, Nat.reduceSub, Nat.reduceMul, Nat.reduceLeDiff, Nat.reduceBEq, decide_true, decide_false, reduceCtorEq, Int.reduceLT, Int.reduceNeg, rvN, Nat.reduceLT, Int.reduceLE, Int.reduceEq, eq_self, List.reduceReplicate, rvF, rvG, e54, e31, pGo, pOk, hlt, hr, hg, c1, hi0]
    · cases c2 : decide (0 < (i : Int))
      · left
        refine ⟨(), ?_, trivial, by simp only [pGo, pOk, c1, c2]; rfl⟩
        simp only [rv0, rv1, rvE, rvH, rvS, rvI, eT, eQ, ↓reduceIte, Nat.reduceEqDiff, Nat.reduceAdd, Nat.reduceSub, Nat.reduceMul, Nat.reduceLeDiff, Nat.reduceBEq, decide_true, decide_false, reduceCtorEq, Int.reduceLT, Int.reduceNeg, rvN, Nat.reduceLT, Int.reduceLE, Int.reduceEq, eq_self, List.reduceReplicate, rvF, rvG, e54, e31, hlt, hr, hg, c1, c2, hi0, hwi, i64c]
      · have hip : 0 < (i : Int) := by simpa using c2
        have hpl : i - 1 < l.length := by omega
        have hp : l[i - 1]? = some l[i - 1] := List.getElem?_eq_getElem hpl
        have hrp := getElem?_map_some (f := intC) hp
        have hw1 := wrap64 (n := (i : Int) - 1) (by omega) (by omega)
        have hi1 : (0 : Int) ≤ (i : Int) - 1 := by omega
        have hnat : ((i : Int) - 1).toNat = i - 1 := by omega
        simp only [intC] at hrp
        cases c3 : decide (s ≤ l[i - 1])
        · left
          refine ⟨(), ?_, trivial, by simp only [pGo, pOk, c1, c2, hp, Option.getD_some, c3]; rfl⟩
          simp only [rv0, rv1, rvE, rvH, rvS, rvI, eT, eQ, ↓reduceIte, Nat.reduceEqDiff, Nat.reduceAdd, Nat.reduceSub, Nat.reduceMul, Nat.reduceLeDiff, Nat.reduceBEq, decide_true, decide_false, reduceCtorEq, Int.reduceLT, Int.reduceNeg, rvN, Nat.reduceLT, Int.reduceLE, Int.reduceEq, eq_self, List.reduceReplicate, rvF, rvG, e54, e31, hlt, hr, hg, c1, c2, c3, hrp, hw1, hi1, hnat, hi0, hwi, i64c]
        · right
          simp only [rv0, rv1, rvE, rvH, rvS, rvI, eT, eQ, ↓reduceIte, Nat.reduceEqDiff, Nat.reduceAdd, Nat.reduceSub, Nat.reduceMul, Nat.reduceLeDiff, Nat.reduceBEq, decide_true, decide_false, reduceCtorEq, Int.reduceLT, Int.reduceNeg, rvN, Nat.reduceLT, Int.reduceLE, Int.reduceEq, eq_self, List.reduceReplicate, rvF, rvG, e54, e31, pGo, pOk, hp, Option.getD_some, hlt, hr, hg, c1, c2, c3, hrp, hw1, hi1, hnat, hi0]
  · intro a _
    simp only [rv0, rv1, rvE, rvH, rvS, rvI, eT, eQ, ↓reduceIte, Nat.reduceEqDiff, Nat.reduceAdd, Nat.reduceSub, Nat.reduceMul, Nat.reduceLeDiff, Nat.reduceBEq, decide_true, decide_false, reduceCtorEq, Int.reduceLT, Int.reduceNeg, rvN, Nat.reduceLT, Int.reduceLE, Int.reduceEq, eq_self, List.reduceReplicate, rvF, rvG, e54, pGo]

def idxGo (s : ByteArray) : List ByteArray → Nat → Int
  | [], _ => -1
  | x :: r, i => if s = x then (i : Int) else idxGo s r (i + 1)
def hasS (s : ByteArray) : List ByteArray → Bool
  | [] => false
  | x :: r => decide (s = x) || hasS s r
theorem idxGo_pos (s : ByteArray) : ∀ (l : List ByteArray) (i : Nat), decide (0 ≤ idxGo s l i) = hasS s l
  | [], i => rfl
  | x :: r, i => by
    simp only [idxGo, hasS]
    by_cases h : s = x
    · have : (0 : Int) ≤ (i : Int) := by omega
      simp only [h, if_true, decide_true, Bool.true_or, this]
    · simp only [h, if_false, decide_false, Bool.false_or]
      exact idxGo_pos s r (i + 1)
theorem idxGo_neg (s : ByteArray) : ∀ (l : List ByteArray) (i : Nat), hasS s l = false → idxGo s l i = -1
  | [], i, _ => rfl
  | x :: r, i, h => by
    simp only [hasS, Bool.or_eq_false_iff, decide_eq_false_iff_not] at h
    have : ¬ s = x := h.1
    simp only [idxGo, if_neg this]
    exact idxGo_neg s r (i + 1) h.2
theorem k66 (l : List ByteArray) (s : ByteArray) (hn : l.length ≤ 4194304) : EV Try.prog E 66 [.val 0 false [.sl .shr 1 (l.map strC)], .val 0 false [.p (.string s)]] = some ⟨[(false, [.p (.int .i64 (idxGo s l 0))])], []⟩ := by
  refine EV_intro Try.func66 rfl ?_
  simp only [rv0, rv1, rvE, rvH, rvS, rvI, eT, eQ, ↓reduceIte, Nat.reduceEqDiff, Nat.reduceAdd, Nat.reduceSub, Nat.reduceMul, Nat.reduceLeDiff, Nat.reduceBEq, decide_true, decide_false, reduceCtorEq, Int.reduceLT, Int.reduceNeg, rvN, Nat.reduceLT, Int.reduceLE, Int.reduceEq, eq_self, List.reduceReplicate, rvF, rvG, e66, Try.f66]
  rw [for_block l (fun i (_ : Unit) => ⟨4, [(0, .val 0 false [.sl .shr 1 (l.map strC)]), (1, .val 1 false [.p (.string s)]), (7, .val 2 false [.p (.int .i64 l.length)]), (8, .val 3 false [.p (.int .i64 i)])]⟩) (fun i _ => True)
    (fun r i a => if hasS s r = true then .ret ⟨[(false, [.p (.int .i64 (idxGo s r i))])], []⟩ else .norm ⟨0, []⟩) ?_ ?_ (a := ()) trivial (by simp only [rv0, rv1, rvE, rvH, rvS, rvI, eT, eQ, ↓reduceIte, Nat.reduceEqDiff, Nat.reduceAdd, Nat.reduceSub, Nat.reduceMul, Nat.reduceLeDiff, Nat.reduceBEq, decide_true, decide_false, reduceCtorEq, Int.reduceLT, Int.reduceNeg, rvN, Nat.reduceLT, Int.reduceLE, Int.reduceEq, eq_self, List.reduceReplicate, rvF, rvG, e66]; rfl)]
  · cases h : hasS s l
    · have e : idxGo s l 0 = -1 := idxGo_neg s l 0 h
      simp only [rv0, rv1, rvE, rvH, rvS, rvI, eT, eQ, ↓reduceIte, Nat.reduceEqDiff, Nat.reduceAdd, Nat.reduceSub, Nat.reduceMul, Nat.reduceLeDiff, Nat.reduceBEq, decide_true, decide_false, reduceCtorEq, Int.reduceLT, Int.reduceNeg, rvN, Nat.reduceLT, Int.reduceLE, Int.reduceEq, eq_self, List.reduceReplicate, rvF, rvG, e66, e]
    · simp only [rv0, rv1, rvE, rvH, rvS, rvI, eT, eQ, ↓reduceIte, Nat.reduceEqDiff, Nat.reduceAdd, Nat.reduceSub, Nat.reduceMul, Nat.reduceLeDiff, Nat.reduceBEq, decide_true, decide_false, reduceCtorEq, Int.reduceLT, Int.reduceNeg, rvN, Nat.reduceLT, Int.reduceLE, Int.reduceEq, eq_self, List.reduceReplicate, rvF, rvG, e66]
  · intro i x r a hd hi _
    have hlen := (List.getElem?_eq_some_iff.1 hi).1
    have hlt : ((i : Int) < (l.length : Int)) := by omega
    have hr := getElem?_map_some (f := strC) hi
    have hwi := wrap64 (n := (i : Int) + 1) (by omega) (by omega)
    have hi0 : (0 : Int) ≤ (i : Int) := by omega
    simp only [strC] at hr
    by_cases c1 : s = x
    · right
      subst c1
      have e : hasS s (s :: r) = true := by simp only [hasS, decide_true, Bool.true_or]
      simp only [rv0, rv1, rvE, rvH, rvS, rvI, eT, eQ, ↓reduceIte, Nat.reduceEqDiff, Nat.reduceAdd, Nat.reduceSub, Nat.reduceMul, Nat.reduceLeDiff, Nat.reduceBEq, decide_true, decide_false, reduceCtorEq, Int.reduceLT, Int.reduceNeg, rvN, Nat.reduceLT, Int.reduceLE, Int.reduceEq, eq_self, List.reduceReplicate, rvF, rvG, e66, idxGo, hlt, hr, hi0, e, beq_self_eq_true]
    · left
      have c2 : decide (s = x) = false := decide_eq_false c1
      have e : hasS s (x :: r) = hasS s r := by simp only [hasS, c2, Bool.false_or]
      refine ⟨(), ?_, trivial, ?_⟩
      · simp only [rv0, rv1, rvE, rvH, rvS, rvI, eT, eQ, ↓reduceIte, Nat.reduceEqDiff, Nat.reduceAdd, Nat.reduceSub, Nat.reduceMul, Nat.reduceLeDiff, Nat.reduceBEq, decide_true, decide_false, reduceCtorEq, Int.reduceLT, Int.reduceNeg, rvN, Nat.reduceLT, Int.reduceLE, Int.reduceEq, eq_self, List.reduceReplicate, rvF, rvG, e66, hlt, hr, c2, hi0, hwi, i64c]
      · simp only [e, idxGo, if_neg c1]
  · intro a _
    simp only [rv0, rv1, rvE, rvH, rvS, rvI, eT, eQ, ↓reduceIte, Nat.reduceEqDiff, Nat.reduceAdd, Nat.reduceSub, Nat.reduceMul, Nat.reduceLeDiff, Nat.reduceBEq, decide_true, decide_false, reduceCtorEq, Int.reduceLT, Int.reduceNeg, rvN, Nat.reduceLT, Int.reduceLE, Int.reduceEq, eq_self, List.reduceReplicate, rvF, rvG, e66, hasS]
theorem k56 (l : List ByteArray) (s : ByteArray) (hn : l.length ≤ 4194304) : EV Try.prog E 56 [.val 0 false [.sl .shr 1 (l.map strC)], .val 0 false [.p (.string s)]] = some ⟨[(false, [.p (.bool (hasS s l))])], []⟩ := by
  refine EV_intro Try.func56 rfl ?_
  have h := k66 l s hn
  have e := idxGo_pos s l 0
  simp only [rv0, rv1, rvE, rvH, rvS, rvI, eT, eQ, ↓reduceIte, Nat.reduceEqDiff, Nat.reduceAdd, Nat.reduceSub, Nat.reduceMul, Nat.reduceLeDiff, Nat.reduceBEq, decide_true, decide_false, reduceCtorEq, Int.reduceLT, Int.reduceNeg, rvN, Nat.reduceLT, Int.reduceLE, Int.reduceEq, eq_self, List.reduceReplicate, rvF, rvG, e56, e66, Try.f56, h, e]

def wOk (l : List ByteArray) (i : Nat) (w : ByteArray) : Bool := inR (w.size : Int) 1 100 && !hasS w (l.take i)
def wGo (l : List ByteArray) : List ByteArray → Nat → Bool
  | [], _ => true
  | w :: r, i => wOk l i w && wGo l r (i + 1)
def wishesOk (l : List ByteArray) : Bool := !decide (20 < (l.length : Int)) && wGo l l 0

theorem k43 (l : List ByteArray) (hn : l.length ≤ 4194304) : EV Try.prog E 43 [.val 0 false [.sl .shr 1 (l.map strC)]] = some ⟨[(false, [.p (.bool (wishesOk l))])], []⟩ := by
  refine EV_intro Try.func43 rfl ?_
  cases c0 : decide (20 < (l.length : Int))
  · simp only [rv0, rv1, rvE, rvH, rvS, rvI, eT, eQ, ↓reduceIte, Nat.reduceEqDiff, Nat.reduceAdd, Nat.reduceSub, Nat.reduceMul, Nat.reduceLeDiff, Nat.reduceBEq, decide_true, decide_false, reduceCtorEq, Int.reduceLT, Int.reduceNeg, rvN, Nat.reduceLT, Int.reduceLE, Int.reduceEq, eq_self, List.reduceReplicate, rvF, rvG, e43, Try.f43, wishesOk, c0]
    rw [for_block l (fun i (_ : Unit) => ⟨2, [(0, .val 0 false [.sl .shr 1 (l.map strC)]), (3, .val 1 false [.p (.int .i64 i)])]⟩) (fun i _ => True)
      (fun r i a => if wGo l r i = true then .norm ⟨0, []⟩ else .ret ⟨[(false, [.p (.bool false)])], []⟩) ?_ ?_ (a := ()) trivial (by simp only [rv0, rv1, rvE, rvH, rvS, rvI, eT, eQ, ↓reduceIte, Nat.reduceEqDiff, Nat.reduceAdd, Nat.reduceSub, Nat.reduceMul, Nat.reduceLeDiff, Nat.reduceBEq, decide_true, decide_false, reduceCtorEq, Int.reduceLT, Int.reduceNeg, rvN, Nat.reduceLT, Int.reduceLE, Int.reduceEq, eq_self, List.reduceReplicate, rvF, rvG, e43]; rfl)]
    · cases h : wGo l l 0 <;> simp only [rv0, rv1, rvE, rvH, rvS, rvI, eT, eQ, ↓reduceIte, Nat.reduceEqDiff, Nat.reduceAdd, Nat.reduceSub, Nat.reduceMul, Nat.reduceLeDiff, Nat.reduceBEq, decide_true, decide_false, reduceCtorEq, Int.reduceLT, Int.reduceNeg, rvN, Nat.reduceLT, Int.reduceLE, Int.reduceEq, eq_self, List.reduceReplicate, rvF, rvG, e43]
    · intro i s r a hd hi _
      have hlen := (List.getElem?_eq_some_iff.1 hi).1
      have hlt : ((i : Int) < (l.length : Int)) := by omega
      have hr := getElem?_map_some (f := strC) hi
      have hwi := wrap64 (n := (i : Int) + 1) (by omega) (by omega)
      have hi0 : (0 : Int) ≤ (i : Int) := by omega
      have hL : (l.take i).length = i := by simp; omega
      simp only [strC] at hr
      cases c1 : decide ((s.size : Int) < 1)
      · cases c2 : decide (100 < (s.size : Int))
        · have hin : inR (s.size : Int) 1 100 = true := by
            simp only [decide_eq_false_iff_not] at c1 c2
            simp only [inR, Bool.and_eq_true, decide_eq_true_eq]
            omega
          simp only [rv0, rv1, rvE, rvH, rvS, rvI, eT, eQ, ↓reduceIte, Nat.reduceEqDiff, Nat.reduceAdd, Nat.reduceSub, Nat.reduceMul, Nat.reduceLeDiff, Nat.reduceBEq, decide_true, decide_false, reduceCtorEq, Int.reduceLT, Int.reduceNeg, rvN, Nat.reduceLT, Int.reduceLE, Int.reduceEq, eq_self, List.reduceReplicate, rvF, rvG, e43, hlt, hr, hi0, c1, c2]
          rw [for_block (l.take i) (fun k (_ : Unit) => ⟨3, [(0, .val 0 false [.sl .shr 1 (l.map strC)]), (3, .val 1 false [.p (.int .i64 i)]), (4, .val 2 false [.p (.int .i64 k)])]⟩) (fun k _ => True)
            (fun q k a => if hasS s q = true then .ret ⟨[(false, [.p (.bool false)])], []⟩ else .norm ⟨2, [(0, .val 0 false [.sl .shr 1 (l.map strC)]), (3, .val 1 false [.p (.int .i64 i)])]⟩) ?_ ?_ (a := ()) trivial (by simp only [rv0, rv1, rvE, rvH, rvS, rvI, eT, eQ, ↓reduceIte, Nat.reduceEqDiff, Nat.reduceAdd, Nat.reduceSub, Nat.reduceMul, Nat.reduceLeDiff, Nat.reduceBEq, decide_true, decide_false, reduceCtorEq, Int.reduceLT, Int.reduceNeg, rvN, Nat.reduceLT, Int.reduceLE, Int.reduceEq, eq_self, List.reduceReplicate, rvF, rvG, e43]; rfl)]
          · cases c3 : hasS s (l.take i)
            · left
              refine ⟨(), ?_, trivial, by simp only [wGo, wOk, hin, c3]; rfl⟩
              simp only [rv0, rv1, rvE, rvH, rvS, rvI, eT, eQ, ↓reduceIte, Nat.reduceEqDiff, Nat.reduceAdd, Nat.reduceSub, Nat.reduceMul, Nat.reduceLeDiff, Nat.reduceBEq, decide_true, decide_false, reduceCtorEq, Int.reduceLT, Int.reduceNeg, rvN, Nat.reduceLT, Int.reduceLE, Int.reduceEq, eq_self, List.reduceReplicate, rvF, rvG, e43, hwi, i64c]
            · right
              simp only [rv0, rv1, rvE, rvH, rvS, rvI, eT, eQ, ↓reduceIte, Nat.reduceEqDiff, Nat.reduceAdd, Nat.reduceSub, Nat.reduceMul, Nat.reduceLeDiff, Nat.reduceBEq, decide_true, decide_false, reduceCtorEq, Int.reduceLT, Int.reduceNeg, rvN, Nat.reduceLT, Int.reduceLE, Int.reduceEq, eq_self, List.reduceReplicate, rvF, rvG, e43, wGo, wOk, hin, c3]
          · intro k x q _ hdk hk _
            have hk1 := (List.getElem?_eq_some_iff.1 hk).1
            rw [hL] at hk1
            have hk2 : l[k]? = some x := by rw [List.getElem?_take_of_lt hk1] at hk; exact hk
            have hrk := getElem?_map_some (f := strC) hk2
            have hltk : ((k : Int) < (i : Int)) := by omega
            have hk0 : (0 : Int) ≤ (k : Int) := by omega
            have hwk := wrap64 (n := (k : Int) + 1) (by omega) (by omega)
            simp only [strC] at hrk
            by_cases ce : x = s
            · right
              subst ce
              have e : hasS x (x :: q) = true := by simp only [hasS, decide_true, Bool.true_or]
              simp only [rv0, rv1, rvE, rvH, rvS, rvI, eT, eQ, ↓reduceIte, Nat.reduceEqDiff, Nat.reduceAdd, Nat.reduceSub, Nat.reduceMul, Nat.reduceLeDiff, Nat.reduceBEq, decide_true, decide_false, reduceCtorEq, Int.reduceLT, Int.reduceNeg, rvN, Nat.reduceLT, Int.reduceLE, Int.reduceEq, eq_self, List.reduceReplicate, rvF, rvG, e43, hltk, hr, hrk, hi0, hk0, e, beq_self_eq_true]
            · left
              have c5 : decide (x = s) = false := decide_eq_false ce
              have e : hasS s (x :: q) = hasS s q := by
                have : decide (s = x) = false := decide_eq_false (Ne.symm ce)
                simp only [hasS, this, Bool.false_or]
              refine ⟨(), ?_, trivial, by simp only [e]⟩
              simp only [rv0, rv1, rvE, rvH, rvS, rvI, eT, eQ, ↓reduceIte, Nat.reduceEqDiff, Nat.reduceAdd, Nat.reduceSub, Nat.reduceMul, Nat.reduceLeDiff, Nat.reduceBEq, decide_true, decide_false, reduceCtorEq, Int.reduceLT, Int.reduceNeg, rvN, Nat.reduceLT, Int.reduceLE, Int.reduceEq, eq_self, List.reduceReplicate, rvF, rvG, e43, hltk, hr, hrk, hi0, hk0, c5, hwk, i64c]
          · intro _ _
            have : ¬ ((i : Int) < (i : Int)) := by omega
            simp only [rv0, rv1, rvE, rvH, rvS, rvI, eT, eQ, ↓reduceIte, Nat.reduceEqDiff, Nat.reduceAdd, Nat.reduceSub, Nat.reduceMul, Nat.reduceLeDiff, Nat.reduceBEq, decide_true, decide_false, reduceCtorEq, Int.reduceLT, Int.reduceNeg, rvN, Nat.reduceLT, Int.reduceLE, Int.reduceEq, eq_self, List.reduceReplicate, rvF, rvG, e43, hL, hasS]
        · right
          have hin : inR (s.size : Int) 1 100 = false := by
            simp only [decide_eq_true_eq] at c2
            simp only [inR, Bool.and_eq_false_iff, decide_eq_false_iff_not]
            omega
          simp only [rv0, rv1, rvE, rvH, rvS, rvI, eT, eQ, ↓reduceIte, Nat.reduceEqDiff, Nat.reduceAdd, Nat.reduceSub, Nat.reduceMul, Nat.reduceLeDiff, Nat.reduceBEq, decide_true, decide_false, reduceCtorEq, Int.reduceLT, Int.reduceNeg, rvN, Nat.reduceLT, Int.reduceLE, Int.reduceEq, eq_self, List.reduceReplicate, rvF, rvG, e43, wGo, wOk, hlt, hr, hi0, c1, c2, hin]
      · right
        have hin : inR (s.size : Int) 1 100 = false := by
          simp only [decide_eq_true_eq] at c1
          simp only [inR, Bool.and_eq_false_iff, decide_eq_false_iff_not]
          omega
        simp only [rv0, rv1, rvE, rvH, rvS, rvI, eT, eQ, ↓reduceIte, Nat.reduceEqDiff, Nat.reduceAdd, Nat.reduceSub, Nat.reduceMul, Nat.reduceLeDiff, Nat.reduceBEq, decide_true, decide_false, reduceCtorEq, Int.reduceLT, Int.reduceNeg, rvN, Nat.reduceLT, Int.reduceLE, Int.reduceEq, eq_self, List.reduceReplicate, rvF, rvG, e43, wGo, wOk, hlt, hr, hi0, c1, hin]
    · intro a _
      simp only [rv0, rv1, rvE, rvH, rvS, rvI, eT, eQ, ↓reduceIte, Nat.reduceEqDiff, Nat.reduceAdd, Nat.reduceSub, Nat.reduceMul, Nat.reduceLeDiff, Nat.reduceBEq, decide_true, decide_false, reduceCtorEq, Int.reduceLT, Int.reduceNeg, rvN, Nat.reduceLT, Int.reduceLE, Int.reduceEq, eq_self, List.reduceReplicate, rvF, rvG, e43, wGo]
  · simp only [rv0, rv1, rvE, rvH, rvS, rvI, eT, eQ, ↓reduceIte, Nat.reduceEqDiff, Nat.reduceAdd, Nat.reduceSub, Nat.reduceMul, Nat.reduceLeDiff, Nat.reduceBEq, decide_true, decide_false, reduceCtorEq, Int.reduceLT, Int.reduceNeg, rvN, Nat.reduceLT, Int.reduceLE, Int.reduceEq, eq_self, List.reduceReplicate, rvF, rvG, e43, Try.f43, wishesOk, c0]

theorem k46 (l : List VRecAck) (of : Int) (hn : wSRecAck l ≤ 4194304) : EV Try.prog E 46 [.val 0 false [.sl .shr 2 (l.map (VRecAck.c .shr))], .val 0 false [.p (.int .i64 of)]] = some ⟨[(false, [.p (.bool (acksOk l of))])], []⟩ := by
  refine EV_intro Try.func46 rfl ?_
  have hll : l.length ≤ 4194304 := by unfold wSRecAck at hn; omega
  simp only [rv0, rv1, rvE, rvH, rvS, rvI, eT, eQ, ↓reduceIte, Nat.reduceEqDiff, Nat.reduceAdd, Nat.reduceSub, Nat.reduceMul, Nat.reduceLeDiff, Nat.reduceBEq, decide_true, decide_false, reduceCtorEq, Int.reduceLT, Int.reduceNeg, rvN, Nat.reduceLT, Int.reduceLE, Int.reduceEq, eq_self, List.reduceReplicate, rvF, rvG, e46, Try.f46, acksOk]
  rw [for_block l (fun i (_ : Unit) => ⟨3, [(0, .val 0 false [.sl .shr 2 (l.map (VRecAck.c .shr))]), (1, .val 1 false [.p (.int .i64 of)]), (5, .val 2 false [.p (.int .i64 i)])]⟩) (fun i _ => True)
    (fun r i a => if aGo l of r i = true then .norm ⟨0, []⟩ else .ret ⟨[(false, [.p (.bool false)])], []⟩) ?_ ?_ (a := ()) trivial (by simp only [rv0, rv1, rvE, rvH, rvS, rvI, eT, eQ, ↓reduceIte, Nat.reduceEqDiff, Nat.reduceAdd, Nat.reduceSub, Nat.reduceMul, Nat.reduceLeDiff, Nat.reduceBEq, decide_true, decide_false, reduceCtorEq, Int.reduceLT, Int.reduceNeg, rvN, Nat.reduceLT, Int.reduceLE, Int.reduceEq, eq_self, List.reduceReplicate, rvF, rvG, e46]; rfl)]
  · cases h : aGo l of l 0 <;> simp only [rv0, rv1, rvE, rvH, rvS, rvI, eT, eQ, ↓reduceIte, Nat.reduceEqDiff, Nat.reduceAdd, Nat.reduceSub, Nat.reduceMul, Nat.reduceLeDiff, Nat.reduceBEq, decide_true, decide_false, reduceCtorEq, Int.reduceLT, Int.reduceNeg, rvN, Nat.reduceLT, Int.reduceLE, Int.reduceEq, eq_self, List.reduceReplicate, rvF, rvG, e46]
  · intro i s r a hd hi _
    have hlen := (List.getElem?_eq_some_iff.1 hi).1
    have hlt : ((i : Int) < (l.length : Int)) := by omega
    have hr := getElem?_map_some (f := VRecAck.c .shr) hi
    have hwi := wrap64 (n := (i : Int) + 1) (by omega) (by omega)
    have hi0 : (0 : Int) ≤ (i : Int) := by omega
    have hg := k25 s.index 1 60
    have hsl : s.from_.length ≤ 4194304 := by
      have := wSRecAck_mem (List.mem_of_getElem? hi)
      unfold VRecAck.w wSInt at this
      unfold wSRecAck at hn
      omega
    have hp66 := k44 s.from_ of hsl
    simp only [VRecAck.c] at hr
    cases c1 : inR s.index 1 60
    · right
      simp only [rv0, rv1, rvE, rvH, rvS, rvI, eT, eQ, ↓reduceIte, Nat.reduceEqDiff, Nat.reduceAdd, Nat.reduceSub, Nat.reduceMul, Nat.reduceLeDiff, Nat.reduceBEq, decide_true, decide_false, reduceCtorEq, Int.reduceLT, Int.reduceNeg, rvN, Nat.reduceLT, Int.reduceLE, Int.reduceEq, eq_self, List.reduceReplicate, rvF, rvG, e46, e25, e44, aGo, aOk, hlt, hr, hg, c1, hi0]
    · cases c4 : people s.from_ of
      · right
        simp only [rv0, rv1, rvE, rvH, rvS, rvI, eT, eQ, ↓reduceIte, Nat.reduceEqDiff, Nat.reduceAdd, Nat.reduceSub, Nat.reduceMul, Nat.reduceLeDiff, Nat.reduceBEq, decide_true, decide_false, reduceCtorEq, Int.reduceLT, Int.reduceNeg, rvN, Nat.reduceLT, Int.reduceLE, Int.reduceEq, eq_self, List.reduceReplicate, rvF, rvG, e46, e25, e44, aGo, aOk, hlt, hr, hg, hp66, c1, c4, hi0]
      · cases c2 : decide (0 < (i : Int))
        · left
          refine ⟨(), ?_, trivial, by simp only [aGo, aOk, c1, c2, c4]; rfl⟩
          simp only [rv0, rv1, rvE, rvH, rvS, rvI, eT, eQ, ↓reduceIte, Nat.reduceEqDiff, Nat.reduceAdd, Nat.reduceSub, Nat.reduceMul, Nat.reduceLeDiff, Nat.reduceBEq, decide_true, decide_false, reduceCtorEq, Int.reduceLT, Int.reduceNeg, rvN, Nat.reduceLT, Int.reduceLE, Int.reduceEq, eq_self, List.reduceReplicate, rvF, rvG, e46, e25, e44, hlt, hr, hg, hp66, c1, c2, c4, hi0, hwi, i64c]
        · have hip : 0 < (i : Int) := by simpa using c2
          have hpl : i - 1 < l.length := by omega
          have hp : l[i - 1]? = some l[i - 1] := List.getElem?_eq_getElem hpl
          have hrp := getElem?_map_some (f := VRecAck.c .shr) hp
          have hw1 := wrap64 (n := (i : Int) - 1) (by omega) (by omega)
          have hi1 : (0 : Int) ≤ (i : Int) - 1 := by omega
          have hnat : ((i : Int) - 1).toNat = i - 1 := by omega
          simp only [VRecAck.c] at hrp
          cases c3 : decide (s.index ≤ l[i - 1].index)
          · left
            refine ⟨(), ?_, trivial, by simp only [aGo, aOk, c1, c2, c4, hp, Option.map_some, Option.getD_some, c3]; rfl⟩
            simp only [rv0, rv1, rvE, rvH, rvS, rvI, eT, eQ, ↓reduceIte, Nat.reduceEqDiff, Nat.reduceAdd, Nat.reduceSub, Nat.reduceMul, Nat.reduceLeDiff, Nat.reduceBEq, decide_true, decide_false, reduceCtorEq, Int.reduceLT, Int.reduceNeg, rvN, Nat.reduceLT, Int.reduceLE, Int.reduceEq, eq_self, List.reduceReplicate, rvF, rvG, e46, e25, e44, hlt, hr, hg, hp66, c1, c2, c3, c4, hrp, hw1, hi1, hnat, hi0, hwi, i64c]
          · right
            simp only [rv0, rv1, rvE, rvH, rvS, rvI, eT, eQ, ↓reduceIte, Nat.reduceEqDiff, Nat.reduceAdd, Nat.reduceSub, Nat.reduceMul, Nat.reduceLeDiff, Nat.reduceBEq, decide_true, decide_false, reduceCtorEq, Int.reduceLT, Int.reduceNeg, rvN, Nat.reduceLT, Int.reduceLE, Int.reduceEq, eq_self, List.reduceReplicate, rvF, rvG, e46, e25, e44, aGo, aOk, hp, Option.map_some, Option.getD_some, hlt, hr, hg, hp66, c1, c2, c3, c4, hrp, hw1, hi1, hnat, hi0]
  · intro a _
    simp only [rv0, rv1, rvE, rvH, rvS, rvI, eT, eQ, ↓reduceIte, Nat.reduceEqDiff, Nat.reduceAdd, Nat.reduceSub, Nat.reduceMul, Nat.reduceLeDiff, Nat.reduceBEq, decide_true, decide_false, reduceCtorEq, Int.reduceLT, Int.reduceNeg, rvN, Nat.reduceLT, Int.reduceLE, Int.reduceEq, eq_self, List.reduceReplicate, rvF, rvG, e46, aGo]

def quiet (x : VRecorder) : Bool := !x.lead && (!x.trying && (decide (x.ballot = 0) && decide ((x.yes.length : Int) + x.best.length + x.acks.length = 0)))
theorem k47 (x : VRecorder) (hw : x.w ≤ 4194304) : EV Try.prog E 47 [.val 0 true (x.c .shr)] = some ⟨[(false, [.p (.bool (quiet x))])], []⟩ := by
  refine EV_intro Try.func47 rfl ?_
  unfold VRecorder.w wSInt wSRecSlot wSRecAck at hw
  have w1 := wrap64 (n := (x.yes.length : Int) + x.best.length) (by omega) (by omega)
  have w2 := wrap64 (n := (x.yes.length : Int) + x.best.length + x.acks.length) (by omega) (by omega)
  cases c1 : x.lead
  · cases c2 : x.trying
    · cases c3 : decide (x.ballot = 0)
      · simp only [rv0, rv1, rvE, rvH, rvS, rvI, eT, eQ, ↓reduceIte, Nat.reduceEqDiff, Nat.reduceAdd, Nat.reduceSub, Nat.reduceMul, Nat.reduceLeDiff, Nat.reduceBEq, decide_true, decide_false, reduceCtorEq, Int.reduceLT, Int.reduceNeg, rvN, Nat.reduceLT, Int.reduceLE, Int.reduceEq, eq_self, List.reduceReplicate, rvF, rvG, e47, Try.f47, quiet, VRecorder.c, c1, c2, c3]
      · simp only [rv0, rv1, rvE, rvH, rvS, rvI, eT, eQ, ↓reduceIte, Nat.reduceEqDiff, Nat.reduceAdd, Nat.reduceSub, Nat.reduceMul, Nat.reduceLeDiff, Nat.reduceBEq, decide_true, decide_false, reduceCtorEq, Int.reduceLT, Int.reduceNeg, rvN, Nat.reduceLT, Int.reduceLE, Int.reduceEq, eq_self, List.reduceReplicate, rvF, rvG, e47, Try.f47, quiet, VRecorder.c, c1, c2, c3, w1, w2]
    · simp only [rv0, rv1, rvE, rvH, rvS, rvI, eT, eQ, ↓reduceIte, Nat.reduceEqDiff, Nat.reduceAdd, Nat.reduceSub, Nat.reduceMul, Nat.reduceLeDiff, Nat.reduceBEq, decide_true, decide_false, reduceCtorEq, Int.reduceLT, Int.reduceNeg, rvN, Nat.reduceLT, Int.reduceLE, Int.reduceEq, eq_self, List.reduceReplicate, rvF, rvG, e47, Try.f47, quiet, VRecorder.c, c1, c2]
  · simp only [rv0, rv1, rvE, rvH, rvS, rvI, eT, eQ, ↓reduceIte, Nat.reduceEqDiff, Nat.reduceAdd, Nat.reduceSub, Nat.reduceMul, Nat.reduceLeDiff, Nat.reduceBEq, decide_true, decide_false, reduceCtorEq, Int.reduceLT, Int.reduceNeg, rvN, Nat.reduceLT, Int.reduceLE, Int.reduceEq, eq_self, List.reduceReplicate, rvF, rvG, e47, Try.f47, quiet, VRecorder.c, c1]
end Go.Proofs.Ytnhgopjnnedhdaa

