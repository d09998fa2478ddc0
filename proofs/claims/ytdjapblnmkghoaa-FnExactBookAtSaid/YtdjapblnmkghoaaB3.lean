/- Objects of a book, found and copied: what the functions compute. -/
import Derived.Test.YtdjapblnmkghoaaF3
namespace Go.Proofs.Ytdjapblnmkghoaa
open Go.Sx
set_option maxRecDepth 100000
set_option maxHeartbeats 4000000
set_option linter.unusedVariables false
set_option linter.unusedSimpArgs false
abbrev objC (x : VBookObject) : List C := VBookObject.c .shr x
abbrev keyC (k n : ByteArray) : List C := [.p (.string k), .p (.string n)]
def isKey (k n : ByteArray) (o : VBookObject) : Bool := decide (o.kind = k) && decide (o.name = n)
def nilObj : VBookObject := ⟨⟨#[]⟩, ⟨#[]⟩, 0, 0, ⟨#[]⟩, false, []⟩

theorem k56 (x : VBookObject) (hl : x.holds.length ≤ 4194304) : EV Try.prog E 56 [.val 0 true (VBookObject.c .shr x)] = some ⟨[(true, x.c .own)], []⟩ := by
  refine EV_intro Try.func56 rfl ?_
  have h1 : 0 + x.holds.length < 4294967296 := by omega
  have h2 : x.holds.length < 4294967296 := by omega
  simp only [rv0, rv1, rvE, rvH, rvS, rvI, eT, eQ, ↓reduceIte, Nat.reduceEqDiff, Nat.reduceAdd, Nat.reduceSub, Nat.reduceMul, Nat.reduceLeDiff, Nat.reduceBEq, decide_true, decide_false, reduceCtorEq, Int.reduceLT, Int.reduceNeg, rvN, Nat.reduceLT, Int.reduceLE, Int.reduceEq, eq_self, List.reduceReplicate, rvF, rvG, e56, Try.f56, VBookObject.c, LIM, h1, h2, rowsString]
theorem k61 (x : VBookObject) (hl : x.holds.length ≤ 4194304) : EV Try.prog E 61 [.val 0 true (VBookObject.c .shr x)] = some ⟨[(true, x.c .own)], []⟩ := by
  refine EV_intro Try.func61 rfl ?_
  have h1 : 0 + x.holds.length < 4294967296 := by omega
  have h2 : x.holds.length < 4294967296 := by omega
  simp only [rv0, rv1, rvE, rvH, rvS, rvI, eT, eQ, ↓reduceIte, Nat.reduceEqDiff, Nat.reduceAdd, Nat.reduceSub, Nat.reduceMul, Nat.reduceLeDiff, Nat.reduceBEq, decide_true, decide_false, reduceCtorEq, Int.reduceLT, Int.reduceNeg, rvN, Nat.reduceLT, Int.reduceLE, Int.reduceEq, eq_self, List.reduceReplicate, rvF, rvG, e61, Try.f61, VBookObject.c, LIM, h1, h2, rowsString]
theorem k73 (x : VBookObject) : EV Try.prog E 73 [.val 0 true (VBookObject.c .shr x)] = some ⟨[(true, keyC x.kind x.name)], []⟩ := by
  refine EV_intro Try.func73 rfl ?_
  simp only [rv0, rv1, rvE, rvH, rvS, rvI, eT, eQ, ↓reduceIte, Nat.reduceEqDiff, Nat.reduceAdd, Nat.reduceSub, Nat.reduceMul, Nat.reduceLeDiff, Nat.reduceBEq, decide_true, decide_false, reduceCtorEq, Int.reduceLT, Int.reduceNeg, rvN, Nat.reduceLT, Int.reduceLE, Int.reduceEq, eq_self, List.reduceReplicate, rvF, rvG, e73, Try.f73, VBookObject.c]
def idxF (p : VBookObject → Bool) : List VBookObject → Nat → Int
  | [], _ => -1
  | x :: r, i => if p x = true then (i : Int) else idxF p r (i + 1)
theorem idxF_find (p : VBookObject → Bool) : ∀ (l : List VBookObject) (k : Nat), (l.find? p = none ∧ idxF p l k = -1) ∨ ∃ i o, l.find? p = some o ∧ l[i]? = some o ∧ p o = true ∧ idxF p l k = ((k + i : Nat) : Int)
  | [], k => .inl ⟨rfl, rfl⟩
  | x :: r, k => by
    by_cases h : p x = true
    · exact .inr ⟨0, x, by simp [h], rfl, h, by simp [idxF, h]⟩
    · rcases idxF_find p r (k + 1) with ⟨h1, h2⟩ | ⟨i, o, h1, h2, h3, h4⟩
      · exact .inl ⟨by simp [h, h1], by simp [idxF, h, h2]⟩
      · exact .inr ⟨i + 1, o, by simp [h, h1], by simpa using h2, h3, by simp only [idxF, h]; rw [if_neg (by simp), h4]; omega⟩
theorem idxF_lt (p : VBookObject → Bool) {l : List VBookObject} : idxF p l 0 < l.length ∧ -1 ≤ idxF p l 0 := by
  rcases idxF_find p l 0 with ⟨h1, h2⟩ | ⟨i, o, h1, h2, h3, h4⟩
  · rw [h2]; omega
  · have := (List.getElem?_eq_some_iff.1 h2).1
    rw [h4]; omega

theorem k101 {f : FuncId} {cp : List C} {p : VBookObject → Bool} (l : List VBookObject) (hl : l.length ≤ 4194304) (hm : (E.ann f).modes = [])
    (hp : ∀ x, EV Try.prog E f [.val 0 true (VBookObject.c .shr x), .rp cp] = some ⟨[(false, [.p (.bool (p x))])], []⟩) :
    EV Try.prog E 101 [.val 0 false [.sl .shr 7 (l.map (VBookObject.c .shr))], .fn f [cp]] = some ⟨[(false, [.p (.int .i64 (idxF p l 0))])], []⟩ := by
  refine EV_intro Try.func101 rfl ?_
  simp only [rv0, rv1, rvE, rvH, rvS, rvI, eT, eQ, ↓reduceIte, Nat.reduceEqDiff, Nat.reduceAdd, Nat.reduceSub, Nat.reduceMul, Nat.reduceLeDiff, Nat.reduceBEq, decide_true, decide_false, reduceCtorEq, Int.reduceLT, Int.reduceNeg, rvN, Nat.reduceLT, Int.reduceLE, Int.reduceEq, eq_self, List.reduceReplicate, rvF, rvG, e101, Try.f101]
  rw [for_block l (fun i (_ : Unit) => ⟨4, [(0, .val 0 false [.sl .shr 7 (l.map (VBookObject.c .shr))]), (1, .fn f [cp]), (7, .val 2 false [.p (.int .i64 l.length)]), (8, .val 3 false [.p (.int .i64 i)])]⟩) (fun i _ => True)
      (fun r i a => if idxF p r i < 0 then .norm ⟨0, []⟩ else .ret ⟨[(false, [.p (.int .i64 (idxF p r i))])], []⟩) ?_ ?_ (a := ()) trivial (by simp only [rv0, rv1, rvE, rvH, rvS, rvI, eT, eQ, ↓reduceIte, Nat.reduceEqDiff, Nat.reduceAdd, Nat.reduceSub, Nat.reduceMul, Nat.reduceLeDiff, Nat.reduceBEq, decide_true, decide_false, reduceCtorEq, Int.reduceLT, Int.reduceNeg, rvN, Nat.reduceLT, Int.reduceLE, Int.reduceEq, eq_self, List.reduceReplicate, rvF, rvG, e101]; rfl)]
  · by_cases h : idxF p l 0 < 0
    · have e : idxF p l 0 = -1 := by have := (idxF_lt p (l := l)).2; omega
      simp only [rv0, rv1, rvE, rvH, rvS, rvI, eT, eQ, ↓reduceIte, Nat.reduceEqDiff, Nat.reduceAdd, Nat.reduceSub, Nat.reduceMul, Nat.reduceLeDiff, Nat.reduceBEq, decide_true, decide_false, reduceCtorEq, Int.reduceLT, Int.reduceNeg, rvN, Nat.reduceLT, Int.reduceLE, Int.reduceEq, eq_self, List.reduceReplicate, rvF, rvG, e101, h, e]
    · simp only [rv0, rv1, rvE, rvH, rvS, rvI, eT, eQ, ↓reduceIte, Nat.reduceEqDiff, Nat.reduceAdd, Nat.reduceSub, Nat.reduceMul, Nat.reduceLeDiff, Nat.reduceBEq, decide_true, decide_false, reduceCtorEq, Int.reduceLT, Int.reduceNeg, rvN, Nat.reduceLT, Int.reduceLE, Int.reduceEq, eq_self, List.reduceReplicate, rvF, rvG, e101, h]
  · intro i x r a hd hi _
    have hlen := (List.getElem?_eq_some_iff.1 hi).1
    have hlt : ((i : Int) < (l.length : Int)) := by omega
    have hr := getElem?_map_some (f := VBookObject.c .shr) hi
    have hwi := wrap64 (n := (i : Int) + 1) (by omega) (by omega)
    have hi0 : (0 : Int) ≤ (i : Int) := by omega
    have hk := hp x
    simp only [VBookObject.c] at hr hk
    cases d : p x
    · left
      refine ⟨(), ?_, trivial, by simp [idxF, d]⟩
      simp only [rv0, rv1, rvE, rvH, rvS, rvI, eT, eQ, ↓reduceIte, Nat.reduceEqDiff, Nat.reduceAdd, Nat.reduceSub, Nat.reduceMul, Nat.reduceLeDiff, Nat.reduceBEq, decide_true, decide_false, reduceCtorEq, Int.reduceLT, Int.reduceNeg, rvN, Nat.reduceLT, Int.reduceLE, Int.reduceEq, eq_self, List.reduceReplicate, rvF, rvG, e101, hlt, hr, hwi, hi0, hk, hm, d, i64c]
    · right
      have hn : ¬ ((i : Int) < 0) := by omega
      simp only [rv0, rv1, rvE, rvH, rvS, rvI, eT, eQ, ↓reduceIte, Nat.reduceEqDiff, Nat.reduceAdd, Nat.reduceSub, Nat.reduceMul, Nat.reduceLeDiff, Nat.reduceBEq, decide_true, decide_false, reduceCtorEq, Int.reduceLT, Int.reduceNeg, rvN, Nat.reduceLT, Int.reduceLE, Int.reduceEq, eq_self, List.reduceReplicate, rvF, rvG, e101, hlt, hr, hwi, hi0, hk, hm, d, idxF, hn]
  · intro a _
    have hn : ¬ ((l.length : Int) < (l.length : Int)) := by omega
    simp only [rv0, rv1, rvE, rvH, rvS, rvI, eT, eQ, ↓reduceIte, Nat.reduceEqDiff, Nat.reduceAdd, Nat.reduceSub, Nat.reduceMul, Nat.reduceLeDiff, Nat.reduceBEq, decide_true, decide_false, reduceCtorEq, Int.reduceLT, Int.reduceNeg, rvN, Nat.reduceLT, Int.reduceLE, Int.reduceEq, eq_self, List.reduceReplicate, rvF, rvG, e101, hn, idxF]
def bfind (l : List VBookObject) (k n : ByteArray) : VBookObject × Bool := match l.find? (isKey k n) with
  | some o => (o, true)
  | none => (nilObj, false)
theorem sum_obj_le {l : List VBookObject} {x : VBookObject} (h : x ∈ l) : x.w ≤ sumWBookObject l := wSBookObject_mem h
theorem holds_le {x : VBookObject} {n : Nat} (h : x.w ≤ n) : x.holds.length ≤ n := by
  unfold VBookObject.w wSString at h
  omega

theorem k13 (b : VBook) (k n : ByteArray) (hw : b.w ≤ 4194304) : EV Try.prog E 13 [.val 0 true (b.c .shr), .val 0 false [.p (.string k)], .val 0 false [.p (.string n)]] =
    some ⟨[(true, (bfind b.objects k n).1.c .own), (false, [.p (.bool (bfind b.objects k n).2)])], []⟩ := by
  refine EV_intro Try.func13 rfl ?_
  have hll : b.objects.length ≤ 4194304 := by unfold VBook.w wSBookObject at hw; omega
  simp only [rv0, rv1, rvE, rvH, rvS, rvI, eT, eQ, ↓reduceIte, Nat.reduceEqDiff, Nat.reduceAdd, Nat.reduceSub, Nat.reduceMul, Nat.reduceLeDiff, Nat.reduceBEq, decide_true, decide_false, reduceCtorEq, Int.reduceLT, Int.reduceNeg, rvN, Nat.reduceLT, Int.reduceLE, Int.reduceEq, eq_self, List.reduceReplicate, rvF, rvG, e13, Try.f13, VBook.c]
  rw [for_block b.objects (fun i (_ : Unit) => ⟨5, [(1, .val 0 false [.p (.string k)]), (2, .val 1 false [.p (.string n)]), (3, .box 2 2 (b.c .shr)), (6, .box 3 3 (nilObj.c .own)), (8, .val 4 false [.p (.int .i64 i)])]⟩) (fun i _ => True)
      (fun r i a => match r.find? (isKey k n) with
        | some o => .ret ⟨[(true, o.c .own), (false, [.p (.bool true)])], []⟩
        | none => .norm ⟨1, [(6, .box 0 0 (nilObj.c .own))]⟩) ?_ ?_ (a := ()) trivial (by simp only [rv0, rv1, rvE, rvH, rvS, rvI, eT, eQ, ↓reduceIte, Nat.reduceEqDiff, Nat.reduceAdd, Nat.reduceSub, Nat.reduceMul, Nat.reduceLeDiff, Nat.reduceBEq, decide_true, decide_false, reduceCtorEq, Int.reduceLT, Int.reduceNeg, rvN, Nat.reduceLT, Int.reduceLE, Int.reduceEq, eq_self, List.reduceReplicate, rvF, rvG, e13, VBook.c, VBookObject.c, nilObj]; rfl)]
  · unfold bfind
    cases h : b.objects.find? (isKey k n) with
    | none => simp only [rv0, rv1, rvE, rvH, rvS, rvI, eT, eQ, ↓reduceIte, Nat.reduceEqDiff, Nat.reduceAdd, Nat.reduceSub, Nat.reduceMul, Nat.reduceLeDiff, Nat.reduceBEq, decide_true, decide_false, reduceCtorEq, Int.reduceLT, Int.reduceNeg, rvN, Nat.reduceLT, Int.reduceLE, Int.reduceEq, eq_self, List.reduceReplicate, rvF, rvG, e13, VBookObject.c, nilObj, List.map_nil]
    | some o => simp only [rv0, rv1, rvE, rvH, rvS, rvI, eT, eQ, ↓reduceIte, Nat.reduceEqDiff, Nat.reduceAdd, Nat.reduceSub, Nat.reduceMul, Nat.reduceLeDiff, Nat.reduceBEq, decide_true, decide_false, reduceCtorEq, Int.reduceLT, Int.reduceNeg, rvN, Nat.reduceLT, Int.reduceLE, Int.reduceEq, eq_self, List.reduceReplicate, rvF, rvG, e13]
  · intro i x r a hd hi _
    have hlen := (List.getElem?_eq_some_iff.1 hi).1
    have hlt : ((i : Int) < (b.objects.length : Int)) := by omega
    have hr := getElem?_map_some (f := VBookObject.c .shr) hi
    have hwi := wrap64 (n := (i : Int) + 1) (by omega) (by omega)
    have hi0 : (0 : Int) ≤ (i : Int) := by omega
    have hxw : x.w ≤ 4194304 := by have := sum_obj_le (List.mem_of_getElem? hi); unfold VBook.w wSBookObject at hw; omega
    have h56 := k56 x (holds_le hxw)
    simp only [VBookObject.c] at hr h56
    by_cases d1 : x.kind = k
    · by_cases d2 : x.name = n
      · right
        have hf : (x :: r).find? (isKey k n) = some x := by simp [isKey, d1, d2]
        rw [hf]
        subst d1 d2
        simp only [rv0, rv1, rvE, rvH, rvS, rvI, eT, eQ, ↓reduceIte, Nat.reduceEqDiff, Nat.reduceAdd, Nat.reduceSub, Nat.reduceMul, Nat.reduceLeDiff, Nat.reduceBEq, decide_true, decide_false, reduceCtorEq, Int.reduceLT, Int.reduceNeg, rvN, Nat.reduceLT, Int.reduceLE, Int.reduceEq, eq_self, List.reduceReplicate, rvF, rvG, e13, e56, VBook.c, VBookObject.c, nilObj, hlt, hr, hi0, h56, rowsString, List.map_nil]
      · left
        have hf : (x :: r).find? (isKey k n) = r.find? (isKey k n) := by simp [isKey, d2]
        refine ⟨(), ?_, trivial, by rw [hf]⟩
        simp only [rv0, rv1, rvE, rvH, rvS, rvI, eT, eQ, ↓reduceIte, Nat.reduceEqDiff, Nat.reduceAdd, Nat.reduceSub, Nat.reduceMul, Nat.reduceLeDiff, Nat.reduceBEq, decide_true, decide_false, reduceCtorEq, Int.reduceLT, Int.reduceNeg, rvN, Nat.reduceLT, Int.reduceLE, Int.reduceEq, eq_self, List.reduceReplicate, rvF, rvG, e13, VBook.c, VBookObject.c, nilObj, hlt, hr, hi0, hwi, d1, d2, i64c]
    · left
      have hf : (x :: r).find? (isKey k n) = r.find? (isKey k n) := by simp [isKey, d1]
      refine ⟨(), ?_, trivial, by rw [hf]⟩
      simp only [rv0, rv1, rvE, rvH, rvS, rvI, eT, eQ, ↓reduceIte, Nat.reduceEqDiff, Nat.reduceAdd, Nat.reduceSub, Nat.reduceMul, Nat.reduceLeDiff, Nat.reduceBEq, decide_true, decide_false, reduceCtorEq, Int.reduceLT, Int.reduceNeg, rvN, Nat.reduceLT, Int.reduceLE, Int.reduceEq, eq_self, List.reduceReplicate, rvF, rvG, e13, VBook.c, VBookObject.c, nilObj, hlt, hr, hi0, hwi, d1, i64c]
  · intro a _
    have hn : ¬ ((b.objects.length : Int) < (b.objects.length : Int)) := by omega
    simp only [rv0, rv1, rvE, rvH, rvS, rvI, eT, eQ, ↓reduceIte, Nat.reduceEqDiff, Nat.reduceAdd, Nat.reduceSub, Nat.reduceMul, Nat.reduceLeDiff, Nat.reduceBEq, decide_true, decide_false, reduceCtorEq, Int.reduceLT, Int.reduceNeg, rvN, Nat.reduceLT, Int.reduceLE, Int.reduceEq, eq_self, List.reduceReplicate, rvF, rvG, e13, VBook.c, VBookObject.c, nilObj, hn, List.find?_nil]

end Go.Proofs.Ytdjapblnmkghoaa

