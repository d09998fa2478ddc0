/- What comes next: what the functions compute. -/
import Derived.Test.YtdjapblnmkghoaaB4
import Derived.Test.YtdjapblnmkghoaaF3w
namespace Go.Proofs.Ytdjapblnmkghoaa
open Go.Sx
set_option maxRecDepth 100000
set_option maxHeartbeats 4000000
set_option linter.unusedVariables false
set_option linter.unusedSimpArgs false
def passB (w : VBookWatch) (c : VBookChange) : Bool := !decide (c.version ≤ w.from_) && looksB w.kind w.prefix_ c.object
def lastV (l : List VBookChange) : Int := match l[l.length - 1]? with
  | some c => c.version
  | none => 0
def nxt (w : VBookWatch) (most : Int) : List VBookChange → List VBookChange → List VBookChange × Option Int
  | [], acc => (acc, none)
  | c :: r, acc => if passB w c = true then (if (acc.length : Int) = most then (acc, some (lastV acc)) else nxt w most r (acc ++ [c])) else nxt w most r acc
def nilN : VBookNews := ⟨0, [], 0⟩
theorem k86 (b : VBook) (w : VBookWatch) (most : Int) (hw : b.w ≤ 4194304) (hm : i64ok most) : EV Try.prog E 86 [.val 0 true (b.c .shr), .val 0 true (w.c), .val 0 false [.p (.int .i64 most)]] =
    some ⟨[(true, (if most < 1 ∨ ¬ (inR w.from_ 0 b.now = true) then ⟨1, [], 0⟩ else if w.from_ < b.floor then ⟨2, [], 0⟩ else ⟨0, (nxt w most b.history []).1, (nxt w most b.history []).2.getD b.now⟩ : VBookNews).c .own)], []⟩ := by
  refine EV_intro Try.func86 rfl ?_
  have h75 := k75 w.from_ 0 b.now
  have hhl : b.history.length ≤ 4194304 := by unfold VBook.w wSBookChange at hw; omega
  by_cases c1 : most < 1
  · rw [if_pos (.inl c1)]
    simp only [rv0, rv1, rvE, rvH, rvS, rvI, eT, eQ, ↓reduceIte, Nat.reduceEqDiff, Nat.reduceAdd, Nat.reduceSub, Nat.reduceMul, Nat.reduceLeDiff, Nat.reduceBEq, decide_true, decide_false, reduceCtorEq, Int.reduceLT, Int.reduceNeg, rvN, Nat.reduceLT, Int.reduceLE, Int.reduceEq, eq_self, List.reduceReplicate, rvF, rvG, e86, Try.f86, VBook.c, VBookWatch.c, VBookNews.c, c1, List.map_nil]
  cases c2 : inR w.from_ 0 b.now
  · rw [if_pos (.inr (by simp))]
    rw [c2] at h75
    simp only [rv0, rv1, rvE, rvH, rvS, rvI, eT, eQ, ↓reduceIte, Nat.reduceEqDiff, Nat.reduceAdd, Nat.reduceSub, Nat.reduceMul, Nat.reduceLeDiff, Nat.reduceBEq, decide_true, decide_false, reduceCtorEq, Int.reduceLT, Int.reduceNeg, rvN, Nat.reduceLT, Int.reduceLE, Int.reduceEq, eq_self, List.reduceReplicate, rvF, rvG, e86, e75, Try.f86, VBook.c, VBookWatch.c, VBookNews.c, c1, h75, List.map_nil]
  rw [c2] at h75
  rw [if_neg (by simp; omega)]
  by_cases c3 : w.from_ < b.floor
  · rw [if_pos c3]
    simp only [rv0, rv1, rvE, rvH, rvS, rvI, eT, eQ, ↓reduceIte, Nat.reduceEqDiff, Nat.reduceAdd, Nat.reduceSub, Nat.reduceMul, Nat.reduceLeDiff, Nat.reduceBEq, decide_true, decide_false, reduceCtorEq, Int.reduceLT, Int.reduceNeg, rvN, Nat.reduceLT, Int.reduceLE, Int.reduceEq, eq_self, List.reduceReplicate, rvF, rvG, e86, e75, Try.f86, VBook.c, VBookWatch.c, VBookNews.c, c1, h75, c3, List.map_nil]
  rw [if_neg c3]
  simp only [rv0, rv1, rvE, rvH, rvS, rvI, eT, eQ, ↓reduceIte, Nat.reduceEqDiff, Nat.reduceAdd, Nat.reduceSub, Nat.reduceMul, Nat.reduceLeDiff, Nat.reduceBEq, decide_true, decide_false, reduceCtorEq, Int.reduceLT, Int.reduceNeg, rvN, Nat.reduceLT, Int.reduceLE, Int.reduceEq, eq_self, List.reduceReplicate, rvF, rvG, e86, e75, Try.f86, VBook.c, VBookWatch.c, VBookNews.c, c1, h75, c3]
  rw [for_block b.history (fun i (acc : List VBookChange) => ⟨6, [(2, .val 0 false [.p (.int .i64 most)]), (3, .box 1 1 (b.c .shr)), (4, .box 2 2 w.c), (6, .box 3 3 (nilN.c .own)), (7, .box 4 4 ((⟨0, acc, b.now⟩ : VBookNews).c .own)), (8, .val 5 false [.p (.int .i64 i)])]⟩) (fun i acc => acc.length ≤ i)
    (fun r i acc => match (nxt w most r acc).2 with
      | none => .norm ⟨2, [(6, .box 0 0 (nilN.c .own)), (7, .box 1 1 ((⟨0, (nxt w most r acc).1, b.now⟩ : VBookNews).c .own))]⟩
      | some v => .ret ⟨[(true, (⟨0, (nxt w most r acc).1, v⟩ : VBookNews).c .own)], []⟩) ?_ ?_ (a := []) (Nat.zero_le _) (by simp only [rv0, rv1, rvE, rvH, rvS, rvI, eT, eQ, ↓reduceIte, Nat.reduceEqDiff, Nat.reduceAdd, Nat.reduceSub, Nat.reduceMul, Nat.reduceLeDiff, Nat.reduceBEq, decide_true, decide_false, reduceCtorEq, Int.reduceLT, Int.reduceNeg, rvN, Nat.reduceLT, Int.reduceLE, Int.reduceEq, eq_self, List.reduceReplicate, rvF, rvG, e86, VBook.c, VBookWatch.c, VBookNews.c, nilN, List.map_nil]; rfl)]
  · cases h : (nxt w most b.history []).2 with
    | none => simp only [rv0, rv1, rvE, rvH, rvS, rvI, eT, eQ, ↓reduceIte, Nat.reduceEqDiff, Nat.reduceAdd, Nat.reduceSub, Nat.reduceMul, Nat.reduceLeDiff, Nat.reduceBEq, decide_true, decide_false, reduceCtorEq, Int.reduceLT, Int.reduceNeg, rvN, Nat.reduceLT, Int.reduceLE, Int.reduceEq, eq_self, List.reduceReplicate, rvF, rvG, e86, VBookNews.c, nilN, rowsBookChange, Option.getD_none, List.map_nil]
    | some v => simp only [rv0, rv1, rvE, rvH, rvS, rvI, eT, eQ, ↓reduceIte, Nat.reduceEqDiff, Nat.reduceAdd, Nat.reduceSub, Nat.reduceMul, Nat.reduceLeDiff, Nat.reduceBEq, decide_true, decide_false, reduceCtorEq, Int.reduceLT, Int.reduceNeg, rvN, Nat.reduceLT, Int.reduceLE, Int.reduceEq, eq_self, List.reduceReplicate, rvF, rvG, e86, VBookNews.c, Option.getD_some]
  · intro i x r acc hd hi hacc
    have hlen := (List.getElem?_eq_some_iff.1 hi).1
    have hlt : ((i : Int) < (b.history.length : Int)) := by omega
    have hr := getElem?_map_some (f := VBookChange.c .shr) hi
    have hi0 : (0 : Int) ≤ (i : Int) := by omega
    have hwi := wrap64 (n := (i : Int) + 1) (by omega) (by omega)
    have hxl := change_le hw (List.mem_of_getElem? hi)
    have h1 := k116 x.object w.kind w.prefix_
    have h2 := k56 x.object hxl
    simp only [VBookObject.c, VBookChange.c] at h1 h2 hr
    by_cases d1 : x.version ≤ w.from_
    · left
      have hn : nxt w most (x :: r) acc = nxt w most r acc := by
        rw [nxt, if_neg]; unfold passB; rw [decide_eq_true d1]; simp
      refine ⟨acc, ?_, by omega, by rw [hn]⟩
      simp only [rv0, rv1, rvE, rvH, rvS, rvI, eT, eQ, ↓reduceIte, Nat.reduceEqDiff, Nat.reduceAdd, Nat.reduceSub, Nat.reduceMul, Nat.reduceLeDiff, Nat.reduceBEq, decide_true, decide_false, reduceCtorEq, Int.reduceLT, Int.reduceNeg, rvN, Nat.reduceLT, Int.reduceLE, Int.reduceEq, eq_self, List.reduceReplicate, rvF, rvG, e86, VBook.c, VBookWatch.c, VBookNews.c, VBookChange.c, VBookObject.c, nilN, List.map_nil, hlt, hr, hi0, hwi, d1, i64c]
    cases d2 : looksB w.kind w.prefix_ x.object
    · left
      have hn : nxt w most (x :: r) acc = nxt w most r acc := by
        rw [nxt, if_neg]; unfold passB; rw [d2]; simp
      refine ⟨acc, ?_, by omega, by rw [hn]⟩
      rw [d2] at h1
      simp only [rv0, rv1, rvE, rvH, rvS, rvI, eT, eQ, ↓reduceIte, Nat.reduceEqDiff, Nat.reduceAdd, Nat.reduceSub, Nat.reduceMul, Nat.reduceLeDiff, Nat.reduceBEq, decide_true, decide_false, reduceCtorEq, Int.reduceLT, Int.reduceNeg, rvN, Nat.reduceLT, Int.reduceLE, Int.reduceEq, eq_self, List.reduceReplicate, rvF, rvG, e86, e116, VBook.c, VBookWatch.c, VBookNews.c, VBookChange.c, VBookObject.c, nilN, List.map_nil, hlt, hr, hi0, hwi, d1, h1, i64c]
    rw [d2] at h1
    have hp : passB w x = true := by unfold passB; rw [decide_eq_false d1, d2]; rfl
    by_cases d3 : (acc.length : Int) = most
    · have hn : nxt w most (x :: r) acc = (acc, some (lastV acc)) := by rw [nxt, if_pos hp, if_pos d3]
      have hz : acc[acc.length - 1]? = some (acc[acc.length - 1]'(by omega)) := List.getElem?_eq_getElem (by omega)
      have hv : lastV acc = (acc[acc.length - 1]'(by omega)).version := by unfold lastV; rw [hz]
      generalize acc[acc.length - 1]'(by omega) = z at hz hv
      have hrz := getElem?_map_some (f := VBookChange.c .own) hz
      have hwm : IntKind.i64.wrap (most - 1) = ((acc.length - 1 : Nat) : Int) := by rw [wrap64 (by omega) (by omega)]; omega
      have hm0 : (0 : Int) ≤ ((acc.length - 1 : Nat) : Int) := by omega
      have hm1 : acc.length - 1 < acc.length := by omega
      simp only [VBookChange.c] at hrz
      right
      rw [hn, hv]
      simp only [rv0, rv1, rvE, rvH, rvS, rvI, eT, eQ, ↓reduceIte, Nat.reduceEqDiff, Nat.reduceAdd, Nat.reduceSub, Nat.reduceMul, Nat.reduceLeDiff, Nat.reduceBEq, decide_true, decide_false, reduceCtorEq, Int.reduceLT, Int.reduceNeg, rvN, Nat.reduceLT, Int.reduceLE, Int.reduceEq, eq_self, List.reduceReplicate, rvF, rvG, e86, e116, VBook.c, VBookWatch.c, VBookNews.c, VBookChange.c, VBookObject.c, nilN, List.map_nil, hlt, hr, hi0, d1, h1, d3, hwm, hm0, hm1, hrz, rowsBookChange, rowsBookObject, rowsString]
    · left
      have hn : nxt w most (x :: r) acc = nxt w most r (acc ++ [x]) := by rw [nxt, if_pos hp, if_neg d3]
      refine ⟨acc ++ [x], ?_, by rw [List.length_append]; simp; omega, by rw [hn]⟩
      have hL : acc.length + 1 < 4294967296 := by omega
      simp only [rv0, rv1, rvE, rvH, rvS, rvI, eT, eQ, ↓reduceIte, Nat.reduceEqDiff, Nat.reduceAdd, Nat.reduceSub, Nat.reduceMul, Nat.reduceLeDiff, Nat.reduceBEq, decide_true, decide_false, reduceCtorEq, Int.reduceLT, Int.reduceNeg, rvN, Nat.reduceLT, Int.reduceLE, Int.reduceEq, eq_self, List.reduceReplicate, rvF, rvG, e86, e116, e56, VBook.c, VBookWatch.c, VBookNews.c, VBookChange.c, VBookObject.c, nilN, List.map_nil, hlt, hr, hi0, hwi, d1, h1, h2, d3, hL, LIM, rowsBookChange, rowsBookObject, rowsString, List.map_append, List.map_cons, i64c]
  · intro a _
    simp only [rv0, rv1, rvE, rvH, rvS, rvI, eT, eQ, ↓reduceIte, Nat.reduceEqDiff, Nat.reduceAdd, Nat.reduceSub, Nat.reduceMul, Nat.reduceLeDiff, Nat.reduceBEq, decide_true, decide_false, reduceCtorEq, Int.reduceLT, Int.reduceNeg, rvN, Nat.reduceLT, Int.reduceLE, Int.reduceEq, eq_self, List.reduceReplicate, rvF, rvG, e86, VBook.c, VBookWatch.c, VBookNews.c, nxt, nilN]
def nextB (b : VBook) (w : VBookWatch) (most : Int) : VBookNews := if implB b = true then (if most < 1 ∨ ¬ (inR w.from_ 0 b.now = true) then ⟨1, [], 0⟩ else if w.from_ < b.floor then ⟨2, [], 0⟩ else ⟨0, (nxt w most b.history []).1, (nxt w most b.history []).2.getD b.now⟩) else ⟨1, [], 0⟩
theorem k40 (b : VBook) (w : VBookWatch) (most : Int) (hw : b.w ≤ 4194304) (hm : i64ok most) : EV Try.prog E 40 [.val 0 true (b.c .shr), .val 0 true (w.c), .val 0 false [.p (.int .i64 most)]] = some ⟨[(true, (nextB b w most).c .own)], []⟩ := by
  refine EV_intro Try.func40 rfl ?_
  have h1 := kS b hw
  have h2 := k86 b w most hw hm
  unfold nextB
  cases d : implB b
  · rw [d] at h1
    simp only [VBook.c] at h1
    simp only [rv0, rv1, rvE, rvH, rvS, rvI, eT, eQ, ↓reduceIte, Nat.reduceEqDiff, Nat.reduceAdd, Nat.reduceSub, Nat.reduceMul, Nat.reduceLeDiff, Nat.reduceBEq, decide_true, decide_false, reduceCtorEq, Int.reduceLT, Int.reduceNeg, rvN, Nat.reduceLT, Int.reduceLE, Int.reduceEq, eq_self, List.reduceReplicate, rvF, rvG, e40, e32, Try.f40, VBook.c, VBookWatch.c, VBookNews.c, h1, List.map_nil]
  · rw [d] at h1
    rw [if_pos rfl]
    generalize (if most < 1 ∨ ¬ (inR w.from_ 0 b.now = true) then ⟨1, [], 0⟩ else if w.from_ < b.floor then ⟨2, [], 0⟩ else ⟨0, (nxt w most b.history []).1, (nxt w most b.history []).2.getD b.now⟩ : VBookNews) = y at *
    simp only [VBook.c, VBookWatch.c, VBookNews.c] at h1 h2
    simp only [rv0, rv1, rvE, rvH, rvS, rvI, eT, eQ, ↓reduceIte, Nat.reduceEqDiff, Nat.reduceAdd, Nat.reduceSub, Nat.reduceMul, Nat.reduceLeDiff, Nat.reduceBEq, decide_true, decide_false, reduceCtorEq, Int.reduceLT, Int.reduceNeg, rvN, Nat.reduceLT, Int.reduceLE, Int.reduceEq, eq_self, List.reduceReplicate, rvF, rvG, e40, e32, e86, Try.f40, VBook.c, VBookWatch.c, VBookNews.c, h1, h2, rowsBookChange]
theorem k42 (b : VBook) (w : VBookWatch) (most : Int) (hw : b.w ≤ 4194304) (hm : i64ok most) : EV Try.prog E 42 [.val 0 true (b.c .shr), .val 0 true (w.c), .val 0 false [.p (.int .i64 most)]] = some ⟨[(true, (nextB b w most).c .own)], []⟩ := by
  refine EV_intro Try.func42 rfl ?_
  have h0 := k33 b hw
  have hhl : b.history.length ≤ 4194304 := by unfold VBook.w wSBookChange at hw; omega
  simp only [VBook.c] at h0
  have one : most < 1 ∨ w.from_ < 0 ∨ implB b = false ∨ b.now < w.from_ → nextB b w most = ⟨1, [], 0⟩ := by
    unfold nextB inR
    intro h
    cases d : implB b
    · rfl
    · rw [if_pos rfl, if_pos]
      rcases h with h | h | h | h
      · exact .inl h
      · right; simp; omega
      · rw [d] at h; cases h
      · right; simp; omega
  by_cases c1 : most < 1
  · rw [one (.inl c1)]
    simp only [rv0, rv1, rvE, rvH, rvS, rvI, eT, eQ, ↓reduceIte, Nat.reduceEqDiff, Nat.reduceAdd, Nat.reduceSub, Nat.reduceMul, Nat.reduceLeDiff, Nat.reduceBEq, decide_true, decide_false, reduceCtorEq, Int.reduceLT, Int.reduceNeg, rvN, Nat.reduceLT, Int.reduceLE, Int.reduceEq, eq_self, List.reduceReplicate, rvF, rvG, e42, Try.f42, VBook.c, VBookWatch.c, VBookNews.c, c1, List.map_nil]
  by_cases c2 : w.from_ < 0
  · rw [one (.inr (.inl c2))]
    simp only [rv0, rv1, rvE, rvH, rvS, rvI, eT, eQ, ↓reduceIte, Nat.reduceEqDiff, Nat.reduceAdd, Nat.reduceSub, Nat.reduceMul, Nat.reduceLeDiff, Nat.reduceBEq, decide_true, decide_false, reduceCtorEq, Int.reduceLT, Int.reduceNeg, rvN, Nat.reduceLT, Int.reduceLE, Int.reduceEq, eq_self, List.reduceReplicate, rvF, rvG, e42, Try.f42, VBook.c, VBookWatch.c, VBookNews.c, c1, c2, List.map_nil]
  cases d : implB b
  · rw [one (.inr (.inr (.inl d)))]
    rw [d] at h0
    simp only [rv0, rv1, rvE, rvH, rvS, rvI, eT, eQ, ↓reduceIte, Nat.reduceEqDiff, Nat.reduceAdd, Nat.reduceSub, Nat.reduceMul, Nat.reduceLeDiff, Nat.reduceBEq, decide_true, decide_false, reduceCtorEq, Int.reduceLT, Int.reduceNeg, rvN, Nat.reduceLT, Int.reduceLE, Int.reduceEq, eq_self, List.reduceReplicate, rvF, rvG, e42, e33, Try.f42, VBook.c, VBookWatch.c, VBookNews.c, c1, c2, h0, List.map_nil]
  rw [d] at h0
  by_cases c3 : b.now < w.from_
  · rw [one (.inr (.inr (.inr c3)))]
    simp only [rv0, rv1, rvE, rvH, rvS, rvI, eT, eQ, ↓reduceIte, Nat.reduceEqDiff, Nat.reduceAdd, Nat.reduceSub, Nat.reduceMul, Nat.reduceLeDiff, Nat.reduceBEq, decide_true, decide_false, reduceCtorEq, Int.reduceLT, Int.reduceNeg, rvN, Nat.reduceLT, Int.reduceLE, Int.reduceEq, eq_self, List.reduceReplicate, rvF, rvG, e42, e33, Try.f42, VBook.c, VBookWatch.c, VBookNews.c, c1, c2, h0, c3, List.map_nil]
  have hnb : nextB b w most = if w.from_ < b.floor then ⟨2, [], 0⟩ else ⟨0, (nxt w most b.history []).1, (nxt w most b.history []).2.getD b.now⟩ := by
    unfold nextB
    rw [if_pos d, if_neg]
    unfold inR
    simp
    omega
  rw [hnb]
  by_cases c4 : w.from_ < b.floor
  · rw [if_pos c4]
    simp only [rv0, rv1, rvE, rvH, rvS, rvI, eT, eQ, ↓reduceIte, Nat.reduceEqDiff, Nat.reduceAdd, Nat.reduceSub, Nat.reduceMul, Nat.reduceLeDiff, Nat.reduceBEq, decide_true, decide_false, reduceCtorEq, Int.reduceLT, Int.reduceNeg, rvN, Nat.reduceLT, Int.reduceLE, Int.reduceEq, eq_self, List.reduceReplicate, rvF, rvG, e42, e33, Try.f42, VBook.c, VBookWatch.c, VBookNews.c, c1, c2, h0, c3, c4, List.map_nil]
  rw [if_neg c4]
  simp only [rv0, rv1, rvE, rvH, rvS, rvI, eT, eQ, ↓reduceIte, Nat.reduceEqDiff, Nat.reduceAdd, Nat.reduceSub, Nat.reduceMul, Nat.reduceLeDiff, Nat.reduceBEq, decide_true, decide_false, reduceCtorEq, Int.reduceLT, Int.reduceNeg, rvN, Nat.reduceLT, Int.reduceLE, Int.reduceEq, eq_self, List.reduceReplicate, rvF, rvG, e42, e33, Try.f42, VBook.c, VBookWatch.c, VBookNews.c, c1, c2, h0, c3, c4]
  rw [for_block b.history (fun i (acc : List VBookChange) => ⟨8, [(2, .val 0 false [.p (.int .i64 most)]), (3, .box 1 1 (b.c .shr)), (4, .box 2 2 w.c), (6, .box 3 3 (nilN.c .own)), (7, .box 4 4 ((⟨0, acc, b.now⟩ : VBookNews).c .own)), (40, .val 5 false [.sl .shr 9 (b.history.map (VBookChange.c .shr))]), (41, .val 6 false [.p (.int .i64 b.history.length)]), (42, .val 7 false [.p (.int .i64 i)])]⟩) (fun i acc => acc.length ≤ i)
    (fun r i acc => .norm ⟨2, [(6, .box 0 0 (nilN.c .own)), (7, .box 1 1 ((⟨0, (nxt w most r acc).1, (nxt w most r acc).2.getD b.now⟩ : VBookNews).c .own))]⟩) ?_ ?_ (a := []) (Nat.zero_le _) (by simp only [rv0, rv1, rvE, rvH, rvS, rvI, eT, eQ, ↓reduceIte, Nat.reduceEqDiff, Nat.reduceAdd, Nat.reduceSub, Nat.reduceMul, Nat.reduceLeDiff, Nat.reduceBEq, decide_true, decide_false, reduceCtorEq, Int.reduceLT, Int.reduceNeg, rvN, Nat.reduceLT, Int.reduceLE, Int.reduceEq, eq_self, List.reduceReplicate, rvF, rvG, e42, VBook.c, VBookWatch.c, VBookNews.c, nilN, List.map_nil]; rfl)]
  · simp only [rv0, rv1, rvE, rvH, rvS, rvI, eT, eQ, ↓reduceIte, Nat.reduceEqDiff, Nat.reduceAdd, Nat.reduceSub, Nat.reduceMul, Nat.reduceLeDiff, Nat.reduceBEq, decide_true, decide_false, reduceCtorEq, Int.reduceLT, Int.reduceNeg, rvN, Nat.reduceLT, Int.reduceLE, Int.reduceEq, eq_self, List.reduceReplicate, rvF, rvG, e42, VBookNews.c, nilN, rowsBookChange, List.map_nil]
  · intro i x r acc hd hi hacc
    have hlen := (List.getElem?_eq_some_iff.1 hi).1
    have hlt : ((i : Int) < (b.history.length : Int)) := by omega
    have hr := getElem?_map_some (f := VBookChange.c .shr) hi
    have hi0 : (0 : Int) ≤ (i : Int) := by omega
    have hwi := wrap64 (n := (i : Int) + 1) (by omega) (by omega)
    have hxl := change_le hw (List.mem_of_getElem? hi)
    have h1 := k84 x.object w.kind w.prefix_
    have h2 := k61 x.object hxl
    simp only [VBookObject.c, VBookChange.c] at h1 h2 hr
    by_cases d1 : x.version ≤ w.from_
    · left
      have hn : nxt w most (x :: r) acc = nxt w most r acc := by
        rw [nxt, if_neg]; unfold passB; rw [decide_eq_true d1]; simp
      refine ⟨acc, ?_, by omega, by rw [hn]⟩
      simp only [rv0, rv1, rvE, rvH, rvS, rvI, eT, eQ, ↓reduceIte, Nat.reduceEqDiff, Nat.reduceAdd, Nat.reduceSub, Nat.reduceMul, Nat.reduceLeDiff, Nat.reduceBEq, decide_true, decide_false, reduceCtorEq, Int.reduceLT, Int.reduceNeg, rvN, Nat.reduceLT, Int.reduceLE, Int.reduceEq, eq_self, List.reduceReplicate, rvF, rvG, e42, VBook.c, VBookWatch.c, VBookNews.c, VBookChange.c, VBookObject.c, nilN, List.map_nil, hlt, hr, hi0, hwi, d1, i64c]
    cases d2 : looksB w.kind w.prefix_ x.object
    · left
      have hn : nxt w most (x :: r) acc = nxt w most r acc := by
        rw [nxt, if_neg]; unfold passB; rw [d2]; simp
      refine ⟨acc, ?_, by omega, by rw [hn]⟩
      rw [d2] at h1
      simp only [rv0, rv1, rvE, rvH, rvS, rvI, eT, eQ, ↓reduceIte, Nat.reduceEqDiff, Nat.reduceAdd, Nat.reduceSub, Nat.reduceMul, Nat.reduceLeDiff, Nat.reduceBEq, decide_true, decide_false, reduceCtorEq, Int.reduceLT, Int.reduceNeg, rvN, Nat.reduceLT, Int.reduceLE, Int.reduceEq, eq_self, List.reduceReplicate, rvF, rvG, e42, e84, VBook.c, VBookWatch.c, VBookNews.c, VBookChange.c, VBookObject.c, nilN, List.map_nil, hlt, hr, hi0, hwi, d1, h1, i64c]
    rw [d2] at h1
    have hp : passB w x = true := by unfold passB; rw [decide_eq_false d1, d2]; rfl
    by_cases d3 : (acc.length : Int) = most
    · have hn : nxt w most (x :: r) acc = (acc, some (lastV acc)) := by rw [nxt, if_pos hp, if_pos d3]
      have hz : acc[acc.length - 1]? = some (acc[acc.length - 1]'(by omega)) := List.getElem?_eq_getElem (by omega)
      have hv : lastV acc = (acc[acc.length - 1]'(by omega)).version := by unfold lastV; rw [hz]
      generalize acc[acc.length - 1]'(by omega) = z at hz hv
      have hrz := getElem?_map_some (f := VBookChange.c .own) hz
      have hwm : IntKind.i64.wrap (most - 1) = ((acc.length - 1 : Nat) : Int) := by rw [wrap64 (by omega) (by omega)]; omega
      have hm0 : (0 : Int) ≤ ((acc.length - 1 : Nat) : Int) := by omega
      have hm1 : acc.length - 1 < acc.length := by omega
      simp only [VBookChange.c] at hrz
      right
      rw [hn, hv]
      simp only [Option.getD_some]
      simp only [rv0, rv1, rvE, rvH, rvS, rvI, eT, eQ, ↓reduceIte, Nat.reduceEqDiff, Nat.reduceAdd, Nat.reduceSub, Nat.reduceMul, Nat.reduceLeDiff, Nat.reduceBEq, decide_true, decide_false, reduceCtorEq, Int.reduceLT, Int.reduceNeg, rvN, Nat.reduceLT, Int.reduceLE, Int.reduceEq, eq_self, List.reduceReplicate, rvF, rvG, e42, e84, VBook.c, VBookWatch.c, VBookNews.c, VBookChange.c, VBookObject.c, nilN, List.map_nil, hlt, hr, hi0, d1, h1, d3, hwm, hm0, hm1, hrz, rowsBookChange, rowsBookObject, rowsString]
    · left
      have hn : nxt w most (x :: r) acc = nxt w most r (acc ++ [x]) := by rw [nxt, if_pos hp, if_neg d3]
      refine ⟨acc ++ [x], ?_, by rw [List.length_append]; simp; omega, by rw [hn]⟩
      have hL : acc.length + 1 < 4294967296 := by omega
      simp only [rv0, rv1, rvE, rvH, rvS, rvI, eT, eQ, ↓reduceIte, Nat.reduceEqDiff, Nat.reduceAdd, Nat.reduceSub, Nat.reduceMul, Nat.reduceLeDiff, Nat.reduceBEq, decide_true, decide_false, reduceCtorEq, Int.reduceLT, Int.reduceNeg, rvN, Nat.reduceLT, Int.reduceLE, Int.reduceEq, eq_self, List.reduceReplicate, rvF, rvG, e42, e84, e61, VBook.c, VBookWatch.c, VBookNews.c, VBookChange.c, VBookObject.c, nilN, List.map_nil, hlt, hr, hi0, hwi, d1, h1, h2, d3, hL, LIM, rowsBookChange, rowsBookObject, rowsString, List.map_append, List.map_cons, i64c]
  · intro a _
    simp only [rv0, rv1, rvE, rvH, rvS, rvI, eT, eQ, ↓reduceIte, Nat.reduceEqDiff, Nat.reduceAdd, Nat.reduceSub, Nat.reduceMul, Nat.reduceLeDiff, Nat.reduceBEq, decide_true, decide_false, reduceCtorEq, Int.reduceLT, Int.reduceNeg, rvN, Nat.reduceLT, Int.reduceLE, Int.reduceEq, eq_self, List.reduceReplicate, rvF, rvG, e42, VBook.c, VBookWatch.c, VBookNews.c, nxt, nilN, Option.getD_none]
end Go.Proofs.Ytdjapblnmkghoaa

