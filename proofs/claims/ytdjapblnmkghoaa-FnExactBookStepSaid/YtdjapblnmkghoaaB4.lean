/- Lists of a book's objects: what the functions compute. -/
import Derived.Test.YtdjapblnmkghoaaV3k
namespace Go.Proofs.Ytdjapblnmkghoaa
open Go.Sx
set_option maxRecDepth 100000
set_option maxHeartbeats 4000000
set_option linter.unusedVariables false
set_option linter.unusedSimpArgs false
theorem kS (b : VBook) (hw : b.w ≤ 4194304) : EV Try.prog E 32 [.val 0 true (b.c .shr)] = some ⟨[(false, [.p (.bool (implB b))])], []⟩ := by
  rw [k32 b hw, valid_eq]
def preB (n p : ByteArray) : Bool := decide ((p.size : Int) ≤ (n.size : Int)) && decide (n.extract 0 p.size = p)
def looksB (k p : ByteArray) (o : VBookObject) : Bool := (decide (k = ⟨#[]⟩) || decide (o.kind = k)) && preB o.name p
theorem k123 (n p : ByteArray) : EV Try.prog E 123 [.val 0 false [.p (.string n)], .val 0 false [.p (.string p)]] = some ⟨[(false, [.p (.bool (preB n p))])], []⟩ := by
  refine EV_intro Try.func123 rfl ?_
  unfold preB
  by_cases h : (p.size : Int) ≤ (n.size : Int)
  · have h2 : p.size ≤ n.size := by omega
    have h3 : (0 : Int) ≤ (p.size : Int) := by omega
    simp only [rv0, rv1, rvE, rvH, rvS, rvI, eT, eQ, ↓reduceIte, Nat.reduceEqDiff, Nat.reduceAdd, Nat.reduceSub, Nat.reduceMul, Nat.reduceLeDiff, Nat.reduceBEq, decide_true, decide_false, reduceCtorEq, Int.reduceLT, Int.reduceNeg, rvN, Nat.reduceLT, Int.reduceLE, Int.reduceEq, eq_self, List.reduceReplicate, rvF, rvG, e123, Try.f123, h, h2, h3, Nat.zero_le]
  · simp only [rv0, rv1, rvE, rvH, rvS, rvI, eT, eQ, ↓reduceIte, Nat.reduceEqDiff, Nat.reduceAdd, Nat.reduceSub, Nat.reduceMul, Nat.reduceLeDiff, Nat.reduceBEq, decide_true, decide_false, reduceCtorEq, Int.reduceLT, Int.reduceNeg, rvN, Nat.reduceLT, Int.reduceLE, Int.reduceEq, eq_self, List.reduceReplicate, rvF, rvG, e123, Try.f123, h]
theorem k117 (n p : ByteArray) : EV Try.prog E 117 [.val 0 false [.p (.string n)], .val 0 false [.p (.string p)]] = some ⟨[(false, [.p (.bool (preB n p))])], []⟩ := by
  refine EV_intro Try.func117 rfl ?_
  have h := k123 n p
  simp only [rv0, rv1, rvE, rvH, rvS, rvI, eT, eQ, ↓reduceIte, Nat.reduceEqDiff, Nat.reduceAdd, Nat.reduceSub, Nat.reduceMul, Nat.reduceLeDiff, Nat.reduceBEq, decide_true, decide_false, reduceCtorEq, Int.reduceLT, Int.reduceNeg, rvN, Nat.reduceLT, Int.reduceLE, Int.reduceEq, eq_self, List.reduceReplicate, rvF, rvG, e117, e123, Try.f117, h]
theorem k84 (o : VBookObject) (k p : ByteArray) : EV Try.prog E 84 [.val 0 true (VBookObject.c .shr o), .val 0 false [.p (.string k)], .val 0 false [.p (.string p)]] = some ⟨[(false, [.p (.bool (looksB k p o))])], []⟩ := by
  refine EV_intro Try.func84 rfl ?_
  have h := k117 o.name p
  unfold looksB
  by_cases c1 : k = ⟨#[]⟩
  · have c1' := eq_true c1
    simp only [rv0, rv1, rvE, rvH, rvS, rvI, eT, eQ, ↓reduceIte, Nat.reduceEqDiff, Nat.reduceAdd, Nat.reduceSub, Nat.reduceMul, Nat.reduceLeDiff, Nat.reduceBEq, decide_true, decide_false, reduceCtorEq, Int.reduceLT, Int.reduceNeg, rvN, Nat.reduceLT, Int.reduceLE, Int.reduceEq, eq_self, List.reduceReplicate, rvF, rvG, e84, e117, Try.f84, VBookObject.c, c1', h]
  by_cases c2 : o.kind = k
  · have c2' := eq_true c2
    simp only [rv0, rv1, rvE, rvH, rvS, rvI, eT, eQ, ↓reduceIte, Nat.reduceEqDiff, Nat.reduceAdd, Nat.reduceSub, Nat.reduceMul, Nat.reduceLeDiff, Nat.reduceBEq, decide_true, decide_false, reduceCtorEq, Int.reduceLT, Int.reduceNeg, rvN, Nat.reduceLT, Int.reduceLE, Int.reduceEq, eq_self, List.reduceReplicate, rvF, rvG, e84, e117, Try.f84, VBookObject.c, c1, c2', h]
  · simp only [rv0, rv1, rvE, rvH, rvS, rvI, eT, eQ, ↓reduceIte, Nat.reduceEqDiff, Nat.reduceAdd, Nat.reduceSub, Nat.reduceMul, Nat.reduceLeDiff, Nat.reduceBEq, decide_true, decide_false, reduceCtorEq, Int.reduceLT, Int.reduceNeg, rvN, Nat.reduceLT, Int.reduceLE, Int.reduceEq, eq_self, List.reduceReplicate, rvF, rvG, e84, e117, Try.f84, VBookObject.c, c1, c2, h]
theorem k116 (o : VBookObject) (k p : ByteArray) : EV Try.prog E 116 [.val 0 true (VBookObject.c .shr o), .val 0 false [.p (.string k)], .val 0 false [.p (.string p)]] = some ⟨[(false, [.p (.bool (looksB k p o))])], []⟩ := by
  refine EV_intro Try.func116 rfl ?_
  unfold looksB preB
  by_cases h : (p.size : Int) ≤ (o.name.size : Int)
  · have h2 : p.size ≤ o.name.size := by omega
    have h3 : (0 : Int) ≤ (p.size : Int) := by omega
    by_cases c1 : k = ⟨#[]⟩
    · have c1' := eq_true c1
      simp only [rv0, rv1, rvE, rvH, rvS, rvI, eT, eQ, ↓reduceIte, Nat.reduceEqDiff, Nat.reduceAdd, Nat.reduceSub, Nat.reduceMul, Nat.reduceLeDiff, Nat.reduceBEq, decide_true, decide_false, reduceCtorEq, Int.reduceLT, Int.reduceNeg, rvN, Nat.reduceLT, Int.reduceLE, Int.reduceEq, eq_self, List.reduceReplicate, rvF, rvG, e116, Try.f116, VBookObject.c, c1', h, h2, h3, Nat.zero_le]
    by_cases c2 : o.kind = k
    · have c2' := eq_true c2
      simp only [rv0, rv1, rvE, rvH, rvS, rvI, eT, eQ, ↓reduceIte, Nat.reduceEqDiff, Nat.reduceAdd, Nat.reduceSub, Nat.reduceMul, Nat.reduceLeDiff, Nat.reduceBEq, decide_true, decide_false, reduceCtorEq, Int.reduceLT, Int.reduceNeg, rvN, Nat.reduceLT, Int.reduceLE, Int.reduceEq, eq_self, List.reduceReplicate, rvF, rvG, e116, Try.f116, VBookObject.c, c1, c2', h, h2, h3, Nat.zero_le]
    · simp only [rv0, rv1, rvE, rvH, rvS, rvI, eT, eQ, ↓reduceIte, Nat.reduceEqDiff, Nat.reduceAdd, Nat.reduceSub, Nat.reduceMul, Nat.reduceLeDiff, Nat.reduceBEq, decide_true, decide_false, reduceCtorEq, Int.reduceLT, Int.reduceNeg, rvN, Nat.reduceLT, Int.reduceLE, Int.reduceEq, eq_self, List.reduceReplicate, rvF, rvG, e116, Try.f116, VBookObject.c, c1, c2, h]
  · by_cases c1 : k = ⟨#[]⟩
    · have c1' := eq_true c1
      simp only [rv0, rv1, rvE, rvH, rvS, rvI, eT, eQ, ↓reduceIte, Nat.reduceEqDiff, Nat.reduceAdd, Nat.reduceSub, Nat.reduceMul, Nat.reduceLeDiff, Nat.reduceBEq, decide_true, decide_false, reduceCtorEq, Int.reduceLT, Int.reduceNeg, rvN, Nat.reduceLT, Int.reduceLE, Int.reduceEq, eq_self, List.reduceReplicate, rvF, rvG, e116, Try.f116, VBookObject.c, c1', h]
    by_cases c2 : o.kind = k
    · have c2' := eq_true c2
      simp only [rv0, rv1, rvE, rvH, rvS, rvI, eT, eQ, ↓reduceIte, Nat.reduceEqDiff, Nat.reduceAdd, Nat.reduceSub, Nat.reduceMul, Nat.reduceLeDiff, Nat.reduceBEq, decide_true, decide_false, reduceCtorEq, Int.reduceLT, Int.reduceNeg, rvN, Nat.reduceLT, Int.reduceLE, Int.reduceEq, eq_self, List.reduceReplicate, rvF, rvG, e116, Try.f116, VBookObject.c, c1, c2', h]
    · simp only [rv0, rv1, rvE, rvH, rvS, rvI, eT, eQ, ↓reduceIte, Nat.reduceEqDiff, Nat.reduceAdd, Nat.reduceSub, Nat.reduceMul, Nat.reduceLeDiff, Nat.reduceBEq, decide_true, decide_false, reduceCtorEq, Int.reduceLT, Int.reduceNeg, rvN, Nat.reduceLT, Int.reduceLE, Int.reduceEq, eq_self, List.reduceReplicate, rvF, rvG, e116, Try.f116, VBookObject.c, c1, c2, h]
def lst (k p : ByteArray) (l : List VBookObject) : List VBookObject := l.filter (looksB k p)
theorem lst_snoc {l : List VBookObject} {i : Nat} {x : VBookObject} (k p : ByteArray) (h : l[i]? = some x) : lst k p (l.take (i + 1)) = if looksB k p x = true then lst k p (l.take i) ++ [x] else lst k p (l.take i) := by
  rw [take_snoc h, lst, List.filter_append]
  by_cases d : looksB k p x = true
  · rw [if_pos d]; simp [lst, d]
  · rw [if_neg d]; simp [lst, d]
theorem lst_len (k p : ByteArray) (l : List VBookObject) (i : Nat) : (lst k p (l.take i)).length ≤ l.length := by
  unfold lst
  exact Nat.le_trans (List.length_filter_le _ _) (by rw [List.length_take]; omega)
theorem k83 (l : List VBookObject) (k p : ByteArray) (hw : sumWBookObject l + l.length ≤ 4194304) : EV Try.prog E 83 [.val 0 false [.sl .shr 7 (l.map (VBookObject.c .shr))], .val 0 false [.p (.string k)], .val 0 false [.p (.string p)]] =
    some ⟨[(false, [.sl .own 7 ((lst k p l).map (VBookObject.c .own))])], []⟩ := by
  refine EV_intro Try.func83 rfl ?_
  simp only [rv0, rv1, rvE, rvH, rvS, rvI, eT, eQ, ↓reduceIte, Nat.reduceEqDiff, Nat.reduceAdd, Nat.reduceSub, Nat.reduceMul, Nat.reduceLeDiff, Nat.reduceBEq, decide_true, decide_false, reduceCtorEq, Int.reduceLT, Int.reduceNeg, rvN, Nat.reduceLT, Int.reduceLE, Int.reduceEq, eq_self, List.reduceReplicate, rvF, rvG, e83, Try.f83]
  rw [for_block l (fun i (_ : Unit) => ⟨5, [(0, .val 0 false [.sl .shr 7 (l.map (VBookObject.c .shr))]), (1, .val 1 false [.p (.string k)]), (2, .val 2 false [.p (.string p)]), (7, .val 3 false [.sl .own 7 ((lst k p (l.take i)).map (VBookObject.c .own))]), (8, .val 4 false [.p (.int .i64 i)])]⟩) (fun i _ => True)
    (fun r i a => .norm ⟨1, [(7, .val 0 false [.sl .own 7 ((lst k p l).map (VBookObject.c .own))])]⟩) ?_ ?_ (a := ()) trivial (by simp only [rv0, rv1, rvE, rvH, rvS, rvI, eT, eQ, ↓reduceIte, Nat.reduceEqDiff, Nat.reduceAdd, Nat.reduceSub, Nat.reduceMul, Nat.reduceLeDiff, Nat.reduceBEq, decide_true, decide_false, reduceCtorEq, Int.reduceLT, Int.reduceNeg, rvN, Nat.reduceLT, Int.reduceLE, Int.reduceEq, eq_self, List.reduceReplicate, rvF, rvG, e83, lst, List.take_zero, List.filter_nil, List.map_nil]; rfl)]
  · simp only [rv0, rv1, rvE, rvH, rvS, rvI, eT, eQ, ↓reduceIte, Nat.reduceEqDiff, Nat.reduceAdd, Nat.reduceSub, Nat.reduceMul, Nat.reduceLeDiff, Nat.reduceBEq, decide_true, decide_false, reduceCtorEq, Int.reduceLT, Int.reduceNeg, rvN, Nat.reduceLT, Int.reduceLE, Int.reduceEq, eq_self, List.reduceReplicate, rvF, rvG, e83, rowsBookObject]
  · intro i x r a hd hi _
    have hlen := (List.getElem?_eq_some_iff.1 hi).1
    have hlt : ((i : Int) < (l.length : Int)) := by omega
    have hr := getElem?_map_some (f := VBookObject.c .shr) hi
    have hi0 : (0 : Int) ≤ (i : Int) := by omega
    have hwi := wrap64 (n := (i : Int) + 1) (by omega) (by omega)
    have hxw := sum_obj_le (List.mem_of_getElem? hi)
    have hxl : x.holds.length ≤ 4194304 := holds_le (n := 4194304) (by omega)
    have h1 := k116 x k p
    have h2 := k56 x hxl
    have hll := lst_len k p l i
    have hs := lst_snoc k p hi
    simp only [VBookObject.c] at h1 h2 hr
    left
    refine ⟨(), ?_, trivial, rfl⟩
    have hL1 : (lst k p (l.take i)).length + 1 < 4294967296 := by omega
    cases d : looksB k p x
    · rw [if_neg (by rw [d]; simp)] at hs
      rw [d] at h1
      simp only [rv0, rv1, rvE, rvH, rvS, rvI, eT, eQ, ↓reduceIte, Nat.reduceEqDiff, Nat.reduceAdd, Nat.reduceSub, Nat.reduceMul, Nat.reduceLeDiff, Nat.reduceBEq, decide_true, decide_false, reduceCtorEq, Int.reduceLT, Int.reduceNeg, rvN, Nat.reduceLT, Int.reduceLE, Int.reduceEq, eq_self, List.reduceReplicate, rvF, rvG, e83, e116, e56, VBookObject.c, hlt, hr, hi0, hwi, h1, hs, i64c]
    · rw [if_pos d] at hs
      rw [d] at h1
      simp only [rv0, rv1, rvE, rvH, rvS, rvI, eT, eQ, ↓reduceIte, Nat.reduceEqDiff, Nat.reduceAdd, Nat.reduceSub, Nat.reduceMul, Nat.reduceLeDiff, Nat.reduceBEq, decide_true, decide_false, reduceCtorEq, Int.reduceLT, Int.reduceNeg, rvN, Nat.reduceLT, Int.reduceLE, Int.reduceEq, eq_self, List.reduceReplicate, rvF, rvG, e83, e116, e56, VBookObject.c, hlt, hr, hi0, hwi, h1, h2, hs, i64c, LIM, hL1, rowsBookObject, rowsString, List.map_append, List.map_cons, List.map_nil]
  · intro a _
    simp only [rv0, rv1, rvE, rvH, rvS, rvI, eT, eQ, ↓reduceIte, Nat.reduceEqDiff, Nat.reduceAdd, Nat.reduceSub, Nat.reduceMul, Nat.reduceLeDiff, Nat.reduceBEq, decide_true, decide_false, reduceCtorEq, Int.reduceLT, Int.reduceNeg, rvN, Nat.reduceLT, Int.reduceLE, Int.reduceEq, eq_self, List.reduceReplicate, rvF, rvG, e83, List.take_length]
theorem obj_sum {b : VBook} (hw : b.w ≤ 4194304) : sumWBookObject b.objects + b.objects.length ≤ 4194304 := by
  unfold VBook.w wSBookObject at hw; omega
def blist (b : VBook) (k p : ByteArray) : List VBookObject := if implB b = true then lst k p b.objects else []
def bnow (b : VBook) : Int := if implB b = true then b.now else 0
theorem k34 (b : VBook) (k p : ByteArray) (hw : b.w ≤ 4194304) : EV Try.prog E 34 [.val 0 true (b.c .shr), .val 0 false [.p (.string k)], .val 0 false [.p (.string p)]] =
    some ⟨[(false, [.sl .own 7 ((blist b k p).map (VBookObject.c .own))]), (false, [.p (.int .i64 (bnow b))])], []⟩ := by
  refine EV_intro Try.func34 rfl ?_
  have h1 := kS b hw
  have h2 := k83 b.objects k p (obj_sum hw)
  simp only [VBook.c] at h1
  unfold blist bnow
  cases d : implB b
  · rw [d] at h1
    simp only [rv0, rv1, rvE, rvH, rvS, rvI, eT, eQ, ↓reduceIte, Nat.reduceEqDiff, Nat.reduceAdd, Nat.reduceSub, Nat.reduceMul, Nat.reduceLeDiff, Nat.reduceBEq, decide_true, decide_false, reduceCtorEq, Int.reduceLT, Int.reduceNeg, rvN, Nat.reduceLT, Int.reduceLE, Int.reduceEq, eq_self, List.reduceReplicate, rvF, rvG, e34, e32, Try.f34, VBook.c, h1, List.map_nil]
  · rw [d] at h1
    simp only [rv0, rv1, rvE, rvH, rvS, rvI, eT, eQ, ↓reduceIte, Nat.reduceEqDiff, Nat.reduceAdd, Nat.reduceSub, Nat.reduceMul, Nat.reduceLeDiff, Nat.reduceBEq, decide_true, decide_false, reduceCtorEq, Int.reduceLT, Int.reduceNeg, rvN, Nat.reduceLT, Int.reduceLE, Int.reduceEq, eq_self, List.reduceReplicate, rvF, rvG, e34, e32, e83, Try.f34, VBook.c, h1, h2, rowsBookObject]
theorem k35 (b : VBook) (k p : ByteArray) (hw : b.w ≤ 4194304) : EV Try.prog E 35 [.val 0 true (b.c .shr), .val 0 false [.p (.string k)], .val 0 false [.p (.string p)]] =
    some ⟨[(false, [.sl .own 7 ((blist b k p).map (VBookObject.c .own))]), (false, [.p (.int .i64 (bnow b))])], []⟩ := by
  refine EV_intro Try.func35 rfl ?_
  have h1 := k33 b hw
  have hos := obj_sum hw
  simp only [VBook.c] at h1
  unfold blist bnow
  cases d : implB b
  · rw [d] at h1
    simp only [rv0, rv1, rvE, rvH, rvS, rvI, eT, eQ, ↓reduceIte, Nat.reduceEqDiff, Nat.reduceAdd, Nat.reduceSub, Nat.reduceMul, Nat.reduceLeDiff, Nat.reduceBEq, decide_true, decide_false, reduceCtorEq, Int.reduceLT, Int.reduceNeg, rvN, Nat.reduceLT, Int.reduceLE, Int.reduceEq, eq_self, List.reduceReplicate, rvF, rvG, e35, e33, Try.f35, VBook.c, h1, List.map_nil]
  rw [d] at h1
  simp only [rv0, rv1, rvE, rvH, rvS, rvI, eT, eQ, ↓reduceIte, Nat.reduceEqDiff, Nat.reduceAdd, Nat.reduceSub, Nat.reduceMul, Nat.reduceLeDiff, Nat.reduceBEq, decide_true, decide_false, reduceCtorEq, Int.reduceLT, Int.reduceNeg, rvN, Nat.reduceLT, Int.reduceLE, Int.reduceEq, eq_self, List.reduceReplicate, rvF, rvG, e35, e33, Try.f35, VBook.c, h1]
  rw [for_block b.objects (fun i (_ : Unit) => ⟨7, [(1, .val 0 false [.p (.string k)]), (2, .val 1 false [.p (.string p)]), (3, .box 2 2 (b.c .shr)), (8, .val 3 false [.sl .own 7 ((lst k p (b.objects.take i)).map (VBookObject.c .own))]), (15, .val 4 false [.sl .shr 7 (b.objects.map (VBookObject.c .shr))]), (16, .val 5 false [.p (.int .i64 b.objects.length)]), (17, .val 6 false [.p (.int .i64 i)])]⟩) (fun i _ => True)
    (fun r i a => .norm ⟨2, [(3, .box 0 0 (b.c .shr)), (8, .val 1 false [.sl .own 7 ((lst k p b.objects).map (VBookObject.c .own))])]⟩) ?_ ?_ (a := ()) trivial (by simp only [rv0, rv1, rvE, rvH, rvS, rvI, eT, eQ, ↓reduceIte, Nat.reduceEqDiff, Nat.reduceAdd, Nat.reduceSub, Nat.reduceMul, Nat.reduceLeDiff, Nat.reduceBEq, decide_true, decide_false, reduceCtorEq, Int.reduceLT, Int.reduceNeg, rvN, Nat.reduceLT, Int.reduceLE, Int.reduceEq, eq_self, List.reduceReplicate, rvF, rvG, e35, VBook.c, lst, List.take_zero, List.filter_nil, List.map_nil]; rfl)]
  · simp only [rv0, rv1, rvE, rvH, rvS, rvI, eT, eQ, ↓reduceIte, Nat.reduceEqDiff, Nat.reduceAdd, Nat.reduceSub, Nat.reduceMul, Nat.reduceLeDiff, Nat.reduceBEq, decide_true, decide_false, reduceCtorEq, Int.reduceLT, Int.reduceNeg, rvN, Nat.reduceLT, Int.reduceLE, Int.reduceEq, eq_self, List.reduceReplicate, rvF, rvG, e35, VBook.c, rowsBookObject]
  · intro i x r a hd hi _
    have hlen := (List.getElem?_eq_some_iff.1 hi).1
    have hlt : ((i : Int) < (b.objects.length : Int)) := by omega
    have hr := getElem?_map_some (f := VBookObject.c .shr) hi
    have hi0 : (0 : Int) ≤ (i : Int) := by omega
    have hwi := wrap64 (n := (i : Int) + 1) (by omega) (by omega)
    have hxl := object_le hw (List.mem_of_getElem? hi)
    have h2 := k84 x k p
    have h3 := k61 x hxl
    have hll := lst_len k p b.objects i
    have hs := lst_snoc k p hi
    simp only [VBookObject.c] at h2 h3 hr
    left
    refine ⟨(), ?_, trivial, rfl⟩
    have hL1 : (lst k p (b.objects.take i)).length + 1 < 4294967296 := by omega
    cases e : looksB k p x
    · rw [if_neg (by rw [e]; simp)] at hs
      rw [e] at h2
      simp only [rv0, rv1, rvE, rvH, rvS, rvI, eT, eQ, ↓reduceIte, Nat.reduceEqDiff, Nat.reduceAdd, Nat.reduceSub, Nat.reduceMul, Nat.reduceLeDiff, Nat.reduceBEq, decide_true, decide_false, reduceCtorEq, Int.reduceLT, Int.reduceNeg, rvN, Nat.reduceLT, Int.reduceLE, Int.reduceEq, eq_self, List.reduceReplicate, rvF, rvG, e35, e84, e61, VBook.c, VBookObject.c, hlt, hr, hi0, hwi, h2, hs, i64c]
    · rw [if_pos e] at hs
      rw [e] at h2
      simp only [rv0, rv1, rvE, rvH, rvS, rvI, eT, eQ, ↓reduceIte, Nat.reduceEqDiff, Nat.reduceAdd, Nat.reduceSub, Nat.reduceMul, Nat.reduceLeDiff, Nat.reduceBEq, decide_true, decide_false, reduceCtorEq, Int.reduceLT, Int.reduceNeg, rvN, Nat.reduceLT, Int.reduceLE, Int.reduceEq, eq_self, List.reduceReplicate, rvF, rvG, e35, e84, e61, VBook.c, VBookObject.c, hlt, hr, hi0, hwi, h2, h3, hs, i64c, LIM, hL1, rowsBookObject, rowsString, List.map_append, List.map_cons, List.map_nil]
  · intro a _
    simp only [rv0, rv1, rvE, rvH, rvS, rvI, eT, eQ, ↓reduceIte, Nat.reduceEqDiff, Nat.reduceAdd, Nat.reduceSub, Nat.reduceMul, Nat.reduceLeDiff, Nat.reduceBEq, decide_true, decide_false, reduceCtorEq, Int.reduceLT, Int.reduceNeg, rvN, Nat.reduceLT, Int.reduceLE, Int.reduceEq, eq_self, List.reduceReplicate, rvF, rvG, e35, VBook.c, List.take_length]
end Go.Proofs.Ytdjapblnmkghoaa

