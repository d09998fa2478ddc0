/- FnExactRecNewWorld: what the functions compute. -/
import Derived.Test.YtndcljdmopigeaaN2
import Derived.Test.YtndcljdmopigeaaM2w
namespace Go.Proofs.Ytndcljdmopigeaa
open Go.Sx
set_option maxRecDepth 100000
set_option linter.unusedVariables false
set_option linter.unusedSimpArgs false
def recs (n : Int) : Nat → List VRecorder
  | 0 => []
  | j + 1 => recs n j ++ [newRec ((j : Int) + 1) n]
theorem recs_length (n : Int) : ∀ j, (recs n j).length = j
  | 0 => rfl
  | j + 1 => by simp [recs, recs_length n j]
def newWorld (n : Int) : VRecWorld := if inR n 1 5 = true then ⟨recs n n.toNat, [], []⟩ else ⟨[], [], []⟩
theorem inR_of {n lo hi : Int} (h : inR n lo hi = true) : lo ≤ n ∧ n ≤ hi := by
  unfold inR at h
  simpa using h
theorem k20 (n : Int) : EV Try.prog E 20 [.val 0 false [.p (.int .i64 n)]] = some ⟨[(true, VRecWorld.c .own (newWorld n))], []⟩ := by
  refine EV_intro Try.func20 rfl ?_
  have h1 := k40 n 1 5
  unfold newWorld
  cases d1 : inR n 1 5
  · simp only [rv0, rv1, rv2, rv3, rv4, rv5, rv6, rv7, rv8, rv9, rv10, rvE, rvH, eT, List.length_cons, List.length_nil, List.tail_nil, List.tail_cons, List.contains_cons, List.contains_nil, Bool.false_or, Bool.or_false, Bool.true_or, Bool.or_true, Bool.and_true, Bool.true_and, Bool.and_false, Bool.false_and, Bool.not_true, Bool.not_false, ↓reduceIte, Nat.reduceEqDiff, Nat.reduceAdd, Nat.reduceSub, Nat.reduceMul, Nat.reduceLeDiff, Nat.reduceBEq, decide_true, decide_false, reduceCtorEq, Int.reduceLT, Int.reduceNeg, Option.isSome_some, Option.isSome_none, List.length_map, Bool.false_eq_true, List.nil_append, List.append_nil, List.cons_append, Int.toNat_natCast, rvN, Nat.reduceLT, Int.reduceLE, Int.reduceEq, Nat.zero_add, Option.bind_some, eq_self, Nat.add_zero, List.reduceReplicate, List.flatten_cons, List.flatten_nil, List.take_succ_cons, List.take_zero, List.take_nil, List.drop_succ_cons, List.drop_zero, List.drop_nil, Int.lt_irrefl, rvF, rvG, List.isEmpty_nil, List.isEmpty_cons, e20, e40, Try.f20, h1, d1, VRecWorld.c, List.map_nil]
  · obtain ⟨hlo, hhi⟩ := inR_of d1
    simp only [rv0, rv1, rv2, rv3, rv4, rv5, rv6, rv7, rv8, rv9, rv10, rvE, rvH, eT, List.length_cons, List.length_nil, List.tail_nil, List.tail_cons, List.contains_cons, List.contains_nil, Bool.false_or, Bool.or_false, Bool.true_or, Bool.or_true, Bool.and_true, Bool.true_and, Bool.and_false, Bool.false_and, Bool.not_true, Bool.not_false, ↓reduceIte, Nat.reduceEqDiff, Nat.reduceAdd, Nat.reduceSub, Nat.reduceMul, Nat.reduceLeDiff, Nat.reduceBEq, decide_true, decide_false, reduceCtorEq, Int.reduceLT, Int.reduceNeg, Option.isSome_some, Option.isSome_none, List.length_map, Bool.false_eq_true, List.nil_append, List.append_nil, List.cons_append, Int.toNat_natCast, rvN, Nat.reduceLT, Int.reduceLE, Int.reduceEq, Nat.zero_add, Option.bind_some, eq_self, Nat.add_zero, List.reduceReplicate, List.flatten_cons, List.flatten_nil, List.take_succ_cons, List.take_zero, List.take_nil, List.drop_succ_cons, List.drop_zero, List.drop_nil, Int.lt_irrefl, rvF, rvG, List.isEmpty_nil, List.isEmpty_cons, e20, e40, Try.f20, h1, d1, VRecWorld.c, List.map_nil]
    rw [while_block (fun (j : Nat) => ⟨4, [(0, .val 0 false [.p (.int .i64 n)]), (2, .box 1 1 [.sl .own 18 [], .sl .own 8 [], .sl .own 2 []]), (3, .box 2 2 [.sl .own 18 ((recs n j).map (VRecorder.c .own)), .sl .own 8 [], .sl .own 2 []]), (4, .val 3 false [.p (.int .i64 ((j : Int) + 1))])]⟩)
      (fun j => (j : Int) ≤ n) (fun j => .norm ⟨2, [(2, .box 0 0 [.sl .own 18 [], .sl .own 8 [], .sl .own 2 []]), (3, .box 1 1 [.sl .own 18 ((recs n n.toNat).map (VRecorder.c .own)), .sl .own 8 [], .sl .own 2 []])]⟩) (fun j => 5 - j) ?_ (i := 0) (by omega) (by simp only [rv0, rv1, rv2, rv3, rv4, rv5, rv6, rv7, rv8, rv9, rv10, rvE, rvH, eT, List.length_cons, List.length_nil, List.tail_nil, List.tail_cons, List.contains_cons, List.contains_nil, Bool.false_or, Bool.or_false, Bool.true_or, Bool.or_true, Bool.and_true, Bool.true_and, Bool.and_false, Bool.false_and, Bool.not_true, Bool.not_false, ↓reduceIte, Nat.reduceEqDiff, Nat.reduceAdd, Nat.reduceSub, Nat.reduceMul, Nat.reduceLeDiff, Nat.reduceBEq, decide_true, decide_false, reduceCtorEq, Int.reduceLT, Int.reduceNeg, Option.isSome_some, Option.isSome_none, List.length_map, Bool.false_eq_true, List.nil_append, List.append_nil, List.cons_append, Int.toNat_natCast, rvN, Nat.reduceLT, Int.reduceLE, Int.reduceEq, Nat.zero_add, Option.bind_some, eq_self, Nat.add_zero, List.reduceReplicate, List.flatten_cons, List.flatten_nil, List.take_succ_cons, List.take_zero, List.take_nil, List.drop_succ_cons, List.drop_zero, List.drop_nil, Int.lt_irrefl, rvF, rvG, List.isEmpty_nil, List.isEmpty_cons, e20, recs, List.map_nil]; rfl)]
    · simp only [rv0, rv1, rv2, rv3, rv4, rv5, rv6, rv7, rv8, rv9, rv10, rvE, rvH, eT, List.length_cons, List.length_nil, List.tail_nil, List.tail_cons, List.contains_cons, List.contains_nil, Bool.false_or, Bool.or_false, Bool.true_or, Bool.or_true, Bool.and_true, Bool.true_and, Bool.and_false, Bool.false_and, Bool.not_true, Bool.not_false, ↓reduceIte, Nat.reduceEqDiff, Nat.reduceAdd, Nat.reduceSub, Nat.reduceMul, Nat.reduceLeDiff, Nat.reduceBEq, decide_true, decide_false, reduceCtorEq, Int.reduceLT, Int.reduceNeg, Option.isSome_some, Option.isSome_none, List.length_map, Bool.false_eq_true, List.nil_append, List.append_nil, List.cons_append, Int.toNat_natCast, rvN, Nat.reduceLT, Int.reduceLE, Int.reduceEq, Nat.zero_add, Option.bind_some, eq_self, Nat.add_zero, List.reduceReplicate, List.flatten_cons, List.flatten_nil, List.take_succ_cons, List.take_zero, List.take_nil, List.drop_succ_cons, List.drop_zero, List.drop_nil, Int.lt_irrefl, rvF, rvG, List.isEmpty_nil, List.isEmpty_cons, e20, rowsRecorder]
    · intro j hj
      have hw1 := wrap64 (n := (j : Int) + 1 + 1) (by omega) (by omega)
      by_cases hc : (j : Int) + 1 ≤ n
      · left
        have h2 := k11 ((j : Int) + 1) n
        have hl : (recs n j).length + 1 < 4294967296 := by rw [recs_length]; omega
        have he : ((recs n (j + 1)).map (VRecorder.c .own)) = (recs n j).map (VRecorder.c .own) ++ [VRecorder.c .own (newRec ((j : Int) + 1) n)] := by simp [recs]
        refine ⟨j + 1, ?_, by omega, by omega, rfl⟩
        rw [he]
        generalize newRec ((j : Int) + 1) n = y at *
        simp only [VRecorder.c] at h2
        simp only [rv0, rv1, rv2, rv3, rv4, rv5, rv6, rv7, rv8, rv9, rv10, rvE, rvH, eT, List.length_cons, List.length_nil, List.tail_nil, List.tail_cons, List.contains_cons, List.contains_nil, Bool.false_or, Bool.or_false, Bool.true_or, Bool.or_true, Bool.and_true, Bool.true_and, Bool.and_false, Bool.false_and, Bool.not_true, Bool.not_false, ↓reduceIte, Nat.reduceEqDiff, Nat.reduceAdd, Nat.reduceSub, Nat.reduceMul, Nat.reduceLeDiff, Nat.reduceBEq, decide_true, decide_false, reduceCtorEq, Int.reduceLT, Int.reduceNeg, Option.isSome_some, Option.isSome_none, List.length_map, Bool.false_eq_true, List.nil_append, List.append_nil, List.cons_append, Int.toNat_natCast, rvN, Nat.reduceLT, Int.reduceLE, Int.reduceEq, Nat.zero_add, Option.bind_some, eq_self, Nat.add_zero, List.reduceReplicate, List.flatten_cons, List.flatten_nil, List.take_succ_cons, List.take_zero, List.take_nil, List.drop_succ_cons, List.drop_zero, List.drop_nil, Int.lt_irrefl, rvF, rvG, List.isEmpty_nil, List.isEmpty_cons, e20, e11, hc, hw1, h2, hl, LIM, i64c, rowsRecorder, VRecorder.c, rowsRecSlot, rowsRecMessage, rowsString, rowsInt, rowsRecAck]
      · right
        have : j = n.toNat := by omega
        subst this
        simp only [rv0, rv1, rv2, rv3, rv4, rv5, rv6, rv7, rv8, rv9, rv10, rvE, rvH, eT, List.length_cons, List.length_nil, List.tail_nil, List.tail_cons, List.contains_cons, List.contains_nil, Bool.false_or, Bool.or_false, Bool.true_or, Bool.or_true, Bool.and_true, Bool.true_and, Bool.and_false, Bool.false_and, Bool.not_true, Bool.not_false, ↓reduceIte, Nat.reduceEqDiff, Nat.reduceAdd, Nat.reduceSub, Nat.reduceMul, Nat.reduceLeDiff, Nat.reduceBEq, decide_true, decide_false, reduceCtorEq, Int.reduceLT, Int.reduceNeg, Option.isSome_some, Option.isSome_none, List.length_map, Bool.false_eq_true, List.nil_append, List.append_nil, List.cons_append, Int.toNat_natCast, rvN, Nat.reduceLT, Int.reduceLE, Int.reduceEq, Nat.zero_add, Option.bind_some, eq_self, Nat.add_zero, List.reduceReplicate, List.flatten_cons, List.flatten_nil, List.take_succ_cons, List.take_zero, List.take_nil, List.drop_succ_cons, List.drop_zero, List.drop_nil, Int.lt_irrefl, rvF, rvG, List.isEmpty_nil, List.isEmpty_cons, e20, hc]
theorem k21 (n : Int) : EV Try.prog E 21 [.val 0 false [.p (.int .i64 n)]] = some ⟨[(true, VRecWorld.c .own (newWorld n))], []⟩ := by
  refine EV_intro Try.func21 rfl ?_
  have h1 := k41 n 1 5
  unfold newWorld
  cases d1 : inR n 1 5
  · simp only [rv0, rv1, rv2, rv3, rv4, rv5, rv6, rv7, rv8, rv9, rv10, rvE, rvH, eT, List.length_cons, List.length_nil, List.tail_nil, List.tail_cons, List.contains_cons, List.contains_nil, Bool.false_or, Bool.or_false, Bool.true_or, Bool.or_true, Bool.and_true, Bool.true_and, Bool.and_false, Bool.false_and, Bool.not_true, Bool.not_false, ↓reduceIte, Nat.reduceEqDiff, Nat.reduceAdd, Nat.reduceSub, Nat.reduceMul, Nat.reduceLeDiff, Nat.reduceBEq, decide_true, decide_false, reduceCtorEq, Int.reduceLT, Int.reduceNeg, Option.isSome_some, Option.isSome_none, List.length_map, Bool.false_eq_true, List.nil_append, List.append_nil, List.cons_append, Int.toNat_natCast, rvN, Nat.reduceLT, Int.reduceLE, Int.reduceEq, Nat.zero_add, Option.bind_some, eq_self, Nat.add_zero, List.reduceReplicate, List.flatten_cons, List.flatten_nil, List.take_succ_cons, List.take_zero, List.take_nil, List.drop_succ_cons, List.drop_zero, List.drop_nil, Int.lt_irrefl, rvF, rvG, List.isEmpty_nil, List.isEmpty_cons, e21, e41, Try.f21, h1, d1, VRecWorld.c, List.map_nil]
  · obtain ⟨hlo, hhi⟩ := inR_of d1
    simp only [rv0, rv1, rv2, rv3, rv4, rv5, rv6, rv7, rv8, rv9, rv10, rvE, rvH, eT, List.length_cons, List.length_nil, List.tail_nil, List.tail_cons, List.contains_cons, List.contains_nil, Bool.false_or, Bool.or_false, Bool.true_or, Bool.or_true, Bool.and_true, Bool.true_and, Bool.and_false, Bool.false_and, Bool.not_true, Bool.not_false, ↓reduceIte, Nat.reduceEqDiff, Nat.reduceAdd, Nat.reduceSub, Nat.reduceMul, Nat.reduceLeDiff, Nat.reduceBEq, decide_true, decide_false, reduceCtorEq, Int.reduceLT, Int.reduceNeg, Option.isSome_some, Option.isSome_none, List.length_map, Bool.false_eq_true, List.nil_append, List.append_nil, List.cons_append, Int.toNat_natCast, rvN, Nat.reduceLT, Int.reduceLE, Int.reduceEq, Nat.zero_add, Option.bind_some, eq_self, Nat.add_zero, List.reduceReplicate, List.flatten_cons, List.flatten_nil, List.take_succ_cons, List.take_zero, List.take_nil, List.drop_succ_cons, List.drop_zero, List.drop_nil, Int.lt_irrefl, rvF, rvG, List.isEmpty_nil, List.isEmpty_cons, e21, e41, Try.f21, h1, d1, VRecWorld.c, List.map_nil]
    rw [while_block (fun (j : Nat) => ⟨4, [(0, .val 0 false [.p (.int .i64 n)]), (2, .box 1 1 [.sl .own 18 [], .sl .own 8 [], .sl .own 2 []]), (3, .box 2 2 [.sl .own 18 ((recs n j).map (VRecorder.c .own)), .sl .own 8 [], .sl .own 2 []]), (4, .val 3 false [.p (.int .i64 ((j : Int) + 1))])]⟩)
      (fun j => (j : Int) ≤ n) (fun j => .norm ⟨2, [(2, .box 0 0 [.sl .own 18 [], .sl .own 8 [], .sl .own 2 []]), (3, .box 1 1 [.sl .own 18 ((recs n n.toNat).map (VRecorder.c .own)), .sl .own 8 [], .sl .own 2 []])]⟩) (fun j => 5 - j) ?_ (i := 0) (by omega) (by simp only [rv0, rv1, rv2, rv3, rv4, rv5, rv6, rv7, rv8, rv9, rv10, rvE, rvH, eT, List.length_cons, List.length_nil, List.tail_nil, List.tail_cons, List.contains_cons, List.contains_nil, Bool.false_or, Bool.or_false, Bool.true_or, Bool.or_true, Bool.and_true, Bool.true_and, Bool.and_false, Bool.false_and, Bool.not_true, Bool.not_false, ↓reduceIte, Nat.reduceEqDiff, Nat.reduceAdd, Nat.reduceSub, Nat.reduceMul, Nat.reduceLeDiff, Nat.reduceBEq, decide_true, decide_false, reduceCtorEq, Int.reduceLT, Int.reduceNeg, Option.isSome_some, Option.isSome_none, List.length_map, Bool.false_eq_true, List.nil_append, List.append_nil, List.cons_append, Int.toNat_natCast, rvN, Nat.reduceLT, Int.reduceLE, Int.reduceEq, Nat.zero_add, Option.bind_some, eq_self, Nat.add_zero, List.reduceReplicate, List.flatten_cons, List.flatten_nil, List.take_succ_cons, List.take_zero, List.take_nil, List.drop_succ_cons, List.drop_zero, List.drop_nil, Int.lt_irrefl, rvF, rvG, List.isEmpty_nil, List.isEmpty_cons, e21, recs, List.map_nil]; rfl)]
    · simp only [rv0, rv1, rv2, rv3, rv4, rv5, rv6, rv7, rv8, rv9, rv10, rvE, rvH, eT, List.length_cons, List.length_nil, List.tail_nil, List.tail_cons, List.contains_cons, List.contains_nil, Bool.false_or, Bool.or_false, Bool.true_or, Bool.or_true, Bool.and_true, Bool.true_and, Bool.and_false, Bool.false_and, Bool.not_true, Bool.not_false, ↓reduceIte, Nat.reduceEqDiff, Nat.reduceAdd, Nat.reduceSub, Nat.reduceMul, Nat.reduceLeDiff, Nat.reduceBEq, decide_true, decide_false, reduceCtorEq, Int.reduceLT, Int.reduceNeg, Option.isSome_some, Option.isSome_none, List.length_map, Bool.false_eq_true, List.nil_append, List.append_nil, List.cons_append, Int.toNat_natCast, rvN, Nat.reduceLT, Int.reduceLE, Int.reduceEq, Nat.zero_add, Option.bind_some, eq_self, Nat.add_zero, List.reduceReplicate, List.flatten_cons, List.flatten_nil, List.take_succ_cons, List.take_zero, List.take_nil, List.drop_succ_cons, List.drop_zero, List.drop_nil, Int.lt_irrefl, rvF, rvG, List.isEmpty_nil, List.isEmpty_cons, e21, rowsRecorder]
    · intro j hj
      have hw1 := wrap64 (n := (j : Int) + 1 + 1) (by omega) (by omega)
      by_cases hc : (j : Int) + 1 ≤ n
      · left
        have h2 := k12 ((j : Int) + 1) n
        have hl : (recs n j).length + 1 < 4294967296 := by rw [recs_length]; omega
        have he : ((recs n (j + 1)).map (VRecorder.c .own)) = (recs n j).map (VRecorder.c .own) ++ [VRecorder.c .own (newRec ((j : Int) + 1) n)] := by simp [recs]
        refine ⟨j + 1, ?_, by omega, by omega, rfl⟩
        rw [he]
        generalize newRec ((j : Int) + 1) n = y at *
        simp only [VRecorder.c] at h2
        simp only [rv0, rv1, rv2, rv3, rv4, rv5, rv6, rv7, rv8, rv9, rv10, rvE, rvH, eT, List.length_cons, List.length_nil, List.tail_nil, List.tail_cons, List.contains_cons, List.contains_nil, Bool.false_or, Bool.or_false, Bool.true_or, Bool.or_true, Bool.and_true, Bool.true_and, Bool.and_false, Bool.false_and, Bool.not_true, Bool.not_false, ↓reduceIte, Nat.reduceEqDiff, Nat.reduceAdd, Nat.reduceSub, Nat.reduceMul, Nat.reduceLeDiff, Nat.reduceBEq, decide_true, decide_false, reduceCtorEq, Int.reduceLT, Int.reduceNeg, Option.isSome_some, Option.isSome_none, List.length_map, Bool.false_eq_true, List.nil_append, List.append_nil, List.cons_append, Int.toNat_natCast, rvN, Nat.reduceLT, Int.reduceLE, Int.reduceEq, Nat.zero_add, Option.bind_some, eq_self, Nat.add_zero, List.reduceReplicate, List.flatten_cons, List.flatten_nil, List.take_succ_cons, List.take_zero, List.take_nil, List.drop_succ_cons, List.drop_zero, List.drop_nil, Int.lt_irrefl, rvF, rvG, List.isEmpty_nil, List.isEmpty_cons, e21, e12, hc, hw1, h2, hl, LIM, i64c, rowsRecorder, VRecorder.c, rowsRecSlot, rowsRecMessage, rowsString, rowsInt, rowsRecAck]
      · right
        have : j = n.toNat := by omega
        subst this
        simp only [rv0, rv1, rv2, rv3, rv4, rv5, rv6, rv7, rv8, rv9, rv10, rvE, rvH, eT, List.length_cons, List.length_nil, List.tail_nil, List.tail_cons, List.contains_cons, List.contains_nil, Bool.false_or, Bool.or_false, Bool.true_or, Bool.or_true, Bool.and_true, Bool.true_and, Bool.and_false, Bool.false_and, Bool.not_true, Bool.not_false, ↓reduceIte, Nat.reduceEqDiff, Nat.reduceAdd, Nat.reduceSub, Nat.reduceMul, Nat.reduceLeDiff, Nat.reduceBEq, decide_true, decide_false, reduceCtorEq, Int.reduceLT, Int.reduceNeg, Option.isSome_some, Option.isSome_none, List.length_map, Bool.false_eq_true, List.nil_append, List.append_nil, List.cons_append, Int.toNat_natCast, rvN, Nat.reduceLT, Int.reduceLE, Int.reduceEq, Nat.zero_add, Option.bind_some, eq_self, Nat.add_zero, List.reduceReplicate, List.flatten_cons, List.flatten_nil, List.take_succ_cons, List.take_zero, List.take_nil, List.drop_succ_cons, List.drop_zero, List.drop_nil, Int.lt_irrefl, rvF, rvG, List.isEmpty_nil, List.isEmpty_cons, e21, hc]
theorem newRec_w (i n : Int) : (newRec i n).w = 0 ∧ mcRecorder (newRec i n) ≤ 100 := by
  unfold newRec
  split
  · split <;> exact ⟨by simp [VRecorder.w, VRecDisk.w, nilRec, wSRecSlot, wSRecMessage, wSString, wSRecAck, wSInt, sumWRecSlot, sumWRecMessage, sumWString, sumWRecAck], by simp [mcRecorder, nilRec, mcL]⟩
  · exact ⟨by simp [VRecorder.w, VRecDisk.w, nilRec, wSRecSlot, wSRecMessage, wSString, wSRecAck, wSInt, sumWRecSlot, sumWRecMessage, sumWString, sumWRecAck], by simp [mcRecorder, nilRec, mcL]⟩
theorem sumWRecorder_append (a b : List VRecorder) : sumWRecorder (a ++ b) = sumWRecorder a + sumWRecorder b := by
  induction a with
  | nil => simp [sumWRecorder]
  | cons x r ih => simp only [List.cons_append, sumWRecorder, ih]; omega
theorem recs_w (n : Int) : ∀ j, sumWRecorder (recs n j) = 0 ∧ mcL mcRecorder (recs n j) ≤ 100 * j
  | 0 => ⟨rfl, by simp [recs, mcL]⟩
  | j + 1 => by
    obtain ⟨h1, h2⟩ := recs_w n j
    obtain ⟨h3, h4⟩ := newRec_w ((j : Int) + 1) n
    simp only [recs, sumWRecorder_append, mcL_append, sumWRecorder, mcL]
    omega
theorem newWorld_w (n : Int) : (newWorld n).w ≤ 4194304 ∧ ocRecWorld (newWorld n) ≤ 1000 := by
  unfold newWorld
  cases d1 : inR n 1 5
  · exact ⟨by simp [VRecWorld.w, wSRecorder, wSRecMessage, wSRecFix, sumWRecorder, sumWRecMessage, sumWRecFix], by simp [ocRecWorld, mcL]⟩
  · obtain ⟨hlo, hhi⟩ := inR_of d1
    have h := recs_w n n.toNat
    have hl := recs_length n n.toNat
    simp only [VRecWorld.w, ocRecWorld, wSRecorder, wSRecMessage, wSRecFix, sumWRecMessage, sumWRecFix, if_true, List.length_nil, hl, h.1, mcL]
    omega
theorem k5 (n : Int) (_ : i64ok n) : EV Try.prog E 5 [.val 0 false [.p (.int .i64 n)]] = some ⟨[(false, [.p (.bool true)])], []⟩ := by
  refine EV_intro Try.func5 rfl ?_
  have h20 := k20 n
  have h21 := k21 n
  obtain ⟨hw, hoc⟩ := newWorld_w n
  generalize newWorld n = x at *
  have h22 := k_eqRecWorld x hw
  have h23 := k_markRecWorld x 1 (by omega) (by omega)
  have h24 := k_heldRecWorld x 1 (by omega) (by omega)
  have hn : ¬ (1 + (ocRecWorld x : Int) < 0) := by omega
  simp only [VRecWorld.c, moRecWorld] at h20 h21 h22 h23 h24
  simp only [rv0, rv1, rv2, rv3, rv4, rv5, rv6, rv7, rv8, rv9, rv10, rvE, rvH, eT, List.length_cons, List.length_nil, List.tail_nil, List.tail_cons, List.contains_cons, List.contains_nil, Bool.false_or, Bool.or_false, Bool.true_or, Bool.or_true, Bool.and_true, Bool.true_and, Bool.and_false, Bool.false_and, Bool.not_true, Bool.not_false, ↓reduceIte, Nat.reduceEqDiff, Nat.reduceAdd, Nat.reduceSub, Nat.reduceMul, Nat.reduceLeDiff, Nat.reduceBEq, decide_true, decide_false, reduceCtorEq, Int.reduceLT, Int.reduceNeg, Option.isSome_some, Option.isSome_none, List.length_map, Bool.false_eq_true, List.nil_append, List.append_nil, List.cons_append, Int.toNat_natCast, rvN, Nat.reduceLT, Int.reduceLE, Int.reduceEq, Nat.zero_add, Option.bind_some, eq_self, Nat.add_zero, List.reduceReplicate, List.flatten_cons, List.flatten_nil, List.take_succ_cons, List.take_zero, List.take_nil, List.drop_succ_cons, List.drop_zero, List.drop_nil, Int.lt_irrefl, rvF, rvG, List.isEmpty_nil, List.isEmpty_cons, e5, e20, e21, e22, e23, e24, Try.f5, h20, h21, h22, h23, h24, hn, VRecWorld.c, rowsRecorder, rowsRecMessage, rowsRecFix, beq_self_eq_true]
end Go.Proofs.Ytndcljdmopigeaa
