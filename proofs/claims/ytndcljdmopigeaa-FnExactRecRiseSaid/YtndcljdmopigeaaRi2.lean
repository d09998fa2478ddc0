/- FnExactRecRise: what the functions compute. -/
import Derived.Test.YtndcljdmopigeaaR2D
import Derived.Test.YtndcljdmopigeaaM2
import Derived.Test.YtndcljdmopigeaaC2
import Derived.Test.YtndcljdmopigeaaN2
namespace Go.Proofs.Ytndcljdmopigeaa
open Go.Sx
set_option maxRecDepth 100000
set_option linter.unusedVariables false
set_option linter.unusedSimpArgs false
def rise (x : VRecorder) : VRecorder := if valid x = true then { x with up := true } else nilRec
theorem k38 (x : VRecorder) (hw : x.w ≤ 4194304) : EV Try.prog E 38 [.val 0 true (x.c .shr)] = some ⟨[(true, (rise x).c .own)], []⟩ := by
  refine EV_intro Try.func38 rfl ?_
  have h1 := k17 x hw
  have h2 := k98 x hw
  simp only [VRecorder.c] at h1 h2
  unfold rise
  cases d : valid x
  · simp only [rv0, rv1, rv2, rv3, rv4, rv5, rv6, rv7, rv8, rv9, rv10, rvE, rvH, eT, List.length_cons, List.length_nil, List.tail_nil, List.tail_cons, List.contains_cons, List.contains_nil, Bool.false_or, Bool.or_false, Bool.true_or, Bool.or_true, Bool.and_true, Bool.true_and, Bool.and_false, Bool.false_and, Bool.not_true, Bool.not_false, ↓reduceIte, Nat.reduceEqDiff, Nat.reduceAdd, Nat.reduceSub, Nat.reduceMul, Nat.reduceLeDiff, Nat.reduceBEq, decide_true, decide_false, reduceCtorEq, Int.reduceLT, Int.reduceNeg, Option.isSome_some, Option.isSome_none, List.length_map, Bool.false_eq_true, List.nil_append, List.append_nil, List.cons_append, Int.toNat_natCast, rvN, Nat.reduceLT, Int.reduceLE, Int.reduceEq, Nat.zero_add, Option.bind_some, eq_self, Nat.add_zero, List.reduceReplicate, List.flatten_cons, List.flatten_nil, List.take_succ_cons, List.take_zero, List.take_nil, List.drop_succ_cons, List.drop_zero, List.drop_nil, Int.lt_irrefl, rvF, rvG, List.isEmpty_nil, List.isEmpty_cons, e38, e17, Try.f38, VRecorder.c, h1, d, nilRec, List.map_nil]
  · simp only [rv0, rv1, rv2, rv3, rv4, rv5, rv6, rv7, rv8, rv9, rv10, rvE, rvH, eT, List.length_cons, List.length_nil, List.tail_nil, List.tail_cons, List.contains_cons, List.contains_nil, Bool.false_or, Bool.or_false, Bool.true_or, Bool.or_true, Bool.and_true, Bool.true_and, Bool.and_false, Bool.false_and, Bool.not_true, Bool.not_false, ↓reduceIte, Nat.reduceEqDiff, Nat.reduceAdd, Nat.reduceSub, Nat.reduceMul, Nat.reduceLeDiff, Nat.reduceBEq, decide_true, decide_false, reduceCtorEq, Int.reduceLT, Int.reduceNeg, Option.isSome_some, Option.isSome_none, List.length_map, Bool.false_eq_true, List.nil_append, List.append_nil, List.cons_append, Int.toNat_natCast, rvN, Nat.reduceLT, Int.reduceLE, Int.reduceEq, Nat.zero_add, Option.bind_some, eq_self, Nat.add_zero, List.reduceReplicate, List.flatten_cons, List.flatten_nil, List.take_succ_cons, List.take_zero, List.take_nil, List.drop_succ_cons, List.drop_zero, List.drop_nil, Int.lt_irrefl, rvF, rvG, List.isEmpty_nil, List.isEmpty_cons, e38, e17, e98, Try.f38, VRecorder.c, h1, h2, d, rowsRecSlot, rowsRecMessage, rowsString, rowsInt, rowsRecAck]
theorem k39 (x : VRecorder) (hw : x.w ≤ 4194304) : EV Try.prog E 39 [.val 0 true (x.c .shr)] = some ⟨[(true, (rise x).c .own)], []⟩ := by
  refine EV_intro Try.func39 rfl ?_
  have h1 := k19 x hw
  have h2 := k96 x hw
  simp only [VRecorder.c] at h1 h2
  unfold rise
  cases d : valid x
  · simp only [rv0, rv1, rv2, rv3, rv4, rv5, rv6, rv7, rv8, rv9, rv10, rvE, rvH, eT, List.length_cons, List.length_nil, List.tail_nil, List.tail_cons, List.contains_cons, List.contains_nil, Bool.false_or, Bool.or_false, Bool.true_or, Bool.or_true, Bool.and_true, Bool.true_and, Bool.and_false, Bool.false_and, Bool.not_true, Bool.not_false, ↓reduceIte, Nat.reduceEqDiff, Nat.reduceAdd, Nat.reduceSub, Nat.reduceMul, Nat.reduceLeDiff, Nat.reduceBEq, decide_true, decide_false, reduceCtorEq, Int.reduceLT, Int.reduceNeg, Option.isSome_some, Option.isSome_none, List.length_map, Bool.false_eq_true, List.nil_append, List.append_nil, List.cons_append, Int.toNat_natCast, rvN, Nat.reduceLT, Int.reduceLE, Int.reduceEq, Nat.zero_add, Option.bind_some, eq_self, Nat.add_zero, List.reduceReplicate, List.flatten_cons, List.flatten_nil, List.take_succ_cons, List.take_zero, List.take_nil, List.drop_succ_cons, List.drop_zero, List.drop_nil, Int.lt_irrefl, rvF, rvG, List.isEmpty_nil, List.isEmpty_cons, e39, e19, Try.f39, VRecorder.c, h1, d, nilRec, List.map_nil]
  · simp only [rv0, rv1, rv2, rv3, rv4, rv5, rv6, rv7, rv8, rv9, rv10, rvE, rvH, eT, List.length_cons, List.length_nil, List.tail_nil, List.tail_cons, List.contains_cons, List.contains_nil, Bool.false_or, Bool.or_false, Bool.true_or, Bool.or_true, Bool.and_true, Bool.true_and, Bool.and_false, Bool.false_and, Bool.not_true, Bool.not_false, ↓reduceIte, Nat.reduceEqDiff, Nat.reduceAdd, Nat.reduceSub, Nat.reduceMul, Nat.reduceLeDiff, Nat.reduceBEq, decide_true, decide_false, reduceCtorEq, Int.reduceLT, Int.reduceNeg, Option.isSome_some, Option.isSome_none, List.length_map, Bool.false_eq_true, List.nil_append, List.append_nil, List.cons_append, Int.toNat_natCast, rvN, Nat.reduceLT, Int.reduceLE, Int.reduceEq, Nat.zero_add, Option.bind_some, eq_self, Nat.add_zero, List.reduceReplicate, List.flatten_cons, List.flatten_nil, List.take_succ_cons, List.take_zero, List.take_nil, List.drop_succ_cons, List.drop_zero, List.drop_nil, Int.lt_irrefl, rvF, rvG, List.isEmpty_nil, List.isEmpty_cons, e39, e19, e96, Try.f39, VRecorder.c, h1, h2, d, rowsRecSlot, rowsRecMessage, rowsString, rowsInt, rowsRecAck]
theorem nilRec_w : nilRec.w = 0 := by simp [VRecorder.w, VRecDisk.w, nilRec, wSRecSlot, wSRecMessage, wSString, wSRecAck, wSInt, sumWRecSlot, sumWRecMessage, sumWString, sumWRecAck]
theorem rise_w (x : VRecorder) : (rise x).w ≤ x.w := by
  unfold rise
  split
  · exact Nat.le_refl _
  · rw [nilRec_w]; exact Nat.zero_le _
theorem k10 (x : VRecorder) (hx : x.ok) : EV Try.prog E 10 [.val 0 true (x.c .shr)] = some ⟨[(false, [.p (.bool true)])], []⟩ := by
  refine EV_intro Try.func10 rfl ?_
  have hz := k_szRecorder x 1048576 hx (by omega) (by omega)
  simp only [VRecorder.c] at hz
  by_cases hc : (1048576 : Int) < x.w
  · rw [subW_lt hc] at hz
    simp only [rv0, rv1, rv2, rv3, rv4, rv5, rv6, rv7, rv8, rv9, rv10, rvE, rvH, eT, List.length_cons, List.length_nil, List.tail_nil, List.tail_cons, List.contains_cons, List.contains_nil, Bool.false_or, Bool.or_false, Bool.true_or, Bool.or_true, Bool.and_true, Bool.true_and, Bool.and_false, Bool.false_and, Bool.not_true, Bool.not_false, ↓reduceIte, Nat.reduceEqDiff, Nat.reduceAdd, Nat.reduceSub, Nat.reduceMul, Nat.reduceLeDiff, Nat.reduceBEq, decide_true, decide_false, reduceCtorEq, Int.reduceLT, Int.reduceNeg, Option.isSome_some, Option.isSome_none, List.length_map, Bool.false_eq_true, List.nil_append, List.append_nil, List.cons_append, Int.toNat_natCast, rvN, Nat.reduceLT, Int.reduceLE, Int.reduceEq, Nat.zero_add, Option.bind_some, eq_self, Nat.add_zero, List.reduceReplicate, List.flatten_cons, List.flatten_nil, List.take_succ_cons, List.take_zero, List.take_nil, List.drop_succ_cons, List.drop_zero, List.drop_nil, Int.lt_irrefl, rvF, rvG, List.isEmpty_nil, List.isEmpty_cons, e10, e16, Try.f10, VRecorder.c, hz]
  · rw [subW_ge hc] at hz
    have hnn : ¬ ((1048576 : Int) - x.w < 0) := by omega
    have hw : x.w ≤ 4194304 := by omega
    have hoc := oc_leRecorder x
    have hyw := rise_w x
    have h18 := k_toRecorder x hw
    have h1 := k38 x hw
    have h2 := k39 x hw
    generalize rise x = y at *
    have hoy := oc_leRecorder y
    have h13 := k_eqRecorder x hw
    have h13y := k_eqRecorder y (by omega)
    have h14 := k_markRecorder x 1 (by omega) (by omega)
    have h14y := k_markRecorder y 1 (by omega) (by omega)
    have h15 := k_heldRecorder y 1 (by omega) (by omega)
    have hn : ¬ (1 + (ocRecorder x : Int) < 0) := by omega
    have hny : ¬ (1 + (ocRecorder y : Int) < 0) := by omega
    simp only [VRecorder.c, moRecorder, moRecDisk] at h1 h2 h13 h13y h14 h14y h15 h18
    simp only [rv0, rv1, rv2, rv3, rv4, rv5, rv6, rv7, rv8, rv9, rv10, rvE, rvH, eT, List.length_cons, List.length_nil, List.tail_nil, List.tail_cons, List.contains_cons, List.contains_nil, Bool.false_or, Bool.or_false, Bool.true_or, Bool.or_true, Bool.and_true, Bool.true_and, Bool.and_false, Bool.false_and, Bool.not_true, Bool.not_false, ↓reduceIte, Nat.reduceEqDiff, Nat.reduceAdd, Nat.reduceSub, Nat.reduceMul, Nat.reduceLeDiff, Nat.reduceBEq, decide_true, decide_false, reduceCtorEq, Int.reduceLT, Int.reduceNeg, Option.isSome_some, Option.isSome_none, List.length_map, Bool.false_eq_true, List.nil_append, List.append_nil, List.cons_append, Int.toNat_natCast, rvN, Nat.reduceLT, Int.reduceLE, Int.reduceEq, Nat.zero_add, Option.bind_some, eq_self, Nat.add_zero, List.reduceReplicate, List.flatten_cons, List.flatten_nil, List.take_succ_cons, List.take_zero, List.take_nil, List.drop_succ_cons, List.drop_zero, List.drop_nil, Int.lt_irrefl, rvF, rvG, List.isEmpty_nil, List.isEmpty_cons, e10, e13, e14, e15, e16, e18, e38, e39, Try.f10, VRecorder.c, hz, hnn, h1, h2, h13, h13y, h14, h14y, h15, h18, hn, hny, beq_self_eq_true, rowsRecSlot, rowsRecMessage, rowsString, rowsInt, rowsRecAck]
end Go.Proofs.Ytndcljdmopigeaa
