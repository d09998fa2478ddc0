/- The law FnExactRecMerge. -/
import Derived.Test.YtgbfmjgndcooeaaR1
namespace Go.Proofs.Ytgbfmjgndcooeaa
open Go.Sx
set_option maxRecDepth 100000
set_option linter.unusedVariables false
set_option linter.unusedSimpArgs false

theorem mergeGo_length : ∀ (b : List (Int × ByteArray)) (i : Nat) (o : List (Int × ByteArray)), i ≤ o.length → (mergeGo b i o).length ≤ o.length + b.length
  | [], _, o, _ => by simp [mergeGo]
  | x :: r, i, o, h => by
    have h1 := mstep_length i x o h
    have := mergeGo_length r (i + 1) (mstep i x o) h1.2.2
    simp only [mergeGo, List.length_cons]
    omega

def szS (l : List (Int × ByteArray)) (left : Int) : Int := if left - l.length < 0 then -1 else szGo l (left - l.length)
theorem szGo_le : ∀ (l : List (Int × ByteArray)) (a : Int), 0 ≤ a → szGo l a ≤ a
  | [], a, _ => by simp [szGo]
  | s :: r, a, h => by
    simp only [szGo]
    split
    · omega
    · have := szGo_le r (a - s.2.size) (by omega)
      omega
theorem szS_spec (l : List (Int × ByteArray)) (left : Int) (h : 0 ≤ left) : szS l left ≤ left ∧ (¬ szS l left < 0 → (l.length : Int) ≤ left) := by
  unfold szS
  split
  · exact ⟨by omega, fun h => by omega⟩
  · have := szGo_le l (left - l.length) (by omega)
    exact ⟨by omega, fun _ => by omega⟩

theorem k5 (a b : List (Int × ByteArray)) (ha : ∀ s ∈ a, s.2.size ≤ maxLen) (hla : a.length ≤ maxLen) (hb : ∀ s ∈ b, s.2.size ≤ maxLen) (hlb : b.length ≤ maxLen) : EV Try.prog E 5 [.val 0 false [.sl .shr 2 (a.map slotC)], .val 0 false [.sl .shr 2 (b.map slotC)]] =
    some ⟨[(false, [.p (.bool true)])], []⟩ := by
  refine EV_intro Try.func5 rfl ?_
  have hz1 : EV Try.prog E 10 [.val 0 false [.sl .shr 2 (a.map slotC)], .val 0 false [.p (.int .i64 1048576)]] = some ⟨[(false, [.p (.int .i64 (szS a 1048576))])], []⟩ := k10 a 1048576 ha hla (by omega) (by omega)
  by_cases hc1 : szS a 1048576 < 0
  · simp only [rv0, rv1, rv2, rv3, rv4, rv5, rv6, rv7, rv8, rv9, rvE, eT, List.length_cons, List.length_nil, List.tail_nil, List.tail_cons, List.contains_cons, List.contains_nil, Bool.false_or, Bool.or_false, Bool.true_or, Bool.or_true, Bool.and_true, Bool.true_and, Bool.and_false, Bool.false_and, Bool.not_true, Bool.not_false, ↓reduceIte, Nat.reduceEqDiff, Nat.reduceAdd, Nat.reduceSub, Nat.reduceMul, Nat.reduceLeDiff, Nat.reduceBEq, decide_true, decide_false, reduceCtorEq, Int.reduceLT, Int.reduceNeg, Option.isSome_some, Option.isSome_none, List.length_map, Bool.false_eq_true, List.nil_append, List.append_nil, List.cons_append, Int.toNat_natCast, rvN, Nat.reduceLT, Int.reduceLE, Int.reduceEq, Nat.zero_add, Option.bind_some, eq_self, Nat.add_zero, List.reduceReplicate, List.flatten_cons, List.flatten_nil, List.take_succ_cons, List.take_zero, List.take_nil, List.drop_succ_cons, List.drop_zero, List.drop_nil, Int.lt_irrefl, rvF, rvG, e5, e10, Try.f5, hz1, hc1]
  · obtain ⟨u1, u2⟩ := szS_spec a 1048576 (by omega)
    have hz2 : EV Try.prog E 10 [.val 0 false [.sl .shr 2 (b.map slotC)], .val 0 false [.p (.int .i64 (szS a 1048576))]] = some ⟨[(false, [.p (.int .i64 (szS b (szS a 1048576)))])], []⟩ := k10 b (szS a 1048576) hb hlb (by omega) (by omega)
    by_cases hc2 : szS b (szS a 1048576) < 0
    · simp only [rv0, rv1, rv2, rv3, rv4, rv5, rv6, rv7, rv8, rv9, rvE, eT, List.length_cons, List.length_nil, List.tail_nil, List.tail_cons, List.contains_cons, List.contains_nil, Bool.false_or, Bool.or_false, Bool.true_or, Bool.or_true, Bool.and_true, Bool.true_and, Bool.and_false, Bool.false_and, Bool.not_true, Bool.not_false, ↓reduceIte, Nat.reduceEqDiff, Nat.reduceAdd, Nat.reduceSub, Nat.reduceMul, Nat.reduceLeDiff, Nat.reduceBEq, decide_true, decide_false, reduceCtorEq, Int.reduceLT, Int.reduceNeg, Option.isSome_some, Option.isSome_none, List.length_map, Bool.false_eq_true, List.nil_append, List.append_nil, List.cons_append, Int.toNat_natCast, rvN, Nat.reduceLT, Int.reduceLE, Int.reduceEq, Nat.zero_add, Option.bind_some, eq_self, Nat.add_zero, List.reduceReplicate, List.flatten_cons, List.flatten_nil, List.take_succ_cons, List.take_zero, List.take_nil, List.drop_succ_cons, List.drop_zero, List.drop_nil, Int.lt_irrefl, rvF, rvG, e5, e10, Try.f5, hz1, hc1, hz2, hc2]
    · obtain ⟨v1, v2⟩ := szS_spec b (szS a 1048576) (by omega)
      have hal := u2 hc1
      have hbl := v2 hc2
      have hml := mergeGo_length b 0 a (Nat.zero_le _)
      have c12a := k12 a (by omega)
      have c12b := k12 b (by omega)
      have c11 := k11 a b (by omega) (by omega)
      have c13 := k13 a b (by omega) (by omega)
      have c14w := k14 (mergeGo b 0 a) (mergeGo b 0 a) (by omega)
      have c14a := k14 a a (by omega)
      have c14b := k14 b b (by omega)
      have m1 := k15 a 1 (by omega) (by omega)
      have m2 := k15 b (1 + 2 * a.length) (by omega) (by omega)
      have m3 := k15 (mergeGo b 0 a) 1 (by omega) (by omega)
      have q1 := k16 (mergeGo b 0 a).length 1 (by omega) (by omega)
      have n1 : ¬ (((1 + 2 * a.length + 2 * b.length : Nat) : Int) < 0) := by omega
      have n2 : ¬ (((1 + 2 * (mergeGo b 0 a).length : Nat) : Int) < 0) := by omega
      rw [show ((1 : Nat) : Int) = 1 from rfl] at m1 m3 q1
      simp only [rv0, rv1, rv2, rv3, rv4, rv5, rv6, rv7, rv8, rv9, rvE, eT, List.length_cons, List.length_nil, List.tail_nil, List.tail_cons, List.contains_cons, List.contains_nil, Bool.false_or, Bool.or_false, Bool.true_or, Bool.or_true, Bool.and_true, Bool.true_and, Bool.and_false, Bool.false_and, Bool.not_true, Bool.not_false, ↓reduceIte, Nat.reduceEqDiff, Nat.reduceAdd, Nat.reduceSub, Nat.reduceMul, Nat.reduceLeDiff, Nat.reduceBEq, decide_true, decide_false, reduceCtorEq, Int.reduceLT, Int.reduceNeg, Option.isSome_some, Option.isSome_none, List.length_map, Bool.false_eq_true, List.nil_append, List.append_nil, List.cons_append, Int.toNat_natCast, rvN, Nat.reduceLT, Int.reduceLE, Int.reduceEq, Nat.zero_add, Option.bind_some, eq_self, Nat.add_zero, List.reduceReplicate, List.flatten_cons, List.flatten_nil, List.take_succ_cons, List.take_zero, List.take_nil, List.drop_succ_cons, List.drop_zero, List.drop_nil, Int.lt_irrefl, rvF, rvG, e5, e10, e11, e12, e13, e14, e15, e16, Try.f5, hz1, hc1, hz2, hc2, c12a, c12b, c11, c13, c14w, c14a, c14b, m1, m2, m3, q1, n1, n2, slotFlat]
end Go.Proofs.Ytgbfmjgndcooeaa
