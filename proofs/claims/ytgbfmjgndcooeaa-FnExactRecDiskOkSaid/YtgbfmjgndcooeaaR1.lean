/- What the functions of the seat compute. -/
import Derived.Test.YtgbfmjgndcooeaaTab1
import Derived.Test.YtgbfmjgndcooeaaSxD
namespace Go.Proofs.Ytgbfmjgndcooeaa
open Go.Sx
set_option maxRecDepth 100000
set_option linter.unusedVariables false
set_option linter.unusedSimpArgs false

theorem k29 (b : Int) (t : ByteArray) (left : Int) (h : -9223372036854775808 ≤ left - t.size) (h2 : left - t.size ≤ 9223372036854775807) : EV Try.prog E 29 [.val 0 true [.p (.int .i64 b), .p (.string t)], .val 0 false [.p (.int .i64 left)]] =
    some ⟨[(false, [.p (.int .i64 (if left - t.size < 0 then -1 else left - t.size))])], []⟩ := by
  refine EV_intro Try.func29 rfl ?_
  have hw := wrap64 h h2
  by_cases hc : left - t.size < 0 <;> simp only [rv0, rv1, rv2, rv3, rv4, rv5, rv6, rv7, rv8, rv9, rvE, eT, List.length_cons, List.length_nil, List.tail_nil, List.tail_cons, List.contains_cons, List.contains_nil, Bool.false_or, Bool.or_false, Bool.true_or, Bool.or_true, Bool.and_true, Bool.true_and, Bool.and_false, Bool.false_and, Bool.not_true, Bool.not_false, ↓reduceIte, Nat.reduceEqDiff, Nat.reduceAdd, Nat.reduceSub, Nat.reduceMul, Nat.reduceLeDiff, Nat.reduceBEq, decide_true, decide_false, reduceCtorEq, Int.reduceLT, Int.reduceNeg, Option.isSome_some, Option.isSome_none, List.length_map, Bool.false_eq_true, List.nil_append, List.append_nil, List.cons_append, Int.toNat_natCast, rvN, Nat.reduceLT, Int.reduceLE, Int.reduceEq, Nat.zero_add, Option.bind_some, eq_self, Nat.add_zero, List.reduceReplicate, List.flatten_cons, List.flatten_nil, List.take_succ_cons, List.take_zero, List.take_nil, List.drop_succ_cons, List.drop_zero, List.drop_nil, Int.lt_irrefl, rvF, rvG, e29, Try.f29, hw, hc]

theorem k31 (b : Int) (t : ByteArray) : EV Try.prog E 31 [.val 0 true [.p (.int .i64 b), .p (.string t)]] = some ⟨[(true, [.p (.int .i64 b), .p (.string t)])], []⟩ := by
  refine EV_intro Try.func31 rfl ?_
  simp only [rv0, rv1, rv2, rv3, rv4, rv5, rv6, rv7, rv8, rv9, rvE, eT, List.length_cons, List.length_nil, List.tail_nil, List.tail_cons, List.contains_cons, List.contains_nil, Bool.false_or, Bool.or_false, Bool.true_or, Bool.or_true, Bool.and_true, Bool.true_and, Bool.and_false, Bool.false_and, Bool.not_true, Bool.not_false, ↓reduceIte, Nat.reduceEqDiff, Nat.reduceAdd, Nat.reduceSub, Nat.reduceMul, Nat.reduceLeDiff, Nat.reduceBEq, decide_true, decide_false, reduceCtorEq, Int.reduceLT, Int.reduceNeg, Option.isSome_some, Option.isSome_none, List.length_map, Bool.false_eq_true, List.nil_append, List.append_nil, List.cons_append, Int.toNat_natCast, rvN, Nat.reduceLT, Int.reduceLE, Int.reduceEq, Nat.zero_add, Option.bind_some, eq_self, Nat.add_zero, List.reduceReplicate, List.flatten_cons, List.flatten_nil, List.take_succ_cons, List.take_zero, List.take_nil, List.drop_succ_cons, List.drop_zero, List.drop_nil, Int.lt_irrefl, rvF, rvG, e31, Try.f31]
theorem k32 (b b' : Int) (t t' : ByteArray) : EV Try.prog E 32 [.val 0 true [.p (.int .i64 b), .p (.string t)], .val 0 true [.p (.int .i64 b'), .p (.string t')]] = some ⟨[(false, [.p (.bool (decide (b = b') && decide (t = t')))])], []⟩ := by
  refine EV_intro Try.func32 rfl ?_
  by_cases h1 : b = b' <;> by_cases h2 : t = t' <;> simp only [rv0, rv1, rv2, rv3, rv4, rv5, rv6, rv7, rv8, rv9, rvE, eT, List.length_cons, List.length_nil, List.tail_nil, List.tail_cons, List.contains_cons, List.contains_nil, Bool.false_or, Bool.or_false, Bool.true_or, Bool.or_true, Bool.and_true, Bool.true_and, Bool.and_false, Bool.false_and, Bool.not_true, Bool.not_false, ↓reduceIte, Nat.reduceEqDiff, Nat.reduceAdd, Nat.reduceSub, Nat.reduceMul, Nat.reduceLeDiff, Nat.reduceBEq, decide_true, decide_false, reduceCtorEq, Int.reduceLT, Int.reduceNeg, Option.isSome_some, Option.isSome_none, List.length_map, Bool.false_eq_true, List.nil_append, List.append_nil, List.cons_append, Int.toNat_natCast, rvN, Nat.reduceLT, Int.reduceLE, Int.reduceEq, Nat.zero_add, Option.bind_some, eq_self, Nat.add_zero, List.reduceReplicate, List.flatten_cons, List.flatten_nil, List.take_succ_cons, List.take_zero, List.take_nil, List.drop_succ_cons, List.drop_zero, List.drop_nil, Int.lt_irrefl, rvF, rvG, e32, Try.f32, h1, h2]

def slotC (s : Int × ByteArray) : List C := [.p (.int .i64 s.1), .p (.string s.2)]
def szGo : List (Int × ByteArray) → Int → Int
  | [], left => left
  | s :: r, left => if left - s.2.size < 0 then -1 else szGo r (left - s.2.size)

theorem szGo_neg : ∀ {l : List (Int × ByteArray)} {a : Int}, szGo l a < 0 → 0 ≤ a → szGo l a = -1
  | [], a, h, h0 => by simp only [szGo] at h; omega
  | s :: r, a, h, h0 => by
    simp only [szGo] at h ⊢
    split
    · rfl
    · rename_i hc
      rw [if_neg hc] at h
      exact szGo_neg h (by omega)

theorem k10 (l : List (Int × ByteArray)) (left : Int) (hl : ∀ s ∈ l, s.2.size ≤ maxLen) (hn : l.length ≤ maxLen) (h0 : 0 ≤ left) (h1 : left ≤ 1048576) : EV Try.prog E 10 [.val 0 false [.sl .shr 2 (l.map slotC)], .val 0 false [.p (.int .i64 left)]] =
    some ⟨[(false, [.p (.int .i64 (if left - l.length < 0 then -1 else szGo l (left - l.length)))])], []⟩ := by
  refine EV_intro Try.func10 rfl ?_
  have hw := wrap64 (n := left - l.length) (by unfold maxLen at hn; omega) (by omega)
  by_cases hc : left - l.length < 0
  · simp only [rv0, rv1, rv2, rv3, rv4, rv5, rv6, rv7, rv8, rv9, rvE, eT, List.length_cons, List.length_nil, List.tail_nil, List.tail_cons, List.contains_cons, List.contains_nil, Bool.false_or, Bool.or_false, Bool.true_or, Bool.or_true, Bool.and_true, Bool.true_and, Bool.and_false, Bool.false_and, Bool.not_true, Bool.not_false, ↓reduceIte, Nat.reduceEqDiff, Nat.reduceAdd, Nat.reduceSub, Nat.reduceMul, Nat.reduceLeDiff, Nat.reduceBEq, decide_true, decide_false, reduceCtorEq, Int.reduceLT, Int.reduceNeg, Option.isSome_some, Option.isSome_none, List.length_map, Bool.false_eq_true, List.nil_append, List.append_nil, List.cons_append, Int.toNat_natCast, rvN, Nat.reduceLT, Int.reduceLE, Int.reduceEq, Nat.zero_add, Option.bind_some, eq_self, Nat.add_zero, List.reduceReplicate, List.flatten_cons, List.flatten_nil, List.take_succ_cons, List.take_zero, List.take_nil, List.drop_succ_cons, List.drop_zero, List.drop_nil, Int.lt_irrefl, rvF, rvG, e10, Try.f10, hw, hc]
  · simp only [rv0, rv1, rv2, rv3, rv4, rv5, rv6, rv7, rv8, rv9, rvE, eT, List.length_cons, List.length_nil, List.tail_nil, List.tail_cons, List.contains_cons, List.contains_nil, Bool.false_or, Bool.or_false, Bool.true_or, Bool.or_true, Bool.and_true, Bool.true_and, Bool.and_false, Bool.false_and, Bool.not_true, Bool.not_false, ↓reduceIte, Nat.reduceEqDiff, Nat.reduceAdd, Nat.reduceSub, Nat.reduceMul, Nat.reduceLeDiff, Nat.reduceBEq, decide_true, decide_false, reduceCtorEq, Int.reduceLT, Int.reduceNeg, Option.isSome_some, Option.isSome_none, List.length_map, Bool.false_eq_true, List.nil_append, List.append_nil, List.cons_append, Int.toNat_natCast, rvN, Nat.reduceLT, Int.reduceLE, Int.reduceEq, Nat.zero_add, Option.bind_some, eq_self, Nat.add_zero, List.reduceReplicate, List.flatten_cons, List.flatten_nil, List.take_succ_cons, List.take_zero, List.take_nil, List.drop_succ_cons, List.drop_zero, List.drop_nil, Int.lt_irrefl, rvF, rvG, e10, Try.f10, hw, hc]
    rw [for_block l (fun i a => ⟨3, [(0, .val 0 false [.sl .shr 2 (l.map slotC)]), (1, .val 1 false [.p (.int .i64 a)]), (5, .val 2 false [.p (.int .i64 i)])]⟩) (fun i a => 0 ≤ a ∧ a ≤ 1048576)
      (fun r i a => if szGo r a < 0 then .ret ⟨[(false, [.p (.int .i64 (-1))])], []⟩ else .norm ⟨1, [(1, .val 0 false [.p (.int .i64 (szGo r a))])]⟩) ?_ ?_ (a := left - l.length) ⟨by omega, by omega⟩ (by simp only [rv0, rv1, rv2, rv3, rv4, rv5, rv6, rv7, rv8, rv9, rvE, eT, List.length_cons, List.length_nil, List.tail_nil, List.tail_cons, List.contains_cons, List.contains_nil, Bool.false_or, Bool.or_false, Bool.true_or, Bool.or_true, Bool.and_true, Bool.true_and, Bool.and_false, Bool.false_and, Bool.not_true, Bool.not_false, ↓reduceIte, Nat.reduceEqDiff, Nat.reduceAdd, Nat.reduceSub, Nat.reduceMul, Nat.reduceLeDiff, Nat.reduceBEq, decide_true, decide_false, reduceCtorEq, Int.reduceLT, Int.reduceNeg, Option.isSome_some, Option.isSome_none, List.length_map, Bool.false_eq_true, List.nil_append, List.append_nil, List.cons_append, Int.toNat_natCast, rvN, Nat.reduceLT, Int.reduceLE, Int.reduceEq, Nat.zero_add, Option.bind_some, eq_self, Nat.add_zero, List.reduceReplicate, List.flatten_cons, List.flatten_nil, List.take_succ_cons, List.take_zero, List.take_nil, List.drop_succ_cons, List.drop_zero, List.drop_nil, Int.lt_irrefl, rvF, rvG, e10]; rfl)]
    · by_cases hz : szGo l (left - l.length) < 0
      · have : szGo l (left - l.length) = -1 := szGo_neg hz (by omega)
        simp only [rv0, rv1, rv2, rv3, rv4, rv5, rv6, rv7, rv8, rv9, rvE, eT, List.length_cons, List.length_nil, List.tail_nil, List.tail_cons, List.contains_cons, List.contains_nil, Bool.false_or, Bool.or_false, Bool.true_or, Bool.or_true, Bool.and_true, Bool.true_and, Bool.and_false, Bool.false_and, Bool.not_true, Bool.not_false, ↓reduceIte, Nat.reduceEqDiff, Nat.reduceAdd, Nat.reduceSub, Nat.reduceMul, Nat.reduceLeDiff, Nat.reduceBEq, decide_true, decide_false, reduceCtorEq, Int.reduceLT, Int.reduceNeg, Option.isSome_some, Option.isSome_none, List.length_map, Bool.false_eq_true, List.nil_append, List.append_nil, List.cons_append, Int.toNat_natCast, rvN, Nat.reduceLT, Int.reduceLE, Int.reduceEq, Nat.zero_add, Option.bind_some, eq_self, Nat.add_zero, List.reduceReplicate, List.flatten_cons, List.flatten_nil, List.take_succ_cons, List.take_zero, List.take_nil, List.drop_succ_cons, List.drop_zero, List.drop_nil, Int.lt_irrefl, rvF, rvG, e10, this]
      · simp only [rv0, rv1, rv2, rv3, rv4, rv5, rv6, rv7, rv8, rv9, rvE, eT, List.length_cons, List.length_nil, List.tail_nil, List.tail_cons, List.contains_cons, List.contains_nil, Bool.false_or, Bool.or_false, Bool.true_or, Bool.or_true, Bool.and_true, Bool.true_and, Bool.and_false, Bool.false_and, Bool.not_true, Bool.not_false, ↓reduceIte, Nat.reduceEqDiff, Nat.reduceAdd, Nat.reduceSub, Nat.reduceMul, Nat.reduceLeDiff, Nat.reduceBEq, decide_true, decide_false, reduceCtorEq, Int.reduceLT, Int.reduceNeg, Option.isSome_some, Option.isSome_none, List.length_map, Bool.false_eq_true, List.nil_append, List.append_nil, List.cons_append, Int.toNat_natCast, rvN, Nat.reduceLT, Int.reduceLE, Int.reduceEq, Nat.zero_add, Option.bind_some, eq_self, Nat.add_zero, List.reduceReplicate, List.flatten_cons, List.flatten_nil, List.take_succ_cons, List.take_zero, List.take_nil, List.drop_succ_cons, List.drop_zero, List.drop_nil, Int.lt_irrefl, rvF, rvG, e10, hz]
    · intro i s r a hd hi ⟨ha, hb⟩
      have hlen := (List.getElem?_eq_some_iff.1 hi).1
      have hlt : ((i : Int) < (l.length : Int)) := by omega
      have hr := getElem?_map_some (f := slotC) hi
      have hsz := hl s (List.mem_of_getElem? hi)
      unfold maxLen at hsz hn
      have h29 := k29 s.1 s.2 a (by omega) (by omega)
      have hwi := wrap64 (n := (i : Int) + 1) (by omega) (by omega)
      have hi0 : (0 : Int) ≤ (i : Int) := by omega
      simp only [slotC] at hr
      by_cases hcs : a - s.2.size < 0
      · right
        simp only [rv0, rv1, rv2, rv3, rv4, rv5, rv6, rv7, rv8, rv9, rvE, eT, List.length_cons, List.length_nil, List.tail_nil, List.tail_cons, List.contains_cons, List.contains_nil, Bool.false_or, Bool.or_false, Bool.true_or, Bool.or_true, Bool.and_true, Bool.true_and, Bool.and_false, Bool.false_and, Bool.not_true, Bool.not_false, ↓reduceIte, Nat.reduceEqDiff, Nat.reduceAdd, Nat.reduceSub, Nat.reduceMul, Nat.reduceLeDiff, Nat.reduceBEq, decide_true, decide_false, reduceCtorEq, Int.reduceLT, Int.reduceNeg, Option.isSome_some, Option.isSome_none, List.length_map, Bool.false_eq_true, List.nil_append, List.append_nil, List.cons_append, Int.toNat_natCast, rvN, Nat.reduceLT, Int.reduceLE, Int.reduceEq, Nat.zero_add, Option.bind_some, eq_self, Nat.add_zero, List.reduceReplicate, List.flatten_cons, List.flatten_nil, List.take_succ_cons, List.take_zero, List.take_nil, List.drop_succ_cons, List.drop_zero, List.drop_nil, Int.lt_irrefl, rvF, rvG, e10, e29, hlt, hr, h29, hcs, hwi, hi0, slotC, szGo]
      · left
        refine ⟨a - s.2.size, ?_, ⟨by omega, by omega⟩, by simp only [szGo, hcs, if_false]⟩
        simp only [rv0, rv1, rv2, rv3, rv4, rv5, rv6, rv7, rv8, rv9, rvE, eT, List.length_cons, List.length_nil, List.tail_nil, List.tail_cons, List.contains_cons, List.contains_nil, Bool.false_or, Bool.or_false, Bool.true_or, Bool.or_true, Bool.and_true, Bool.true_and, Bool.and_false, Bool.false_and, Bool.not_true, Bool.not_false, ↓reduceIte, Nat.reduceEqDiff, Nat.reduceAdd, Nat.reduceSub, Nat.reduceMul, Nat.reduceLeDiff, Nat.reduceBEq, decide_true, decide_false, reduceCtorEq, Int.reduceLT, Int.reduceNeg, Option.isSome_some, Option.isSome_none, List.length_map, Bool.false_eq_true, List.nil_append, List.append_nil, List.cons_append, Int.toNat_natCast, rvN, Nat.reduceLT, Int.reduceLE, Int.reduceEq, Nat.zero_add, Option.bind_some, eq_self, Nat.add_zero, List.reduceReplicate, List.flatten_cons, List.flatten_nil, List.take_succ_cons, List.take_zero, List.take_nil, List.drop_succ_cons, List.drop_zero, List.drop_nil, Int.lt_irrefl, rvF, rvG, e10, e29, hlt, hr, h29, hcs, hwi, hi0, slotC, i64c]
    · intro a ⟨ha, hb⟩
      have hlt : ¬ ((l.length : Int) < (l.length : Int)) := by omega
      have ha' : ¬ a < 0 := by omega
      simp only [rv0, rv1, rv2, rv3, rv4, rv5, rv6, rv7, rv8, rv9, rvE, eT, List.length_cons, List.length_nil, List.tail_nil, List.tail_cons, List.contains_cons, List.contains_nil, Bool.false_or, Bool.or_false, Bool.true_or, Bool.or_true, Bool.and_true, Bool.true_and, Bool.and_false, Bool.false_and, Bool.not_true, Bool.not_false, ↓reduceIte, Nat.reduceEqDiff, Nat.reduceAdd, Nat.reduceSub, Nat.reduceMul, Nat.reduceLeDiff, Nat.reduceBEq, decide_true, decide_false, reduceCtorEq, Int.reduceLT, Int.reduceNeg, Option.isSome_some, Option.isSome_none, List.length_map, Bool.false_eq_true, List.nil_append, List.append_nil, List.cons_append, Int.toNat_natCast, rvN, Nat.reduceLT, Int.reduceLE, Int.reduceEq, Nat.zero_add, Option.bind_some, eq_self, Nat.add_zero, List.reduceReplicate, List.flatten_cons, List.flatten_nil, List.take_succ_cons, List.take_zero, List.take_nil, List.drop_succ_cons, List.drop_zero, List.drop_nil, Int.lt_irrefl, rvF, rvG, e10, hlt, szGo, ha']

theorem slotFlat (l : List (Int × ByteArray)) : borRows (l.map slotC) = l.map slotC ∧ mineRows (l.map slotC) = true ∧ wholeRows (l.map slotC) = true ∧ allFreeRows (l.map slotC) = true := flat_rows slotC (fun _ => rfl) l

theorem k30 (l : List (Int × ByteArray)) (hn : l.length ≤ 4194304) : EV Try.prog E 30 [.val 0 false [.sl .shr 2 (l.map slotC)]] = some ⟨[(false, [.sl .own 2 (l.map slotC)])], []⟩ := by
  refine EV_intro Try.func30 rfl ?_
  have h1 : l.length < 4294967296 := by omega
  simp only [rv0, rv1, rv2, rv3, rv4, rv5, rv6, rv7, rv8, rv9, rvE, eT, List.length_cons, List.length_nil, List.tail_nil, List.tail_cons, List.contains_cons, List.contains_nil, Bool.false_or, Bool.or_false, Bool.true_or, Bool.or_true, Bool.and_true, Bool.true_and, Bool.and_false, Bool.false_and, Bool.not_true, Bool.not_false, ↓reduceIte, Nat.reduceEqDiff, Nat.reduceAdd, Nat.reduceSub, Nat.reduceMul, Nat.reduceLeDiff, Nat.reduceBEq, decide_true, decide_false, reduceCtorEq, Int.reduceLT, Int.reduceNeg, Option.isSome_some, Option.isSome_none, List.length_map, Bool.false_eq_true, List.nil_append, List.append_nil, List.cons_append, Int.toNat_natCast, rvN, Nat.reduceLT, Int.reduceLE, Int.reduceEq, Nat.zero_add, Option.bind_some, eq_self, Nat.add_zero, List.reduceReplicate, List.flatten_cons, List.flatten_nil, List.take_succ_cons, List.take_zero, List.take_nil, List.drop_succ_cons, List.drop_zero, List.drop_nil, Int.lt_irrefl, rvF, rvG, e30, Try.f30, LIM, slotFlat, h1, Nat.zero_add]

theorem k12 (l : List (Int × ByteArray)) (hn : l.length ≤ 4194304) : EV Try.prog E 12 [.val 0 false [.sl .shr 2 (l.map slotC)]] = some ⟨[(false, [.sl .own 2 (l.map slotC)])], []⟩ := by
  refine EV_intro Try.func12 rfl ?_
  have h1 : l.length < 4294967296 := by omega
  have h0 : (0 : Int) ≤ (l.length : Int) := by omega
  simp only [rv0, rv1, rv2, rv3, rv4, rv5, rv6, rv7, rv8, rv9, rvE, eT, List.length_cons, List.length_nil, List.tail_nil, List.tail_cons, List.contains_cons, List.contains_nil, Bool.false_or, Bool.or_false, Bool.true_or, Bool.or_true, Bool.and_true, Bool.true_and, Bool.and_false, Bool.false_and, Bool.not_true, Bool.not_false, ↓reduceIte, Nat.reduceEqDiff, Nat.reduceAdd, Nat.reduceSub, Nat.reduceMul, Nat.reduceLeDiff, Nat.reduceBEq, decide_true, decide_false, reduceCtorEq, Int.reduceLT, Int.reduceNeg, Option.isSome_some, Option.isSome_none, List.length_map, Bool.false_eq_true, List.nil_append, List.append_nil, List.cons_append, Int.toNat_natCast, rvN, Nat.reduceLT, Int.reduceLE, Int.reduceEq, Nat.zero_add, Option.bind_some, eq_self, Nat.add_zero, List.reduceReplicate, List.flatten_cons, List.flatten_nil, List.take_succ_cons, List.take_zero, List.take_nil, List.drop_succ_cons, List.drop_zero, List.drop_nil, Int.lt_irrefl, rvF, rvG, e12, Try.f12, LIM, slotFlat, h1, h0, flat_repl (z := [.p (.int .i64 0), .p (.string ⟨#[]⟩)]) rfl]
  rw [for_block l (fun i (_ : Unit) => ⟨3, [(0, .val 0 false [.sl .shr 2 (l.map slotC)]), (3, .val 1 false [.sl .own 2 (fillR slotC l [.p (.int .i64 0), .p (.string ⟨#[]⟩)] i)]), (4, .val 2 false [.p (.int .i64 i)])]⟩) (fun i _ => True)
      (fun r i a => .norm ⟨1, [(3, .val 0 false [.sl .own 2 (l.map slotC)])]⟩) ?_ ?_ (a := ()) trivial (by simp only [rv0, rv1, rv2, rv3, rv4, rv5, rv6, rv7, rv8, rv9, rvE, eT, List.length_cons, List.length_nil, List.tail_nil, List.tail_cons, List.contains_cons, List.contains_nil, Bool.false_or, Bool.or_false, Bool.true_or, Bool.or_true, Bool.and_true, Bool.true_and, Bool.and_false, Bool.false_and, Bool.not_true, Bool.not_false, ↓reduceIte, Nat.reduceEqDiff, Nat.reduceAdd, Nat.reduceSub, Nat.reduceMul, Nat.reduceLeDiff, Nat.reduceBEq, decide_true, decide_false, reduceCtorEq, Int.reduceLT, Int.reduceNeg, Option.isSome_some, Option.isSome_none, List.length_map, Bool.false_eq_true, List.nil_append, List.append_nil, List.cons_append, Int.toNat_natCast, rvN, Nat.reduceLT, Int.reduceLE, Int.reduceEq, Nat.zero_add, Option.bind_some, eq_self, Nat.add_zero, List.reduceReplicate, List.flatten_cons, List.flatten_nil, List.take_succ_cons, List.take_zero, List.take_nil, List.drop_succ_cons, List.drop_zero, List.drop_nil, Int.lt_irrefl, rvF, rvG, e12, fill_zero]; rfl)]
  · simp only [rv0, rv1, rv2, rv3, rv4, rv5, rv6, rv7, rv8, rv9, rvE, eT, List.length_cons, List.length_nil, List.tail_nil, List.tail_cons, List.contains_cons, List.contains_nil, Bool.false_or, Bool.or_false, Bool.true_or, Bool.or_true, Bool.and_true, Bool.true_and, Bool.and_false, Bool.false_and, Bool.not_true, Bool.not_false, ↓reduceIte, Nat.reduceEqDiff, Nat.reduceAdd, Nat.reduceSub, Nat.reduceMul, Nat.reduceLeDiff, Nat.reduceBEq, decide_true, decide_false, reduceCtorEq, Int.reduceLT, Int.reduceNeg, Option.isSome_some, Option.isSome_none, List.length_map, Bool.false_eq_true, List.nil_append, List.append_nil, List.cons_append, Int.toNat_natCast, rvN, Nat.reduceLT, Int.reduceLE, Int.reduceEq, Nat.zero_add, Option.bind_some, eq_self, Nat.add_zero, List.reduceReplicate, List.flatten_cons, List.flatten_nil, List.take_succ_cons, List.take_zero, List.take_nil, List.drop_succ_cons, List.drop_zero, List.drop_nil, Int.lt_irrefl, rvF, rvG, e12, slotFlat]
  · intro i s r a hd hi _
    have hlen := (List.getElem?_eq_some_iff.1 hi).1
    have hlt : ((i : Int) < (l.length : Int)) := by omega
    have hr := getElem?_map_some (f := slotC) hi
    have hwi := wrap64 (n := (i : Int) + 1) (by omega) (by omega)
    have hi0 : (0 : Int) ≤ (i : Int) := by omega
    have hg := fill_get slotC [.p (.int .i64 0), .p (.string ⟨#[]⟩)] hlen
    have hs := fill_set slotC [.p (.int .i64 0), .p (.string ⟨#[]⟩)] hi
    have hfl := fill_length slotC l [.p (.int .i64 0), .p (.string ⟨#[]⟩)] (Nat.le_of_lt hlen)
    simp only [slotC] at hr hs
    left
    refine ⟨(), ?_, trivial, rfl⟩
    simp only [rv0, rv1, rv2, rv3, rv4, rv5, rv6, rv7, rv8, rv9, rvE, eT, List.length_cons, List.length_nil, List.tail_nil, List.tail_cons, List.contains_cons, List.contains_nil, Bool.false_or, Bool.or_false, Bool.true_or, Bool.or_true, Bool.and_true, Bool.true_and, Bool.and_false, Bool.false_and, Bool.not_true, Bool.not_false, ↓reduceIte, Nat.reduceEqDiff, Nat.reduceAdd, Nat.reduceSub, Nat.reduceMul, Nat.reduceLeDiff, Nat.reduceBEq, decide_true, decide_false, reduceCtorEq, Int.reduceLT, Int.reduceNeg, Option.isSome_some, Option.isSome_none, List.length_map, Bool.false_eq_true, List.nil_append, List.append_nil, List.cons_append, Int.toNat_natCast, rvN, Nat.reduceLT, Int.reduceLE, Int.reduceEq, Nat.zero_add, Option.bind_some, eq_self, Nat.add_zero, List.reduceReplicate, List.flatten_cons, List.flatten_nil, List.take_succ_cons, List.take_zero, List.take_nil, List.drop_succ_cons, List.drop_zero, List.drop_nil, Int.lt_irrefl, rvF, rvG, e12, e31, hlt, hr, k31, hwi, hi0, hg, hs, hfl, hlen, slotC, i64c]
  · intro a _
    have hlt : ¬ ((l.length : Int) < (l.length : Int)) := by omega
    simp only [rv0, rv1, rv2, rv3, rv4, rv5, rv6, rv7, rv8, rv9, rvE, eT, List.length_cons, List.length_nil, List.tail_nil, List.tail_cons, List.contains_cons, List.contains_nil, Bool.false_or, Bool.or_false, Bool.true_or, Bool.or_true, Bool.and_true, Bool.true_and, Bool.and_false, Bool.false_and, Bool.not_true, Bool.not_false, ↓reduceIte, Nat.reduceEqDiff, Nat.reduceAdd, Nat.reduceSub, Nat.reduceMul, Nat.reduceLeDiff, Nat.reduceBEq, decide_true, decide_false, reduceCtorEq, Int.reduceLT, Int.reduceNeg, Option.isSome_some, Option.isSome_none, List.length_map, Bool.false_eq_true, List.nil_append, List.append_nil, List.cons_append, Int.toNat_natCast, rvN, Nat.reduceLT, Int.reduceLE, Int.reduceEq, Nat.zero_add, Option.bind_some, eq_self, Nat.add_zero, List.reduceReplicate, List.flatten_cons, List.flatten_nil, List.take_succ_cons, List.take_zero, List.take_nil, List.drop_succ_cons, List.drop_zero, List.drop_nil, Int.lt_irrefl, rvF, rvG, e12, hlt, fill_end]

theorem k14 (l m : List (Int × ByteArray)) (hn : l.length ≤ 4194304) : EV Try.prog E 14 [.val 0 false [.sl .shr 2 (l.map slotC)], .val 0 false [.sl .shr 2 (m.map slotC)]] = some ⟨[(false, [.p (.bool (decide (l = m)))])], []⟩ := by
  refine EV_intro Try.func14 rfl ?_
  by_cases hlm : (l.length : Int) = (m.length : Int)
  · have hlm' : l.length = m.length := by omega
    simp only [rv0, rv1, rv2, rv3, rv4, rv5, rv6, rv7, rv8, rv9, rvE, eT, List.length_cons, List.length_nil, List.tail_nil, List.tail_cons, List.contains_cons, List.contains_nil, Bool.false_or, Bool.or_false, Bool.true_or, Bool.or_true, Bool.and_true, Bool.true_and, Bool.and_false, Bool.false_and, Bool.not_true, Bool.not_false, ↓reduceIte, Nat.reduceEqDiff, Nat.reduceAdd, Nat.reduceSub, Nat.reduceMul, Nat.reduceLeDiff, Nat.reduceBEq, decide_true, decide_false, reduceCtorEq, Int.reduceLT, Int.reduceNeg, Option.isSome_some, Option.isSome_none, List.length_map, Bool.false_eq_true, List.nil_append, List.append_nil, List.cons_append, Int.toNat_natCast, rvN, Nat.reduceLT, Int.reduceLE, Int.reduceEq, Nat.zero_add, Option.bind_some, eq_self, Nat.add_zero, List.reduceReplicate, List.flatten_cons, List.flatten_nil, List.take_succ_cons, List.take_zero, List.take_nil, List.drop_succ_cons, List.drop_zero, List.drop_nil, Int.lt_irrefl, rvF, rvG, e14, Try.f14, hlm]
    rw [for_block l (fun i (_ : Unit) => ⟨3, [(0, .val 0 false [.sl .shr 2 (l.map slotC)]), (1, .val 1 false [.sl .shr 2 (m.map slotC)]), (5, .val 2 false [.p (.int .i64 i)])]⟩) (fun i _ => l.take i = m.take i)
      (fun r i a => if l = m then .norm ⟨0, []⟩ else .ret ⟨[(false, [.p (.bool false)])], []⟩) ?_ ?_ (a := ()) (by simp) (by simp only [rv0, rv1, rv2, rv3, rv4, rv5, rv6, rv7, rv8, rv9, rvE, eT, List.length_cons, List.length_nil, List.tail_nil, List.tail_cons, List.contains_cons, List.contains_nil, Bool.false_or, Bool.or_false, Bool.true_or, Bool.or_true, Bool.and_true, Bool.true_and, Bool.and_false, Bool.false_and, Bool.not_true, Bool.not_false, ↓reduceIte, Nat.reduceEqDiff, Nat.reduceAdd, Nat.reduceSub, Nat.reduceMul, Nat.reduceLeDiff, Nat.reduceBEq, decide_true, decide_false, reduceCtorEq, Int.reduceLT, Int.reduceNeg, Option.isSome_some, Option.isSome_none, List.length_map, Bool.false_eq_true, List.nil_append, List.append_nil, List.cons_append, Int.toNat_natCast, rvN, Nat.reduceLT, Int.reduceLE, Int.reduceEq, Nat.zero_add, Option.bind_some, eq_self, Nat.add_zero, List.reduceReplicate, List.flatten_cons, List.flatten_nil, List.take_succ_cons, List.take_zero, List.take_nil, List.drop_succ_cons, List.drop_zero, List.drop_nil, Int.lt_irrefl, rvF, rvG, e14]; rfl)]
    · by_cases hc : l = m
      · simp only [rv0, rv1, rv2, rv3, rv4, rv5, rv6, rv7, rv8, rv9, rvE, eT, List.length_cons, List.length_nil, List.tail_nil, List.tail_cons, List.contains_cons, List.contains_nil, Bool.false_or, Bool.or_false, Bool.true_or, Bool.or_true, Bool.and_true, Bool.true_and, Bool.and_false, Bool.false_and, Bool.not_true, Bool.not_false, ↓reduceIte, Nat.reduceEqDiff, Nat.reduceAdd, Nat.reduceSub, Nat.reduceMul, Nat.reduceLeDiff, Nat.reduceBEq, decide_true, decide_false, reduceCtorEq, Int.reduceLT, Int.reduceNeg, Option.isSome_some, Option.isSome_none, List.length_map, Bool.false_eq_true, List.nil_append, List.append_nil, List.cons_append, Int.toNat_natCast, rvN, Nat.reduceLT, Int.reduceLE, Int.reduceEq, Nat.zero_add, Option.bind_some, eq_self, Nat.add_zero, List.reduceReplicate, List.flatten_cons, List.flatten_nil, List.take_succ_cons, List.take_zero, List.take_nil, List.drop_succ_cons, List.drop_zero, List.drop_nil, Int.lt_irrefl, rvF, rvG, e14, hc]
      · simp only [rv0, rv1, rv2, rv3, rv4, rv5, rv6, rv7, rv8, rv9, rvE, eT, List.length_cons, List.length_nil, List.tail_nil, List.tail_cons, List.contains_cons, List.contains_nil, Bool.false_or, Bool.or_false, Bool.true_or, Bool.or_true, Bool.and_true, Bool.true_and, Bool.and_false, Bool.false_and, Bool.not_true, Bool.not_false, ↓reduceIte, Nat.reduceEqDiff, Nat.reduceAdd, Nat.reduceSub, Nat.reduceMul, Nat.reduceLeDiff, Nat.reduceBEq, decide_true, decide_false, reduceCtorEq, Int.reduceLT, Int.reduceNeg, Option.isSome_some, Option.isSome_none, List.length_map, Bool.false_eq_true, List.nil_append, List.append_nil, List.cons_append, Int.toNat_natCast, rvN, Nat.reduceLT, Int.reduceLE, Int.reduceEq, Nat.zero_add, Option.bind_some, eq_self, Nat.add_zero, List.reduceReplicate, List.flatten_cons, List.flatten_nil, List.take_succ_cons, List.take_zero, List.take_nil, List.drop_succ_cons, List.drop_zero, List.drop_nil, Int.lt_irrefl, rvF, rvG, e14, hc]
    · intro i s r a hd hi hok
      have hlen := (List.getElem?_eq_some_iff.1 hi).1
      have hlt : ((i : Int) < (m.length : Int)) := by omega
      have hr := getElem?_map_some (f := slotC) hi
      have him : m[i]? = some m[i] := List.getElem?_eq_getElem (by omega)
      have hrm := getElem?_map_some (f := slotC) him
      have hwi := wrap64 (n := (i : Int) + 1) (by omega) (by omega)
      have hi0 : (0 : Int) ≤ (i : Int) := by omega
      simp only [slotC] at hr hrm
      have h32 := k32 s.1 m[i].1 s.2 m[i].2
      by_cases hc : s = m[i]
      · left
        refine ⟨(), ?_, ?_, rfl⟩
        · subst hc
          simp only [rv0, rv1, rv2, rv3, rv4, rv5, rv6, rv7, rv8, rv9, rvE, eT, List.length_cons, List.length_nil, List.tail_nil, List.tail_cons, List.contains_cons, List.contains_nil, Bool.false_or, Bool.or_false, Bool.true_or, Bool.or_true, Bool.and_true, Bool.true_and, Bool.and_false, Bool.false_and, Bool.not_true, Bool.not_false, ↓reduceIte, Nat.reduceEqDiff, Nat.reduceAdd, Nat.reduceSub, Nat.reduceMul, Nat.reduceLeDiff, Nat.reduceBEq, decide_true, decide_false, reduceCtorEq, Int.reduceLT, Int.reduceNeg, Option.isSome_some, Option.isSome_none, List.length_map, Bool.false_eq_true, List.nil_append, List.append_nil, List.cons_append, Int.toNat_natCast, rvN, Nat.reduceLT, Int.reduceLE, Int.reduceEq, Nat.zero_add, Option.bind_some, eq_self, Nat.add_zero, List.reduceReplicate, List.flatten_cons, List.flatten_nil, List.take_succ_cons, List.take_zero, List.take_nil, List.drop_succ_cons, List.drop_zero, List.drop_nil, Int.lt_irrefl, rvF, rvG, e14, e32, hlm, hlt, hr, hrm, h32, hwi, hi0, i64c]
        · rw [List.take_add_one, List.take_add_one, hok, hi, him, hc]
      · right
        have hne : ¬ l = m := by
          rintro rfl
          rw [hi] at him
          simp at him
          exact hc him
        have c1 : (decide (s.1 = m[i].1) && decide (s.2 = m[i].2)) = false := by
          simp only [Bool.and_eq_false_iff, decide_eq_false_iff_not]
          by_cases h1 : s.1 = m[i].1
          · right; intro h2; exact hc (Prod.ext h1 h2)
          · left; exact h1
        simp only [rv0, rv1, rv2, rv3, rv4, rv5, rv6, rv7, rv8, rv9, rvE, eT, List.length_cons, List.length_nil, List.tail_nil, List.tail_cons, List.contains_cons, List.contains_nil, Bool.false_or, Bool.or_false, Bool.true_or, Bool.or_true, Bool.and_true, Bool.true_and, Bool.and_false, Bool.false_and, Bool.not_true, Bool.not_false, ↓reduceIte, Nat.reduceEqDiff, Nat.reduceAdd, Nat.reduceSub, Nat.reduceMul, Nat.reduceLeDiff, Nat.reduceBEq, decide_true, decide_false, reduceCtorEq, Int.reduceLT, Int.reduceNeg, Option.isSome_some, Option.isSome_none, List.length_map, Bool.false_eq_true, List.nil_append, List.append_nil, List.cons_append, Int.toNat_natCast, rvN, Nat.reduceLT, Int.reduceLE, Int.reduceEq, Nat.zero_add, Option.bind_some, eq_self, Nat.add_zero, List.reduceReplicate, List.flatten_cons, List.flatten_nil, List.take_succ_cons, List.take_zero, List.take_nil, List.drop_succ_cons, List.drop_zero, List.drop_nil, Int.lt_irrefl, rvF, rvG, e14, e32, hlm, hlt, hr, hrm, h32, hwi, hi0, i64c, c1, hne]
    · intro a hok
      have hlt : ¬ ((m.length : Int) < (m.length : Int)) := by omega
      have heq : l = m := by
        have := hok
        rw [List.take_length, hlm', List.take_length] at this
        exact this
      simp only [rv0, rv1, rv2, rv3, rv4, rv5, rv6, rv7, rv8, rv9, rvE, eT, List.length_cons, List.length_nil, List.tail_nil, List.tail_cons, List.contains_cons, List.contains_nil, Bool.false_or, Bool.or_false, Bool.true_or, Bool.or_true, Bool.and_true, Bool.true_and, Bool.and_false, Bool.false_and, Bool.not_true, Bool.not_false, ↓reduceIte, Nat.reduceEqDiff, Nat.reduceAdd, Nat.reduceSub, Nat.reduceMul, Nat.reduceLeDiff, Nat.reduceBEq, decide_true, decide_false, reduceCtorEq, Int.reduceLT, Int.reduceNeg, Option.isSome_some, Option.isSome_none, List.length_map, Bool.false_eq_true, List.nil_append, List.append_nil, List.cons_append, Int.toNat_natCast, rvN, Nat.reduceLT, Int.reduceLE, Int.reduceEq, Nat.zero_add, Option.bind_some, eq_self, Nat.add_zero, List.reduceReplicate, List.flatten_cons, List.flatten_nil, List.take_succ_cons, List.take_zero, List.take_nil, List.drop_succ_cons, List.drop_zero, List.drop_nil, Int.lt_irrefl, rvF, rvG, e14, hlm, hlt, heq]
  · have hne : ¬ l = m := by rintro rfl; exact hlm rfl
    simp only [rv0, rv1, rv2, rv3, rv4, rv5, rv6, rv7, rv8, rv9, rvE, eT, List.length_cons, List.length_nil, List.tail_nil, List.tail_cons, List.contains_cons, List.contains_nil, Bool.false_or, Bool.or_false, Bool.true_or, Bool.or_true, Bool.and_true, Bool.true_and, Bool.and_false, Bool.false_and, Bool.not_true, Bool.not_false, ↓reduceIte, Nat.reduceEqDiff, Nat.reduceAdd, Nat.reduceSub, Nat.reduceMul, Nat.reduceLeDiff, Nat.reduceBEq, decide_true, decide_false, reduceCtorEq, Int.reduceLT, Int.reduceNeg, Option.isSome_some, Option.isSome_none, List.length_map, Bool.false_eq_true, List.nil_append, List.append_nil, List.cons_append, Int.toNat_natCast, rvN, Nat.reduceLT, Int.reduceLE, Int.reduceEq, Nat.zero_add, Option.bind_some, eq_self, Nat.add_zero, List.reduceReplicate, List.flatten_cons, List.flatten_nil, List.take_succ_cons, List.take_zero, List.take_nil, List.drop_succ_cons, List.drop_zero, List.drop_nil, Int.lt_irrefl, rvF, rvG, e14, Try.f14, hlm, hne]

/-! markText -/
theorem emptyS : (⟨#[]⟩ : ByteArray).size = 0 := rfl
def dig (n : Nat) : ByteArray := ⟨[UInt8.ofNat (IntKind.u8.wrap (48 + ((n : Int).tmod 10))).toNat].toArray⟩
def mkT (n : Nat) (s : ByteArray) : ByteArray := if n = 0 then s else mkT (n / 10) (dig n ++ s)
termination_by n
def markS (n : Nat) : ByteArray := if n = 0 then ⟨[109, 48].toArray⟩ else ⟨[109].toArray⟩ ++ mkT n ⟨#[]⟩
theorem mkT_size : ∀ (n : Nat) (s : ByteArray), (mkT n s).size ≤ s.size + n := by
  intro n
  induction n using Nat.strongRecOn with
  | _ n ih =>
    intro s
    rw [mkT]
    split
    · omega
    · have := ih (n / 10) (by omega) (dig n ++ s)
      have h1 : (dig n ++ s).size = 1 + s.size := by rw [ByteArray.size_append]; rfl
      omega

theorem k33 (n : Nat) (hn : n ≤ 1099511627776) : EV Try.prog E 33 [.val 0 false [.p (.int .i64 n)]] = some ⟨[(false, [.p (.string (markS n))])], []⟩ := by
  refine EV_intro Try.func33 rfl ?_
  by_cases h0 : n = 0
  · subst h0
    have e : (((0 : Nat) : Int) ≤ 0) := by omega
    simp only [rv0, rv1, rv2, rv3, rv4, rv5, rv6, rv7, rv8, rv9, rvE, eT, List.length_cons, List.length_nil, List.tail_nil, List.tail_cons, List.contains_cons, List.contains_nil, Bool.false_or, Bool.or_false, Bool.true_or, Bool.or_true, Bool.and_true, Bool.true_and, Bool.and_false, Bool.false_and, Bool.not_true, Bool.not_false, ↓reduceIte, Nat.reduceEqDiff, Nat.reduceAdd, Nat.reduceSub, Nat.reduceMul, Nat.reduceLeDiff, Nat.reduceBEq, decide_true, decide_false, reduceCtorEq, Int.reduceLT, Int.reduceNeg, Option.isSome_some, Option.isSome_none, List.length_map, Bool.false_eq_true, List.nil_append, List.append_nil, List.cons_append, Int.toNat_natCast, rvN, Nat.reduceLT, Int.reduceLE, Int.reduceEq, Nat.zero_add, Option.bind_some, eq_self, Nat.add_zero, List.reduceReplicate, List.flatten_cons, List.flatten_nil, List.take_succ_cons, List.take_zero, List.take_nil, List.drop_succ_cons, List.drop_zero, List.drop_nil, Int.lt_irrefl, rvF, rvG, e33, Try.f33, markS, e]
  · have e : ¬ ((n : Int) ≤ 0) := by omega
    simp only [rv0, rv1, rv2, rv3, rv4, rv5, rv6, rv7, rv8, rv9, rvE, eT, List.length_cons, List.length_nil, List.tail_nil, List.tail_cons, List.contains_cons, List.contains_nil, Bool.false_or, Bool.or_false, Bool.true_or, Bool.or_true, Bool.and_true, Bool.true_and, Bool.and_false, Bool.false_and, Bool.not_true, Bool.not_false, ↓reduceIte, Nat.reduceEqDiff, Nat.reduceAdd, Nat.reduceSub, Nat.reduceMul, Nat.reduceLeDiff, Nat.reduceBEq, decide_true, decide_false, reduceCtorEq, Int.reduceLT, Int.reduceNeg, Option.isSome_some, Option.isSome_none, List.length_map, Bool.false_eq_true, List.nil_append, List.append_nil, List.cons_append, Int.toNat_natCast, rvN, Nat.reduceLT, Int.reduceLE, Int.reduceEq, Nat.zero_add, Option.bind_some, eq_self, Nat.add_zero, List.reduceReplicate, List.flatten_cons, List.flatten_nil, List.take_succ_cons, List.take_zero, List.take_nil, List.drop_succ_cons, List.drop_zero, List.drop_nil, Int.lt_irrefl, rvF, rvG, e33, Try.f33, e]
    rw [while_block (ι := Nat × ByteArray) (fun a => ⟨2, [(0, .val 0 false [.p (.int .i64 a.1)]), (3, .val 1 false [.p (.string a.2)])]⟩) (fun a => a.1 + a.2.size ≤ 1099511627776)
      (fun a => .norm ⟨1, [(3, .val 0 false [.p (.string (mkT a.1 a.2))])]⟩) (fun a => a.1) ?_ (i := (n, ⟨#[]⟩)) (by simp only [emptyS]; omega) (by simp only [rv0, rv1, rv2, rv3, rv4, rv5, rv6, rv7, rv8, rv9, rvE, eT, List.length_cons, List.length_nil, List.tail_nil, List.tail_cons, List.contains_cons, List.contains_nil, Bool.false_or, Bool.or_false, Bool.true_or, Bool.or_true, Bool.and_true, Bool.true_and, Bool.and_false, Bool.false_and, Bool.not_true, Bool.not_false, ↓reduceIte, Nat.reduceEqDiff, Nat.reduceAdd, Nat.reduceSub, Nat.reduceMul, Nat.reduceLeDiff, Nat.reduceBEq, decide_true, decide_false, reduceCtorEq, Int.reduceLT, Int.reduceNeg, Option.isSome_some, Option.isSome_none, List.length_map, Bool.false_eq_true, List.nil_append, List.append_nil, List.cons_append, Int.toNat_natCast, rvN, Nat.reduceLT, Int.reduceLE, Int.reduceEq, Nat.zero_add, Option.bind_some, eq_self, Nat.add_zero, List.reduceReplicate, List.flatten_cons, List.flatten_nil, List.take_succ_cons, List.take_zero, List.take_nil, List.drop_succ_cons, List.drop_zero, List.drop_nil, Int.lt_irrefl, rvF, rvG, e33])]
    · have h1 := mkT_size n ⟨#[]⟩
      have h2 : (⟨#[]⟩ : ByteArray).size = 0 := rfl
      have h3 : (ByteArray.mk [109].toArray).size + (mkT n ⟨#[]⟩).size < 9223372036854775807 := by
        have : (ByteArray.mk [109].toArray).size = 1 := rfl
        omega
      simp only [rv0, rv1, rv2, rv3, rv4, rv5, rv6, rv7, rv8, rv9, rvE, eT, List.length_cons, List.length_nil, List.tail_nil, List.tail_cons, List.contains_cons, List.contains_nil, Bool.false_or, Bool.or_false, Bool.true_or, Bool.or_true, Bool.and_true, Bool.true_and, Bool.and_false, Bool.false_and, Bool.not_true, Bool.not_false, ↓reduceIte, Nat.reduceEqDiff, Nat.reduceAdd, Nat.reduceSub, Nat.reduceMul, Nat.reduceLeDiff, Nat.reduceBEq, decide_true, decide_false, reduceCtorEq, Int.reduceLT, Int.reduceNeg, Option.isSome_some, Option.isSome_none, List.length_map, Bool.false_eq_true, List.nil_append, List.append_nil, List.cons_append, Int.toNat_natCast, rvN, Nat.reduceLT, Int.reduceLE, Int.reduceEq, Nat.zero_add, Option.bind_some, eq_self, Nat.add_zero, List.reduceReplicate, List.flatten_cons, List.flatten_nil, List.take_succ_cons, List.take_zero, List.take_nil, List.drop_succ_cons, List.drop_zero, List.drop_nil, Int.lt_irrefl, rvF, rvG, e33, h3, markS, h0]
    · rintro ⟨k, s⟩ hok
      simp only at hok
      by_cases hk : k = 0
      · subst hk
        right
        have e : ¬ (((0 : Nat) : Int) > 0) := by omega
        rw [mkT]
        simp only [rv0, rv1, rv2, rv3, rv4, rv5, rv6, rv7, rv8, rv9, rvE, eT, List.length_cons, List.length_nil, List.tail_nil, List.tail_cons, List.contains_cons, List.contains_nil, Bool.false_or, Bool.or_false, Bool.true_or, Bool.or_true, Bool.and_true, Bool.true_and, Bool.and_false, Bool.false_and, Bool.not_true, Bool.not_false, ↓reduceIte, Nat.reduceEqDiff, Nat.reduceAdd, Nat.reduceSub, Nat.reduceMul, Nat.reduceLeDiff, Nat.reduceBEq, decide_true, decide_false, reduceCtorEq, Int.reduceLT, Int.reduceNeg, Option.isSome_some, Option.isSome_none, List.length_map, Bool.false_eq_true, List.nil_append, List.append_nil, List.cons_append, Int.toNat_natCast, rvN, Nat.reduceLT, Int.reduceLE, Int.reduceEq, Nat.zero_add, Option.bind_some, eq_self, Nat.add_zero, List.reduceReplicate, List.flatten_cons, List.flatten_nil, List.take_succ_cons, List.take_zero, List.take_nil, List.drop_succ_cons, List.drop_zero, List.drop_nil, Int.lt_irrefl, rvF, rvG, e33, e, Int.lt_irrefl]
      · left
        have e : (0 : Int) < (k : Int) := by omega
        have w1 := wrap64 (n := 48 + (k : Int).tmod 10) (by have := Int.tmod_lt_of_pos (k : Int) (show (0 : Int) < 10 by omega); have := Int.tmod_nonneg 10 (show (0 : Int) ≤ k by omega); omega) (by have := Int.tmod_lt_of_pos (k : Int) (show (0 : Int) < 10 by omega); omega)
        have q1 : (k : Int).tdiv 10 = ((k / 10 : Nat) : Int) := by rw [Int.tdiv_eq_ediv_of_nonneg (by omega)]; omega
        have w2 := wrap64 (n := ((k / 10 : Nat) : Int)) (by omega) (by omega)
        have hd : (dig k ++ s).size = 1 + s.size := by rw [ByteArray.size_append]; rfl
        have h3 : (dig k).size + s.size < 9223372036854775807 := by
          have : (dig k).size = 1 := rfl
          omega
        have hdig : (ByteArray.mk [UInt8.ofNat (IntKind.u8.wrap (48 + ((k : Int).tmod 10))).toNat].toArray) = dig k := rfl
        refine ⟨(k / 10, dig k ++ s), ?_, by simp only [hd]; omega, by simp only; omega, ?_⟩
        · simp only [rv0, rv1, rv2, rv3, rv4, rv5, rv6, rv7, rv8, rv9, rvE, eT, List.length_cons, List.length_nil, List.tail_nil, List.tail_cons, List.contains_cons, List.contains_nil, Bool.false_or, Bool.or_false, Bool.true_or, Bool.or_true, Bool.and_true, Bool.true_and, Bool.and_false, Bool.false_and, Bool.not_true, Bool.not_false, ↓reduceIte, Nat.reduceEqDiff, Nat.reduceAdd, Nat.reduceSub, Nat.reduceMul, Nat.reduceLeDiff, Nat.reduceBEq, decide_true, decide_false, reduceCtorEq, Int.reduceLT, Int.reduceNeg, Option.isSome_some, Option.isSome_none, List.length_map, Bool.false_eq_true, List.nil_append, List.append_nil, List.cons_append, Int.toNat_natCast, rvN, Nat.reduceLT, Int.reduceLE, Int.reduceEq, Nat.zero_add, Option.bind_some, eq_self, Nat.add_zero, List.reduceReplicate, List.flatten_cons, List.flatten_nil, List.take_succ_cons, List.take_zero, List.take_nil, List.drop_succ_cons, List.drop_zero, List.drop_nil, Int.lt_irrefl, rvF, rvG, e33, e, w1, q1, w2, hdig, h3]
        · conv => lhs; rw [mkT, if_neg hk]

def markL : Nat → Nat → List (Int × ByteArray)
  | 0, _ => []
  | n + 1, k => ((k : Int), markS (k + 1)) :: markL n (k + 2)

theorem k15 (l : List (Int × ByteArray)) (k : Nat) (hn : l.length ≤ 4194304) (hk : k + 2 * l.length ≤ 1099511627776) : EV Try.prog E 15 [.val 0 false [.sl .own 2 (l.map slotC)], .val 0 false [.p (.int .i64 k)]] =
    some ⟨[(false, [.p (.int .i64 ((k + 2 * l.length : Nat) : Int))])], [[.sl .own 2 ((markL l.length k).map slotC)]]⟩ := by
  refine EV_intro Try.func15 rfl ?_
  simp only [rv0, rv1, rv2, rv3, rv4, rv5, rv6, rv7, rv8, rv9, rvE, eT, List.length_cons, List.length_nil, List.tail_nil, List.tail_cons, List.contains_cons, List.contains_nil, Bool.false_or, Bool.or_false, Bool.true_or, Bool.or_true, Bool.and_true, Bool.true_and, Bool.and_false, Bool.false_and, Bool.not_true, Bool.not_false, ↓reduceIte, Nat.reduceEqDiff, Nat.reduceAdd, Nat.reduceSub, Nat.reduceMul, Nat.reduceLeDiff, Nat.reduceBEq, decide_true, decide_false, reduceCtorEq, Int.reduceLT, Int.reduceNeg, Option.isSome_some, Option.isSome_none, List.length_map, Bool.false_eq_true, List.nil_append, List.append_nil, List.cons_append, Int.toNat_natCast, rvN, Nat.reduceLT, Int.reduceLE, Int.reduceEq, Nat.zero_add, Option.bind_some, eq_self, Nat.add_zero, List.reduceReplicate, List.flatten_cons, List.flatten_nil, List.take_succ_cons, List.take_zero, List.take_nil, List.drop_succ_cons, List.drop_zero, List.drop_nil, Int.lt_irrefl, rvF, rvG, e15, Try.f15]
  rw [for_block l (fun i (a : Nat × List (Int × ByteArray)) => ⟨3, [(0, .val 0 false [.sl .own 2 (a.2.map slotC)]), (1, .val 1 false [.p (.int .i64 a.1)]), (5, .val 2 false [.p (.int .i64 i)])]⟩) (fun i a => a.2.length = l.length ∧ i ≤ l.length ∧ a.1 + 2 * (l.length - i) ≤ 1099511627776)
      (fun r i a => .norm ⟨2, [(0, .val 0 false [.sl .own 2 ((a.2.take i ++ markL r.length a.1).map slotC)]), (1, .val 1 false [.p (.int .i64 ((a.1 + 2 * r.length : Nat) : Int))])]⟩) ?_ ?_ (a := (k, l)) ⟨rfl, by omega, by simpa using hk⟩ (by simp only [rv0, rv1, rv2, rv3, rv4, rv5, rv6, rv7, rv8, rv9, rvE, eT, List.length_cons, List.length_nil, List.tail_nil, List.tail_cons, List.contains_cons, List.contains_nil, Bool.false_or, Bool.or_false, Bool.true_or, Bool.or_true, Bool.and_true, Bool.true_and, Bool.and_false, Bool.false_and, Bool.not_true, Bool.not_false, ↓reduceIte, Nat.reduceEqDiff, Nat.reduceAdd, Nat.reduceSub, Nat.reduceMul, Nat.reduceLeDiff, Nat.reduceBEq, decide_true, decide_false, reduceCtorEq, Int.reduceLT, Int.reduceNeg, Option.isSome_some, Option.isSome_none, List.length_map, Bool.false_eq_true, List.nil_append, List.append_nil, List.cons_append, Int.toNat_natCast, rvN, Nat.reduceLT, Int.reduceLE, Int.reduceEq, Nat.zero_add, Option.bind_some, eq_self, Nat.add_zero, List.reduceReplicate, List.flatten_cons, List.flatten_nil, List.take_succ_cons, List.take_zero, List.take_nil, List.drop_succ_cons, List.drop_zero, List.drop_nil, Int.lt_irrefl, rvF, rvG, e15]; rfl)]
  · simp only [rv0, rv1, rv2, rv3, rv4, rv5, rv6, rv7, rv8, rv9, rvE, eT, List.length_cons, List.length_nil, List.tail_nil, List.tail_cons, List.contains_cons, List.contains_nil, Bool.false_or, Bool.or_false, Bool.true_or, Bool.or_true, Bool.and_true, Bool.true_and, Bool.and_false, Bool.false_and, Bool.not_true, Bool.not_false, ↓reduceIte, Nat.reduceEqDiff, Nat.reduceAdd, Nat.reduceSub, Nat.reduceMul, Nat.reduceLeDiff, Nat.reduceBEq, decide_true, decide_false, reduceCtorEq, Int.reduceLT, Int.reduceNeg, Option.isSome_some, Option.isSome_none, List.length_map, Bool.false_eq_true, List.nil_append, List.append_nil, List.cons_append, Int.toNat_natCast, rvN, Nat.reduceLT, Int.reduceLE, Int.reduceEq, Nat.zero_add, Option.bind_some, eq_self, Nat.add_zero, List.reduceReplicate, List.flatten_cons, List.flatten_nil, List.take_succ_cons, List.take_zero, List.take_nil, List.drop_succ_cons, List.drop_zero, List.drop_nil, Int.lt_irrefl, rvF, rvG, e15]
  · rintro i s r ⟨m, cur⟩ hd hi ⟨hc, hle, hm⟩
    simp only at hc hm
    have hlen := (List.getElem?_eq_some_iff.1 hi).1
    have hlt : ((i : Int) < (cur.length : Int)) := by omega
    have hlen' : i < cur.length := by omega
    have hr := getElem?_map_some (f := slotC) (List.getElem?_eq_getElem hlen')
    have hw0 := wrap64 (n := (m : Int)) (by omega) (by omega)
    have hw1 := wrap64 (n := (m : Int) + 1) (by omega) (by omega)
    have hw2 := wrap64 (n := (m : Int) + 1 + 1) (by omega) (by omega)
    have hwi := wrap64 (n := (i : Int) + 1) (by omega) (by omega)
    have hi0 : (0 : Int) ≤ (i : Int) := by omega
    have h33 := k33 (m + 1) (by omega)
    rw [i64c] at h33
    have hset : ∀ R : List C, ((cur.map slotC).set i R)[i]? = some R := fun R => List.getElem?_set_self (by simpa using hlen')
    have hfin : (cur.map slotC).set i [.p (.int .i64 (m : Int)), .p (.string (markS (m + 1)))] = (cur.set i ((m : Int), markS (m + 1))).map slotC := by rw [List.map_set]; rfl
    have hm2 : ((m + 2 : Nat) : Int) = (m : Int) + 1 + 1 := by omega
    have hrl : r.length = l.length - (i + 1) := by
      have := congrArg List.length hd
      simp at this
      omega
    simp only [slotC] at hr
    left
    refine ⟨(m + 2, cur.set i ((m : Int), markS (m + 1))), ?_, ⟨by simpa using hc, by omega, by simp only; omega⟩, ?_⟩
    · simp only [rv0, rv1, rv2, rv3, rv4, rv5, rv6, rv7, rv8, rv9, rvE, eT, List.length_cons, List.length_nil, List.tail_nil, List.tail_cons, List.contains_cons, List.contains_nil, Bool.false_or, Bool.or_false, Bool.true_or, Bool.or_true, Bool.and_true, Bool.true_and, Bool.and_false, Bool.false_and, Bool.not_true, Bool.not_false, ↓reduceIte, Nat.reduceEqDiff, Nat.reduceAdd, Nat.reduceSub, Nat.reduceMul, Nat.reduceLeDiff, Nat.reduceBEq, decide_true, decide_false, reduceCtorEq, Int.reduceLT, Int.reduceNeg, Option.isSome_some, Option.isSome_none, List.length_map, Bool.false_eq_true, List.nil_append, List.append_nil, List.cons_append, Int.toNat_natCast, rvN, Nat.reduceLT, Int.reduceLE, Int.reduceEq, Nat.zero_add, Option.bind_some, eq_self, Nat.add_zero, List.reduceReplicate, List.flatten_cons, List.flatten_nil, List.take_succ_cons, List.take_zero, List.take_nil, List.drop_succ_cons, List.drop_zero, List.drop_nil, Int.lt_irrefl, rvF, rvG, e15, e33, hlt, hlen', hr, h33, hw0, hw1, hw2, hwi, hi0, i64c, hset, List.set_set, List.length_set, hfin, hm2]
    · have e1 : (cur.set i ((m : Int), markS (m + 1))).take (i + 1) = cur.take i ++ [((m : Int), markS (m + 1))] := by
        rw [List.take_add_one, List.take_set_of_le (Nat.le_refl _), List.getElem?_set_self hlen']
        rfl
      have e2 : m + 2 * (r.length + 1) = m + 2 + 2 * r.length := by omega
      simp only [e1, List.length_cons, markL, List.append_assoc, List.singleton_append, e2]
  · rintro ⟨m, cur⟩ ⟨hc, hle, hm⟩
    simp only at hc
    have hlt : ¬ ((l.length : Int) < (l.length : Int)) := by omega
    have ht : cur.take l.length = cur := by rw [← hc]; exact List.take_length
    simp only [rv0, rv1, rv2, rv3, rv4, rv5, rv6, rv7, rv8, rv9, rvE, eT, List.length_cons, List.length_nil, List.tail_nil, List.tail_cons, List.contains_cons, List.contains_nil, Bool.false_or, Bool.or_false, Bool.true_or, Bool.or_true, Bool.and_true, Bool.true_and, Bool.and_false, Bool.false_and, Bool.not_true, Bool.not_false, ↓reduceIte, Nat.reduceEqDiff, Nat.reduceAdd, Nat.reduceSub, Nat.reduceMul, Nat.reduceLeDiff, Nat.reduceBEq, decide_true, decide_false, reduceCtorEq, Int.reduceLT, Int.reduceNeg, Option.isSome_some, Option.isSome_none, List.length_map, Bool.false_eq_true, List.nil_append, List.append_nil, List.cons_append, Int.toNat_natCast, rvN, Nat.reduceLT, Int.reduceLE, Int.reduceEq, Nat.zero_add, Option.bind_some, eq_self, Nat.add_zero, List.reduceReplicate, List.flatten_cons, List.flatten_nil, List.take_succ_cons, List.take_zero, List.take_nil, List.drop_succ_cons, List.drop_zero, List.drop_nil, Int.lt_irrefl, rvF, rvG, e15, hlt, hc, ht, markL, Nat.mul_zero]

theorem markL_length : ∀ n k, (markL n k).length = n
  | 0, _ => rfl
  | n + 1, k => by simp [markL, markL_length n]
theorem markL_get : ∀ {n k i : Nat} {s : Int × ByteArray}, i < n → (markL n k)[i]? = some s → s = (((k + 2 * i : Nat) : Int), markS (k + 2 * i + 1))
  | n + 1, k, 0, s, _, h => by
    simp [markL] at h
    rw [← h]
    rfl
  | n + 1, k, i + 1, s, hi, h => by
    have := markL_get (n := n) (k := k + 2) (i := i) (s := s) (by omega) (by simpa [markL] using h)
    have e : k + 2 + 2 * i = k + 2 * (i + 1) := by omega
    rw [e] at this
    exact this

theorem k16 (n k : Nat) (hn : n ≤ 4194304) (hk : k + 2 * n ≤ 1099511627776) : EV Try.prog E 16 [.val 0 false [.sl .shr 2 ((markL n k).map slotC)], .val 0 false [.p (.int .i64 k)]] =
    some ⟨[(false, [.p (.int .i64 ((k + 2 * n : Nat) : Int))])], []⟩ := by
  refine EV_intro Try.func16 rfl ?_
  have hlen : (markL n k).length = n := markL_length n k
  simp only [rv0, rv1, rv2, rv3, rv4, rv5, rv6, rv7, rv8, rv9, rvE, eT, List.length_cons, List.length_nil, List.tail_nil, List.tail_cons, List.contains_cons, List.contains_nil, Bool.false_or, Bool.or_false, Bool.true_or, Bool.or_true, Bool.and_true, Bool.true_and, Bool.and_false, Bool.false_and, Bool.not_true, Bool.not_false, ↓reduceIte, Nat.reduceEqDiff, Nat.reduceAdd, Nat.reduceSub, Nat.reduceMul, Nat.reduceLeDiff, Nat.reduceBEq, decide_true, decide_false, reduceCtorEq, Int.reduceLT, Int.reduceNeg, Option.isSome_some, Option.isSome_none, List.length_map, Bool.false_eq_true, List.nil_append, List.append_nil, List.cons_append, Int.toNat_natCast, rvN, Nat.reduceLT, Int.reduceLE, Int.reduceEq, Nat.zero_add, Option.bind_some, eq_self, Nat.add_zero, List.reduceReplicate, List.flatten_cons, List.flatten_nil, List.take_succ_cons, List.take_zero, List.take_nil, List.drop_succ_cons, List.drop_zero, List.drop_nil, Int.lt_irrefl, rvF, rvG, e16, Try.f16]
  rw [for_block (markL n k) (fun i (_ : Unit) => ⟨3, [(0, .val 0 false [.sl .shr 2 ((markL n k).map slotC)]), (1, .val 1 false [.p (.int .i64 ((k + 2 * i : Nat) : Int))]), (5, .val 2 false [.p (.int .i64 i)])]⟩) (fun i a => True)
      (fun r i a => .norm ⟨1, [(1, .val 0 false [.p (.int .i64 ((k + 2 * n : Nat) : Int))])]⟩) ?_ ?_ (a := ()) trivial (by simp only [rv0, rv1, rv2, rv3, rv4, rv5, rv6, rv7, rv8, rv9, rvE, eT, List.length_cons, List.length_nil, List.tail_nil, List.tail_cons, List.contains_cons, List.contains_nil, Bool.false_or, Bool.or_false, Bool.true_or, Bool.or_true, Bool.and_true, Bool.true_and, Bool.and_false, Bool.false_and, Bool.not_true, Bool.not_false, ↓reduceIte, Nat.reduceEqDiff, Nat.reduceAdd, Nat.reduceSub, Nat.reduceMul, Nat.reduceLeDiff, Nat.reduceBEq, decide_true, decide_false, reduceCtorEq, Int.reduceLT, Int.reduceNeg, Option.isSome_some, Option.isSome_none, List.length_map, Bool.false_eq_true, List.nil_append, List.append_nil, List.cons_append, Int.toNat_natCast, rvN, Nat.reduceLT, Int.reduceLE, Int.reduceEq, Nat.zero_add, Option.bind_some, eq_self, Nat.add_zero, List.reduceReplicate, List.flatten_cons, List.flatten_nil, List.take_succ_cons, List.take_zero, List.take_nil, List.drop_succ_cons, List.drop_zero, List.drop_nil, Int.lt_irrefl, rvF, rvG, e16]; rfl)]
  · simp only [rv0, rv1, rv2, rv3, rv4, rv5, rv6, rv7, rv8, rv9, rvE, eT, List.length_cons, List.length_nil, List.tail_nil, List.tail_cons, List.contains_cons, List.contains_nil, Bool.false_or, Bool.or_false, Bool.true_or, Bool.or_true, Bool.and_true, Bool.true_and, Bool.and_false, Bool.false_and, Bool.not_true, Bool.not_false, ↓reduceIte, Nat.reduceEqDiff, Nat.reduceAdd, Nat.reduceSub, Nat.reduceMul, Nat.reduceLeDiff, Nat.reduceBEq, decide_true, decide_false, reduceCtorEq, Int.reduceLT, Int.reduceNeg, Option.isSome_some, Option.isSome_none, List.length_map, Bool.false_eq_true, List.nil_append, List.append_nil, List.cons_append, Int.toNat_natCast, rvN, Nat.reduceLT, Int.reduceLE, Int.reduceEq, Nat.zero_add, Option.bind_some, eq_self, Nat.add_zero, List.reduceReplicate, List.flatten_cons, List.flatten_nil, List.take_succ_cons, List.take_zero, List.take_nil, List.drop_succ_cons, List.drop_zero, List.drop_nil, Int.lt_irrefl, rvF, rvG, e16]
  · intro i s r a hd hi _
    have hl2 := (List.getElem?_eq_some_iff.1 hi).1
    have hlt : ((i : Int) < ((markL n k).length : Int)) := by omega
    have hr := getElem?_map_some (f := slotC) hi
    have hs : s = (((k + 2 * i : Nat) : Int), markS (k + 2 * i + 1)) := markL_get (by omega) hi
    subst hs
    have hwi := wrap64 (n := (i : Int) + 1) (by omega) (by omega)
    have hi0 : (0 : Int) ≤ (i : Int) := by omega
    have hw1 := wrap64 (n := ((k + 2 * i : Nat) : Int) + 1) (by omega) (by omega)
    have hw2 := wrap64 (n := ((k + 2 * i : Nat) : Int) + 1 + 1) (by omega) (by omega)
    have h33 := k33 (k + 2 * i + 1) (by omega)
    rw [i64c] at h33
    have hm2 : ((k + 2 * (i + 1) : Nat) : Int) = ((k + 2 * i : Nat) : Int) + 1 + 1 := by omega
    simp only [slotC] at hr
    left
    refine ⟨(), ?_, trivial, rfl⟩
    simp only [rv0, rv1, rv2, rv3, rv4, rv5, rv6, rv7, rv8, rv9, rvE, eT, List.length_cons, List.length_nil, List.tail_nil, List.tail_cons, List.contains_cons, List.contains_nil, Bool.false_or, Bool.or_false, Bool.true_or, Bool.or_true, Bool.and_true, Bool.true_and, Bool.and_false, Bool.false_and, Bool.not_true, Bool.not_false, ↓reduceIte, Nat.reduceEqDiff, Nat.reduceAdd, Nat.reduceSub, Nat.reduceMul, Nat.reduceLeDiff, Nat.reduceBEq, decide_true, decide_false, reduceCtorEq, Int.reduceLT, Int.reduceNeg, Option.isSome_some, Option.isSome_none, List.length_map, Bool.false_eq_true, List.nil_append, List.append_nil, List.cons_append, Int.toNat_natCast, rvN, Nat.reduceLT, Int.reduceLE, Int.reduceEq, Nat.zero_add, Option.bind_some, eq_self, Nat.add_zero, List.reduceReplicate, List.flatten_cons, List.flatten_nil, List.take_succ_cons, List.take_zero, List.take_nil, List.drop_succ_cons, List.drop_zero, List.drop_nil, Int.lt_irrefl, rvF, rvG, e16, e33, hlt, hr, h33, hw1, hw2, hwi, hi0, i64c, hm2]
  · intro a _
    have hlt : ¬ (((markL n k).length : Int) < ((markL n k).length : Int)) := by omega
    simp only [rv0, rv1, rv2, rv3, rv4, rv5, rv6, rv7, rv8, rv9, rvE, eT, List.length_cons, List.length_nil, List.tail_nil, List.tail_cons, List.contains_cons, List.contains_nil, Bool.false_or, Bool.or_false, Bool.true_or, Bool.or_true, Bool.and_true, Bool.true_and, Bool.and_false, Bool.false_and, Bool.not_true, Bool.not_false, ↓reduceIte, Nat.reduceEqDiff, Nat.reduceAdd, Nat.reduceSub, Nat.reduceMul, Nat.reduceLeDiff, Nat.reduceBEq, decide_true, decide_false, reduceCtorEq, Int.reduceLT, Int.reduceNeg, Option.isSome_some, Option.isSome_none, List.length_map, Bool.false_eq_true, List.nil_append, List.append_nil, List.cons_append, Int.toNat_natCast, rvN, Nat.reduceLT, Int.reduceLE, Int.reduceEq, Nat.zero_add, Option.bind_some, eq_self, Nat.add_zero, List.reduceReplicate, List.flatten_cons, List.flatten_nil, List.take_succ_cons, List.take_zero, List.take_nil, List.drop_succ_cons, List.drop_zero, List.drop_nil, Int.lt_irrefl, rvF, rvG, e16, hlen]

/-! The greater ballots, place by place. -/
def mstep (i : Nat) (x : Int × ByteArray) (out : List (Int × ByteArray)) : List (Int × ByteArray) :=
  match out[i]? with
  | some y => if y.1 < x.1 then out.set i x else out
  | none => out ++ [x]
def mergeGo : List (Int × ByteArray) → Nat → List (Int × ByteArray) → List (Int × ByteArray)
  | [], _, out => out
  | x :: r, i, out => mergeGo r (i + 1) (mstep i x out)
theorem mstep_length (i : Nat) (x : Int × ByteArray) (out : List (Int × ByteArray)) (h : i ≤ out.length) : out.length ≤ (mstep i x out).length ∧ (mstep i x out).length ≤ out.length + 1 ∧ i + 1 ≤ (mstep i x out).length := by
  unfold mstep
  cases ho : out[i]? with
  | none =>
    have := List.getElem?_eq_none_iff.1 ho
    simp
    omega
  | some y =>
    have := (List.getElem?_eq_some_iff.1 ho).1
    simp only
    split
    · simp; omega
    · omega

theorem k11 (a b : List (Int × ByteArray)) (ha : a.length ≤ 2097152) (hb : b.length ≤ 2097152) : EV Try.prog E 11 [.val 0 false [.sl .shr 2 (a.map slotC)], .val 0 false [.sl .shr 2 (b.map slotC)]] =
    some ⟨[(false, [.sl .own 2 ((mergeGo b 0 a).map slotC)])], []⟩ := by
  refine EV_intro Try.func11 rfl ?_
  have h30 := k30 a (by omega)
  simp only [rv0, rv1, rv2, rv3, rv4, rv5, rv6, rv7, rv8, rv9, rvE, eT, List.length_cons, List.length_nil, List.tail_nil, List.tail_cons, List.contains_cons, List.contains_nil, Bool.false_or, Bool.or_false, Bool.true_or, Bool.or_true, Bool.and_true, Bool.true_and, Bool.and_false, Bool.false_and, Bool.not_true, Bool.not_false, ↓reduceIte, Nat.reduceEqDiff, Nat.reduceAdd, Nat.reduceSub, Nat.reduceMul, Nat.reduceLeDiff, Nat.reduceBEq, decide_true, decide_false, reduceCtorEq, Int.reduceLT, Int.reduceNeg, Option.isSome_some, Option.isSome_none, List.length_map, Bool.false_eq_true, List.nil_append, List.append_nil, List.cons_append, Int.toNat_natCast, rvN, Nat.reduceLT, Int.reduceLE, Int.reduceEq, Nat.zero_add, Option.bind_some, eq_self, Nat.add_zero, List.reduceReplicate, List.flatten_cons, List.flatten_nil, List.take_succ_cons, List.take_zero, List.take_nil, List.drop_succ_cons, List.drop_zero, List.drop_nil, Int.lt_irrefl, rvF, rvG, e11, e30, Try.f11, h30, slotFlat]
  rw [for_block b (fun i (o : List (Int × ByteArray)) => ⟨3, [(1, .val 0 false [.sl .shr 2 (b.map slotC)]), (5, .val 1 false [.sl .own 2 (o.map slotC)]), (6, .val 2 false [.p (.int .i64 i)])]⟩) (fun i o => i ≤ o.length ∧ o.length ≤ 2097152 + i)
      (fun r i o => .norm ⟨1, [(5, .val 0 false [.sl .own 2 ((mergeGo r i o).map slotC)])]⟩) ?_ ?_ (a := a) ⟨Nat.zero_le _, by omega⟩ (by simp only [rv0, rv1, rv2, rv3, rv4, rv5, rv6, rv7, rv8, rv9, rvE, eT, List.length_cons, List.length_nil, List.tail_nil, List.tail_cons, List.contains_cons, List.contains_nil, Bool.false_or, Bool.or_false, Bool.true_or, Bool.or_true, Bool.and_true, Bool.true_and, Bool.and_false, Bool.false_and, Bool.not_true, Bool.not_false, ↓reduceIte, Nat.reduceEqDiff, Nat.reduceAdd, Nat.reduceSub, Nat.reduceMul, Nat.reduceLeDiff, Nat.reduceBEq, decide_true, decide_false, reduceCtorEq, Int.reduceLT, Int.reduceNeg, Option.isSome_some, Option.isSome_none, List.length_map, Bool.false_eq_true, List.nil_append, List.append_nil, List.cons_append, Int.toNat_natCast, rvN, Nat.reduceLT, Int.reduceLE, Int.reduceEq, Nat.zero_add, Option.bind_some, eq_self, Nat.add_zero, List.reduceReplicate, List.flatten_cons, List.flatten_nil, List.take_succ_cons, List.take_zero, List.take_nil, List.drop_succ_cons, List.drop_zero, List.drop_nil, Int.lt_irrefl, rvF, rvG, e11]; rfl)]
  · simp only [rv0, rv1, rv2, rv3, rv4, rv5, rv6, rv7, rv8, rv9, rvE, eT, List.length_cons, List.length_nil, List.tail_nil, List.tail_cons, List.contains_cons, List.contains_nil, Bool.false_or, Bool.or_false, Bool.true_or, Bool.or_true, Bool.and_true, Bool.true_and, Bool.and_false, Bool.false_and, Bool.not_true, Bool.not_false, ↓reduceIte, Nat.reduceEqDiff, Nat.reduceAdd, Nat.reduceSub, Nat.reduceMul, Nat.reduceLeDiff, Nat.reduceBEq, decide_true, decide_false, reduceCtorEq, Int.reduceLT, Int.reduceNeg, Option.isSome_some, Option.isSome_none, List.length_map, Bool.false_eq_true, List.nil_append, List.append_nil, List.cons_append, Int.toNat_natCast, rvN, Nat.reduceLT, Int.reduceLE, Int.reduceEq, Nat.zero_add, Option.bind_some, eq_self, Nat.add_zero, List.reduceReplicate, List.flatten_cons, List.flatten_nil, List.take_succ_cons, List.take_zero, List.take_nil, List.drop_succ_cons, List.drop_zero, List.drop_nil, Int.lt_irrefl, rvF, rvG, e11, slotFlat]
  · rintro i s r o hd hi ⟨ho1, ho2⟩
    have hlen := (List.getElem?_eq_some_iff.1 hi).1
    have hlt : ((i : Int) < (b.length : Int)) := by omega
    have hr := getElem?_map_some (f := slotC) hi
    have hwi := wrap64 (n := (i : Int) + 1) (by omega) (by omega)
    have hi0 : (0 : Int) ≤ (i : Int) := by omega
    have hml := mstep_length i s o ho1
    have hL : o.length + 1 < 4294967296 := by omega
    simp only [slotC] at hr
    left
    refine ⟨mstep i s o, ?_, ⟨hml.2.2, by omega⟩, rfl⟩
    by_cases he : i = o.length
    · subst he
      have hm : mstep o.length s o = o ++ [s] := by simp [mstep]
      have hap : (o ++ [s]).map slotC = o.map slotC ++ [[.p (.int .i64 s.1), .p (.string s.2)]] := by simp [slotC]
      simp only [rv0, rv1, rv2, rv3, rv4, rv5, rv6, rv7, rv8, rv9, rvE, eT, List.length_cons, List.length_nil, List.tail_nil, List.tail_cons, List.contains_cons, List.contains_nil, Bool.false_or, Bool.or_false, Bool.true_or, Bool.or_true, Bool.and_true, Bool.true_and, Bool.and_false, Bool.false_and, Bool.not_true, Bool.not_false, ↓reduceIte, Nat.reduceEqDiff, Nat.reduceAdd, Nat.reduceSub, Nat.reduceMul, Nat.reduceLeDiff, Nat.reduceBEq, decide_true, decide_false, reduceCtorEq, Int.reduceLT, Int.reduceNeg, Option.isSome_some, Option.isSome_none, List.length_map, Bool.false_eq_true, List.nil_append, List.append_nil, List.cons_append, Int.toNat_natCast, rvN, Nat.reduceLT, Int.reduceLE, Int.reduceEq, Nat.zero_add, Option.bind_some, eq_self, Nat.add_zero, List.reduceReplicate, List.flatten_cons, List.flatten_nil, List.take_succ_cons, List.take_zero, List.take_nil, List.drop_succ_cons, List.drop_zero, List.drop_nil, Int.lt_irrefl, rvF, rvG, e11, hlt, hr, hwi, hi0, i64c, hm, hap, hL, LIM, slotFlat]
    · have hne : ¬ ((i : Int) = (o.length : Int)) := by omega
      have hio : i < o.length := by omega
      have hlt2 : ((i : Int) < (o.length : Int)) := by omega
      have hoi : o[i]? = some o[i] := List.getElem?_eq_getElem hio
      have hro := getElem?_map_some (f := slotC) hoi
      simp only [slotC] at hro
      by_cases hg : o[i].1 < s.1
      · have hm : mstep i s o = o.set i s := by simp only [mstep, hoi, if_pos hg]
        have hfin : (o.map slotC).set i [.p (.int .i64 s.1), .p (.string s.2)] = (o.set i s).map slotC := by rw [List.map_set]; rfl
        simp only [rv0, rv1, rv2, rv3, rv4, rv5, rv6, rv7, rv8, rv9, rvE, eT, List.length_cons, List.length_nil, List.tail_nil, List.tail_cons, List.contains_cons, List.contains_nil, Bool.false_or, Bool.or_false, Bool.true_or, Bool.or_true, Bool.and_true, Bool.true_and, Bool.and_false, Bool.false_and, Bool.not_true, Bool.not_false, ↓reduceIte, Nat.reduceEqDiff, Nat.reduceAdd, Nat.reduceSub, Nat.reduceMul, Nat.reduceLeDiff, Nat.reduceBEq, decide_true, decide_false, reduceCtorEq, Int.reduceLT, Int.reduceNeg, Option.isSome_some, Option.isSome_none, List.length_map, Bool.false_eq_true, List.nil_append, List.append_nil, List.cons_append, Int.toNat_natCast, rvN, Nat.reduceLT, Int.reduceLE, Int.reduceEq, Nat.zero_add, Option.bind_some, eq_self, Nat.add_zero, List.reduceReplicate, List.flatten_cons, List.flatten_nil, List.take_succ_cons, List.take_zero, List.take_nil, List.drop_succ_cons, List.drop_zero, List.drop_nil, Int.lt_irrefl, rvF, rvG, e11, hlt, hr, hro, hwi, hi0, i64c, hm, hne, hio, hg, hfin]
      · have hm : mstep i s o = o := by simp only [mstep, hoi, if_neg hg]
        simp only [rv0, rv1, rv2, rv3, rv4, rv5, rv6, rv7, rv8, rv9, rvE, eT, List.length_cons, List.length_nil, List.tail_nil, List.tail_cons, List.contains_cons, List.contains_nil, Bool.false_or, Bool.or_false, Bool.true_or, Bool.or_true, Bool.and_true, Bool.true_and, Bool.and_false, Bool.false_and, Bool.not_true, Bool.not_false, ↓reduceIte, Nat.reduceEqDiff, Nat.reduceAdd, Nat.reduceSub, Nat.reduceMul, Nat.reduceLeDiff, Nat.reduceBEq, decide_true, decide_false, reduceCtorEq, Int.reduceLT, Int.reduceNeg, Option.isSome_some, Option.isSome_none, List.length_map, Bool.false_eq_true, List.nil_append, List.append_nil, List.cons_append, Int.toNat_natCast, rvN, Nat.reduceLT, Int.reduceLE, Int.reduceEq, Nat.zero_add, Option.bind_some, eq_self, Nat.add_zero, List.reduceReplicate, List.flatten_cons, List.flatten_nil, List.take_succ_cons, List.take_zero, List.take_nil, List.drop_succ_cons, List.drop_zero, List.drop_nil, Int.lt_irrefl, rvF, rvG, e11, hlt, hr, hro, hwi, hi0, i64c, hm, hne, hio, hg]
  · rintro o ⟨ho1, ho2⟩
    simp only [rv0, rv1, rv2, rv3, rv4, rv5, rv6, rv7, rv8, rv9, rvE, eT, List.length_cons, List.length_nil, List.tail_nil, List.tail_cons, List.contains_cons, List.contains_nil, Bool.false_or, Bool.or_false, Bool.true_or, Bool.or_true, Bool.and_true, Bool.true_and, Bool.and_false, Bool.false_and, Bool.not_true, Bool.not_false, ↓reduceIte, Nat.reduceEqDiff, Nat.reduceAdd, Nat.reduceSub, Nat.reduceMul, Nat.reduceLeDiff, Nat.reduceBEq, decide_true, decide_false, reduceCtorEq, Int.reduceLT, Int.reduceNeg, Option.isSome_some, Option.isSome_none, List.length_map, Bool.false_eq_true, List.nil_append, List.append_nil, List.cons_append, Int.toNat_natCast, rvN, Nat.reduceLT, Int.reduceLE, Int.reduceEq, Nat.zero_add, Option.bind_some, eq_self, Nat.add_zero, List.reduceReplicate, List.flatten_cons, List.flatten_nil, List.take_succ_cons, List.take_zero, List.take_nil, List.drop_succ_cons, List.drop_zero, List.drop_nil, Int.lt_irrefl, rvF, rvG, e11, mergeGo]

theorem k13 (a b : List (Int × ByteArray)) (ha : a.length ≤ 2097152) (hb : b.length ≤ 2097152) : EV Try.prog E 13 [.val 0 false [.sl .shr 2 (a.map slotC)], .val 0 false [.sl .shr 2 (b.map slotC)]] =
    some ⟨[(false, [.sl .own 2 ((mergeGo b 0 a).map slotC)])], []⟩ := by
  refine EV_intro Try.func13 rfl ?_
  have hA : a.length < 4294967296 := by omega
  simp only [rv0, rv1, rv2, rv3, rv4, rv5, rv6, rv7, rv8, rv9, rvE, eT, List.length_cons, List.length_nil, List.tail_nil, List.tail_cons, List.contains_cons, List.contains_nil, Bool.false_or, Bool.or_false, Bool.true_or, Bool.or_true, Bool.and_true, Bool.true_and, Bool.and_false, Bool.false_and, Bool.not_true, Bool.not_false, ↓reduceIte, Nat.reduceEqDiff, Nat.reduceAdd, Nat.reduceSub, Nat.reduceMul, Nat.reduceLeDiff, Nat.reduceBEq, decide_true, decide_false, reduceCtorEq, Int.reduceLT, Int.reduceNeg, Option.isSome_some, Option.isSome_none, List.length_map, Bool.false_eq_true, List.nil_append, List.append_nil, List.cons_append, Int.toNat_natCast, rvN, Nat.reduceLT, Int.reduceLE, Int.reduceEq, Nat.zero_add, Option.bind_some, eq_self, Nat.add_zero, List.reduceReplicate, List.flatten_cons, List.flatten_nil, List.take_succ_cons, List.take_zero, List.take_nil, List.drop_succ_cons, List.drop_zero, List.drop_nil, Int.lt_irrefl, rvF, rvG, e13, Try.f13, hA, LIM, slotFlat]
  rw [for_block b (fun i (o : List (Int × ByteArray)) => ⟨5, [(1, .val 0 false [.sl .shr 2 (b.map slotC)]), (5, .val 1 false [.sl .own 2 (o.map slotC)]), (10, .val 2 false [.sl .shr 2 (b.map slotC)]), (11, .val 3 false [.p (.int .i64 b.length)]), (12, .val 4 false [.p (.int .i64 i)])]⟩) (fun i o => i ≤ o.length ∧ o.length ≤ 2097152 + i)
      (fun r i o => .norm ⟨1, [(5, .val 0 false [.sl .own 2 ((mergeGo r i o).map slotC)])]⟩) ?_ ?_ (a := a) ⟨Nat.zero_le _, by omega⟩ (by simp only [rv0, rv1, rv2, rv3, rv4, rv5, rv6, rv7, rv8, rv9, rvE, eT, List.length_cons, List.length_nil, List.tail_nil, List.tail_cons, List.contains_cons, List.contains_nil, Bool.false_or, Bool.or_false, Bool.true_or, Bool.or_true, Bool.and_true, Bool.true_and, Bool.and_false, Bool.false_and, Bool.not_true, Bool.not_false, ↓reduceIte, Nat.reduceEqDiff, Nat.reduceAdd, Nat.reduceSub, Nat.reduceMul, Nat.reduceLeDiff, Nat.reduceBEq, decide_true, decide_false, reduceCtorEq, Int.reduceLT, Int.reduceNeg, Option.isSome_some, Option.isSome_none, List.length_map, Bool.false_eq_true, List.nil_append, List.append_nil, List.cons_append, Int.toNat_natCast, rvN, Nat.reduceLT, Int.reduceLE, Int.reduceEq, Nat.zero_add, Option.bind_some, eq_self, Nat.add_zero, List.reduceReplicate, List.flatten_cons, List.flatten_nil, List.take_succ_cons, List.take_zero, List.take_nil, List.drop_succ_cons, List.drop_zero, List.drop_nil, Int.lt_irrefl, rvF, rvG, e13]; rfl)]
  · simp only [rv0, rv1, rv2, rv3, rv4, rv5, rv6, rv7, rv8, rv9, rvE, eT, List.length_cons, List.length_nil, List.tail_nil, List.tail_cons, List.contains_cons, List.contains_nil, Bool.false_or, Bool.or_false, Bool.true_or, Bool.or_true, Bool.and_true, Bool.true_and, Bool.and_false, Bool.false_and, Bool.not_true, Bool.not_false, ↓reduceIte, Nat.reduceEqDiff, Nat.reduceAdd, Nat.reduceSub, Nat.reduceMul, Nat.reduceLeDiff, Nat.reduceBEq, decide_true, decide_false, reduceCtorEq, Int.reduceLT, Int.reduceNeg, Option.isSome_some, Option.isSome_none, List.length_map, Bool.false_eq_true, List.nil_append, List.append_nil, List.cons_append, Int.toNat_natCast, rvN, Nat.reduceLT, Int.reduceLE, Int.reduceEq, Nat.zero_add, Option.bind_some, eq_self, Nat.add_zero, List.reduceReplicate, List.flatten_cons, List.flatten_nil, List.take_succ_cons, List.take_zero, List.take_nil, List.drop_succ_cons, List.drop_zero, List.drop_nil, Int.lt_irrefl, rvF, rvG, e13, slotFlat]
  · rintro i s r o hd hi ⟨ho1, ho2⟩
    have hlen := (List.getElem?_eq_some_iff.1 hi).1
    have hlt : ((i : Int) < (b.length : Int)) := by omega
    have hr := getElem?_map_some (f := slotC) hi
    have hwi := wrap64 (n := (i : Int) + 1) (by omega) (by omega)
    have hi0 : (0 : Int) ≤ (i : Int) := by omega
    have hml := mstep_length i s o ho1
    have hL : o.length + 1 < 4294967296 := by omega
    simp only [slotC] at hr
    left
    refine ⟨mstep i s o, ?_, ⟨hml.2.2, by omega⟩, rfl⟩
    by_cases he : i = o.length
    · subst he
      have hm : mstep o.length s o = o ++ [s] := by simp [mstep]
      have hap : (o ++ [s]).map slotC = o.map slotC ++ [[.p (.int .i64 s.1), .p (.string s.2)]] := by simp [slotC]
      simp only [rv0, rv1, rv2, rv3, rv4, rv5, rv6, rv7, rv8, rv9, rvE, eT, List.length_cons, List.length_nil, List.tail_nil, List.tail_cons, List.contains_cons, List.contains_nil, Bool.false_or, Bool.or_false, Bool.true_or, Bool.or_true, Bool.and_true, Bool.true_and, Bool.and_false, Bool.false_and, Bool.not_true, Bool.not_false, ↓reduceIte, Nat.reduceEqDiff, Nat.reduceAdd, Nat.reduceSub, Nat.reduceMul, Nat.reduceLeDiff, Nat.reduceBEq, decide_true, decide_false, reduceCtorEq, Int.reduceLT, Int.reduceNeg, Option.isSome_some, Option.isSome_none, List.length_map, Bool.false_eq_true, List.nil_append, List.append_nil, List.cons_append, Int.toNat_natCast, rvN, Nat.reduceLT, Int.reduceLE, Int.reduceEq, Nat.zero_add, Option.bind_some, eq_self, Nat.add_zero, List.reduceReplicate, List.flatten_cons, List.flatten_nil, List.take_succ_cons, List.take_zero, List.take_nil, List.drop_succ_cons, List.drop_zero, List.drop_nil, Int.lt_irrefl, rvF, rvG, e13, hlt, hr, hwi, hi0, i64c, hm, hap, hL, LIM, slotFlat, Int.le_refl]
    · have hne : ¬ ((o.length : Int) ≤ (i : Int)) := by omega
      have hio : i < o.length := by omega
      have hlt2 : ((i : Int) < (o.length : Int)) := by omega
      have hoi : o[i]? = some o[i] := List.getElem?_eq_getElem hio
      have hro := getElem?_map_some (f := slotC) hoi
      simp only [slotC] at hro
      by_cases hg : o[i].1 < s.1
      · have hm : mstep i s o = o.set i s := by simp only [mstep, hoi, if_pos hg]
        have hfin : (o.map slotC).set i [.p (.int .i64 s.1), .p (.string s.2)] = (o.set i s).map slotC := by rw [List.map_set]; rfl
        simp only [rv0, rv1, rv2, rv3, rv4, rv5, rv6, rv7, rv8, rv9, rvE, eT, List.length_cons, List.length_nil, List.tail_nil, List.tail_cons, List.contains_cons, List.contains_nil, Bool.false_or, Bool.or_false, Bool.true_or, Bool.or_true, Bool.and_true, Bool.true_and, Bool.and_false, Bool.false_and, Bool.not_true, Bool.not_false, ↓reduceIte, Nat.reduceEqDiff, Nat.reduceAdd, Nat.reduceSub, Nat.reduceMul, Nat.reduceLeDiff, Nat.reduceBEq, decide_true, decide_false, reduceCtorEq, Int.reduceLT, Int.reduceNeg, Option.isSome_some, Option.isSome_none, List.length_map, Bool.false_eq_true, List.nil_append, List.append_nil, List.cons_append, Int.toNat_natCast, rvN, Nat.reduceLT, Int.reduceLE, Int.reduceEq, Nat.zero_add, Option.bind_some, eq_self, Nat.add_zero, List.reduceReplicate, List.flatten_cons, List.flatten_nil, List.take_succ_cons, List.take_zero, List.take_nil, List.drop_succ_cons, List.drop_zero, List.drop_nil, Int.lt_irrefl, rvF, rvG, e13, hlt, hr, hro, hwi, hi0, i64c, hm, hne, hio, hg, hfin]
      · have hm : mstep i s o = o := by simp only [mstep, hoi, if_neg hg]
        simp only [rv0, rv1, rv2, rv3, rv4, rv5, rv6, rv7, rv8, rv9, rvE, eT, List.length_cons, List.length_nil, List.tail_nil, List.tail_cons, List.contains_cons, List.contains_nil, Bool.false_or, Bool.or_false, Bool.true_or, Bool.or_true, Bool.and_true, Bool.true_and, Bool.and_false, Bool.false_and, Bool.not_true, Bool.not_false, ↓reduceIte, Nat.reduceEqDiff, Nat.reduceAdd, Nat.reduceSub, Nat.reduceMul, Nat.reduceLeDiff, Nat.reduceBEq, decide_true, decide_false, reduceCtorEq, Int.reduceLT, Int.reduceNeg, Option.isSome_some, Option.isSome_none, List.length_map, Bool.false_eq_true, List.nil_append, List.append_nil, List.cons_append, Int.toNat_natCast, rvN, Nat.reduceLT, Int.reduceLE, Int.reduceEq, Nat.zero_add, Option.bind_some, eq_self, Nat.add_zero, List.reduceReplicate, List.flatten_cons, List.flatten_nil, List.take_succ_cons, List.take_zero, List.take_nil, List.drop_succ_cons, List.drop_zero, List.drop_nil, Int.lt_irrefl, rvF, rvG, e13, hlt, hr, hro, hwi, hi0, i64c, hm, hne, hio, hg]
  · rintro o ⟨ho1, ho2⟩
    simp only [rv0, rv1, rv2, rv3, rv4, rv5, rv6, rv7, rv8, rv9, rvE, eT, List.length_cons, List.length_nil, List.tail_nil, List.tail_cons, List.contains_cons, List.contains_nil, Bool.false_or, Bool.or_false, Bool.true_or, Bool.or_true, Bool.and_true, Bool.true_and, Bool.and_false, Bool.false_and, Bool.not_true, Bool.not_false, ↓reduceIte, Nat.reduceEqDiff, Nat.reduceAdd, Nat.reduceSub, Nat.reduceMul, Nat.reduceLeDiff, Nat.reduceBEq, decide_true, decide_false, reduceCtorEq, Int.reduceLT, Int.reduceNeg, Option.isSome_some, Option.isSome_none, List.length_map, Bool.false_eq_true, List.nil_append, List.append_nil, List.cons_append, Int.toNat_natCast, rvN, Nat.reduceLT, Int.reduceLE, Int.reduceEq, Nat.zero_add, Option.bind_some, eq_self, Nat.add_zero, List.reduceReplicate, List.flatten_cons, List.flatten_nil, List.take_succ_cons, List.take_zero, List.take_nil, List.drop_succ_cons, List.drop_zero, List.drop_nil, Int.lt_irrefl, rvF, rvG, e13, mergeGo]
end Go.Proofs.Ytgbfmjgndcooeaa
