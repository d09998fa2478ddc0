/- FnExactRecBook: what the functions compute. -/
import Derived.Test.YtndcljdmopigeaaR2D
import Derived.Test.YtndcljdmopigeaaM2
namespace Go.Proofs.Ytndcljdmopigeaa
open Go.Sx
set_option maxRecDepth 100000
set_option linter.unusedVariables false
set_option linter.unusedSimpArgs false
def texts (l : List VRecSlot) : List ByteArray := l.map (·.text)
def agreed (x : VRecorder) : List VRecSlot := x.disk.slots.take x.disk.known.toNat
def book (x : VRecorder) : List ByteArray := if valid x = true then texts (agreed x) else []
theorem valid_known {x : VRecorder} (h : valid x = true) : 0 ≤ x.disk.known ∧ x.disk.known ≤ x.disk.slots.length := by
  simp only [valid, diskOk, inR, Bool.and_eq_true, decide_eq_true_eq] at h
  obtain ⟨_, _, _, ⟨_, _, h, _⟩, _⟩ := h
  exact h
theorem texts_take {l : List VRecSlot} {i : Nat} {s : VRecSlot} (h : l[i]? = some s) : (texts (l.take (i + 1))).map strC = (texts (l.take i)).map strC ++ [[.p (.string s.text)]] := by
  rw [List.take_add_one, h]
  simp [texts, strC]
theorem texts_length (l : List VRecSlot) : (texts l).length = l.length := by simp [texts]
theorem k25 (x : VRecorder) (hw : x.w ≤ 4194304) : EV Try.prog E 25 [.val 0 true (x.c .shr)] = some ⟨[(false, [.sl .own 1 ((book x).map strC)])], []⟩ := by
  refine EV_intro Try.func25 rfl ?_
  have h17 := k17 x hw
  simp only [VRecorder.c] at h17
  unfold book
  cases d : valid x
  · simp only [rv0, rv1, rv2, rv3, rv4, rv5, rv6, rv7, rv8, rv9, rv10, rvE, rvH, eT, List.length_cons, List.length_nil, List.tail_nil, List.tail_cons, List.contains_cons, List.contains_nil, Bool.false_or, Bool.or_false, Bool.true_or, Bool.or_true, Bool.and_true, Bool.true_and, Bool.and_false, Bool.false_and, Bool.not_true, Bool.not_false, ↓reduceIte, Nat.reduceEqDiff, Nat.reduceAdd, Nat.reduceSub, Nat.reduceMul, Nat.reduceLeDiff, Nat.reduceBEq, decide_true, decide_false, reduceCtorEq, Int.reduceLT, Int.reduceNeg, Option.isSome_some, Option.isSome_none, List.length_map, Bool.false_eq_true, List.nil_append, List.append_nil, List.cons_append, Int.toNat_natCast, rvN, Nat.reduceLT, Int.reduceLE, Int.reduceEq, Nat.zero_add, Option.bind_some, eq_self, Nat.add_zero, List.reduceReplicate, List.flatten_cons, List.flatten_nil, List.take_succ_cons, List.take_zero, List.take_nil, List.drop_succ_cons, List.drop_zero, List.drop_nil, Int.lt_irrefl, rvF, rvG, List.isEmpty_nil, List.isEmpty_cons, e25, e17, Try.f25, VRecorder.c, h17, d, List.map_nil]
  · obtain ⟨h1, h2⟩ := valid_known d
    have hsl : x.disk.slots.length ≤ 4194304 := by unfold VRecorder.w VRecDisk.w wSRecSlot at hw; omega
    have hal : ((agreed x).length : Int) = x.disk.known := by unfold agreed; simp; omega
    simp only [rv0, rv1, rv2, rv3, rv4, rv5, rv6, rv7, rv8, rv9, rv10, rvE, rvH, eT, List.length_cons, List.length_nil, List.tail_nil, List.tail_cons, List.contains_cons, List.contains_nil, Bool.false_or, Bool.or_false, Bool.true_or, Bool.or_true, Bool.and_true, Bool.true_and, Bool.and_false, Bool.false_and, Bool.not_true, Bool.not_false, ↓reduceIte, Nat.reduceEqDiff, Nat.reduceAdd, Nat.reduceSub, Nat.reduceMul, Nat.reduceLeDiff, Nat.reduceBEq, decide_true, decide_false, reduceCtorEq, Int.reduceLT, Int.reduceNeg, Option.isSome_some, Option.isSome_none, List.length_map, Bool.false_eq_true, List.nil_append, List.append_nil, List.cons_append, Int.toNat_natCast, rvN, Nat.reduceLT, Int.reduceLE, Int.reduceEq, Nat.zero_add, Option.bind_some, eq_self, Nat.add_zero, List.reduceReplicate, List.flatten_cons, List.flatten_nil, List.take_succ_cons, List.take_zero, List.take_nil, List.drop_succ_cons, List.drop_zero, List.drop_nil, Int.lt_irrefl, rvF, rvG, List.isEmpty_nil, List.isEmpty_cons, e25, e17, Try.f25, VRecorder.c, h17, d]
    rw [for_block (agreed x) (fun i (_ : Unit) => ⟨3, [(1, .box 0 0 (x.c .shr)), (3, .val 1 false [.sl .own 1 ((texts ((agreed x).take i)).map strC)]), (4, .val 2 false [.p (.int .i64 i)])]⟩) (fun i _ => True)
      (fun r i a => .norm ⟨1, [(3, .val 0 false [.sl .own 1 ((texts (agreed x)).map strC)])]⟩) ?_ ?_ (a := ()) trivial (by simp only [rv0, rv1, rv2, rv3, rv4, rv5, rv6, rv7, rv8, rv9, rv10, rvE, rvH, eT, List.length_cons, List.length_nil, List.tail_nil, List.tail_cons, List.contains_cons, List.contains_nil, Bool.false_or, Bool.or_false, Bool.true_or, Bool.or_true, Bool.and_true, Bool.true_and, Bool.and_false, Bool.false_and, Bool.not_true, Bool.not_false, ↓reduceIte, Nat.reduceEqDiff, Nat.reduceAdd, Nat.reduceSub, Nat.reduceMul, Nat.reduceLeDiff, Nat.reduceBEq, decide_true, decide_false, reduceCtorEq, Int.reduceLT, Int.reduceNeg, Option.isSome_some, Option.isSome_none, List.length_map, Bool.false_eq_true, List.nil_append, List.append_nil, List.cons_append, Int.toNat_natCast, rvN, Nat.reduceLT, Int.reduceLE, Int.reduceEq, Nat.zero_add, Option.bind_some, eq_self, Nat.add_zero, List.reduceReplicate, List.flatten_cons, List.flatten_nil, List.take_succ_cons, List.take_zero, List.take_nil, List.drop_succ_cons, List.drop_zero, List.drop_nil, Int.lt_irrefl, rvF, rvG, List.isEmpty_nil, List.isEmpty_cons, e25, VRecorder.c, List.take_zero, texts, List.map_nil]; rfl)]
    · simp only [rv0, rv1, rv2, rv3, rv4, rv5, rv6, rv7, rv8, rv9, rv10, rvE, rvH, eT, List.length_cons, List.length_nil, List.tail_nil, List.tail_cons, List.contains_cons, List.contains_nil, Bool.false_or, Bool.or_false, Bool.true_or, Bool.or_true, Bool.and_true, Bool.true_and, Bool.and_false, Bool.false_and, Bool.not_true, Bool.not_false, ↓reduceIte, Nat.reduceEqDiff, Nat.reduceAdd, Nat.reduceSub, Nat.reduceMul, Nat.reduceLeDiff, Nat.reduceBEq, decide_true, decide_false, reduceCtorEq, Int.reduceLT, Int.reduceNeg, Option.isSome_some, Option.isSome_none, List.length_map, Bool.false_eq_true, List.nil_append, List.append_nil, List.cons_append, Int.toNat_natCast, rvN, Nat.reduceLT, Int.reduceLE, Int.reduceEq, Nat.zero_add, Option.bind_some, eq_self, Nat.add_zero, List.reduceReplicate, List.flatten_cons, List.flatten_nil, List.take_succ_cons, List.take_zero, List.take_nil, List.drop_succ_cons, List.drop_zero, List.drop_nil, Int.lt_irrefl, rvF, rvG, List.isEmpty_nil, List.isEmpty_cons, e25, rowsString]
    · intro i s r a hd hi _
      have hlen := (List.getElem?_eq_some_iff.1 hi).1
      have hlt : (i : Int) < x.disk.known := by omega
      have hi2 : x.disk.slots[i]? = some s := by
        unfold agreed at hi
        rw [List.getElem?_take] at hi
        split at hi
        · exact hi
        · cases hi
      have hl2 := (List.getElem?_eq_some_iff.1 hi2).1
      have hr := getElem?_map_some (f := VRecSlot.c) hi2
      have hwi := wrap64 (n := (i : Int) + 1) (by omega) (by omega)
      have hi0 : (0 : Int) ≤ (i : Int) := by omega
      have hL : ((texts ((agreed x).take i)).map strC).length + 1 < 4294967296 := by rw [List.length_map, texts_length, List.length_take]; omega
      have hL2 : (texts ((agreed x).take i)).length + 1 < 4294967296 := by rw [texts_length, List.length_take]; omega
      have ht := texts_take hi
      simp only [VRecSlot.c] at hr
      left
      refine ⟨(), ?_, trivial, rfl⟩
      rw [ht]
      simp only [rv0, rv1, rv2, rv3, rv4, rv5, rv6, rv7, rv8, rv9, rv10, rvE, rvH, eT, List.length_cons, List.length_nil, List.tail_nil, List.tail_cons, List.contains_cons, List.contains_nil, Bool.false_or, Bool.or_false, Bool.true_or, Bool.or_true, Bool.and_true, Bool.true_and, Bool.and_false, Bool.false_and, Bool.not_true, Bool.not_false, ↓reduceIte, Nat.reduceEqDiff, Nat.reduceAdd, Nat.reduceSub, Nat.reduceMul, Nat.reduceLeDiff, Nat.reduceBEq, decide_true, decide_false, reduceCtorEq, Int.reduceLT, Int.reduceNeg, Option.isSome_some, Option.isSome_none, List.length_map, Bool.false_eq_true, List.nil_append, List.append_nil, List.cons_append, Int.toNat_natCast, rvN, Nat.reduceLT, Int.reduceLE, Int.reduceEq, Nat.zero_add, Option.bind_some, eq_self, Nat.add_zero, List.reduceReplicate, List.flatten_cons, List.flatten_nil, List.take_succ_cons, List.take_zero, List.take_nil, List.drop_succ_cons, List.drop_zero, List.drop_nil, Int.lt_irrefl, rvF, rvG, List.isEmpty_nil, List.isEmpty_cons, e25, VRecorder.c, hlt, hr, hwi, hi0, hL, hL2, LIM, hlen, hl2, i64c, rowsString]
    · intro a _
      have hge : ¬ (((agreed x).length : Int) < x.disk.known) := by omega
      simp only [rv0, rv1, rv2, rv3, rv4, rv5, rv6, rv7, rv8, rv9, rv10, rvE, rvH, eT, List.length_cons, List.length_nil, List.tail_nil, List.tail_cons, List.contains_cons, List.contains_nil, Bool.false_or, Bool.or_false, Bool.true_or, Bool.or_true, Bool.and_true, Bool.true_and, Bool.and_false, Bool.false_and, Bool.not_true, Bool.not_false, ↓reduceIte, Nat.reduceEqDiff, Nat.reduceAdd, Nat.reduceSub, Nat.reduceMul, Nat.reduceLeDiff, Nat.reduceBEq, decide_true, decide_false, reduceCtorEq, Int.reduceLT, Int.reduceNeg, Option.isSome_some, Option.isSome_none, List.length_map, Bool.false_eq_true, List.nil_append, List.append_nil, List.cons_append, Int.toNat_natCast, rvN, Nat.reduceLT, Int.reduceLE, Int.reduceEq, Nat.zero_add, Option.bind_some, eq_self, Nat.add_zero, List.reduceReplicate, List.flatten_cons, List.flatten_nil, List.take_succ_cons, List.take_zero, List.take_nil, List.drop_succ_cons, List.drop_zero, List.drop_nil, Int.lt_irrefl, rvF, rvG, List.isEmpty_nil, List.isEmpty_cons, e25, VRecorder.c, hge, List.take_length]
theorem k87 (x : VRecorder) (hw : x.w ≤ 4194304) (h1 : 0 ≤ x.disk.known) (h2 : x.disk.known ≤ x.disk.slots.length) : EV Try.prog E 87 [.box 0 0 (x.c .shr)] = some ⟨[(false, [.sl .own 1 ((texts (agreed x)).map strC)])], [x.c .shr]⟩ := by
  refine EV_intro Try.func87 rfl ?_
  have hsl : x.disk.slots.length ≤ 4194304 := by unfold VRecorder.w VRecDisk.w wSRecSlot at hw; omega
  have hal : ((agreed x).length : Int) = x.disk.known := by unfold agreed; simp; omega
  have hm : List.take x.disk.known.toNat (x.disk.slots.map VRecSlot.c) = (agreed x).map VRecSlot.c := by unfold agreed; rw [List.map_take]
  have h3 : x.disk.known.toNat ≤ x.disk.slots.length := by omega
  have h0 : 0 ≤ x.disk.known.toNat := Nat.zero_le _
  simp only [rv0, rv1, rv2, rv3, rv4, rv5, rv6, rv7, rv8, rv9, rv10, rvE, rvH, eT, List.length_cons, List.length_nil, List.tail_nil, List.tail_cons, List.contains_cons, List.contains_nil, Bool.false_or, Bool.or_false, Bool.true_or, Bool.or_true, Bool.and_true, Bool.true_and, Bool.and_false, Bool.false_and, Bool.not_true, Bool.not_false, ↓reduceIte, Nat.reduceEqDiff, Nat.reduceAdd, Nat.reduceSub, Nat.reduceMul, Nat.reduceLeDiff, Nat.reduceBEq, decide_true, decide_false, reduceCtorEq, Int.reduceLT, Int.reduceNeg, Option.isSome_some, Option.isSome_none, List.length_map, Bool.false_eq_true, List.nil_append, List.append_nil, List.cons_append, Int.toNat_natCast, rvN, Nat.reduceLT, Int.reduceLE, Int.reduceEq, Nat.zero_add, Option.bind_some, eq_self, Nat.add_zero, List.reduceReplicate, List.flatten_cons, List.flatten_nil, List.take_succ_cons, List.take_zero, List.take_nil, List.drop_succ_cons, List.drop_zero, List.drop_nil, Int.lt_irrefl, rvF, rvG, List.isEmpty_nil, List.isEmpty_cons, e87, Try.f87, VRecorder.c, h1, h3, h0, hm, Nat.sub_zero]
  rw [for_block (agreed x) (fun i (_ : Unit) => ⟨5, [(0, .box 0 0 (x.c .shr)), (3, .val 1 false [.sl .own 1 ((texts ((agreed x).take i)).map strC)]), (16, .val 2 false [.sl .shr 2 ((agreed x).map VRecSlot.c)]), (17, .val 3 false [.p (.int .i64 (agreed x).length)]), (18, .val 4 false [.p (.int .i64 i)])]⟩) (fun i _ => True)
      (fun r i a => .norm ⟨2, [(0, .box 0 0 (x.c .shr)), (3, .val 1 false [.sl .own 1 ((texts (agreed x)).map strC)])]⟩) ?_ ?_ (a := ()) trivial (by simp only [rv0, rv1, rv2, rv3, rv4, rv5, rv6, rv7, rv8, rv9, rv10, rvE, rvH, eT, List.length_cons, List.length_nil, List.tail_nil, List.tail_cons, List.contains_cons, List.contains_nil, Bool.false_or, Bool.or_false, Bool.true_or, Bool.or_true, Bool.and_true, Bool.true_and, Bool.and_false, Bool.false_and, Bool.not_true, Bool.not_false, ↓reduceIte, Nat.reduceEqDiff, Nat.reduceAdd, Nat.reduceSub, Nat.reduceMul, Nat.reduceLeDiff, Nat.reduceBEq, decide_true, decide_false, reduceCtorEq, Int.reduceLT, Int.reduceNeg, Option.isSome_some, Option.isSome_none, List.length_map, Bool.false_eq_true, List.nil_append, List.append_nil, List.cons_append, Int.toNat_natCast, rvN, Nat.reduceLT, Int.reduceLE, Int.reduceEq, Nat.zero_add, Option.bind_some, eq_self, Nat.add_zero, List.reduceReplicate, List.flatten_cons, List.flatten_nil, List.take_succ_cons, List.take_zero, List.take_nil, List.drop_succ_cons, List.drop_zero, List.drop_nil, Int.lt_irrefl, rvF, rvG, List.isEmpty_nil, List.isEmpty_cons, e87, VRecorder.c, List.take_zero, texts, List.map_nil]; rfl)]
  · simp only [rv0, rv1, rv2, rv3, rv4, rv5, rv6, rv7, rv8, rv9, rv10, rvE, rvH, eT, List.length_cons, List.length_nil, List.tail_nil, List.tail_cons, List.contains_cons, List.contains_nil, Bool.false_or, Bool.or_false, Bool.true_or, Bool.or_true, Bool.and_true, Bool.true_and, Bool.and_false, Bool.false_and, Bool.not_true, Bool.not_false, ↓reduceIte, Nat.reduceEqDiff, Nat.reduceAdd, Nat.reduceSub, Nat.reduceMul, Nat.reduceLeDiff, Nat.reduceBEq, decide_true, decide_false, reduceCtorEq, Int.reduceLT, Int.reduceNeg, Option.isSome_some, Option.isSome_none, List.length_map, Bool.false_eq_true, List.nil_append, List.append_nil, List.cons_append, Int.toNat_natCast, rvN, Nat.reduceLT, Int.reduceLE, Int.reduceEq, Nat.zero_add, Option.bind_some, eq_self, Nat.add_zero, List.reduceReplicate, List.flatten_cons, List.flatten_nil, List.take_succ_cons, List.take_zero, List.take_nil, List.drop_succ_cons, List.drop_zero, List.drop_nil, Int.lt_irrefl, rvF, rvG, List.isEmpty_nil, List.isEmpty_cons, e87, VRecorder.c, rowsString]
  · intro i s r a hd hi _
    have hlen := (List.getElem?_eq_some_iff.1 hi).1
    have hlt : (i : Int) < ((agreed x).length : Int) := by omega
    have hr := getElem?_map_some (f := VRecSlot.c) hi
    have hwi := wrap64 (n := (i : Int) + 1) (by omega) (by omega)
    have hi0 : (0 : Int) ≤ (i : Int) := by omega
    have hL : (texts ((agreed x).take i)).length + 1 < 4294967296 := by rw [texts_length, List.length_take]; omega
    have ht := texts_take hi
    simp only [VRecSlot.c] at hr
    left
    refine ⟨(), ?_, trivial, rfl⟩
    rw [ht]
    simp only [rv0, rv1, rv2, rv3, rv4, rv5, rv6, rv7, rv8, rv9, rv10, rvE, rvH, eT, List.length_cons, List.length_nil, List.tail_nil, List.tail_cons, List.contains_cons, List.contains_nil, Bool.false_or, Bool.or_false, Bool.true_or, Bool.or_true, Bool.and_true, Bool.true_and, Bool.and_false, Bool.false_and, Bool.not_true, Bool.not_false, ↓reduceIte, Nat.reduceEqDiff, Nat.reduceAdd, Nat.reduceSub, Nat.reduceMul, Nat.reduceLeDiff, Nat.reduceBEq, decide_true, decide_false, reduceCtorEq, Int.reduceLT, Int.reduceNeg, Option.isSome_some, Option.isSome_none, List.length_map, Bool.false_eq_true, List.nil_append, List.append_nil, List.cons_append, Int.toNat_natCast, rvN, Nat.reduceLT, Int.reduceLE, Int.reduceEq, Nat.zero_add, Option.bind_some, eq_self, Nat.add_zero, List.reduceReplicate, List.flatten_cons, List.flatten_nil, List.take_succ_cons, List.take_zero, List.take_nil, List.drop_succ_cons, List.drop_zero, List.drop_nil, Int.lt_irrefl, rvF, rvG, List.isEmpty_nil, List.isEmpty_cons, e87, VRecorder.c, hlt, hr, hwi, hi0, hL, LIM, hlen, i64c, rowsString]
  · intro a _
    simp only [rv0, rv1, rv2, rv3, rv4, rv5, rv6, rv7, rv8, rv9, rv10, rvE, rvH, eT, List.length_cons, List.length_nil, List.tail_nil, List.tail_cons, List.contains_cons, List.contains_nil, Bool.false_or, Bool.or_false, Bool.true_or, Bool.or_true, Bool.and_true, Bool.true_and, Bool.and_false, Bool.false_and, Bool.not_true, Bool.not_false, ↓reduceIte, Nat.reduceEqDiff, Nat.reduceAdd, Nat.reduceSub, Nat.reduceMul, Nat.reduceLeDiff, Nat.reduceBEq, decide_true, decide_false, reduceCtorEq, Int.reduceLT, Int.reduceNeg, Option.isSome_some, Option.isSome_none, List.length_map, Bool.false_eq_true, List.nil_append, List.append_nil, List.cons_append, Int.toNat_natCast, rvN, Nat.reduceLT, Int.reduceLE, Int.reduceEq, Nat.zero_add, Option.bind_some, eq_self, Nat.add_zero, List.reduceReplicate, List.flatten_cons, List.flatten_nil, List.take_succ_cons, List.take_zero, List.take_nil, List.drop_succ_cons, List.drop_zero, List.drop_nil, Int.lt_irrefl, rvF, rvG, List.isEmpty_nil, List.isEmpty_cons, e87, VRecorder.c, List.take_length]
theorem k26 (x : VRecorder) (hw : x.w ≤ 4194304) : EV Try.prog E 26 [.val 0 true (x.c .shr)] = some ⟨[(false, [.sl .own 1 ((book x).map strC)])], []⟩ := by
  refine EV_intro Try.func26 rfl ?_
  have h19 := k19 x hw
  simp only [VRecorder.c] at h19
  unfold book
  cases d : valid x
  · simp only [rv0, rv1, rv2, rv3, rv4, rv5, rv6, rv7, rv8, rv9, rv10, rvE, rvH, eT, List.length_cons, List.length_nil, List.tail_nil, List.tail_cons, List.contains_cons, List.contains_nil, Bool.false_or, Bool.or_false, Bool.true_or, Bool.or_true, Bool.and_true, Bool.true_and, Bool.and_false, Bool.false_and, Bool.not_true, Bool.not_false, ↓reduceIte, Nat.reduceEqDiff, Nat.reduceAdd, Nat.reduceSub, Nat.reduceMul, Nat.reduceLeDiff, Nat.reduceBEq, decide_true, decide_false, reduceCtorEq, Int.reduceLT, Int.reduceNeg, Option.isSome_some, Option.isSome_none, List.length_map, Bool.false_eq_true, List.nil_append, List.append_nil, List.cons_append, Int.toNat_natCast, rvN, Nat.reduceLT, Int.reduceLE, Int.reduceEq, Nat.zero_add, Option.bind_some, eq_self, Nat.add_zero, List.reduceReplicate, List.flatten_cons, List.flatten_nil, List.take_succ_cons, List.take_zero, List.take_nil, List.drop_succ_cons, List.drop_zero, List.drop_nil, Int.lt_irrefl, rvF, rvG, List.isEmpty_nil, List.isEmpty_cons, e26, e19, Try.f26, VRecorder.c, h19, d, List.map_nil]
  · obtain ⟨h1, h2⟩ := valid_known d
    have h87 := k87 x hw h1 h2
    simp only [VRecorder.c] at h87
    simp only [rv0, rv1, rv2, rv3, rv4, rv5, rv6, rv7, rv8, rv9, rv10, rvE, rvH, eT, List.length_cons, List.length_nil, List.tail_nil, List.tail_cons, List.contains_cons, List.contains_nil, Bool.false_or, Bool.or_false, Bool.true_or, Bool.or_true, Bool.and_true, Bool.true_and, Bool.and_false, Bool.false_and, Bool.not_true, Bool.not_false, ↓reduceIte, Nat.reduceEqDiff, Nat.reduceAdd, Nat.reduceSub, Nat.reduceMul, Nat.reduceLeDiff, Nat.reduceBEq, decide_true, decide_false, reduceCtorEq, Int.reduceLT, Int.reduceNeg, Option.isSome_some, Option.isSome_none, List.length_map, Bool.false_eq_true, List.nil_append, List.append_nil, List.cons_append, Int.toNat_natCast, rvN, Nat.reduceLT, Int.reduceLE, Int.reduceEq, Nat.zero_add, Option.bind_some, eq_self, Nat.add_zero, List.reduceReplicate, List.flatten_cons, List.flatten_nil, List.take_succ_cons, List.take_zero, List.take_nil, List.drop_succ_cons, List.drop_zero, List.drop_nil, Int.lt_irrefl, rvF, rvG, List.isEmpty_nil, List.isEmpty_cons, e26, e19, e87, Try.f26, VRecorder.c, h19, h87, d, rowsString]
theorem texts_w (l : List VRecSlot) : ∀ k, (texts (l.take k)).length ≤ l.length ∧ sumWString (texts (l.take k)) ≤ sumWRecSlot l := by
  induction l with
  | nil => intro k; simp [texts, sumWString]
  | cons x r ih =>
    intro k
    cases k with
    | zero => simp [texts, sumWString]
    | succ k =>
      have := ih k
      simp only [texts, List.take_succ_cons, List.map_cons, List.length_cons, sumWString, sumWRecSlot, VRecSlot.w] at this ⊢
      omega
theorem book_w (x : VRecorder) : wSString (book x) ≤ x.w := by
  unfold book
  split
  · have := texts_w x.disk.slots x.disk.known.toNat
    unfold agreed wSString VRecorder.w VRecDisk.w wSRecSlot
    omega
  · simp [wSString, sumWString]
theorem mcString_len (l : List ByteArray) : mcL mcString l = l.length := by
  induction l with
  | nil => rfl
  | cons x r ih => simp only [mcL, mcString, List.length_cons, ih]; omega
theorem k6 (x : VRecorder) (hx : x.ok) : EV Try.prog E 6 [.val 0 true (x.c .shr)] = some ⟨[(false, [.p (.bool true)])], []⟩ := by
  refine EV_intro Try.func6 rfl ?_
  have hz := k_szRecorder x 1048576 hx (by omega) (by omega)
  simp only [VRecorder.c] at hz
  by_cases hc : (1048576 : Int) < x.w
  · rw [subW_lt hc] at hz
    simp only [rv0, rv1, rv2, rv3, rv4, rv5, rv6, rv7, rv8, rv9, rv10, rvE, rvH, eT, List.length_cons, List.length_nil, List.tail_nil, List.tail_cons, List.contains_cons, List.contains_nil, Bool.false_or, Bool.or_false, Bool.true_or, Bool.or_true, Bool.and_true, Bool.true_and, Bool.and_false, Bool.false_and, Bool.not_true, Bool.not_false, ↓reduceIte, Nat.reduceEqDiff, Nat.reduceAdd, Nat.reduceSub, Nat.reduceMul, Nat.reduceLeDiff, Nat.reduceBEq, decide_true, decide_false, reduceCtorEq, Int.reduceLT, Int.reduceNeg, Option.isSome_some, Option.isSome_none, List.length_map, Bool.false_eq_true, List.nil_append, List.append_nil, List.cons_append, Int.toNat_natCast, rvN, Nat.reduceLT, Int.reduceLE, Int.reduceEq, Nat.zero_add, Option.bind_some, eq_self, Nat.add_zero, List.reduceReplicate, List.flatten_cons, List.flatten_nil, List.take_succ_cons, List.take_zero, List.take_nil, List.drop_succ_cons, List.drop_zero, List.drop_nil, Int.lt_irrefl, rvF, rvG, List.isEmpty_nil, List.isEmpty_cons, e6, e16, Try.f6, VRecorder.c, hz]
  · rw [subW_ge hc] at hz
    have hnn : ¬ ((1048576 : Int) - x.w < 0) := by omega
    have hw : x.w ≤ 4194304 := by omega
    have hoc := oc_leRecorder x
    have hbw := book_w x
    have hbl := mcString_len (book x)
    have hbn : (book x).length ≤ wSString (book x) := by unfold wSString; omega
    have h18 := k_toRecorder x hw
    have h25 := k25 x hw
    have h26 := k26 x hw
    have h13 := k_eqRecorder x hw
    have h27 := k_eqStringS (book x) (by omega)
    have h14 := k_markRecorder x 1 (by omega) (by omega)
    have h28 := k_markStringS (book x) 1 (by omega) (by omega)
    have h29 := k_heldStringS (book x) 1 (by omega) (by omega)
    have hn : ¬ (1 + (ocRecorder x : Int) < 0) := by omega
    have hn2 : ¬ (1 + (mcL mcString (book x) : Int) < 0) := by omega
    simp only [VRecorder.c, moRecorder, moRecDisk] at h13 h14 h18 h25 h26
    simp only [rv0, rv1, rv2, rv3, rv4, rv5, rv6, rv7, rv8, rv9, rv10, rvE, rvH, eT, List.length_cons, List.length_nil, List.tail_nil, List.tail_cons, List.contains_cons, List.contains_nil, Bool.false_or, Bool.or_false, Bool.true_or, Bool.or_true, Bool.and_true, Bool.true_and, Bool.and_false, Bool.false_and, Bool.not_true, Bool.not_false, ↓reduceIte, Nat.reduceEqDiff, Nat.reduceAdd, Nat.reduceSub, Nat.reduceMul, Nat.reduceLeDiff, Nat.reduceBEq, decide_true, decide_false, reduceCtorEq, Int.reduceLT, Int.reduceNeg, Option.isSome_some, Option.isSome_none, List.length_map, Bool.false_eq_true, List.nil_append, List.append_nil, List.cons_append, Int.toNat_natCast, rvN, Nat.reduceLT, Int.reduceLE, Int.reduceEq, Nat.zero_add, Option.bind_some, eq_self, Nat.add_zero, List.reduceReplicate, List.flatten_cons, List.flatten_nil, List.take_succ_cons, List.take_zero, List.take_nil, List.drop_succ_cons, List.drop_zero, List.drop_nil, Int.lt_irrefl, rvF, rvG, List.isEmpty_nil, List.isEmpty_cons, e6, e13, e14, e16, e18, e25, e26, e27, e28, e29, Try.f6, VRecorder.c, hz, hnn, h13, h14, h18, h25, h26, h27, h28, h29, hn, hn2, beq_self_eq_true, rowsRecSlot, rowsRecMessage, rowsString, rowsInt, rowsRecAck]
end Go.Proofs.Ytndcljdmopigeaa
