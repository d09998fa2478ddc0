/- Copies: what the functions compute. -/
import Derived.Test.YtjcbojcnfdlfaaaF5
import Derived.Test.YtjcbojcnfdlfaaaSxD
namespace Go.Proofs.Ytjcbojcnfdlfaaa
open Go.Sx
set_option maxRecDepth 100000
set_option linter.unusedVariables false
set_option linter.unusedSimpArgs false
theorem take_map_succ {β γ : Type} {l : List β} {i : Nat} {s : β} (f : β → γ) (h : l[i]? = some s) : (l.take (i + 1)).map f = (l.take i).map f ++ [f s] := by
  rw [List.take_add_one, h]
  simp
theorem k156 (l : List VRecSlot) (hl : l.length ≤ 4194304) : EV Try.prog E 156 [.val 0 false [.sl .shr 2 (l.map VRecSlot.c)]] = some ⟨[(false, [.sl .own 2 (l.map VRecSlot.c)])], []⟩ := by
  refine EV_intro Try.func156 rfl ?_
  have h1 : 0 + l.length < 4294967296 := by omega
  have h2 : l.length < 4294967296 := by omega
  simp only [rv0, rv1, rv2, rv3, rv4, rv5, rv6, rv7, rv8, rv9, rv10, rv11, rv12, rv13, rv14, rvE, rvH, rvS, rvI, eT, eQ, ↓reduceIte, Nat.reduceEqDiff, Nat.reduceAdd, Nat.reduceSub, Nat.reduceMul, Nat.reduceLeDiff, Nat.reduceBEq, decide_true, decide_false, reduceCtorEq, Int.reduceLT, Int.reduceNeg, rvN, Nat.reduceLT, Int.reduceLE, Int.reduceEq, eq_self, List.reduceReplicate, rvF, rvG, e156, Try.f156, LIM, h1, h2, rowsRecSlot]
theorem k71 (l : List VRecSlot) (hl : l.length ≤ 4194304) : EV Try.prog E 71 [.val 0 false [.sl .shr 2 (l.map VRecSlot.c)]] = some ⟨[(false, [.sl .own 2 (l.map VRecSlot.c)])], []⟩ := by
  refine EV_intro Try.func71 rfl ?_
  have h1 : 0 + l.length < 4294967296 := by omega
  have h2 : l.length < 4294967296 := by omega
  simp only [rv0, rv1, rv2, rv3, rv4, rv5, rv6, rv7, rv8, rv9, rv10, rv11, rv12, rv13, rv14, rvE, rvH, rvS, rvI, eT, eQ, ↓reduceIte, Nat.reduceEqDiff, Nat.reduceAdd, Nat.reduceSub, Nat.reduceMul, Nat.reduceLeDiff, Nat.reduceBEq, decide_true, decide_false, reduceCtorEq, Int.reduceLT, Int.reduceNeg, rvN, Nat.reduceLT, Int.reduceLE, Int.reduceEq, eq_self, List.reduceReplicate, rvF, rvG, e71, Try.f71, LIM, h1, h2, rowsRecSlot]
theorem k154 (x : VRecDisk) (hl : x.slots.length ≤ 4194304) : EV Try.prog E 154 [.val 0 true (x.c .shr)] = some ⟨[(true, x.c .own)], []⟩ := by
  refine EV_intro Try.func154 rfl ?_
  have h1 := k156 x.slots hl
  simp only [rv0, rv1, rv2, rv3, rv4, rv5, rv6, rv7, rv8, rv9, rv10, rv11, rv12, rv13, rv14, rvE, rvH, rvS, rvI, eT, eQ, ↓reduceIte, Nat.reduceEqDiff, Nat.reduceAdd, Nat.reduceSub, Nat.reduceMul, Nat.reduceLeDiff, Nat.reduceBEq, decide_true, decide_false, reduceCtorEq, Int.reduceLT, Int.reduceNeg, rvN, Nat.reduceLT, Int.reduceLE, Int.reduceEq, eq_self, List.reduceReplicate, rvF, rvG, e154, e156, Try.f154, VRecDisk.c, h1, rowsRecSlot]
theorem k118 (x : VRecDisk) (hl : x.slots.length ≤ 4194304) : EV Try.prog E 118 [.val 0 true (x.c .shr)] = some ⟨[(true, x.c .own)], []⟩ := by
  refine EV_intro Try.func118 rfl ?_
  have h1 := k71 x.slots hl
  simp only [rv0, rv1, rv2, rv3, rv4, rv5, rv6, rv7, rv8, rv9, rv10, rv11, rv12, rv13, rv14, rvE, rvH, rvS, rvI, eT, eQ, ↓reduceIte, Nat.reduceEqDiff, Nat.reduceAdd, Nat.reduceSub, Nat.reduceMul, Nat.reduceLeDiff, Nat.reduceBEq, decide_true, decide_false, reduceCtorEq, Int.reduceLT, Int.reduceNeg, rvN, Nat.reduceLT, Int.reduceLE, Int.reduceEq, eq_self, List.reduceReplicate, rvF, rvG, e118, e71, Try.f118, VRecDisk.c, h1, rowsRecSlot]
theorem k172 (x : VRecMessage) (hl : x.slots.length ≤ 4194304) : EV Try.prog E 172 [.val 0 true (x.c .shr)] = some ⟨[(true, x.c .own)], []⟩ := by
  refine EV_intro Try.func172 rfl ?_
  have h1 := k71 x.slots hl
  simp only [rv0, rv1, rv2, rv3, rv4, rv5, rv6, rv7, rv8, rv9, rv10, rv11, rv12, rv13, rv14, rvE, rvH, rvS, rvI, eT, eQ, ↓reduceIte, Nat.reduceEqDiff, Nat.reduceAdd, Nat.reduceSub, Nat.reduceMul, Nat.reduceLeDiff, Nat.reduceBEq, decide_true, decide_false, reduceCtorEq, Int.reduceLT, Int.reduceNeg, rvN, Nat.reduceLT, Int.reduceLE, Int.reduceEq, eq_self, List.reduceReplicate, rvF, rvG, e172, e71, Try.f172, VRecMessage.c, h1, rowsRecSlot]
theorem k150 (l : List VRecMessage) (hw : wSRecMessage l ≤ 4194304) : EV Try.prog E 150 [.val 0 false [.sl .shr 8 (l.map (VRecMessage.c .shr))]] = some ⟨[(false, [.sl .own 8 (l.map (VRecMessage.c .own))])], []⟩ := by
  refine EV_intro Try.func150 rfl ?_
  have hll : l.length ≤ 4194304 := by unfold wSRecMessage at hw; omega
  simp only [rv0, rv1, rv2, rv3, rv4, rv5, rv6, rv7, rv8, rv9, rv10, rv11, rv12, rv13, rv14, rvE, rvH, rvS, rvI, eT, eQ, ↓reduceIte, Nat.reduceEqDiff, Nat.reduceAdd, Nat.reduceSub, Nat.reduceMul, Nat.reduceLeDiff, Nat.reduceBEq, decide_true, decide_false, reduceCtorEq, Int.reduceLT, Int.reduceNeg, rvN, Nat.reduceLT, Int.reduceLE, Int.reduceEq, eq_self, List.reduceReplicate, rvF, rvG, e150, Try.f150]
  rw [for_block l (fun i (_ : Unit) => ⟨3, [(0, .val 0 false [.sl .shr 8 (l.map (VRecMessage.c .shr))]), (3, .val 1 false [.sl .own 8 ((l.take i).map (VRecMessage.c .own))]), (4, .val 2 false [.p (.int .i64 i)])]⟩) (fun i _ => True)
      (fun r i a => .norm ⟨1, [(3, .val 0 false [.sl .own 8 (l.map (VRecMessage.c .own))])]⟩) ?_ ?_ (a := ()) trivial (by simp only [rv0, rv1, rv2, rv3, rv4, rv5, rv6, rv7, rv8, rv9, rv10, rv11, rv12, rv13, rv14, rvE, rvH, rvS, rvI, eT, eQ, ↓reduceIte, Nat.reduceEqDiff, Nat.reduceAdd, Nat.reduceSub, Nat.reduceMul, Nat.reduceLeDiff, Nat.reduceBEq, decide_true, decide_false, reduceCtorEq, Int.reduceLT, Int.reduceNeg, rvN, Nat.reduceLT, Int.reduceLE, Int.reduceEq, eq_self, List.reduceReplicate, rvF, rvG, e150, List.take_zero, List.map_nil]; rfl)]
  · simp only [rv0, rv1, rv2, rv3, rv4, rv5, rv6, rv7, rv8, rv9, rv10, rv11, rv12, rv13, rv14, rvE, rvH, rvS, rvI, eT, eQ, ↓reduceIte, Nat.reduceEqDiff, Nat.reduceAdd, Nat.reduceSub, Nat.reduceMul, Nat.reduceLeDiff, Nat.reduceBEq, decide_true, decide_false, reduceCtorEq, Int.reduceLT, Int.reduceNeg, rvN, Nat.reduceLT, Int.reduceLE, Int.reduceEq, eq_self, List.reduceReplicate, rvF, rvG, e150, rowsRecMessage]
  · intro i s r a hd hi _
    have hlen := (List.getElem?_eq_some_iff.1 hi).1
    have hlt : (i : Int) < (l.length : Int) := by omega
    have hr := getElem?_map_some (f := VRecMessage.c .shr) hi
    have hwi := wrap64 (n := (i : Int) + 1) (by omega) (by omega)
    have hi0 : (0 : Int) ≤ (i : Int) := by omega
    have hL : (l.take i).length + 1 < 4294967296 := by rw [List.length_take]; omega
    have ht := take_map_succ (VRecMessage.c .own) hi
    have hmem := wSRecMessage_mem (List.mem_of_getElem? hi)
    have hs := k172 s (by unfold wSRecMessage at hw; unfold VRecMessage.w wSRecSlot at hmem; omega)
    simp only [VRecMessage.c] at hr hs
    left
    refine ⟨(), ?_, trivial, rfl⟩
    rw [ht]
    simp only [rv0, rv1, rv2, rv3, rv4, rv5, rv6, rv7, rv8, rv9, rv10, rv11, rv12, rv13, rv14, rvE, rvH, rvS, rvI, eT, eQ, ↓reduceIte, Nat.reduceEqDiff, Nat.reduceAdd, Nat.reduceSub, Nat.reduceMul, Nat.reduceLeDiff, Nat.reduceBEq, decide_true, decide_false, reduceCtorEq, Int.reduceLT, Int.reduceNeg, rvN, Nat.reduceLT, Int.reduceLE, Int.reduceEq, eq_self, List.reduceReplicate, rvF, rvG, e150, e172, VRecMessage.c, hlt, hr, hs, hwi, hi0, hL, LIM, hlen, i64c, rowsRecMessage, rowsRecSlot]
  · intro a _
    simp only [rv0, rv1, rv2, rv3, rv4, rv5, rv6, rv7, rv8, rv9, rv10, rv11, rv12, rv13, rv14, rvE, rvH, rvS, rvI, eT, eQ, ↓reduceIte, Nat.reduceEqDiff, Nat.reduceAdd, Nat.reduceSub, Nat.reduceMul, Nat.reduceLeDiff, Nat.reduceBEq, decide_true, decide_false, reduceCtorEq, Int.reduceLT, Int.reduceNeg, rvN, Nat.reduceLT, Int.reduceLE, Int.reduceEq, eq_self, List.reduceReplicate, rvF, rvG, e150, List.take_length]
theorem k155 (l : List VRecMessage) (hw : wSRecMessage l ≤ 4194304) : EV Try.prog E 155 [.val 0 false [.sl .shr 8 (l.map (VRecMessage.c .shr))]] = some ⟨[(false, [.sl .own 8 (l.map (VRecMessage.c .own))])], []⟩ := by
  refine EV_intro Try.func155 rfl ?_
  have hll : l.length ≤ 4194304 := by unfold wSRecMessage at hw; omega
  simp only [rv0, rv1, rv2, rv3, rv4, rv5, rv6, rv7, rv8, rv9, rv10, rv11, rv12, rv13, rv14, rvE, rvH, rvS, rvI, eT, eQ, ↓reduceIte, Nat.reduceEqDiff, Nat.reduceAdd, Nat.reduceSub, Nat.reduceMul, Nat.reduceLeDiff, Nat.reduceBEq, decide_true, decide_false, reduceCtorEq, Int.reduceLT, Int.reduceNeg, rvN, Nat.reduceLT, Int.reduceLE, Int.reduceEq, eq_self, List.reduceReplicate, rvF, rvG, e155, Try.f155]
  rw [for_block l (fun i (_ : Unit) => ⟨5, [(0, .val 0 false [.sl .shr 8 (l.map (VRecMessage.c .shr))]), (3, .val 1 false [.sl .own 8 ((l.take i).map (VRecMessage.c .own))]), (6, .val 2 false [.sl .shr 8 (l.map (VRecMessage.c .shr))]), (7, .val 3 false [.p (.int .i64 l.length)]), (8, .val 4 false [.p (.int .i64 i)])]⟩) (fun i _ => True)
      (fun r i a => .norm ⟨1, [(3, .val 0 false [.sl .own 8 (l.map (VRecMessage.c .own))])]⟩) ?_ ?_ (a := ()) trivial (by simp only [rv0, rv1, rv2, rv3, rv4, rv5, rv6, rv7, rv8, rv9, rv10, rv11, rv12, rv13, rv14, rvE, rvH, rvS, rvI, eT, eQ, ↓reduceIte, Nat.reduceEqDiff, Nat.reduceAdd, Nat.reduceSub, Nat.reduceMul, Nat.reduceLeDiff, Nat.reduceBEq, decide_true, decide_false, reduceCtorEq, Int.reduceLT, Int.reduceNeg, rvN, Nat.reduceLT, Int.reduceLE, Int.reduceEq, eq_self, List.reduceReplicate, rvF, rvG, e155, List.take_zero, List.map_nil]; rfl)]
  · simp only [rv0, rv1, rv2, rv3, rv4, rv5, rv6, rv7, rv8, rv9, rv10, rv11, rv12, rv13, rv14, rvE, rvH, rvS, rvI, eT, eQ, ↓reduceIte, Nat.reduceEqDiff, Nat.reduceAdd, Nat.reduceSub, Nat.reduceMul, Nat.reduceLeDiff, Nat.reduceBEq, decide_true, decide_false, reduceCtorEq, Int.reduceLT, Int.reduceNeg, rvN, Nat.reduceLT, Int.reduceLE, Int.reduceEq, eq_self, List.reduceReplicate, rvF, rvG, e155, rowsRecMessage]
  · intro i s r a hd hi _
    have hlen := (List.getElem?_eq_some_iff.1 hi).1
    have hlt : (i : Int) < (l.length : Int) := by omega
    have hr := getElem?_map_some (f := VRecMessage.c .shr) hi
    have hwi := wrap64 (n := (i : Int) + 1) (by omega) (by omega)
    have hi0 : (0 : Int) ≤ (i : Int) := by omega
    have hL : (l.take i).length + 1 < 4294967296 := by rw [List.length_take]; omega
    have ht := take_map_succ (VRecMessage.c .own) hi
    have hmem := wSRecMessage_mem (List.mem_of_getElem? hi)
    have hs := k156 s.slots (by unfold wSRecMessage at hw; unfold VRecMessage.w wSRecSlot at hmem; omega)
    simp only [VRecMessage.c] at hr hs
    left
    refine ⟨(), ?_, trivial, rfl⟩
    rw [ht]
    simp only [rv0, rv1, rv2, rv3, rv4, rv5, rv6, rv7, rv8, rv9, rv10, rv11, rv12, rv13, rv14, rvE, rvH, rvS, rvI, eT, eQ, ↓reduceIte, Nat.reduceEqDiff, Nat.reduceAdd, Nat.reduceSub, Nat.reduceMul, Nat.reduceLeDiff, Nat.reduceBEq, decide_true, decide_false, reduceCtorEq, Int.reduceLT, Int.reduceNeg, rvN, Nat.reduceLT, Int.reduceLE, Int.reduceEq, eq_self, List.reduceReplicate, rvF, rvG, e155, e156, VRecMessage.c, hlt, hr, hs, hwi, hi0, hL, LIM, hlen, i64c, rowsRecMessage, rowsRecSlot]
  · intro a _
    simp only [rv0, rv1, rv2, rv3, rv4, rv5, rv6, rv7, rv8, rv9, rv10, rv11, rv12, rv13, rv14, rvE, rvH, rvS, rvI, eT, eQ, ↓reduceIte, Nat.reduceEqDiff, Nat.reduceAdd, Nat.reduceSub, Nat.reduceMul, Nat.reduceLeDiff, Nat.reduceBEq, decide_true, decide_false, reduceCtorEq, Int.reduceLT, Int.reduceNeg, rvN, Nat.reduceLT, Int.reduceLE, Int.reduceEq, eq_self, List.reduceReplicate, rvF, rvG, e155, List.take_length]
def VRecorder.cp (x : VRecorder) : List C := [.p (.int .i64 x.number), .p (.int .i64 x.of_), .p (.bool x.up), .p (.int .i64 x.safe.promise), .p (.int .i64 x.safe.known), .sl .own 2 (x.safe.slots.map VRecSlot.c), .p (.int .i64 x.disk.promise), .p (.int .i64 x.disk.known), .sl .own 2 (x.disk.slots.map VRecSlot.c), .sl .own 8 (x.held.map (VRecMessage.c .own)), .sl .own 1 (x.wishes.map strC), .p (.bool x.lead), .p (.bool x.trying), .p (.int .i64 x.ballot), .sl .own 1 (x.yes.map intC), .sl .own 2 (x.best.map VRecSlot.c), .sl .shr 2 (x.acks.map (VRecAck.c .shr)), .p (.int .i64 x.heard)]
theorem k87 (x : VRecorder) (hw : x.w ≤ 4194304) : EV Try.prog E 87 [.val 0 true (x.c .shr)] = some ⟨[(true, x.c .own)], []⟩ := by
  refine EV_intro Try.func87 rfl ?_
  have hw0 := hw
  unfold VRecorder.w VRecDisk.w at hw
  have h1 := k118 x.safe (by unfold wSRecSlot at hw; omega)
  have h2 := k118 x.disk (by unfold wSRecSlot at hw; omega)
  have h3 := k150 x.held (by omega)
  have h4 := k71 x.best (by unfold wSRecSlot at hw; omega)
  have l1 : x.wishes.length < 4294967296 := by unfold wSString at hw; omega
  have l2 : x.yes.length < 4294967296 := by unfold wSInt at hw; omega
  have l3 : 0 + x.wishes.length < 4294967296 := by omega
  have l4 : 0 + x.yes.length < 4294967296 := by omega
  have hal : wSRecAck x.acks ≤ 4194304 := by omega
  have hll : x.acks.length ≤ 4194304 := by unfold wSRecAck at hal; omega
  simp only [VRecDisk.c] at h1 h2
  simp only [rv0, rv1, rv2, rv3, rv4, rv5, rv6, rv7, rv8, rv9, rv10, rv11, rv12, rv13, rv14, rvE, rvH, rvS, rvI, eT, eQ, ↓reduceIte, Nat.reduceEqDiff, Nat.reduceAdd, Nat.reduceSub, Nat.reduceMul, Nat.reduceLeDiff, Nat.reduceBEq, decide_true, decide_false, reduceCtorEq, Int.reduceLT, Int.reduceNeg, rvN, Nat.reduceLT, Int.reduceLE, Int.reduceEq, eq_self, List.reduceReplicate, rvF, rvG, e87, e118, e150, e71, Try.f87, VRecorder.c, h1, h2, h3, h4, l1, l2, l3, l4, LIM, rowsRecSlot, rowsRecMessage, rowsString, rowsInt]
  rw [for_block x.acks (fun i (_ : Unit) => ⟨4, [(1, .box 0 0 x.cp), (2, .box 1 1 [.p (.int .i64 0), .p (.int .i64 0), .p (.bool false), .p (.int .i64 0), .p (.int .i64 0), .sl .own 2 [], .p (.int .i64 0), .p (.int .i64 0), .sl .own 2 [], .sl .own 8 [], .sl .own 1 [], .p (.bool false), .p (.bool false), .p (.int .i64 0), .sl .own 1 [], .sl .own 2 [], .sl .own 2 [], .p (.int .i64 0)]), (3, .val 2 false [.sl .own 2 ((x.acks.take i).map (VRecAck.c .own))]), (4, .val 3 false [.p (.int .i64 i)])]⟩) (fun i _ => True)
      (fun r i a => .norm ⟨3, [(1, .box 0 0 x.cp), (2, .box 1 1 [.p (.int .i64 0), .p (.int .i64 0), .p (.bool false), .p (.int .i64 0), .p (.int .i64 0), .sl .own 2 [], .p (.int .i64 0), .p (.int .i64 0), .sl .own 2 [], .sl .own 8 [], .sl .own 1 [], .p (.bool false), .p (.bool false), .p (.int .i64 0), .sl .own 1 [], .sl .own 2 [], .sl .own 2 [], .p (.int .i64 0)]), (3, .val 2 false [.sl .own 2 (x.acks.map (VRecAck.c .own))])]⟩) ?_ ?_ (a := ()) trivial (by simp only [rv0, rv1, rv2, rv3, rv4, rv5, rv6, rv7, rv8, rv9, rv10, rv11, rv12, rv13, rv14, rvE, rvH, rvS, rvI, eT, eQ, ↓reduceIte, Nat.reduceEqDiff, Nat.reduceAdd, Nat.reduceSub, Nat.reduceMul, Nat.reduceLeDiff, Nat.reduceBEq, decide_true, decide_false, reduceCtorEq, Int.reduceLT, Int.reduceNeg, rvN, Nat.reduceLT, Int.reduceLE, Int.reduceEq, eq_self, List.reduceReplicate, rvF, rvG, e87, VRecorder.cp, List.take_zero, List.map_nil]; rfl)]
  · simp only [rv0, rv1, rv2, rv3, rv4, rv5, rv6, rv7, rv8, rv9, rv10, rv11, rv12, rv13, rv14, rvE, rvH, rvS, rvI, eT, eQ, ↓reduceIte, Nat.reduceEqDiff, Nat.reduceAdd, Nat.reduceSub, Nat.reduceMul, Nat.reduceLeDiff, Nat.reduceBEq, decide_true, decide_false, reduceCtorEq, Int.reduceLT, Int.reduceNeg, rvN, Nat.reduceLT, Int.reduceLE, Int.reduceEq, eq_self, List.reduceReplicate, rvF, rvG, e87, VRecorder.cp, rowsRecSlot, rowsRecMessage, rowsString, rowsInt, rowsRecAck]
  · intro i s r a hd hi _
    have hlen := (List.getElem?_eq_some_iff.1 hi).1
    have hlt : (i : Int) < (x.acks.length : Int) := by omega
    have hr := getElem?_map_some (f := VRecAck.c .shr) hi
    have hwi := wrap64 (n := (i : Int) + 1) (by omega) (by omega)
    have hi0 : (0 : Int) ≤ (i : Int) := by omega
    have hL : (x.acks.take i).length + 1 < 4294967296 := by rw [List.length_take]; omega
    have ht := take_map_succ (VRecAck.c .own) hi
    have hmem := wSRecAck_mem (List.mem_of_getElem? hi)
    have hl : s.from_.length < 4294967296 := by unfold wSRecAck at hal; unfold VRecAck.w wSInt at hmem; omega
    have hl' : 0 + s.from_.length < 4294967296 := by omega
    simp only [VRecAck.c] at hr
    left
    refine ⟨(), ?_, trivial, rfl⟩
    rw [ht]
    simp only [rv0, rv1, rv2, rv3, rv4, rv5, rv6, rv7, rv8, rv9, rv10, rv11, rv12, rv13, rv14, rvE, rvH, rvS, rvI, eT, eQ, ↓reduceIte, Nat.reduceEqDiff, Nat.reduceAdd, Nat.reduceSub, Nat.reduceMul, Nat.reduceLeDiff, Nat.reduceBEq, decide_true, decide_false, reduceCtorEq, Int.reduceLT, Int.reduceNeg, rvN, Nat.reduceLT, Int.reduceLE, Int.reduceEq, eq_self, List.reduceReplicate, rvF, rvG, e87, VRecorder.cp, VRecAck.c, hlt, hr, hl, hl', hwi, hi0, hL, LIM, hlen, i64c, rowsRecAck, rowsInt]
  · intro a _
    simp only [rv0, rv1, rv2, rv3, rv4, rv5, rv6, rv7, rv8, rv9, rv10, rv11, rv12, rv13, rv14, rvE, rvH, rvS, rvI, eT, eQ, ↓reduceIte, Nat.reduceEqDiff, Nat.reduceAdd, Nat.reduceSub, Nat.reduceMul, Nat.reduceLeDiff, Nat.reduceBEq, decide_true, decide_false, reduceCtorEq, Int.reduceLT, Int.reduceNeg, rvN, Nat.reduceLT, Int.reduceLE, Int.reduceEq, eq_self, List.reduceReplicate, rvF, rvG, e87, VRecorder.cp, List.take_length]
theorem k94 (x : VRecorder) (hw : x.w ≤ 4194304) : EV Try.prog E 94 [.val 0 true (x.c .shr)] = some ⟨[(true, x.c .own)], []⟩ := by
  refine EV_intro Try.func94 rfl ?_
  have hw0 := hw
  unfold VRecorder.w VRecDisk.w at hw
  have h1 := k154 x.safe (by unfold wSRecSlot at hw; omega)
  have h2 := k154 x.disk (by unfold wSRecSlot at hw; omega)
  have h3 := k155 x.held (by omega)
  have h4 := k156 x.best (by unfold wSRecSlot at hw; omega)
  have l1 : x.wishes.length < 4294967296 := by unfold wSString at hw; omega
  have l2 : x.yes.length < 4294967296 := by unfold wSInt at hw; omega
  have l3 : 0 + x.wishes.length < 4294967296 := by omega
  have l4 : 0 + x.yes.length < 4294967296 := by omega
  have hal : wSRecAck x.acks ≤ 4194304 := by omega
  have hll : x.acks.length ≤ 4194304 := by unfold wSRecAck at hal; omega
  simp only [VRecDisk.c] at h1 h2
  simp only [rv0, rv1, rv2, rv3, rv4, rv5, rv6, rv7, rv8, rv9, rv10, rv11, rv12, rv13, rv14, rvE, rvH, rvS, rvI, eT, eQ, ↓reduceIte, Nat.reduceEqDiff, Nat.reduceAdd, Nat.reduceSub, Nat.reduceMul, Nat.reduceLeDiff, Nat.reduceBEq, decide_true, decide_false, reduceCtorEq, Int.reduceLT, Int.reduceNeg, rvN, Nat.reduceLT, Int.reduceLE, Int.reduceEq, eq_self, List.reduceReplicate, rvF, rvG, e94, e154, e155, e156, Try.f94, VRecorder.c, h1, h2, h3, h4, l1, l2, l3, l4, LIM, rowsRecSlot, rowsRecMessage, rowsString, rowsInt]
  rw [for_block x.acks (fun i (_ : Unit) => ⟨6, [(1, .box 0 0 x.cp), (2, .box 1 1 [.p (.int .i64 0), .p (.int .i64 0), .p (.bool false), .p (.int .i64 0), .p (.int .i64 0), .sl .own 2 [], .p (.int .i64 0), .p (.int .i64 0), .sl .own 2 [], .sl .own 8 [], .sl .own 1 [], .p (.bool false), .p (.bool false), .p (.int .i64 0), .sl .own 1 [], .sl .own 2 [], .sl .own 2 [], .p (.int .i64 0)]), (3, .val 2 false [.sl .own 2 ((x.acks.take i).map (VRecAck.c .own))]), (31, .val 3 false [.sl .shr 2 (x.acks.map (VRecAck.c .shr))]), (32, .val 4 false [.p (.int .i64 x.acks.length)]), (33, .val 5 false [.p (.int .i64 i)])]⟩) (fun i _ => True)
      (fun r i a => .norm ⟨3, [(1, .box 0 0 x.cp), (2, .box 1 1 [.p (.int .i64 0), .p (.int .i64 0), .p (.bool false), .p (.int .i64 0), .p (.int .i64 0), .sl .own 2 [], .p (.int .i64 0), .p (.int .i64 0), .sl .own 2 [], .sl .own 8 [], .sl .own 1 [], .p (.bool false), .p (.bool false), .p (.int .i64 0), .sl .own 1 [], .sl .own 2 [], .sl .own 2 [], .p (.int .i64 0)]), (3, .val 2 false [.sl .own 2 (x.acks.map (VRecAck.c .own))])]⟩) ?_ ?_ (a := ()) trivial (by simp only [rv0, rv1, rv2, rv3, rv4, rv5, rv6, rv7, rv8, rv9, rv10, rv11, rv12, rv13, rv14, rvE, rvH, rvS, rvI, eT, eQ, ↓reduceIte, Nat.reduceEqDiff, Nat.reduceAdd, Nat.reduceSub, Nat.reduceMul, Nat.reduceLeDiff, Nat.reduceBEq, decide_true, decide_false, reduceCtorEq, Int.reduceLT, Int.reduceNeg, rvN, Nat.reduceLT, Int.reduceLE, Int.reduceEq, eq_self, List.reduceReplicate, rvF, rvG, e94, VRecorder.cp, List.take_zero, List.map_nil]; rfl)]
  · simp only [rv0, rv1, rv2, rv3, rv4, rv5, rv6, rv7, rv8, rv9, rv10, rv11, rv12, rv13, rv14, rvE, rvH, rvS, rvI, eT, eQ, ↓reduceIte, Nat.reduceEqDiff, Nat.reduceAdd, Nat.reduceSub, Nat.reduceMul, Nat.reduceLeDiff, Nat.reduceBEq, decide_true, decide_false, reduceCtorEq, Int.reduceLT, Int.reduceNeg, rvN, Nat.reduceLT, Int.reduceLE, Int.reduceEq, eq_self, List.reduceReplicate, rvF, rvG, e94, VRecorder.cp, rowsRecSlot, rowsRecMessage, rowsString, rowsInt, rowsRecAck]
  · intro i s r a hd hi _
    have hlen := (List.getElem?_eq_some_iff.1 hi).1
    have hlt : (i : Int) < (x.acks.length : Int) := by omega
    have hr := getElem?_map_some (f := VRecAck.c .shr) hi
    have hwi := wrap64 (n := (i : Int) + 1) (by omega) (by omega)
    have hi0 : (0 : Int) ≤ (i : Int) := by omega
    have hL : (x.acks.take i).length + 1 < 4294967296 := by rw [List.length_take]; omega
    have ht := take_map_succ (VRecAck.c .own) hi
    have hmem := wSRecAck_mem (List.mem_of_getElem? hi)
    have hl : s.from_.length < 4294967296 := by unfold wSRecAck at hal; unfold VRecAck.w wSInt at hmem; omega
    have hl' : 0 + s.from_.length < 4294967296 := by omega
    simp only [VRecAck.c] at hr
    left
    refine ⟨(), ?_, trivial, rfl⟩
    rw [ht]
    simp only [rv0, rv1, rv2, rv3, rv4, rv5, rv6, rv7, rv8, rv9, rv10, rv11, rv12, rv13, rv14, rvE, rvH, rvS, rvI, eT, eQ, ↓reduceIte, Nat.reduceEqDiff, Nat.reduceAdd, Nat.reduceSub, Nat.reduceMul, Nat.reduceLeDiff, Nat.reduceBEq, decide_true, decide_false, reduceCtorEq, Int.reduceLT, Int.reduceNeg, rvN, Nat.reduceLT, Int.reduceLE, Int.reduceEq, eq_self, List.reduceReplicate, rvF, rvG, e94, VRecorder.cp, VRecAck.c, hlt, hr, hl, hl', hwi, hi0, hL, LIM, hlen, i64c, rowsRecAck, rowsInt]
  · intro a _
    simp only [rv0, rv1, rv2, rv3, rv4, rv5, rv6, rv7, rv8, rv9, rv10, rv11, rv12, rv13, rv14, rvE, rvH, rvS, rvI, eT, eQ, ↓reduceIte, Nat.reduceEqDiff, Nat.reduceAdd, Nat.reduceSub, Nat.reduceMul, Nat.reduceLeDiff, Nat.reduceBEq, decide_true, decide_false, reduceCtorEq, Int.reduceLT, Int.reduceNeg, rvN, Nat.reduceLT, Int.reduceLE, Int.reduceEq, eq_self, List.reduceReplicate, rvF, rvG, e94, VRecorder.cp, List.take_length]
end Go.Proofs.Ytjcbojcnfdlfaaa
