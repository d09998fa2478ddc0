/- Typed views of the recorders' structs; equality of a thing with itself (written by a program). -/
import Derived.Test.YtjcbojcnfdlfaaaTab4
import Derived.Test.YtjcbojcnfdlfaaaSxD
namespace Go.Proofs.Ytjcbojcnfdlfaaa
open Go.Sx
set_option maxRecDepth 100000
set_option maxHeartbeats 4000000
set_option linter.unusedVariables false
set_option linter.unusedSimpArgs false
def intC (n : Int) : List C := [.p (.int .i64 n)]
def strC (s : ByteArray) : List C := [.p (.string s)]
def boolC (b : Bool) : List C := [.p (.bool b)]
def i64ok (n : Int) : Prop := -9223372036854775808 ≤ n ∧ n ≤ 9223372036854775807
def subW (left : Int) (w : Nat) : Int := if left < w then -1 else left - w
theorem subW_lt {left : Int} {w : Nat} (h : left < w) : subW left w = -1 := if_pos h
theorem subW_ge {left : Int} {w : Nat} (h : ¬ left < w) : subW left w = left - w := if_neg h
theorem rowsInt (l : List Int) : borRows (l.map intC) = l.map intC ∧ mineRows (l.map intC) = true ∧ wholeRows (l.map intC) = true ∧ allFreeRows (l.map intC) = true := flat_rows intC (fun _ => rfl) l
theorem rowsString (l : List ByteArray) : borRows (l.map strC) = l.map strC ∧ mineRows (l.map strC) = true ∧ wholeRows (l.map strC) = true ∧ allFreeRows (l.map strC) = true := flat_rows strC (fun _ => rfl) l

structure VRecSlot where
  ballot : Int
  text : ByteArray
def VRecSlot.c (x : VRecSlot) : List C := [.p (.int .i64 x.ballot), .p (.string x.text)]
def VRecSlot.w (x : VRecSlot) : Nat := x.text.size
def VRecSlot.ok (x : VRecSlot) : Prop := i64ok x.ballot ∧ x.text.size ≤ maxLen
theorem rowsRecSlot (l : List VRecSlot) : borRows (l.map VRecSlot.c) = l.map VRecSlot.c ∧ mineRows (l.map VRecSlot.c) = true ∧ wholeRows (l.map VRecSlot.c) = true ∧ allFreeRows (l.map VRecSlot.c) = true := flat_rows VRecSlot.c (fun _ => rfl) l
def sumWRecSlot : List VRecSlot → Nat
  | [] => 0
  | x :: r => x.w + sumWRecSlot r
def wSRecSlot (l : List VRecSlot) : Nat := l.length + sumWRecSlot l
theorem wSRecSlot_mem {l : List VRecSlot} {x : VRecSlot} (h : x ∈ l) : x.w ≤ sumWRecSlot l := by
  induction l with
  | nil => cases h
  | cons y r ih =>
    simp only [sumWRecSlot]
    rcases List.mem_cons.1 h with rfl | h
    · omega
    · have := ih h
      omega
structure VRecDisk where
  promise : Int
  known : Int
  slots : List VRecSlot
def VRecDisk.c (f : Fl) (x : VRecDisk) : List C := [.p (.int .i64 x.promise), .p (.int .i64 x.known), .sl f 2 (x.slots.map VRecSlot.c)]
def VRecDisk.w (x : VRecDisk) : Nat := wSRecSlot x.slots
def VRecDisk.ok (x : VRecDisk) : Prop := i64ok x.promise ∧ i64ok x.known ∧ (x.slots.length ≤ maxLen ∧ ∀ e ∈ x.slots, e.ok)
theorem rowRecDisk (x : VRecDisk) : borRow (VRecDisk.c .own x) = VRecDisk.c .shr x ∧ mineRow (VRecDisk.c .own x) = true ∧ wholeRow (VRecDisk.c .own x) = true ∧ wholeRow (VRecDisk.c .shr x) = true ∧ allFree (VRecDisk.c .shr x) = true := by
  refine ⟨?_, ?_, ?_, ?_, ?_⟩ <;> simp only [rv0, rv1, rv2, rv3, rv4, rv5, rv6, rv7, rv8, rv9, rv10, rvE, rvH, rvS, eT, ↓reduceIte, Nat.reduceEqDiff, Nat.reduceAdd, Nat.reduceSub, Nat.reduceMul, Nat.reduceLeDiff, Nat.reduceBEq, decide_true, decide_false, reduceCtorEq, Int.reduceLT, Int.reduceNeg, rvN, Nat.reduceLT, Int.reduceLE, Int.reduceEq, eq_self, List.reduceReplicate, rvF, rvG, VRecDisk.c, rowsRecSlot, Fl.isShr, Fl.isOwn]
theorem rowsRecDisk (l : List VRecDisk) : borRows (l.map (VRecDisk.c .own)) = l.map (VRecDisk.c .shr) ∧ mineRows (l.map (VRecDisk.c .own)) = true ∧ wholeRows (l.map (VRecDisk.c .own)) = true ∧ wholeRows (l.map (VRecDisk.c .shr)) = true ∧ allFreeRows (l.map (VRecDisk.c .shr)) = true := rows_by (fun x => (rowRecDisk x).1) (fun x => (rowRecDisk x).2.1) (fun x => (rowRecDisk x).2.2.1) (fun x => (rowRecDisk x).2.2.2.1) (fun x => (rowRecDisk x).2.2.2.2) l
structure VRecMessage where
  kind : Int
  from_ : Int
  to_ : Int
  ballot : Int
  index : Int
  known : Int
  text : ByteArray
  slots : List VRecSlot
def VRecMessage.c (f : Fl) (x : VRecMessage) : List C := [.p (.int .i64 x.kind), .p (.int .i64 x.from_), .p (.int .i64 x.to_), .p (.int .i64 x.ballot), .p (.int .i64 x.index), .p (.int .i64 x.known), .p (.string x.text), .sl f 2 (x.slots.map VRecSlot.c)]
def VRecMessage.w (x : VRecMessage) : Nat := x.text.size + wSRecSlot x.slots
def VRecMessage.ok (x : VRecMessage) : Prop := i64ok x.kind ∧ i64ok x.from_ ∧ i64ok x.to_ ∧ i64ok x.ballot ∧ i64ok x.index ∧ i64ok x.known ∧ x.text.size ≤ maxLen ∧ (x.slots.length ≤ maxLen ∧ ∀ e ∈ x.slots, e.ok)
theorem rowRecMessage (x : VRecMessage) : borRow (VRecMessage.c .own x) = VRecMessage.c .shr x ∧ mineRow (VRecMessage.c .own x) = true ∧ wholeRow (VRecMessage.c .own x) = true ∧ wholeRow (VRecMessage.c .shr x) = true ∧ allFree (VRecMessage.c .shr x) = true := by
  refine ⟨?_, ?_, ?_, ?_, ?_⟩ <;> simp only [rv0, rv1, rv2, rv3, rv4, rv5, rv6, rv7, rv8, rv9, rv10, rvE, rvH, rvS, eT, ↓reduceIte, Nat.reduceEqDiff, Nat.reduceAdd, Nat.reduceSub, Nat.reduceMul, Nat.reduceLeDiff, Nat.reduceBEq, decide_true, decide_false, reduceCtorEq, Int.reduceLT, Int.reduceNeg, rvN, Nat.reduceLT, Int.reduceLE, Int.reduceEq, eq_self, List.reduceReplicate, rvF, rvG, VRecMessage.c, rowsRecSlot, Fl.isShr, Fl.isOwn]
theorem rowsRecMessage (l : List VRecMessage) : borRows (l.map (VRecMessage.c .own)) = l.map (VRecMessage.c .shr) ∧ mineRows (l.map (VRecMessage.c .own)) = true ∧ wholeRows (l.map (VRecMessage.c .own)) = true ∧ wholeRows (l.map (VRecMessage.c .shr)) = true ∧ allFreeRows (l.map (VRecMessage.c .shr)) = true := rows_by (fun x => (rowRecMessage x).1) (fun x => (rowRecMessage x).2.1) (fun x => (rowRecMessage x).2.2.1) (fun x => (rowRecMessage x).2.2.2.1) (fun x => (rowRecMessage x).2.2.2.2) l
def sumWRecMessage : List VRecMessage → Nat
  | [] => 0
  | x :: r => x.w + sumWRecMessage r
def wSRecMessage (l : List VRecMessage) : Nat := l.length + sumWRecMessage l
theorem wSRecMessage_mem {l : List VRecMessage} {x : VRecMessage} (h : x ∈ l) : x.w ≤ sumWRecMessage l := by
  induction l with
  | nil => cases h
  | cons y r ih =>
    simp only [sumWRecMessage]
    rcases List.mem_cons.1 h with rfl | h
    · omega
    · have := ih h
      omega
def sumWString : List ByteArray → Nat
  | [] => 0
  | x :: r => x.size + sumWString r
def wSString (l : List ByteArray) : Nat := l.length + sumWString l
theorem wSString_mem {l : List ByteArray} {x : ByteArray} (h : x ∈ l) : x.size ≤ sumWString l := by
  induction l with
  | nil => cases h
  | cons y r ih =>
    simp only [sumWString]
    rcases List.mem_cons.1 h with rfl | h
    · omega
    · have := ih h
      omega
def wSInt (l : List Int) : Nat := l.length
structure VRecAck where
  index : Int
  from_ : List Int
def VRecAck.c (f : Fl) (x : VRecAck) : List C := [.p (.int .i64 x.index), .sl f 1 (x.from_.map intC)]
def VRecAck.w (x : VRecAck) : Nat := wSInt x.from_
def VRecAck.ok (x : VRecAck) : Prop := i64ok x.index ∧ (x.from_.length ≤ maxLen ∧ ∀ e ∈ x.from_, i64ok e)
theorem rowRecAck (x : VRecAck) : borRow (VRecAck.c .own x) = VRecAck.c .shr x ∧ mineRow (VRecAck.c .own x) = true ∧ wholeRow (VRecAck.c .own x) = true ∧ wholeRow (VRecAck.c .shr x) = true ∧ allFree (VRecAck.c .shr x) = true := by
  refine ⟨?_, ?_, ?_, ?_, ?_⟩ <;> simp only [rv0, rv1, rv2, rv3, rv4, rv5, rv6, rv7, rv8, rv9, rv10, rvE, rvH, rvS, eT, ↓reduceIte, Nat.reduceEqDiff, Nat.reduceAdd, Nat.reduceSub, Nat.reduceMul, Nat.reduceLeDiff, Nat.reduceBEq, decide_true, decide_false, reduceCtorEq, Int.reduceLT, Int.reduceNeg, rvN, Nat.reduceLT, Int.reduceLE, Int.reduceEq, eq_self, List.reduceReplicate, rvF, rvG, VRecAck.c, rowsInt, Fl.isShr, Fl.isOwn]
theorem rowsRecAck (l : List VRecAck) : borRows (l.map (VRecAck.c .own)) = l.map (VRecAck.c .shr) ∧ mineRows (l.map (VRecAck.c .own)) = true ∧ wholeRows (l.map (VRecAck.c .own)) = true ∧ wholeRows (l.map (VRecAck.c .shr)) = true ∧ allFreeRows (l.map (VRecAck.c .shr)) = true := rows_by (fun x => (rowRecAck x).1) (fun x => (rowRecAck x).2.1) (fun x => (rowRecAck x).2.2.1) (fun x => (rowRecAck x).2.2.2.1) (fun x => (rowRecAck x).2.2.2.2) l
def sumWRecAck : List VRecAck → Nat
  | [] => 0
  | x :: r => x.w + sumWRecAck r
def wSRecAck (l : List VRecAck) : Nat := l.length + sumWRecAck l
theorem wSRecAck_mem {l : List VRecAck} {x : VRecAck} (h : x ∈ l) : x.w ≤ sumWRecAck l := by
  induction l with
  | nil => cases h
  | cons y r ih =>
    simp only [sumWRecAck]
    rcases List.mem_cons.1 h with rfl | h
    · omega
    · have := ih h
      omega
structure VRecorder where
  number : Int
  of_ : Int
  up : Bool
  safe : VRecDisk
  disk : VRecDisk
  held : List VRecMessage
  wishes : List ByteArray
  lead : Bool
  trying : Bool
  ballot : Int
  yes : List Int
  best : List VRecSlot
  acks : List VRecAck
  heard : Int
def VRecorder.c (f : Fl) (x : VRecorder) : List C := [.p (.int .i64 x.number), .p (.int .i64 x.of_), .p (.bool x.up), .p (.int .i64 x.safe.promise), .p (.int .i64 x.safe.known), .sl f 2 (x.safe.slots.map VRecSlot.c), .p (.int .i64 x.disk.promise), .p (.int .i64 x.disk.known), .sl f 2 (x.disk.slots.map VRecSlot.c), .sl f 8 (x.held.map (VRecMessage.c f)), .sl f 1 (x.wishes.map strC), .p (.bool x.lead), .p (.bool x.trying), .p (.int .i64 x.ballot), .sl f 1 (x.yes.map intC), .sl f 2 (x.best.map VRecSlot.c), .sl f 2 (x.acks.map (VRecAck.c f)), .p (.int .i64 x.heard)]
def VRecorder.w (x : VRecorder) : Nat := x.safe.w + x.disk.w + wSRecMessage x.held + wSString x.wishes + wSInt x.yes + wSRecSlot x.best + wSRecAck x.acks
def VRecorder.ok (x : VRecorder) : Prop := i64ok x.number ∧ i64ok x.of_ ∧ x.safe.ok ∧ x.disk.ok ∧ (x.held.length ≤ maxLen ∧ ∀ e ∈ x.held, e.ok) ∧ (x.wishes.length ≤ maxLen ∧ ∀ e ∈ x.wishes, e.size ≤ maxLen) ∧ i64ok x.ballot ∧ (x.yes.length ≤ maxLen ∧ ∀ e ∈ x.yes, i64ok e) ∧ (x.best.length ≤ maxLen ∧ ∀ e ∈ x.best, e.ok) ∧ (x.acks.length ≤ maxLen ∧ ∀ e ∈ x.acks, e.ok) ∧ i64ok x.heard
theorem rowRecorder (x : VRecorder) : borRow (VRecorder.c .own x) = VRecorder.c .shr x ∧ mineRow (VRecorder.c .own x) = true ∧ wholeRow (VRecorder.c .own x) = true ∧ wholeRow (VRecorder.c .shr x) = true ∧ allFree (VRecorder.c .shr x) = true := by
  refine ⟨?_, ?_, ?_, ?_, ?_⟩ <;> simp only [rv0, rv1, rv2, rv3, rv4, rv5, rv6, rv7, rv8, rv9, rv10, rvE, rvH, rvS, eT, ↓reduceIte, Nat.reduceEqDiff, Nat.reduceAdd, Nat.reduceSub, Nat.reduceMul, Nat.reduceLeDiff, Nat.reduceBEq, decide_true, decide_false, reduceCtorEq, Int.reduceLT, Int.reduceNeg, rvN, Nat.reduceLT, Int.reduceLE, Int.reduceEq, eq_self, List.reduceReplicate, rvF, rvG, VRecorder.c, rowsRecSlot, rowsRecMessage, rowsString, rowsInt, rowsRecAck, Fl.isShr, Fl.isOwn]
theorem rowsRecorder (l : List VRecorder) : borRows (l.map (VRecorder.c .own)) = l.map (VRecorder.c .shr) ∧ mineRows (l.map (VRecorder.c .own)) = true ∧ wholeRows (l.map (VRecorder.c .own)) = true ∧ wholeRows (l.map (VRecorder.c .shr)) = true ∧ allFreeRows (l.map (VRecorder.c .shr)) = true := rows_by (fun x => (rowRecorder x).1) (fun x => (rowRecorder x).2.1) (fun x => (rowRecorder x).2.2.1) (fun x => (rowRecorder x).2.2.2.1) (fun x => (rowRecorder x).2.2.2.2) l
theorem k_eqRecSlot (x : VRecSlot) (hw : x.w ≤ 4194304) : EV Try.prog E 158 [.val 0 true (VRecSlot.c x), .val 0 true (VRecSlot.c x)] = some ⟨[(false, [.p (.bool true)])], []⟩ := by
  refine EV_intro Try.func158 rfl ?_
  unfold VRecSlot.w at hw
  simp only [rv0, rv1, rv2, rv3, rv4, rv5, rv6, rv7, rv8, rv9, rv10, rvE, rvH, rvS, eT, ↓reduceIte, Nat.reduceEqDiff, Nat.reduceAdd, Nat.reduceSub, Nat.reduceMul, Nat.reduceLeDiff, Nat.reduceBEq, decide_true, decide_false, reduceCtorEq, Int.reduceLT, Int.reduceNeg, rvN, Nat.reduceLT, Int.reduceLE, Int.reduceEq, eq_self, List.reduceReplicate, rvF, rvG, e158, Try.f158, VRecSlot.c, beq_self_eq_true]
theorem k_eqRecSlotS (l : List VRecSlot) (hw : wSRecSlot l ≤ 4194304) : EV Try.prog E 99 [.val 0 false [.sl .shr 2 (l.map VRecSlot.c)], .val 0 false [.sl .shr 2 (l.map VRecSlot.c)]] = some ⟨[(false, [.p (.bool true)])], []⟩ := by
  refine EV_intro Try.func99 rfl ?_
  have hn : l.length ≤ 4194304 := by unfold wSRecSlot at hw; omega
  simp only [rv0, rv1, rv2, rv3, rv4, rv5, rv6, rv7, rv8, rv9, rv10, rvE, rvH, rvS, eT, ↓reduceIte, Nat.reduceEqDiff, Nat.reduceAdd, Nat.reduceSub, Nat.reduceMul, Nat.reduceLeDiff, Nat.reduceBEq, decide_true, decide_false, reduceCtorEq, Int.reduceLT, Int.reduceNeg, rvN, Nat.reduceLT, Int.reduceLE, Int.reduceEq, eq_self, List.reduceReplicate, rvF, rvG, e99, Try.f99]
  rw [for_block l (fun i (_ : Unit) => ⟨3, [(0, .val 0 false [.sl .shr 2 (l.map VRecSlot.c)]), (1, .val 1 false [.sl .shr 2 (l.map VRecSlot.c)]), (5, .val 2 false [.p (.int .i64 i)])]⟩) (fun i _ => True)
      (fun r i a => .norm ⟨0, []⟩) ?_ ?_ (a := ()) trivial (by simp only [rv0, rv1, rv2, rv3, rv4, rv5, rv6, rv7, rv8, rv9, rv10, rvE, rvH, rvS, eT, ↓reduceIte, Nat.reduceEqDiff, Nat.reduceAdd, Nat.reduceSub, Nat.reduceMul, Nat.reduceLeDiff, Nat.reduceBEq, decide_true, decide_false, reduceCtorEq, Int.reduceLT, Int.reduceNeg, rvN, Nat.reduceLT, Int.reduceLE, Int.reduceEq, eq_self, List.reduceReplicate, rvF, rvG, e99]; rfl)]
  · simp only [rv0, rv1, rv2, rv3, rv4, rv5, rv6, rv7, rv8, rv9, rv10, rvE, rvH, rvS, eT, ↓reduceIte, Nat.reduceEqDiff, Nat.reduceAdd, Nat.reduceSub, Nat.reduceMul, Nat.reduceLeDiff, Nat.reduceBEq, decide_true, decide_false, reduceCtorEq, Int.reduceLT, Int.reduceNeg, rvN, Nat.reduceLT, Int.reduceLE, Int.reduceEq, eq_self, List.reduceReplicate, rvF, rvG, e99]
  · intro i s r a hd hi _
    have hlen := (List.getElem?_eq_some_iff.1 hi).1
    have hlt : ((i : Int) < (l.length : Int)) := by omega
    have hr := getElem?_map_some (f := VRecSlot.c) hi
    have hwi := wrap64 (n := (i : Int) + 1) (by omega) (by omega)
    have hi0 : (0 : Int) ≤ (i : Int) := by omega
    simp only [VRecSlot.c] at hr
    have hm := k_eqRecSlot s (by have := wSRecSlot_mem (List.mem_of_getElem? hi); unfold wSRecSlot at hw; omega)
    simp only [VRecSlot.c] at hm
    left
    refine ⟨(), ?_, trivial, rfl⟩
    simp only [rv0, rv1, rv2, rv3, rv4, rv5, rv6, rv7, rv8, rv9, rv10, rvE, rvH, rvS, eT, ↓reduceIte, Nat.reduceEqDiff, Nat.reduceAdd, Nat.reduceSub, Nat.reduceMul, Nat.reduceLeDiff, Nat.reduceBEq, decide_true, decide_false, reduceCtorEq, Int.reduceLT, Int.reduceNeg, rvN, Nat.reduceLT, Int.reduceLE, Int.reduceEq, eq_self, List.reduceReplicate, rvF, rvG, e99, e158, hlt, hr, hm, hwi, hi0, i64c, beq_self_eq_true]
  · intro a _
    simp only [rv0, rv1, rv2, rv3, rv4, rv5, rv6, rv7, rv8, rv9, rv10, rvE, rvH, rvS, eT, ↓reduceIte, Nat.reduceEqDiff, Nat.reduceAdd, Nat.reduceSub, Nat.reduceMul, Nat.reduceLeDiff, Nat.reduceBEq, decide_true, decide_false, reduceCtorEq, Int.reduceLT, Int.reduceNeg, rvN, Nat.reduceLT, Int.reduceLE, Int.reduceEq, eq_self, List.reduceReplicate, rvF, rvG, e99]
theorem k_eqRecDisk (x : VRecDisk) (hw : x.w ≤ 4194304) : EV Try.prog E 96 [.val 0 true (VRecDisk.c .shr x), .val 0 true (VRecDisk.c .shr x)] = some ⟨[(false, [.p (.bool true)])], []⟩ := by
  refine EV_intro Try.func96 rfl ?_
  unfold VRecDisk.w at hw
  have h0 := k_eqRecSlotS x.slots (by omega)
  simp only [rv0, rv1, rv2, rv3, rv4, rv5, rv6, rv7, rv8, rv9, rv10, rvE, rvH, rvS, eT, ↓reduceIte, Nat.reduceEqDiff, Nat.reduceAdd, Nat.reduceSub, Nat.reduceMul, Nat.reduceLeDiff, Nat.reduceBEq, decide_true, decide_false, reduceCtorEq, Int.reduceLT, Int.reduceNeg, rvN, Nat.reduceLT, Int.reduceLE, Int.reduceEq, eq_self, List.reduceReplicate, rvF, rvG, e96, e99, Try.f96, VRecDisk.c, h0, beq_self_eq_true]
theorem k_eqRecMessage (x : VRecMessage) (hw : x.w ≤ 4194304) : EV Try.prog E 132 [.val 0 true (VRecMessage.c .shr x), .val 0 true (VRecMessage.c .shr x)] = some ⟨[(false, [.p (.bool true)])], []⟩ := by
  refine EV_intro Try.func132 rfl ?_
  unfold VRecMessage.w at hw
  have h0 := k_eqRecSlotS x.slots (by omega)
  simp only [rv0, rv1, rv2, rv3, rv4, rv5, rv6, rv7, rv8, rv9, rv10, rvE, rvH, rvS, eT, ↓reduceIte, Nat.reduceEqDiff, Nat.reduceAdd, Nat.reduceSub, Nat.reduceMul, Nat.reduceLeDiff, Nat.reduceBEq, decide_true, decide_false, reduceCtorEq, Int.reduceLT, Int.reduceNeg, rvN, Nat.reduceLT, Int.reduceLE, Int.reduceEq, eq_self, List.reduceReplicate, rvF, rvG, e132, e99, Try.f132, VRecMessage.c, h0, beq_self_eq_true]
theorem k_eqRecMessageS (l : List VRecMessage) (hw : wSRecMessage l ≤ 4194304) : EV Try.prog E 60 [.val 0 false [.sl .shr 8 (l.map (VRecMessage.c .shr))], .val 0 false [.sl .shr 8 (l.map (VRecMessage.c .shr))]] = some ⟨[(false, [.p (.bool true)])], []⟩ := by
  refine EV_intro Try.func60 rfl ?_
  have hn : l.length ≤ 4194304 := by unfold wSRecMessage at hw; omega
  simp only [rv0, rv1, rv2, rv3, rv4, rv5, rv6, rv7, rv8, rv9, rv10, rvE, rvH, rvS, eT, ↓reduceIte, Nat.reduceEqDiff, Nat.reduceAdd, Nat.reduceSub, Nat.reduceMul, Nat.reduceLeDiff, Nat.reduceBEq, decide_true, decide_false, reduceCtorEq, Int.reduceLT, Int.reduceNeg, rvN, Nat.reduceLT, Int.reduceLE, Int.reduceEq, eq_self, List.reduceReplicate, rvF, rvG, e60, Try.f60]
  rw [for_block l (fun i (_ : Unit) => ⟨3, [(0, .val 0 false [.sl .shr 8 (l.map (VRecMessage.c .shr))]), (1, .val 1 false [.sl .shr 8 (l.map (VRecMessage.c .shr))]), (5, .val 2 false [.p (.int .i64 i)])]⟩) (fun i _ => True)
      (fun r i a => .norm ⟨0, []⟩) ?_ ?_ (a := ()) trivial (by simp only [rv0, rv1, rv2, rv3, rv4, rv5, rv6, rv7, rv8, rv9, rv10, rvE, rvH, rvS, eT, ↓reduceIte, Nat.reduceEqDiff, Nat.reduceAdd, Nat.reduceSub, Nat.reduceMul, Nat.reduceLeDiff, Nat.reduceBEq, decide_true, decide_false, reduceCtorEq, Int.reduceLT, Int.reduceNeg, rvN, Nat.reduceLT, Int.reduceLE, Int.reduceEq, eq_self, List.reduceReplicate, rvF, rvG, e60]; rfl)]
  · simp only [rv0, rv1, rv2, rv3, rv4, rv5, rv6, rv7, rv8, rv9, rv10, rvE, rvH, rvS, eT, ↓reduceIte, Nat.reduceEqDiff, Nat.reduceAdd, Nat.reduceSub, Nat.reduceMul, Nat.reduceLeDiff, Nat.reduceBEq, decide_true, decide_false, reduceCtorEq, Int.reduceLT, Int.reduceNeg, rvN, Nat.reduceLT, Int.reduceLE, Int.reduceEq, eq_self, List.reduceReplicate, rvF, rvG, e60]
  · intro i s r a hd hi _
    have hlen := (List.getElem?_eq_some_iff.1 hi).1
    have hlt : ((i : Int) < (l.length : Int)) := by omega
    have hr := getElem?_map_some (f := (VRecMessage.c .shr)) hi
    have hwi := wrap64 (n := (i : Int) + 1) (by omega) (by omega)
    have hi0 : (0 : Int) ≤ (i : Int) := by omega
    simp only [VRecMessage.c] at hr
    have hm := k_eqRecMessage s (by have := wSRecMessage_mem (List.mem_of_getElem? hi); unfold wSRecMessage at hw; omega)
    simp only [VRecMessage.c] at hm
    left
    refine ⟨(), ?_, trivial, rfl⟩
    simp only [rv0, rv1, rv2, rv3, rv4, rv5, rv6, rv7, rv8, rv9, rv10, rvE, rvH, rvS, eT, ↓reduceIte, Nat.reduceEqDiff, Nat.reduceAdd, Nat.reduceSub, Nat.reduceMul, Nat.reduceLeDiff, Nat.reduceBEq, decide_true, decide_false, reduceCtorEq, Int.reduceLT, Int.reduceNeg, rvN, Nat.reduceLT, Int.reduceLE, Int.reduceEq, eq_self, List.reduceReplicate, rvF, rvG, e60, e132, hlt, hr, hm, hwi, hi0, i64c, beq_self_eq_true]
  · intro a _
    simp only [rv0, rv1, rv2, rv3, rv4, rv5, rv6, rv7, rv8, rv9, rv10, rvE, rvH, rvS, eT, ↓reduceIte, Nat.reduceEqDiff, Nat.reduceAdd, Nat.reduceSub, Nat.reduceMul, Nat.reduceLeDiff, Nat.reduceBEq, decide_true, decide_false, reduceCtorEq, Int.reduceLT, Int.reduceNeg, rvN, Nat.reduceLT, Int.reduceLE, Int.reduceEq, eq_self, List.reduceReplicate, rvF, rvG, e60]
theorem k_eqStringS (l : List ByteArray) (hw : wSString l ≤ 4194304) : EV Try.prog E 97 [.val 0 false [.sl .shr 1 (l.map strC)], .val 0 false [.sl .shr 1 (l.map strC)]] = some ⟨[(false, [.p (.bool true)])], []⟩ := by
  refine EV_intro Try.func97 rfl ?_
  have hn : l.length ≤ 4194304 := by unfold wSString at hw; omega
  simp only [rv0, rv1, rv2, rv3, rv4, rv5, rv6, rv7, rv8, rv9, rv10, rvE, rvH, rvS, eT, ↓reduceIte, Nat.reduceEqDiff, Nat.reduceAdd, Nat.reduceSub, Nat.reduceMul, Nat.reduceLeDiff, Nat.reduceBEq, decide_true, decide_false, reduceCtorEq, Int.reduceLT, Int.reduceNeg, rvN, Nat.reduceLT, Int.reduceLE, Int.reduceEq, eq_self, List.reduceReplicate, rvF, rvG, e97, Try.f97]
  rw [for_block l (fun i (_ : Unit) => ⟨3, [(0, .val 0 false [.sl .shr 1 (l.map strC)]), (1, .val 1 false [.sl .shr 1 (l.map strC)]), (5, .val 2 false [.p (.int .i64 i)])]⟩) (fun i _ => True)
      (fun r i a => .norm ⟨0, []⟩) ?_ ?_ (a := ()) trivial (by simp only [rv0, rv1, rv2, rv3, rv4, rv5, rv6, rv7, rv8, rv9, rv10, rvE, rvH, rvS, eT, ↓reduceIte, Nat.reduceEqDiff, Nat.reduceAdd, Nat.reduceSub, Nat.reduceMul, Nat.reduceLeDiff, Nat.reduceBEq, decide_true, decide_false, reduceCtorEq, Int.reduceLT, Int.reduceNeg, rvN, Nat.reduceLT, Int.reduceLE, Int.reduceEq, eq_self, List.reduceReplicate, rvF, rvG, e97]; rfl)]
  · simp only [rv0, rv1, rv2, rv3, rv4, rv5, rv6, rv7, rv8, rv9, rv10, rvE, rvH, rvS, eT, ↓reduceIte, Nat.reduceEqDiff, Nat.reduceAdd, Nat.reduceSub, Nat.reduceMul, Nat.reduceLeDiff, Nat.reduceBEq, decide_true, decide_false, reduceCtorEq, Int.reduceLT, Int.reduceNeg, rvN, Nat.reduceLT, Int.reduceLE, Int.reduceEq, eq_self, List.reduceReplicate, rvF, rvG, e97]
  · intro i s r a hd hi _
    have hlen := (List.getElem?_eq_some_iff.1 hi).1
    have hlt : ((i : Int) < (l.length : Int)) := by omega
    have hr := getElem?_map_some (f := strC) hi
    have hwi := wrap64 (n := (i : Int) + 1) (by omega) (by omega)
    have hi0 : (0 : Int) ≤ (i : Int) := by omega
    simp only [strC] at hr
    left
    refine ⟨(), ?_, trivial, rfl⟩
    simp only [rv0, rv1, rv2, rv3, rv4, rv5, rv6, rv7, rv8, rv9, rv10, rvE, rvH, rvS, eT, ↓reduceIte, Nat.reduceEqDiff, Nat.reduceAdd, Nat.reduceSub, Nat.reduceMul, Nat.reduceLeDiff, Nat.reduceBEq, decide_true, decide_false, reduceCtorEq, Int.reduceLT, Int.reduceNeg, rvN, Nat.reduceLT, Int.reduceLE, Int.reduceEq, eq_self, List.reduceReplicate, rvF, rvG, e97, hlt, hr, hwi, hi0, i64c, beq_self_eq_true]
  · intro a _
    simp only [rv0, rv1, rv2, rv3, rv4, rv5, rv6, rv7, rv8, rv9, rv10, rvE, rvH, rvS, eT, ↓reduceIte, Nat.reduceEqDiff, Nat.reduceAdd, Nat.reduceSub, Nat.reduceMul, Nat.reduceLeDiff, Nat.reduceBEq, decide_true, decide_false, reduceCtorEq, Int.reduceLT, Int.reduceNeg, rvN, Nat.reduceLT, Int.reduceLE, Int.reduceEq, eq_self, List.reduceReplicate, rvF, rvG, e97]
theorem k_eqIntS (l : List Int) (hw : wSInt l ≤ 4194304) : EV Try.prog E 98 [.val 0 false [.sl .shr 1 (l.map intC)], .val 0 false [.sl .shr 1 (l.map intC)]] = some ⟨[(false, [.p (.bool true)])], []⟩ := by
  refine EV_intro Try.func98 rfl ?_
  have hn : l.length ≤ 4194304 := by unfold wSInt at hw; omega
  simp only [rv0, rv1, rv2, rv3, rv4, rv5, rv6, rv7, rv8, rv9, rv10, rvE, rvH, rvS, eT, ↓reduceIte, Nat.reduceEqDiff, Nat.reduceAdd, Nat.reduceSub, Nat.reduceMul, Nat.reduceLeDiff, Nat.reduceBEq, decide_true, decide_false, reduceCtorEq, Int.reduceLT, Int.reduceNeg, rvN, Nat.reduceLT, Int.reduceLE, Int.reduceEq, eq_self, List.reduceReplicate, rvF, rvG, e98, Try.f98]
  rw [for_block l (fun i (_ : Unit) => ⟨3, [(0, .val 0 false [.sl .shr 1 (l.map intC)]), (1, .val 1 false [.sl .shr 1 (l.map intC)]), (5, .val 2 false [.p (.int .i64 i)])]⟩) (fun i _ => True)
      (fun r i a => .norm ⟨0, []⟩) ?_ ?_ (a := ()) trivial (by simp only [rv0, rv1, rv2, rv3, rv4, rv5, rv6, rv7, rv8, rv9, rv10, rvE, rvH, rvS, eT, ↓reduceIte, Nat.reduceEqDiff, Nat.reduceAdd, Nat.reduceSub, Nat.reduceMul, Nat.reduceLeDiff, Nat.reduceBEq, decide_true, decide_false, reduceCtorEq, Int.reduceLT, Int.reduceNeg, rvN, Nat.reduceLT, Int.reduceLE, Int.reduceEq, eq_self, List.reduceReplicate, rvF, rvG, e98]; rfl)]
  · simp only [rv0, rv1, rv2, rv3, rv4, rv5, rv6, rv7, rv8, rv9, rv10, rvE, rvH, rvS, eT, ↓reduceIte, Nat.reduceEqDiff, Nat.reduceAdd, Nat.reduceSub, Nat.reduceMul, Nat.reduceLeDiff, Nat.reduceBEq, decide_true, decide_false, reduceCtorEq, Int.reduceLT, Int.reduceNeg, rvN, Nat.reduceLT, Int.reduceLE, Int.reduceEq, eq_self, List.reduceReplicate, rvF, rvG, e98]
  · intro i s r a hd hi _
    have hlen := (List.getElem?_eq_some_iff.1 hi).1
    have hlt : ((i : Int) < (l.length : Int)) := by omega
    have hr := getElem?_map_some (f := intC) hi
    have hwi := wrap64 (n := (i : Int) + 1) (by omega) (by omega)
    have hi0 : (0 : Int) ≤ (i : Int) := by omega
    simp only [intC] at hr
    left
    refine ⟨(), ?_, trivial, rfl⟩
    simp only [rv0, rv1, rv2, rv3, rv4, rv5, rv6, rv7, rv8, rv9, rv10, rvE, rvH, rvS, eT, ↓reduceIte, Nat.reduceEqDiff, Nat.reduceAdd, Nat.reduceSub, Nat.reduceMul, Nat.reduceLeDiff, Nat.reduceBEq, decide_true, decide_false, reduceCtorEq, Int.reduceLT, Int.reduceNeg, rvN, Nat.reduceLT, Int.reduceLE, Int.reduceEq, eq_self, List.reduceReplicate, rvF, rvG, e98, hlt, hr, hwi, hi0, i64c, beq_self_eq_true]
  · intro a _
    simp only [rv0, rv1, rv2, rv3, rv4, rv5, rv6, rv7, rv8, rv9, rv10, rvE, rvH, rvS, eT, ↓reduceIte, Nat.reduceEqDiff, Nat.reduceAdd, Nat.reduceSub, Nat.reduceMul, Nat.reduceLeDiff, Nat.reduceBEq, decide_true, decide_false, reduceCtorEq, Int.reduceLT, Int.reduceNeg, rvN, Nat.reduceLT, Int.reduceLE, Int.reduceEq, eq_self, List.reduceReplicate, rvF, rvG, e98]
theorem k_eqRecAck (x : VRecAck) (hw : x.w ≤ 4194304) : EV Try.prog E 159 [.val 0 true (VRecAck.c .shr x), .val 0 true (VRecAck.c .shr x)] = some ⟨[(false, [.p (.bool true)])], []⟩ := by
  refine EV_intro Try.func159 rfl ?_
  unfold VRecAck.w at hw
  have h0 := k_eqIntS x.from_ (by omega)
  simp only [rv0, rv1, rv2, rv3, rv4, rv5, rv6, rv7, rv8, rv9, rv10, rvE, rvH, rvS, eT, ↓reduceIte, Nat.reduceEqDiff, Nat.reduceAdd, Nat.reduceSub, Nat.reduceMul, Nat.reduceLeDiff, Nat.reduceBEq, decide_true, decide_false, reduceCtorEq, Int.reduceLT, Int.reduceNeg, rvN, Nat.reduceLT, Int.reduceLE, Int.reduceEq, eq_self, List.reduceReplicate, rvF, rvG, e159, e98, Try.f159, VRecAck.c, h0, beq_self_eq_true]
theorem k_eqRecAckS (l : List VRecAck) (hw : wSRecAck l ≤ 4194304) : EV Try.prog E 100 [.val 0 false [.sl .shr 2 (l.map (VRecAck.c .shr))], .val 0 false [.sl .shr 2 (l.map (VRecAck.c .shr))]] = some ⟨[(false, [.p (.bool true)])], []⟩ := by
  refine EV_intro Try.func100 rfl ?_
  have hn : l.length ≤ 4194304 := by unfold wSRecAck at hw; omega
  simp only [rv0, rv1, rv2, rv3, rv4, rv5, rv6, rv7, rv8, rv9, rv10, rvE, rvH, rvS, eT, ↓reduceIte, Nat.reduceEqDiff, Nat.reduceAdd, Nat.reduceSub, Nat.reduceMul, Nat.reduceLeDiff, Nat.reduceBEq, decide_true, decide_false, reduceCtorEq, Int.reduceLT, Int.reduceNeg, rvN, Nat.reduceLT, Int.reduceLE, Int.reduceEq, eq_self, List.reduceReplicate, rvF, rvG, e100, Try.f100]
  rw [for_block l (fun i (_ : Unit) => ⟨3, [(0, .val 0 false [.sl .shr 2 (l.map (VRecAck.c .shr))]), (1, .val 1 false [.sl .shr 2 (l.map (VRecAck.c .shr))]), (5, .val 2 false [.p (.int .i64 i)])]⟩) (fun i _ => True)
      (fun r i a => .norm ⟨0, []⟩) ?_ ?_ (a := ()) trivial (by simp only [rv0, rv1, rv2, rv3, rv4, rv5, rv6, rv7, rv8, rv9, rv10, rvE, rvH, rvS, eT, ↓reduceIte, Nat.reduceEqDiff, Nat.reduceAdd, Nat.reduceSub, Nat.reduceMul, Nat.reduceLeDiff, Nat.reduceBEq, decide_true, decide_false, reduceCtorEq, Int.reduceLT, Int.reduceNeg, rvN, Nat.reduceLT, Int.reduceLE, Int.reduceEq, eq_self, List.reduceReplicate, rvF, rvG, e100]; rfl)]
  · simp only [rv0, rv1, rv2, rv3, rv4, rv5, rv6, rv7, rv8, rv9, rv10, rvE, rvH, rvS, eT, ↓reduceIte, Nat.reduceEqDiff, Nat.reduceAdd, Nat.reduceSub, Nat.reduceMul, Nat.reduceLeDiff, Nat.reduceBEq, decide_true, decide_false, reduceCtorEq, Int.reduceLT, Int.reduceNeg, rvN, Nat.reduceLT, Int.reduceLE, Int.reduceEq, eq_self, List.reduceReplicate, rvF, rvG, e100]
  · intro i s r a hd hi _
    have hlen := (List.getElem?_eq_some_iff.1 hi).1
    have hlt : ((i : Int) < (l.length : Int)) := by omega
    have hr := getElem?_map_some (f := (VRecAck.c .shr)) hi
    have hwi := wrap64 (n := (i : Int) + 1) (by omega) (by omega)
    have hi0 : (0 : Int) ≤ (i : Int) := by omega
    simp only [VRecAck.c] at hr
    have hm := k_eqRecAck s (by have := wSRecAck_mem (List.mem_of_getElem? hi); unfold wSRecAck at hw; omega)
    simp only [VRecAck.c] at hm
    left
    refine ⟨(), ?_, trivial, rfl⟩
    simp only [rv0, rv1, rv2, rv3, rv4, rv5, rv6, rv7, rv8, rv9, rv10, rvE, rvH, rvS, eT, ↓reduceIte, Nat.reduceEqDiff, Nat.reduceAdd, Nat.reduceSub, Nat.reduceMul, Nat.reduceLeDiff, Nat.reduceBEq, decide_true, decide_false, reduceCtorEq, Int.reduceLT, Int.reduceNeg, rvN, Nat.reduceLT, Int.reduceLE, Int.reduceEq, eq_self, List.reduceReplicate, rvF, rvG, e100, e159, hlt, hr, hm, hwi, hi0, i64c, beq_self_eq_true]
  · intro a _
    simp only [rv0, rv1, rv2, rv3, rv4, rv5, rv6, rv7, rv8, rv9, rv10, rvE, rvH, rvS, eT, ↓reduceIte, Nat.reduceEqDiff, Nat.reduceAdd, Nat.reduceSub, Nat.reduceMul, Nat.reduceLeDiff, Nat.reduceBEq, decide_true, decide_false, reduceCtorEq, Int.reduceLT, Int.reduceNeg, rvN, Nat.reduceLT, Int.reduceLE, Int.reduceEq, eq_self, List.reduceReplicate, rvF, rvG, e100]
theorem k_eqRecorder (x : VRecorder) (hw : x.w ≤ 4194304) : EV Try.prog E 35 [.val 0 true (VRecorder.c .shr x), .val 0 true (VRecorder.c .shr x)] = some ⟨[(false, [.p (.bool true)])], []⟩ := by
  refine EV_intro Try.func35 rfl ?_
  unfold VRecorder.w at hw
  have h0 := k_eqRecDisk x.safe (by omega)
  simp only [VRecDisk.c] at h0
  have h1 := k_eqRecDisk x.disk (by omega)
  simp only [VRecDisk.c] at h1
  have h2 := k_eqRecMessageS x.held (by omega)
  have h3 := k_eqStringS x.wishes (by omega)
  have h4 := k_eqIntS x.yes (by omega)
  have h5 := k_eqRecSlotS x.best (by omega)
  have h6 := k_eqRecAckS x.acks (by omega)
  simp only [rv0, rv1, rv2, rv3, rv4, rv5, rv6, rv7, rv8, rv9, rv10, rvE, rvH, rvS, eT, ↓reduceIte, Nat.reduceEqDiff, Nat.reduceAdd, Nat.reduceSub, Nat.reduceMul, Nat.reduceLeDiff, Nat.reduceBEq, decide_true, decide_false, reduceCtorEq, Int.reduceLT, Int.reduceNeg, rvN, Nat.reduceLT, Int.reduceLE, Int.reduceEq, eq_self, List.reduceReplicate, rvF, rvG, e35, e96, e60, e97, e98, e99, e100, Try.f35, VRecorder.c, h0, h1, h2, h3, h4, h5, h6, beq_self_eq_true]
end Go.Proofs.Ytjcbojcnfdlfaaa
