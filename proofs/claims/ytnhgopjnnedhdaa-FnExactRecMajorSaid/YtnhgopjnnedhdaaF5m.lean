/- Typed views of the recorder's structs; what the conversions compute (written by a program). -/
import Derived.Test.YtnhgopjnnedhdaaTab4m
import Derived.Test.YtnhgopjnnedhdaaSxD
namespace Go.Proofs.Ytnhgopjnnedhdaa
open Go.Sx
set_option maxRecDepth 100000
set_option maxHeartbeats 4000000
set_option linter.unusedVariables false
set_option linter.unusedSimpArgs false
def intC (n : Int) : List C := [.p (.int .i64 n)]
def strC (s : ByteArray) : List C := [.p (.string s)]
def boolC (b : Bool) : List C := [.p (.bool b)]
def i64ok (n : Int) : Prop := -9223372036854775808 ≤ n ∧ n ≤ 9223372036854775807
def subW (left : Int) (w : Nat) : Int := if left < w then -1 else left - w
theorem subW_lt {left : Int} {w : Nat} (h : left < w) : subW left w = -1 := if_pos h
theorem subW_ge {left : Int} {w : Nat} (h : ¬ left < w) : subW left w = left - w := if_neg h
theorem rowsInt (l : List Int) : borRows (l.map intC) = l.map intC ∧ mineRows (l.map intC) = true ∧ wholeRows (l.map intC) = true ∧ allFreeRows (l.map intC) = true := flat_rows intC (fun _ => rfl) l
theorem rowsString (l : List ByteArray) : borRows (l.map strC) = l.map strC ∧ mineRows (l.map strC) = true ∧ wholeRows (l.map strC) = true ∧ allFreeRows (l.map strC) = true := flat_rows strC (fun _ => rfl) l

structure VRecSlot where
  ballot : Int
  text : ByteArray
def VRecSlot.c (x : VRecSlot) : List C := [.p (.int .i64 x.ballot), .p (.string x.text)]
def VRecSlot.w (x : VRecSlot) : Nat := x.text.size
def VRecSlot.ok (x : VRecSlot) : Prop := i64ok x.ballot ∧ x.text.size ≤ maxLen
theorem rowsRecSlot (l : List VRecSlot) : borRows (l.map VRecSlot.c) = l.map VRecSlot.c ∧ mineRows (l.map VRecSlot.c) = true ∧ wholeRows (l.map VRecSlot.c) = true ∧ allFreeRows (l.map VRecSlot.c) = true := flat_rows VRecSlot.c (fun _ => rfl) l
def sumWRecSlot : List VRecSlot → Nat
  | [] => 0
  | x :: r => x.w + sumWRecSlot r
def wSRecSlot (l : List VRecSlot) : Nat := l.length + sumWRecSlot l
theorem wSRecSlot_mem {l : List VRecSlot} {x : VRecSlot} (h : x ∈ l) : x.w ≤ sumWRecSlot l := by
  induction l with
  | nil => cases h
  | cons y r ih =>
    simp only [sumWRecSlot]
    rcases List.mem_cons.1 h with rfl | h
    · omega
    · have := ih h
      omega
structure VRecDisk where
  promise : Int
  known : Int
  slots : List VRecSlot
def VRecDisk.c (f : Fl) (x : VRecDisk) : List C := [.p (.int .i64 x.promise), .p (.int .i64 x.known), .sl f 2 (x.slots.map VRecSlot.c)]
def VRecDisk.w (x : VRecDisk) : Nat := wSRecSlot x.slots
def VRecDisk.ok (x : VRecDisk) : Prop := i64ok x.promise ∧ i64ok x.known ∧ (x.slots.length ≤ maxLen ∧ ∀ e ∈ x.slots, e.ok)
structure VRecMessage where
  kind : Int
  from_ : Int
  to_ : Int
  ballot : Int
  index : Int
  known : Int
  text : ByteArray
  slots : List VRecSlot
def VRecMessage.c (f : Fl) (x : VRecMessage) : List C := [.p (.int .i64 x.kind), .p (.int .i64 x.from_), .p (.int .i64 x.to_), .p (.int .i64 x.ballot), .p (.int .i64 x.index), .p (.int .i64 x.known), .p (.string x.text), .sl f 2 (x.slots.map VRecSlot.c)]
def VRecMessage.w (x : VRecMessage) : Nat := x.text.size + wSRecSlot x.slots
def VRecMessage.ok (x : VRecMessage) : Prop := i64ok x.kind ∧ i64ok x.from_ ∧ i64ok x.to_ ∧ i64ok x.ballot ∧ i64ok x.index ∧ i64ok x.known ∧ x.text.size ≤ maxLen ∧ (x.slots.length ≤ maxLen ∧ ∀ e ∈ x.slots, e.ok)
theorem rowRecMessage (x : VRecMessage) : borRow (VRecMessage.c .own x) = VRecMessage.c .shr x ∧ mineRow (VRecMessage.c .own x) = true ∧ wholeRow (VRecMessage.c .own x) = true ∧ wholeRow (VRecMessage.c .shr x) = true ∧ allFree (VRecMessage.c .shr x) = true := by
  refine ⟨?_, ?_, ?_, ?_, ?_⟩ <;> simp only [rv0, rv1, rvE, rvH, rvS, rvI, eT, eQ, ↓reduceIte, Nat.reduceEqDiff, Nat.reduceAdd, Nat.reduceSub, Nat.reduceMul, Nat.reduceLeDiff, Nat.reduceBEq, decide_true, decide_false, reduceCtorEq, Int.reduceLT, Int.reduceNeg, rvN, Nat.reduceLT, Int.reduceLE, Int.reduceEq, eq_self, List.reduceReplicate, rvF, rvG, VRecMessage.c, rowsRecSlot, Fl.isShr, Fl.isOwn]
theorem rowsRecMessage (l : List VRecMessage) : borRows (l.map (VRecMessage.c .own)) = l.map (VRecMessage.c .shr) ∧ mineRows (l.map (VRecMessage.c .own)) = true ∧ wholeRows (l.map (VRecMessage.c .own)) = true ∧ wholeRows (l.map (VRecMessage.c .shr)) = true ∧ allFreeRows (l.map (VRecMessage.c .shr)) = true := rows_by (fun x => (rowRecMessage x).1) (fun x => (rowRecMessage x).2.1) (fun x => (rowRecMessage x).2.2.1) (fun x => (rowRecMessage x).2.2.2.1) (fun x => (rowRecMessage x).2.2.2.2) l
def sumWRecMessage : List VRecMessage → Nat
  | [] => 0
  | x :: r => x.w + sumWRecMessage r
def wSRecMessage (l : List VRecMessage) : Nat := l.length + sumWRecMessage l
theorem wSRecMessage_mem {l : List VRecMessage} {x : VRecMessage} (h : x ∈ l) : x.w ≤ sumWRecMessage l := by
  induction l with
  | nil => cases h
  | cons y r ih =>
    simp only [sumWRecMessage]
    rcases List.mem_cons.1 h with rfl | h
    · omega
    · have := ih h
      omega
def sumWString : List ByteArray → Nat
  | [] => 0
  | x :: r => x.size + sumWString r
def wSString (l : List ByteArray) : Nat := l.length + sumWString l
def wSInt (l : List Int) : Nat := l.length
structure VRecAck where
  index : Int
  from_ : List Int
def VRecAck.c (f : Fl) (x : VRecAck) : List C := [.p (.int .i64 x.index), .sl f 1 (x.from_.map intC)]
def VRecAck.w (x : VRecAck) : Nat := wSInt x.from_
def VRecAck.ok (x : VRecAck) : Prop := i64ok x.index ∧ (x.from_.length ≤ maxLen ∧ ∀ e ∈ x.from_, i64ok e)
theorem rowRecAck (x : VRecAck) : borRow (VRecAck.c .own x) = VRecAck.c .shr x ∧ mineRow (VRecAck.c .own x) = true ∧ wholeRow (VRecAck.c .own x) = true ∧ wholeRow (VRecAck.c .shr x) = true ∧ allFree (VRecAck.c .shr x) = true := by
  refine ⟨?_, ?_, ?_, ?_, ?_⟩ <;> simp only [rv0, rv1, rvE, rvH, rvS, rvI, eT, eQ, ↓reduceIte, Nat.reduceEqDiff, Nat.reduceAdd, Nat.reduceSub, Nat.reduceMul, Nat.reduceLeDiff, Nat.reduceBEq, decide_true, decide_false, reduceCtorEq, Int.reduceLT, Int.reduceNeg, rvN, Nat.reduceLT, Int.reduceLE, Int.reduceEq, eq_self, List.reduceReplicate, rvF, rvG, VRecAck.c, rowsInt, Fl.isShr, Fl.isOwn]
theorem rowsRecAck (l : List VRecAck) : borRows (l.map (VRecAck.c .own)) = l.map (VRecAck.c .shr) ∧ mineRows (l.map (VRecAck.c .own)) = true ∧ wholeRows (l.map (VRecAck.c .own)) = true ∧ wholeRows (l.map (VRecAck.c .shr)) = true ∧ allFreeRows (l.map (VRecAck.c .shr)) = true := rows_by (fun x => (rowRecAck x).1) (fun x => (rowRecAck x).2.1) (fun x => (rowRecAck x).2.2.1) (fun x => (rowRecAck x).2.2.2.1) (fun x => (rowRecAck x).2.2.2.2) l
def sumWRecAck : List VRecAck → Nat
  | [] => 0
  | x :: r => x.w + sumWRecAck r
def wSRecAck (l : List VRecAck) : Nat := l.length + sumWRecAck l
theorem wSRecAck_mem {l : List VRecAck} {x : VRecAck} (h : x ∈ l) : x.w ≤ sumWRecAck l := by
  induction l with
  | nil => cases h
  | cons y r ih =>
    simp only [sumWRecAck]
    rcases List.mem_cons.1 h with rfl | h
    · omega
    · have := ih h
      omega
structure VRecorder where
  number : Int
  of_ : Int
  up : Bool
  safe : VRecDisk
  disk : VRecDisk
  held : List VRecMessage
  wishes : List ByteArray
  lead : Bool
  trying : Bool
  ballot : Int
  yes : List Int
  best : List VRecSlot
  acks : List VRecAck
  heard : Int
def VRecorder.c (f : Fl) (x : VRecorder) : List C := [.p (.int .i64 x.number), .p (.int .i64 x.of_), .p (.bool x.up), .p (.int .i64 x.safe.promise), .p (.int .i64 x.safe.known), .sl f 2 (x.safe.slots.map VRecSlot.c), .p (.int .i64 x.disk.promise), .p (.int .i64 x.disk.known), .sl f 2 (x.disk.slots.map VRecSlot.c), .sl f 8 (x.held.map (VRecMessage.c f)), .sl f 1 (x.wishes.map strC), .p (.bool x.lead), .p (.bool x.trying), .p (.int .i64 x.ballot), .sl f 1 (x.yes.map intC), .sl f 2 (x.best.map VRecSlot.c), .sl f 2 (x.acks.map (VRecAck.c f)), .p (.int .i64 x.heard)]
def VRecorder.w (x : VRecorder) : Nat := x.safe.w + x.disk.w + wSRecMessage x.held + wSString x.wishes + wSInt x.yes + wSRecSlot x.best + wSRecAck x.acks
def VRecorder.ok (x : VRecorder) : Prop := i64ok x.number ∧ i64ok x.of_ ∧ x.safe.ok ∧ x.disk.ok ∧ (x.held.length ≤ maxLen ∧ ∀ e ∈ x.held, e.ok) ∧ (x.wishes.length ≤ maxLen ∧ ∀ e ∈ x.wishes, e.size ≤ maxLen) ∧ i64ok x.ballot ∧ (x.yes.length ≤ maxLen ∧ ∀ e ∈ x.yes, i64ok e) ∧ (x.best.length ≤ maxLen ∧ ∀ e ∈ x.best, e.ok) ∧ (x.acks.length ≤ maxLen ∧ ∀ e ∈ x.acks, e.ok) ∧ i64ok x.heard
theorem rowRecorder (x : VRecorder) : borRow (VRecorder.c .own x) = VRecorder.c .shr x ∧ mineRow (VRecorder.c .own x) = true ∧ wholeRow (VRecorder.c .own x) = true ∧ wholeRow (VRecorder.c .shr x) = true ∧ allFree (VRecorder.c .shr x) = true := by
  refine ⟨?_, ?_, ?_, ?_, ?_⟩ <;> simp only [rv0, rv1, rvE, rvH, rvS, rvI, eT, eQ, ↓reduceIte, Nat.reduceEqDiff, Nat.reduceAdd, Nat.reduceSub, Nat.reduceMul, Nat.reduceLeDiff, Nat.reduceBEq, decide_true, decide_false, reduceCtorEq, Int.reduceLT, Int.reduceNeg, rvN, Nat.reduceLT, Int.reduceLE, Int.reduceEq, eq_self, List.reduceReplicate, rvF, rvG, VRecorder.c, rowsRecSlot, rowsRecMessage, rowsString, rowsInt, rowsRecAck, Fl.isShr, Fl.isOwn]
theorem rowsRecorder (l : List VRecorder) : borRows (l.map (VRecorder.c .own)) = l.map (VRecorder.c .shr) ∧ mineRows (l.map (VRecorder.c .own)) = true ∧ wholeRows (l.map (VRecorder.c .own)) = true ∧ wholeRows (l.map (VRecorder.c .shr)) = true ∧ allFreeRows (l.map (VRecorder.c .shr)) = true := rows_by (fun x => (rowRecorder x).1) (fun x => (rowRecorder x).2.1) (fun x => (rowRecorder x).2.2.1) (fun x => (rowRecorder x).2.2.2.1) (fun x => (rowRecorder x).2.2.2.2) l
theorem k_szRecSlot (x : VRecSlot) (left : Int) (hx : x.ok) (h0 : 0 ≤ left) (h1 : left ≤ 1048576) : EV Try.prog E 62 [.val 0 true (VRecSlot.c x), .val 0 false [.p (.int .i64 left)]] = some ⟨[(false, [.p (.int .i64 (subW left x.w))])], []⟩ := by
  refine EV_intro Try.func62 rfl ?_
  have hx0 := hx
  simp only [VRecSlot.ok] at hx
  obtain ⟨o_ballot, o_text⟩ := hx
  have w0 := wrap64 (n := left - x.text.size) (by unfold maxLen at *; omega) (by omega)
  by_cases c0 : left < (x.text.size : Nat)
  · have e : subW left x.w = -1 := subW_lt (by unfold VRecSlot.w; omega)
    have d0 : left - (x.text.size : Int) < 0 := by omega
    simp only [rv0, rv1, rvE, rvH, rvS, rvI, eT, eQ, ↓reduceIte, Nat.reduceEqDiff, Nat.reduceAdd, Nat.reduceSub, Nat.reduceMul, Nat.reduceLeDiff, Nat.reduceBEq, decide_true, decide_false, reduceCtorEq, Int.reduceLT, Int.reduceNeg, rvN, Nat.reduceLT, Int.reduceLE, Int.reduceEq, eq_self, List.reduceReplicate, rvF, rvG, e62, Try.f62, VRecSlot.c, w0, d0, e]
  have d0 : ¬ (left - (x.text.size : Nat) < 0) := by omega
  have e : subW left x.w = left - (x.text.size : Nat) := by rw [subW_ge (by unfold VRecSlot.w; omega)]; unfold VRecSlot.w; omega
  simp only [rv0, rv1, rvE, rvH, rvS, rvI, eT, eQ, ↓reduceIte, Nat.reduceEqDiff, Nat.reduceAdd, Nat.reduceSub, Nat.reduceMul, Nat.reduceLeDiff, Nat.reduceBEq, decide_true, decide_false, reduceCtorEq, Int.reduceLT, Int.reduceNeg, rvN, Nat.reduceLT, Int.reduceLE, Int.reduceEq, eq_self, List.reduceReplicate, rvF, rvG, e62, Try.f62, VRecSlot.c, w0, d0, e]
theorem k_szRecSlotS (l : List VRecSlot) (left : Int) (hx : l.length ≤ maxLen ∧ ∀ e ∈ l, e.ok) (h0 : 0 ≤ left) (h1 : left ≤ 1048576) : EV Try.prog E 40 [.val 0 false [.sl .shr 2 (l.map VRecSlot.c)], .val 0 false [.p (.int .i64 left)]] = some ⟨[(false, [.p (.int .i64 (subW left (wSRecSlot l)))])], []⟩ := by
  refine EV_intro Try.func40 rfl ?_
  obtain ⟨hn, hl⟩ := hx
  have hw := wrap64 (n := left - l.length) (by unfold maxLen at hn; omega) (by omega)
  by_cases hc : left - l.length < 0
  · have e : subW left (wSRecSlot l) = -1 := subW_lt (by unfold wSRecSlot; omega)
    simp only [rv0, rv1, rvE, rvH, rvS, rvI, eT, eQ, ↓reduceIte, Nat.reduceEqDiff, Nat.reduceAdd, Nat.reduceSub, Nat.reduceMul, Nat.reduceLeDiff, Nat.reduceBEq, decide_true, decide_false, reduceCtorEq, Int.reduceLT, Int.reduceNeg, rvN, Nat.reduceLT, Int.reduceLE, Int.reduceEq, eq_self, List.reduceReplicate, rvF, rvG, e40, Try.f40, hw, hc, e]
  · simp only [rv0, rv1, rvE, rvH, rvS, rvI, eT, eQ, ↓reduceIte, Nat.reduceEqDiff, Nat.reduceAdd, Nat.reduceSub, Nat.reduceMul, Nat.reduceLeDiff, Nat.reduceBEq, decide_true, decide_false, reduceCtorEq, Int.reduceLT, Int.reduceNeg, rvN, Nat.reduceLT, Int.reduceLE, Int.reduceEq, eq_self, List.reduceReplicate, rvF, rvG, e40, Try.f40, hw, hc]
    rw [for_block l (fun i a => ⟨3, [(0, .val 0 false [.sl .shr 2 (l.map VRecSlot.c)]), (1, .val 1 false [.p (.int .i64 a)]), (5, .val 2 false [.p (.int .i64 i)])]⟩) (fun i a => 0 ≤ a ∧ a ≤ 1048576)
      (fun r i a => if a < (sumWRecSlot r : Nat) then .ret ⟨[(false, [.p (.int .i64 (-1))])], []⟩ else .norm ⟨1, [(1, .val 0 false [.p (.int .i64 (a - (sumWRecSlot r : Nat)))])]⟩) ?_ ?_ (a := left - l.length) ⟨by omega, by omega⟩ (by simp only [rv0, rv1, rvE, rvH, rvS, rvI, eT, eQ, ↓reduceIte, Nat.reduceEqDiff, Nat.reduceAdd, Nat.reduceSub, Nat.reduceMul, Nat.reduceLeDiff, Nat.reduceBEq, decide_true, decide_false, reduceCtorEq, Int.reduceLT, Int.reduceNeg, rvN, Nat.reduceLT, Int.reduceLE, Int.reduceEq, eq_self, List.reduceReplicate, rvF, rvG, e40]; rfl)]
    · by_cases hz : left - l.length < (sumWRecSlot l : Nat)
      · have e : subW left (wSRecSlot l) = -1 := subW_lt (by unfold wSRecSlot; omega)
        simp only [rv0, rv1, rvE, rvH, rvS, rvI, eT, eQ, ↓reduceIte, Nat.reduceEqDiff, Nat.reduceAdd, Nat.reduceSub, Nat.reduceMul, Nat.reduceLeDiff, Nat.reduceBEq, decide_true, decide_false, reduceCtorEq, Int.reduceLT, Int.reduceNeg, rvN, Nat.reduceLT, Int.reduceLE, Int.reduceEq, eq_self, List.reduceReplicate, rvF, rvG, e40, hz, e]
      · have e : subW left (wSRecSlot l) = left - l.length - (sumWRecSlot l : Nat) := by rw [subW_ge (by unfold wSRecSlot; omega)]; unfold wSRecSlot; omega
        simp only [rv0, rv1, rvE, rvH, rvS, rvI, eT, eQ, ↓reduceIte, Nat.reduceEqDiff, Nat.reduceAdd, Nat.reduceSub, Nat.reduceMul, Nat.reduceLeDiff, Nat.reduceBEq, decide_true, decide_false, reduceCtorEq, Int.reduceLT, Int.reduceNeg, rvN, Nat.reduceLT, Int.reduceLE, Int.reduceEq, eq_self, List.reduceReplicate, rvF, rvG, e40, hz, e]
    · intro i s r a hd hi ⟨ha, hb⟩
      have hlen := (List.getElem?_eq_some_iff.1 hi).1
      have hlt : ((i : Int) < (l.length : Int)) := by omega
      have hr := getElem?_map_some (f := VRecSlot.c) hi
      have hsz := hl s (List.mem_of_getElem? hi)
      unfold maxLen at hn
      have hwi := wrap64 (n := (i : Int) + 1) (by omega) (by omega)
      have hi0 : (0 : Int) ≤ (i : Int) := by omega
      simp only [VRecSlot.c] at hr
      have hk := k_szRecSlot s a hsz ha hb
      simp only [VRecSlot.c] at hk
      by_cases hcs : a < (s.w : Nat)
      · right
        rw [subW_lt hcs] at hk
        have e : a < (sumWRecSlot (s :: r) : Nat) := by simp only [sumWRecSlot]; omega
        simp only [rv0, rv1, rvE, rvH, rvS, rvI, eT, eQ, ↓reduceIte, Nat.reduceEqDiff, Nat.reduceAdd, Nat.reduceSub, Nat.reduceMul, Nat.reduceLeDiff, Nat.reduceBEq, decide_true, decide_false, reduceCtorEq, Int.reduceLT, Int.reduceNeg, rvN, Nat.reduceLT, Int.reduceLE, Int.reduceEq, eq_self, List.reduceReplicate, rvF, rvG, e40, e62, hlt, hr, hk, hwi, hi0, e]
      · left
        rw [subW_ge hcs] at hk
        have hnn : ¬ (a - (s.w : Nat) < 0) := by omega
        refine ⟨a - (s.w : Nat), ?_, ⟨by omega, by omega⟩, ?_⟩
        · simp only [rv0, rv1, rvE, rvH, rvS, rvI, eT, eQ, ↓reduceIte, Nat.reduceEqDiff, Nat.reduceAdd, Nat.reduceSub, Nat.reduceMul, Nat.reduceLeDiff, Nat.reduceBEq, decide_true, decide_false, reduceCtorEq, Int.reduceLT, Int.reduceNeg, rvN, Nat.reduceLT, Int.reduceLE, Int.reduceEq, eq_self, List.reduceReplicate, rvF, rvG, e40, e62, hlt, hr, hk, hnn, hwi, hi0, i64c]
        · have e1 : (a < (sumWRecSlot (s :: r) : Nat)) ↔ (a - (s.w : Nat) < (sumWRecSlot r : Nat)) := by simp only [sumWRecSlot]; omega
          have e2 : a - (sumWRecSlot (s :: r) : Nat) = a - (s.w : Nat) - (sumWRecSlot r : Nat) := by simp only [sumWRecSlot]; omega
          simp only [e1, e2]
    · intro a ⟨ha, hb⟩
      have e : ¬ (a < (sumWRecSlot [] : Nat)) := by simp only [sumWRecSlot]; omega
      have e2 : a - (sumWRecSlot [] : Nat) = a := by simp only [sumWRecSlot]; omega
      simp only [rv0, rv1, rvE, rvH, rvS, rvI, eT, eQ, ↓reduceIte, Nat.reduceEqDiff, Nat.reduceAdd, Nat.reduceSub, Nat.reduceMul, Nat.reduceLeDiff, Nat.reduceBEq, decide_true, decide_false, reduceCtorEq, Int.reduceLT, Int.reduceNeg, rvN, Nat.reduceLT, Int.reduceLE, Int.reduceEq, eq_self, List.reduceReplicate, rvF, rvG, e40, e, e2]
theorem k_szRecDisk (x : VRecDisk) (left : Int) (hx : x.ok) (h0 : 0 ≤ left) (h1 : left ≤ 1048576) : EV Try.prog E 37 [.val 0 true (VRecDisk.c .shr x), .val 0 false [.p (.int .i64 left)]] = some ⟨[(false, [.p (.int .i64 (subW left x.w))])], []⟩ := by
  refine EV_intro Try.func37 rfl ?_
  have hx0 := hx
  simp only [VRecDisk.ok] at hx
  obtain ⟨o_promise, o_known, o_slots⟩ := hx
  have w0 := k_szRecSlotS x.slots (left) o_slots (by omega) (by omega)
  by_cases c0 : left < (wSRecSlot x.slots : Nat)
  · have e : subW left x.w = -1 := subW_lt (by unfold VRecDisk.w; omega)
    rw [subW_lt c0] at w0
    simp only [rv0, rv1, rvE, rvH, rvS, rvI, eT, eQ, ↓reduceIte, Nat.reduceEqDiff, Nat.reduceAdd, Nat.reduceSub, Nat.reduceMul, Nat.reduceLeDiff, Nat.reduceBEq, decide_true, decide_false, reduceCtorEq, Int.reduceLT, Int.reduceNeg, rvN, Nat.reduceLT, Int.reduceLE, Int.reduceEq, eq_self, List.reduceReplicate, rvF, rvG, e37, e40, Try.f37, VRecDisk.c, w0, e]
  rw [subW_ge c0] at w0
  have d0 : ¬ (left - (wSRecSlot x.slots : Nat) < 0) := by omega
  have e : subW left x.w = left - (wSRecSlot x.slots : Nat) := by rw [subW_ge (by unfold VRecDisk.w; omega)]; unfold VRecDisk.w; omega
  simp only [rv0, rv1, rvE, rvH, rvS, rvI, eT, eQ, ↓reduceIte, Nat.reduceEqDiff, Nat.reduceAdd, Nat.reduceSub, Nat.reduceMul, Nat.reduceLeDiff, Nat.reduceBEq, decide_true, decide_false, reduceCtorEq, Int.reduceLT, Int.reduceNeg, rvN, Nat.reduceLT, Int.reduceLE, Int.reduceEq, eq_self, List.reduceReplicate, rvF, rvG, e37, e40, Try.f37, VRecDisk.c, w0, d0, e]
theorem k_szRecMessage (x : VRecMessage) (left : Int) (hx : x.ok) (h0 : 0 ≤ left) (h1 : left ≤ 1048576) : EV Try.prog E 23 [.val 0 true (VRecMessage.c .shr x), .val 0 false [.p (.int .i64 left)]] = some ⟨[(false, [.p (.int .i64 (subW left x.w))])], []⟩ := by
  refine EV_intro Try.func23 rfl ?_
  have hx0 := hx
  simp only [VRecMessage.ok] at hx
  obtain ⟨o_kind, o_from_, o_to_, o_ballot, o_index, o_known, o_text, o_slots⟩ := hx
  have w0 := wrap64 (n := left - x.text.size) (by unfold maxLen at *; omega) (by omega)
  by_cases c0 : left < (x.text.size : Nat)
  · have e : subW left x.w = -1 := subW_lt (by unfold VRecMessage.w; omega)
    have d0 : left - (x.text.size : Int) < 0 := by omega
    simp only [rv0, rv1, rvE, rvH, rvS, rvI, eT, eQ, ↓reduceIte, Nat.reduceEqDiff, Nat.reduceAdd, Nat.reduceSub, Nat.reduceMul, Nat.reduceLeDiff, Nat.reduceBEq, decide_true, decide_false, reduceCtorEq, Int.reduceLT, Int.reduceNeg, rvN, Nat.reduceLT, Int.reduceLE, Int.reduceEq, eq_self, List.reduceReplicate, rvF, rvG, e23, Try.f23, VRecMessage.c, w0, d0, e]
  have d0 : ¬ (left - (x.text.size : Nat) < 0) := by omega
  have w1 := k_szRecSlotS x.slots (left - (x.text.size : Nat)) o_slots (by omega) (by omega)
  by_cases c1 : left - (x.text.size : Nat) < (wSRecSlot x.slots : Nat)
  · have e : subW left x.w = -1 := subW_lt (by unfold VRecMessage.w; omega)
    rw [subW_lt c1] at w1
    simp only [rv0, rv1, rvE, rvH, rvS, rvI, eT, eQ, ↓reduceIte, Nat.reduceEqDiff, Nat.reduceAdd, Nat.reduceSub, Nat.reduceMul, Nat.reduceLeDiff, Nat.reduceBEq, decide_true, decide_false, reduceCtorEq, Int.reduceLT, Int.reduceNeg, rvN, Nat.reduceLT, Int.reduceLE, Int.reduceEq, eq_self, List.reduceReplicate, rvF, rvG, e23, e40, Try.f23, VRecMessage.c, w0, d0, w1, e]
  rw [subW_ge c1] at w1
  have d1 : ¬ (left - (x.text.size : Nat) - (wSRecSlot x.slots : Nat) < 0) := by omega
  have e : subW left x.w = left - (x.text.size : Nat) - (wSRecSlot x.slots : Nat) := by rw [subW_ge (by unfold VRecMessage.w; omega)]; unfold VRecMessage.w; omega
  simp only [rv0, rv1, rvE, rvH, rvS, rvI, eT, eQ, ↓reduceIte, Nat.reduceEqDiff, Nat.reduceAdd, Nat.reduceSub, Nat.reduceMul, Nat.reduceLeDiff, Nat.reduceBEq, decide_true, decide_false, reduceCtorEq, Int.reduceLT, Int.reduceNeg, rvN, Nat.reduceLT, Int.reduceLE, Int.reduceEq, eq_self, List.reduceReplicate, rvF, rvG, e23, e40, Try.f23, VRecMessage.c, w0, d0, w1, d1, e]
theorem k_szRecMessageS (l : List VRecMessage) (left : Int) (hx : l.length ≤ maxLen ∧ ∀ e ∈ l, e.ok) (h0 : 0 ≤ left) (h1 : left ≤ 1048576) : EV Try.prog E 10 [.val 0 false [.sl .shr 8 (l.map (VRecMessage.c .shr))], .val 0 false [.p (.int .i64 left)]] = some ⟨[(false, [.p (.int .i64 (subW left (wSRecMessage l)))])], []⟩ := by
  refine EV_intro Try.func10 rfl ?_
  obtain ⟨hn, hl⟩ := hx
  have hw := wrap64 (n := left - l.length) (by unfold maxLen at hn; omega) (by omega)
  by_cases hc : left - l.length < 0
  · have e : subW left (wSRecMessage l) = -1 := subW_lt (by unfold wSRecMessage; omega)
    simp only [rv0, rv1, rvE, rvH, rvS, rvI, eT, eQ, ↓reduceIte, Nat.reduceEqDiff, Nat.reduceAdd, Nat.reduceSub, Nat.reduceMul, Nat.reduceLeDiff, Nat.reduceBEq, decide_true, decide_false, reduceCtorEq, Int.reduceLT, Int.reduceNeg, rvN, Nat.reduceLT, Int.reduceLE, Int.reduceEq, eq_self, List.reduceReplicate, rvF, rvG, e10, Try.f10, hw, hc, e]
  · simp only [rv0, rv1, rvE, rvH, rvS, rvI, eT, eQ, ↓reduceIte, Nat.reduceEqDiff, Nat.reduceAdd, Nat.reduceSub, Nat.reduceMul, Nat.reduceLeDiff, Nat.reduceBEq, decide_true, decide_false, reduceCtorEq, Int.reduceLT, Int.reduceNeg, rvN, Nat.reduceLT, Int.reduceLE, Int.reduceEq, eq_self, List.reduceReplicate, rvF, rvG, e10, Try.f10, hw, hc]
    rw [for_block l (fun i a => ⟨3, [(0, .val 0 false [.sl .shr 8 (l.map (VRecMessage.c .shr))]), (1, .val 1 false [.p (.int .i64 a)]), (5, .val 2 false [.p (.int .i64 i)])]⟩) (fun i a => 0 ≤ a ∧ a ≤ 1048576)
      (fun r i a => if a < (sumWRecMessage r : Nat) then .ret ⟨[(false, [.p (.int .i64 (-1))])], []⟩ else .norm ⟨1, [(1, .val 0 false [.p (.int .i64 (a - (sumWRecMessage r : Nat)))])]⟩) ?_ ?_ (a := left - l.length) ⟨by omega, by omega⟩ (by simp only [rv0, rv1, rvE, rvH, rvS, rvI, eT, eQ, ↓reduceIte, Nat.reduceEqDiff, Nat.reduceAdd, Nat.reduceSub, Nat.reduceMul, Nat.reduceLeDiff, Nat.reduceBEq, decide_true, decide_false, reduceCtorEq, Int.reduceLT, Int.reduceNeg, rvN, Nat.reduceLT, Int.reduceLE, Int.reduceEq, eq_self, List.reduceReplicate, rvF, rvG, e10]; rfl)]
    · by_cases hz : left - l.length < (sumWRecMessage l : Nat)
      · have e : subW left (wSRecMessage l) = -1 := subW_lt (by unfold wSRecMessage; omega)
        simp only [rv0, rv1, rvE, rvH, rvS, rvI, eT, eQ, ↓reduceIte, Nat.reduceEqDiff, Nat.reduceAdd, Nat.reduceSub, Nat.reduceMul, Nat.reduceLeDiff, Nat.reduceBEq, decide_true, decide_false, reduceCtorEq, Int.reduceLT, Int.reduceNeg, rvN, Nat.reduceLT, Int.reduceLE, Int.reduceEq, eq_self, List.reduceReplicate, rvF, rvG, e10, hz, e]
      · have e : subW left (wSRecMessage l) = left - l.length - (sumWRecMessage l : Nat) := by rw [subW_ge (by unfold wSRecMessage; omega)]; unfold wSRecMessage; omega
        simp only [rv0, rv1, rvE, rvH, rvS, rvI, eT, eQ, ↓reduceIte, Nat.reduceEqDiff, Nat.reduceAdd, Nat.reduceSub, Nat.reduceMul, Nat.reduceLeDiff, Nat.reduceBEq, decide_true, decide_false, reduceCtorEq, Int.reduceLT, Int.reduceNeg, rvN, Nat.reduceLT, Int.reduceLE, Int.reduceEq, eq_self, List.reduceReplicate, rvF, rvG, e10, hz, e]
    · intro i s r a hd hi ⟨ha, hb⟩
      have hlen := (List.getElem?_eq_some_iff.1 hi).1
      have hlt : ((i : Int) < (l.length : Int)) := by omega
      have hr := getElem?_map_some (f := (VRecMessage.c .shr)) hi
      have hsz := hl s (List.mem_of_getElem? hi)
      unfold maxLen at hn
      have hwi := wrap64 (n := (i : Int) + 1) (by omega) (by omega)
      have hi0 : (0 : Int) ≤ (i : Int) := by omega
      simp only [VRecMessage.c] at hr
      have hk := k_szRecMessage s a hsz ha hb
      simp only [VRecMessage.c] at hk
      by_cases hcs : a < (s.w : Nat)
      · right
        rw [subW_lt hcs] at hk
        have e : a < (sumWRecMessage (s :: r) : Nat) := by simp only [sumWRecMessage]; omega
        simp only [rv0, rv1, rvE, rvH, rvS, rvI, eT, eQ, ↓reduceIte, Nat.reduceEqDiff, Nat.reduceAdd, Nat.reduceSub, Nat.reduceMul, Nat.reduceLeDiff, Nat.reduceBEq, decide_true, decide_false, reduceCtorEq, Int.reduceLT, Int.reduceNeg, rvN, Nat.reduceLT, Int.reduceLE, Int.reduceEq, eq_self, List.reduceReplicate, rvF, rvG, e10, e23, hlt, hr, hk, hwi, hi0, e]
      · left
        rw [subW_ge hcs] at hk
        have hnn : ¬ (a - (s.w : Nat) < 0) := by omega
        refine ⟨a - (s.w : Nat), ?_, ⟨by omega, by omega⟩, ?_⟩
        · simp only [rv0, rv1, rvE, rvH, rvS, rvI, eT, eQ, ↓reduceIte, Nat.reduceEqDiff, Nat.reduceAdd, Nat.reduceSub, Nat.reduceMul, Nat.reduceLeDiff, Nat.reduceBEq, decide_true, decide_false, reduceCtorEq, Int.reduceLT, Int.reduceNeg, rvN, Nat.reduceLT, Int.reduceLE, Int.reduceEq, eq_self, List.reduceReplicate, rvF, rvG, e10, e23, hlt, hr, hk, hnn, hwi, hi0, i64c]
        · have e1 : (a < (sumWRecMessage (s :: r) : Nat)) ↔ (a - (s.w : Nat) < (sumWRecMessage r : Nat)) := by simp only [sumWRecMessage]; omega
          have e2 : a - (sumWRecMessage (s :: r) : Nat) = a - (s.w : Nat) - (sumWRecMessage r : Nat) := by simp only [sumWRecMessage]; omega
          simp only [e1, e2]
    · intro a ⟨ha, hb⟩
      have e : ¬ (a < (sumWRecMessage [] : Nat)) := by simp only [sumWRecMessage]; omega
      have e2 : a - (sumWRecMessage [] : Nat) = a := by simp only [sumWRecMessage]; omega
      simp only [rv0, rv1, rvE, rvH, rvS, rvI, eT, eQ, ↓reduceIte, Nat.reduceEqDiff, Nat.reduceAdd, Nat.reduceSub, Nat.reduceMul, Nat.reduceLeDiff, Nat.reduceBEq, decide_true, decide_false, reduceCtorEq, Int.reduceLT, Int.reduceNeg, rvN, Nat.reduceLT, Int.reduceLE, Int.reduceEq, eq_self, List.reduceReplicate, rvF, rvG, e10, e, e2]
theorem k_szStringS (l : List ByteArray) (left : Int) (hx : l.length ≤ maxLen ∧ ∀ e ∈ l, e.size ≤ maxLen) (h0 : 0 ≤ left) (h1 : left ≤ 1048576) : EV Try.prog E 38 [.val 0 false [.sl .shr 1 (l.map strC)], .val 0 false [.p (.int .i64 left)]] = some ⟨[(false, [.p (.int .i64 (subW left (wSString l)))])], []⟩ := by
  refine EV_intro Try.func38 rfl ?_
  obtain ⟨hn, hl⟩ := hx
  have hw := wrap64 (n := left - l.length) (by unfold maxLen at hn; omega) (by omega)
  by_cases hc : left - l.length < 0
  · have e : subW left (wSString l) = -1 := subW_lt (by unfold wSString; omega)
    simp only [rv0, rv1, rvE, rvH, rvS, rvI, eT, eQ, ↓reduceIte, Nat.reduceEqDiff, Nat.reduceAdd, Nat.reduceSub, Nat.reduceMul, Nat.reduceLeDiff, Nat.reduceBEq, decide_true, decide_false, reduceCtorEq, Int.reduceLT, Int.reduceNeg, rvN, Nat.reduceLT, Int.reduceLE, Int.reduceEq, eq_self, List.reduceReplicate, rvF, rvG, e38, Try.f38, hw, hc, e]
  · simp only [rv0, rv1, rvE, rvH, rvS, rvI, eT, eQ, ↓reduceIte, Nat.reduceEqDiff, Nat.reduceAdd, Nat.reduceSub, Nat.reduceMul, Nat.reduceLeDiff, Nat.reduceBEq, decide_true, decide_false, reduceCtorEq, Int.reduceLT, Int.reduceNeg, rvN, Nat.reduceLT, Int.reduceLE, Int.reduceEq, eq_self, List.reduceReplicate, rvF, rvG, e38, Try.f38, hw, hc]
    rw [for_block l (fun i a => ⟨3, [(0, .val 0 false [.sl .shr 1 (l.map strC)]), (1, .val 1 false [.p (.int .i64 a)]), (5, .val 2 false [.p (.int .i64 i)])]⟩) (fun i a => 0 ≤ a ∧ a ≤ 1048576)
      (fun r i a => if a < (sumWString r : Nat) then .ret ⟨[(false, [.p (.int .i64 (-1))])], []⟩ else .norm ⟨1, [(1, .val 0 false [.p (.int .i64 (a - (sumWString r : Nat)))])]⟩) ?_ ?_ (a := left - l.length) ⟨by omega, by omega⟩ (by simp only [rv0, rv1, rvE, rvH, rvS, rvI, eT, eQ, ↓reduceIte, Nat.reduceEqDiff, Nat.reduceAdd, Nat.reduceSub, Nat.reduceMul, Nat.reduceLeDiff, Nat.reduceBEq, decide_true, decide_false, reduceCtorEq, Int.reduceLT, Int.reduceNeg, rvN, Nat.reduceLT, Int.reduceLE, Int.reduceEq, eq_self, List.reduceReplicate, rvF, rvG, e38]; rfl)]
    · by_cases hz : left - l.length < (sumWString l : Nat)
      · have e : subW left (wSString l) = -1 := subW_lt (by unfold wSString; omega)
        simp only [rv0, rv1, rvE, rvH, rvS, rvI, eT, eQ, ↓reduceIte, Nat.reduceEqDiff, Nat.reduceAdd, Nat.reduceSub, Nat.reduceMul, Nat.reduceLeDiff, Nat.reduceBEq, decide_true, decide_false, reduceCtorEq, Int.reduceLT, Int.reduceNeg, rvN, Nat.reduceLT, Int.reduceLE, Int.reduceEq, eq_self, List.reduceReplicate, rvF, rvG, e38, hz, e]
      · have e : subW left (wSString l) = left - l.length - (sumWString l : Nat) := by rw [subW_ge (by unfold wSString; omega)]; unfold wSString; omega
        simp only [rv0, rv1, rvE, rvH, rvS, rvI, eT, eQ, ↓reduceIte, Nat.reduceEqDiff, Nat.reduceAdd, Nat.reduceSub, Nat.reduceMul, Nat.reduceLeDiff, Nat.reduceBEq, decide_true, decide_false, reduceCtorEq, Int.reduceLT, Int.reduceNeg, rvN, Nat.reduceLT, Int.reduceLE, Int.reduceEq, eq_self, List.reduceReplicate, rvF, rvG, e38, hz, e]
    · intro i s r a hd hi ⟨ha, hb⟩
      have hlen := (List.getElem?_eq_some_iff.1 hi).1
      have hlt : ((i : Int) < (l.length : Int)) := by omega
      have hr := getElem?_map_some (f := strC) hi
      have hsz := hl s (List.mem_of_getElem? hi)
      unfold maxLen at hn
      have hwi := wrap64 (n := (i : Int) + 1) (by omega) (by omega)
      have hi0 : (0 : Int) ≤ (i : Int) := by omega
      simp only [strC] at hr
      have hw2 := wrap64 (n := a - s.size) (by unfold maxLen at hsz; omega) (by omega)
      by_cases hcs : a - s.size < 0
      · right
        have e : a < (sumWString (s :: r) : Nat) := by simp only [sumWString]; omega
        simp only [rv0, rv1, rvE, rvH, rvS, rvI, eT, eQ, ↓reduceIte, Nat.reduceEqDiff, Nat.reduceAdd, Nat.reduceSub, Nat.reduceMul, Nat.reduceLeDiff, Nat.reduceBEq, decide_true, decide_false, reduceCtorEq, Int.reduceLT, Int.reduceNeg, rvN, Nat.reduceLT, Int.reduceLE, Int.reduceEq, eq_self, List.reduceReplicate, rvF, rvG, e38, hlt, hr, hw2, hcs, hwi, hi0, e]
      · left
        refine ⟨a - s.size, ?_, ⟨by omega, by omega⟩, ?_⟩
        · simp only [rv0, rv1, rvE, rvH, rvS, rvI, eT, eQ, ↓reduceIte, Nat.reduceEqDiff, Nat.reduceAdd, Nat.reduceSub, Nat.reduceMul, Nat.reduceLeDiff, Nat.reduceBEq, decide_true, decide_false, reduceCtorEq, Int.reduceLT, Int.reduceNeg, rvN, Nat.reduceLT, Int.reduceLE, Int.reduceEq, eq_self, List.reduceReplicate, rvF, rvG, e38, hlt, hr, hw2, hcs, hwi, hi0, i64c]
        · have e1 : (a < (sumWString (s :: r) : Nat)) ↔ (a - (s.size : Nat) < (sumWString r : Nat)) := by simp only [sumWString]; omega
          have e2 : a - (sumWString (s :: r) : Nat) = a - (s.size : Nat) - (sumWString r : Nat) := by simp only [sumWString]; omega
          simp only [e1, e2]
    · intro a ⟨ha, hb⟩
      have e : ¬ (a < (sumWString [] : Nat)) := by simp only [sumWString]; omega
      have e2 : a - (sumWString [] : Nat) = a := by simp only [sumWString]; omega
      simp only [rv0, rv1, rvE, rvH, rvS, rvI, eT, eQ, ↓reduceIte, Nat.reduceEqDiff, Nat.reduceAdd, Nat.reduceSub, Nat.reduceMul, Nat.reduceLeDiff, Nat.reduceBEq, decide_true, decide_false, reduceCtorEq, Int.reduceLT, Int.reduceNeg, rvN, Nat.reduceLT, Int.reduceLE, Int.reduceEq, eq_self, List.reduceReplicate, rvF, rvG, e38, e, e2]
theorem k_szIntS (l : List Int) (left : Int) (hx : l.length ≤ maxLen ∧ ∀ e ∈ l, i64ok e) (h0 : 0 ≤ left) (h1 : left ≤ 1048576) : EV Try.prog E 39 [.val 0 false [.sl .shr 1 (l.map intC)], .val 0 false [.p (.int .i64 left)]] = some ⟨[(false, [.p (.int .i64 (subW left (wSInt l)))])], []⟩ := by
  refine EV_intro Try.func39 rfl ?_
  obtain ⟨hn, hl⟩ := hx
  have hw := wrap64 (n := left - l.length) (by unfold maxLen at hn; omega) (by omega)
  by_cases hc : left - l.length < 0
  · have e : subW left (wSInt l) = -1 := subW_lt (by unfold wSInt; omega)
    simp only [rv0, rv1, rvE, rvH, rvS, rvI, eT, eQ, ↓reduceIte, Nat.reduceEqDiff, Nat.reduceAdd, Nat.reduceSub, Nat.reduceMul, Nat.reduceLeDiff, Nat.reduceBEq, decide_true, decide_false, reduceCtorEq, Int.reduceLT, Int.reduceNeg, rvN, Nat.reduceLT, Int.reduceLE, Int.reduceEq, eq_self, List.reduceReplicate, rvF, rvG, e39, Try.f39, hw, hc, e]
  · have e : subW left (wSInt l) = left - l.length := by rw [subW_ge (by unfold wSInt; omega)]; rfl
    simp only [rv0, rv1, rvE, rvH, rvS, rvI, eT, eQ, ↓reduceIte, Nat.reduceEqDiff, Nat.reduceAdd, Nat.reduceSub, Nat.reduceMul, Nat.reduceLeDiff, Nat.reduceBEq, decide_true, decide_false, reduceCtorEq, Int.reduceLT, Int.reduceNeg, rvN, Nat.reduceLT, Int.reduceLE, Int.reduceEq, eq_self, List.reduceReplicate, rvF, rvG, e39, Try.f39, hw, hc, e]
theorem k_szRecAck (x : VRecAck) (left : Int) (hx : x.ok) (h0 : 0 ≤ left) (h1 : left ≤ 1048576) : EV Try.prog E 63 [.val 0 true (VRecAck.c .shr x), .val 0 false [.p (.int .i64 left)]] = some ⟨[(false, [.p (.int .i64 (subW left x.w))])], []⟩ := by
  refine EV_intro Try.func63 rfl ?_
  have hx0 := hx
  simp only [VRecAck.ok] at hx
  obtain ⟨o_index, o_from_⟩ := hx
  have w0 := k_szIntS x.from_ (left) o_from_ (by omega) (by omega)
  by_cases c0 : left < (wSInt x.from_ : Nat)
  · have e : subW left x.w = -1 := subW_lt (by unfold VRecAck.w; omega)
    rw [subW_lt c0] at w0
    simp only [rv0, rv1, rvE, rvH, rvS, rvI, eT, eQ, ↓reduceIte, Nat.reduceEqDiff, Nat.reduceAdd, Nat.reduceSub, Nat.reduceMul, Nat.reduceLeDiff, Nat.reduceBEq, decide_true, decide_false, reduceCtorEq, Int.reduceLT, Int.reduceNeg, rvN, Nat.reduceLT, Int.reduceLE, Int.reduceEq, eq_self, List.reduceReplicate, rvF, rvG, e63, e39, Try.f63, VRecAck.c, w0, e]
  rw [subW_ge c0] at w0
  have d0 : ¬ (left - (wSInt x.from_ : Nat) < 0) := by omega
  have e : subW left x.w = left - (wSInt x.from_ : Nat) := by rw [subW_ge (by unfold VRecAck.w; omega)]; unfold VRecAck.w; omega
  simp only [rv0, rv1, rvE, rvH, rvS, rvI, eT, eQ, ↓reduceIte, Nat.reduceEqDiff, Nat.reduceAdd, Nat.reduceSub, Nat.reduceMul, Nat.reduceLeDiff, Nat.reduceBEq, decide_true, decide_false, reduceCtorEq, Int.reduceLT, Int.reduceNeg, rvN, Nat.reduceLT, Int.reduceLE, Int.reduceEq, eq_self, List.reduceReplicate, rvF, rvG, e63, e39, Try.f63, VRecAck.c, w0, d0, e]
theorem k_szRecAckS (l : List VRecAck) (left : Int) (hx : l.length ≤ maxLen ∧ ∀ e ∈ l, e.ok) (h0 : 0 ≤ left) (h1 : left ≤ 1048576) : EV Try.prog E 41 [.val 0 false [.sl .shr 2 (l.map (VRecAck.c .shr))], .val 0 false [.p (.int .i64 left)]] = some ⟨[(false, [.p (.int .i64 (subW left (wSRecAck l)))])], []⟩ := by
  refine EV_intro Try.func41 rfl ?_
  obtain ⟨hn, hl⟩ := hx
  have hw := wrap64 (n := left - l.length) (by unfold maxLen at hn; omega) (by omega)
  by_cases hc : left - l.length < 0
  · have e : subW left (wSRecAck l) = -1 := subW_lt (by unfold wSRecAck; omega)
    simp only [rv0, rv1, rvE, rvH, rvS, rvI, eT, eQ, ↓reduceIte, Nat.reduceEqDiff, Nat.reduceAdd, Nat.reduceSub, Nat.reduceMul, Nat.reduceLeDiff, Nat.reduceBEq, decide_true, decide_false, reduceCtorEq, Int.reduceLT, Int.reduceNeg, rvN, Nat.reduceLT, Int.reduceLE, Int.reduceEq, eq_self, List.reduceReplicate, rvF, rvG, e41, Try.f41, hw, hc, e]
  · simp only [rv0, rv1, rvE, rvH, rvS, rvI, eT, eQ, ↓reduceIte, Nat.reduceEqDiff, Nat.reduceAdd, Nat.reduceSub, Nat.reduceMul, Nat.reduceLeDiff, Nat.reduceBEq, decide_true, decide_false, reduceCtorEq, Int.reduceLT, Int.reduceNeg, rvN, Nat.reduceLT, Int.reduceLE, Int.reduceEq, eq_self, List.reduceReplicate, rvF, rvG, e41, Try.f41, hw, hc]
    rw [for_block l (fun i a => ⟨3, [(0, .val 0 false [.sl .shr 2 (l.map (VRecAck.c .shr))]), (1, .val 1 false [.p (.int .i64 a)]), (5, .val 2 false [.p (.int .i64 i)])]⟩) (fun i a => 0 ≤ a ∧ a ≤ 1048576)
      (fun r i a => if a < (sumWRecAck r : Nat) then .ret ⟨[(false, [.p (.int .i64 (-1))])], []⟩ else .norm ⟨1, [(1, .val 0 false [.p (.int .i64 (a - (sumWRecAck r : Nat)))])]⟩) ?_ ?_ (a := left - l.length) ⟨by omega, by omega⟩ (by simp only [rv0, rv1, rvE, rvH, rvS, rvI, eT, eQ, ↓reduceIte, Nat.reduceEqDiff, Nat.reduceAdd, Nat.reduceSub, Nat.reduceMul, Nat.reduceLeDiff, Nat.reduceBEq, decide_true, decide_false, reduceCtorEq, Int.reduceLT, Int.reduceNeg, rvN, Nat.reduceLT, Int.reduceLE, Int.reduceEq, eq_self, List.reduceReplicate, rvF, rvG, e41]; rfl)]
    · by_cases hz : left - l.length < (sumWRecAck l : Nat)
      · have e : subW left (wSRecAck l) = -1 := subW_lt (by unfold wSRecAck; omega)
        simp only [rv0, rv1, rvE, rvH, rvS, rvI, eT, eQ, ↓reduceIte, Nat.reduceEqDiff, Nat.reduceAdd, Nat.reduceSub, Nat.reduceMul, Nat.reduceLeDiff, Nat.reduceBEq, decide_true, decide_false, reduceCtorEq, Int.reduceLT, Int.reduceNeg, rvN, Nat.reduceLT, Int.reduceLE, Int.reduceEq, eq_self, List.reduceReplicate, rvF, rvG, e41, hz, e]
      · have e : subW left (wSRecAck l) = left - l.length - (sumWRecAck l : Nat) := by rw [subW_ge (by unfold wSRecAck; omega)]; unfold wSRecAck; omega
        simp only [rv0, rv1, rvE, rvH, rvS, rvI, eT, eQ, ↓reduceIte, Nat.reduceEqDiff, Nat.reduceAdd, Nat.reduceSub, Nat.reduceMul, Nat.reduceLeDiff, Nat.reduceBEq, decide_true, decide_false, reduceCtorEq, Int.reduceLT, Int.reduceNeg, rvN, Nat.reduceLT, Int.reduceLE, Int.reduceEq, eq_self, List.reduceReplicate, rvF, rvG, e41, hz, e]
    · intro i s r a hd hi ⟨ha, hb⟩
      have hlen := (List.getElem?_eq_some_iff.1 hi).1
      have hlt : ((i : Int) < (l.length : Int)) := by omega
      have hr := getElem?_map_some (f := (VRecAck.c .shr)) hi
      have hsz := hl s (List.mem_of_getElem? hi)
      unfold maxLen at hn
      have hwi := wrap64 (n := (i : Int) + 1) (by omega) (by omega)
      have hi0 : (0 : Int) ≤ (i : Int) := by omega
      simp only [VRecAck.c] at hr
      have hk := k_szRecAck s a hsz ha hb
      simp only [VRecAck.c] at hk
      by_cases hcs : a < (s.w : Nat)
      · right
        rw [subW_lt hcs] at hk
        have e : a < (sumWRecAck (s :: r) : Nat) := by simp only [sumWRecAck]; omega
        simp only [rv0, rv1, rvE, rvH, rvS, rvI, eT, eQ, ↓reduceIte, Nat.reduceEqDiff, Nat.reduceAdd, Nat.reduceSub, Nat.reduceMul, Nat.reduceLeDiff, Nat.reduceBEq, decide_true, decide_false, reduceCtorEq, Int.reduceLT, Int.reduceNeg, rvN, Nat.reduceLT, Int.reduceLE, Int.reduceEq, eq_self, List.reduceReplicate, rvF, rvG, e41, e63, hlt, hr, hk, hwi, hi0, e]
      · left
        rw [subW_ge hcs] at hk
        have hnn : ¬ (a - (s.w : Nat) < 0) := by omega
        refine ⟨a - (s.w : Nat), ?_, ⟨by omega, by omega⟩, ?_⟩
        · simp only [rv0, rv1, rvE, rvH, rvS, rvI, eT, eQ, ↓reduceIte, Nat.reduceEqDiff, Nat.reduceAdd, Nat.reduceSub, Nat.reduceMul, Nat.reduceLeDiff, Nat.reduceBEq, decide_true, decide_false, reduceCtorEq, Int.reduceLT, Int.reduceNeg, rvN, Nat.reduceLT, Int.reduceLE, Int.reduceEq, eq_self, List.reduceReplicate, rvF, rvG, e41, e63, hlt, hr, hk, hnn, hwi, hi0, i64c]
        · have e1 : (a < (sumWRecAck (s :: r) : Nat)) ↔ (a - (s.w : Nat) < (sumWRecAck r : Nat)) := by simp only [sumWRecAck]; omega
          have e2 : a - (sumWRecAck (s :: r) : Nat) = a - (s.w : Nat) - (sumWRecAck r : Nat) := by simp only [sumWRecAck]; omega
          simp only [e1, e2]
    · intro a ⟨ha, hb⟩
      have e : ¬ (a < (sumWRecAck [] : Nat)) := by simp only [sumWRecAck]; omega
      have e2 : a - (sumWRecAck [] : Nat) = a := by simp only [sumWRecAck]; omega
      simp only [rv0, rv1, rvE, rvH, rvS, rvI, eT, eQ, ↓reduceIte, Nat.reduceEqDiff, Nat.reduceAdd, Nat.reduceSub, Nat.reduceMul, Nat.reduceLeDiff, Nat.reduceBEq, decide_true, decide_false, reduceCtorEq, Int.reduceLT, Int.reduceNeg, rvN, Nat.reduceLT, Int.reduceLE, Int.reduceEq, eq_self, List.reduceReplicate, rvF, rvG, e41, e, e2]
theorem k_szRecorder (x : VRecorder) (left : Int) (hx : x.ok) (h0 : 0 ≤ left) (h1 : left ≤ 1048576) : EV Try.prog E 22 [.val 0 true (VRecorder.c .shr x), .val 0 false [.p (.int .i64 left)]] = some ⟨[(false, [.p (.int .i64 (subW left x.w))])], []⟩ := by
  refine EV_intro Try.func22 rfl ?_
  have hx0 := hx
  simp only [VRecorder.ok] at hx
  obtain ⟨o_number, o_of_, o_safe, o_disk, o_held, o_wishes, o_ballot, o_yes, o_best, o_acks, o_heard⟩ := hx
  have w0 := k_szRecDisk x.safe (left) o_safe (by omega) (by omega)
  simp only [VRecDisk.c] at w0
  by_cases c0 : left < (x.safe.w : Nat)
  · have e : subW left x.w = -1 := subW_lt (by unfold VRecorder.w; omega)
    rw [subW_lt c0] at w0
    simp only [rv0, rv1, rvE, rvH, rvS, rvI, eT, eQ, ↓reduceIte, Nat.reduceEqDiff, Nat.reduceAdd, Nat.reduceSub, Nat.reduceMul, Nat.reduceLeDiff, Nat.reduceBEq, decide_true, decide_false, reduceCtorEq, Int.reduceLT, Int.reduceNeg, rvN, Nat.reduceLT, Int.reduceLE, Int.reduceEq, eq_self, List.reduceReplicate, rvF, rvG, e22, e37, Try.f22, VRecorder.c, w0, e]
  rw [subW_ge c0] at w0
  have d0 : ¬ (left - (x.safe.w : Nat) < 0) := by omega
  have w1 := k_szRecDisk x.disk (left - (x.safe.w : Nat)) o_disk (by omega) (by omega)
  simp only [VRecDisk.c] at w1
  by_cases c1 : left - (x.safe.w : Nat) < (x.disk.w : Nat)
  · have e : subW left x.w = -1 := subW_lt (by unfold VRecorder.w; omega)
    rw [subW_lt c1] at w1
    simp only [rv0, rv1, rvE, rvH, rvS, rvI, eT, eQ, ↓reduceIte, Nat.reduceEqDiff, Nat.reduceAdd, Nat.reduceSub, Nat.reduceMul, Nat.reduceLeDiff, Nat.reduceBEq, decide_true, decide_false, reduceCtorEq, Int.reduceLT, Int.reduceNeg, rvN, Nat.reduceLT, Int.reduceLE, Int.reduceEq, eq_self, List.reduceReplicate, rvF, rvG, e22, e37, Try.f22, VRecorder.c, w0, d0, w1, e]
  rw [subW_ge c1] at w1
  have d1 : ¬ (left - (x.safe.w : Nat) - (x.disk.w : Nat) < 0) := by omega
  have w2 := k_szRecMessageS x.held (left - (x.safe.w : Nat) - (x.disk.w : Nat)) o_held (by omega) (by omega)
  by_cases c2 : left - (x.safe.w : Nat) - (x.disk.w : Nat) < (wSRecMessage x.held : Nat)
  · have e : subW left x.w = -1 := subW_lt (by unfold VRecorder.w; omega)
    rw [subW_lt c2] at w2
    simp only [rv0, rv1, rvE, rvH, rvS, rvI, eT, eQ, ↓reduceIte, Nat.reduceEqDiff, Nat.reduceAdd, Nat.reduceSub, Nat.reduceMul, Nat.reduceLeDiff, Nat.reduceBEq, decide_true, decide_false, reduceCtorEq, Int.reduceLT, Int.reduceNeg, rvN, Nat.reduceLT, Int.reduceLE, Int.reduceEq, eq_self, List.reduceReplicate, rvF, rvG, e22, e37, e10, Try.f22, VRecorder.c, w0, d0, w1, d1, w2, e]
  rw [subW_ge c2] at w2
  have d2 : ¬ (left - (x.safe.w : Nat) - (x.disk.w : Nat) - (wSRecMessage x.held : Nat) < 0) := by omega
  have w3 := k_szStringS x.wishes (left - (x.safe.w : Nat) - (x.disk.w : Nat) - (wSRecMessage x.held : Nat)) o_wishes (by omega) (by omega)
  by_cases c3 : left - (x.safe.w : Nat) - (x.disk.w : Nat) - (wSRecMessage x.held : Nat) < (wSString x.wishes : Nat)
  · have e : subW left x.w = -1 := subW_lt (by unfold VRecorder.w; omega)
    rw [subW_lt c3] at w3
    simp only [rv0, rv1, rvE, rvH, rvS, rvI, eT, eQ, ↓reduceIte, Nat.reduceEqDiff, Nat.reduceAdd, Nat.reduceSub, Nat.reduceMul, Nat.reduceLeDiff, Nat.reduceBEq, decide_true, decide_false, reduceCtorEq, Int.reduceLT, Int.reduceNeg, rvN, Nat.reduceLT, Int.reduceLE, Int.reduceEq, eq_self, List.reduceReplicate, rvF, rvG, e22, e37, e10, e38, Try.f22, VRecorder.c, w0, d0, w1, d1, w2, d2, w3, e]
  rw [subW_ge c3] at w3
  have d3 : ¬ (left - (x.safe.w : Nat) - (x.disk.w : Nat) - (wSRecMessage x.held : Nat) - (wSString x.wishes : Nat) < 0) := by omega
  have w4 := k_szIntS x.yes (left - (x.safe.w : Nat) - (x.disk.w : Nat) - (wSRecMessage x.held : Nat) - (wSString x.wishes : Nat)) o_yes (by omega) (by omega)
  by_cases c4 : left - (x.safe.w : Nat) - (x.disk.w : Nat) - (wSRecMessage x.held : Nat) - (wSString x.wishes : Nat) < (wSInt x.yes : Nat)
  · have e : subW left x.w = -1 := subW_lt (by unfold VRecorder.w; omega)
    rw [subW_lt c4] at w4
    simp only [rv0, rv1, rvE, rvH, rvS, rvI, eT, eQ, ↓reduceIte, Nat.reduceEqDiff, Nat.reduceAdd, Nat.reduceSub, Nat.reduceMul, Nat.reduceLeDiff, Nat.reduceBEq, decide_true, decide_false, reduceCtorEq, Int.reduceLT, Int.reduceNeg, rvN, Nat.reduceLT, Int.reduceLE, Int.reduceEq, eq_self, List.reduceReplicate, rvF, rvG, e22, e37, e10, e38, e39, Try.f22, VRecorder.c, w0, d0, w1, d1, w2, d2, w3, d3, w4, e]
  rw [subW_ge c4] at w4
  have d4 : ¬ (left - (x.safe.w : Nat) - (x.disk.w : Nat) - (wSRecMessage x.held : Nat) - (wSString x.wishes : Nat) - (wSInt x.yes : Nat) < 0) := by omega
  have w5 := k_szRecSlotS x.best (left - (x.safe.w : Nat) - (x.disk.w : Nat) - (wSRecMessage x.held : Nat) - (wSString x.wishes : Nat) - (wSInt x.yes : Nat)) o_best (by omega) (by omega)
  by_cases c5 : left - (x.safe.w : Nat) - (x.disk.w : Nat) - (wSRecMessage x.held : Nat) - (wSString x.wishes : Nat) - (wSInt x.yes : Nat) < (wSRecSlot x.best : Nat)
  · have e : subW left x.w = -1 := subW_lt (by unfold VRecorder.w; omega)
    rw [subW_lt c5] at w5
    simp only [rv0, rv1, rvE, rvH, rvS, rvI, eT, eQ, ↓reduceIte, Nat.reduceEqDiff, Nat.reduceAdd, Nat.reduceSub, Nat.reduceMul, Nat.reduceLeDiff, Nat.reduceBEq, decide_true, decide_false, reduceCtorEq, Int.reduceLT, Int.reduceNeg, rvN, Nat.reduceLT, Int.reduceLE, Int.reduceEq, eq_self, List.reduceReplicate, rvF, rvG, e22, e37, e10, e38, e39, e40, Try.f22, VRecorder.c, w0, d0, w1, d1, w2, d2, w3, d3, w4, d4, w5, e]
  rw [subW_ge c5] at w5
  have d5 : ¬ (left - (x.safe.w : Nat) - (x.disk.w : Nat) - (wSRecMessage x.held : Nat) - (wSString x.wishes : Nat) - (wSInt x.yes : Nat) - (wSRecSlot x.best : Nat) < 0) := by omega
  have w6 := k_szRecAckS x.acks (left - (x.safe.w : Nat) - (x.disk.w : Nat) - (wSRecMessage x.held : Nat) - (wSString x.wishes : Nat) - (wSInt x.yes : Nat) - (wSRecSlot x.best : Nat)) o_acks (by omega) (by omega)
  by_cases c6 : left - (x.safe.w : Nat) - (x.disk.w : Nat) - (wSRecMessage x.held : Nat) - (wSString x.wishes : Nat) - (wSInt x.yes : Nat) - (wSRecSlot x.best : Nat) < (wSRecAck x.acks : Nat)
  · have e : subW left x.w = -1 := subW_lt (by unfold VRecorder.w; omega)
    rw [subW_lt c6] at w6
    simp only [rv0, rv1, rvE, rvH, rvS, rvI, eT, eQ, ↓reduceIte, Nat.reduceEqDiff, Nat.reduceAdd, Nat.reduceSub, Nat.reduceMul, Nat.reduceLeDiff, Nat.reduceBEq, decide_true, decide_false, reduceCtorEq, Int.reduceLT, Int.reduceNeg, rvN, Nat.reduceLT, Int.reduceLE, Int.reduceEq, eq_self, List.reduceReplicate, rvF, rvG, e22, e37, e10, e38, e39, e40, e41, Try.f22, VRecorder.c, w0, d0, w1, d1, w2, d2, w3, d3, w4, d4, w5, d5, w6, e]
  rw [subW_ge c6] at w6
  have d6 : ¬ (left - (x.safe.w : Nat) - (x.disk.w : Nat) - (wSRecMessage x.held : Nat) - (wSString x.wishes : Nat) - (wSInt x.yes : Nat) - (wSRecSlot x.best : Nat) - (wSRecAck x.acks : Nat) < 0) := by omega
  have e : subW left x.w = left - (x.safe.w : Nat) - (x.disk.w : Nat) - (wSRecMessage x.held : Nat) - (wSString x.wishes : Nat) - (wSInt x.yes : Nat) - (wSRecSlot x.best : Nat) - (wSRecAck x.acks : Nat) := by rw [subW_ge (by unfold VRecorder.w; omega)]; unfold VRecorder.w; omega
  simp only [rv0, rv1, rvE, rvH, rvS, rvI, eT, eQ, ↓reduceIte, Nat.reduceEqDiff, Nat.reduceAdd, Nat.reduceSub, Nat.reduceMul, Nat.reduceLeDiff, Nat.reduceBEq, decide_true, decide_false, reduceCtorEq, Int.reduceLT, Int.reduceNeg, rvN, Nat.reduceLT, Int.reduceLE, Int.reduceEq, eq_self, List.reduceReplicate, rvF, rvG, e22, e37, e10, e38, e39, e40, e41, Try.f22, VRecorder.c, w0, d0, w1, d1, w2, d2, w3, d3, w4, d4, w5, d5, w6, d6, e]
theorem k_toRecSlot (x : VRecSlot) (hw : x.w ≤ 4194304) : EV Try.prog E 64 [.val 0 true (VRecSlot.c x)] = some ⟨[(true, VRecSlot.c x)], []⟩ := by
  refine EV_intro Try.func64 rfl ?_
  unfold VRecSlot.w at hw
  simp only [rv0, rv1, rvE, rvH, rvS, rvI, eT, eQ, ↓reduceIte, Nat.reduceEqDiff, Nat.reduceAdd, Nat.reduceSub, Nat.reduceMul, Nat.reduceLeDiff, Nat.reduceBEq, decide_true, decide_false, reduceCtorEq, Int.reduceLT, Int.reduceNeg, rvN, Nat.reduceLT, Int.reduceLE, Int.reduceEq, eq_self, List.reduceReplicate, rvF, rvG, e64, Try.f64, VRecSlot.c]
theorem k_toRecSlotS (l : List VRecSlot) (hw : wSRecSlot l ≤ 4194304) : EV Try.prog E 51 [.val 0 false [.sl .shr 2 (l.map VRecSlot.c)]] = some ⟨[(false, [.sl .own 2 (l.map VRecSlot.c)])], []⟩ := by
  refine EV_intro Try.func51 rfl ?_
  have hn : l.length ≤ 4194304 := by unfold wSRecSlot at hw; omega
  have h1 : l.length < 4294967296 := by omega
  have h0 : (0 : Int) ≤ (l.length : Int) := by omega
  have hz := repl_whole (z := [.p (.int .i64 0), .p (.string ⟨#[]⟩)]) (by simp only [rv0, rv1, rvE, rvH, rvS, rvI, eT, eQ, ↓reduceIte, Nat.reduceEqDiff, Nat.reduceAdd, Nat.reduceSub, Nat.reduceMul, Nat.reduceLeDiff, Nat.reduceBEq, decide_true, decide_false, reduceCtorEq, Int.reduceLT, Int.reduceNeg, rvN, Nat.reduceLT, Int.reduceLE, Int.reduceEq, eq_self, List.reduceReplicate, rvF, rvG, Fl.isShr, Fl.isOwn]) l.length
  simp only [rv0, rv1, rvE, rvH, rvS, rvI, eT, eQ, ↓reduceIte, Nat.reduceEqDiff, Nat.reduceAdd, Nat.reduceSub, Nat.reduceMul, Nat.reduceLeDiff, Nat.reduceBEq, decide_true, decide_false, reduceCtorEq, Int.reduceLT, Int.reduceNeg, rvN, Nat.reduceLT, Int.reduceLE, Int.reduceEq, eq_self, List.reduceReplicate, rvF, rvG, e51, Try.f51, LIM, h1, h0, hz]
  rw [for_block l (fun i (_ : Unit) => ⟨3, [(0, .val 0 false [.sl .shr 2 (l.map VRecSlot.c)]), (3, .val 1 false [.sl .own 2 (fillR VRecSlot.c l [.p (.int .i64 0), .p (.string ⟨#[]⟩)] i)]), (4, .val 2 false [.p (.int .i64 i)])]⟩) (fun i _ => True)
      (fun r i a => .norm ⟨1, [(3, .val 0 false [.sl .own 2 (l.map VRecSlot.c)])]⟩) ?_ ?_ (a := ()) trivial (by simp only [rv0, rv1, rvE, rvH, rvS, rvI, eT, eQ, ↓reduceIte, Nat.reduceEqDiff, Nat.reduceAdd, Nat.reduceSub, Nat.reduceMul, Nat.reduceLeDiff, Nat.reduceBEq, decide_true, decide_false, reduceCtorEq, Int.reduceLT, Int.reduceNeg, rvN, Nat.reduceLT, Int.reduceLE, Int.reduceEq, eq_self, List.reduceReplicate, rvF, rvG, e51, fill_zero]; rfl)]
  · simp only [rv0, rv1, rvE, rvH, rvS, rvI, eT, eQ, ↓reduceIte, Nat.reduceEqDiff, Nat.reduceAdd, Nat.reduceSub, Nat.reduceMul, Nat.reduceLeDiff, Nat.reduceBEq, decide_true, decide_false, reduceCtorEq, Int.reduceLT, Int.reduceNeg, rvN, Nat.reduceLT, Int.reduceLE, Int.reduceEq, eq_self, List.reduceReplicate, rvF, rvG, e51, rowsRecSlot]
  · intro i s r a hd hi _
    have hlen := (List.getElem?_eq_some_iff.1 hi).1
    have hlt : ((i : Int) < (l.length : Int)) := by omega
    have hr := getElem?_map_some (f := VRecSlot.c) hi
    have hwi := wrap64 (n := (i : Int) + 1) (by omega) (by omega)
    have hi0 : (0 : Int) ≤ (i : Int) := by omega
    have hg := fill_get VRecSlot.c [.p (.int .i64 0), .p (.string ⟨#[]⟩)] hlen
    have hs := fill_set VRecSlot.c [.p (.int .i64 0), .p (.string ⟨#[]⟩)] hi
    have hfl := fill_length VRecSlot.c l [.p (.int .i64 0), .p (.string ⟨#[]⟩)] (Nat.le_of_lt hlen)
    simp only [VRecSlot.c] at hr hs
    have hm := k_toRecSlot s (by have := wSRecSlot_mem (List.mem_of_getElem? hi); unfold wSRecSlot at hw; omega)
    simp only [VRecSlot.c] at hm
    left
    refine ⟨(), ?_, trivial, rfl⟩
    simp only [rv0, rv1, rvE, rvH, rvS, rvI, eT, eQ, ↓reduceIte, Nat.reduceEqDiff, Nat.reduceAdd, Nat.reduceSub, Nat.reduceMul, Nat.reduceLeDiff, Nat.reduceBEq, decide_true, decide_false, reduceCtorEq, Int.reduceLT, Int.reduceNeg, rvN, Nat.reduceLT, Int.reduceLE, Int.reduceEq, eq_self, List.reduceReplicate, rvF, rvG, e51, e64, hlt, hr, hm, hwi, hi0, hg, hs, hfl, hlen, i64c]
  · intro a _
    simp only [rv0, rv1, rvE, rvH, rvS, rvI, eT, eQ, ↓reduceIte, Nat.reduceEqDiff, Nat.reduceAdd, Nat.reduceSub, Nat.reduceMul, Nat.reduceLeDiff, Nat.reduceBEq, decide_true, decide_false, reduceCtorEq, Int.reduceLT, Int.reduceNeg, rvN, Nat.reduceLT, Int.reduceLE, Int.reduceEq, eq_self, List.reduceReplicate, rvF, rvG, e51, fill_end]
theorem k_toRecDisk (x : VRecDisk) (hw : x.w ≤ 4194304) : EV Try.prog E 48 [.val 0 true (VRecDisk.c .shr x)] = some ⟨[(true, VRecDisk.c .own x)], []⟩ := by
  refine EV_intro Try.func48 rfl ?_
  unfold VRecDisk.w at hw
  have h0 := k_toRecSlotS x.slots (by omega)
  simp only [rv0, rv1, rvE, rvH, rvS, rvI, eT, eQ, ↓reduceIte, Nat.reduceEqDiff, Nat.reduceAdd, Nat.reduceSub, Nat.reduceMul, Nat.reduceLeDiff, Nat.reduceBEq, decide_true, decide_false, reduceCtorEq, Int.reduceLT, Int.reduceNeg, rvN, Nat.reduceLT, Int.reduceLE, Int.reduceEq, eq_self, List.reduceReplicate, rvF, rvG, e48, e51, Try.f48, VRecDisk.c, h0, rowsRecSlot]
theorem k_toRecMessage (x : VRecMessage) (hw : x.w ≤ 4194304) : EV Try.prog E 29 [.val 0 true (VRecMessage.c .shr x)] = some ⟨[(true, VRecMessage.c .own x)], []⟩ := by
  refine EV_intro Try.func29 rfl ?_
  unfold VRecMessage.w at hw
  have h0 := k_toRecSlotS x.slots (by omega)
  simp only [rv0, rv1, rvE, rvH, rvS, rvI, eT, eQ, ↓reduceIte, Nat.reduceEqDiff, Nat.reduceAdd, Nat.reduceSub, Nat.reduceMul, Nat.reduceLeDiff, Nat.reduceBEq, decide_true, decide_false, reduceCtorEq, Int.reduceLT, Int.reduceNeg, rvN, Nat.reduceLT, Int.reduceLE, Int.reduceEq, eq_self, List.reduceReplicate, rvF, rvG, e29, e51, Try.f29, VRecMessage.c, h0, rowsRecSlot]
theorem k_toRecMessageS (l : List VRecMessage) (hw : wSRecMessage l ≤ 4194304) : EV Try.prog E 15 [.val 0 false [.sl .shr 8 (l.map (VRecMessage.c .shr))]] = some ⟨[(false, [.sl .own 8 (l.map (VRecMessage.c .own))])], []⟩ := by
  refine EV_intro Try.func15 rfl ?_
  have hn : l.length ≤ 4194304 := by unfold wSRecMessage at hw; omega
  have h1 : l.length < 4294967296 := by omega
  have h0 : (0 : Int) ≤ (l.length : Int) := by omega
  have hz := repl_whole (z := [.p (.int .i64 0), .p (.int .i64 0), .p (.int .i64 0), .p (.int .i64 0), .p (.int .i64 0), .p (.int .i64 0), .p (.string ⟨#[]⟩), .sl .own 2 []]) (by simp only [rv0, rv1, rvE, rvH, rvS, rvI, eT, eQ, ↓reduceIte, Nat.reduceEqDiff, Nat.reduceAdd, Nat.reduceSub, Nat.reduceMul, Nat.reduceLeDiff, Nat.reduceBEq, decide_true, decide_false, reduceCtorEq, Int.reduceLT, Int.reduceNeg, rvN, Nat.reduceLT, Int.reduceLE, Int.reduceEq, eq_self, List.reduceReplicate, rvF, rvG, Fl.isShr, Fl.isOwn]) l.length
  simp only [rv0, rv1, rvE, rvH, rvS, rvI, eT, eQ, ↓reduceIte, Nat.reduceEqDiff, Nat.reduceAdd, Nat.reduceSub, Nat.reduceMul, Nat.reduceLeDiff, Nat.reduceBEq, decide_true, decide_false, reduceCtorEq, Int.reduceLT, Int.reduceNeg, rvN, Nat.reduceLT, Int.reduceLE, Int.reduceEq, eq_self, List.reduceReplicate, rvF, rvG, e15, Try.f15, LIM, h1, h0, hz]
  rw [for_block l (fun i (_ : Unit) => ⟨3, [(0, .val 0 false [.sl .shr 8 (l.map (VRecMessage.c .shr))]), (3, .val 1 false [.sl .own 8 (fillR (VRecMessage.c .own) l [.p (.int .i64 0), .p (.int .i64 0), .p (.int .i64 0), .p (.int .i64 0), .p (.int .i64 0), .p (.int .i64 0), .p (.string ⟨#[]⟩), .sl .own 2 []] i)]), (4, .val 2 false [.p (.int .i64 i)])]⟩) (fun i _ => True)
      (fun r i a => .norm ⟨1, [(3, .val 0 false [.sl .own 8 (l.map (VRecMessage.c .own))])]⟩) ?_ ?_ (a := ()) trivial (by simp only [rv0, rv1, rvE, rvH, rvS, rvI, eT, eQ, ↓reduceIte, Nat.reduceEqDiff, Nat.reduceAdd, Nat.reduceSub, Nat.reduceMul, Nat.reduceLeDiff, Nat.reduceBEq, decide_true, decide_false, reduceCtorEq, Int.reduceLT, Int.reduceNeg, rvN, Nat.reduceLT, Int.reduceLE, Int.reduceEq, eq_self, List.reduceReplicate, rvF, rvG, e15, fill_zero]; rfl)]
  · simp only [rv0, rv1, rvE, rvH, rvS, rvI, eT, eQ, ↓reduceIte, Nat.reduceEqDiff, Nat.reduceAdd, Nat.reduceSub, Nat.reduceMul, Nat.reduceLeDiff, Nat.reduceBEq, decide_true, decide_false, reduceCtorEq, Int.reduceLT, Int.reduceNeg, rvN, Nat.reduceLT, Int.reduceLE, Int.reduceEq, eq_self, List.reduceReplicate, rvF, rvG, e15, rowsRecMessage]
  · intro i s r a hd hi _
    have hlen := (List.getElem?_eq_some_iff.1 hi).1
    have hlt : ((i : Int) < (l.length : Int)) := by omega
    have hr := getElem?_map_some (f := (VRecMessage.c .shr)) hi
    have hwi := wrap64 (n := (i : Int) + 1) (by omega) (by omega)
    have hi0 : (0 : Int) ≤ (i : Int) := by omega
    have hg := fill_get (VRecMessage.c .own) [.p (.int .i64 0), .p (.int .i64 0), .p (.int .i64 0), .p (.int .i64 0), .p (.int .i64 0), .p (.int .i64 0), .p (.string ⟨#[]⟩), .sl .own 2 []] hlen
    have hs := fill_set (VRecMessage.c .own) [.p (.int .i64 0), .p (.int .i64 0), .p (.int .i64 0), .p (.int .i64 0), .p (.int .i64 0), .p (.int .i64 0), .p (.string ⟨#[]⟩), .sl .own 2 []] hi
    have hfl := fill_length (VRecMessage.c .own) l [.p (.int .i64 0), .p (.int .i64 0), .p (.int .i64 0), .p (.int .i64 0), .p (.int .i64 0), .p (.int .i64 0), .p (.string ⟨#[]⟩), .sl .own 2 []] (Nat.le_of_lt hlen)
    simp only [VRecMessage.c] at hr hs
    have hm := k_toRecMessage s (by have := wSRecMessage_mem (List.mem_of_getElem? hi); unfold wSRecMessage at hw; omega)
    simp only [VRecMessage.c] at hm
    left
    refine ⟨(), ?_, trivial, rfl⟩
    simp only [rv0, rv1, rvE, rvH, rvS, rvI, eT, eQ, ↓reduceIte, Nat.reduceEqDiff, Nat.reduceAdd, Nat.reduceSub, Nat.reduceMul, Nat.reduceLeDiff, Nat.reduceBEq, decide_true, decide_false, reduceCtorEq, Int.reduceLT, Int.reduceNeg, rvN, Nat.reduceLT, Int.reduceLE, Int.reduceEq, eq_self, List.reduceReplicate, rvF, rvG, e15, e29, hlt, hr, hm, hwi, hi0, hg, hs, hfl, hlen, i64c, rowsRecSlot]
  · intro a _
    simp only [rv0, rv1, rvE, rvH, rvS, rvI, eT, eQ, ↓reduceIte, Nat.reduceEqDiff, Nat.reduceAdd, Nat.reduceSub, Nat.reduceMul, Nat.reduceLeDiff, Nat.reduceBEq, decide_true, decide_false, reduceCtorEq, Int.reduceLT, Int.reduceNeg, rvN, Nat.reduceLT, Int.reduceLE, Int.reduceEq, eq_self, List.reduceReplicate, rvF, rvG, e15, fill_end]
theorem k_toStringS (l : List ByteArray) (hw : wSString l ≤ 4194304) : EV Try.prog E 49 [.val 0 false [.sl .shr 1 (l.map strC)]] = some ⟨[(false, [.sl .own 1 (l.map strC)])], []⟩ := by
  refine EV_intro Try.func49 rfl ?_
  have hn : l.length ≤ 4194304 := by unfold wSString at hw; omega
  have h1 : l.length < 4294967296 := by omega
  have h0 : (0 : Int) ≤ (l.length : Int) := by omega
  have hz := repl_whole (z := [.p (.string ⟨#[]⟩)]) (by simp only [rv0, rv1, rvE, rvH, rvS, rvI, eT, eQ, ↓reduceIte, Nat.reduceEqDiff, Nat.reduceAdd, Nat.reduceSub, Nat.reduceMul, Nat.reduceLeDiff, Nat.reduceBEq, decide_true, decide_false, reduceCtorEq, Int.reduceLT, Int.reduceNeg, rvN, Nat.reduceLT, Int.reduceLE, Int.reduceEq, eq_self, List.reduceReplicate, rvF, rvG, Fl.isShr, Fl.isOwn]) l.length
  simp only [rv0, rv1, rvE, rvH, rvS, rvI, eT, eQ, ↓reduceIte, Nat.reduceEqDiff, Nat.reduceAdd, Nat.reduceSub, Nat.reduceMul, Nat.reduceLeDiff, Nat.reduceBEq, decide_true, decide_false, reduceCtorEq, Int.reduceLT, Int.reduceNeg, rvN, Nat.reduceLT, Int.reduceLE, Int.reduceEq, eq_self, List.reduceReplicate, rvF, rvG, e49, Try.f49, LIM, h1, h0, hz]
  rw [for_block l (fun i (_ : Unit) => ⟨3, [(0, .val 0 false [.sl .shr 1 (l.map strC)]), (3, .val 1 false [.sl .own 1 (fillR strC l [.p (.string ⟨#[]⟩)] i)]), (4, .val 2 false [.p (.int .i64 i)])]⟩) (fun i _ => True)
      (fun r i a => .norm ⟨1, [(3, .val 0 false [.sl .own 1 (l.map strC)])]⟩) ?_ ?_ (a := ()) trivial (by simp only [rv0, rv1, rvE, rvH, rvS, rvI, eT, eQ, ↓reduceIte, Nat.reduceEqDiff, Nat.reduceAdd, Nat.reduceSub, Nat.reduceMul, Nat.reduceLeDiff, Nat.reduceBEq, decide_true, decide_false, reduceCtorEq, Int.reduceLT, Int.reduceNeg, rvN, Nat.reduceLT, Int.reduceLE, Int.reduceEq, eq_self, List.reduceReplicate, rvF, rvG, e49, fill_zero]; rfl)]
  · simp only [rv0, rv1, rvE, rvH, rvS, rvI, eT, eQ, ↓reduceIte, Nat.reduceEqDiff, Nat.reduceAdd, Nat.reduceSub, Nat.reduceMul, Nat.reduceLeDiff, Nat.reduceBEq, decide_true, decide_false, reduceCtorEq, Int.reduceLT, Int.reduceNeg, rvN, Nat.reduceLT, Int.reduceLE, Int.reduceEq, eq_self, List.reduceReplicate, rvF, rvG, e49, rowsString]
  · intro i s r a hd hi _
    have hlen := (List.getElem?_eq_some_iff.1 hi).1
    have hlt : ((i : Int) < (l.length : Int)) := by omega
    have hr := getElem?_map_some (f := strC) hi
    have hwi := wrap64 (n := (i : Int) + 1) (by omega) (by omega)
    have hi0 : (0 : Int) ≤ (i : Int) := by omega
    have hg := fill_get strC [.p (.string ⟨#[]⟩)] hlen
    have hs := fill_set strC [.p (.string ⟨#[]⟩)] hi
    have hfl := fill_length strC l [.p (.string ⟨#[]⟩)] (Nat.le_of_lt hlen)
    simp only [strC] at hr hs
    left
    refine ⟨(), ?_, trivial, rfl⟩
    simp only [rv0, rv1, rvE, rvH, rvS, rvI, eT, eQ, ↓reduceIte, Nat.reduceEqDiff, Nat.reduceAdd, Nat.reduceSub, Nat.reduceMul, Nat.reduceLeDiff, Nat.reduceBEq, decide_true, decide_false, reduceCtorEq, Int.reduceLT, Int.reduceNeg, rvN, Nat.reduceLT, Int.reduceLE, Int.reduceEq, eq_self, List.reduceReplicate, rvF, rvG, e49, hlt, hr, hwi, hi0, hg, hs, hfl, hlen, i64c]
  · intro a _
    simp only [rv0, rv1, rvE, rvH, rvS, rvI, eT, eQ, ↓reduceIte, Nat.reduceEqDiff, Nat.reduceAdd, Nat.reduceSub, Nat.reduceMul, Nat.reduceLeDiff, Nat.reduceBEq, decide_true, decide_false, reduceCtorEq, Int.reduceLT, Int.reduceNeg, rvN, Nat.reduceLT, Int.reduceLE, Int.reduceEq, eq_self, List.reduceReplicate, rvF, rvG, e49, fill_end]
theorem k_toIntS (l : List Int) (hw : wSInt l ≤ 4194304) : EV Try.prog E 50 [.val 0 false [.sl .shr 1 (l.map intC)]] = some ⟨[(false, [.sl .own 1 (l.map intC)])], []⟩ := by
  refine EV_intro Try.func50 rfl ?_
  have hn : l.length ≤ 4194304 := by unfold wSInt at hw; omega
  have h1 : l.length < 4294967296 := by omega
  have h0 : (0 : Int) ≤ (l.length : Int) := by omega
  have hz := repl_whole (z := [.p (.int .i64 0)]) (by simp only [rv0, rv1, rvE, rvH, rvS, rvI, eT, eQ, ↓reduceIte, Nat.reduceEqDiff, Nat.reduceAdd, Nat.reduceSub, Nat.reduceMul, Nat.reduceLeDiff, Nat.reduceBEq, decide_true, decide_false, reduceCtorEq, Int.reduceLT, Int.reduceNeg, rvN, Nat.reduceLT, Int.reduceLE, Int.reduceEq, eq_self, List.reduceReplicate, rvF, rvG, Fl.isShr, Fl.isOwn]) l.length
  simp only [rv0, rv1, rvE, rvH, rvS, rvI, eT, eQ, ↓reduceIte, Nat.reduceEqDiff, Nat.reduceAdd, Nat.reduceSub, Nat.reduceMul, Nat.reduceLeDiff, Nat.reduceBEq, decide_true, decide_false, reduceCtorEq, Int.reduceLT, Int.reduceNeg, rvN, Nat.reduceLT, Int.reduceLE, Int.reduceEq, eq_self, List.reduceReplicate, rvF, rvG, e50, Try.f50, LIM, h1, h0, hz]
  rw [for_block l (fun i (_ : Unit) => ⟨3, [(0, .val 0 false [.sl .shr 1 (l.map intC)]), (3, .val 1 false [.sl .own 1 (fillR intC l [.p (.int .i64 0)] i)]), (4, .val 2 false [.p (.int .i64 i)])]⟩) (fun i _ => True)
      (fun r i a => .norm ⟨1, [(3, .val 0 false [.sl .own 1 (l.map intC)])]⟩) ?_ ?_ (a := ()) trivial (by simp only [rv0, rv1, rvE, rvH, rvS, rvI, eT, eQ, ↓reduceIte, Nat.reduceEqDiff, Nat.reduceAdd, Nat.reduceSub, Nat.reduceMul, Nat.reduceLeDiff, Nat.reduceBEq, decide_true, decide_false, reduceCtorEq, Int.reduceLT, Int.reduceNeg, rvN, Nat.reduceLT, Int.reduceLE, Int.reduceEq, eq_self, List.reduceReplicate, rvF, rvG, e50, fill_zero]; rfl)]
  · simp only [rv0, rv1, rvE, rvH, rvS, rvI, eT, eQ, ↓reduceIte, Nat.reduceEqDiff, Nat.reduceAdd, Nat.reduceSub, Nat.reduceMul, Nat.reduceLeDiff, Nat.reduceBEq, decide_true, decide_false, reduceCtorEq, Int.reduceLT, Int.reduceNeg, rvN, Nat.reduceLT, Int.reduceLE, Int.reduceEq, eq_self, List.reduceReplicate, rvF, rvG, e50, rowsInt]
  · intro i s r a hd hi _
    have hlen := (List.getElem?_eq_some_iff.1 hi).1
    have hlt : ((i : Int) < (l.length : Int)) := by omega
    have hr := getElem?_map_some (f := intC) hi
    have hwi := wrap64 (n := (i : Int) + 1) (by omega) (by omega)
    have hi0 : (0 : Int) ≤ (i : Int) := by omega
    have hg := fill_get intC [.p (.int .i64 0)] hlen
    have hs := fill_set intC [.p (.int .i64 0)] hi
    have hfl := fill_length intC l [.p (.int .i64 0)] (Nat.le_of_lt hlen)
    simp only [intC] at hr hs
    left
    refine ⟨(), ?_, trivial, rfl⟩
    simp only [rv0, rv1, rvE, rvH, rvS, rvI, eT, eQ, ↓reduceIte, Nat.reduceEqDiff, Nat.reduceAdd, Nat.reduceSub, Nat.reduceMul, Nat.reduceLeDiff, Nat.reduceBEq, decide_true, decide_false, reduceCtorEq, Int.reduceLT, Int.reduceNeg, rvN, Nat.reduceLT, Int.reduceLE, Int.reduceEq, eq_self, List.reduceReplicate, rvF, rvG, e50, hlt, hr, hwi, hi0, hg, hs, hfl, hlen, i64c]
  · intro a _
    simp only [rv0, rv1, rvE, rvH, rvS, rvI, eT, eQ, ↓reduceIte, Nat.reduceEqDiff, Nat.reduceAdd, Nat.reduceSub, Nat.reduceMul, Nat.reduceLeDiff, Nat.reduceBEq, decide_true, decide_false, reduceCtorEq, Int.reduceLT, Int.reduceNeg, rvN, Nat.reduceLT, Int.reduceLE, Int.reduceEq, eq_self, List.reduceReplicate, rvF, rvG, e50, fill_end]
theorem k_toRecAck (x : VRecAck) (hw : x.w ≤ 4194304) : EV Try.prog E 65 [.val 0 true (VRecAck.c .shr x)] = some ⟨[(true, VRecAck.c .own x)], []⟩ := by
  refine EV_intro Try.func65 rfl ?_
  unfold VRecAck.w at hw
  have h0 := k_toIntS x.from_ (by omega)
  simp only [rv0, rv1, rvE, rvH, rvS, rvI, eT, eQ, ↓reduceIte, Nat.reduceEqDiff, Nat.reduceAdd, Nat.reduceSub, Nat.reduceMul, Nat.reduceLeDiff, Nat.reduceBEq, decide_true, decide_false, reduceCtorEq, Int.reduceLT, Int.reduceNeg, rvN, Nat.reduceLT, Int.reduceLE, Int.reduceEq, eq_self, List.reduceReplicate, rvF, rvG, e65, e50, Try.f65, VRecAck.c, h0, rowsInt]
theorem k_toRecAckS (l : List VRecAck) (hw : wSRecAck l ≤ 4194304) : EV Try.prog E 52 [.val 0 false [.sl .shr 2 (l.map (VRecAck.c .shr))]] = some ⟨[(false, [.sl .own 2 (l.map (VRecAck.c .own))])], []⟩ := by
  refine EV_intro Try.func52 rfl ?_
  have hn : l.length ≤ 4194304 := by unfold wSRecAck at hw; omega
  have h1 : l.length < 4294967296 := by omega
  have h0 : (0 : Int) ≤ (l.length : Int) := by omega
  have hz := repl_whole (z := [.p (.int .i64 0), .sl .own 1 []]) (by simp only [rv0, rv1, rvE, rvH, rvS, rvI, eT, eQ, ↓reduceIte, Nat.reduceEqDiff, Nat.reduceAdd, Nat.reduceSub, Nat.reduceMul, Nat.reduceLeDiff, Nat.reduceBEq, decide_true, decide_false, reduceCtorEq, Int.reduceLT, Int.reduceNeg, rvN, Nat.reduceLT, Int.reduceLE, Int.reduceEq, eq_self, List.reduceReplicate, rvF, rvG, Fl.isShr, Fl.isOwn]) l.length
  simp only [rv0, rv1, rvE, rvH, rvS, rvI, eT, eQ, ↓reduceIte, Nat.reduceEqDiff, Nat.reduceAdd, Nat.reduceSub, Nat.reduceMul, Nat.reduceLeDiff, Nat.reduceBEq, decide_true, decide_false, reduceCtorEq, Int.reduceLT, Int.reduceNeg, rvN, Nat.reduceLT, Int.reduceLE, Int.reduceEq, eq_self, List.reduceReplicate, rvF, rvG, e52, Try.f52, LIM, h1, h0, hz]
  rw [for_block l (fun i (_ : Unit) => ⟨3, [(0, .val 0 false [.sl .shr 2 (l.map (VRecAck.c .shr))]), (3, .val 1 false [.sl .own 2 (fillR (VRecAck.c .own) l [.p (.int .i64 0), .sl .own 1 []] i)]), (4, .val 2 false [.p (.int .i64 i)])]⟩) (fun i _ => True)
      (fun r i a => .norm ⟨1, [(3, .val 0 false [.sl .own 2 (l.map (VRecAck.c .own))])]⟩) ?_ ?_ (a := ()) trivial (by simp only [rv0, rv1, rvE, rvH, rvS, rvI, eT, eQ, ↓reduceIte, Nat.reduceEqDiff, Nat.reduceAdd, Nat.reduceSub, Nat.reduceMul, Nat.reduceLeDiff, Nat.reduceBEq, decide_true, decide_false, reduceCtorEq, Int.reduceLT, Int.reduceNeg, rvN, Nat.reduceLT, Int.reduceLE, Int.reduceEq, eq_self, List.reduceReplicate, rvF, rvG, e52, fill_zero]; rfl)]
  · simp only [rv0, rv1, rvE, rvH, rvS, rvI, eT, eQ, ↓reduceIte, Nat.reduceEqDiff, Nat.reduceAdd, Nat.reduceSub, Nat.reduceMul, Nat.reduceLeDiff, Nat.reduceBEq, decide_true, decide_false, reduceCtorEq, Int.reduceLT, Int.reduceNeg, rvN, Nat.reduceLT, Int.reduceLE, Int.reduceEq, eq_self, List.reduceReplicate, rvF, rvG, e52, rowsRecAck]
  · intro i s r a hd hi _
    have hlen := (List.getElem?_eq_some_iff.1 hi).1
    have hlt : ((i : Int) < (l.length : Int)) := by omega
    have hr := getElem?_map_some (f := (VRecAck.c .shr)) hi
    have hwi := wrap64 (n := (i : Int) + 1) (by omega) (by omega)
    have hi0 : (0 : Int) ≤ (i : Int) := by omega
    have hg := fill_get (VRecAck.c .own) [.p (.int .i64 0), .sl .own 1 []] hlen
    have hs := fill_set (VRecAck.c .own) [.p (.int .i64 0), .sl .own 1 []] hi
    have hfl := fill_length (VRecAck.c .own) l [.p (.int .i64 0), .sl .own 1 []] (Nat.le_of_lt hlen)
    simp only [VRecAck.c] at hr hs
    have hm := k_toRecAck s (by have := wSRecAck_mem (List.mem_of_getElem? hi); unfold wSRecAck at hw; omega)
    simp only [VRecAck.c] at hm
    left
    refine ⟨(), ?_, trivial, rfl⟩
    simp only [rv0, rv1, rvE, rvH, rvS, rvI, eT, eQ, ↓reduceIte, Nat.reduceEqDiff, Nat.reduceAdd, Nat.reduceSub, Nat.reduceMul, Nat.reduceLeDiff, Nat.reduceBEq, decide_true, decide_false, reduceCtorEq, Int.reduceLT, Int.reduceNeg, rvN, Nat.reduceLT, Int.reduceLE, Int.reduceEq, eq_self, List.reduceReplicate, rvF, rvG, e52, e65, hlt, hr, hm, hwi, hi0, hg, hs, hfl, hlen, i64c, rowsInt]
  · intro a _
    simp only [rv0, rv1, rvE, rvH, rvS, rvI, eT, eQ, ↓reduceIte, Nat.reduceEqDiff, Nat.reduceAdd, Nat.reduceSub, Nat.reduceMul, Nat.reduceLeDiff, Nat.reduceBEq, decide_true, decide_false, reduceCtorEq, Int.reduceLT, Int.reduceNeg, rvN, Nat.reduceLT, Int.reduceLE, Int.reduceEq, eq_self, List.reduceReplicate, rvF, rvG, e52, fill_end]
theorem k_toRecorder (x : VRecorder) (hw : x.w ≤ 4194304) : EV Try.prog E 28 [.val 0 true (VRecorder.c .shr x)] = some ⟨[(true, VRecorder.c .own x)], []⟩ := by
  refine EV_intro Try.func28 rfl ?_
  unfold VRecorder.w at hw
  have h0 := k_toRecDisk x.safe (by omega)
  simp only [VRecDisk.c] at h0
  have h1 := k_toRecDisk x.disk (by omega)
  simp only [VRecDisk.c] at h1
  have h2 := k_toRecMessageS x.held (by omega)
  have h3 := k_toStringS x.wishes (by omega)
  have h4 := k_toIntS x.yes (by omega)
  have h5 := k_toRecSlotS x.best (by omega)
  have h6 := k_toRecAckS x.acks (by omega)
  simp only [rv0, rv1, rvE, rvH, rvS, rvI, eT, eQ, ↓reduceIte, Nat.reduceEqDiff, Nat.reduceAdd, Nat.reduceSub, Nat.reduceMul, Nat.reduceLeDiff, Nat.reduceBEq, decide_true, decide_false, reduceCtorEq, Int.reduceLT, Int.reduceNeg, rvN, Nat.reduceLT, Int.reduceLE, Int.reduceEq, eq_self, List.reduceReplicate, rvF, rvG, e28, e48, e15, e49, e50, e51, e52, Try.f28, VRecorder.c, h0, h1, h2, h3, h4, h5, h6, rowsRecSlot, rowsRecMessage, rowsString, rowsInt, rowsRecAck]
theorem k_eqRecSlot (x : VRecSlot) (hw : x.w ≤ 4194304) : EV Try.prog E 67 [.val 0 true (VRecSlot.c x), .val 0 true (VRecSlot.c x)] = some ⟨[(false, [.p (.bool true)])], []⟩ := by
  refine EV_intro Try.func67 rfl ?_
  unfold VRecSlot.w at hw
  simp only [rv0, rv1, rvE, rvH, rvS, rvI, eT, eQ, ↓reduceIte, Nat.reduceEqDiff, Nat.reduceAdd, Nat.reduceSub, Nat.reduceMul, Nat.reduceLeDiff, Nat.reduceBEq, decide_true, decide_false, reduceCtorEq, Int.reduceLT, Int.reduceNeg, rvN, Nat.reduceLT, Int.reduceLE, Int.reduceEq, eq_self, List.reduceReplicate, rvF, rvG, e67, Try.f67, VRecSlot.c, beq_self_eq_true]
theorem k_eqRecSlotS (l : List VRecSlot) (hw : wSRecSlot l ≤ 4194304) : EV Try.prog E 60 [.val 0 false [.sl .shr 2 (l.map VRecSlot.c)], .val 0 false [.sl .shr 2 (l.map VRecSlot.c)]] = some ⟨[(false, [.p (.bool true)])], []⟩ := by
  refine EV_intro Try.func60 rfl ?_
  have hn : l.length ≤ 4194304 := by unfold wSRecSlot at hw; omega
  simp only [rv0, rv1, rvE, rvH, rvS, rvI, eT, eQ, ↓reduceIte, Nat.reduceEqDiff, Nat.reduceAdd, Nat.reduceSub, Nat.reduceMul, Nat.reduceLeDiff, Nat.reduceBEq, decide_true, decide_false, reduceCtorEq, Int.reduceLT, Int.reduceNeg, rvN, Nat.reduceLT, Int.reduceLE, Int.reduceEq, eq_self, List.reduceReplicate, rvF, rvG, e60, Try.f60]
  rw [for_block l (fun i (_ : Unit) => ⟨3, [(0, .val 0 false [.sl .shr 2 (l.map VRecSlot.c)]), (1, .val 1 false [.sl .shr 2 (l.map VRecSlot.c)]), (5, .val 2 false [.p (.int .i64 i)])]⟩) (fun i _ => True)
      (fun r i a => .norm ⟨0, []⟩) ?_ ?_ (a := ()) trivial (by simp only [rv0, rv1, rvE, rvH, rvS, rvI, eT, eQ, ↓reduceIte, Nat.reduceEqDiff, Nat.reduceAdd, Nat.reduceSub, Nat.reduceMul, Nat.reduceLeDiff, Nat.reduceBEq, decide_true, decide_false, reduceCtorEq, Int.reduceLT, Int.reduceNeg, rvN, Nat.reduceLT, Int.reduceLE, Int.reduceEq, eq_self, List.reduceReplicate, rvF, rvG, e60]; rfl)]
  · simp only [rv0, rv1, rvE, rvH, rvS, rvI, eT, eQ, ↓reduceIte, Nat.reduceEqDiff, Nat.reduceAdd, Nat.reduceSub, Nat.reduceMul, Nat.reduceLeDiff, Nat.reduceBEq, decide_true, decide_false, reduceCtorEq, Int.reduceLT, Int.reduceNeg, rvN, Nat.reduceLT, Int.reduceLE, Int.reduceEq, eq_self, List.reduceReplicate, rvF, rvG, e60]
  · intro i s r a hd hi _
    have hlen := (List.getElem?_eq_some_iff.1 hi).1
    have hlt : ((i : Int) < (l.length : Int)) := by omega
    have hr := getElem?_map_some (f := VRecSlot.c) hi
    have hwi := wrap64 (n := (i : Int) + 1) (by omega) (by omega)
    have hi0 : (0 : Int) ≤ (i : Int) := by omega
    simp only [VRecSlot.c] at hr
    have hm := k_eqRecSlot s (by have := wSRecSlot_mem (List.mem_of_getElem? hi); unfold wSRecSlot at hw; omega)
    simp only [VRecSlot.c] at hm
    left
    refine ⟨(), ?_, trivial, rfl⟩
    simp only [rv0, rv1, rvE, rvH, rvS, rvI, eT, eQ, ↓reduceIte, Nat.reduceEqDiff, Nat.reduceAdd, Nat.reduceSub, Nat.reduceMul, Nat.reduceLeDiff, Nat.reduceBEq, decide_true, decide_false, reduceCtorEq, Int.reduceLT, Int.reduceNeg, rvN, Nat.reduceLT, Int.reduceLE, Int.reduceEq, eq_self, List.reduceReplicate, rvF, rvG, e60, e67, hlt, hr, hm, hwi, hi0, i64c, beq_self_eq_true]
  · intro a _
    simp only [rv0, rv1, rvE, rvH, rvS, rvI, eT, eQ, ↓reduceIte, Nat.reduceEqDiff, Nat.reduceAdd, Nat.reduceSub, Nat.reduceMul, Nat.reduceLeDiff, Nat.reduceBEq, decide_true, decide_false, reduceCtorEq, Int.reduceLT, Int.reduceNeg, rvN, Nat.reduceLT, Int.reduceLE, Int.reduceEq, eq_self, List.reduceReplicate, rvF, rvG, e60]
theorem k_eqRecDisk (x : VRecDisk) (hw : x.w ≤ 4194304) : EV Try.prog E 57 [.val 0 true (VRecDisk.c .shr x), .val 0 true (VRecDisk.c .shr x)] = some ⟨[(false, [.p (.bool true)])], []⟩ := by
  refine EV_intro Try.func57 rfl ?_
  unfold VRecDisk.w at hw
  have h0 := k_eqRecSlotS x.slots (by omega)
  simp only [rv0, rv1, rvE, rvH, rvS, rvI, eT, eQ, ↓reduceIte, Nat.reduceEqDiff, Nat.reduceAdd, Nat.reduceSub, Nat.reduceMul, Nat.reduceLeDiff, Nat.reduceBEq, decide_true, decide_false, reduceCtorEq, Int.reduceLT, Int.reduceNeg, rvN, Nat.reduceLT, Int.reduceLE, Int.reduceEq, eq_self, List.reduceReplicate, rvF, rvG, e57, e60, Try.f57, VRecDisk.c, h0, beq_self_eq_true]
theorem k_eqRecMessage (x : VRecMessage) (hw : x.w ≤ 4194304) : EV Try.prog E 35 [.val 0 true (VRecMessage.c .shr x), .val 0 true (VRecMessage.c .shr x)] = some ⟨[(false, [.p (.bool true)])], []⟩ := by
  refine EV_intro Try.func35 rfl ?_
  unfold VRecMessage.w at hw
  have h0 := k_eqRecSlotS x.slots (by omega)
  simp only [rv0, rv1, rvE, rvH, rvS, rvI, eT, eQ, ↓reduceIte, Nat.reduceEqDiff, Nat.reduceAdd, Nat.reduceSub, Nat.reduceMul, Nat.reduceLeDiff, Nat.reduceBEq, decide_true, decide_false, reduceCtorEq, Int.reduceLT, Int.reduceNeg, rvN, Nat.reduceLT, Int.reduceLE, Int.reduceEq, eq_self, List.reduceReplicate, rvF, rvG, e35, e60, Try.f35, VRecMessage.c, h0, beq_self_eq_true]
theorem k_eqRecMessageS (l : List VRecMessage) (hw : wSRecMessage l ≤ 4194304) : EV Try.prog E 20 [.val 0 false [.sl .shr 8 (l.map (VRecMessage.c .shr))], .val 0 false [.sl .shr 8 (l.map (VRecMessage.c .shr))]] = some ⟨[(false, [.p (.bool true)])], []⟩ := by
  refine EV_intro Try.func20 rfl ?_
  have hn : l.length ≤ 4194304 := by unfold wSRecMessage at hw; omega
  simp only [rv0, rv1, rvE, rvH, rvS, rvI, eT, eQ, ↓reduceIte, Nat.reduceEqDiff, Nat.reduceAdd, Nat.reduceSub, Nat.reduceMul, Nat.reduceLeDiff, Nat.reduceBEq, decide_true, decide_false, reduceCtorEq, Int.reduceLT, Int.reduceNeg, rvN, Nat.reduceLT, Int.reduceLE, Int.reduceEq, eq_self, List.reduceReplicate, rvF, rvG, e20, Try.f20]
  rw [for_block l (fun i (_ : Unit) => ⟨3, [(0, .val 0 false [.sl .shr 8 (l.map (VRecMessage.c .shr))]), (1, .val 1 false [.sl .shr 8 (l.map (VRecMessage.c .shr))]), (5, .val 2 false [.p (.int .i64 i)])]⟩) (fun i _ => True)
      (fun r i a => .norm ⟨0, []⟩) ?_ ?_ (a := ()) trivial (by simp only [rv0, rv1, rvE, rvH, rvS, rvI, eT, eQ, ↓reduceIte, Nat.reduceEqDiff, Nat.reduceAdd, Nat.reduceSub, Nat.reduceMul, Nat.reduceLeDiff, Nat.reduceBEq, decide_true, decide_false, reduceCtorEq, Int.reduceLT, Int.reduceNeg, rvN, Nat.reduceLT, Int.reduceLE, Int.reduceEq, eq_self, List.reduceReplicate, rvF, rvG, e20]; rfl)]
  · simp only [rv0, rv1, rvE, rvH, rvS, rvI, eT, eQ, ↓reduceIte, Nat.reduceEqDiff, Nat.reduceAdd, Nat.reduceSub, Nat.reduceMul, Nat.reduceLeDiff, Nat.reduceBEq, decide_true, decide_false, reduceCtorEq, Int.reduceLT, Int.reduceNeg, rvN, Nat.reduceLT, Int.reduceLE, Int.reduceEq, eq_self, List.reduceReplicate, rvF, rvG, e20]
  · intro i s r a hd hi _
    have hlen := (List.getElem?_eq_some_iff.1 hi).1
    have hlt : ((i : Int) < (l.length : Int)) := by omega
    have hr := getElem?_map_some (f := (VRecMessage.c .shr)) hi
    have hwi := wrap64 (n := (i : Int) + 1) (by omega) (by omega)
    have hi0 : (0 : Int) ≤ (i : Int) := by omega
    simp only [VRecMessage.c] at hr
    have hm := k_eqRecMessage s (by have := wSRecMessage_mem (List.mem_of_getElem? hi); unfold wSRecMessage at hw; omega)
    simp only [VRecMessage.c] at hm
    left
    refine ⟨(), ?_, trivial, rfl⟩
    simp only [rv0, rv1, rvE, rvH, rvS, rvI, eT, eQ, ↓reduceIte, Nat.reduceEqDiff, Nat.reduceAdd, Nat.reduceSub, Nat.reduceMul, Nat.reduceLeDiff, Nat.reduceBEq, decide_true, decide_false, reduceCtorEq, Int.reduceLT, Int.reduceNeg, rvN, Nat.reduceLT, Int.reduceLE, Int.reduceEq, eq_self, List.reduceReplicate, rvF, rvG, e20, e35, hlt, hr, hm, hwi, hi0, i64c, beq_self_eq_true]
  · intro a _
    simp only [rv0, rv1, rvE, rvH, rvS, rvI, eT, eQ, ↓reduceIte, Nat.reduceEqDiff, Nat.reduceAdd, Nat.reduceSub, Nat.reduceMul, Nat.reduceLeDiff, Nat.reduceBEq, decide_true, decide_false, reduceCtorEq, Int.reduceLT, Int.reduceNeg, rvN, Nat.reduceLT, Int.reduceLE, Int.reduceEq, eq_self, List.reduceReplicate, rvF, rvG, e20]
theorem k_eqStringS (l : List ByteArray) (hw : wSString l ≤ 4194304) : EV Try.prog E 58 [.val 0 false [.sl .shr 1 (l.map strC)], .val 0 false [.sl .shr 1 (l.map strC)]] = some ⟨[(false, [.p (.bool true)])], []⟩ := by
  refine EV_intro Try.func58 rfl ?_
  have hn : l.length ≤ 4194304 := by unfold wSString at hw; omega
  simp only [rv0, rv1, rvE, rvH, rvS, rvI, eT, eQ, ↓reduceIte, Nat.reduceEqDiff, Nat.reduceAdd, Nat.reduceSub, Nat.reduceMul, Nat.reduceLeDiff, Nat.reduceBEq, decide_true, decide_false, reduceCtorEq, Int.reduceLT, Int.reduceNeg, rvN, Nat.reduceLT, Int.reduceLE, Int.reduceEq, eq_self, List.reduceReplicate, rvF, rvG, e58, Try.f58]
  rw [for_block l (fun i (_ : Unit) => ⟨3, [(0, .val 0 false [.sl .shr 1 (l.map strC)]), (1, .val 1 false [.sl .shr 1 (l.map strC)]), (5, .val 2 false [.p (.int .i64 i)])]⟩) (fun i _ => True)
      (fun r i a => .norm ⟨0, []⟩) ?_ ?_ (a := ()) trivial (by simp only [rv0, rv1, rvE, rvH, rvS, rvI, eT, eQ, ↓reduceIte, Nat.reduceEqDiff, Nat.reduceAdd, Nat.reduceSub, Nat.reduceMul, Nat.reduceLeDiff, Nat.reduceBEq, decide_true, decide_false, reduceCtorEq, Int.reduceLT, Int.reduceNeg, rvN, Nat.reduceLT, Int.reduceLE, Int.reduceEq, eq_self, List.reduceReplicate, rvF, rvG, e58]; rfl)]
  · simp only [rv0, rv1, rvE, rvH, rvS, rvI, eT, eQ, ↓reduceIte, Nat.reduceEqDiff, Nat.reduceAdd, Nat.reduceSub, Nat.reduceMul, Nat.reduceLeDiff, Nat.reduceBEq, decide_true, decide_false, reduceCtorEq, Int.reduceLT, Int.reduceNeg, rvN, Nat.reduceLT, Int.reduceLE, Int.reduceEq, eq_self, List.reduceReplicate, rvF, rvG, e58]
  · intro i s r a hd hi _
    have hlen := (List.getElem?_eq_some_iff.1 hi).1
    have hlt : ((i : Int) < (l.length : Int)) := by omega
    have hr := getElem?_map_some (f := strC) hi
    have hwi := wrap64 (n := (i : Int) + 1) (by omega) (by omega)
    have hi0 : (0 : Int) ≤ (i : Int) := by omega
    simp only [strC] at hr
    left
    refine ⟨(), ?_, trivial, rfl⟩
    simp only [rv0, rv1, rvE, rvH, rvS, rvI, eT, eQ, ↓reduceIte, Nat.reduceEqDiff, Nat.reduceAdd, Nat.reduceSub, Nat.reduceMul, Nat.reduceLeDiff, Nat.reduceBEq, decide_true, decide_false, reduceCtorEq, Int.reduceLT, Int.reduceNeg, rvN, Nat.reduceLT, Int.reduceLE, Int.reduceEq, eq_self, List.reduceReplicate, rvF, rvG, e58, hlt, hr, hwi, hi0, i64c, beq_self_eq_true]
  · intro a _
    simp only [rv0, rv1, rvE, rvH, rvS, rvI, eT, eQ, ↓reduceIte, Nat.reduceEqDiff, Nat.reduceAdd, Nat.reduceSub, Nat.reduceMul, Nat.reduceLeDiff, Nat.reduceBEq, decide_true, decide_false, reduceCtorEq, Int.reduceLT, Int.reduceNeg, rvN, Nat.reduceLT, Int.reduceLE, Int.reduceEq, eq_self, List.reduceReplicate, rvF, rvG, e58]
theorem k_eqIntS (l : List Int) (hw : wSInt l ≤ 4194304) : EV Try.prog E 59 [.val 0 false [.sl .shr 1 (l.map intC)], .val 0 false [.sl .shr 1 (l.map intC)]] = some ⟨[(false, [.p (.bool true)])], []⟩ := by
  refine EV_intro Try.func59 rfl ?_
  have hn : l.length ≤ 4194304 := by unfold wSInt at hw; omega
  simp only [rv0, rv1, rvE, rvH, rvS, rvI, eT, eQ, ↓reduceIte, Nat.reduceEqDiff, Nat.reduceAdd, Nat.reduceSub, Nat.reduceMul, Nat.reduceLeDiff, Nat.reduceBEq, decide_true, decide_false, reduceCtorEq, Int.reduceLT, Int.reduceNeg, rvN, Nat.reduceLT, Int.reduceLE, Int.reduceEq, eq_self, List.reduceReplicate, rvF, rvG, e59, Try.f59]
  rw [for_block l (fun i (_ : Unit) => ⟨3, [(0, .val 0 false [.sl .shr 1 (l.map intC)]), (1, .val 1 false [.sl .shr 1 (l.map intC)]), (5, .val 2 false [.p (.int .i64 i)])]⟩) (fun i _ => True)
      (fun r i a => .norm ⟨0, []⟩) ?_ ?_ (a := ()) trivial (by simp only [rv0, rv1, rvE, rvH, rvS, rvI, eT, eQ, ↓reduceIte, Nat.reduceEqDiff, Nat.reduceAdd, Nat.reduceSub, Nat.reduceMul, Nat.reduceLeDiff, Nat.reduceBEq, decide_true, decide_false, reduceCtorEq, Int.reduceLT, Int.reduceNeg, rvN, Nat.reduceLT, Int.reduceLE, Int.reduceEq, eq_self, List.reduceReplicate, rvF, rvG, e59]; rfl)]
  · simp only [rv0, rv1, rvE, rvH, rvS, rvI, eT, eQ, ↓reduceIte, Nat.reduceEqDiff, Nat.reduceAdd, Nat.reduceSub, Nat.reduceMul, Nat.reduceLeDiff, Nat.reduceBEq, decide_true, decide_false, reduceCtorEq, Int.reduceLT, Int.reduceNeg, rvN, Nat.reduceLT, Int.reduceLE, Int.reduceEq, eq_self, List.reduceReplicate, rvF, rvG, e59]
  · intro i s r a hd hi _
    have hlen := (List.getElem?_eq_some_iff.1 hi).1
    have hlt : ((i : Int) < (l.length : Int)) := by omega
    have hr := getElem?_map_some (f := intC) hi
    have hwi := wrap64 (n := (i : Int) + 1) (by omega) (by omega)
    have hi0 : (0 : Int) ≤ (i : Int) := by omega
    simp only [intC] at hr
    left
    refine ⟨(), ?_, trivial, rfl⟩
    simp only [rv0, rv1, rvE, rvH, rvS, rvI, eT, eQ, ↓reduceIte, Nat.reduceEqDiff, Nat.reduceAdd, Nat.reduceSub, Nat.reduceMul, Nat.reduceLeDiff, Nat.reduceBEq, decide_true, decide_false, reduceCtorEq, Int.reduceLT, Int.reduceNeg, rvN, Nat.reduceLT, Int.reduceLE, Int.reduceEq, eq_self, List.reduceReplicate, rvF, rvG, e59, hlt, hr, hwi, hi0, i64c, beq_self_eq_true]
  · intro a _
    simp only [rv0, rv1, rvE, rvH, rvS, rvI, eT, eQ, ↓reduceIte, Nat.reduceEqDiff, Nat.reduceAdd, Nat.reduceSub, Nat.reduceMul, Nat.reduceLeDiff, Nat.reduceBEq, decide_true, decide_false, reduceCtorEq, Int.reduceLT, Int.reduceNeg, rvN, Nat.reduceLT, Int.reduceLE, Int.reduceEq, eq_self, List.reduceReplicate, rvF, rvG, e59]
theorem k_eqRecAck (x : VRecAck) (hw : x.w ≤ 4194304) : EV Try.prog E 68 [.val 0 true (VRecAck.c .shr x), .val 0 true (VRecAck.c .shr x)] = some ⟨[(false, [.p (.bool true)])], []⟩ := by
  refine EV_intro Try.func68 rfl ?_
  unfold VRecAck.w at hw
  have h0 := k_eqIntS x.from_ (by omega)
  simp only [rv0, rv1, rvE, rvH, rvS, rvI, eT, eQ, ↓reduceIte, Nat.reduceEqDiff, Nat.reduceAdd, Nat.reduceSub, Nat.reduceMul, Nat.reduceLeDiff, Nat.reduceBEq, decide_true, decide_false, reduceCtorEq, Int.reduceLT, Int.reduceNeg, rvN, Nat.reduceLT, Int.reduceLE, Int.reduceEq, eq_self, List.reduceReplicate, rvF, rvG, e68, e59, Try.f68, VRecAck.c, h0, beq_self_eq_true]
theorem k_eqRecAckS (l : List VRecAck) (hw : wSRecAck l ≤ 4194304) : EV Try.prog E 61 [.val 0 false [.sl .shr 2 (l.map (VRecAck.c .shr))], .val 0 false [.sl .shr 2 (l.map (VRecAck.c .shr))]] = some ⟨[(false, [.p (.bool true)])], []⟩ := by
  refine EV_intro Try.func61 rfl ?_
  have hn : l.length ≤ 4194304 := by unfold wSRecAck at hw; omega
  simp only [rv0, rv1, rvE, rvH, rvS, rvI, eT, eQ, ↓reduceIte, Nat.reduceEqDiff, Nat.reduceAdd, Nat.reduceSub, Nat.reduceMul, Nat.reduceLeDiff, Nat.reduceBEq, decide_true, decide_false, reduceCtorEq, Int.reduceLT, Int.reduceNeg, rvN, Nat.reduceLT, Int.reduceLE, Int.reduceEq, eq_self, List.reduceReplicate, rvF, rvG, e61, Try.f61]
  rw [for_block l (fun i (_ : Unit) => ⟨3, [(0, .val 0 false [.sl .shr 2 (l.map (VRecAck.c .shr))]), (1, .val 1 false [.sl .shr 2 (l.map (VRecAck.c .shr))]), (5, .val 2 false [.p (.int .i64 i)])]⟩) (fun i _ => True)
      (fun r i a => .norm ⟨0, []⟩) ?_ ?_ (a := ()) trivial (by simp only [rv0, rv1, rvE, rvH, rvS, rvI, eT, eQ, ↓reduceIte, Nat.reduceEqDiff, Nat.reduceAdd, Nat.reduceSub, Nat.reduceMul, Nat.reduceLeDiff, Nat.reduceBEq, decide_true, decide_false, reduceCtorEq, Int.reduceLT, Int.reduceNeg, rvN, Nat.reduceLT, Int.reduceLE, Int.reduceEq, eq_self, List.reduceReplicate, rvF, rvG, e61]; rfl)]
  · simp only [rv0, rv1, rvE, rvH, rvS, rvI, eT, eQ, ↓reduceIte, Nat.reduceEqDiff, Nat.reduceAdd, Nat.reduceSub, Nat.reduceMul, Nat.reduceLeDiff, Nat.reduceBEq, decide_true, decide_false, reduceCtorEq, Int.reduceLT, Int.reduceNeg, rvN, Nat.reduceLT, Int.reduceLE, Int.reduceEq, eq_self, List.reduceReplicate, rvF, rvG, e61]
  · intro i s r a hd hi _
    have hlen := (List.getElem?_eq_some_iff.1 hi).1
    have hlt : ((i : Int) < (l.length : Int)) := by omega
    have hr := getElem?_map_some (f := (VRecAck.c .shr)) hi
    have hwi := wrap64 (n := (i : Int) + 1) (by omega) (by omega)
    have hi0 : (0 : Int) ≤ (i : Int) := by omega
    simp only [VRecAck.c] at hr
    have hm := k_eqRecAck s (by have := wSRecAck_mem (List.mem_of_getElem? hi); unfold wSRecAck at hw; omega)
    simp only [VRecAck.c] at hm
    left
    refine ⟨(), ?_, trivial, rfl⟩
    simp only [rv0, rv1, rvE, rvH, rvS, rvI, eT, eQ, ↓reduceIte, Nat.reduceEqDiff, Nat.reduceAdd, Nat.reduceSub, Nat.reduceMul, Nat.reduceLeDiff, Nat.reduceBEq, decide_true, decide_false, reduceCtorEq, Int.reduceLT, Int.reduceNeg, rvN, Nat.reduceLT, Int.reduceLE, Int.reduceEq, eq_self, List.reduceReplicate, rvF, rvG, e61, e68, hlt, hr, hm, hwi, hi0, i64c, beq_self_eq_true]
  · intro a _
    simp only [rv0, rv1, rvE, rvH, rvS, rvI, eT, eQ, ↓reduceIte, Nat.reduceEqDiff, Nat.reduceAdd, Nat.reduceSub, Nat.reduceMul, Nat.reduceLeDiff, Nat.reduceBEq, decide_true, decide_false, reduceCtorEq, Int.reduceLT, Int.reduceNeg, rvN, Nat.reduceLT, Int.reduceLE, Int.reduceEq, eq_self, List.reduceReplicate, rvF, rvG, e61]
theorem k_eqRecorder (x : VRecorder) (hw : x.w ≤ 4194304) : EV Try.prog E 34 [.val 0 true (VRecorder.c .shr x), .val 0 true (VRecorder.c .shr x)] = some ⟨[(false, [.p (.bool true)])], []⟩ := by
  refine EV_intro Try.func34 rfl ?_
  unfold VRecorder.w at hw
  have h0 := k_eqRecDisk x.safe (by omega)
  simp only [VRecDisk.c] at h0
  have h1 := k_eqRecDisk x.disk (by omega)
  simp only [VRecDisk.c] at h1
  have h2 := k_eqRecMessageS x.held (by omega)
  have h3 := k_eqStringS x.wishes (by omega)
  have h4 := k_eqIntS x.yes (by omega)
  have h5 := k_eqRecSlotS x.best (by omega)
  have h6 := k_eqRecAckS x.acks (by omega)
  simp only [rv0, rv1, rvE, rvH, rvS, rvI, eT, eQ, ↓reduceIte, Nat.reduceEqDiff, Nat.reduceAdd, Nat.reduceSub, Nat.reduceMul, Nat.reduceLeDiff, Nat.reduceBEq, decide_true, decide_false, reduceCtorEq, Int.reduceLT, Int.reduceNeg, rvN, Nat.reduceLT, Int.reduceLE, Int.reduceEq, eq_self, List.reduceReplicate, rvF, rvG, e34, e57, e20, e58, e59, e60, e61, Try.f34, VRecorder.c, h0, h1, h2, h3, h4, h5, h6, beq_self_eq_true]
end Go.Proofs.Ytnhgopjnnedhdaa

