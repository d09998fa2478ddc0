/- Typed views of the book's structs; what the conversions compute (written by a program). -/
import Derived.Test.YtdjapblnmkghoaaTab3
import Derived.Test.YtdjapblnmkghoaaSxD
namespace Go.Proofs.Ytdjapblnmkghoaa
open Go.Sx
set_option maxRecDepth 100000
set_option maxHeartbeats 4000000
set_option linter.unusedVariables false
set_option linter.unusedSimpArgs false
def intC (n : Int) : List C := [.p (.int .i64 n)]
def strC (s : ByteArray) : List C := [.p (.string s)]
def boolC (b : Bool) : List C := [.p (.bool b)]
def i64ok (n : Int) : Prop := -9223372036854775808 ≤ n ∧ n ≤ 9223372036854775807
def subW (left : Int) (w : Nat) : Int := if left < w then -1 else left - w
theorem subW_lt {left : Int} {w : Nat} (h : left < w) : subW left w = -1 := if_pos h
theorem subW_ge {left : Int} {w : Nat} (h : ¬ left < w) : subW left w = left - w := if_neg h
theorem rowsString (l : List ByteArray) : borRows (l.map strC) = l.map strC ∧ mineRows (l.map strC) = true ∧ wholeRows (l.map strC) = true ∧ allFreeRows (l.map strC) = true := flat_rows strC (fun _ => rfl) l

def sumWString : List ByteArray → Nat
  | [] => 0
  | x :: r => x.size + sumWString r
def wSString (l : List ByteArray) : Nat := l.length + sumWString l
structure VBookObject where
  kind : ByteArray
  name : ByteArray
  version : Int
  born : Int
  text : ByteArray
  ending : Bool
  holds : List ByteArray
def VBookObject.c (f : Fl) (x : VBookObject) : List C := [.p (.string x.kind), .p (.string x.name), .p (.int .i64 x.version), .p (.int .i64 x.born), .p (.string x.text), .p (.bool x.ending), .sl f 1 (x.holds.map strC)]
def VBookObject.w (x : VBookObject) : Nat := x.kind.size + x.name.size + x.text.size + wSString x.holds
def VBookObject.ok (x : VBookObject) : Prop := x.kind.size ≤ maxLen ∧ x.name.size ≤ maxLen ∧ i64ok x.version ∧ i64ok x.born ∧ x.text.size ≤ maxLen ∧ (x.holds.length ≤ maxLen ∧ ∀ e ∈ x.holds, e.size ≤ maxLen)
theorem rowBookObject (x : VBookObject) : borRow (VBookObject.c .own x) = VBookObject.c .shr x ∧ mineRow (VBookObject.c .own x) = true ∧ wholeRow (VBookObject.c .own x) = true ∧ wholeRow (VBookObject.c .shr x) = true ∧ allFree (VBookObject.c .shr x) = true := by
  refine ⟨?_, ?_, ?_, ?_, ?_⟩ <;> simp only [rv0, rv1, rvE, rvH, rvS, rvI, eT, eQ, ↓reduceIte, Nat.reduceEqDiff, Nat.reduceAdd, Nat.reduceSub, Nat.reduceMul, Nat.reduceLeDiff, Nat.reduceBEq, decide_true, decide_false, reduceCtorEq, Int.reduceLT, Int.reduceNeg, rvN, Nat.reduceLT, Int.reduceLE, Int.reduceEq, eq_self, List.reduceReplicate, rvF, rvG, VBookObject.c, rowsString, Fl.isShr, Fl.isOwn]
theorem rowsBookObject (l : List VBookObject) : borRows (l.map (VBookObject.c .own)) = l.map (VBookObject.c .shr) ∧ mineRows (l.map (VBookObject.c .own)) = true ∧ wholeRows (l.map (VBookObject.c .own)) = true ∧ wholeRows (l.map (VBookObject.c .shr)) = true ∧ allFreeRows (l.map (VBookObject.c .shr)) = true := rows_by (fun x => (rowBookObject x).1) (fun x => (rowBookObject x).2.1) (fun x => (rowBookObject x).2.2.1) (fun x => (rowBookObject x).2.2.2.1) (fun x => (rowBookObject x).2.2.2.2) l
def sumWBookObject : List VBookObject → Nat
  | [] => 0
  | x :: r => x.w + sumWBookObject r
def wSBookObject (l : List VBookObject) : Nat := l.length + sumWBookObject l
theorem wSBookObject_mem {l : List VBookObject} {x : VBookObject} (h : x ∈ l) : x.w ≤ sumWBookObject l := by
  induction l with
  | nil => cases h
  | cons y r ih =>
    simp only [sumWBookObject]
    rcases List.mem_cons.1 h with rfl | h
    · omega
    · have := ih h
      omega
structure VBookChange where
  version : Int
  gone : Bool
  object : VBookObject
def VBookChange.c (f : Fl) (x : VBookChange) : List C := [.p (.int .i64 x.version), .p (.bool x.gone), .p (.string x.object.kind), .p (.string x.object.name), .p (.int .i64 x.object.version), .p (.int .i64 x.object.born), .p (.string x.object.text), .p (.bool x.object.ending), .sl f 1 (x.object.holds.map strC)]
def VBookChange.w (x : VBookChange) : Nat := x.object.w
def VBookChange.ok (x : VBookChange) : Prop := i64ok x.version ∧ x.object.ok
theorem rowBookChange (x : VBookChange) : borRow (VBookChange.c .own x) = VBookChange.c .shr x ∧ mineRow (VBookChange.c .own x) = true ∧ wholeRow (VBookChange.c .own x) = true ∧ wholeRow (VBookChange.c .shr x) = true ∧ allFree (VBookChange.c .shr x) = true := by
  refine ⟨?_, ?_, ?_, ?_, ?_⟩ <;> simp only [rv0, rv1, rvE, rvH, rvS, rvI, eT, eQ, ↓reduceIte, Nat.reduceEqDiff, Nat.reduceAdd, Nat.reduceSub, Nat.reduceMul, Nat.reduceLeDiff, Nat.reduceBEq, decide_true, decide_false, reduceCtorEq, Int.reduceLT, Int.reduceNeg, rvN, Nat.reduceLT, Int.reduceLE, Int.reduceEq, eq_self, List.reduceReplicate, rvF, rvG, VBookChange.c, rowsString, Fl.isShr, Fl.isOwn]
theorem rowsBookChange (l : List VBookChange) : borRows (l.map (VBookChange.c .own)) = l.map (VBookChange.c .shr) ∧ mineRows (l.map (VBookChange.c .own)) = true ∧ wholeRows (l.map (VBookChange.c .own)) = true ∧ wholeRows (l.map (VBookChange.c .shr)) = true ∧ allFreeRows (l.map (VBookChange.c .shr)) = true := rows_by (fun x => (rowBookChange x).1) (fun x => (rowBookChange x).2.1) (fun x => (rowBookChange x).2.2.1) (fun x => (rowBookChange x).2.2.2.1) (fun x => (rowBookChange x).2.2.2.2) l
def sumWBookChange : List VBookChange → Nat
  | [] => 0
  | x :: r => x.w + sumWBookChange r
def wSBookChange (l : List VBookChange) : Nat := l.length + sumWBookChange l
theorem wSBookChange_mem {l : List VBookChange} {x : VBookChange} (h : x ∈ l) : x.w ≤ sumWBookChange l := by
  induction l with
  | nil => cases h
  | cons y r ih =>
    simp only [sumWBookChange]
    rcases List.mem_cons.1 h with rfl | h
    · omega
    · have := ih h
      omega
structure VBookTicket where
  client : ByteArray
  number : Int
  print : ByteArray
  code : Int
  version : Int
def VBookTicket.c (x : VBookTicket) : List C := [.p (.string x.client), .p (.int .i64 x.number), .p (.string x.print), .p (.int .i64 x.code), .p (.int .i64 x.version)]
def VBookTicket.w (x : VBookTicket) : Nat := x.client.size + x.print.size
def VBookTicket.ok (x : VBookTicket) : Prop := x.client.size ≤ maxLen ∧ i64ok x.number ∧ x.print.size ≤ maxLen ∧ i64ok x.code ∧ i64ok x.version
theorem rowsBookTicket (l : List VBookTicket) : borRows (l.map VBookTicket.c) = l.map VBookTicket.c ∧ mineRows (l.map VBookTicket.c) = true ∧ wholeRows (l.map VBookTicket.c) = true ∧ allFreeRows (l.map VBookTicket.c) = true := flat_rows VBookTicket.c (fun _ => rfl) l
def sumWBookTicket : List VBookTicket → Nat
  | [] => 0
  | x :: r => x.w + sumWBookTicket r
def wSBookTicket (l : List VBookTicket) : Nat := l.length + sumWBookTicket l
theorem wSBookTicket_mem {l : List VBookTicket} {x : VBookTicket} (h : x ∈ l) : x.w ≤ sumWBookTicket l := by
  induction l with
  | nil => cases h
  | cons y r ih =>
    simp only [sumWBookTicket]
    rcases List.mem_cons.1 h with rfl | h
    · omega
    · have := ih h
      omega
structure VBook where
  now : Int
  floor : Int
  objects : List VBookObject
  history : List VBookChange
  tickets : List VBookTicket
def VBook.c (f : Fl) (x : VBook) : List C := [.p (.int .i64 x.now), .p (.int .i64 x.floor), .sl f 7 (x.objects.map (VBookObject.c f)), .sl f 9 (x.history.map (VBookChange.c f)), .sl f 5 (x.tickets.map VBookTicket.c)]
def VBook.w (x : VBook) : Nat := wSBookObject x.objects + wSBookChange x.history + wSBookTicket x.tickets
def VBook.ok (x : VBook) : Prop := i64ok x.now ∧ i64ok x.floor ∧ (x.objects.length ≤ maxLen ∧ ∀ e ∈ x.objects, e.ok) ∧ (x.history.length ≤ maxLen ∧ ∀ e ∈ x.history, e.ok) ∧ (x.tickets.length ≤ maxLen ∧ ∀ e ∈ x.tickets, e.ok)
theorem k_szStringS (l : List ByteArray) (left : Int) (hx : l.length ≤ maxLen ∧ ∀ e ∈ l, e.size ≤ maxLen) (h0 : 0 ≤ left) (h1 : left ≤ 1048576) : EV Try.prog E 119 [.val 0 false [.sl .shr 1 (l.map strC)], .val 0 false [.p (.int .i64 left)]] = some ⟨[(false, [.p (.int .i64 (subW left (wSString l)))])], []⟩ := by
  refine EV_intro Try.func119 rfl ?_
  obtain ⟨hn, hl⟩ := hx
  have hw := wrap64 (n := left - l.length) (by unfold maxLen at hn; omega) (by omega)
  by_cases hc : left - l.length < 0
  · have e : subW left (wSString l) = -1 := subW_lt (by unfold wSString; omega)
    simp only [rv0, rv1, rvE, rvH, rvS, rvI, eT, eQ, ↓reduceIte, Nat.reduceEqDiff, Nat.reduceAdd, Nat.reduceSub, Nat.reduceMul, Nat.reduceLeDiff, Nat.reduceBEq, decide_true, decide_false, reduceCtorEq, Int.reduceLT, Int.reduceNeg, rvN, Nat.reduceLT, Int.reduceLE, Int.reduceEq, eq_self, List.reduceReplicate, rvF, rvG, e119, Try.f119, hw, hc, e]
  · simp only [rv0, rv1, rvE, rvH, rvS, rvI, eT, eQ, ↓reduceIte, Nat.reduceEqDiff, Nat.reduceAdd, Nat.reduceSub, Nat.reduceMul, Nat.reduceLeDiff, Nat.reduceBEq, decide_true, decide_false, reduceCtorEq, Int.reduceLT, Int.reduceNeg, rvN, Nat.reduceLT, Int.reduceLE, Int.reduceEq, eq_self, List.reduceReplicate, rvF, rvG, e119, Try.f119, hw, hc]
    rw [for_block l (fun i a => ⟨3, [(0, .val 0 false [.sl .shr 1 (l.map strC)]), (1, .val 1 false [.p (.int .i64 a)]), (5, .val 2 false [.p (.int .i64 i)])]⟩) (fun i a => 0 ≤ a ∧ a ≤ 1048576)
      (fun r i a => if a < (sumWString r : Nat) then .ret ⟨[(false, [.p (.int .i64 (-1))])], []⟩ else .norm ⟨1, [(1, .val 0 false [.p (.int .i64 (a - (sumWString r : Nat)))])]⟩) ?_ ?_ (a := left - l.length) ⟨by omega, by omega⟩ (by simp only [rv0, rv1, rvE, rvH, rvS, rvI, eT, eQ, ↓reduceIte, Nat.reduceEqDiff, Nat.reduceAdd, Nat.reduceSub, Nat.reduceMul, Nat.reduceLeDiff, Nat.reduceBEq, decide_true, decide_false, reduceCtorEq, Int.reduceLT, Int.reduceNeg, rvN, Nat.reduceLT, Int.reduceLE, Int.reduceEq, eq_self, List.reduceReplicate, rvF, rvG, e119]; rfl)]
    · by_cases hz : left - l.length < (sumWString l : Nat)
      · have e : subW left (wSString l) = -1 := subW_lt (by unfold wSString; omega)
        simp only [rv0, rv1, rvE, rvH, rvS, rvI, eT, eQ, ↓reduceIte, Nat.reduceEqDiff, Nat.reduceAdd, Nat.reduceSub, Nat.reduceMul, Nat.reduceLeDiff, Nat.reduceBEq, decide_true, decide_false, reduceCtorEq, Int.reduceLT, Int.reduceNeg, rvN, Nat.reduceLT, Int.reduceLE, Int.reduceEq, eq_self, List.reduceReplicate, rvF, rvG, e119, hz, e]
      · have e : subW left (wSString l) = left - l.length - (sumWString l : Nat) := by rw [subW_ge (by unfold wSString; omega)]; unfold wSString; omega
        simp only [rv0, rv1, rvE, rvH, rvS, rvI, eT, eQ, ↓reduceIte, Nat.reduceEqDiff, Nat.reduceAdd, Nat.reduceSub, Nat.reduceMul, Nat.reduceLeDiff, Nat.reduceBEq, decide_true, decide_false, reduceCtorEq, Int.reduceLT, Int.reduceNeg, rvN, Nat.reduceLT, Int.reduceLE, Int.reduceEq, eq_self, List.reduceReplicate, rvF, rvG, e119, hz, e]
    · intro i s r a hd hi ⟨ha, hb⟩
      have hlen := (List.getElem?_eq_some_iff.1 hi).1
      have hlt : ((i : Int) < (l.length : Int)) := by omega
      have hr := getElem?_map_some (f := strC) hi
      have hsz := hl s (List.mem_of_getElem? hi)
      unfold maxLen at hn
      have hwi := wrap64 (n := (i : Int) + 1) (by omega) (by omega)
      have hi0 : (0 : Int) ≤ (i : Int) := by omega
      simp only [strC] at hr
      have hw2 := wrap64 (n := a - s.size) (by unfold maxLen at hsz; omega) (by omega)
      by_cases hcs : a - s.size < 0
      · right
        have e : a < (sumWString (s :: r) : Nat) := by simp only [sumWString]; omega
        simp only [rv0, rv1, rvE, rvH, rvS, rvI, eT, eQ, ↓reduceIte, Nat.reduceEqDiff, Nat.reduceAdd, Nat.reduceSub, Nat.reduceMul, Nat.reduceLeDiff, Nat.reduceBEq, decide_true, decide_false, reduceCtorEq, Int.reduceLT, Int.reduceNeg, rvN, Nat.reduceLT, Int.reduceLE, Int.reduceEq, eq_self, List.reduceReplicate, rvF, rvG, e119, hlt, hr, hw2, hcs, hwi, hi0, e]
      · left
        refine ⟨a - s.size, ?_, ⟨by omega, by omega⟩, ?_⟩
        · simp only [rv0, rv1, rvE, rvH, rvS, rvI, eT, eQ, ↓reduceIte, Nat.reduceEqDiff, Nat.reduceAdd, Nat.reduceSub, Nat.reduceMul, Nat.reduceLeDiff, Nat.reduceBEq, decide_true, decide_false, reduceCtorEq, Int.reduceLT, Int.reduceNeg, rvN, Nat.reduceLT, Int.reduceLE, Int.reduceEq, eq_self, List.reduceReplicate, rvF, rvG, e119, hlt, hr, hw2, hcs, hwi, hi0, i64c]
        · have e1 : (a < (sumWString (s :: r) : Nat)) ↔ (a - (s.size : Nat) < (sumWString r : Nat)) := by simp only [sumWString]; omega
          have e2 : a - (sumWString (s :: r) : Nat) = a - (s.size : Nat) - (sumWString r : Nat) := by simp only [sumWString]; omega
          simp only [e1, e2]
    · intro a ⟨ha, hb⟩
      have e : ¬ (a < (sumWString [] : Nat)) := by simp only [sumWString]; omega
      have e2 : a - (sumWString [] : Nat) = a := by simp only [sumWString]; omega
      simp only [rv0, rv1, rvE, rvH, rvS, rvI, eT, eQ, ↓reduceIte, Nat.reduceEqDiff, Nat.reduceAdd, Nat.reduceSub, Nat.reduceMul, Nat.reduceLeDiff, Nat.reduceBEq, decide_true, decide_false, reduceCtorEq, Int.reduceLT, Int.reduceNeg, rvN, Nat.reduceLT, Int.reduceLE, Int.reduceEq, eq_self, List.reduceReplicate, rvF, rvG, e119, e, e2]
theorem k_szBookObject (x : VBookObject) (left : Int) (hx : x.ok) (h0 : 0 ≤ left) (h1 : left ≤ 1048576) : EV Try.prog E 95 [.val 0 true (VBookObject.c .shr x), .val 0 false [.p (.int .i64 left)]] = some ⟨[(false, [.p (.int .i64 (subW left x.w))])], []⟩ := by
  refine EV_intro Try.func95 rfl ?_
  have hx0 := hx
  simp only [VBookObject.ok] at hx
  obtain ⟨o_kind, o_name, o_version, o_born, o_text, o_holds⟩ := hx
  have w0 := wrap64 (n := left - x.kind.size) (by unfold maxLen at *; omega) (by omega)
  by_cases c0 : left < (x.kind.size : Nat)
  · have e : subW left x.w = -1 := subW_lt (by unfold VBookObject.w; omega)
    have d0 : left - (x.kind.size : Int) < 0 := by omega
    simp only [rv0, rv1, rvE, rvH, rvS, rvI, eT, eQ, ↓reduceIte, Nat.reduceEqDiff, Nat.reduceAdd, Nat.reduceSub, Nat.reduceMul, Nat.reduceLeDiff, Nat.reduceBEq, decide_true, decide_false, reduceCtorEq, Int.reduceLT, Int.reduceNeg, rvN, Nat.reduceLT, Int.reduceLE, Int.reduceEq, eq_self, List.reduceReplicate, rvF, rvG, e95, Try.f95, VBookObject.c, w0, d0, e]
  have d0 : ¬ (left - (x.kind.size : Nat) < 0) := by omega
  have w1 := wrap64 (n := left - (x.kind.size : Nat) - x.name.size) (by unfold maxLen at *; omega) (by omega)
  by_cases c1 : left - (x.kind.size : Nat) < (x.name.size : Nat)
  · have e : subW left x.w = -1 := subW_lt (by unfold VBookObject.w; omega)
    have d1 : left - (x.kind.size : Nat) - (x.name.size : Int) < 0 := by omega
    simp only [rv0, rv1, rvE, rvH, rvS, rvI, eT, eQ, ↓reduceIte, Nat.reduceEqDiff, Nat.reduceAdd, Nat.reduceSub, Nat.reduceMul, Nat.reduceLeDiff, Nat.reduceBEq, decide_true, decide_false, reduceCtorEq, Int.reduceLT, Int.reduceNeg, rvN, Nat.reduceLT, Int.reduceLE, Int.reduceEq, eq_self, List.reduceReplicate, rvF, rvG, e95, Try.f95, VBookObject.c, w0, d0, w1, d1, e]
  have d1 : ¬ (left - (x.kind.size : Nat) - (x.name.size : Nat) < 0) := by omega
  have w2 := wrap64 (n := left - (x.kind.size : Nat) - (x.name.size : Nat) - x.text.size) (by unfold maxLen at *; omega) (by omega)
  by_cases c2 : left - (x.kind.size : Nat) - (x.name.size : Nat) < (x.text.size : Nat)
  · have e : subW left x.w = -1 := subW_lt (by unfold VBookObject.w; omega)
    have d2 : left - (x.kind.size : Nat) - (x.name.size : Nat) - (x.text.size : Int) < 0 := by omega
    simp only [rv0, rv1, rvE, rvH, rvS, rvI, eT, eQ, ↓reduceIte, Nat.reduceEqDiff, Nat.reduceAdd, Nat.reduceSub, Nat.reduceMul, Nat.reduceLeDiff, Nat.reduceBEq, decide_true, decide_false, reduceCtorEq, Int.reduceLT, Int.reduceNeg, rvN, Nat.reduceLT, Int.reduceLE, Int.reduceEq, eq_self, List.reduceReplicate, rvF, rvG, e95, Try.f95, VBookObject.c, w0, d0, w1, d1, w2, d2, e]
  have d2 : ¬ (left - (x.kind.size : Nat) - (x.name.size : Nat) - (x.text.size : Nat) < 0) := by omega
  have w3 := k_szStringS x.holds (left - (x.kind.size : Nat) - (x.name.size : Nat) - (x.text.size : Nat)) o_holds (by omega) (by omega)
  by_cases c3 : left - (x.kind.size : Nat) - (x.name.size : Nat) - (x.text.size : Nat) < (wSString x.holds : Nat)
  · have e : subW left x.w = -1 := subW_lt (by unfold VBookObject.w; omega)
    rw [subW_lt c3] at w3
    simp only [rv0, rv1, rvE, rvH, rvS, rvI, eT, eQ, ↓reduceIte, Nat.reduceEqDiff, Nat.reduceAdd, Nat.reduceSub, Nat.reduceMul, Nat.reduceLeDiff, Nat.reduceBEq, decide_true, decide_false, reduceCtorEq, Int.reduceLT, Int.reduceNeg, rvN, Nat.reduceLT, Int.reduceLE, Int.reduceEq, eq_self, List.reduceReplicate, rvF, rvG, e95, e119, Try.f95, VBookObject.c, w0, d0, w1, d1, w2, d2, w3, e]
  rw [subW_ge c3] at w3
  have d3 : ¬ (left - (x.kind.size : Nat) - (x.name.size : Nat) - (x.text.size : Nat) - (wSString x.holds : Nat) < 0) := by omega
  have e : subW left x.w = left - (x.kind.size : Nat) - (x.name.size : Nat) - (x.text.size : Nat) - (wSString x.holds : Nat) := by rw [subW_ge (by unfold VBookObject.w; omega)]; unfold VBookObject.w; omega
  simp only [rv0, rv1, rvE, rvH, rvS, rvI, eT, eQ, ↓reduceIte, Nat.reduceEqDiff, Nat.reduceAdd, Nat.reduceSub, Nat.reduceMul, Nat.reduceLeDiff, Nat.reduceBEq, decide_true, decide_false, reduceCtorEq, Int.reduceLT, Int.reduceNeg, rvN, Nat.reduceLT, Int.reduceLE, Int.reduceEq, eq_self, List.reduceReplicate, rvF, rvG, e95, e119, Try.f95, VBookObject.c, w0, d0, w1, d1, w2, d2, w3, d3, e]
theorem k_szBookObjectS (l : List VBookObject) (left : Int) (hx : l.length ≤ maxLen ∧ ∀ e ∈ l, e.ok) (h0 : 0 ≤ left) (h1 : left ≤ 1048576) : EV Try.prog E 53 [.val 0 false [.sl .shr 7 (l.map (VBookObject.c .shr))], .val 0 false [.p (.int .i64 left)]] = some ⟨[(false, [.p (.int .i64 (subW left (wSBookObject l)))])], []⟩ := by
  refine EV_intro Try.func53 rfl ?_
  obtain ⟨hn, hl⟩ := hx
  have hw := wrap64 (n := left - l.length) (by unfold maxLen at hn; omega) (by omega)
  by_cases hc : left - l.length < 0
  · have e : subW left (wSBookObject l) = -1 := subW_lt (by unfold wSBookObject; omega)
    simp only [rv0, rv1, rvE, rvH, rvS, rvI, eT, eQ, ↓reduceIte, Nat.reduceEqDiff, Nat.reduceAdd, Nat.reduceSub, Nat.reduceMul, Nat.reduceLeDiff, Nat.reduceBEq, decide_true, decide_false, reduceCtorEq, Int.reduceLT, Int.reduceNeg, rvN, Nat.reduceLT, Int.reduceLE, Int.reduceEq, eq_self, List.reduceReplicate, rvF, rvG, e53, Try.f53, hw, hc, e]
  · simp only [rv0, rv1, rvE, rvH, rvS, rvI, eT, eQ, ↓reduceIte, Nat.reduceEqDiff, Nat.reduceAdd, Nat.reduceSub, Nat.reduceMul, Nat.reduceLeDiff, Nat.reduceBEq, decide_true, decide_false, reduceCtorEq, Int.reduceLT, Int.reduceNeg, rvN, Nat.reduceLT, Int.reduceLE, Int.reduceEq, eq_self, List.reduceReplicate, rvF, rvG, e53, Try.f53, hw, hc]
    rw [for_block l (fun i a => ⟨3, [(0, .val 0 false [.sl .shr 7 (l.map (VBookObject.c .shr))]), (1, .val 1 false [.p (.int .i64 a)]), (5, .val 2 false [.p (.int .i64 i)])]⟩) (fun i a => 0 ≤ a ∧ a ≤ 1048576)
      (fun r i a => if a < (sumWBookObject r : Nat) then .ret ⟨[(false, [.p (.int .i64 (-1))])], []⟩ else .norm ⟨1, [(1, .val 0 false [.p (.int .i64 (a - (sumWBookObject r : Nat)))])]⟩) ?_ ?_ (a := left - l.length) ⟨by omega, by omega⟩ (by simp only [rv0, rv1, rvE, rvH, rvS, rvI, eT, eQ, ↓reduceIte, Nat.reduceEqDiff, Nat.reduceAdd, Nat.reduceSub, Nat.reduceMul, Nat.reduceLeDiff, Nat.reduceBEq, decide_true, decide_false, reduceCtorEq, Int.reduceLT, Int.reduceNeg, rvN, Nat.reduceLT, Int.reduceLE, Int.reduceEq, eq_self, List.reduceReplicate, rvF, rvG, e53]; rfl)]
    · by_cases hz : left - l.length < (sumWBookObject l : Nat)
      · have e : subW left (wSBookObject l) = -1 := subW_lt (by unfold wSBookObject; omega)
        simp only [rv0, rv1, rvE, rvH, rvS, rvI, eT, eQ, ↓reduceIte, Nat.reduceEqDiff, Nat.reduceAdd, Nat.reduceSub, Nat.reduceMul, Nat.reduceLeDiff, Nat.reduceBEq, decide_true, decide_false, reduceCtorEq, Int.reduceLT, Int.reduceNeg, rvN, Nat.reduceLT, Int.reduceLE, Int.reduceEq, eq_self, List.reduceReplicate, rvF, rvG, e53, hz, e]
      · have e : subW left (wSBookObject l) = left - l.length - (sumWBookObject l : Nat) := by rw [subW_ge (by unfold wSBookObject; omega)]; unfold wSBookObject; omega
        simp only [rv0, rv1, rvE, rvH, rvS, rvI, eT, eQ, ↓reduceIte, Nat.reduceEqDiff, Nat.reduceAdd, Nat.reduceSub, Nat.reduceMul, Nat.reduceLeDiff, Nat.reduceBEq, decide_true, decide_false, reduceCtorEq, Int.reduceLT, Int.reduceNeg, rvN, Nat.reduceLT, Int.reduceLE, Int.reduceEq, eq_self, List.reduceReplicate, rvF, rvG, e53, hz, e]
    · intro i s r a hd hi ⟨ha, hb⟩
      have hlen := (List.getElem?_eq_some_iff.1 hi).1
      have hlt : ((i : Int) < (l.length : Int)) := by omega
      have hr := getElem?_map_some (f := (VBookObject.c .shr)) hi
      have hsz := hl s (List.mem_of_getElem? hi)
      unfold maxLen at hn
      have hwi := wrap64 (n := (i : Int) + 1) (by omega) (by omega)
      have hi0 : (0 : Int) ≤ (i : Int) := by omega
      simp only [VBookObject.c] at hr
      have hk := k_szBookObject s a hsz ha hb
      simp only [VBookObject.c] at hk
      by_cases hcs : a < (s.w : Nat)
      · right
        rw [subW_lt hcs] at hk
        have e : a < (sumWBookObject (s :: r) : Nat) := by simp only [sumWBookObject]; omega
        simp only [rv0, rv1, rvE, rvH, rvS, rvI, eT, eQ, ↓reduceIte, Nat.reduceEqDiff, Nat.reduceAdd, Nat.reduceSub, Nat.reduceMul, Nat.reduceLeDiff, Nat.reduceBEq, decide_true, decide_false, reduceCtorEq, Int.reduceLT, Int.reduceNeg, rvN, Nat.reduceLT, Int.reduceLE, Int.reduceEq, eq_self, List.reduceReplicate, rvF, rvG, e53, e95, hlt, hr, hk, hwi, hi0, e]
      · left
        rw [subW_ge hcs] at hk
        have hnn : ¬ (a - (s.w : Nat) < 0) := by omega
        refine ⟨a - (s.w : Nat), ?_, ⟨by omega, by omega⟩, ?_⟩
        · simp only [rv0, rv1, rvE, rvH, rvS, rvI, eT, eQ, ↓reduceIte, Nat.reduceEqDiff, Nat.reduceAdd, Nat.reduceSub, Nat.reduceMul, Nat.reduceLeDiff, Nat.reduceBEq, decide_true, decide_false, reduceCtorEq, Int.reduceLT, Int.reduceNeg, rvN, Nat.reduceLT, Int.reduceLE, Int.reduceEq, eq_self, List.reduceReplicate, rvF, rvG, e53, e95, hlt, hr, hk, hnn, hwi, hi0, i64c]
        · have e1 : (a < (sumWBookObject (s :: r) : Nat)) ↔ (a - (s.w : Nat) < (sumWBookObject r : Nat)) := by simp only [sumWBookObject]; omega
          have e2 : a - (sumWBookObject (s :: r) : Nat) = a - (s.w : Nat) - (sumWBookObject r : Nat) := by simp only [sumWBookObject]; omega
          simp only [e1, e2]
    · intro a ⟨ha, hb⟩
      have e : ¬ (a < (sumWBookObject [] : Nat)) := by simp only [sumWBookObject]; omega
      have e2 : a - (sumWBookObject [] : Nat) = a := by simp only [sumWBookObject]; omega
      simp only [rv0, rv1, rvE, rvH, rvS, rvI, eT, eQ, ↓reduceIte, Nat.reduceEqDiff, Nat.reduceAdd, Nat.reduceSub, Nat.reduceMul, Nat.reduceLeDiff, Nat.reduceBEq, decide_true, decide_false, reduceCtorEq, Int.reduceLT, Int.reduceNeg, rvN, Nat.reduceLT, Int.reduceLE, Int.reduceEq, eq_self, List.reduceReplicate, rvF, rvG, e53, e, e2]
theorem k_szBookChange (x : VBookChange) (left : Int) (hx : x.ok) (h0 : 0 ≤ left) (h1 : left ≤ 1048576) : EV Try.prog E 96 [.val 0 true (VBookChange.c .shr x), .val 0 false [.p (.int .i64 left)]] = some ⟨[(false, [.p (.int .i64 (subW left x.w))])], []⟩ := by
  refine EV_intro Try.func96 rfl ?_
  have hx0 := hx
  simp only [VBookChange.ok] at hx
  obtain ⟨o_version, o_object⟩ := hx
  have w0 := k_szBookObject x.object (left) o_object (by omega) (by omega)
  simp only [VBookObject.c] at w0
  by_cases c0 : left < (x.object.w : Nat)
  · have e : subW left x.w = -1 := subW_lt (by unfold VBookChange.w; omega)
    rw [subW_lt c0] at w0
    simp only [rv0, rv1, rvE, rvH, rvS, rvI, eT, eQ, ↓reduceIte, Nat.reduceEqDiff, Nat.reduceAdd, Nat.reduceSub, Nat.reduceMul, Nat.reduceLeDiff, Nat.reduceBEq, decide_true, decide_false, reduceCtorEq, Int.reduceLT, Int.reduceNeg, rvN, Nat.reduceLT, Int.reduceLE, Int.reduceEq, eq_self, List.reduceReplicate, rvF, rvG, e96, e95, Try.f96, VBookChange.c, w0, e]
  rw [subW_ge c0] at w0
  have d0 : ¬ (left - (x.object.w : Nat) < 0) := by omega
  have e : subW left x.w = left - (x.object.w : Nat) := by rw [subW_ge (by unfold VBookChange.w; omega)]; unfold VBookChange.w; omega
  simp only [rv0, rv1, rvE, rvH, rvS, rvI, eT, eQ, ↓reduceIte, Nat.reduceEqDiff, Nat.reduceAdd, Nat.reduceSub, Nat.reduceMul, Nat.reduceLeDiff, Nat.reduceBEq, decide_true, decide_false, reduceCtorEq, Int.reduceLT, Int.reduceNeg, rvN, Nat.reduceLT, Int.reduceLE, Int.reduceEq, eq_self, List.reduceReplicate, rvF, rvG, e96, e95, Try.f96, VBookChange.c, w0, d0, e]
theorem k_szBookChangeS (l : List VBookChange) (left : Int) (hx : l.length ≤ maxLen ∧ ∀ e ∈ l, e.ok) (h0 : 0 ≤ left) (h1 : left ≤ 1048576) : EV Try.prog E 54 [.val 0 false [.sl .shr 9 (l.map (VBookChange.c .shr))], .val 0 false [.p (.int .i64 left)]] = some ⟨[(false, [.p (.int .i64 (subW left (wSBookChange l)))])], []⟩ := by
  refine EV_intro Try.func54 rfl ?_
  obtain ⟨hn, hl⟩ := hx
  have hw := wrap64 (n := left - l.length) (by unfold maxLen at hn; omega) (by omega)
  by_cases hc : left - l.length < 0
  · have e : subW left (wSBookChange l) = -1 := subW_lt (by unfold wSBookChange; omega)
    simp only [rv0, rv1, rvE, rvH, rvS, rvI, eT, eQ, ↓reduceIte, Nat.reduceEqDiff, Nat.reduceAdd, Nat.reduceSub, Nat.reduceMul, Nat.reduceLeDiff, Nat.reduceBEq, decide_true, decide_false, reduceCtorEq, Int.reduceLT, Int.reduceNeg, rvN, Nat.reduceLT, Int.reduceLE, Int.reduceEq, eq_self, List.reduceReplicate, rvF, rvG, e54, Try.f54, hw, hc, e]
  · simp only [rv0, rv1, rvE, rvH, rvS, rvI, eT, eQ, ↓reduceIte, Nat.reduceEqDiff, Nat.reduceAdd, Nat.reduceSub, Nat.reduceMul, Nat.reduceLeDiff, Nat.reduceBEq, decide_true, decide_false, reduceCtorEq, Int.reduceLT, Int.reduceNeg, rvN, Nat.reduceLT, Int.reduceLE, Int.reduceEq, eq_self, List.reduceReplicate, rvF, rvG, e54, Try.f54, hw, hc]
    rw [for_block l (fun i a => ⟨3, [(0, .val 0 false [.sl .shr 9 (l.map (VBookChange.c .shr))]), (1, .val 1 false [.p (.int .i64 a)]), (5, .val 2 false [.p (.int .i64 i)])]⟩) (fun i a => 0 ≤ a ∧ a ≤ 1048576)
      (fun r i a => if a < (sumWBookChange r : Nat) then .ret ⟨[(false, [.p (.int .i64 (-1))])], []⟩ else .norm ⟨1, [(1, .val 0 false [.p (.int .i64 (a - (sumWBookChange r : Nat)))])]⟩) ?_ ?_ (a := left - l.length) ⟨by omega, by omega⟩ (by simp only [rv0, rv1, rvE, rvH, rvS, rvI, eT, eQ, ↓reduceIte, Nat.reduceEqDiff, Nat.reduceAdd, Nat.reduceSub, Nat.reduceMul, Nat.reduceLeDiff, Nat.reduceBEq, decide_true, decide_false, reduceCtorEq, Int.reduceLT, Int.reduceNeg, rvN, Nat.reduceLT, Int.reduceLE, Int.reduceEq, eq_self, List.reduceReplicate, rvF, rvG, e54]; rfl)]
    · by_cases hz : left - l.length < (sumWBookChange l : Nat)
      · have e : subW left (wSBookChange l) = -1 := subW_lt (by unfold wSBookChange; omega)
        simp only [rv0, rv1, rvE, rvH, rvS, rvI, eT, eQ, ↓reduceIte, Nat.reduceEqDiff, Nat.reduceAdd, Nat.reduceSub, Nat.reduceMul, Nat.reduceLeDiff, Nat.reduceBEq, decide_true, decide_false, reduceCtorEq, Int.reduceLT, Int.reduceNeg, rvN, Nat.reduceLT, Int.reduceLE, Int.reduceEq, eq_self, List.reduceReplicate, rvF, rvG, e54, hz, e]
      · have e : subW left (wSBookChange l) = left - l.length - (sumWBookChange l : Nat) := by rw [subW_ge (by unfold wSBookChange; omega)]; unfold wSBookChange; omega
        simp only [rv0, rv1, rvE, rvH, rvS, rvI, eT, eQ, ↓reduceIte, Nat.reduceEqDiff, Nat.reduceAdd, Nat.reduceSub, Nat.reduceMul, Nat.reduceLeDiff, Nat.reduceBEq, decide_true, decide_false, reduceCtorEq, Int.reduceLT, Int.reduceNeg, rvN, Nat.reduceLT, Int.reduceLE, Int.reduceEq, eq_self, List.reduceReplicate, rvF, rvG, e54, hz, e]
    · intro i s r a hd hi ⟨ha, hb⟩
      have hlen := (List.getElem?_eq_some_iff.1 hi).1
      have hlt : ((i : Int) < (l.length : Int)) := by omega
      have hr := getElem?_map_some (f := (VBookChange.c .shr)) hi
      have hsz := hl s (List.mem_of_getElem? hi)
      unfold maxLen at hn
      have hwi := wrap64 (n := (i : Int) + 1) (by omega) (by omega)
      have hi0 : (0 : Int) ≤ (i : Int) := by omega
      simp only [VBookChange.c] at hr
      have hk := k_szBookChange s a hsz ha hb
      simp only [VBookChange.c] at hk
      by_cases hcs : a < (s.w : Nat)
      · right
        rw [subW_lt hcs] at hk
        have e : a < (sumWBookChange (s :: r) : Nat) := by simp only [sumWBookChange]; omega
        simp only [rv0, rv1, rvE, rvH, rvS, rvI, eT, eQ, ↓reduceIte, Nat.reduceEqDiff, Nat.reduceAdd, Nat.reduceSub, Nat.reduceMul, Nat.reduceLeDiff, Nat.reduceBEq, decide_true, decide_false, reduceCtorEq, Int.reduceLT, Int.reduceNeg, rvN, Nat.reduceLT, Int.reduceLE, Int.reduceEq, eq_self, List.reduceReplicate, rvF, rvG, e54, e96, hlt, hr, hk, hwi, hi0, e]
      · left
        rw [subW_ge hcs] at hk
        have hnn : ¬ (a - (s.w : Nat) < 0) := by omega
        refine ⟨a - (s.w : Nat), ?_, ⟨by omega, by omega⟩, ?_⟩
        · simp only [rv0, rv1, rvE, rvH, rvS, rvI, eT, eQ, ↓reduceIte, Nat.reduceEqDiff, Nat.reduceAdd, Nat.reduceSub, Nat.reduceMul, Nat.reduceLeDiff, Nat.reduceBEq, decide_true, decide_false, reduceCtorEq, Int.reduceLT, Int.reduceNeg, rvN, Nat.reduceLT, Int.reduceLE, Int.reduceEq, eq_self, List.reduceReplicate, rvF, rvG, e54, e96, hlt, hr, hk, hnn, hwi, hi0, i64c]
        · have e1 : (a < (sumWBookChange (s :: r) : Nat)) ↔ (a - (s.w : Nat) < (sumWBookChange r : Nat)) := by simp only [sumWBookChange]; omega
          have e2 : a - (sumWBookChange (s :: r) : Nat) = a - (s.w : Nat) - (sumWBookChange r : Nat) := by simp only [sumWBookChange]; omega
          simp only [e1, e2]
    · intro a ⟨ha, hb⟩
      have e : ¬ (a < (sumWBookChange [] : Nat)) := by simp only [sumWBookChange]; omega
      have e2 : a - (sumWBookChange [] : Nat) = a := by simp only [sumWBookChange]; omega
      simp only [rv0, rv1, rvE, rvH, rvS, rvI, eT, eQ, ↓reduceIte, Nat.reduceEqDiff, Nat.reduceAdd, Nat.reduceSub, Nat.reduceMul, Nat.reduceLeDiff, Nat.reduceBEq, decide_true, decide_false, reduceCtorEq, Int.reduceLT, Int.reduceNeg, rvN, Nat.reduceLT, Int.reduceLE, Int.reduceEq, eq_self, List.reduceReplicate, rvF, rvG, e54, e, e2]
theorem k_szBookTicket (x : VBookTicket) (left : Int) (hx : x.ok) (h0 : 0 ≤ left) (h1 : left ≤ 1048576) : EV Try.prog E 97 [.val 0 true (VBookTicket.c x), .val 0 false [.p (.int .i64 left)]] = some ⟨[(false, [.p (.int .i64 (subW left x.w))])], []⟩ := by
  refine EV_intro Try.func97 rfl ?_
  have hx0 := hx
  simp only [VBookTicket.ok] at hx
  obtain ⟨o_client, o_number, o_print, o_code, o_version⟩ := hx
  have w0 := wrap64 (n := left - x.client.size) (by unfold maxLen at *; omega) (by omega)
  by_cases c0 : left < (x.client.size : Nat)
  · have e : subW left x.w = -1 := subW_lt (by unfold VBookTicket.w; omega)
    have d0 : left - (x.client.size : Int) < 0 := by omega
    simp only [rv0, rv1, rvE, rvH, rvS, rvI, eT, eQ, ↓reduceIte, Nat.reduceEqDiff, Nat.reduceAdd, Nat.reduceSub, Nat.reduceMul, Nat.reduceLeDiff, Nat.reduceBEq, decide_true, decide_false, reduceCtorEq, Int.reduceLT, Int.reduceNeg, rvN, Nat.reduceLT, Int.reduceLE, Int.reduceEq, eq_self, List.reduceReplicate, rvF, rvG, e97, Try.f97, VBookTicket.c, w0, d0, e]
  have d0 : ¬ (left - (x.client.size : Nat) < 0) := by omega
  have w1 := wrap64 (n := left - (x.client.size : Nat) - x.print.size) (by unfold maxLen at *; omega) (by omega)
  by_cases c1 : left - (x.client.size : Nat) < (x.print.size : Nat)
  · have e : subW left x.w = -1 := subW_lt (by unfold VBookTicket.w; omega)
    have d1 : left - (x.client.size : Nat) - (x.print.size : Int) < 0 := by omega
    simp only [rv0, rv1, rvE, rvH, rvS, rvI, eT, eQ, ↓reduceIte, Nat.reduceEqDiff, Nat.reduceAdd, Nat.reduceSub, Nat.reduceMul, Nat.reduceLeDiff, Nat.reduceBEq, decide_true, decide_false, reduceCtorEq, Int.reduceLT, Int.reduceNeg, rvN, Nat.reduceLT, Int.reduceLE, Int.reduceEq, eq_self, List.reduceReplicate, rvF, rvG, e97, Try.f97, VBookTicket.c, w0, d0, w1, d1, e]
  have d1 : ¬ (left - (x.client.size : Nat) - (x.print.size : Nat) < 0) := by omega
  have e : subW left x.w = left - (x.client.size : Nat) - (x.print.size : Nat) := by rw [subW_ge (by unfold VBookTicket.w; omega)]; unfold VBookTicket.w; omega
  simp only [rv0, rv1, rvE, rvH, rvS, rvI, eT, eQ, ↓reduceIte, Nat.reduceEqDiff, Nat.reduceAdd, Nat.reduceSub, Nat.reduceMul, Nat.reduceLeDiff, Nat.reduceBEq, decide_true, decide_false, reduceCtorEq, Int.reduceLT, Int.reduceNeg, rvN, Nat.reduceLT, Int.reduceLE, Int.reduceEq, eq_self, List.reduceReplicate, rvF, rvG, e97, Try.f97, VBookTicket.c, w0, d0, w1, d1, e]
theorem k_szBookTicketS (l : List VBookTicket) (left : Int) (hx : l.length ≤ maxLen ∧ ∀ e ∈ l, e.ok) (h0 : 0 ≤ left) (h1 : left ≤ 1048576) : EV Try.prog E 55 [.val 0 false [.sl .shr 5 (l.map VBookTicket.c)], .val 0 false [.p (.int .i64 left)]] = some ⟨[(false, [.p (.int .i64 (subW left (wSBookTicket l)))])], []⟩ := by
  refine EV_intro Try.func55 rfl ?_
  obtain ⟨hn, hl⟩ := hx
  have hw := wrap64 (n := left - l.length) (by unfold maxLen at hn; omega) (by omega)
  by_cases hc : left - l.length < 0
  · have e : subW left (wSBookTicket l) = -1 := subW_lt (by unfold wSBookTicket; omega)
    simp only [rv0, rv1, rvE, rvH, rvS, rvI, eT, eQ, ↓reduceIte, Nat.reduceEqDiff, Nat.reduceAdd, Nat.reduceSub, Nat.reduceMul, Nat.reduceLeDiff, Nat.reduceBEq, decide_true, decide_false, reduceCtorEq, Int.reduceLT, Int.reduceNeg, rvN, Nat.reduceLT, Int.reduceLE, Int.reduceEq, eq_self, List.reduceReplicate, rvF, rvG, e55, Try.f55, hw, hc, e]
  · simp only [rv0, rv1, rvE, rvH, rvS, rvI, eT, eQ, ↓reduceIte, Nat.reduceEqDiff, Nat.reduceAdd, Nat.reduceSub, Nat.reduceMul, Nat.reduceLeDiff, Nat.reduceBEq, decide_true, decide_false, reduceCtorEq, Int.reduceLT, Int.reduceNeg, rvN, Nat.reduceLT, Int.reduceLE, Int.reduceEq, eq_self, List.reduceReplicate, rvF, rvG, e55, Try.f55, hw, hc]
    rw [for_block l (fun i a => ⟨3, [(0, .val 0 false [.sl .shr 5 (l.map VBookTicket.c)]), (1, .val 1 false [.p (.int .i64 a)]), (5, .val 2 false [.p (.int .i64 i)])]⟩) (fun i a => 0 ≤ a ∧ a ≤ 1048576)
      (fun r i a => if a < (sumWBookTicket r : Nat) then .ret ⟨[(false, [.p (.int .i64 (-1))])], []⟩ else .norm ⟨1, [(1, .val 0 false [.p (.int .i64 (a - (sumWBookTicket r : Nat)))])]⟩) ?_ ?_ (a := left - l.length) ⟨by omega, by omega⟩ (by simp only [rv0, rv1, rvE, rvH, rvS, rvI, eT, eQ, ↓reduceIte, Nat.reduceEqDiff, Nat.reduceAdd, Nat.reduceSub, Nat.reduceMul, Nat.reduceLeDiff, Nat.reduceBEq, decide_true, decide_false, reduceCtorEq, Int.reduceLT, Int.reduceNeg, rvN, Nat.reduceLT, Int.reduceLE, Int.reduceEq, eq_self, List.reduceReplicate, rvF, rvG, e55]; rfl)]
    · by_cases hz : left - l.length < (sumWBookTicket l : Nat)
      · have e : subW left (wSBookTicket l) = -1 := subW_lt (by unfold wSBookTicket; omega)
        simp only [rv0, rv1, rvE, rvH, rvS, rvI, eT, eQ, ↓reduceIte, Nat.reduceEqDiff, Nat.reduceAdd, Nat.reduceSub, Nat.reduceMul, Nat.reduceLeDiff, Nat.reduceBEq, decide_true, decide_false, reduceCtorEq, Int.reduceLT, Int.reduceNeg, rvN, Nat.reduceLT, Int.reduceLE, Int.reduceEq, eq_self, List.reduceReplicate, rvF, rvG, e55, hz, e]
      · have e : subW left (wSBookTicket l) = left - l.length - (sumWBookTicket l : Nat) := by rw [subW_ge (by unfold wSBookTicket; omega)]; unfold wSBookTicket; omega
        simp only [rv0, rv1, rvE, rvH, rvS, rvI, eT, eQ, ↓reduceIte, Nat.reduceEqDiff, Nat.reduceAdd, Nat.reduceSub, Nat.reduceMul, Nat.reduceLeDiff, Nat.reduceBEq, decide_true, decide_false, reduceCtorEq, Int.reduceLT, Int.reduceNeg, rvN, Nat.reduceLT, Int.reduceLE, Int.reduceEq, eq_self, List.reduceReplicate, rvF, rvG, e55, hz, e]
    · intro i s r a hd hi ⟨ha, hb⟩
      have hlen := (List.getElem?_eq_some_iff.1 hi).1
      have hlt : ((i : Int) < (l.length : Int)) := by omega
      have hr := getElem?_map_some (f := VBookTicket.c) hi
      have hsz := hl s (List.mem_of_getElem? hi)
      unfold maxLen at hn
      have hwi := wrap64 (n := (i : Int) + 1) (by omega) (by omega)
      have hi0 : (0 : Int) ≤ (i : Int) := by omega
      simp only [VBookTicket.c] at hr
      have hk := k_szBookTicket s a hsz ha hb
      simp only [VBookTicket.c] at hk
      by_cases hcs : a < (s.w : Nat)
      · right
        rw [subW_lt hcs] at hk
        have e : a < (sumWBookTicket (s :: r) : Nat) := by simp only [sumWBookTicket]; omega
        simp only [rv0, rv1, rvE, rvH, rvS, rvI, eT, eQ, ↓reduceIte, Nat.reduceEqDiff, Nat.reduceAdd, Nat.reduceSub, Nat.reduceMul, Nat.reduceLeDiff, Nat.reduceBEq, decide_true, decide_false, reduceCtorEq, Int.reduceLT, Int.reduceNeg, rvN, Nat.reduceLT, Int.reduceLE, Int.reduceEq, eq_self, List.reduceReplicate, rvF, rvG, e55, e97, hlt, hr, hk, hwi, hi0, e]
      · left
        rw [subW_ge hcs] at hk
        have hnn : ¬ (a - (s.w : Nat) < 0) := by omega
        refine ⟨a - (s.w : Nat), ?_, ⟨by omega, by omega⟩, ?_⟩
        · simp only [rv0, rv1, rvE, rvH, rvS, rvI, eT, eQ, ↓reduceIte, Nat.reduceEqDiff, Nat.reduceAdd, Nat.reduceSub, Nat.reduceMul, Nat.reduceLeDiff, Nat.reduceBEq, decide_true, decide_false, reduceCtorEq, Int.reduceLT, Int.reduceNeg, rvN, Nat.reduceLT, Int.reduceLE, Int.reduceEq, eq_self, List.reduceReplicate, rvF, rvG, e55, e97, hlt, hr, hk, hnn, hwi, hi0, i64c]
        · have e1 : (a < (sumWBookTicket (s :: r) : Nat)) ↔ (a - (s.w : Nat) < (sumWBookTicket r : Nat)) := by simp only [sumWBookTicket]; omega
          have e2 : a - (sumWBookTicket (s :: r) : Nat) = a - (s.w : Nat) - (sumWBookTicket r : Nat) := by simp only [sumWBookTicket]; omega
          simp only [e1, e2]
    · intro a ⟨ha, hb⟩
      have e : ¬ (a < (sumWBookTicket [] : Nat)) := by simp only [sumWBookTicket]; omega
      have e2 : a - (sumWBookTicket [] : Nat) = a := by simp only [sumWBookTicket]; omega
      simp only [rv0, rv1, rvE, rvH, rvS, rvI, eT, eQ, ↓reduceIte, Nat.reduceEqDiff, Nat.reduceAdd, Nat.reduceSub, Nat.reduceMul, Nat.reduceLeDiff, Nat.reduceBEq, decide_true, decide_false, reduceCtorEq, Int.reduceLT, Int.reduceNeg, rvN, Nat.reduceLT, Int.reduceLE, Int.reduceEq, eq_self, List.reduceReplicate, rvF, rvG, e55, e, e2]
theorem k_szBook (x : VBook) (left : Int) (hx : x.ok) (h0 : 0 ≤ left) (h1 : left ≤ 1048576) : EV Try.prog E 12 [.val 0 true (VBook.c .shr x), .val 0 false [.p (.int .i64 left)]] = some ⟨[(false, [.p (.int .i64 (subW left x.w))])], []⟩ := by
  refine EV_intro Try.func12 rfl ?_
  have hx0 := hx
  simp only [VBook.ok] at hx
  obtain ⟨o_now, o_floor, o_objects, o_history, o_tickets⟩ := hx
  have w0 := k_szBookObjectS x.objects (left) o_objects (by omega) (by omega)
  by_cases c0 : left < (wSBookObject x.objects : Nat)
  · have e : subW left x.w = -1 := subW_lt (by unfold VBook.w; omega)
    rw [subW_lt c0] at w0
    simp only [rv0, rv1, rvE, rvH, rvS, rvI, eT, eQ, ↓reduceIte, Nat.reduceEqDiff, Nat.reduceAdd, Nat.reduceSub, Nat.reduceMul, Nat.reduceLeDiff, Nat.reduceBEq, decide_true, decide_false, reduceCtorEq, Int.reduceLT, Int.reduceNeg, rvN, Nat.reduceLT, Int.reduceLE, Int.reduceEq, eq_self, List.reduceReplicate, rvF, rvG, e12, e53, Try.f12, VBook.c, w0, e]
  rw [subW_ge c0] at w0
  have d0 : ¬ (left - (wSBookObject x.objects : Nat) < 0) := by omega
  have w1 := k_szBookChangeS x.history (left - (wSBookObject x.objects : Nat)) o_history (by omega) (by omega)
  by_cases c1 : left - (wSBookObject x.objects : Nat) < (wSBookChange x.history : Nat)
  · have e : subW left x.w = -1 := subW_lt (by unfold VBook.w; omega)
    rw [subW_lt c1] at w1
    simp only [rv0, rv1, rvE, rvH, rvS, rvI, eT, eQ, ↓reduceIte, Nat.reduceEqDiff, Nat.reduceAdd, Nat.reduceSub, Nat.reduceMul, Nat.reduceLeDiff, Nat.reduceBEq, decide_true, decide_false, reduceCtorEq, Int.reduceLT, Int.reduceNeg, rvN, Nat.reduceLT, Int.reduceLE, Int.reduceEq, eq_self, List.reduceReplicate, rvF, rvG, e12, e53, e54, Try.f12, VBook.c, w0, d0, w1, e]
  rw [subW_ge c1] at w1
  have d1 : ¬ (left - (wSBookObject x.objects : Nat) - (wSBookChange x.history : Nat) < 0) := by omega
  have w2 := k_szBookTicketS x.tickets (left - (wSBookObject x.objects : Nat) - (wSBookChange x.history : Nat)) o_tickets (by omega) (by omega)
  by_cases c2 : left - (wSBookObject x.objects : Nat) - (wSBookChange x.history : Nat) < (wSBookTicket x.tickets : Nat)
  · have e : subW left x.w = -1 := subW_lt (by unfold VBook.w; omega)
    rw [subW_lt c2] at w2
    simp only [rv0, rv1, rvE, rvH, rvS, rvI, eT, eQ, ↓reduceIte, Nat.reduceEqDiff, Nat.reduceAdd, Nat.reduceSub, Nat.reduceMul, Nat.reduceLeDiff, Nat.reduceBEq, decide_true, decide_false, reduceCtorEq, Int.reduceLT, Int.reduceNeg, rvN, Nat.reduceLT, Int.reduceLE, Int.reduceEq, eq_self, List.reduceReplicate, rvF, rvG, e12, e53, e54, e55, Try.f12, VBook.c, w0, d0, w1, d1, w2, e]
  rw [subW_ge c2] at w2
  have d2 : ¬ (left - (wSBookObject x.objects : Nat) - (wSBookChange x.history : Nat) - (wSBookTicket x.tickets : Nat) < 0) := by omega
  have e : subW left x.w = left - (wSBookObject x.objects : Nat) - (wSBookChange x.history : Nat) - (wSBookTicket x.tickets : Nat) := by rw [subW_ge (by unfold VBook.w; omega)]; unfold VBook.w; omega
  simp only [rv0, rv1, rvE, rvH, rvS, rvI, eT, eQ, ↓reduceIte, Nat.reduceEqDiff, Nat.reduceAdd, Nat.reduceSub, Nat.reduceMul, Nat.reduceLeDiff, Nat.reduceBEq, decide_true, decide_false, reduceCtorEq, Int.reduceLT, Int.reduceNeg, rvN, Nat.reduceLT, Int.reduceLE, Int.reduceEq, eq_self, List.reduceReplicate, rvF, rvG, e12, e53, e54, e55, Try.f12, VBook.c, w0, d0, w1, d1, w2, d2, e]
theorem k_toStringS (l : List ByteArray) (hw : wSString l ≤ 4194304) : EV Try.prog E 120 [.val 0 false [.sl .shr 1 (l.map strC)]] = some ⟨[(false, [.sl .own 1 (l.map strC)])], []⟩ := by
  refine EV_intro Try.func120 rfl ?_
  have hn : l.length ≤ 4194304 := by unfold wSString at hw; omega
  have h1 : l.length < 4294967296 := by omega
  have h0 : (0 : Int) ≤ (l.length : Int) := by omega
  have hz := repl_whole (z := [.p (.string ⟨#[]⟩)]) (by simp only [rv0, rv1, rvE, rvH, rvS, rvI, eT, eQ, ↓reduceIte, Nat.reduceEqDiff, Nat.reduceAdd, Nat.reduceSub, Nat.reduceMul, Nat.reduceLeDiff, Nat.reduceBEq, decide_true, decide_false, reduceCtorEq, Int.reduceLT, Int.reduceNeg, rvN, Nat.reduceLT, Int.reduceLE, Int.reduceEq, eq_self, List.reduceReplicate, rvF, rvG, Fl.isShr, Fl.isOwn]) l.length
  simp only [rv0, rv1, rvE, rvH, rvS, rvI, eT, eQ, ↓reduceIte, Nat.reduceEqDiff, Nat.reduceAdd, Nat.reduceSub, Nat.reduceMul, Nat.reduceLeDiff, Nat.reduceBEq, decide_true, decide_false, reduceCtorEq, Int.reduceLT, Int.reduceNeg, rvN, Nat.reduceLT, Int.reduceLE, Int.reduceEq, eq_self, List.reduceReplicate, rvF, rvG, e120, Try.f120, LIM, h1, h0, hz]
  rw [for_block l (fun i (_ : Unit) => ⟨3, [(0, .val 0 false [.sl .shr 1 (l.map strC)]), (3, .val 1 false [.sl .own 1 (fillR strC l [.p (.string ⟨#[]⟩)] i)]), (4, .val 2 false [.p (.int .i64 i)])]⟩) (fun i _ => True)
      (fun r i a => .norm ⟨1, [(3, .val 0 false [.sl .own 1 (l.map strC)])]⟩) ?_ ?_ (a := ()) trivial (by simp only [rv0, rv1, rvE, rvH, rvS, rvI, eT, eQ, ↓reduceIte, Nat.reduceEqDiff, Nat.reduceAdd, Nat.reduceSub, Nat.reduceMul, Nat.reduceLeDiff, Nat.reduceBEq, decide_true, decide_false, reduceCtorEq, Int.reduceLT, Int.reduceNeg, rvN, Nat.reduceLT, Int.reduceLE, Int.reduceEq, eq_self, List.reduceReplicate, rvF, rvG, e120, fill_zero]; rfl)]
  · simp only [rv0, rv1, rvE, rvH, rvS, rvI, eT, eQ, ↓reduceIte, Nat.reduceEqDiff, Nat.reduceAdd, Nat.reduceSub, Nat.reduceMul, Nat.reduceLeDiff, Nat.reduceBEq, decide_true, decide_false, reduceCtorEq, Int.reduceLT, Int.reduceNeg, rvN, Nat.reduceLT, Int.reduceLE, Int.reduceEq, eq_self, List.reduceReplicate, rvF, rvG, e120, rowsString]
  · intro i s r a hd hi _
    have hlen := (List.getElem?_eq_some_iff.1 hi).1
    have hlt : ((i : Int) < (l.length : Int)) := by omega
    have hr := getElem?_map_some (f := strC) hi
    have hwi := wrap64 (n := (i : Int) + 1) (by omega) (by omega)
    have hi0 : (0 : Int) ≤ (i : Int) := by omega
    have hg := fill_get strC [.p (.string ⟨#[]⟩)] hlen
    have hs := fill_set strC [.p (.string ⟨#[]⟩)] hi
    have hfl := fill_length strC l [.p (.string ⟨#[]⟩)] (Nat.le_of_lt hlen)
    simp only [strC] at hr hs
    left
    refine ⟨(), ?_, trivial, rfl⟩
    simp only [rv0, rv1, rvE, rvH, rvS, rvI, eT, eQ, ↓reduceIte, Nat.reduceEqDiff, Nat.reduceAdd, Nat.reduceSub, Nat.reduceMul, Nat.reduceLeDiff, Nat.reduceBEq, decide_true, decide_false, reduceCtorEq, Int.reduceLT, Int.reduceNeg, rvN, Nat.reduceLT, Int.reduceLE, Int.reduceEq, eq_self, List.reduceReplicate, rvF, rvG, e120, hlt, hr, hwi, hi0, hg, hs, hfl, hlen, i64c]
  · intro a _
    simp only [rv0, rv1, rvE, rvH, rvS, rvI, eT, eQ, ↓reduceIte, Nat.reduceEqDiff, Nat.reduceAdd, Nat.reduceSub, Nat.reduceMul, Nat.reduceLeDiff, Nat.reduceBEq, decide_true, decide_false, reduceCtorEq, Int.reduceLT, Int.reduceNeg, rvN, Nat.reduceLT, Int.reduceLE, Int.reduceEq, eq_self, List.reduceReplicate, rvF, rvG, e120, fill_end]
theorem k_toBookObject (x : VBookObject) (hw : x.w ≤ 4194304) : EV Try.prog E 98 [.val 0 true (VBookObject.c .shr x)] = some ⟨[(true, VBookObject.c .own x)], []⟩ := by
  refine EV_intro Try.func98 rfl ?_
  unfold VBookObject.w at hw
  have h0 := k_toStringS x.holds (by omega)
  simp only [rv0, rv1, rvE, rvH, rvS, rvI, eT, eQ, ↓reduceIte, Nat.reduceEqDiff, Nat.reduceAdd, Nat.reduceSub, Nat.reduceMul, Nat.reduceLeDiff, Nat.reduceBEq, decide_true, decide_false, reduceCtorEq, Int.reduceLT, Int.reduceNeg, rvN, Nat.reduceLT, Int.reduceLE, Int.reduceEq, eq_self, List.reduceReplicate, rvF, rvG, e98, e120, Try.f98, VBookObject.c, h0, rowsString]
theorem k_toBookObjectS (l : List VBookObject) (hw : wSBookObject l ≤ 4194304) : EV Try.prog E 57 [.val 0 false [.sl .shr 7 (l.map (VBookObject.c .shr))]] = some ⟨[(false, [.sl .own 7 (l.map (VBookObject.c .own))])], []⟩ := by
  refine EV_intro Try.func57 rfl ?_
  have hn : l.length ≤ 4194304 := by unfold wSBookObject at hw; omega
  have h1 : l.length < 4294967296 := by omega
  have h0 : (0 : Int) ≤ (l.length : Int) := by omega
  have hz := repl_whole (z := [.p (.string ⟨#[]⟩), .p (.string ⟨#[]⟩), .p (.int .i64 0), .p (.int .i64 0), .p (.string ⟨#[]⟩), .p (.bool false), .sl .own 1 []]) (by simp only [rv0, rv1, rvE, rvH, rvS, rvI, eT, eQ, ↓reduceIte, Nat.reduceEqDiff, Nat.reduceAdd, Nat.reduceSub, Nat.reduceMul, Nat.reduceLeDiff, Nat.reduceBEq, decide_true, decide_false, reduceCtorEq, Int.reduceLT, Int.reduceNeg, rvN, Nat.reduceLT, Int.reduceLE, Int.reduceEq, eq_self, List.reduceReplicate, rvF, rvG, Fl.isShr, Fl.isOwn]) l.length
  simp only [rv0, rv1, rvE, rvH, rvS, rvI, eT, eQ, ↓reduceIte, Nat.reduceEqDiff, Nat.reduceAdd, Nat.reduceSub, Nat.reduceMul, Nat.reduceLeDiff, Nat.reduceBEq, decide_true, decide_false, reduceCtorEq, Int.reduceLT, Int.reduceNeg, rvN, Nat.reduceLT, Int.reduceLE, Int.reduceEq, eq_self, List.reduceReplicate, rvF, rvG, e57, Try.f57, LIM, h1, h0, hz]
  rw [for_block l (fun i (_ : Unit) => ⟨3, [(0, .val 0 false [.sl .shr 7 (l.map (VBookObject.c .shr))]), (3, .val 1 false [.sl .own 7 (fillR (VBookObject.c .own) l [.p (.string ⟨#[]⟩), .p (.string ⟨#[]⟩), .p (.int .i64 0), .p (.int .i64 0), .p (.string ⟨#[]⟩), .p (.bool false), .sl .own 1 []] i)]), (4, .val 2 false [.p (.int .i64 i)])]⟩) (fun i _ => True)
      (fun r i a => .norm ⟨1, [(3, .val 0 false [.sl .own 7 (l.map (VBookObject.c .own))])]⟩) ?_ ?_ (a := ()) trivial (by simp only [rv0, rv1, rvE, rvH, rvS, rvI, eT, eQ, ↓reduceIte, Nat.reduceEqDiff, Nat.reduceAdd, Nat.reduceSub, Nat.reduceMul, Nat.reduceLeDiff, Nat.reduceBEq, decide_true, decide_false, reduceCtorEq, Int.reduceLT, Int.reduceNeg, rvN, Nat.reduceLT, Int.reduceLE, Int.reduceEq, eq_self, List.reduceReplicate, rvF, rvG, e57, fill_zero]; rfl)]
  · simp only [rv0, rv1, rvE, rvH, rvS, rvI, eT, eQ, ↓reduceIte, Nat.reduceEqDiff, Nat.reduceAdd, Nat.reduceSub, Nat.reduceMul, Nat.reduceLeDiff, Nat.reduceBEq, decide_true, decide_false, reduceCtorEq, Int.reduceLT, Int.reduceNeg, rvN, Nat.reduceLT, Int.reduceLE, Int.reduceEq, eq_self, List.reduceReplicate, rvF, rvG, e57, rowsBookObject]
  · intro i s r a hd hi _
    have hlen := (List.getElem?_eq_some_iff.1 hi).1
    have hlt : ((i : Int) < (l.length : Int)) := by omega
    have hr := getElem?_map_some (f := (VBookObject.c .shr)) hi
    have hwi := wrap64 (n := (i : Int) + 1) (by omega) (by omega)
    have hi0 : (0 : Int) ≤ (i : Int) := by omega
    have hg := fill_get (VBookObject.c .own) [.p (.string ⟨#[]⟩), .p (.string ⟨#[]⟩), .p (.int .i64 0), .p (.int .i64 0), .p (.string ⟨#[]⟩), .p (.bool false), .sl .own 1 []] hlen
    have hs := fill_set (VBookObject.c .own) [.p (.string ⟨#[]⟩), .p (.string ⟨#[]⟩), .p (.int .i64 0), .p (.int .i64 0), .p (.string ⟨#[]⟩), .p (.bool false), .sl .own 1 []] hi
    have hfl := fill_length (VBookObject.c .own) l [.p (.string ⟨#[]⟩), .p (.string ⟨#[]⟩), .p (.int .i64 0), .p (.int .i64 0), .p (.string ⟨#[]⟩), .p (.bool false), .sl .own 1 []] (Nat.le_of_lt hlen)
    simp only [VBookObject.c] at hr hs
    have hm := k_toBookObject s (by have := wSBookObject_mem (List.mem_of_getElem? hi); unfold wSBookObject at hw; omega)
    simp only [VBookObject.c] at hm
    left
    refine ⟨(), ?_, trivial, rfl⟩
    simp only [rv0, rv1, rvE, rvH, rvS, rvI, eT, eQ, ↓reduceIte, Nat.reduceEqDiff, Nat.reduceAdd, Nat.reduceSub, Nat.reduceMul, Nat.reduceLeDiff, Nat.reduceBEq, decide_true, decide_false, reduceCtorEq, Int.reduceLT, Int.reduceNeg, rvN, Nat.reduceLT, Int.reduceLE, Int.reduceEq, eq_self, List.reduceReplicate, rvF, rvG, e57, e98, hlt, hr, hm, hwi, hi0, hg, hs, hfl, hlen, i64c, rowsString]
  · intro a _
    simp only [rv0, rv1, rvE, rvH, rvS, rvI, eT, eQ, ↓reduceIte, Nat.reduceEqDiff, Nat.reduceAdd, Nat.reduceSub, Nat.reduceMul, Nat.reduceLeDiff, Nat.reduceBEq, decide_true, decide_false, reduceCtorEq, Int.reduceLT, Int.reduceNeg, rvN, Nat.reduceLT, Int.reduceLE, Int.reduceEq, eq_self, List.reduceReplicate, rvF, rvG, e57, fill_end]
theorem k_toBookChange (x : VBookChange) (hw : x.w ≤ 4194304) : EV Try.prog E 99 [.val 0 true (VBookChange.c .shr x)] = some ⟨[(true, VBookChange.c .own x)], []⟩ := by
  refine EV_intro Try.func99 rfl ?_
  unfold VBookChange.w at hw
  have h0 := k_toBookObject x.object (by omega)
  simp only [VBookObject.c] at h0
  simp only [rv0, rv1, rvE, rvH, rvS, rvI, eT, eQ, ↓reduceIte, Nat.reduceEqDiff, Nat.reduceAdd, Nat.reduceSub, Nat.reduceMul, Nat.reduceLeDiff, Nat.reduceBEq, decide_true, decide_false, reduceCtorEq, Int.reduceLT, Int.reduceNeg, rvN, Nat.reduceLT, Int.reduceLE, Int.reduceEq, eq_self, List.reduceReplicate, rvF, rvG, e99, e98, Try.f99, VBookChange.c, h0, rowsString]
theorem k_toBookChangeS (l : List VBookChange) (hw : wSBookChange l ≤ 4194304) : EV Try.prog E 58 [.val 0 false [.sl .shr 9 (l.map (VBookChange.c .shr))]] = some ⟨[(false, [.sl .own 9 (l.map (VBookChange.c .own))])], []⟩ := by
  refine EV_intro Try.func58 rfl ?_
  have hn : l.length ≤ 4194304 := by unfold wSBookChange at hw; omega
  have h1 : l.length < 4294967296 := by omega
  have h0 : (0 : Int) ≤ (l.length : Int) := by omega
  have hz := repl_whole (z := [.p (.int .i64 0), .p (.bool false), .p (.string ⟨#[]⟩), .p (.string ⟨#[]⟩), .p (.int .i64 0), .p (.int .i64 0), .p (.string ⟨#[]⟩), .p (.bool false), .sl .own 1 []]) (by simp only [rv0, rv1, rvE, rvH, rvS, rvI, eT, eQ, ↓reduceIte, Nat.reduceEqDiff, Nat.reduceAdd, Nat.reduceSub, Nat.reduceMul, Nat.reduceLeDiff, Nat.reduceBEq, decide_true, decide_false, reduceCtorEq, Int.reduceLT, Int.reduceNeg, rvN, Nat.reduceLT, Int.reduceLE, Int.reduceEq, eq_self, List.reduceReplicate, rvF, rvG, Fl.isShr, Fl.isOwn]) l.length
  simp only [rv0, rv1, rvE, rvH, rvS, rvI, eT, eQ, ↓reduceIte, Nat.reduceEqDiff, Nat.reduceAdd, Nat.reduceSub, Nat.reduceMul, Nat.reduceLeDiff, Nat.reduceBEq, decide_true, decide_false, reduceCtorEq, Int.reduceLT, Int.reduceNeg, rvN, Nat.reduceLT, Int.reduceLE, Int.reduceEq, eq_self, List.reduceReplicate, rvF, rvG, e58, Try.f58, LIM, h1, h0, hz]
  rw [for_block l (fun i (_ : Unit) => ⟨3, [(0, .val 0 false [.sl .shr 9 (l.map (VBookChange.c .shr))]), (3, .val 1 false [.sl .own 9 (fillR (VBookChange.c .own) l [.p (.int .i64 0), .p (.bool false), .p (.string ⟨#[]⟩), .p (.string ⟨#[]⟩), .p (.int .i64 0), .p (.int .i64 0), .p (.string ⟨#[]⟩), .p (.bool false), .sl .own 1 []] i)]), (4, .val 2 false [.p (.int .i64 i)])]⟩) (fun i _ => True)
      (fun r i a => .norm ⟨1, [(3, .val 0 false [.sl .own 9 (l.map (VBookChange.c .own))])]⟩) ?_ ?_ (a := ()) trivial (by simp only [rv0, rv1, rvE, rvH, rvS, rvI, eT, eQ, ↓reduceIte, Nat.reduceEqDiff, Nat.reduceAdd, Nat.reduceSub, Nat.reduceMul, Nat.reduceLeDiff, Nat.reduceBEq, decide_true, decide_false, reduceCtorEq, Int.reduceLT, Int.reduceNeg, rvN, Nat.reduceLT, Int.reduceLE, Int.reduceEq, eq_self, List.reduceReplicate, rvF, rvG, e58, fill_zero]; rfl)]
  · simp only [rv0, rv1, rvE, rvH, rvS, rvI, eT, eQ, ↓reduceIte, Nat.reduceEqDiff, Nat.reduceAdd, Nat.reduceSub, Nat.reduceMul, Nat.reduceLeDiff, Nat.reduceBEq, decide_true, decide_false, reduceCtorEq, Int.reduceLT, Int.reduceNeg, rvN, Nat.reduceLT, Int.reduceLE, Int.reduceEq, eq_self, List.reduceReplicate, rvF, rvG, e58, rowsBookChange]
  · intro i s r a hd hi _
    have hlen := (List.getElem?_eq_some_iff.1 hi).1
    have hlt : ((i : Int) < (l.length : Int)) := by omega
    have hr := getElem?_map_some (f := (VBookChange.c .shr)) hi
    have hwi := wrap64 (n := (i : Int) + 1) (by omega) (by omega)
    have hi0 : (0 : Int) ≤ (i : Int) := by omega
    have hg := fill_get (VBookChange.c .own) [.p (.int .i64 0), .p (.bool false), .p (.string ⟨#[]⟩), .p (.string ⟨#[]⟩), .p (.int .i64 0), .p (.int .i64 0), .p (.string ⟨#[]⟩), .p (.bool false), .sl .own 1 []] hlen
    have hs := fill_set (VBookChange.c .own) [.p (.int .i64 0), .p (.bool false), .p (.string ⟨#[]⟩), .p (.string ⟨#[]⟩), .p (.int .i64 0), .p (.int .i64 0), .p (.string ⟨#[]⟩), .p (.bool false), .sl .own 1 []] hi
    have hfl := fill_length (VBookChange.c .own) l [.p (.int .i64 0), .p (.bool false), .p (.string ⟨#[]⟩), .p (.string ⟨#[]⟩), .p (.int .i64 0), .p (.int .i64 0), .p (.string ⟨#[]⟩), .p (.bool false), .sl .own 1 []] (Nat.le_of_lt hlen)
    simp only [VBookChange.c] at hr hs
    have hm := k_toBookChange s (by have := wSBookChange_mem (List.mem_of_getElem? hi); unfold wSBookChange at hw; omega)
    simp only [VBookChange.c] at hm
    left
    refine ⟨(), ?_, trivial, rfl⟩
    simp only [rv0, rv1, rvE, rvH, rvS, rvI, eT, eQ, ↓reduceIte, Nat.reduceEqDiff, Nat.reduceAdd, Nat.reduceSub, Nat.reduceMul, Nat.reduceLeDiff, Nat.reduceBEq, decide_true, decide_false, reduceCtorEq, Int.reduceLT, Int.reduceNeg, rvN, Nat.reduceLT, Int.reduceLE, Int.reduceEq, eq_self, List.reduceReplicate, rvF, rvG, e58, e99, hlt, hr, hm, hwi, hi0, hg, hs, hfl, hlen, i64c, rowsString]
  · intro a _
    simp only [rv0, rv1, rvE, rvH, rvS, rvI, eT, eQ, ↓reduceIte, Nat.reduceEqDiff, Nat.reduceAdd, Nat.reduceSub, Nat.reduceMul, Nat.reduceLeDiff, Nat.reduceBEq, decide_true, decide_false, reduceCtorEq, Int.reduceLT, Int.reduceNeg, rvN, Nat.reduceLT, Int.reduceLE, Int.reduceEq, eq_self, List.reduceReplicate, rvF, rvG, e58, fill_end]
theorem k_toBookTicket (x : VBookTicket) (hw : x.w ≤ 4194304) : EV Try.prog E 100 [.val 0 true (VBookTicket.c x)] = some ⟨[(true, VBookTicket.c x)], []⟩ := by
  refine EV_intro Try.func100 rfl ?_
  unfold VBookTicket.w at hw
  simp only [rv0, rv1, rvE, rvH, rvS, rvI, eT, eQ, ↓reduceIte, Nat.reduceEqDiff, Nat.reduceAdd, Nat.reduceSub, Nat.reduceMul, Nat.reduceLeDiff, Nat.reduceBEq, decide_true, decide_false, reduceCtorEq, Int.reduceLT, Int.reduceNeg, rvN, Nat.reduceLT, Int.reduceLE, Int.reduceEq, eq_self, List.reduceReplicate, rvF, rvG, e100, Try.f100, VBookTicket.c]
theorem k_toBookTicketS (l : List VBookTicket) (hw : wSBookTicket l ≤ 4194304) : EV Try.prog E 59 [.val 0 false [.sl .shr 5 (l.map VBookTicket.c)]] = some ⟨[(false, [.sl .own 5 (l.map VBookTicket.c)])], []⟩ := by
  refine EV_intro Try.func59 rfl ?_
  have hn : l.length ≤ 4194304 := by unfold wSBookTicket at hw; omega
  have h1 : l.length < 4294967296 := by omega
  have h0 : (0 : Int) ≤ (l.length : Int) := by omega
  have hz := repl_whole (z := [.p (.string ⟨#[]⟩), .p (.int .i64 0), .p (.string ⟨#[]⟩), .p (.int .i64 0), .p (.int .i64 0)]) (by simp only [rv0, rv1, rvE, rvH, rvS, rvI, eT, eQ, ↓reduceIte, Nat.reduceEqDiff, Nat.reduceAdd, Nat.reduceSub, Nat.reduceMul, Nat.reduceLeDiff, Nat.reduceBEq, decide_true, decide_false, reduceCtorEq, Int.reduceLT, Int.reduceNeg, rvN, Nat.reduceLT, Int.reduceLE, Int.reduceEq, eq_self, List.reduceReplicate, rvF, rvG, Fl.isShr, Fl.isOwn]) l.length
  simp only [rv0, rv1, rvE, rvH, rvS, rvI, eT, eQ, ↓reduceIte, Nat.reduceEqDiff, Nat.reduceAdd, Nat.reduceSub, Nat.reduceMul, Nat.reduceLeDiff, Nat.reduceBEq, decide_true, decide_false, reduceCtorEq, Int.reduceLT, Int.reduceNeg, rvN, Nat.reduceLT, Int.reduceLE, Int.reduceEq, eq_self, List.reduceReplicate, rvF, rvG, e59, Try.f59, LIM, h1, h0, hz]
  rw [for_block l (fun i (_ : Unit) => ⟨3, [(0, .val 0 false [.sl .shr 5 (l.map VBookTicket.c)]), (3, .val 1 false [.sl .own 5 (fillR VBookTicket.c l [.p (.string ⟨#[]⟩), .p (.int .i64 0), .p (.string ⟨#[]⟩), .p (.int .i64 0), .p (.int .i64 0)] i)]), (4, .val 2 false [.p (.int .i64 i)])]⟩) (fun i _ => True)
      (fun r i a => .norm ⟨1, [(3, .val 0 false [.sl .own 5 (l.map VBookTicket.c)])]⟩) ?_ ?_ (a := ()) trivial (by simp only [rv0, rv1, rvE, rvH, rvS, rvI, eT, eQ, ↓reduceIte, Nat.reduceEqDiff, Nat.reduceAdd, Nat.reduceSub, Nat.reduceMul, Nat.reduceLeDiff, Nat.reduceBEq, decide_true, decide_false, reduceCtorEq, Int.reduceLT, Int.reduceNeg, rvN, Nat.reduceLT, Int.reduceLE, Int.reduceEq, eq_self, List.reduceReplicate, rvF, rvG, e59, fill_zero]; rfl)]
  · simp only [rv0, rv1, rvE, rvH, rvS, rvI, eT, eQ, ↓reduceIte, Nat.reduceEqDiff, Nat.reduceAdd, Nat.reduceSub, Nat.reduceMul, Nat.reduceLeDiff, Nat.reduceBEq, decide_true, decide_false, reduceCtorEq, Int.reduceLT, Int.reduceNeg, rvN, Nat.reduceLT, Int.reduceLE, Int.reduceEq, eq_self, List.reduceReplicate, rvF, rvG, e59, rowsBookTicket]
  · intro i s r a hd hi _
    have hlen := (List.getElem?_eq_some_iff.1 hi).1
    have hlt : ((i : Int) < (l.length : Int)) := by omega
    have hr := getElem?_map_some (f := VBookTicket.c) hi
    have hwi := wrap64 (n := (i : Int) + 1) (by omega) (by omega)
    have hi0 : (0 : Int) ≤ (i : Int) := by omega
    have hg := fill_get VBookTicket.c [.p (.string ⟨#[]⟩), .p (.int .i64 0), .p (.string ⟨#[]⟩), .p (.int .i64 0), .p (.int .i64 0)] hlen
    have hs := fill_set VBookTicket.c [.p (.string ⟨#[]⟩), .p (.int .i64 0), .p (.string ⟨#[]⟩), .p (.int .i64 0), .p (.int .i64 0)] hi
    have hfl := fill_length VBookTicket.c l [.p (.string ⟨#[]⟩), .p (.int .i64 0), .p (.string ⟨#[]⟩), .p (.int .i64 0), .p (.int .i64 0)] (Nat.le_of_lt hlen)
    simp only [VBookTicket.c] at hr hs
    have hm := k_toBookTicket s (by have := wSBookTicket_mem (List.mem_of_getElem? hi); unfold wSBookTicket at hw; omega)
    simp only [VBookTicket.c] at hm
    left
    refine ⟨(), ?_, trivial, rfl⟩
    simp only [rv0, rv1, rvE, rvH, rvS, rvI, eT, eQ, ↓reduceIte, Nat.reduceEqDiff, Nat.reduceAdd, Nat.reduceSub, Nat.reduceMul, Nat.reduceLeDiff, Nat.reduceBEq, decide_true, decide_false, reduceCtorEq, Int.reduceLT, Int.reduceNeg, rvN, Nat.reduceLT, Int.reduceLE, Int.reduceEq, eq_self, List.reduceReplicate, rvF, rvG, e59, e100, hlt, hr, hm, hwi, hi0, hg, hs, hfl, hlen, i64c]
  · intro a _
    simp only [rv0, rv1, rvE, rvH, rvS, rvI, eT, eQ, ↓reduceIte, Nat.reduceEqDiff, Nat.reduceAdd, Nat.reduceSub, Nat.reduceMul, Nat.reduceLeDiff, Nat.reduceBEq, decide_true, decide_false, reduceCtorEq, Int.reduceLT, Int.reduceNeg, rvN, Nat.reduceLT, Int.reduceLE, Int.reduceEq, eq_self, List.reduceReplicate, rvF, rvG, e59, fill_end]
theorem k_toBook (x : VBook) (hw : x.w ≤ 4194304) : EV Try.prog E 14 [.val 0 true (VBook.c .shr x)] = some ⟨[(true, VBook.c .own x)], []⟩ := by
  refine EV_intro Try.func14 rfl ?_
  unfold VBook.w at hw
  have h0 := k_toBookObjectS x.objects (by omega)
  have h1 := k_toBookChangeS x.history (by omega)
  have h2 := k_toBookTicketS x.tickets (by omega)
  simp only [rv0, rv1, rvE, rvH, rvS, rvI, eT, eQ, ↓reduceIte, Nat.reduceEqDiff, Nat.reduceAdd, Nat.reduceSub, Nat.reduceMul, Nat.reduceLeDiff, Nat.reduceBEq, decide_true, decide_false, reduceCtorEq, Int.reduceLT, Int.reduceNeg, rvN, Nat.reduceLT, Int.reduceLE, Int.reduceEq, eq_self, List.reduceReplicate, rvF, rvG, e14, e57, e58, e59, Try.f14, VBook.c, h0, h1, h2, rowsBookObject, rowsBookChange, rowsBookTicket]
theorem k_eqStringS (l : List ByteArray) (hw : wSString l ≤ 4194304) : EV Try.prog E 62 [.val 0 false [.sl .shr 1 (l.map strC)], .val 0 false [.sl .shr 1 (l.map strC)]] = some ⟨[(false, [.p (.bool true)])], []⟩ := by
  refine EV_intro Try.func62 rfl ?_
  have hn : l.length ≤ 4194304 := by unfold wSString at hw; omega
  simp only [rv0, rv1, rvE, rvH, rvS, rvI, eT, eQ, ↓reduceIte, Nat.reduceEqDiff, Nat.reduceAdd, Nat.reduceSub, Nat.reduceMul, Nat.reduceLeDiff, Nat.reduceBEq, decide_true, decide_false, reduceCtorEq, Int.reduceLT, Int.reduceNeg, rvN, Nat.reduceLT, Int.reduceLE, Int.reduceEq, eq_self, List.reduceReplicate, rvF, rvG, e62, Try.f62]
  rw [for_block l (fun i (_ : Unit) => ⟨3, [(0, .val 0 false [.sl .shr 1 (l.map strC)]), (1, .val 1 false [.sl .shr 1 (l.map strC)]), (5, .val 2 false [.p (.int .i64 i)])]⟩) (fun i _ => True)
      (fun r i a => .norm ⟨0, []⟩) ?_ ?_ (a := ()) trivial (by simp only [rv0, rv1, rvE, rvH, rvS, rvI, eT, eQ, ↓reduceIte, Nat.reduceEqDiff, Nat.reduceAdd, Nat.reduceSub, Nat.reduceMul, Nat.reduceLeDiff, Nat.reduceBEq, decide_true, decide_false, reduceCtorEq, Int.reduceLT, Int.reduceNeg, rvN, Nat.reduceLT, Int.reduceLE, Int.reduceEq, eq_self, List.reduceReplicate, rvF, rvG, e62]; rfl)]
  · simp only [rv0, rv1, rvE, rvH, rvS, rvI, eT, eQ, ↓reduceIte, Nat.reduceEqDiff, Nat.reduceAdd, Nat.reduceSub, Nat.reduceMul, Nat.reduceLeDiff, Nat.reduceBEq, decide_true, decide_false, reduceCtorEq, Int.reduceLT, Int.reduceNeg, rvN, Nat.reduceLT, Int.reduceLE, Int.reduceEq, eq_self, List.reduceReplicate, rvF, rvG, e62]
  · intro i s r a hd hi _
    have hlen := (List.getElem?_eq_some_iff.1 hi).1
    have hlt : ((i : Int) < (l.length : Int)) := by omega
    have hr := getElem?_map_some (f := strC) hi
    have hwi := wrap64 (n := (i : Int) + 1) (by omega) (by omega)
    have hi0 : (0 : Int) ≤ (i : Int) := by omega
    simp only [strC] at hr
    left
    refine ⟨(), ?_, trivial, rfl⟩
    simp only [rv0, rv1, rvE, rvH, rvS, rvI, eT, eQ, ↓reduceIte, Nat.reduceEqDiff, Nat.reduceAdd, Nat.reduceSub, Nat.reduceMul, Nat.reduceLeDiff, Nat.reduceBEq, decide_true, decide_false, reduceCtorEq, Int.reduceLT, Int.reduceNeg, rvN, Nat.reduceLT, Int.reduceLE, Int.reduceEq, eq_self, List.reduceReplicate, rvF, rvG, e62, hlt, hr, hwi, hi0, i64c, beq_self_eq_true]
  · intro a _
    simp only [rv0, rv1, rvE, rvH, rvS, rvI, eT, eQ, ↓reduceIte, Nat.reduceEqDiff, Nat.reduceAdd, Nat.reduceSub, Nat.reduceMul, Nat.reduceLeDiff, Nat.reduceBEq, decide_true, decide_false, reduceCtorEq, Int.reduceLT, Int.reduceNeg, rvN, Nat.reduceLT, Int.reduceLE, Int.reduceEq, eq_self, List.reduceReplicate, rvF, rvG, e62]
theorem k_eqBookObject (x : VBookObject) (hw : x.w ≤ 4194304) : EV Try.prog E 16 [.val 0 true (VBookObject.c .shr x), .val 0 true (VBookObject.c .shr x)] = some ⟨[(false, [.p (.bool true)])], []⟩ := by
  refine EV_intro Try.func16 rfl ?_
  unfold VBookObject.w at hw
  have h0 := k_eqStringS x.holds (by omega)
  simp only [rv0, rv1, rvE, rvH, rvS, rvI, eT, eQ, ↓reduceIte, Nat.reduceEqDiff, Nat.reduceAdd, Nat.reduceSub, Nat.reduceMul, Nat.reduceLeDiff, Nat.reduceBEq, decide_true, decide_false, reduceCtorEq, Int.reduceLT, Int.reduceNeg, rvN, Nat.reduceLT, Int.reduceLE, Int.reduceEq, eq_self, List.reduceReplicate, rvF, rvG, e16, e62, Try.f16, VBookObject.c, h0, beq_self_eq_true]
theorem k_eqBookObjectS (l : List VBookObject) (hw : wSBookObject l ≤ 4194304) : EV Try.prog E 36 [.val 0 false [.sl .shr 7 (l.map (VBookObject.c .shr))], .val 0 false [.sl .shr 7 (l.map (VBookObject.c .shr))]] = some ⟨[(false, [.p (.bool true)])], []⟩ := by
  refine EV_intro Try.func36 rfl ?_
  have hn : l.length ≤ 4194304 := by unfold wSBookObject at hw; omega
  simp only [rv0, rv1, rvE, rvH, rvS, rvI, eT, eQ, ↓reduceIte, Nat.reduceEqDiff, Nat.reduceAdd, Nat.reduceSub, Nat.reduceMul, Nat.reduceLeDiff, Nat.reduceBEq, decide_true, decide_false, reduceCtorEq, Int.reduceLT, Int.reduceNeg, rvN, Nat.reduceLT, Int.reduceLE, Int.reduceEq, eq_self, List.reduceReplicate, rvF, rvG, e36, Try.f36]
  rw [for_block l (fun i (_ : Unit) => ⟨3, [(0, .val 0 false [.sl .shr 7 (l.map (VBookObject.c .shr))]), (1, .val 1 false [.sl .shr 7 (l.map (VBookObject.c .shr))]), (5, .val 2 false [.p (.int .i64 i)])]⟩) (fun i _ => True)
      (fun r i a => .norm ⟨0, []⟩) ?_ ?_ (a := ()) trivial (by simp only [rv0, rv1, rvE, rvH, rvS, rvI, eT, eQ, ↓reduceIte, Nat.reduceEqDiff, Nat.reduceAdd, Nat.reduceSub, Nat.reduceMul, Nat.reduceLeDiff, Nat.reduceBEq, decide_true, decide_false, reduceCtorEq, Int.reduceLT, Int.reduceNeg, rvN, Nat.reduceLT, Int.reduceLE, Int.reduceEq, eq_self, List.reduceReplicate, rvF, rvG, e36]; rfl)]
  · simp only [rv0, rv1, rvE, rvH, rvS, rvI, eT, eQ, ↓reduceIte, Nat.reduceEqDiff, Nat.reduceAdd, Nat.reduceSub, Nat.reduceMul, Nat.reduceLeDiff, Nat.reduceBEq, decide_true, decide_false, reduceCtorEq, Int.reduceLT, Int.reduceNeg, rvN, Nat.reduceLT, Int.reduceLE, Int.reduceEq, eq_self, List.reduceReplicate, rvF, rvG, e36]
  · intro i s r a hd hi _
    have hlen := (List.getElem?_eq_some_iff.1 hi).1
    have hlt : ((i : Int) < (l.length : Int)) := by omega
    have hr := getElem?_map_some (f := (VBookObject.c .shr)) hi
    have hwi := wrap64 (n := (i : Int) + 1) (by omega) (by omega)
    have hi0 : (0 : Int) ≤ (i : Int) := by omega
    simp only [VBookObject.c] at hr
    have hm := k_eqBookObject s (by have := wSBookObject_mem (List.mem_of_getElem? hi); unfold wSBookObject at hw; omega)
    simp only [VBookObject.c] at hm
    left
    refine ⟨(), ?_, trivial, rfl⟩
    simp only [rv0, rv1, rvE, rvH, rvS, rvI, eT, eQ, ↓reduceIte, Nat.reduceEqDiff, Nat.reduceAdd, Nat.reduceSub, Nat.reduceMul, Nat.reduceLeDiff, Nat.reduceBEq, decide_true, decide_false, reduceCtorEq, Int.reduceLT, Int.reduceNeg, rvN, Nat.reduceLT, Int.reduceLE, Int.reduceEq, eq_self, List.reduceReplicate, rvF, rvG, e36, e16, hlt, hr, hm, hwi, hi0, i64c, beq_self_eq_true]
  · intro a _
    simp only [rv0, rv1, rvE, rvH, rvS, rvI, eT, eQ, ↓reduceIte, Nat.reduceEqDiff, Nat.reduceAdd, Nat.reduceSub, Nat.reduceMul, Nat.reduceLeDiff, Nat.reduceBEq, decide_true, decide_false, reduceCtorEq, Int.reduceLT, Int.reduceNeg, rvN, Nat.reduceLT, Int.reduceLE, Int.reduceEq, eq_self, List.reduceReplicate, rvF, rvG, e36]
theorem k_eqBookChange (x : VBookChange) (hw : x.w ≤ 4194304) : EV Try.prog E 103 [.val 0 true (VBookChange.c .shr x), .val 0 true (VBookChange.c .shr x)] = some ⟨[(false, [.p (.bool true)])], []⟩ := by
  refine EV_intro Try.func103 rfl ?_
  unfold VBookChange.w at hw
  have h0 := k_eqBookObject x.object (by omega)
  simp only [VBookObject.c] at h0
  simp only [rv0, rv1, rvE, rvH, rvS, rvI, eT, eQ, ↓reduceIte, Nat.reduceEqDiff, Nat.reduceAdd, Nat.reduceSub, Nat.reduceMul, Nat.reduceLeDiff, Nat.reduceBEq, decide_true, decide_false, reduceCtorEq, Int.reduceLT, Int.reduceNeg, rvN, Nat.reduceLT, Int.reduceLE, Int.reduceEq, eq_self, List.reduceReplicate, rvF, rvG, e103, e16, Try.f103, VBookChange.c, h0, beq_self_eq_true]
theorem k_eqBookChangeS (l : List VBookChange) (hw : wSBookChange l ≤ 4194304) : EV Try.prog E 63 [.val 0 false [.sl .shr 9 (l.map (VBookChange.c .shr))], .val 0 false [.sl .shr 9 (l.map (VBookChange.c .shr))]] = some ⟨[(false, [.p (.bool true)])], []⟩ := by
  refine EV_intro Try.func63 rfl ?_
  have hn : l.length ≤ 4194304 := by unfold wSBookChange at hw; omega
  simp only [rv0, rv1, rvE, rvH, rvS, rvI, eT, eQ, ↓reduceIte, Nat.reduceEqDiff, Nat.reduceAdd, Nat.reduceSub, Nat.reduceMul, Nat.reduceLeDiff, Nat.reduceBEq, decide_true, decide_false, reduceCtorEq, Int.reduceLT, Int.reduceNeg, rvN, Nat.reduceLT, Int.reduceLE, Int.reduceEq, eq_self, List.reduceReplicate, rvF, rvG, e63, Try.f63]
  rw [for_block l (fun i (_ : Unit) => ⟨3, [(0, .val 0 false [.sl .shr 9 (l.map (VBookChange.c .shr))]), (1, .val 1 false [.sl .shr 9 (l.map (VBookChange.c .shr))]), (5, .val 2 false [.p (.int .i64 i)])]⟩) (fun i _ => True)
      (fun r i a => .norm ⟨0, []⟩) ?_ ?_ (a := ()) trivial (by simp only [rv0, rv1, rvE, rvH, rvS, rvI, eT, eQ, ↓reduceIte, Nat.reduceEqDiff, Nat.reduceAdd, Nat.reduceSub, Nat.reduceMul, Nat.reduceLeDiff, Nat.reduceBEq, decide_true, decide_false, reduceCtorEq, Int.reduceLT, Int.reduceNeg, rvN, Nat.reduceLT, Int.reduceLE, Int.reduceEq, eq_self, List.reduceReplicate, rvF, rvG, e63]; rfl)]
  · simp only [rv0, rv1, rvE, rvH, rvS, rvI, eT, eQ, ↓reduceIte, Nat.reduceEqDiff, Nat.reduceAdd, Nat.reduceSub, Nat.reduceMul, Nat.reduceLeDiff, Nat.reduceBEq, decide_true, decide_false, reduceCtorEq, Int.reduceLT, Int.reduceNeg, rvN, Nat.reduceLT, Int.reduceLE, Int.reduceEq, eq_self, List.reduceReplicate, rvF, rvG, e63]
  · intro i s r a hd hi _
    have hlen := (List.getElem?_eq_some_iff.1 hi).1
    have hlt : ((i : Int) < (l.length : Int)) := by omega
    have hr := getElem?_map_some (f := (VBookChange.c .shr)) hi
    have hwi := wrap64 (n := (i : Int) + 1) (by omega) (by omega)
    have hi0 : (0 : Int) ≤ (i : Int) := by omega
    simp only [VBookChange.c] at hr
    have hm := k_eqBookChange s (by have := wSBookChange_mem (List.mem_of_getElem? hi); unfold wSBookChange at hw; omega)
    simp only [VBookChange.c] at hm
    left
    refine ⟨(), ?_, trivial, rfl⟩
    simp only [rv0, rv1, rvE, rvH, rvS, rvI, eT, eQ, ↓reduceIte, Nat.reduceEqDiff, Nat.reduceAdd, Nat.reduceSub, Nat.reduceMul, Nat.reduceLeDiff, Nat.reduceBEq, decide_true, decide_false, reduceCtorEq, Int.reduceLT, Int.reduceNeg, rvN, Nat.reduceLT, Int.reduceLE, Int.reduceEq, eq_self, List.reduceReplicate, rvF, rvG, e63, e103, hlt, hr, hm, hwi, hi0, i64c, beq_self_eq_true]
  · intro a _
    simp only [rv0, rv1, rvE, rvH, rvS, rvI, eT, eQ, ↓reduceIte, Nat.reduceEqDiff, Nat.reduceAdd, Nat.reduceSub, Nat.reduceMul, Nat.reduceLeDiff, Nat.reduceBEq, decide_true, decide_false, reduceCtorEq, Int.reduceLT, Int.reduceNeg, rvN, Nat.reduceLT, Int.reduceLE, Int.reduceEq, eq_self, List.reduceReplicate, rvF, rvG, e63]
theorem k_eqBookTicket (x : VBookTicket) (hw : x.w ≤ 4194304) : EV Try.prog E 104 [.val 0 true (VBookTicket.c x), .val 0 true (VBookTicket.c x)] = some ⟨[(false, [.p (.bool true)])], []⟩ := by
  refine EV_intro Try.func104 rfl ?_
  unfold VBookTicket.w at hw
  simp only [rv0, rv1, rvE, rvH, rvS, rvI, eT, eQ, ↓reduceIte, Nat.reduceEqDiff, Nat.reduceAdd, Nat.reduceSub, Nat.reduceMul, Nat.reduceLeDiff, Nat.reduceBEq, decide_true, decide_false, reduceCtorEq, Int.reduceLT, Int.reduceNeg, rvN, Nat.reduceLT, Int.reduceLE, Int.reduceEq, eq_self, List.reduceReplicate, rvF, rvG, e104, Try.f104, VBookTicket.c, beq_self_eq_true]
theorem k_eqBookTicketS (l : List VBookTicket) (hw : wSBookTicket l ≤ 4194304) : EV Try.prog E 64 [.val 0 false [.sl .shr 5 (l.map VBookTicket.c)], .val 0 false [.sl .shr 5 (l.map VBookTicket.c)]] = some ⟨[(false, [.p (.bool true)])], []⟩ := by
  refine EV_intro Try.func64 rfl ?_
  have hn : l.length ≤ 4194304 := by unfold wSBookTicket at hw; omega
  simp only [rv0, rv1, rvE, rvH, rvS, rvI, eT, eQ, ↓reduceIte, Nat.reduceEqDiff, Nat.reduceAdd, Nat.reduceSub, Nat.reduceMul, Nat.reduceLeDiff, Nat.reduceBEq, decide_true, decide_false, reduceCtorEq, Int.reduceLT, Int.reduceNeg, rvN, Nat.reduceLT, Int.reduceLE, Int.reduceEq, eq_self, List.reduceReplicate, rvF, rvG, e64, Try.f64]
  rw [for_block l (fun i (_ : Unit) => ⟨3, [(0, .val 0 false [.sl .shr 5 (l.map VBookTicket.c)]), (1, .val 1 false [.sl .shr 5 (l.map VBookTicket.c)]), (5, .val 2 false [.p (.int .i64 i)])]⟩) (fun i _ => True)
      (fun r i a => .norm ⟨0, []⟩) ?_ ?_ (a := ()) trivial (by simp only [rv0, rv1, rvE, rvH, rvS, rvI, eT, eQ, ↓reduceIte, Nat.reduceEqDiff, Nat.reduceAdd, Nat.reduceSub, Nat.reduceMul, Nat.reduceLeDiff, Nat.reduceBEq, decide_true, decide_false, reduceCtorEq, Int.reduceLT, Int.reduceNeg, rvN, Nat.reduceLT, Int.reduceLE, Int.reduceEq, eq_self, List.reduceReplicate, rvF, rvG, e64]; rfl)]
  · simp only [rv0, rv1, rvE, rvH, rvS, rvI, eT, eQ, ↓reduceIte, Nat.reduceEqDiff, Nat.reduceAdd, Nat.reduceSub, Nat.reduceMul, Nat.reduceLeDiff, Nat.reduceBEq, decide_true, decide_false, reduceCtorEq, Int.reduceLT, Int.reduceNeg, rvN, Nat.reduceLT, Int.reduceLE, Int.reduceEq, eq_self, List.reduceReplicate, rvF, rvG, e64]
  · intro i s r a hd hi _
    have hlen := (List.getElem?_eq_some_iff.1 hi).1
    have hlt : ((i : Int) < (l.length : Int)) := by omega
    have hr := getElem?_map_some (f := VBookTicket.c) hi
    have hwi := wrap64 (n := (i : Int) + 1) (by omega) (by omega)
    have hi0 : (0 : Int) ≤ (i : Int) := by omega
    simp only [VBookTicket.c] at hr
    have hm := k_eqBookTicket s (by have := wSBookTicket_mem (List.mem_of_getElem? hi); unfold wSBookTicket at hw; omega)
    simp only [VBookTicket.c] at hm
    left
    refine ⟨(), ?_, trivial, rfl⟩
    simp only [rv0, rv1, rvE, rvH, rvS, rvI, eT, eQ, ↓reduceIte, Nat.reduceEqDiff, Nat.reduceAdd, Nat.reduceSub, Nat.reduceMul, Nat.reduceLeDiff, Nat.reduceBEq, decide_true, decide_false, reduceCtorEq, Int.reduceLT, Int.reduceNeg, rvN, Nat.reduceLT, Int.reduceLE, Int.reduceEq, eq_self, List.reduceReplicate, rvF, rvG, e64, e104, hlt, hr, hm, hwi, hi0, i64c, beq_self_eq_true]
  · intro a _
    simp only [rv0, rv1, rvE, rvH, rvS, rvI, eT, eQ, ↓reduceIte, Nat.reduceEqDiff, Nat.reduceAdd, Nat.reduceSub, Nat.reduceMul, Nat.reduceLeDiff, Nat.reduceBEq, decide_true, decide_false, reduceCtorEq, Int.reduceLT, Int.reduceNeg, rvN, Nat.reduceLT, Int.reduceLE, Int.reduceEq, eq_self, List.reduceReplicate, rvF, rvG, e64]
theorem k_eqBook (x : VBook) (hw : x.w ≤ 4194304) : EV Try.prog E 17 [.val 0 true (VBook.c .shr x), .val 0 true (VBook.c .shr x)] = some ⟨[(false, [.p (.bool true)])], []⟩ := by
  refine EV_intro Try.func17 rfl ?_
  unfold VBook.w at hw
  have h0 := k_eqBookObjectS x.objects (by omega)
  have h1 := k_eqBookChangeS x.history (by omega)
  have h2 := k_eqBookTicketS x.tickets (by omega)
  simp only [rv0, rv1, rvE, rvH, rvS, rvI, eT, eQ, ↓reduceIte, Nat.reduceEqDiff, Nat.reduceAdd, Nat.reduceSub, Nat.reduceMul, Nat.reduceLeDiff, Nat.reduceBEq, decide_true, decide_false, reduceCtorEq, Int.reduceLT, Int.reduceNeg, rvN, Nat.reduceLT, Int.reduceLE, Int.reduceEq, eq_self, List.reduceReplicate, rvF, rvG, e17, e36, e63, e64, Try.f17, VBook.c, h0, h1, h2, beq_self_eq_true]
end Go.Proofs.Ytdjapblnmkghoaa

