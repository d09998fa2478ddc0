/- Worlds of the log: views, equality, marks (written by a program). -/
import Derived.Test.YtjcbojcnfdlfaaaM4w
namespace Go.Proofs.Ytjcbojcnfdlfaaa
open Go.Sx
set_option maxRecDepth 100000
set_option maxHeartbeats 4000000
set_option linter.unusedVariables false
set_option linter.unusedSimpArgs false
structure VBookWant where
  kind : ByteArray
  name : ByteArray
  version : Int
def VBookWant.c (x : VBookWant) : List C := [.p (.string x.kind), .p (.string x.name), .p (.int .i64 x.version)]
def VBookWant.w (x : VBookWant) : Nat := x.kind.size + x.name.size
def VBookWant.ok (x : VBookWant) : Prop := x.kind.size ≤ maxLen ∧ x.name.size ≤ maxLen ∧ i64ok x.version
theorem rowsBookWant (l : List VBookWant) : borRows (l.map VBookWant.c) = l.map VBookWant.c ∧ mineRows (l.map VBookWant.c) = true ∧ wholeRows (l.map VBookWant.c) = true ∧ allFreeRows (l.map VBookWant.c) = true := flat_rows VBookWant.c (fun _ => rfl) l
def sumWBookWant : List VBookWant → Nat
  | [] => 0
  | x :: r => x.w + sumWBookWant r
def wSBookWant (l : List VBookWant) : Nat := l.length + sumWBookWant l
theorem wSBookWant_mem {l : List VBookWant} {x : VBookWant} (h : x ∈ l) : x.w ≤ sumWBookWant l := by
  induction l with
  | nil => cases h
  | cons y r ih =>
    simp only [sumWBookWant]
    rcases List.mem_cons.1 h with rfl | h
    · omega
    · have := ih h
      omega
structure VBookWrite where
  op : Int
  kind : ByteArray
  name : ByteArray
  seen : Int
  text : ByteArray
  hold : ByteArray
def VBookWrite.c (x : VBookWrite) : List C := [.p (.int .i64 x.op), .p (.string x.kind), .p (.string x.name), .p (.int .i64 x.seen), .p (.string x.text), .p (.string x.hold)]
def VBookWrite.w (x : VBookWrite) : Nat := x.kind.size + x.name.size + x.text.size + x.hold.size
def VBookWrite.ok (x : VBookWrite) : Prop := i64ok x.op ∧ x.kind.size ≤ maxLen ∧ x.name.size ≤ maxLen ∧ i64ok x.seen ∧ x.text.size ≤ maxLen ∧ x.hold.size ≤ maxLen
theorem rowsBookWrite (l : List VBookWrite) : borRows (l.map VBookWrite.c) = l.map VBookWrite.c ∧ mineRows (l.map VBookWrite.c) = true ∧ wholeRows (l.map VBookWrite.c) = true ∧ allFreeRows (l.map VBookWrite.c) = true := flat_rows VBookWrite.c (fun _ => rfl) l
def sumWBookWrite : List VBookWrite → Nat
  | [] => 0
  | x :: r => x.w + sumWBookWrite r
def wSBookWrite (l : List VBookWrite) : Nat := l.length + sumWBookWrite l
theorem wSBookWrite_mem {l : List VBookWrite} {x : VBookWrite} (h : x ∈ l) : x.w ≤ sumWBookWrite l := by
  induction l with
  | nil => cases h
  | cons y r ih =>
    simp only [sumWBookWrite]
    rcases List.mem_cons.1 h with rfl | h
    · omega
    · have := ih h
      omega
structure VBookBundle where
  wants : List VBookWant
  writes : List VBookWrite
def VBookBundle.c (f : Fl) (x : VBookBundle) : List C := [.sl f 3 (x.wants.map VBookWant.c), .sl f 6 (x.writes.map VBookWrite.c)]
def VBookBundle.w (x : VBookBundle) : Nat := wSBookWant x.wants + wSBookWrite x.writes
def VBookBundle.ok (x : VBookBundle) : Prop := (x.wants.length ≤ maxLen ∧ ∀ e ∈ x.wants, e.ok) ∧ (x.writes.length ≤ maxLen ∧ ∀ e ∈ x.writes, e.ok)
theorem rowBookBundle (x : VBookBundle) : borRow (VBookBundle.c .own x) = VBookBundle.c .shr x ∧ mineRow (VBookBundle.c .own x) = true ∧ wholeRow (VBookBundle.c .own x) = true ∧ wholeRow (VBookBundle.c .shr x) = true ∧ allFree (VBookBundle.c .shr x) = true := by
  refine ⟨?_, ?_, ?_, ?_, ?_⟩ <;> simp only [rv0, rv1, rv2, rv3, rv4, rv5, rv6, rv7, rv8, rv9, rv10, rvE, rvH, rvS, eT, ↓reduceIte, Nat.reduceEqDiff, Nat.reduceAdd, Nat.reduceSub, Nat.reduceMul, Nat.reduceLeDiff, Nat.reduceBEq, decide_true, decide_false, reduceCtorEq, Int.reduceLT, Int.reduceNeg, rvN, Nat.reduceLT, Int.reduceLE, Int.reduceEq, eq_self, List.reduceReplicate, rvF, rvG, VBookBundle.c, rowsBookWant, rowsBookWrite, Fl.isShr, Fl.isOwn]
theorem rowsBookBundle (l : List VBookBundle) : borRows (l.map (VBookBundle.c .own)) = l.map (VBookBundle.c .shr) ∧ mineRows (l.map (VBookBundle.c .own)) = true ∧ wholeRows (l.map (VBookBundle.c .own)) = true ∧ wholeRows (l.map (VBookBundle.c .shr)) = true ∧ allFreeRows (l.map (VBookBundle.c .shr)) = true := rows_by (fun x => (rowBookBundle x).1) (fun x => (rowBookBundle x).2.1) (fun x => (rowBookBundle x).2.2.1) (fun x => (rowBookBundle x).2.2.2.1) (fun x => (rowBookBundle x).2.2.2.2) l
structure VBookCall where
  client : ByteArray
  number : Int
  bundle : VBookBundle
def VBookCall.c (f : Fl) (x : VBookCall) : List C := [.p (.string x.client), .p (.int .i64 x.number), .sl f 3 (x.bundle.wants.map VBookWant.c), .sl f 6 (x.bundle.writes.map VBookWrite.c)]
def VBookCall.w (x : VBookCall) : Nat := x.client.size + x.bundle.w
def VBookCall.ok (x : VBookCall) : Prop := x.client.size ≤ maxLen ∧ i64ok x.number ∧ x.bundle.ok
theorem rowBookCall (x : VBookCall) : borRow (VBookCall.c .own x) = VBookCall.c .shr x ∧ mineRow (VBookCall.c .own x) = true ∧ wholeRow (VBookCall.c .own x) = true ∧ wholeRow (VBookCall.c .shr x) = true ∧ allFree (VBookCall.c .shr x) = true := by
  refine ⟨?_, ?_, ?_, ?_, ?_⟩ <;> simp only [rv0, rv1, rv2, rv3, rv4, rv5, rv6, rv7, rv8, rv9, rv10, rvE, rvH, rvS, eT, ↓reduceIte, Nat.reduceEqDiff, Nat.reduceAdd, Nat.reduceSub, Nat.reduceMul, Nat.reduceLeDiff, Nat.reduceBEq, decide_true, decide_false, reduceCtorEq, Int.reduceLT, Int.reduceNeg, rvN, Nat.reduceLT, Int.reduceLE, Int.reduceEq, eq_self, List.reduceReplicate, rvF, rvG, VBookCall.c, rowsBookWant, rowsBookWrite, Fl.isShr, Fl.isOwn]
theorem rowsBookCall (l : List VBookCall) : borRows (l.map (VBookCall.c .own)) = l.map (VBookCall.c .shr) ∧ mineRows (l.map (VBookCall.c .own)) = true ∧ wholeRows (l.map (VBookCall.c .own)) = true ∧ wholeRows (l.map (VBookCall.c .shr)) = true ∧ allFreeRows (l.map (VBookCall.c .shr)) = true := rows_by (fun x => (rowBookCall x).1) (fun x => (rowBookCall x).2.1) (fun x => (rowBookCall x).2.2.1) (fun x => (rowBookCall x).2.2.2.1) (fun x => (rowBookCall x).2.2.2.2) l
structure VBookSaid where
  code : Int
  version : Int
  again : Bool
def VBookSaid.c (x : VBookSaid) : List C := [.p (.int .i64 x.code), .p (.int .i64 x.version), .p (.bool x.again)]
def VBookSaid.w (x : VBookSaid) : Nat := 0
def VBookSaid.ok (x : VBookSaid) : Prop := i64ok x.code ∧ i64ok x.version
theorem rowsBookSaid (l : List VBookSaid) : borRows (l.map VBookSaid.c) = l.map VBookSaid.c ∧ mineRows (l.map VBookSaid.c) = true ∧ wholeRows (l.map VBookSaid.c) = true ∧ allFreeRows (l.map VBookSaid.c) = true := flat_rows VBookSaid.c (fun _ => rfl) l
structure VLogAsked where
  call : VBookCall
  from_ : Int
  to_ : Int
  said : VBookSaid
def VLogAsked.c (f : Fl) (x : VLogAsked) : List C := [.p (.string x.call.client), .p (.int .i64 x.call.number), .sl f 3 (x.call.bundle.wants.map VBookWant.c), .sl f 6 (x.call.bundle.writes.map VBookWrite.c), .p (.int .i64 x.from_), .p (.int .i64 x.to_), .p (.int .i64 x.said.code), .p (.int .i64 x.said.version), .p (.bool x.said.again)]
def VLogAsked.w (x : VLogAsked) : Nat := x.call.w + x.said.w
def VLogAsked.ok (x : VLogAsked) : Prop := x.call.ok ∧ i64ok x.from_ ∧ i64ok x.to_ ∧ x.said.ok
theorem rowLogAsked (x : VLogAsked) : borRow (VLogAsked.c .own x) = VLogAsked.c .shr x ∧ mineRow (VLogAsked.c .own x) = true ∧ wholeRow (VLogAsked.c .own x) = true ∧ wholeRow (VLogAsked.c .shr x) = true ∧ allFree (VLogAsked.c .shr x) = true := by
  refine ⟨?_, ?_, ?_, ?_, ?_⟩ <;> simp only [rv0, rv1, rv2, rv3, rv4, rv5, rv6, rv7, rv8, rv9, rv10, rvE, rvH, rvS, eT, ↓reduceIte, Nat.reduceEqDiff, Nat.reduceAdd, Nat.reduceSub, Nat.reduceMul, Nat.reduceLeDiff, Nat.reduceBEq, decide_true, decide_false, reduceCtorEq, Int.reduceLT, Int.reduceNeg, rvN, Nat.reduceLT, Int.reduceLE, Int.reduceEq, eq_self, List.reduceReplicate, rvF, rvG, VLogAsked.c, rowsBookWant, rowsBookWrite, Fl.isShr, Fl.isOwn]
theorem rowsLogAsked (l : List VLogAsked) : borRows (l.map (VLogAsked.c .own)) = l.map (VLogAsked.c .shr) ∧ mineRows (l.map (VLogAsked.c .own)) = true ∧ wholeRows (l.map (VLogAsked.c .own)) = true ∧ wholeRows (l.map (VLogAsked.c .shr)) = true ∧ allFreeRows (l.map (VLogAsked.c .shr)) = true := rows_by (fun x => (rowLogAsked x).1) (fun x => (rowLogAsked x).2.1) (fun x => (rowLogAsked x).2.2.1) (fun x => (rowLogAsked x).2.2.2.1) (fun x => (rowLogAsked x).2.2.2.2) l
def sumWLogAsked : List VLogAsked → Nat
  | [] => 0
  | x :: r => x.w + sumWLogAsked r
def wSLogAsked (l : List VLogAsked) : Nat := l.length + sumWLogAsked l
theorem wSLogAsked_mem {l : List VLogAsked} {x : VLogAsked} (h : x ∈ l) : x.w ≤ sumWLogAsked l := by
  induction l with
  | nil => cases h
  | cons y r ih =>
    simp only [sumWLogAsked]
    rcases List.mem_cons.1 h with rfl | h
    · omega
    · have := ih h
      omega
structure VLogWorld where
  rec_ : VRecWorld
  now : Int
  asked : List VLogAsked
def VLogWorld.c (f : Fl) (x : VLogWorld) : List C := [.sl f 18 (x.rec_.recorders.map (VRecorder.c f)), .sl f 8 (x.rec_.flight.map (VRecMessage.c f)), .sl f 2 (x.rec_.fixed.map VRecFix.c), .p (.int .i64 x.now), .sl f 9 (x.asked.map (VLogAsked.c f))]
def VLogWorld.w (x : VLogWorld) : Nat := x.rec_.w + wSLogAsked x.asked
def VLogWorld.ok (x : VLogWorld) : Prop := x.rec_.ok ∧ i64ok x.now ∧ (x.asked.length ≤ maxLen ∧ ∀ e ∈ x.asked, e.ok)
theorem rowLogWorld (x : VLogWorld) : borRow (VLogWorld.c .own x) = VLogWorld.c .shr x ∧ mineRow (VLogWorld.c .own x) = true ∧ wholeRow (VLogWorld.c .own x) = true ∧ wholeRow (VLogWorld.c .shr x) = true ∧ allFree (VLogWorld.c .shr x) = true := by
  refine ⟨?_, ?_, ?_, ?_, ?_⟩ <;> simp only [rv0, rv1, rv2, rv3, rv4, rv5, rv6, rv7, rv8, rv9, rv10, rvE, rvH, rvS, eT, ↓reduceIte, Nat.reduceEqDiff, Nat.reduceAdd, Nat.reduceSub, Nat.reduceMul, Nat.reduceLeDiff, Nat.reduceBEq, decide_true, decide_false, reduceCtorEq, Int.reduceLT, Int.reduceNeg, rvN, Nat.reduceLT, Int.reduceLE, Int.reduceEq, eq_self, List.reduceReplicate, rvF, rvG, VLogWorld.c, rowsRecorder, rowsRecMessage, rowsRecFix, rowsLogAsked, Fl.isShr, Fl.isOwn]
theorem rowsLogWorld (l : List VLogWorld) : borRows (l.map (VLogWorld.c .own)) = l.map (VLogWorld.c .shr) ∧ mineRows (l.map (VLogWorld.c .own)) = true ∧ wholeRows (l.map (VLogWorld.c .own)) = true ∧ wholeRows (l.map (VLogWorld.c .shr)) = true ∧ allFreeRows (l.map (VLogWorld.c .shr)) = true := rows_by (fun x => (rowLogWorld x).1) (fun x => (rowLogWorld x).2.1) (fun x => (rowLogWorld x).2.2.1) (fun x => (rowLogWorld x).2.2.2.1) (fun x => (rowLogWorld x).2.2.2.2) l
theorem k_eqBookWant (x : VBookWant) (hw : x.w ≤ 4194304) : EV Try.prog E 183 [.val 0 true (VBookWant.c x), .val 0 true (VBookWant.c x)] = some ⟨[(false, [.p (.bool true)])], []⟩ := by
  refine EV_intro Try.func183 rfl ?_
  unfold VBookWant.w at hw
  simp only [rv0, rv1, rv2, rv3, rv4, rv5, rv6, rv7, rv8, rv9, rv10, rvE, rvH, rvS, eT, ↓reduceIte, Nat.reduceEqDiff, Nat.reduceAdd, Nat.reduceSub, Nat.reduceMul, Nat.reduceLeDiff, Nat.reduceBEq, decide_true, decide_false, reduceCtorEq, Int.reduceLT, Int.reduceNeg, rvN, Nat.reduceLT, Int.reduceLE, Int.reduceEq, eq_self, List.reduceReplicate, rvF, rvG, e183, Try.f183, VBookWant.c, beq_self_eq_true]
theorem k_eqBookWantS (l : List VBookWant) (hw : wSBookWant l ≤ 4194304) : EV Try.prog E 178 [.val 0 false [.sl .shr 3 (l.map VBookWant.c)], .val 0 false [.sl .shr 3 (l.map VBookWant.c)]] = some ⟨[(false, [.p (.bool true)])], []⟩ := by
  refine EV_intro Try.func178 rfl ?_
  have hn : l.length ≤ 4194304 := by unfold wSBookWant at hw; omega
  simp only [rv0, rv1, rv2, rv3, rv4, rv5, rv6, rv7, rv8, rv9, rv10, rvE, rvH, rvS, eT, ↓reduceIte, Nat.reduceEqDiff, Nat.reduceAdd, Nat.reduceSub, Nat.reduceMul, Nat.reduceLeDiff, Nat.reduceBEq, decide_true, decide_false, reduceCtorEq, Int.reduceLT, Int.reduceNeg, rvN, Nat.reduceLT, Int.reduceLE, Int.reduceEq, eq_self, List.reduceReplicate, rvF, rvG, e178, Try.f178]
  rw [for_block l (fun i (_ : Unit) => ⟨3, [(0, .val 0 false [.sl .shr 3 (l.map VBookWant.c)]), (1, .val 1 false [.sl .shr 3 (l.map VBookWant.c)]), (5, .val 2 false [.p (.int .i64 i)])]⟩) (fun i _ => True)
      (fun r i a => .norm ⟨0, []⟩) ?_ ?_ (a := ()) trivial (by simp only [rv0, rv1, rv2, rv3, rv4, rv5, rv6, rv7, rv8, rv9, rv10, rvE, rvH, rvS, eT, ↓reduceIte, Nat.reduceEqDiff, Nat.reduceAdd, Nat.reduceSub, Nat.reduceMul, Nat.reduceLeDiff, Nat.reduceBEq, decide_true, decide_false, reduceCtorEq, Int.reduceLT, Int.reduceNeg, rvN, Nat.reduceLT, Int.reduceLE, Int.reduceEq, eq_self, List.reduceReplicate, rvF, rvG, e178]; rfl)]
  · simp only [rv0, rv1, rv2, rv3, rv4, rv5, rv6, rv7, rv8, rv9, rv10, rvE, rvH, rvS, eT, ↓reduceIte, Nat.reduceEqDiff, Nat.reduceAdd, Nat.reduceSub, Nat.reduceMul, Nat.reduceLeDiff, Nat.reduceBEq, decide_true, decide_false, reduceCtorEq, Int.reduceLT, Int.reduceNeg, rvN, Nat.reduceLT, Int.reduceLE, Int.reduceEq, eq_self, List.reduceReplicate, rvF, rvG, e178]
  · intro i s r a hd hi _
    have hlen := (List.getElem?_eq_some_iff.1 hi).1
    have hlt : ((i : Int) < (l.length : Int)) := by omega
    have hr := getElem?_map_some (f := VBookWant.c) hi
    have hwi := wrap64 (n := (i : Int) + 1) (by omega) (by omega)
    have hi0 : (0 : Int) ≤ (i : Int) := by omega
    simp only [VBookWant.c] at hr
    have hm := k_eqBookWant s (by have := wSBookWant_mem (List.mem_of_getElem? hi); unfold wSBookWant at hw; omega)
    simp only [VBookWant.c] at hm
    left
    refine ⟨(), ?_, trivial, rfl⟩
    simp only [rv0, rv1, rv2, rv3, rv4, rv5, rv6, rv7, rv8, rv9, rv10, rvE, rvH, rvS, eT, ↓reduceIte, Nat.reduceEqDiff, Nat.reduceAdd, Nat.reduceSub, Nat.reduceMul, Nat.reduceLeDiff, Nat.reduceBEq, decide_true, decide_false, reduceCtorEq, Int.reduceLT, Int.reduceNeg, rvN, Nat.reduceLT, Int.reduceLE, Int.reduceEq, eq_self, List.reduceReplicate, rvF, rvG, e178, e183, hlt, hr, hm, hwi, hi0, i64c, beq_self_eq_true]
  · intro a _
    simp only [rv0, rv1, rv2, rv3, rv4, rv5, rv6, rv7, rv8, rv9, rv10, rvE, rvH, rvS, eT, ↓reduceIte, Nat.reduceEqDiff, Nat.reduceAdd, Nat.reduceSub, Nat.reduceMul, Nat.reduceLeDiff, Nat.reduceBEq, decide_true, decide_false, reduceCtorEq, Int.reduceLT, Int.reduceNeg, rvN, Nat.reduceLT, Int.reduceLE, Int.reduceEq, eq_self, List.reduceReplicate, rvF, rvG, e178]
theorem k_eqBookWrite (x : VBookWrite) (hw : x.w ≤ 4194304) : EV Try.prog E 184 [.val 0 true (VBookWrite.c x), .val 0 true (VBookWrite.c x)] = some ⟨[(false, [.p (.bool true)])], []⟩ := by
  refine EV_intro Try.func184 rfl ?_
  unfold VBookWrite.w at hw
  simp only [rv0, rv1, rv2, rv3, rv4, rv5, rv6, rv7, rv8, rv9, rv10, rvE, rvH, rvS, eT, ↓reduceIte, Nat.reduceEqDiff, Nat.reduceAdd, Nat.reduceSub, Nat.reduceMul, Nat.reduceLeDiff, Nat.reduceBEq, decide_true, decide_false, reduceCtorEq, Int.reduceLT, Int.reduceNeg, rvN, Nat.reduceLT, Int.reduceLE, Int.reduceEq, eq_self, List.reduceReplicate, rvF, rvG, e184, Try.f184, VBookWrite.c, beq_self_eq_true]
theorem k_eqBookWriteS (l : List VBookWrite) (hw : wSBookWrite l ≤ 4194304) : EV Try.prog E 179 [.val 0 false [.sl .shr 6 (l.map VBookWrite.c)], .val 0 false [.sl .shr 6 (l.map VBookWrite.c)]] = some ⟨[(false, [.p (.bool true)])], []⟩ := by
  refine EV_intro Try.func179 rfl ?_
  have hn : l.length ≤ 4194304 := by unfold wSBookWrite at hw; omega
  simp only [rv0, rv1, rv2, rv3, rv4, rv5, rv6, rv7, rv8, rv9, rv10, rvE, rvH, rvS, eT, ↓reduceIte, Nat.reduceEqDiff, Nat.reduceAdd, Nat.reduceSub, Nat.reduceMul, Nat.reduceLeDiff, Nat.reduceBEq, decide_true, decide_false, reduceCtorEq, Int.reduceLT, Int.reduceNeg, rvN, Nat.reduceLT, Int.reduceLE, Int.reduceEq, eq_self, List.reduceReplicate, rvF, rvG, e179, Try.f179]
  rw [for_block l (fun i (_ : Unit) => ⟨3, [(0, .val 0 false [.sl .shr 6 (l.map VBookWrite.c)]), (1, .val 1 false [.sl .shr 6 (l.map VBookWrite.c)]), (5, .val 2 false [.p (.int .i64 i)])]⟩) (fun i _ => True)
      (fun r i a => .norm ⟨0, []⟩) ?_ ?_ (a := ()) trivial (by simp only [rv0, rv1, rv2, rv3, rv4, rv5, rv6, rv7, rv8, rv9, rv10, rvE, rvH, rvS, eT, ↓reduceIte, Nat.reduceEqDiff, Nat.reduceAdd, Nat.reduceSub, Nat.reduceMul, Nat.reduceLeDiff, Nat.reduceBEq, decide_true, decide_false, reduceCtorEq, Int.reduceLT, Int.reduceNeg, rvN, Nat.reduceLT, Int.reduceLE, Int.reduceEq, eq_self, List.reduceReplicate, rvF, rvG, e179]; rfl)]
  · simp only [rv0, rv1, rv2, rv3, rv4, rv5, rv6, rv7, rv8, rv9, rv10, rvE, rvH, rvS, eT, ↓reduceIte, Nat.reduceEqDiff, Nat.reduceAdd, Nat.reduceSub, Nat.reduceMul, Nat.reduceLeDiff, Nat.reduceBEq, decide_true, decide_false, reduceCtorEq, Int.reduceLT, Int.reduceNeg, rvN, Nat.reduceLT, Int.reduceLE, Int.reduceEq, eq_self, List.reduceReplicate, rvF, rvG, e179]
  · intro i s r a hd hi _
    have hlen := (List.getElem?_eq_some_iff.1 hi).1
    have hlt : ((i : Int) < (l.length : Int)) := by omega
    have hr := getElem?_map_some (f := VBookWrite.c) hi
    have hwi := wrap64 (n := (i : Int) + 1) (by omega) (by omega)
    have hi0 : (0 : Int) ≤ (i : Int) := by omega
    simp only [VBookWrite.c] at hr
    have hm := k_eqBookWrite s (by have := wSBookWrite_mem (List.mem_of_getElem? hi); unfold wSBookWrite at hw; omega)
    simp only [VBookWrite.c] at hm
    left
    refine ⟨(), ?_, trivial, rfl⟩
    simp only [rv0, rv1, rv2, rv3, rv4, rv5, rv6, rv7, rv8, rv9, rv10, rvE, rvH, rvS, eT, ↓reduceIte, Nat.reduceEqDiff, Nat.reduceAdd, Nat.reduceSub, Nat.reduceMul, Nat.reduceLeDiff, Nat.reduceBEq, decide_true, decide_false, reduceCtorEq, Int.reduceLT, Int.reduceNeg, rvN, Nat.reduceLT, Int.reduceLE, Int.reduceEq, eq_self, List.reduceReplicate, rvF, rvG, e179, e184, hlt, hr, hm, hwi, hi0, i64c, beq_self_eq_true]
  · intro a _
    simp only [rv0, rv1, rv2, rv3, rv4, rv5, rv6, rv7, rv8, rv9, rv10, rvE, rvH, rvS, eT, ↓reduceIte, Nat.reduceEqDiff, Nat.reduceAdd, Nat.reduceSub, Nat.reduceMul, Nat.reduceLeDiff, Nat.reduceBEq, decide_true, decide_false, reduceCtorEq, Int.reduceLT, Int.reduceNeg, rvN, Nat.reduceLT, Int.reduceLE, Int.reduceEq, eq_self, List.reduceReplicate, rvF, rvG, e179]
theorem k_eqBookBundle (x : VBookBundle) (hw : x.w ≤ 4194304) : EV Try.prog E 174 [.val 0 true (VBookBundle.c .shr x), .val 0 true (VBookBundle.c .shr x)] = some ⟨[(false, [.p (.bool true)])], []⟩ := by
  refine EV_intro Try.func174 rfl ?_
  unfold VBookBundle.w at hw
  have h0 := k_eqBookWantS x.wants (by omega)
  have h1 := k_eqBookWriteS x.writes (by omega)
  simp only [rv0, rv1, rv2, rv3, rv4, rv5, rv6, rv7, rv8, rv9, rv10, rvE, rvH, rvS, eT, ↓reduceIte, Nat.reduceEqDiff, Nat.reduceAdd, Nat.reduceSub, Nat.reduceMul, Nat.reduceLeDiff, Nat.reduceBEq, decide_true, decide_false, reduceCtorEq, Int.reduceLT, Int.reduceNeg, rvN, Nat.reduceLT, Int.reduceLE, Int.reduceEq, eq_self, List.reduceReplicate, rvF, rvG, e174, e178, e179, Try.f174, VBookBundle.c, h0, h1, beq_self_eq_true]
theorem k_eqBookCall (x : VBookCall) (hw : x.w ≤ 4194304) : EV Try.prog E 165 [.val 0 true (VBookCall.c .shr x), .val 0 true (VBookCall.c .shr x)] = some ⟨[(false, [.p (.bool true)])], []⟩ := by
  refine EV_intro Try.func165 rfl ?_
  unfold VBookCall.w at hw
  have h0 := k_eqBookBundle x.bundle (by omega)
  simp only [VBookBundle.c] at h0
  simp only [rv0, rv1, rv2, rv3, rv4, rv5, rv6, rv7, rv8, rv9, rv10, rvE, rvH, rvS, eT, ↓reduceIte, Nat.reduceEqDiff, Nat.reduceAdd, Nat.reduceSub, Nat.reduceMul, Nat.reduceLeDiff, Nat.reduceBEq, decide_true, decide_false, reduceCtorEq, Int.reduceLT, Int.reduceNeg, rvN, Nat.reduceLT, Int.reduceLE, Int.reduceEq, eq_self, List.reduceReplicate, rvF, rvG, e165, e174, Try.f165, VBookCall.c, h0, beq_self_eq_true]
theorem k_eqBookSaid (x : VBookSaid) (hw : x.w ≤ 4194304) : EV Try.prog E 166 [.val 0 true (VBookSaid.c x), .val 0 true (VBookSaid.c x)] = some ⟨[(false, [.p (.bool true)])], []⟩ := by
  refine EV_intro Try.func166 rfl ?_
  unfold VBookSaid.w at hw
  simp only [rv0, rv1, rv2, rv3, rv4, rv5, rv6, rv7, rv8, rv9, rv10, rvE, rvH, rvS, eT, ↓reduceIte, Nat.reduceEqDiff, Nat.reduceAdd, Nat.reduceSub, Nat.reduceMul, Nat.reduceLeDiff, Nat.reduceBEq, decide_true, decide_false, reduceCtorEq, Int.reduceLT, Int.reduceNeg, rvN, Nat.reduceLT, Int.reduceLE, Int.reduceEq, eq_self, List.reduceReplicate, rvF, rvG, e166, Try.f166, VBookSaid.c, beq_self_eq_true]
theorem k_eqLogAsked (x : VLogAsked) (hw : x.w ≤ 4194304) : EV Try.prog E 136 [.val 0 true (VLogAsked.c .shr x), .val 0 true (VLogAsked.c .shr x)] = some ⟨[(false, [.p (.bool true)])], []⟩ := by
  refine EV_intro Try.func136 rfl ?_
  unfold VLogAsked.w at hw
  have h0 := k_eqBookCall x.call (by omega)
  simp only [VBookCall.c] at h0
  have h1 := k_eqBookSaid x.said (by omega)
  simp only [VBookSaid.c] at h1
  simp only [rv0, rv1, rv2, rv3, rv4, rv5, rv6, rv7, rv8, rv9, rv10, rvE, rvH, rvS, eT, ↓reduceIte, Nat.reduceEqDiff, Nat.reduceAdd, Nat.reduceSub, Nat.reduceMul, Nat.reduceLeDiff, Nat.reduceBEq, decide_true, decide_false, reduceCtorEq, Int.reduceLT, Int.reduceNeg, rvN, Nat.reduceLT, Int.reduceLE, Int.reduceEq, eq_self, List.reduceReplicate, rvF, rvG, e136, e165, e166, Try.f136, VLogAsked.c, h0, h1, beq_self_eq_true]
theorem k_eqLogAskedS (l : List VLogAsked) (hw : wSLogAsked l ≤ 4194304) : EV Try.prog E 64 [.val 0 false [.sl .shr 9 (l.map (VLogAsked.c .shr))], .val 0 false [.sl .shr 9 (l.map (VLogAsked.c .shr))]] = some ⟨[(false, [.p (.bool true)])], []⟩ := by
  refine EV_intro Try.func64 rfl ?_
  have hn : l.length ≤ 4194304 := by unfold wSLogAsked at hw; omega
  simp only [rv0, rv1, rv2, rv3, rv4, rv5, rv6, rv7, rv8, rv9, rv10, rvE, rvH, rvS, eT, ↓reduceIte, Nat.reduceEqDiff, Nat.reduceAdd, Nat.reduceSub, Nat.reduceMul, Nat.reduceLeDiff, Nat.reduceBEq, decide_true, decide_false, reduceCtorEq, Int.reduceLT, Int.reduceNeg, rvN, Nat.reduceLT, Int.reduceLE, Int.reduceEq, eq_self, List.reduceReplicate, rvF, rvG, e64, Try.f64]
  rw [for_block l (fun i (_ : Unit) => ⟨3, [(0, .val 0 false [.sl .shr 9 (l.map (VLogAsked.c .shr))]), (1, .val 1 false [.sl .shr 9 (l.map (VLogAsked.c .shr))]), (5, .val 2 false [.p (.int .i64 i)])]⟩) (fun i _ => True)
      (fun r i a => .norm ⟨0, []⟩) ?_ ?_ (a := ()) trivial (by simp only [rv0, rv1, rv2, rv3, rv4, rv5, rv6, rv7, rv8, rv9, rv10, rvE, rvH, rvS, eT, ↓reduceIte, Nat.reduceEqDiff, Nat.reduceAdd, Nat.reduceSub, Nat.reduceMul, Nat.reduceLeDiff, Nat.reduceBEq, decide_true, decide_false, reduceCtorEq, Int.reduceLT, Int.reduceNeg, rvN, Nat.reduceLT, Int.reduceLE, Int.reduceEq, eq_self, List.reduceReplicate, rvF, rvG, e64]; rfl)]
  · simp only [rv0, rv1, rv2, rv3, rv4, rv5, rv6, rv7, rv8, rv9, rv10, rvE, rvH, rvS, eT, ↓reduceIte, Nat.reduceEqDiff, Nat.reduceAdd, Nat.reduceSub, Nat.reduceMul, Nat.reduceLeDiff, Nat.reduceBEq, decide_true, decide_false, reduceCtorEq, Int.reduceLT, Int.reduceNeg, rvN, Nat.reduceLT, Int.reduceLE, Int.reduceEq, eq_self, List.reduceReplicate, rvF, rvG, e64]
  · intro i s r a hd hi _
    have hlen := (List.getElem?_eq_some_iff.1 hi).1
    have hlt : ((i : Int) < (l.length : Int)) := by omega
    have hr := getElem?_map_some (f := (VLogAsked.c .shr)) hi
    have hwi := wrap64 (n := (i : Int) + 1) (by omega) (by omega)
    have hi0 : (0 : Int) ≤ (i : Int) := by omega
    simp only [VLogAsked.c] at hr
    have hm := k_eqLogAsked s (by have := wSLogAsked_mem (List.mem_of_getElem? hi); unfold wSLogAsked at hw; omega)
    simp only [VLogAsked.c] at hm
    left
    refine ⟨(), ?_, trivial, rfl⟩
    simp only [rv0, rv1, rv2, rv3, rv4, rv5, rv6, rv7, rv8, rv9, rv10, rvE, rvH, rvS, eT, ↓reduceIte, Nat.reduceEqDiff, Nat.reduceAdd, Nat.reduceSub, Nat.reduceMul, Nat.reduceLeDiff, Nat.reduceBEq, decide_true, decide_false, reduceCtorEq, Int.reduceLT, Int.reduceNeg, rvN, Nat.reduceLT, Int.reduceLE, Int.reduceEq, eq_self, List.reduceReplicate, rvF, rvG, e64, e136, hlt, hr, hm, hwi, hi0, i64c, beq_self_eq_true]
  · intro a _
    simp only [rv0, rv1, rv2, rv3, rv4, rv5, rv6, rv7, rv8, rv9, rv10, rvE, rvH, rvS, eT, ↓reduceIte, Nat.reduceEqDiff, Nat.reduceAdd, Nat.reduceSub, Nat.reduceMul, Nat.reduceLeDiff, Nat.reduceBEq, decide_true, decide_false, reduceCtorEq, Int.reduceLT, Int.reduceNeg, rvN, Nat.reduceLT, Int.reduceLE, Int.reduceEq, eq_self, List.reduceReplicate, rvF, rvG, e64]
theorem k_eqLogWorld (x : VLogWorld) (hw : x.w ≤ 4194304) : EV Try.prog E 15 [.val 0 true (VLogWorld.c .shr x), .val 0 true (VLogWorld.c .shr x)] = some ⟨[(false, [.p (.bool true)])], []⟩ := by
  refine EV_intro Try.func15 rfl ?_
  unfold VLogWorld.w at hw
  have h0 := k_eqRecWorld x.rec_ (by omega)
  simp only [VRecWorld.c] at h0
  have h1 := k_eqLogAskedS x.asked (by omega)
  simp only [rv0, rv1, rv2, rv3, rv4, rv5, rv6, rv7, rv8, rv9, rv10, rvE, rvH, rvS, eT, ↓reduceIte, Nat.reduceEqDiff, Nat.reduceAdd, Nat.reduceSub, Nat.reduceMul, Nat.reduceLeDiff, Nat.reduceBEq, decide_true, decide_false, reduceCtorEq, Int.reduceLT, Int.reduceNeg, rvN, Nat.reduceLT, Int.reduceLE, Int.reduceEq, eq_self, List.reduceReplicate, rvF, rvG, e15, e12, e64, Try.f15, VLogWorld.c, h0, h1, beq_self_eq_true]
def mkBookWant (x : VBookWant) (k : Int) : VBookWant := ⟨mtx (k), mtx (k + 1), k + 1 + 1⟩
def mcBookWant (x : VBookWant) : Nat := 1 + 1 + 1
def mkBookWrite (x : VBookWrite) (k : Int) : VBookWrite := ⟨k, mtx (k + 1), mtx (k + 1 + 1), k + 1 + 1 + 1, mtx (k + 1 + 1 + 1 + 1), mtx (k + 1 + 1 + 1 + 1 + 1)⟩
def mcBookWrite (x : VBookWrite) : Nat := 1 + 1 + 1 + 1 + 1 + 1
def mkLogAsked (x : VLogAsked) (k : Int) : VLogAsked := ⟨⟨mtx (k), k + 1, ⟨mkL mkBookWant mcBookWant x.call.bundle.wants (k + 1 + 1), mkL mkBookWrite mcBookWrite x.call.bundle.writes (k + 1 + 1 + (mcL mcBookWant x.call.bundle.wants : Nat))⟩⟩, k + 1 + 1 + (mcL mcBookWant x.call.bundle.wants : Nat) + (mcL mcBookWrite x.call.bundle.writes : Nat), k + 1 + 1 + (mcL mcBookWant x.call.bundle.wants : Nat) + (mcL mcBookWrite x.call.bundle.writes : Nat) + 1, ⟨k + 1 + 1 + (mcL mcBookWant x.call.bundle.wants : Nat) + (mcL mcBookWrite x.call.bundle.writes : Nat) + 1 + 1, k + 1 + 1 + (mcL mcBookWant x.call.bundle.wants : Nat) + (mcL mcBookWrite x.call.bundle.writes : Nat) + 1 + 1 + 1, decide ((k + 1 + 1 + (mcL mcBookWant x.call.bundle.wants : Nat) + (mcL mcBookWrite x.call.bundle.writes : Nat) + 1 + 1 + 1 + 1).tmod 3 = 0)⟩⟩
def mcLogAsked (x : VLogAsked) : Nat := 1 + 1 + mcL mcBookWant x.call.bundle.wants + mcL mcBookWrite x.call.bundle.writes + 1 + 1 + 1 + 1 + 1
def moLogWorld (x : VLogWorld) (k : Int) : VLogWorld := ⟨moRecWorld x.rec_ (k), x.now, mkL mkLogAsked mcLogAsked x.asked (k + (ocRecWorld x.rec_ : Nat))⟩
def ocLogWorld (x : VLogWorld) : Nat := ocRecWorld x.rec_ + mcL mcLogAsked x.asked
theorem k_markBookWantS (l : List VBookWant) (k : Int) (h0 : 0 ≤ k) (hb : k + (mcL mcBookWant l : Nat) ≤ 4611686018427387904) : EV Try.prog E 140 [.val 0 false [.sl .own 3 (l.map VBookWant.c)], .val 0 false [.p (.int .i64 k)]] = some ⟨[(false, [.p (.int .i64 (k + (mcL mcBookWant l : Nat)))])], [[.sl .own 3 ((mkL mkBookWant mcBookWant l k).map VBookWant.c)]]⟩ := by
  have hlc := len_mcL mcBookWant (fun x => by unfold mcBookWant; omega) l
  refine EV_intro Try.func140 rfl ?_
  simp only [rv0, rv1, rv2, rv3, rv4, rv5, rv6, rv7, rv8, rv9, rv10, rvE, rvH, rvS, eT, ↓reduceIte, Nat.reduceEqDiff, Nat.reduceAdd, Nat.reduceSub, Nat.reduceMul, Nat.reduceLeDiff, Nat.reduceBEq, decide_true, decide_false, reduceCtorEq, Int.reduceLT, Int.reduceNeg, rvN, Nat.reduceLT, Int.reduceLE, Int.reduceEq, eq_self, List.reduceReplicate, rvF, rvG, e140, Try.f140]
  rw [for_block l (fun i (a : Int) => ⟨3, [(0, .val 0 false [.sl .own 3 ((mkTo mkBookWant mcBookWant i l k).map VBookWant.c)]), (1, .val 1 false [.p (.int .i64 a)]), (5, .val 2 false [.p (.int .i64 i)])]⟩) (fun i a => a = kAt mcBookWant l k i)
      (fun r i a => .norm ⟨2, [(0, .val 0 false [.sl .own 3 ((mkL mkBookWant mcBookWant l k).map VBookWant.c)]), (1, .val 1 false [.p (.int .i64 (k + (mcL mcBookWant l : Nat)))])]⟩) ?_ ?_ (a := k) (kAt_zero mcBookWant l k).symm (by simp only [rv0, rv1, rv2, rv3, rv4, rv5, rv6, rv7, rv8, rv9, rv10, rvE, rvH, rvS, eT, ↓reduceIte, Nat.reduceEqDiff, Nat.reduceAdd, Nat.reduceSub, Nat.reduceMul, Nat.reduceLeDiff, Nat.reduceBEq, decide_true, decide_false, reduceCtorEq, Int.reduceLT, Int.reduceNeg, rvN, Nat.reduceLT, Int.reduceLE, Int.reduceEq, eq_self, List.reduceReplicate, rvF, rvG, e140, mkTo_zero]; rfl)]
  · simp only [rv0, rv1, rv2, rv3, rv4, rv5, rv6, rv7, rv8, rv9, rv10, rvE, rvH, rvS, eT, ↓reduceIte, Nat.reduceEqDiff, Nat.reduceAdd, Nat.reduceSub, Nat.reduceMul, Nat.reduceLeDiff, Nat.reduceBEq, decide_true, decide_false, reduceCtorEq, Int.reduceLT, Int.reduceNeg, rvN, Nat.reduceLT, Int.reduceLE, Int.reduceEq, eq_self, List.reduceReplicate, rvF, rvG, e140]
  · rintro i s r a hd hi rfl
    have hlen := (List.getElem?_eq_some_iff.1 hi).1
    have hlt : ((i : Int) < (l.length : Int)) := by omega
    have hsu := kAt_succ mcBookWant hi k
    have hge := kAt_ge mcBookWant l k i
    have hle := kAt_le mcBookWant hi k
    have hwi := wrap64 (n := (i : Int) + 1) (by omega) (by omega)
    have hi0 : (0 : Int) ≤ (i : Int) := by omega
    have hr := getElem?_map_some (f := VBookWant.c) (mkTo_get mkBookWant mcBookWant hi k)
    have hst := mkTo_set mkBookWant mcBookWant hi k
    have hlm := mkTo_length mkBookWant mcBookWant i l k
    have hgs : ∀ z : List C, (((mkTo mkBookWant mcBookWant i l k).map VBookWant.c).set i z)[i]? = some z := fun z => List.getElem?_set_self (by rw [List.length_map, hlm]; exact hlen)
    generalize kAt mcBookWant l k i = a at *
    simp only [mcBookWant] at hsu hle
    simp only [VBookWant.c, mkBookWant] at hr
    have hm0 := k_markText (a) (by omega) (by omega)
    have hw0 := wrap64 (n := a + 1) (by omega) (by omega)
    have hm1 := k_markText (a + 1) (by omega) (by omega)
    have hw1 := wrap64 (n := a + 1 + 1) (by omega) (by omega)
    have hw2 := wrap64 (n := a + 1 + 1 + 1) (by omega) (by omega)
    left
    refine ⟨a + 1 + 1 + 1, ?_, by rw [hsu]; omega, rfl⟩
    rw [← hst]
    simp only [rv0, rv1, rv2, rv3, rv4, rv5, rv6, rv7, rv8, rv9, rv10, rvE, rvH, rvS, eT, ↓reduceIte, Nat.reduceEqDiff, Nat.reduceAdd, Nat.reduceSub, Nat.reduceMul, Nat.reduceLeDiff, Nat.reduceBEq, decide_true, decide_false, reduceCtorEq, Int.reduceLT, Int.reduceNeg, rvN, Nat.reduceLT, Int.reduceLE, Int.reduceEq, eq_self, List.reduceReplicate, rvF, rvG, e140, e139, hlt, hr, hwi, hi0, hlm, hlen, i64c, List.map_set, List.set_set, List.length_set, hgs, VBookWant.c, mkBookWant, hm0, hw0, hm1, hw1, hw2]
  · rintro a rfl
    simp only [rv0, rv1, rv2, rv3, rv4, rv5, rv6, rv7, rv8, rv9, rv10, rvE, rvH, rvS, eT, ↓reduceIte, Nat.reduceEqDiff, Nat.reduceAdd, Nat.reduceSub, Nat.reduceMul, Nat.reduceLeDiff, Nat.reduceBEq, decide_true, decide_false, reduceCtorEq, Int.reduceLT, Int.reduceNeg, rvN, Nat.reduceLT, Int.reduceLE, Int.reduceEq, eq_self, List.reduceReplicate, rvF, rvG, e140, kAt_all, mkTo_all, mkL_length]
theorem k_markBookWriteS (l : List VBookWrite) (k : Int) (h0 : 0 ≤ k) (hb : k + (mcL mcBookWrite l : Nat) ≤ 4611686018427387904) : EV Try.prog E 141 [.val 0 false [.sl .own 6 (l.map VBookWrite.c)], .val 0 false [.p (.int .i64 k)]] = some ⟨[(false, [.p (.int .i64 (k + (mcL mcBookWrite l : Nat)))])], [[.sl .own 6 ((mkL mkBookWrite mcBookWrite l k).map VBookWrite.c)]]⟩ := by
  have hlc := len_mcL mcBookWrite (fun x => by unfold mcBookWrite; omega) l
  refine EV_intro Try.func141 rfl ?_
  simp only [rv0, rv1, rv2, rv3, rv4, rv5, rv6, rv7, rv8, rv9, rv10, rvE, rvH, rvS, eT, ↓reduceIte, Nat.reduceEqDiff, Nat.reduceAdd, Nat.reduceSub, Nat.reduceMul, Nat.reduceLeDiff, Nat.reduceBEq, decide_true, decide_false, reduceCtorEq, Int.reduceLT, Int.reduceNeg, rvN, Nat.reduceLT, Int.reduceLE, Int.reduceEq, eq_self, List.reduceReplicate, rvF, rvG, e141, Try.f141]
  rw [for_block l (fun i (a : Int) => ⟨3, [(0, .val 0 false [.sl .own 6 ((mkTo mkBookWrite mcBookWrite i l k).map VBookWrite.c)]), (1, .val 1 false [.p (.int .i64 a)]), (5, .val 2 false [.p (.int .i64 i)])]⟩) (fun i a => a = kAt mcBookWrite l k i)
      (fun r i a => .norm ⟨2, [(0, .val 0 false [.sl .own 6 ((mkL mkBookWrite mcBookWrite l k).map VBookWrite.c)]), (1, .val 1 false [.p (.int .i64 (k + (mcL mcBookWrite l : Nat)))])]⟩) ?_ ?_ (a := k) (kAt_zero mcBookWrite l k).symm (by simp only [rv0, rv1, rv2, rv3, rv4, rv5, rv6, rv7, rv8, rv9, rv10, rvE, rvH, rvS, eT, ↓reduceIte, Nat.reduceEqDiff, Nat.reduceAdd, Nat.reduceSub, Nat.reduceMul, Nat.reduceLeDiff, Nat.reduceBEq, decide_true, decide_false, reduceCtorEq, Int.reduceLT, Int.reduceNeg, rvN, Nat.reduceLT, Int.reduceLE, Int.reduceEq, eq_self, List.reduceReplicate, rvF, rvG, e141, mkTo_zero]; rfl)]
  · simp only [rv0, rv1, rv2, rv3, rv4, rv5, rv6, rv7, rv8, rv9, rv10, rvE, rvH, rvS, eT, ↓reduceIte, Nat.reduceEqDiff, Nat.reduceAdd, Nat.reduceSub, Nat.reduceMul, Nat.reduceLeDiff, Nat.reduceBEq, decide_true, decide_false, reduceCtorEq, Int.reduceLT, Int.reduceNeg, rvN, Nat.reduceLT, Int.reduceLE, Int.reduceEq, eq_self, List.reduceReplicate, rvF, rvG, e141]
  · rintro i s r a hd hi rfl
    have hlen := (List.getElem?_eq_some_iff.1 hi).1
    have hlt : ((i : Int) < (l.length : Int)) := by omega
    have hsu := kAt_succ mcBookWrite hi k
    have hge := kAt_ge mcBookWrite l k i
    have hle := kAt_le mcBookWrite hi k
    have hwi := wrap64 (n := (i : Int) + 1) (by omega) (by omega)
    have hi0 : (0 : Int) ≤ (i : Int) := by omega
    have hr := getElem?_map_some (f := VBookWrite.c) (mkTo_get mkBookWrite mcBookWrite hi k)
    have hst := mkTo_set mkBookWrite mcBookWrite hi k
    have hlm := mkTo_length mkBookWrite mcBookWrite i l k
    have hgs : ∀ z : List C, (((mkTo mkBookWrite mcBookWrite i l k).map VBookWrite.c).set i z)[i]? = some z := fun z => List.getElem?_set_self (by rw [List.length_map, hlm]; exact hlen)
    generalize kAt mcBookWrite l k i = a at *
    simp only [mcBookWrite] at hsu hle
    simp only [VBookWrite.c, mkBookWrite] at hr
    have hw0 := wrap64 (n := a + 1) (by omega) (by omega)
    have hm1 := k_markText (a + 1) (by omega) (by omega)
    have hw1 := wrap64 (n := a + 1 + 1) (by omega) (by omega)
    have hm2 := k_markText (a + 1 + 1) (by omega) (by omega)
    have hw2 := wrap64 (n := a + 1 + 1 + 1) (by omega) (by omega)
    have hw3 := wrap64 (n := a + 1 + 1 + 1 + 1) (by omega) (by omega)
    have hm4 := k_markText (a + 1 + 1 + 1 + 1) (by omega) (by omega)
    have hw4 := wrap64 (n := a + 1 + 1 + 1 + 1 + 1) (by omega) (by omega)
    have hm5 := k_markText (a + 1 + 1 + 1 + 1 + 1) (by omega) (by omega)
    have hw5 := wrap64 (n := a + 1 + 1 + 1 + 1 + 1 + 1) (by omega) (by omega)
    left
    refine ⟨a + 1 + 1 + 1 + 1 + 1 + 1, ?_, by rw [hsu]; omega, rfl⟩
    rw [← hst]
    simp only [rv0, rv1, rv2, rv3, rv4, rv5, rv6, rv7, rv8, rv9, rv10, rvE, rvH, rvS, eT, ↓reduceIte, Nat.reduceEqDiff, Nat.reduceAdd, Nat.reduceSub, Nat.reduceMul, Nat.reduceLeDiff, Nat.reduceBEq, decide_true, decide_false, reduceCtorEq, Int.reduceLT, Int.reduceNeg, rvN, Nat.reduceLT, Int.reduceLE, Int.reduceEq, eq_self, List.reduceReplicate, rvF, rvG, e141, e139, hlt, hr, hwi, hi0, hlm, hlen, i64c, List.map_set, List.set_set, List.length_set, hgs, VBookWrite.c, mkBookWrite, hw0, hm1, hw1, hm2, hw2, hw3, hm4, hw4, hm5, hw5]
  · rintro a rfl
    simp only [rv0, rv1, rv2, rv3, rv4, rv5, rv6, rv7, rv8, rv9, rv10, rvE, rvH, rvS, eT, ↓reduceIte, Nat.reduceEqDiff, Nat.reduceAdd, Nat.reduceSub, Nat.reduceMul, Nat.reduceLeDiff, Nat.reduceBEq, decide_true, decide_false, reduceCtorEq, Int.reduceLT, Int.reduceNeg, rvN, Nat.reduceLT, Int.reduceLE, Int.reduceEq, eq_self, List.reduceReplicate, rvF, rvG, e141, kAt_all, mkTo_all, mkL_length]
theorem k_markLogAskedS (l : List VLogAsked) (k : Int) (h0 : 0 ≤ k) (hb : k + (mcL mcLogAsked l : Nat) ≤ 4611686018427387904) : EV Try.prog E 66 [.val 0 false [.sl .own 9 (l.map (VLogAsked.c .own))], .val 0 false [.p (.int .i64 k)]] = some ⟨[(false, [.p (.int .i64 (k + (mcL mcLogAsked l : Nat)))])], [[.sl .own 9 ((mkL mkLogAsked mcLogAsked l k).map (VLogAsked.c .own))]]⟩ := by
  have hlc := len_mcL mcLogAsked (fun x => by unfold mcLogAsked; omega) l
  refine EV_intro Try.func66 rfl ?_
  simp only [rv0, rv1, rv2, rv3, rv4, rv5, rv6, rv7, rv8, rv9, rv10, rvE, rvH, rvS, eT, ↓reduceIte, Nat.reduceEqDiff, Nat.reduceAdd, Nat.reduceSub, Nat.reduceMul, Nat.reduceLeDiff, Nat.reduceBEq, decide_true, decide_false, reduceCtorEq, Int.reduceLT, Int.reduceNeg, rvN, Nat.reduceLT, Int.reduceLE, Int.reduceEq, eq_self, List.reduceReplicate, rvF, rvG, e66, Try.f66]
  rw [for_block l (fun i (a : Int) => ⟨3, [(0, .val 0 false [.sl .own 9 ((mkTo mkLogAsked mcLogAsked i l k).map (VLogAsked.c .own))]), (1, .val 1 false [.p (.int .i64 a)]), (5, .val 2 false [.p (.int .i64 i)])]⟩) (fun i a => a = kAt mcLogAsked l k i)
      (fun r i a => .norm ⟨2, [(0, .val 0 false [.sl .own 9 ((mkL mkLogAsked mcLogAsked l k).map (VLogAsked.c .own))]), (1, .val 1 false [.p (.int .i64 (k + (mcL mcLogAsked l : Nat)))])]⟩) ?_ ?_ (a := k) (kAt_zero mcLogAsked l k).symm (by simp only [rv0, rv1, rv2, rv3, rv4, rv5, rv6, rv7, rv8, rv9, rv10, rvE, rvH, rvS, eT, ↓reduceIte, Nat.reduceEqDiff, Nat.reduceAdd, Nat.reduceSub, Nat.reduceMul, Nat.reduceLeDiff, Nat.reduceBEq, decide_true, decide_false, reduceCtorEq, Int.reduceLT, Int.reduceNeg, rvN, Nat.reduceLT, Int.reduceLE, Int.reduceEq, eq_self, List.reduceReplicate, rvF, rvG, e66, mkTo_zero]; rfl)]
  · simp only [rv0, rv1, rv2, rv3, rv4, rv5, rv6, rv7, rv8, rv9, rv10, rvE, rvH, rvS, eT, ↓reduceIte, Nat.reduceEqDiff, Nat.reduceAdd, Nat.reduceSub, Nat.reduceMul, Nat.reduceLeDiff, Nat.reduceBEq, decide_true, decide_false, reduceCtorEq, Int.reduceLT, Int.reduceNeg, rvN, Nat.reduceLT, Int.reduceLE, Int.reduceEq, eq_self, List.reduceReplicate, rvF, rvG, e66]
  · rintro i s r a hd hi rfl
    have hlen := (List.getElem?_eq_some_iff.1 hi).1
    have hlt : ((i : Int) < (l.length : Int)) := by omega
    have hsu := kAt_succ mcLogAsked hi k
    have hge := kAt_ge mcLogAsked l k i
    have hle := kAt_le mcLogAsked hi k
    have hwi := wrap64 (n := (i : Int) + 1) (by omega) (by omega)
    have hi0 : (0 : Int) ≤ (i : Int) := by omega
    have hr := getElem?_map_some (f := (VLogAsked.c .own)) (mkTo_get mkLogAsked mcLogAsked hi k)
    have hst := mkTo_set mkLogAsked mcLogAsked hi k
    have hlm := mkTo_length mkLogAsked mcLogAsked i l k
    have hgs : ∀ z : List C, (((mkTo mkLogAsked mcLogAsked i l k).map (VLogAsked.c .own)).set i z)[i]? = some z := fun z => List.getElem?_set_self (by rw [List.length_map, hlm]; exact hlen)
    generalize kAt mcLogAsked l k i = a at *
    simp only [mcLogAsked] at hsu hle
    simp only [VLogAsked.c, mkLogAsked] at hr
    have hm0 := k_markText (a) (by omega) (by omega)
    have hw0 := wrap64 (n := a + 1) (by omega) (by omega)
    have hw1 := wrap64 (n := a + 1 + 1) (by omega) (by omega)
    have hm2 := k_markBookWantS s.call.bundle.wants (a + 1 + 1) (by omega) (by omega)
    have hm3 := k_markBookWriteS s.call.bundle.writes (a + 1 + 1 + (mcL mcBookWant s.call.bundle.wants : Nat)) (by omega) (by omega)
    have hw4 := wrap64 (n := a + 1 + 1 + (mcL mcBookWant s.call.bundle.wants : Nat) + (mcL mcBookWrite s.call.bundle.writes : Nat) + 1) (by omega) (by omega)
    have hw5 := wrap64 (n := a + 1 + 1 + (mcL mcBookWant s.call.bundle.wants : Nat) + (mcL mcBookWrite s.call.bundle.writes : Nat) + 1 + 1) (by omega) (by omega)
    have hw6 := wrap64 (n := a + 1 + 1 + (mcL mcBookWant s.call.bundle.wants : Nat) + (mcL mcBookWrite s.call.bundle.writes : Nat) + 1 + 1 + 1) (by omega) (by omega)
    have hw7 := wrap64 (n := a + 1 + 1 + (mcL mcBookWant s.call.bundle.wants : Nat) + (mcL mcBookWrite s.call.bundle.writes : Nat) + 1 + 1 + 1 + 1) (by omega) (by omega)
    have hw8 := wrap64 (n := a + 1 + 1 + (mcL mcBookWant s.call.bundle.wants : Nat) + (mcL mcBookWrite s.call.bundle.writes : Nat) + 1 + 1 + 1 + 1 + 1) (by omega) (by omega)
    left
    refine ⟨a + 1 + 1 + (mcL mcBookWant s.call.bundle.wants : Nat) + (mcL mcBookWrite s.call.bundle.writes : Nat) + 1 + 1 + 1 + 1 + 1, ?_, by rw [hsu]; omega, rfl⟩
    rw [← hst]
    simp only [rv0, rv1, rv2, rv3, rv4, rv5, rv6, rv7, rv8, rv9, rv10, rvE, rvH, rvS, eT, ↓reduceIte, Nat.reduceEqDiff, Nat.reduceAdd, Nat.reduceSub, Nat.reduceMul, Nat.reduceLeDiff, Nat.reduceBEq, decide_true, decide_false, reduceCtorEq, Int.reduceLT, Int.reduceNeg, rvN, Nat.reduceLT, Int.reduceLE, Int.reduceEq, eq_self, List.reduceReplicate, rvF, rvG, e66, e139, e140, e141, hlt, hr, hwi, hi0, hlm, hlen, i64c, List.map_set, List.set_set, List.length_set, hgs, VLogAsked.c, mkLogAsked, hm0, hw0, hw1, hm2, hm3, hw4, hw5, hw6, hw7, hw8, rowsBookWant, rowsBookWrite]
  · rintro a rfl
    simp only [rv0, rv1, rv2, rv3, rv4, rv5, rv6, rv7, rv8, rv9, rv10, rvE, rvH, rvS, eT, ↓reduceIte, Nat.reduceEqDiff, Nat.reduceAdd, Nat.reduceSub, Nat.reduceMul, Nat.reduceLeDiff, Nat.reduceBEq, decide_true, decide_false, reduceCtorEq, Int.reduceLT, Int.reduceNeg, rvN, Nat.reduceLT, Int.reduceLE, Int.reduceEq, eq_self, List.reduceReplicate, rvF, rvG, e66, kAt_all, mkTo_all, mkL_length]
theorem k_markLogWorld (x : VLogWorld) (k : Int) (h0 : 0 ≤ k) (hb : k + (ocLogWorld x : Nat) ≤ 4611686018427387904) : EV Try.prog E 16 [.val 0 true (VLogWorld.c .own x), .val 0 false [.p (.int .i64 k)]] = some ⟨[(false, [.p (.int .i64 (k + (ocLogWorld x : Nat)))])], [VLogWorld.c .own (moLogWorld x k)]⟩ := by
  refine EV_intro Try.func16 rfl ?_
  unfold ocLogWorld at hb ⊢
  have hm0 := k_markRecWorld x.rec_ (k) (by omega) (by omega)
  simp only [VRecWorld.c, moRecWorld] at hm0
  have hm1 := k_markLogAskedS x.asked (k + (ocRecWorld x.rec_ : Nat)) (by omega) (by omega)
  have he : k + ((ocRecWorld x.rec_ + mcL mcLogAsked x.asked : Nat) : Int) = k + (ocRecWorld x.rec_ : Nat) + (mcL mcLogAsked x.asked : Nat) := by omega
  rw [he]
  simp only [rv0, rv1, rv2, rv3, rv4, rv5, rv6, rv7, rv8, rv9, rv10, rvE, rvH, rvS, eT, ↓reduceIte, Nat.reduceEqDiff, Nat.reduceAdd, Nat.reduceSub, Nat.reduceMul, Nat.reduceLeDiff, Nat.reduceBEq, decide_true, decide_false, reduceCtorEq, Int.reduceLT, Int.reduceNeg, rvN, Nat.reduceLT, Int.reduceLE, Int.reduceEq, eq_self, List.reduceReplicate, rvF, rvG, e16, e65, e66, Try.f16, VLogWorld.c, moLogWorld, moRecWorld, hm0, hm1, rowsRecorder, rowsRecMessage, rowsRecFix, rowsLogAsked]
theorem k_heldBookWantS (l : List VBookWant) (k : Int) (h0 : 0 ≤ k) (hb : k + (mcL mcBookWant l : Nat) ≤ 4611686018427387904) : EV Try.prog E 144 [.val 0 false [.sl .shr 3 ((mkL mkBookWant mcBookWant l k).map VBookWant.c)], .val 0 false [.p (.int .i64 k)]] = some ⟨[(false, [.p (.int .i64 (k + (mcL mcBookWant l : Nat)))])], []⟩ := by
  have hlc := len_mcL mcBookWant (fun x => by unfold mcBookWant; omega) l
  refine EV_intro Try.func144 rfl ?_
  simp only [rv0, rv1, rv2, rv3, rv4, rv5, rv6, rv7, rv8, rv9, rv10, rvE, rvH, rvS, eT, ↓reduceIte, Nat.reduceEqDiff, Nat.reduceAdd, Nat.reduceSub, Nat.reduceMul, Nat.reduceLeDiff, Nat.reduceBEq, decide_true, decide_false, reduceCtorEq, Int.reduceLT, Int.reduceNeg, rvN, Nat.reduceLT, Int.reduceLE, Int.reduceEq, eq_self, List.reduceReplicate, rvF, rvG, e144, Try.f144]
  rw [for_block l (fun i (a : Int) => ⟨3, [(0, .val 0 false [.sl .shr 3 ((mkL mkBookWant mcBookWant l k).map VBookWant.c)]), (1, .val 1 false [.p (.int .i64 a)]), (5, .val 2 false [.p (.int .i64 i)])]⟩) (fun i a => a = kAt mcBookWant l k i)
      (fun r i a => .norm ⟨1, [(1, .val 0 false [.p (.int .i64 (k + (mcL mcBookWant l : Nat)))])]⟩) ?_ ?_ (a := k) (kAt_zero mcBookWant l k).symm (by simp only [rv0, rv1, rv2, rv3, rv4, rv5, rv6, rv7, rv8, rv9, rv10, rvE, rvH, rvS, eT, ↓reduceIte, Nat.reduceEqDiff, Nat.reduceAdd, Nat.reduceSub, Nat.reduceMul, Nat.reduceLeDiff, Nat.reduceBEq, decide_true, decide_false, reduceCtorEq, Int.reduceLT, Int.reduceNeg, rvN, Nat.reduceLT, Int.reduceLE, Int.reduceEq, eq_self, List.reduceReplicate, rvF, rvG, e144]; rfl)]
  · simp only [rv0, rv1, rv2, rv3, rv4, rv5, rv6, rv7, rv8, rv9, rv10, rvE, rvH, rvS, eT, ↓reduceIte, Nat.reduceEqDiff, Nat.reduceAdd, Nat.reduceSub, Nat.reduceMul, Nat.reduceLeDiff, Nat.reduceBEq, decide_true, decide_false, reduceCtorEq, Int.reduceLT, Int.reduceNeg, rvN, Nat.reduceLT, Int.reduceLE, Int.reduceEq, eq_self, List.reduceReplicate, rvF, rvG, e144]
  · rintro i s r a hd hi rfl
    have hlen := (List.getElem?_eq_some_iff.1 hi).1
    have hlt : ((i : Int) < (l.length : Int)) := by omega
    have hsu := kAt_succ mcBookWant hi k
    have hge := kAt_ge mcBookWant l k i
    have hle := kAt_le mcBookWant hi k
    have hwi := wrap64 (n := (i : Int) + 1) (by omega) (by omega)
    have hi0 : (0 : Int) ≤ (i : Int) := by omega
    have hr := getElem?_map_some (f := VBookWant.c) (mkL_get mkBookWant mcBookWant hi k)
    have hlm := mkL_length mkBookWant mcBookWant l k
    generalize kAt mcBookWant l k i = a at *
    simp only [mcBookWant] at hsu hle
    simp only [VBookWant.c, mkBookWant] at hr
    have hm0 := k_markText (a) (by omega) (by omega)
    have hw0 := wrap64 (n := a + 1) (by omega) (by omega)
    have hm1 := k_markText (a + 1) (by omega) (by omega)
    have hw1 := wrap64 (n := a + 1 + 1) (by omega) (by omega)
    have hw2 := wrap64 (n := a + 1 + 1 + 1) (by omega) (by omega)
    left
    refine ⟨a + 1 + 1 + 1, ?_, by rw [hsu]; omega, rfl⟩
    simp only [rv0, rv1, rv2, rv3, rv4, rv5, rv6, rv7, rv8, rv9, rv10, rvE, rvH, rvS, eT, ↓reduceIte, Nat.reduceEqDiff, Nat.reduceAdd, Nat.reduceSub, Nat.reduceMul, Nat.reduceLeDiff, Nat.reduceBEq, decide_true, decide_false, reduceCtorEq, Int.reduceLT, Int.reduceNeg, rvN, Nat.reduceLT, Int.reduceLE, Int.reduceEq, eq_self, List.reduceReplicate, rvF, rvG, e144, e139, hlt, hr, hwi, hi0, hlm, hlen, i64c, hm0, hw0, hm1, hw1, hw2, beq_self_eq_true]
  · rintro a rfl
    simp only [rv0, rv1, rv2, rv3, rv4, rv5, rv6, rv7, rv8, rv9, rv10, rvE, rvH, rvS, eT, ↓reduceIte, Nat.reduceEqDiff, Nat.reduceAdd, Nat.reduceSub, Nat.reduceMul, Nat.reduceLeDiff, Nat.reduceBEq, decide_true, decide_false, reduceCtorEq, Int.reduceLT, Int.reduceNeg, rvN, Nat.reduceLT, Int.reduceLE, Int.reduceEq, eq_self, List.reduceReplicate, rvF, rvG, e144, kAt_all, mkL_length]
theorem k_heldBookWriteS (l : List VBookWrite) (k : Int) (h0 : 0 ≤ k) (hb : k + (mcL mcBookWrite l : Nat) ≤ 4611686018427387904) : EV Try.prog E 145 [.val 0 false [.sl .shr 6 ((mkL mkBookWrite mcBookWrite l k).map VBookWrite.c)], .val 0 false [.p (.int .i64 k)]] = some ⟨[(false, [.p (.int .i64 (k + (mcL mcBookWrite l : Nat)))])], []⟩ := by
  have hlc := len_mcL mcBookWrite (fun x => by unfold mcBookWrite; omega) l
  refine EV_intro Try.func145 rfl ?_
  simp only [rv0, rv1, rv2, rv3, rv4, rv5, rv6, rv7, rv8, rv9, rv10, rvE, rvH, rvS, eT, ↓reduceIte, Nat.reduceEqDiff, Nat.reduceAdd, Nat.reduceSub, Nat.reduceMul, Nat.reduceLeDiff, Nat.reduceBEq, decide_true, decide_false, reduceCtorEq, Int.reduceLT, Int.reduceNeg, rvN, Nat.reduceLT, Int.reduceLE, Int.reduceEq, eq_self, List.reduceReplicate, rvF, rvG, e145, Try.f145]
  rw [for_block l (fun i (a : Int) => ⟨3, [(0, .val 0 false [.sl .shr 6 ((mkL mkBookWrite mcBookWrite l k).map VBookWrite.c)]), (1, .val 1 false [.p (.int .i64 a)]), (5, .val 2 false [.p (.int .i64 i)])]⟩) (fun i a => a = kAt mcBookWrite l k i)
      (fun r i a => .norm ⟨1, [(1, .val 0 false [.p (.int .i64 (k + (mcL mcBookWrite l : Nat)))])]⟩) ?_ ?_ (a := k) (kAt_zero mcBookWrite l k).symm (by simp only [rv0, rv1, rv2, rv3, rv4, rv5, rv6, rv7, rv8, rv9, rv10, rvE, rvH, rvS, eT, ↓reduceIte, Nat.reduceEqDiff, Nat.reduceAdd, Nat.reduceSub, Nat.reduceMul, Nat.reduceLeDiff, Nat.reduceBEq, decide_true, decide_false, reduceCtorEq, Int.reduceLT, Int.reduceNeg, rvN, Nat.reduceLT, Int.reduceLE, Int.reduceEq, eq_self, List.reduceReplicate, rvF, rvG, e145]; rfl)]
  · simp only [rv0, rv1, rv2, rv3, rv4, rv5, rv6, rv7, rv8, rv9, rv10, rvE, rvH, rvS, eT, ↓reduceIte, Nat.reduceEqDiff, Nat.reduceAdd, Nat.reduceSub, Nat.reduceMul, Nat.reduceLeDiff, Nat.reduceBEq, decide_true, decide_false, reduceCtorEq, Int.reduceLT, Int.reduceNeg, rvN, Nat.reduceLT, Int.reduceLE, Int.reduceEq, eq_self, List.reduceReplicate, rvF, rvG, e145]
  · rintro i s r a hd hi rfl
    have hlen := (List.getElem?_eq_some_iff.1 hi).1
    have hlt : ((i : Int) < (l.length : Int)) := by omega
    have hsu := kAt_succ mcBookWrite hi k
    have hge := kAt_ge mcBookWrite l k i
    have hle := kAt_le mcBookWrite hi k
    have hwi := wrap64 (n := (i : Int) + 1) (by omega) (by omega)
    have hi0 : (0 : Int) ≤ (i : Int) := by omega
    have hr := getElem?_map_some (f := VBookWrite.c) (mkL_get mkBookWrite mcBookWrite hi k)
    have hlm := mkL_length mkBookWrite mcBookWrite l k
    generalize kAt mcBookWrite l k i = a at *
    simp only [mcBookWrite] at hsu hle
    simp only [VBookWrite.c, mkBookWrite] at hr
    have hw0 := wrap64 (n := a + 1) (by omega) (by omega)
    have hm1 := k_markText (a + 1) (by omega) (by omega)
    have hw1 := wrap64 (n := a + 1 + 1) (by omega) (by omega)
    have hm2 := k_markText (a + 1 + 1) (by omega) (by omega)
    have hw2 := wrap64 (n := a + 1 + 1 + 1) (by omega) (by omega)
    have hw3 := wrap64 (n := a + 1 + 1 + 1 + 1) (by omega) (by omega)
    have hm4 := k_markText (a + 1 + 1 + 1 + 1) (by omega) (by omega)
    have hw4 := wrap64 (n := a + 1 + 1 + 1 + 1 + 1) (by omega) (by omega)
    have hm5 := k_markText (a + 1 + 1 + 1 + 1 + 1) (by omega) (by omega)
    have hw5 := wrap64 (n := a + 1 + 1 + 1 + 1 + 1 + 1) (by omega) (by omega)
    left
    refine ⟨a + 1 + 1 + 1 + 1 + 1 + 1, ?_, by rw [hsu]; omega, rfl⟩
    simp only [rv0, rv1, rv2, rv3, rv4, rv5, rv6, rv7, rv8, rv9, rv10, rvE, rvH, rvS, eT, ↓reduceIte, Nat.reduceEqDiff, Nat.reduceAdd, Nat.reduceSub, Nat.reduceMul, Nat.reduceLeDiff, Nat.reduceBEq, decide_true, decide_false, reduceCtorEq, Int.reduceLT, Int.reduceNeg, rvN, Nat.reduceLT, Int.reduceLE, Int.reduceEq, eq_self, List.reduceReplicate, rvF, rvG, e145, e139, hlt, hr, hwi, hi0, hlm, hlen, i64c, hw0, hm1, hw1, hm2, hw2, hw3, hm4, hw4, hm5, hw5, beq_self_eq_true]
  · rintro a rfl
    simp only [rv0, rv1, rv2, rv3, rv4, rv5, rv6, rv7, rv8, rv9, rv10, rvE, rvH, rvS, eT, ↓reduceIte, Nat.reduceEqDiff, Nat.reduceAdd, Nat.reduceSub, Nat.reduceMul, Nat.reduceLeDiff, Nat.reduceBEq, decide_true, decide_false, reduceCtorEq, Int.reduceLT, Int.reduceNeg, rvN, Nat.reduceLT, Int.reduceLE, Int.reduceEq, eq_self, List.reduceReplicate, rvF, rvG, e145, kAt_all, mkL_length]
theorem k_heldLogAskedS (l : List VLogAsked) (k : Int) (h0 : 0 ≤ k) (hb : k + (mcL mcLogAsked l : Nat) ≤ 4611686018427387904) : EV Try.prog E 68 [.val 0 false [.sl .shr 9 ((mkL mkLogAsked mcLogAsked l k).map (VLogAsked.c .shr))], .val 0 false [.p (.int .i64 k)]] = some ⟨[(false, [.p (.int .i64 (k + (mcL mcLogAsked l : Nat)))])], []⟩ := by
  have hlc := len_mcL mcLogAsked (fun x => by unfold mcLogAsked; omega) l
  refine EV_intro Try.func68 rfl ?_
  simp only [rv0, rv1, rv2, rv3, rv4, rv5, rv6, rv7, rv8, rv9, rv10, rvE, rvH, rvS, eT, ↓reduceIte, Nat.reduceEqDiff, Nat.reduceAdd, Nat.reduceSub, Nat.reduceMul, Nat.reduceLeDiff, Nat.reduceBEq, decide_true, decide_false, reduceCtorEq, Int.reduceLT, Int.reduceNeg, rvN, Nat.reduceLT, Int.reduceLE, Int.reduceEq, eq_self, List.reduceReplicate, rvF, rvG, e68, Try.f68]
  rw [for_block l (fun i (a : Int) => ⟨3, [(0, .val 0 false [.sl .shr 9 ((mkL mkLogAsked mcLogAsked l k).map (VLogAsked.c .shr))]), (1, .val 1 false [.p (.int .i64 a)]), (5, .val 2 false [.p (.int .i64 i)])]⟩) (fun i a => a = kAt mcLogAsked l k i)
      (fun r i a => .norm ⟨1, [(1, .val 0 false [.p (.int .i64 (k + (mcL mcLogAsked l : Nat)))])]⟩) ?_ ?_ (a := k) (kAt_zero mcLogAsked l k).symm (by simp only [rv0, rv1, rv2, rv3, rv4, rv5, rv6, rv7, rv8, rv9, rv10, rvE, rvH, rvS, eT, ↓reduceIte, Nat.reduceEqDiff, Nat.reduceAdd, Nat.reduceSub, Nat.reduceMul, Nat.reduceLeDiff, Nat.reduceBEq, decide_true, decide_false, reduceCtorEq, Int.reduceLT, Int.reduceNeg, rvN, Nat.reduceLT, Int.reduceLE, Int.reduceEq, eq_self, List.reduceReplicate, rvF, rvG, e68]; rfl)]
  · simp only [rv0, rv1, rv2, rv3, rv4, rv5, rv6, rv7, rv8, rv9, rv10, rvE, rvH, rvS, eT, ↓reduceIte, Nat.reduceEqDiff, Nat.reduceAdd, Nat.reduceSub, Nat.reduceMul, Nat.reduceLeDiff, Nat.reduceBEq, decide_true, decide_false, reduceCtorEq, Int.reduceLT, Int.reduceNeg, rvN, Nat.reduceLT, Int.reduceLE, Int.reduceEq, eq_self, List.reduceReplicate, rvF, rvG, e68]
  · rintro i s r a hd hi rfl
    have hlen := (List.getElem?_eq_some_iff.1 hi).1
    have hlt : ((i : Int) < (l.length : Int)) := by omega
    have hsu := kAt_succ mcLogAsked hi k
    have hge := kAt_ge mcLogAsked l k i
    have hle := kAt_le mcLogAsked hi k
    have hwi := wrap64 (n := (i : Int) + 1) (by omega) (by omega)
    have hi0 : (0 : Int) ≤ (i : Int) := by omega
    have hr := getElem?_map_some (f := (VLogAsked.c .shr)) (mkL_get mkLogAsked mcLogAsked hi k)
    have hlm := mkL_length mkLogAsked mcLogAsked l k
    generalize kAt mcLogAsked l k i = a at *
    simp only [mcLogAsked] at hsu hle
    simp only [VLogAsked.c, mkLogAsked] at hr
    have hm0 := k_markText (a) (by omega) (by omega)
    have hw0 := wrap64 (n := a + 1) (by omega) (by omega)
    have hw1 := wrap64 (n := a + 1 + 1) (by omega) (by omega)
    have hm2 := k_heldBookWantS s.call.bundle.wants (a + 1 + 1) (by omega) (by omega)
    have hn2 : ¬ (a + 1 + 1 + (mcL mcBookWant s.call.bundle.wants : Nat) < 0) := by omega
    have hm3 := k_heldBookWriteS s.call.bundle.writes (a + 1 + 1 + (mcL mcBookWant s.call.bundle.wants : Nat)) (by omega) (by omega)
    have hn3 : ¬ (a + 1 + 1 + (mcL mcBookWant s.call.bundle.wants : Nat) + (mcL mcBookWrite s.call.bundle.writes : Nat) < 0) := by omega
    have hw4 := wrap64 (n := a + 1 + 1 + (mcL mcBookWant s.call.bundle.wants : Nat) + (mcL mcBookWrite s.call.bundle.writes : Nat) + 1) (by omega) (by omega)
    have hw5 := wrap64 (n := a + 1 + 1 + (mcL mcBookWant s.call.bundle.wants : Nat) + (mcL mcBookWrite s.call.bundle.writes : Nat) + 1 + 1) (by omega) (by omega)
    have hw6 := wrap64 (n := a + 1 + 1 + (mcL mcBookWant s.call.bundle.wants : Nat) + (mcL mcBookWrite s.call.bundle.writes : Nat) + 1 + 1 + 1) (by omega) (by omega)
    have hw7 := wrap64 (n := a + 1 + 1 + (mcL mcBookWant s.call.bundle.wants : Nat) + (mcL mcBookWrite s.call.bundle.writes : Nat) + 1 + 1 + 1 + 1) (by omega) (by omega)
    have hw8 := wrap64 (n := a + 1 + 1 + (mcL mcBookWant s.call.bundle.wants : Nat) + (mcL mcBookWrite s.call.bundle.writes : Nat) + 1 + 1 + 1 + 1 + 1) (by omega) (by omega)
    left
    refine ⟨a + 1 + 1 + (mcL mcBookWant s.call.bundle.wants : Nat) + (mcL mcBookWrite s.call.bundle.writes : Nat) + 1 + 1 + 1 + 1 + 1, ?_, by rw [hsu]; omega, rfl⟩
    simp only [rv0, rv1, rv2, rv3, rv4, rv5, rv6, rv7, rv8, rv9, rv10, rvE, rvH, rvS, eT, ↓reduceIte, Nat.reduceEqDiff, Nat.reduceAdd, Nat.reduceSub, Nat.reduceMul, Nat.reduceLeDiff, Nat.reduceBEq, decide_true, decide_false, reduceCtorEq, Int.reduceLT, Int.reduceNeg, rvN, Nat.reduceLT, Int.reduceLE, Int.reduceEq, eq_self, List.reduceReplicate, rvF, rvG, e68, e139, e144, e145, hlt, hr, hwi, hi0, hlm, hlen, i64c, hm0, hw0, hw1, hm2, hn2, hm3, hn3, hw4, hw5, hw6, hw7, hw8, rowsBookWant, rowsBookWrite, beq_self_eq_true]
  · rintro a rfl
    simp only [rv0, rv1, rv2, rv3, rv4, rv5, rv6, rv7, rv8, rv9, rv10, rvE, rvH, rvS, eT, ↓reduceIte, Nat.reduceEqDiff, Nat.reduceAdd, Nat.reduceSub, Nat.reduceMul, Nat.reduceLeDiff, Nat.reduceBEq, decide_true, decide_false, reduceCtorEq, Int.reduceLT, Int.reduceNeg, rvN, Nat.reduceLT, Int.reduceLE, Int.reduceEq, eq_self, List.reduceReplicate, rvF, rvG, e68, kAt_all, mkL_length]
theorem k_heldLogWorld (x : VLogWorld) (k : Int) (h0 : 0 ≤ k) (hb : k + (ocLogWorld x : Nat) ≤ 4611686018427387904) : EV Try.prog E 17 [.val 0 true (VLogWorld.c .shr (moLogWorld x k)), .val 0 false [.p (.int .i64 k)]] = some ⟨[(false, [.p (.int .i64 (k + (ocLogWorld x : Nat)))])], []⟩ := by
  refine EV_intro Try.func17 rfl ?_
  unfold ocLogWorld at hb ⊢
  have hm0 := k_heldRecWorld x.rec_ (k) (by omega) (by omega)
  simp only [VRecWorld.c, moRecWorld] at hm0
  have hn0 : ¬ (k + (ocRecWorld x.rec_ : Nat) < 0) := by omega
  have hm1 := k_heldLogAskedS x.asked (k + (ocRecWorld x.rec_ : Nat)) (by omega) (by omega)
  have hn1 : ¬ (k + (ocRecWorld x.rec_ : Nat) + (mcL mcLogAsked x.asked : Nat) < 0) := by omega
  have he : k + ((ocRecWorld x.rec_ + mcL mcLogAsked x.asked : Nat) : Int) = k + (ocRecWorld x.rec_ : Nat) + (mcL mcLogAsked x.asked : Nat) := by omega
  rw [he]
  simp only [rv0, rv1, rv2, rv3, rv4, rv5, rv6, rv7, rv8, rv9, rv10, rvE, rvH, rvS, eT, ↓reduceIte, Nat.reduceEqDiff, Nat.reduceAdd, Nat.reduceSub, Nat.reduceMul, Nat.reduceLeDiff, Nat.reduceBEq, decide_true, decide_false, reduceCtorEq, Int.reduceLT, Int.reduceNeg, rvN, Nat.reduceLT, Int.reduceLE, Int.reduceEq, eq_self, List.reduceReplicate, rvF, rvG, e17, e67, e68, Try.f17, VLogWorld.c, moLogWorld, moRecWorld, hm0, hn0, hm1, hn1, rowsRecorder, rowsRecMessage, rowsRecFix, rowsLogAsked]
theorem mc_leBookWant (x : VBookWant) : mcBookWant x ≤ 3 + 3 * x.w := by
  unfold mcBookWant VBookWant.w
  omega
theorem mcL_leBookWant (l : List VBookWant) : mcL mcBookWant l ≤ 3 * wSBookWant l := by
  unfold wSBookWant
  induction l with
  | nil => simp [mcL]
  | cons x r ih =>
    have := mc_leBookWant x
    simp only [mcL, sumWBookWant, List.length_cons]
    omega
theorem mc_leBookWrite (x : VBookWrite) : mcBookWrite x ≤ 6 + 6 * x.w := by
  unfold mcBookWrite VBookWrite.w
  omega
theorem mcL_leBookWrite (l : List VBookWrite) : mcL mcBookWrite l ≤ 6 * wSBookWrite l := by
  unfold wSBookWrite
  induction l with
  | nil => simp [mcL]
  | cons x r ih =>
    have := mc_leBookWrite x
    simp only [mcL, sumWBookWrite, List.length_cons]
    omega
theorem mc_leLogAsked (x : VLogAsked) : mcLogAsked x ≤ 7 + 7 * x.w := by
  have h0 := mcL_leBookWant x.call.bundle.wants
  have h1 := mcL_leBookWrite x.call.bundle.writes
  unfold mcLogAsked VLogAsked.w VBookCall.w VBookBundle.w VBookSaid.w
  omega
theorem mcL_leLogAsked (l : List VLogAsked) : mcL mcLogAsked l ≤ 7 * wSLogAsked l := by
  unfold wSLogAsked
  induction l with
  | nil => simp [mcL]
  | cons x r ih =>
    have := mc_leLogAsked x
    simp only [mcL, sumWLogAsked, List.length_cons]
    omega
theorem oc_leLogWorld (x : VLogWorld) : ocLogWorld x ≤ 11 * x.w := by
  have h0 := mcL_leRecorder x.rec_.recorders
  have h1 := mcL_leRecMessage x.rec_.flight
  have h2 := mcL_leRecFix x.rec_.fixed
  have h3 := mcL_leLogAsked x.asked
  unfold ocLogWorld ocRecWorld VLogWorld.w VRecWorld.w
  omega
end Go.Proofs.Ytjcbojcnfdlfaaa
