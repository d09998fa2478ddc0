/- Slots, disks and messages: what the functions compute. -/
import Derived.Test.YtnhgopjnnedhdaaF5m
namespace Go.Proofs.Ytnhgopjnnedhdaa
open Go.Sx
set_option maxRecDepth 100000
set_option linter.unusedVariables false
set_option linter.unusedSimpArgs false

def inR (n lo hi : Int) : Bool := decide (lo ≤ n) && decide (n ≤ hi)
theorem k25 (n lo hi : Int) : EV Try.prog E 25 [.val 0 false [.p (.int .i64 n)], .val 0 false [.p (.int .i64 lo)], .val 0 false [.p (.int .i64 hi)]] = some ⟨[(false, [.p (.bool (inR n lo hi))])], []⟩ := by
  refine EV_intro Try.func25 rfl ?_
  by_cases h1 : lo ≤ n <;> by_cases h2 : n ≤ hi <;> simp only [rv0, rv1, rvE, rvH, rvS, rvI, eT, eQ, ↓reduceIte, Nat.reduceEqDiff, Nat.reduceAdd, Nat.reduceSub, Nat.reduceMul, Nat.reduceLeDiff, Nat.reduceBEq, decide_true, decide_false, reduceCtorEq, Int.reduceLT, Int.reduceNeg, rvN, Nat.reduceLT, Int.reduceLE, Int.reduceEq, eq_self, List.reduceReplicate, rvF, rvG, e25, Try.f25, h1, h2, inR]
theorem k31 (n lo hi : Int) : EV Try.prog E 31 [.val 0 false [.p (.int .i64 n)], .val 0 false [.p (.int .i64 lo)], .val 0 false [.p (.int .i64 hi)]] = some ⟨[(false, [.p (.bool (inR n lo hi))])], []⟩ := by
  refine EV_intro Try.func31 rfl ?_
  by_cases h1 : lo ≤ n <;> by_cases h2 : n ≤ hi <;> simp only [rv0, rv1, rvE, rvH, rvS, rvI, eT, eQ, ↓reduceIte, Nat.reduceEqDiff, Nat.reduceAdd, Nat.reduceSub, Nat.reduceMul, Nat.reduceLeDiff, Nat.reduceBEq, decide_true, decide_false, reduceCtorEq, Int.reduceLT, Int.reduceNeg, rvN, Nat.reduceLT, Int.reduceLE, Int.reduceEq, eq_self, List.reduceReplicate, rvF, rvG, e31, Try.f31, h1, h2, inR]

def slotOk (s : VRecSlot) : Bool := inR s.ballot 0 1000000 && (!decide (100 < (s.text.size : Int)) && !(decide (s.ballot = 0) && !decide (s.text = ⟨#[]⟩)))
def slotsOk (l : List VRecSlot) : Bool := !decide (60 < (l.length : Int)) && l.all slotOk

theorem k45 (l : List VRecSlot) : EV Try.prog E 45 [.val 0 false [.sl .shr 2 (l.map VRecSlot.c)]] = some ⟨[(false, [.p (.bool (slotsOk l))])], []⟩ := by
  refine EV_intro Try.func45 rfl ?_
  by_cases hc : 60 < (l.length : Int)
  · simp only [rv0, rv1, rvE, rvH, rvS, rvI, eT, eQ, ↓reduceIte, Nat.reduceEqDiff, Nat.reduceAdd, Nat.reduceSub, Nat.reduceMul, Nat.reduceLeDiff, Nat.reduceBEq, decide_true, decide_false, reduceCtorEq, Int.reduceLT, Int.reduceNeg, rvN, Nat.reduceLT, Int.reduceLE, Int.reduceEq, eq_self, List.reduceReplicate, rvF, rvG, e45, Try.f45, hc, slotsOk]
  · simp only [rv0, rv1, rvE, rvH, rvS, rvI, eT, eQ, ↓reduceIte, Nat.reduceEqDiff, Nat.reduceAdd, Nat.reduceSub, Nat.reduceMul, Nat.reduceLeDiff, Nat.reduceBEq, decide_true, decide_false, reduceCtorEq, Int.reduceLT, Int.reduceNeg, rvN, Nat.reduceLT, Int.reduceLE, Int.reduceEq, eq_self, List.reduceReplicate, rvF, rvG, e45, Try.f45, hc, slotsOk]
    rw [for_block l (fun i (_ : Unit) => ⟨2, [(0, .val 0 false [.sl .shr 2 (l.map VRecSlot.c)]), (3, .val 1 false [.p (.int .i64 i)])]⟩) (fun i _ => True)
      (fun r i a => if r.all slotOk = true then .norm ⟨0, []⟩ else .ret ⟨[(false, [.p (.bool false)])], []⟩) ?_ ?_ (a := ()) trivial (by simp only [rv0, rv1, rvE, rvH, rvS, rvI, eT, eQ, ↓reduceIte, Nat.reduceEqDiff, Nat.reduceAdd, Nat.reduceSub, Nat.reduceMul, Nat.reduceLeDiff, Nat.reduceBEq, decide_true, decide_false, reduceCtorEq, Int.reduceLT, Int.reduceNeg, rvN, Nat.reduceLT, Int.reduceLE, Int.reduceEq, eq_self, List.reduceReplicate, rvF, rvG, e45]; rfl)]
    · cases h : l.all slotOk <;> simp only [rv0, rv1, rvE, rvH, rvS, rvI, eT, eQ, ↓reduceIte, Nat.reduceEqDiff, Nat.reduceAdd, Nat.reduceSub, Nat.reduceMul, Nat.reduceLeDiff, Nat.reduceBEq, decide_true, decide_false, reduceCtorEq, Int.reduceLT, Int.reduceNeg, rvN, Nat.reduceLT, Int.reduceLE, Int.reduceEq, eq_self, List.reduceReplicate, rvF, rvG, e45]
    · intro i s r a hd hi _
      have hlen := (List.getElem?_eq_some_iff.1 hi).1
      have hlt : ((i : Int) < (l.length : Int)) := by omega
      have hr := getElem?_map_some (f := VRecSlot.c) hi
      have hwi := wrap64 (n := (i : Int) + 1) (by omega) (by omega)
      have hi0 : (0 : Int) ≤ (i : Int) := by omega
      have h40 := k25 s.ballot 0 1000000
      simp only [VRecSlot.c] at hr
      have bad : slotOk s = false → (if (s :: r).all slotOk = true then O.norm ⟨0, []⟩ else .ret ⟨[(false, [.p (.bool false)])], []⟩) = .ret ⟨[(false, [.p (.bool false)])], []⟩ := fun h => by simp only [List.all_cons, h, Bool.false_and, Bool.false_eq_true, if_false]
      have good : slotOk s = true → (if (s :: r).all slotOk = true then O.norm ⟨0, []⟩ else .ret ⟨[(false, [.p (.bool false)])], []⟩) = (if r.all slotOk = true then O.norm ⟨0, []⟩ else .ret ⟨[(false, [.p (.bool false)])], []⟩) := fun h => by simp only [List.all_cons, h, Bool.true_and]
      cases h1 : inR s.ballot 0 1000000
      · right
        rw [bad (by simp only [slotOk, h1, Bool.false_and])]
        simp only [rv0, rv1, rvE, rvH, rvS, rvI, eT, eQ, ↓reduceIte, Nat.reduceEqDiff, Nat.reduceAdd, Nat.reduceSub, Nat.reduceMul, Nat.reduceLeDiff, Nat.reduceBEq, decide_true, decide_false, reduceCtorEq, Int.reduceLT, Int.reduceNeg, rvN, Nat.reduceLT, Int.reduceLE, Int.reduceEq, eq_self, List.reduceReplicate, rvF, rvG, e45, e25, hlt, hr, h40, h1, hi0]
      · cases h2 : decide (100 < (s.text.size : Int))
        · cases h3 : decide (s.ballot = 0)
          · left
            refine ⟨(), ?_, trivial, good (by simp only [slotOk, h1, h2, h3]; rfl)⟩
            simp only [rv0, rv1, rvE, rvH, rvS, rvI, eT, eQ, ↓reduceIte, Nat.reduceEqDiff, Nat.reduceAdd, Nat.reduceSub, Nat.reduceMul, Nat.reduceLeDiff, Nat.reduceBEq, decide_true, decide_false, reduceCtorEq, Int.reduceLT, Int.reduceNeg, rvN, Nat.reduceLT, Int.reduceLE, Int.reduceEq, eq_self, List.reduceReplicate, rvF, rvG, e45, e25, hlt, hr, h40, h1, h2, h3, hi0, hwi, i64c]
          · cases h4 : decide (s.text = ⟨#[]⟩)
            · right
              rw [bad (by simp only [slotOk, h1, h2, h3, h4]; rfl)]
              simp only [rv0, rv1, rvE, rvH, rvS, rvI, eT, eQ, ↓reduceIte, Nat.reduceEqDiff, Nat.reduceAdd, Nat.reduceSub, Nat.reduceMul, Nat.reduceLeDiff, Nat.reduceBEq, decide_true, decide_false, reduceCtorEq, Int.reduceLT, Int.reduceNeg, rvN, Nat.reduceLT, Int.reduceLE, Int.reduceEq, eq_self, List.reduceReplicate, rvF, rvG, e45, e25, hlt, hr, h40, h1, h2, h3, h4, hi0]
            · left
              refine ⟨(), ?_, trivial, good (by simp only [slotOk, h1, h2, h3, h4]; rfl)⟩
              simp only [rv0, rv1, rvE, rvH, rvS, rvI, eT, eQ, ↓reduceIte, Nat.reduceEqDiff, Nat.reduceAdd, Nat.reduceSub, Nat.reduceMul, Nat.reduceLeDiff, Nat.reduceBEq, decide_true, decide_false, reduceCtorEq, Int.reduceLT, Int.reduceNeg, rvN, Nat.reduceLT, Int.reduceLE, Int.reduceEq, eq_self, List.reduceReplicate, rvF, rvG, e45, e25, hlt, hr, h40, h1, h2, h3, h4, hi0, hwi, i64c]
        · right
          rw [bad (by simp only [slotOk, h1, h2]; rfl)]
          simp only [rv0, rv1, rvE, rvH, rvS, rvI, eT, eQ, ↓reduceIte, Nat.reduceEqDiff, Nat.reduceAdd, Nat.reduceSub, Nat.reduceMul, Nat.reduceLeDiff, Nat.reduceBEq, decide_true, decide_false, reduceCtorEq, Int.reduceLT, Int.reduceNeg, rvN, Nat.reduceLT, Int.reduceLE, Int.reduceEq, eq_self, List.reduceReplicate, rvF, rvG, e45, e25, hlt, hr, h40, h1, h2, hi0]
    · intro a _
      simp only [rv0, rv1, rvE, rvH, rvS, rvI, eT, eQ, ↓reduceIte, Nat.reduceEqDiff, Nat.reduceAdd, Nat.reduceSub, Nat.reduceMul, Nat.reduceLeDiff, Nat.reduceBEq, decide_true, decide_false, reduceCtorEq, Int.reduceLT, Int.reduceNeg, rvN, Nat.reduceLT, Int.reduceLE, Int.reduceEq, eq_self, List.reduceReplicate, rvF, rvG, e45, List.all_nil]

theorem k55 (l : List VRecSlot) : EV Try.prog E 55 [.val 0 false [.sl .shr 2 (l.map VRecSlot.c)]] = some ⟨[(false, [.p (.bool (slotsOk l))])], []⟩ := by
  refine EV_intro Try.func55 rfl ?_
  by_cases hc : 60 < (l.length : Int)
  · simp only [rv0, rv1, rvE, rvH, rvS, rvI, eT, eQ, ↓reduceIte, Nat.reduceEqDiff, Nat.reduceAdd, Nat.reduceSub, Nat.reduceMul, Nat.reduceLeDiff, Nat.reduceBEq, decide_true, decide_false, reduceCtorEq, Int.reduceLT, Int.reduceNeg, rvN, Nat.reduceLT, Int.reduceLE, Int.reduceEq, eq_self, List.reduceReplicate, rvF, rvG, e55, Try.f55, hc, slotsOk]
  · simp only [rv0, rv1, rvE, rvH, rvS, rvI, eT, eQ, ↓reduceIte, Nat.reduceEqDiff, Nat.reduceAdd, Nat.reduceSub, Nat.reduceMul, Nat.reduceLeDiff, Nat.reduceBEq, decide_true, decide_false, reduceCtorEq, Int.reduceLT, Int.reduceNeg, rvN, Nat.reduceLT, Int.reduceLE, Int.reduceEq, eq_self, List.reduceReplicate, rvF, rvG, e55, Try.f55, hc, slotsOk]
    rw [for_block l (fun i (_ : Unit) => ⟨4, [(0, .val 0 false [.sl .shr 2 (l.map VRecSlot.c)]), (8, .val 1 false [.sl .shr 2 (l.map VRecSlot.c)]), (9, .val 2 false [.p (.int .i64 l.length)]), (10, .val 3 false [.p (.int .i64 i)])]⟩) (fun i _ => True)
      (fun r i a => if r.all slotOk = true then .norm ⟨0, []⟩ else .ret ⟨[(false, [.p (.bool false)])], []⟩) ?_ ?_ (a := ()) trivial (by simp only [rv0, rv1, rvE, rvH, rvS, rvI, eT, eQ, ↓reduceIte, Nat.reduceEqDiff, Nat.reduceAdd, Nat.reduceSub, Nat.reduceMul, Nat.reduceLeDiff, Nat.reduceBEq, decide_true, decide_false, reduceCtorEq, Int.reduceLT, Int.reduceNeg, rvN, Nat.reduceLT, Int.reduceLE, Int.reduceEq, eq_self, List.reduceReplicate, rvF, rvG, e55]; rfl)]
    · cases h : l.all slotOk <;> simp only [rv0, rv1, rvE, rvH, rvS, rvI, eT, eQ, ↓reduceIte, Nat.reduceEqDiff, Nat.reduceAdd, Nat.reduceSub, Nat.reduceMul, Nat.reduceLeDiff, Nat.reduceBEq, decide_true, decide_false, reduceCtorEq, Int.reduceLT, Int.reduceNeg, rvN, Nat.reduceLT, Int.reduceLE, Int.reduceEq, eq_self, List.reduceReplicate, rvF, rvG, e55]
    · intro i s r a hd hi _
      have hlen := (List.getElem?_eq_some_iff.1 hi).1
      have hlt : ((i : Int) < (l.length : Int)) := by omega
      have hr := getElem?_map_some (f := VRecSlot.c) hi
      have hwi := wrap64 (n := (i : Int) + 1) (by omega) (by omega)
      have hi0 : (0 : Int) ≤ (i : Int) := by omega
      have h41 := k31 s.ballot 0 1000000
      simp only [VRecSlot.c] at hr
      have bad : slotOk s = false → (if (s :: r).all slotOk = true then O.norm ⟨0, []⟩ else .ret ⟨[(false, [.p (.bool false)])], []⟩) = .ret ⟨[(false, [.p (.bool false)])], []⟩ := fun h => by simp only [List.all_cons, h, Bool.false_and, Bool.false_eq_true, if_false]
      have good : slotOk s = true → (if (s :: r).all slotOk = true then O.norm ⟨0, []⟩ else .ret ⟨[(false, [.p (.bool false)])], []⟩) = (if r.all slotOk = true then O.norm ⟨0, []⟩ else .ret ⟨[(false, [.p (.bool false)])], []⟩) := fun h => by simp only [List.all_cons, h, Bool.true_and]
      cases h1 : inR s.ballot 0 1000000
      · right
        rw [bad (by simp only [slotOk, h1, Bool.false_and])]
        simp only [rv0, rv1, rvE, rvH, rvS, rvI, eT, eQ, ↓reduceIte, Nat.reduceEqDiff, Nat.reduceAdd, Nat.reduceSub, Nat.reduceMul, Nat.reduceLeDiff, Nat.reduceBEq, decide_true, decide_false, reduceCtorEq, Int.reduceLT, Int.reduceNeg, rvN, Nat.reduceLT, Int.reduceLE, Int.reduceEq, eq_self, List.reduceReplicate, rvF, rvG, e55, e31, hlt, hr, h41, h1, hi0]
      · cases h2 : decide (100 < (s.text.size : Int))
        · cases h3 : decide (s.ballot = 0)
          · left
            refine ⟨(), ?_, trivial, good (by simp only [slotOk, h1, h2, h3]; rfl)⟩
            simp only [rv0, rv1, rvE, rvH, rvS, rvI, eT, eQ, ↓reduceIte, Nat.reduceEqDiff, Nat.reduceAdd, Nat.reduceSub, Nat.reduceMul, Nat.reduceLeDiff, Nat.reduceBEq, decide_true, decide_false, reduceCtorEq, Int.reduceLT, Int.reduceNeg, rvN, Nat.reduceLT, Int.reduceLE, Int.reduceEq, eq_self, List.reduceReplicate, rvF, rvG, e55, e31, hlt, hr, h41, h1, h2, h3, hi0, hwi, i64c]
          · cases h4 : decide (s.text = ⟨#[]⟩)
            · right
              rw [bad (by simp only [slotOk, h1, h2, h3, h4]; rfl)]
              simp only [rv0, rv1, rvE, rvH, rvS, rvI, eT, eQ, ↓reduceIte, Nat.reduceEqDiff, Nat.reduceAdd, Nat.reduceSub, Nat.reduceMul, Nat.reduceLeDiff, Nat.reduceBEq, decide_true, decide_false, reduceCtorEq, Int.reduceLT, Int.reduceNeg, rvN, Nat.reduceLT, Int.reduceLE, Int.reduceEq, eq_self, List.reduceReplicate, rvF, rvG, e55, e31, hlt, hr, h41, h1, h2, h3, h4, hi0]
            · left
              refine ⟨(), ?_, trivial, good (by simp only [slotOk, h1, h2, h3, h4]; rfl)⟩
              simp only [rv0, rv1, rvE, rvH, rvS, rvI, eT, eQ, ↓reduceIte, Nat.reduceEqDiff, Nat.reduceAdd, Nat.reduceSub, Nat.reduceMul, Nat.reduceLeDiff, Nat.reduceBEq, decide_true, decide_false, reduceCtorEq, Int.reduceLT, Int.reduceNeg, rvN, Nat.reduceLT, Int.reduceLE, Int.reduceEq, eq_self, List.reduceReplicate, rvF, rvG, e55, e31, hlt, hr, h41, h1, h2, h3, h4, hi0, hwi, i64c]
        · right
          rw [bad (by simp only [slotOk, h1, h2]; rfl)]
          simp only [rv0, rv1, rvE, rvH, rvS, rvI, eT, eQ, ↓reduceIte, Nat.reduceEqDiff, Nat.reduceAdd, Nat.reduceSub, Nat.reduceMul, Nat.reduceLeDiff, Nat.reduceBEq, decide_true, decide_false, reduceCtorEq, Int.reduceLT, Int.reduceNeg, rvN, Nat.reduceLT, Int.reduceLE, Int.reduceEq, eq_self, List.reduceReplicate, rvF, rvG, e55, e31, hlt, hr, h41, h1, h2, hi0]
    · intro a _
      simp only [rv0, rv1, rvE, rvH, rvS, rvI, eT, eQ, ↓reduceIte, Nat.reduceEqDiff, Nat.reduceAdd, Nat.reduceSub, Nat.reduceMul, Nat.reduceLeDiff, Nat.reduceBEq, decide_true, decide_false, reduceCtorEq, Int.reduceLT, Int.reduceNeg, rvN, Nat.reduceLT, Int.reduceLE, Int.reduceEq, eq_self, List.reduceReplicate, rvF, rvG, e55, List.all_nil]

def dOk1 (p kn : Int) (i : Nat) (s : VRecSlot) : Bool := !decide (p < s.ballot) && !(decide ((i : Int) < kn) && decide (s.ballot = 0))
def goD (p kn : Int) : List VRecSlot → Nat → Bool
  | [], _ => true
  | s :: r, i => dOk1 p kn i s && goD p kn r (i + 1)
def diskOk (p kn : Int) (l : List VRecSlot) : Bool := inR p 0 1000000 && (slotsOk l && (inR kn 0 l.length && goD p kn l 0))

theorem k42 (p kn : Int) (l : List VRecSlot) : EV Try.prog E 42 [.val 0 true [.p (.int .i64 p), .p (.int .i64 kn), .sl .shr 2 (l.map VRecSlot.c)]] = some ⟨[(false, [.p (.bool (diskOk p kn l))])], []⟩ := by
  refine EV_intro Try.func42 rfl ?_
  have hs := k45 l
  have ha := k25 p 0 1000000
  have hb := k25 kn 0 l.length
  cases h1 : inR p 0 1000000
  · simp only [rv0, rv1, rvE, rvH, rvS, rvI, eT, eQ, ↓reduceIte, Nat.reduceEqDiff, Nat.reduceAdd, Nat.reduceSub, Nat.reduceMul, Nat.reduceLeDiff, Nat.reduceBEq, decide_true, decide_false, reduceCtorEq, Int.reduceLT, Int.reduceNeg, rvN, Nat.reduceLT, Int.reduceLE, Int.reduceEq, eq_self, List.reduceReplicate, rvF, rvG, e42, e25, e45, Try.f42, diskOk, hs, ha, hb, h1]
  · cases h2 : slotsOk l
    · simp only [rv0, rv1, rvE, rvH, rvS, rvI, eT, eQ, ↓reduceIte, Nat.reduceEqDiff, Nat.reduceAdd, Nat.reduceSub, Nat.reduceMul, Nat.reduceLeDiff, Nat.reduceBEq, decide_true, decide_false, reduceCtorEq, Int.reduceLT, Int.reduceNeg, rvN, Nat.reduceLT, Int.reduceLE, Int.reduceEq, eq_self, List.reduceReplicate, rvF, rvG, e42, e25, e45, Try.f42, diskOk, hs, ha, hb, h1, h2]
    · cases h3 : inR kn 0 l.length
      · simp only [rv0, rv1, rvE, rvH, rvS, rvI, eT, eQ, ↓reduceIte, Nat.reduceEqDiff, Nat.reduceAdd, Nat.reduceSub, Nat.reduceMul, Nat.reduceLeDiff, Nat.reduceBEq, decide_true, decide_false, reduceCtorEq, Int.reduceLT, Int.reduceNeg, rvN, Nat.reduceLT, Int.reduceLE, Int.reduceEq, eq_self, List.reduceReplicate, rvF, rvG, e42, e25, e45, Try.f42, diskOk, hs, ha, hb, h1, h2, h3]
      · simp only [rv0, rv1, rvE, rvH, rvS, rvI, eT, eQ, ↓reduceIte, Nat.reduceEqDiff, Nat.reduceAdd, Nat.reduceSub, Nat.reduceMul, Nat.reduceLeDiff, Nat.reduceBEq, decide_true, decide_false, reduceCtorEq, Int.reduceLT, Int.reduceNeg, rvN, Nat.reduceLT, Int.reduceLE, Int.reduceEq, eq_self, List.reduceReplicate, rvF, rvG, e42, e25, e45, Try.f42, diskOk, hs, ha, hb, h1, h2, h3]
        have hl60 : (l.length : Int) ≤ 60 := by
          simp only [slotsOk, Bool.and_eq_true, Bool.not_eq_true', decide_eq_false_iff_not] at h2
          omega
        rw [for_block l (fun i (_ : Unit) => ⟨2, [(1, .box 0 0 [.p (.int .i64 p), .p (.int .i64 kn), .sl .shr 2 (l.map VRecSlot.c)]), (3, .val 1 false [.p (.int .i64 i)])]⟩) (fun i _ => True)
          (fun r i a => if goD p kn r i = true then .norm ⟨0, []⟩ else .ret ⟨[(false, [.p (.bool false)])], []⟩) ?_ ?_ (a := ()) trivial (by simp only [rv0, rv1, rvE, rvH, rvS, rvI, eT, eQ, ↓reduceIte, Nat.reduceEqDiff, Nat.reduceAdd, Nat.reduceSub, Nat.reduceMul, Nat.reduceLeDiff, Nat.reduceBEq, decide_true, decide_false, reduceCtorEq, Int.reduceLT, Int.reduceNeg, rvN, Nat.reduceLT, Int.reduceLE, Int.reduceEq, eq_self, List.reduceReplicate, rvF, rvG, e42]; rfl)]
        · cases h : goD p kn l 0 <;> simp only [rv0, rv1, rvE, rvH, rvS, rvI, eT, eQ, ↓reduceIte, Nat.reduceEqDiff, Nat.reduceAdd, Nat.reduceSub, Nat.reduceMul, Nat.reduceLeDiff, Nat.reduceBEq, decide_true, decide_false, reduceCtorEq, Int.reduceLT, Int.reduceNeg, rvN, Nat.reduceLT, Int.reduceLE, Int.reduceEq, eq_self, List.reduceReplicate, rvF, rvG, e42]
        · intro i s r a hd hi _
          have hlen := (List.getElem?_eq_some_iff.1 hi).1
          have hlt : ((i : Int) < (l.length : Int)) := by omega
          have hr := getElem?_map_some (f := VRecSlot.c) hi
          have hwi := wrap64 (n := (i : Int) + 1) (by omega) (by omega)
          have hi0 : (0 : Int) ≤ (i : Int) := by omega
          simp only [VRecSlot.c] at hr
          cases c1 : decide (p < s.ballot)
          · cases c2 : decide ((i : Int) < kn)
            · left
              refine ⟨(), ?_, trivial, by simp only [goD, dOk1, c1, c2]; rfl⟩
              simp only [rv0, rv1, rvE, rvH, rvS, rvI, eT, eQ, ↓reduceIte, Nat.reduceEqDiff, Nat.reduceAdd, Nat.reduceSub, Nat.reduceMul, Nat.reduceLeDiff, Nat.reduceBEq, decide_true, decide_false, reduceCtorEq, Int.reduceLT, Int.reduceNeg, rvN, Nat.reduceLT, Int.reduceLE, Int.reduceEq, eq_self, List.reduceReplicate, rvF, rvG, e42, hlt, hr, c1, c2, hi0, hwi, i64c]
            · cases c3 : decide (s.ballot = 0)
              · left
                refine ⟨(), ?_, trivial, by simp only [goD, dOk1, c1, c2, c3]; rfl⟩
                simp only [rv0, rv1, rvE, rvH, rvS, rvI, eT, eQ, ↓reduceIte, Nat.reduceEqDiff, Nat.reduceAdd, Nat.reduceSub, Nat.reduceMul, Nat.reduceLeDiff, Nat.reduceBEq, decide_true, decide_false, reduceCtorEq, Int.reduceLT, Int.reduceNeg, rvN, Nat.reduceLT, Int.reduceLE, Int.reduceEq, eq_self, List.reduceReplicate, rvF, rvG, e42, hlt, hr, c1, c2, c3, hi0, hwi, i64c]
              · right
                simp only [rv0, rv1, rvE, rvH, rvS, rvI, eT, eQ, ↓reduceIte, Nat.reduceEqDiff, Nat.reduceAdd, Nat.reduceSub, Nat.reduceMul, Nat.reduceLeDiff, Nat.reduceBEq, decide_true, decide_false, reduceCtorEq, Int.reduceLT, Int.reduceNeg, rvN, Nat.reduceLT, Int.reduceLE, Int.reduceEq, eq_self, List.reduceReplicate, rvF, rvG, e42, goD, dOk1, hlt, hr, c1, c2, c3, hi0, hwi, i64c]
          · right
            simp only [rv0, rv1, rvE, rvH, rvS, rvI, eT, eQ, ↓reduceIte, Nat.reduceEqDiff, Nat.reduceAdd, Nat.reduceSub, Nat.reduceMul, Nat.reduceLeDiff, Nat.reduceBEq, decide_true, decide_false, reduceCtorEq, Int.reduceLT, Int.reduceNeg, rvN, Nat.reduceLT, Int.reduceLE, Int.reduceEq, eq_self, List.reduceReplicate, rvF, rvG, e42, goD, dOk1, hlt, hr, c1, hi0, hwi, i64c]
        · intro a _
          simp only [rv0, rv1, rvE, rvH, rvS, rvI, eT, eQ, ↓reduceIte, Nat.reduceEqDiff, Nat.reduceAdd, Nat.reduceSub, Nat.reduceMul, Nat.reduceLeDiff, Nat.reduceBEq, decide_true, decide_false, reduceCtorEq, Int.reduceLT, Int.reduceNeg, rvN, Nat.reduceLT, Int.reduceLE, Int.reduceEq, eq_self, List.reduceReplicate, rvF, rvG, e42, goD]

theorem k53 (p kn : Int) (l : List VRecSlot) : EV Try.prog E 53 [.val 0 true [.p (.int .i64 p), .p (.int .i64 kn), .sl .shr 2 (l.map VRecSlot.c)]] = some ⟨[(false, [.p (.bool (diskOk p kn l))])], []⟩ := by
  refine EV_intro Try.func53 rfl ?_
  have hs := k55 l
  have ha := k31 p 0 1000000
  have hb := k31 kn 0 l.length
  cases h1 : inR p 0 1000000
  · simp only [rv0, rv1, rvE, rvH, rvS, rvI, eT, eQ, ↓reduceIte, Nat.reduceEqDiff, Nat.reduceAdd, Nat.reduceSub, Nat.reduceMul, Nat.reduceLeDiff, Nat.reduceBEq, decide_true, decide_false, reduceCtorEq, Int.reduceLT, Int.reduceNeg, rvN, Nat.reduceLT, Int.reduceLE, Int.reduceEq, eq_self, List.reduceReplicate, rvF, rvG, e53, e31, e55, Try.f53, diskOk, hs, ha, hb, h1]
  · cases h2 : slotsOk l
    · simp only [rv0, rv1, rvE, rvH, rvS, rvI, eT, eQ, ↓reduceIte, Nat.reduceEqDiff, Nat.reduceAdd, Nat.reduceSub, Nat.reduceMul, Nat.reduceLeDiff, Nat.reduceBEq, decide_true, decide_false, reduceCtorEq, Int.reduceLT, Int.reduceNeg, rvN, Nat.reduceLT, Int.reduceLE, Int.reduceEq, eq_self, List.reduceReplicate, rvF, rvG, e53, e31, e55, Try.f53, diskOk, hs, ha, hb, h1, h2]
    · cases h3 : inR kn 0 l.length
      · simp only [rv0, rv1, rvE, rvH, rvS, rvI, eT, eQ, ↓reduceIte, Nat.reduceEqDiff, Nat.reduceAdd, Nat.reduceSub, Nat.reduceMul, Nat.reduceLeDiff, Nat.reduceBEq, decide_true, decide_false, reduceCtorEq, Int.reduceLT, Int.reduceNeg, rvN, Nat.reduceLT, Int.reduceLE, Int.reduceEq, eq_self, List.reduceReplicate, rvF, rvG, e53, e31, e55, Try.f53, diskOk, hs, ha, hb, h1, h2, h3]
      · simp only [rv0, rv1, rvE, rvH, rvS, rvI, eT, eQ, ↓reduceIte, Nat.reduceEqDiff, Nat.reduceAdd, Nat.reduceSub, Nat.reduceMul, Nat.reduceLeDiff, Nat.reduceBEq, decide_true, decide_false, reduceCtorEq, Int.reduceLT, Int.reduceNeg, rvN, Nat.reduceLT, Int.reduceLE, Int.reduceEq, eq_self, List.reduceReplicate, rvF, rvG, e53, e31, e55, Try.f53, diskOk, hs, ha, hb, h1, h2, h3]
        have hl60 : (l.length : Int) ≤ 60 := by
          simp only [slotsOk, Bool.and_eq_true, Bool.not_eq_true', decide_eq_false_iff_not] at h2
          omega
        rw [for_block l (fun i (_ : Unit) => ⟨4, [(1, .box 0 0 [.p (.int .i64 p), .p (.int .i64 kn), .sl .shr 2 (l.map VRecSlot.c)]), (25, .val 1 false [.sl .shr 2 (l.map VRecSlot.c)]), (26, .val 2 false [.p (.int .i64 l.length)]), (27, .val 3 false [.p (.int .i64 i)])]⟩) (fun i _ => True)
          (fun r i a => if goD p kn r i = true then .norm ⟨0, []⟩ else .ret ⟨[(false, [.p (.bool false)])], []⟩) ?_ ?_ (a := ()) trivial (by simp only [rv0, rv1, rvE, rvH, rvS, rvI, eT, eQ, ↓reduceIte, Nat.reduceEqDiff, Nat.reduceAdd, Nat.reduceSub, Nat.reduceMul, Nat.reduceLeDiff, Nat.reduceBEq, decide_true, decide_false, reduceCtorEq, Int.reduceLT, Int.reduceNeg, rvN, Nat.reduceLT, Int.reduceLE, Int.reduceEq, eq_self, List.reduceReplicate, rvF, rvG, e53]; rfl)]
        · cases h : goD p kn l 0 <;> simp only [rv0, rv1, rvE, rvH, rvS, rvI, eT, eQ, ↓reduceIte, Nat.reduceEqDiff, Nat.reduceAdd, Nat.reduceSub, Nat.reduceMul, Nat.reduceLeDiff, Nat.reduceBEq, decide_true, decide_false, reduceCtorEq, Int.reduceLT, Int.reduceNeg, rvN, Nat.reduceLT, Int.reduceLE, Int.reduceEq, eq_self, List.reduceReplicate, rvF, rvG, e53]
        · intro i s r a hd hi _
          have hlen := (List.getElem?_eq_some_iff.1 hi).1
          have hlt : ((i : Int) < (l.length : Int)) := by omega
          have hr := getElem?_map_some (f := VRecSlot.c) hi
          have hwi := wrap64 (n := (i : Int) + 1) (by omega) (by omega)
          have hi0 : (0 : Int) ≤ (i : Int) := by omega
          simp only [VRecSlot.c] at hr
          cases c1 : decide (p < s.ballot)
          · cases c2 : decide ((i : Int) < kn)
            · left
              refine ⟨(), ?_, trivial, by simp only [goD, dOk1, c1, c2]; rfl⟩
              simp only [rv0, rv1, rvE, rvH, rvS, rvI, eT, eQ, ↓reduceIte, Nat.reduceEqDiff, Nat.reduceAdd, Nat.reduceSub, Nat.reduceMul, Nat.reduceLeDiff, Nat.reduceBEq, decide_true, decide_false, reduceCtorEq, Int.reduceLT, Int.reduceNeg, rvN, Nat.reduceLT, Int.reduceLE, Int.reduceEq, eq_self, List.reduceReplicate, rvF, rvG, e53, hlt, hr, c1, c2, hi0, hwi, i64c]
            · cases c3 : decide (s.ballot = 0)
              · left
                refine ⟨(), ?_, trivial, by simp only [goD, dOk1, c1, c2, c3]; rfl⟩
                simp only [rv0, rv1, rvE, rvH, rvS, rvI, eT, eQ, ↓reduceIte, Nat.reduceEqDiff, Nat.reduceAdd, Nat.reduceSub, Nat.reduceMul, Nat.reduceLeDiff, Nat.reduceBEq, decide_true, decide_false, reduceCtorEq, Int.reduceLT, Int.reduceNeg, rvN, Nat.reduceLT, Int.reduceLE, Int.reduceEq, eq_self, List.reduceReplicate, rvF, rvG, e53, hlt, hr, c1, c2, c3, hi0, hwi, i64c]
              · right
                simp only [rv0, rv1, rvE, rvH, rvS, rvI, eT, eQ, ↓reduceIte, Nat.reduceEqDiff, Nat.reduceAdd, Nat.reduceSub, Nat.reduceMul, Nat.reduceLeDiff, Nat.reduceBEq, decide_true, decide_false, reduceCtorEq, Int.reduceLT, Int.reduceNeg, rvN, Nat.reduceLT, Int.reduceLE, Int.reduceEq, eq_self, List.reduceReplicate, rvF, rvG, e53, goD, dOk1, hlt, hr, c1, c2, c3, hi0, hwi, i64c]
          · right
            simp only [rv0, rv1, rvE, rvH, rvS, rvI, eT, eQ, ↓reduceIte, Nat.reduceEqDiff, Nat.reduceAdd, Nat.reduceSub, Nat.reduceMul, Nat.reduceLeDiff, Nat.reduceBEq, decide_true, decide_false, reduceCtorEq, Int.reduceLT, Int.reduceNeg, rvN, Nat.reduceLT, Int.reduceLE, Int.reduceEq, eq_self, List.reduceReplicate, rvF, rvG, e53, goD, dOk1, hlt, hr, c1, hi0, hwi, i64c]
        · intro a _
          simp only [rv0, rv1, rvE, rvH, rvS, rvI, eT, eQ, ↓reduceIte, Nat.reduceEqDiff, Nat.reduceAdd, Nat.reduceSub, Nat.reduceMul, Nat.reduceLeDiff, Nat.reduceBEq, decide_true, decide_false, reduceCtorEq, Int.reduceLT, Int.reduceNeg, rvN, Nat.reduceLT, Int.reduceLE, Int.reduceEq, eq_self, List.reduceReplicate, rvF, rvG, e53, goD]

def msgOk (a0 a1 a2 a3 a4 a5 : Int) (t : ByteArray) (l : List VRecSlot) (n : Int) : Bool :=
  inR a0 1 9 && (inR a1 1 n && (inR a2 1 n && (inR a3 0 1000000 && (inR a4 0 60 && (inR a5 0 60 && (decide ((t.size : Int) ≤ 100) && slotsOk l))))))

theorem k27 (a0 a1 a2 a3 a4 a5 : Int) (t : ByteArray) (l : List VRecSlot) (n : Int) : EV Try.prog E 27 [.val 0 true [.p (.int .i64 a0), .p (.int .i64 a1), .p (.int .i64 a2), .p (.int .i64 a3), .p (.int .i64 a4), .p (.int .i64 a5), .p (.string t), .sl .shr 2 (l.map VRecSlot.c)], .val 0 false [.p (.int .i64 n)]] = some ⟨[(false, [.p (.bool (msgOk a0 a1 a2 a3 a4 a5 t l n))])], []⟩ := by
  refine EV_intro Try.func27 rfl ?_
  have hs := k45 l
  have h0 := k25 a0 1 9
  have h1 := k25 a1 1 n
  have h2 := k25 a2 1 n
  have h3 := k25 a3 0 1000000
  have h4 := k25 a4 0 60
  have h5 := k25 a5 0 60
  cases c0 : inR a0 1 9
  · simp only [rv0, rv1, rvE, rvH, rvS, rvI, eT, eQ, ↓reduceIte, Nat.reduceEqDiff, Nat.reduceAdd, Nat.reduceSub, Nat.reduceMul, Nat.reduceLeDiff, Nat.reduceBEq, decide_true, decide_false, reduceCtorEq, Int.reduceLT, Int.reduceNeg, rvN, Nat.reduceLT, Int.reduceLE, Int.reduceEq, eq_self, List.reduceReplicate, rvF, rvG, e27, e25, e45, Try.f27, msgOk, h0, c0]
  cases c1 : inR a1 1 n
  · simp only [rv0, rv1, rvE, rvH, rvS, rvI, eT, eQ, ↓reduceIte, Nat.reduceEqDiff, Nat.reduceAdd, Nat.reduceSub, Nat.reduceMul, Nat.reduceLeDiff, Nat.reduceBEq, decide_true, decide_false, reduceCtorEq, Int.reduceLT, Int.reduceNeg, rvN, Nat.reduceLT, Int.reduceLE, Int.reduceEq, eq_self, List.reduceReplicate, rvF, rvG, e27, e25, e45, Try.f27, msgOk, h0, c0, h1, c1]
  cases c2 : inR a2 1 n
  · simp only [rv0, rv1, rvE, rvH, rvS, rvI, eT, eQ, ↓reduceIte, Nat.reduceEqDiff, Nat.reduceAdd, Nat.reduceSub, Nat.reduceMul, Nat.reduceLeDiff, Nat.reduceBEq, decide_true, decide_false, reduceCtorEq, Int.reduceLT, Int.reduceNeg, rvN, Nat.reduceLT, Int.reduceLE, Int.reduceEq, eq_self, List.reduceReplicate, rvF, rvG, e27, e25, e45, Try.f27, msgOk, h0, c0, h1, c1, h2, c2]
  cases c3 : inR a3 0 1000000
  · simp only [rv0, rv1, rvE, rvH, rvS, rvI, eT, eQ, ↓reduceIte, Nat.reduceEqDiff, Nat.reduceAdd, Nat.reduceSub, Nat.reduceMul, Nat.reduceLeDiff, Nat.reduceBEq, decide_true, decide_false, reduceCtorEq, Int.reduceLT, Int.reduceNeg, rvN, Nat.reduceLT, Int.reduceLE, Int.reduceEq, eq_self, List.reduceReplicate, rvF, rvG, e27, e25, e45, Try.f27, msgOk, h0, c0, h1, c1, h2, c2, h3, c3]
  cases c4 : inR a4 0 60
  · simp only [rv0, rv1, rvE, rvH, rvS, rvI, eT, eQ, ↓reduceIte, Nat.reduceEqDiff, Nat.reduceAdd, Nat.reduceSub, Nat.reduceMul, Nat.reduceLeDiff, Nat.reduceBEq, decide_true, decide_false, reduceCtorEq, Int.reduceLT, Int.reduceNeg, rvN, Nat.reduceLT, Int.reduceLE, Int.reduceEq, eq_self, List.reduceReplicate, rvF, rvG, e27, e25, e45, Try.f27, msgOk, h0, c0, h1, c1, h2, c2, h3, c3, h4, c4]
  cases c5 : inR a5 0 60
  · simp only [rv0, rv1, rvE, rvH, rvS, rvI, eT, eQ, ↓reduceIte, Nat.reduceEqDiff, Nat.reduceAdd, Nat.reduceSub, Nat.reduceMul, Nat.reduceLeDiff, Nat.reduceBEq, decide_true, decide_false, reduceCtorEq, Int.reduceLT, Int.reduceNeg, rvN, Nat.reduceLT, Int.reduceLE, Int.reduceEq, eq_self, List.reduceReplicate, rvF, rvG, e27, e25, e45, Try.f27, msgOk, h0, c0, h1, c1, h2, c2, h3, c3, h4, c4, h5, c5]
  cases c6 : decide ((t.size : Int) ≤ 100)
  · simp only [rv0, rv1, rvE, rvH, rvS, rvI, eT, eQ, ↓reduceIte, Nat.reduceEqDiff, Nat.reduceAdd, Nat.reduceSub, Nat.reduceMul, Nat.reduceLeDiff, Nat.reduceBEq, decide_true, decide_false, reduceCtorEq, Int.reduceLT, Int.reduceNeg, rvN, Nat.reduceLT, Int.reduceLE, Int.reduceEq, eq_self, List.reduceReplicate, rvF, rvG, e27, e25, e45, Try.f27, msgOk, h0, c0, h1, c1, h2, c2, h3, c3, h4, c4, h5, c5, c6]
  · simp only [rv0, rv1, rvE, rvH, rvS, rvI, eT, eQ, ↓reduceIte, Nat.reduceEqDiff, Nat.reduceAdd, Nat.reduceSub, Nat.reduceMul, Nat.reduceLeDiff, Nat.reduceBEq, decide_true, decide_false, reduceCtorEq, Int.reduceLT, Int.reduceNeg, rvN, Nat.reduceLT, Int.reduceLE, Int.reduceEq, eq_self, List.reduceReplicate, rvF, rvG, e27, e25, e45, Try.f27, msgOk, h0, c0, h1, c1, h2, c2, h3, c3, h4, c4, h5, c5, c6, hs]

theorem k33 (a0 a1 a2 a3 a4 a5 : Int) (t : ByteArray) (l : List VRecSlot) (n : Int) : EV Try.prog E 33 [.val 0 true [.p (.int .i64 a0), .p (.int .i64 a1), .p (.int .i64 a2), .p (.int .i64 a3), .p (.int .i64 a4), .p (.int .i64 a5), .p (.string t), .sl .shr 2 (l.map VRecSlot.c)], .val 0 false [.p (.int .i64 n)]] = some ⟨[(false, [.p (.bool (msgOk a0 a1 a2 a3 a4 a5 t l n))])], []⟩ := by
  refine EV_intro Try.func33 rfl ?_
  have hs := k55 l
  have h0 := k31 a0 1 9
  have h1 := k31 a1 1 n
  have h2 := k31 a2 1 n
  have h3 := k31 a3 0 1000000
  have h4 := k31 a4 0 60
  have h5 := k31 a5 0 60
  cases c0 : inR a0 1 9
  · simp only [rv0, rv1, rvE, rvH, rvS, rvI, eT, eQ, ↓reduceIte, Nat.reduceEqDiff, Nat.reduceAdd, Nat.reduceSub, Nat.reduceMul, Nat.reduceLeDiff, Nat.reduceBEq, decide_true, decide_false, reduceCtorEq, Int.reduceLT, Int.reduceNeg, rvN, Nat.reduceLT, Int.reduceLE, Int.reduceEq, eq_self, List.reduceReplicate, rvF, rvG, e33, e31, e55, Try.f33, msgOk, h0, c0]
  cases c1 : inR a1 1 n
  · simp only [rv0, rv1, rvE, rvH, rvS, rvI, eT, eQ, ↓reduceIte, Nat.reduceEqDiff, Nat.reduceAdd, Nat.reduceSub, Nat.reduceMul, Nat.reduceLeDiff, Nat.reduceBEq, decide_true, decide_false, reduceCtorEq, Int.reduceLT, Int.reduceNeg, rvN, Nat.reduceLT, Int.reduceLE, Int.reduceEq, eq_self, List.reduceReplicate, rvF, rvG, e33, e31, e55, Try.f33, msgOk, h0, c0, h1, c1]
  cases c2 : inR a2 1 n
  · simp only [rv0, rv1, rvE, rvH, rvS, rvI, eT, eQ, ↓reduceIte, Nat.reduceEqDiff, Nat.reduceAdd, Nat.reduceSub, Nat.reduceMul, Nat.reduceLeDiff, Nat.reduceBEq, decide_true, decide_false, reduceCtorEq, Int.reduceLT, Int.reduceNeg, rvN, Nat.reduceLT, Int.reduceLE, Int.reduceEq, eq_self, List.reduceReplicate, rvF, rvG, e33, e31, e55, Try.f33, msgOk, h0, c0, h1, c1, h2, c2]
  cases c3 : inR a3 0 1000000
  · simp only [rv0, rv1, rvE, rvH, rvS, rvI, eT, eQ, ↓reduceIte, Nat.reduceEqDiff, Nat.reduceAdd, Nat.reduceSub, Nat.reduceMul, Nat.reduceLeDiff, Nat.reduceBEq, decide_true, decide_false, reduceCtorEq, Int.reduceLT, Int.reduceNeg, rvN, Nat.reduceLT, Int.reduceLE, Int.reduceEq, eq_self, List.reduceReplicate, rvF, rvG, e33, e31, e55, Try.f33, msgOk, h0, c0, h1, c1, h2, c2, h3, c3]
  cases c4 : inR a4 0 60
  · simp only [rv0, rv1, rvE, rvH, rvS, rvI, eT, eQ, ↓reduceIte, Nat.reduceEqDiff, Nat.reduceAdd, Nat.reduceSub, Nat.reduceMul, Nat.reduceLeDiff, Nat.reduceBEq, decide_true, decide_false, reduceCtorEq, Int.reduceLT, Int.reduceNeg, rvN, Nat.reduceLT, Int.reduceLE, Int.reduceEq, eq_self, List.reduceReplicate, rvF, rvG, e33, e31, e55, Try.f33, msgOk, h0, c0, h1, c1, h2, c2, h3, c3, h4, c4]
  cases c5 : inR a5 0 60
  · simp only [rv0, rv1, rvE, rvH, rvS, rvI, eT, eQ, ↓reduceIte, Nat.reduceEqDiff, Nat.reduceAdd, Nat.reduceSub, Nat.reduceMul, Nat.reduceLeDiff, Nat.reduceBEq, decide_true, decide_false, reduceCtorEq, Int.reduceLT, Int.reduceNeg, rvN, Nat.reduceLT, Int.reduceLE, Int.reduceEq, eq_self, List.reduceReplicate, rvF, rvG, e33, e31, e55, Try.f33, msgOk, h0, c0, h1, c1, h2, c2, h3, c3, h4, c4, h5, c5]
  cases c6 : decide ((t.size : Int) ≤ 100)
  · simp only [rv0, rv1, rvE, rvH, rvS, rvI, eT, eQ, ↓reduceIte, Nat.reduceEqDiff, Nat.reduceAdd, Nat.reduceSub, Nat.reduceMul, Nat.reduceLeDiff, Nat.reduceBEq, decide_true, decide_false, reduceCtorEq, Int.reduceLT, Int.reduceNeg, rvN, Nat.reduceLT, Int.reduceLE, Int.reduceEq, eq_self, List.reduceReplicate, rvF, rvG, e33, e31, e55, Try.f33, msgOk, h0, c0, h1, c1, h2, c2, h3, c3, h4, c4, h5, c5, c6]
  · simp only [rv0, rv1, rvE, rvH, rvS, rvI, eT, eQ, ↓reduceIte, Nat.reduceEqDiff, Nat.reduceAdd, Nat.reduceSub, Nat.reduceMul, Nat.reduceLeDiff, Nat.reduceBEq, decide_true, decide_false, reduceCtorEq, Int.reduceLT, Int.reduceNeg, rvN, Nat.reduceLT, Int.reduceLE, Int.reduceEq, eq_self, List.reduceReplicate, rvF, rvG, e33, e31, e55, Try.f33, msgOk, h0, c0, h1, c1, h2, c2, h3, c3, h4, c4, h5, c5, c6, hs]

end Go.Proofs.Ytnhgopjnnedhdaa

