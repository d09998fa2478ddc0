/- Marks on worlds (written by a program). -/
import Derived.Test.YtjcbojcnfdlfaaaF4w
namespace Go.Proofs.Ytjcbojcnfdlfaaa
open Go.Sx
set_option maxRecDepth 100000
set_option maxHeartbeats 4000000
set_option linter.unusedVariables false
set_option linter.unusedSimpArgs false
def mkRecorder (x : VRecorder) (k : Int) : VRecorder := ⟨k, k + 1, decide ((k + 1 + 1).tmod 3 = 0), ⟨k + 1 + 1 + 1, k + 1 + 1 + 1 + 1, mkL mkRecSlot mcRecSlot x.safe.slots (k + 1 + 1 + 1 + 1 + 1)⟩, ⟨k + 1 + 1 + 1 + 1 + 1 + (mcL mcRecSlot x.safe.slots : Nat), k + 1 + 1 + 1 + 1 + 1 + (mcL mcRecSlot x.safe.slots : Nat) + 1, mkL mkRecSlot mcRecSlot x.disk.slots (k + 1 + 1 + 1 + 1 + 1 + (mcL mcRecSlot x.safe.slots : Nat) + 1 + 1)⟩, mkL mkRecMessage mcRecMessage x.held (k + 1 + 1 + 1 + 1 + 1 + (mcL mcRecSlot x.safe.slots : Nat) + 1 + 1 + (mcL mcRecSlot x.disk.slots : Nat)), mkL mkString mcString x.wishes (k + 1 + 1 + 1 + 1 + 1 + (mcL mcRecSlot x.safe.slots : Nat) + 1 + 1 + (mcL mcRecSlot x.disk.slots : Nat) + (mcL mcRecMessage x.held : Nat)), decide ((k + 1 + 1 + 1 + 1 + 1 + (mcL mcRecSlot x.safe.slots : Nat) + 1 + 1 + (mcL mcRecSlot x.disk.slots : Nat) + (mcL mcRecMessage x.held : Nat) + (mcL mcString x.wishes : Nat)).tmod 3 = 0), decide ((k + 1 + 1 + 1 + 1 + 1 + (mcL mcRecSlot x.safe.slots : Nat) + 1 + 1 + (mcL mcRecSlot x.disk.slots : Nat) + (mcL mcRecMessage x.held : Nat) + (mcL mcString x.wishes : Nat) + 1).tmod 3 = 0), k + 1 + 1 + 1 + 1 + 1 + (mcL mcRecSlot x.safe.slots : Nat) + 1 + 1 + (mcL mcRecSlot x.disk.slots : Nat) + (mcL mcRecMessage x.held : Nat) + (mcL mcString x.wishes : Nat) + 1 + 1, mkL mkInt mcInt x.yes (k + 1 + 1 + 1 + 1 + 1 + (mcL mcRecSlot x.safe.slots : Nat) + 1 + 1 + (mcL mcRecSlot x.disk.slots : Nat) + (mcL mcRecMessage x.held : Nat) + (mcL mcString x.wishes : Nat) + 1 + 1 + 1), mkL mkRecSlot mcRecSlot x.best (k + 1 + 1 + 1 + 1 + 1 + (mcL mcRecSlot x.safe.slots : Nat) + 1 + 1 + (mcL mcRecSlot x.disk.slots : Nat) + (mcL mcRecMessage x.held : Nat) + (mcL mcString x.wishes : Nat) + 1 + 1 + 1 + (mcL mcInt x.yes : Nat)), mkL mkRecAck mcRecAck x.acks (k + 1 + 1 + 1 + 1 + 1 + (mcL mcRecSlot x.safe.slots : Nat) + 1 + 1 + (mcL mcRecSlot x.disk.slots : Nat) + (mcL mcRecMessage x.held : Nat) + (mcL mcString x.wishes : Nat) + 1 + 1 + 1 + (mcL mcInt x.yes : Nat) + (mcL mcRecSlot x.best : Nat)), k + 1 + 1 + 1 + 1 + 1 + (mcL mcRecSlot x.safe.slots : Nat) + 1 + 1 + (mcL mcRecSlot x.disk.slots : Nat) + (mcL mcRecMessage x.held : Nat) + (mcL mcString x.wishes : Nat) + 1 + 1 + 1 + (mcL mcInt x.yes : Nat) + (mcL mcRecSlot x.best : Nat) + (mcL mcRecAck x.acks : Nat)⟩
def mcRecorder (x : VRecorder) : Nat := 1 + 1 + 1 + 1 + 1 + mcL mcRecSlot x.safe.slots + 1 + 1 + mcL mcRecSlot x.disk.slots + mcL mcRecMessage x.held + mcL mcString x.wishes + 1 + 1 + 1 + mcL mcInt x.yes + mcL mcRecSlot x.best + mcL mcRecAck x.acks + 1
def mkRecFix (x : VRecFix) (k : Int) : VRecFix := ⟨k, mtx (k + 1)⟩
def mcRecFix (x : VRecFix) : Nat := 1 + 1
def moRecWorld (x : VRecWorld) (k : Int) : VRecWorld := ⟨mkL mkRecorder mcRecorder x.recorders (k), mkL mkRecMessage mcRecMessage x.flight (k + (mcL mcRecorder x.recorders : Nat)), mkL mkRecFix mcRecFix x.fixed (k + (mcL mcRecorder x.recorders : Nat) + (mcL mcRecMessage x.flight : Nat))⟩
def ocRecWorld (x : VRecWorld) : Nat := mcL mcRecorder x.recorders + mcL mcRecMessage x.flight + mcL mcRecFix x.fixed
theorem k_markRecorderS (l : List VRecorder) (k : Int) (h0 : 0 ≤ k) (hb : k + (mcL mcRecorder l : Nat) ≤ 4611686018427387904) : EV Try.prog E 137 [.val 0 false [.sl .own 18 (l.map (VRecorder.c .own))], .val 0 false [.p (.int .i64 k)]] = some ⟨[(false, [.p (.int .i64 (k + (mcL mcRecorder l : Nat)))])], [[.sl .own 18 ((mkL mkRecorder mcRecorder l k).map (VRecorder.c .own))]]⟩ := by
  have hlc := len_mcL mcRecorder (fun x => by unfold mcRecorder; omega) l
  refine EV_intro Try.func137 rfl ?_
  simp only [rv0, rv1, rv2, rv3, rv4, rv5, rv6, rv7, rv8, rv9, rv10, rvE, rvH, rvS, eT, ↓reduceIte, Nat.reduceEqDiff, Nat.reduceAdd, Nat.reduceSub, Nat.reduceMul, Nat.reduceLeDiff, Nat.reduceBEq, decide_true, decide_false, reduceCtorEq, Int.reduceLT, Int.reduceNeg, rvN, Nat.reduceLT, Int.reduceLE, Int.reduceEq, eq_self, List.reduceReplicate, rvF, rvG, e137, Try.f137]
  rw [for_block l (fun i (a : Int) => ⟨3, [(0, .val 0 false [.sl .own 18 ((mkTo mkRecorder mcRecorder i l k).map (VRecorder.c .own))]), (1, .val 1 false [.p (.int .i64 a)]), (5, .val 2 false [.p (.int .i64 i)])]⟩) (fun i a => a = kAt mcRecorder l k i)
      (fun r i a => .norm ⟨2, [(0, .val 0 false [.sl .own 18 ((mkL mkRecorder mcRecorder l k).map (VRecorder.c .own))]), (1, .val 1 false [.p (.int .i64 (k + (mcL mcRecorder l : Nat)))])]⟩) ?_ ?_ (a := k) (kAt_zero mcRecorder l k).symm (by simp only [rv0, rv1, rv2, rv3, rv4, rv5, rv6, rv7, rv8, rv9, rv10, rvE, rvH, rvS, eT, ↓reduceIte, Nat.reduceEqDiff, Nat.reduceAdd, Nat.reduceSub, Nat.reduceMul, Nat.reduceLeDiff, Nat.reduceBEq, decide_true, decide_false, reduceCtorEq, Int.reduceLT, Int.reduceNeg, rvN, Nat.reduceLT, Int.reduceLE, Int.reduceEq, eq_self, List.reduceReplicate, rvF, rvG, e137, mkTo_zero]; rfl)]
  · simp only [rv0, rv1, rv2, rv3, rv4, rv5, rv6, rv7, rv8, rv9, rv10, rvE, rvH, rvS, eT, ↓reduceIte, Nat.reduceEqDiff, Nat.reduceAdd, Nat.reduceSub, Nat.reduceMul, Nat.reduceLeDiff, Nat.reduceBEq, decide_true, decide_false, reduceCtorEq, Int.reduceLT, Int.reduceNeg, rvN, Nat.reduceLT, Int.reduceLE, Int.reduceEq, eq_self, List.reduceReplicate, rvF, rvG, e137]
  · rintro i s r a hd hi rfl
    have hlen := (List.getElem?_eq_some_iff.1 hi).1
    have hlt : ((i : Int) < (l.length : Int)) := by omega
    have hsu := kAt_succ mcRecorder hi k
    have hge := kAt_ge mcRecorder l k i
    have hle := kAt_le mcRecorder hi k
    have hwi := wrap64 (n := (i : Int) + 1) (by omega) (by omega)
    have hi0 : (0 : Int) ≤ (i : Int) := by omega
    have hr := getElem?_map_some (f := (VRecorder.c .own)) (mkTo_get mkRecorder mcRecorder hi k)
    have hst := mkTo_set mkRecorder mcRecorder hi k
    have hlm := mkTo_length mkRecorder mcRecorder i l k
    have hgs : ∀ z : List C, (((mkTo mkRecorder mcRecorder i l k).map (VRecorder.c .own)).set i z)[i]? = some z := fun z => List.getElem?_set_self (by rw [List.length_map, hlm]; exact hlen)
    generalize kAt mcRecorder l k i = a at *
    simp only [mcRecorder] at hsu hle
    simp only [VRecorder.c, mkRecorder] at hr
    have hw0 := wrap64 (n := a + 1) (by omega) (by omega)
    have hw1 := wrap64 (n := a + 1 + 1) (by omega) (by omega)
    have hw2 := wrap64 (n := a + 1 + 1 + 1) (by omega) (by omega)
    have hw3 := wrap64 (n := a + 1 + 1 + 1 + 1) (by omega) (by omega)
    have hw4 := wrap64 (n := a + 1 + 1 + 1 + 1 + 1) (by omega) (by omega)
    have hm5 := k_markRecSlotS s.safe.slots (a + 1 + 1 + 1 + 1 + 1) (by omega) (by omega)
    have hw6 := wrap64 (n := a + 1 + 1 + 1 + 1 + 1 + (mcL mcRecSlot s.safe.slots : Nat) + 1) (by omega) (by omega)
    have hw7 := wrap64 (n := a + 1 + 1 + 1 + 1 + 1 + (mcL mcRecSlot s.safe.slots : Nat) + 1 + 1) (by omega) (by omega)
    have hm8 := k_markRecSlotS s.disk.slots (a + 1 + 1 + 1 + 1 + 1 + (mcL mcRecSlot s.safe.slots : Nat) + 1 + 1) (by omega) (by omega)
    have hm9 := k_markRecMessageS s.held (a + 1 + 1 + 1 + 1 + 1 + (mcL mcRecSlot s.safe.slots : Nat) + 1 + 1 + (mcL mcRecSlot s.disk.slots : Nat)) (by omega) (by omega)
    have hm10 := k_markStringS s.wishes (a + 1 + 1 + 1 + 1 + 1 + (mcL mcRecSlot s.safe.slots : Nat) + 1 + 1 + (mcL mcRecSlot s.disk.slots : Nat) + (mcL mcRecMessage s.held : Nat)) (by omega) (by omega)
    have hw11 := wrap64 (n := a + 1 + 1 + 1 + 1 + 1 + (mcL mcRecSlot s.safe.slots : Nat) + 1 + 1 + (mcL mcRecSlot s.disk.slots : Nat) + (mcL mcRecMessage s.held : Nat) + (mcL mcString s.wishes : Nat) + 1) (by omega) (by omega)
    have hw12 := wrap64 (n := a + 1 + 1 + 1 + 1 + 1 + (mcL mcRecSlot s.safe.slots : Nat) + 1 + 1 + (mcL mcRecSlot s.disk.slots : Nat) + (mcL mcRecMessage s.held : Nat) + (mcL mcString s.wishes : Nat) + 1 + 1) (by omega) (by omega)
    have hw13 := wrap64 (n := a + 1 + 1 + 1 + 1 + 1 + (mcL mcRecSlot s.safe.slots : Nat) + 1 + 1 + (mcL mcRecSlot s.disk.slots : Nat) + (mcL mcRecMessage s.held : Nat) + (mcL mcString s.wishes : Nat) + 1 + 1 + 1) (by omega) (by omega)
    have hm14 := k_markIntS s.yes (a + 1 + 1 + 1 + 1 + 1 + (mcL mcRecSlot s.safe.slots : Nat) + 1 + 1 + (mcL mcRecSlot s.disk.slots : Nat) + (mcL mcRecMessage s.held : Nat) + (mcL mcString s.wishes : Nat) + 1 + 1 + 1) (by omega) (by omega)
    have hm15 := k_markRecSlotS s.best (a + 1 + 1 + 1 + 1 + 1 + (mcL mcRecSlot s.safe.slots : Nat) + 1 + 1 + (mcL mcRecSlot s.disk.slots : Nat) + (mcL mcRecMessage s.held : Nat) + (mcL mcString s.wishes : Nat) + 1 + 1 + 1 + (mcL mcInt s.yes : Nat)) (by omega) (by omega)
    have hm16 := k_markRecAckS s.acks (a + 1 + 1 + 1 + 1 + 1 + (mcL mcRecSlot s.safe.slots : Nat) + 1 + 1 + (mcL mcRecSlot s.disk.slots : Nat) + (mcL mcRecMessage s.held : Nat) + (mcL mcString s.wishes : Nat) + 1 + 1 + 1 + (mcL mcInt s.yes : Nat) + (mcL mcRecSlot s.best : Nat)) (by omega) (by omega)
    have hw17 := wrap64 (n := a + 1 + 1 + 1 + 1 + 1 + (mcL mcRecSlot s.safe.slots : Nat) + 1 + 1 + (mcL mcRecSlot s.disk.slots : Nat) + (mcL mcRecMessage s.held : Nat) + (mcL mcString s.wishes : Nat) + 1 + 1 + 1 + (mcL mcInt s.yes : Nat) + (mcL mcRecSlot s.best : Nat) + (mcL mcRecAck s.acks : Nat) + 1) (by omega) (by omega)
    left
    refine ⟨a + 1 + 1 + 1 + 1 + 1 + (mcL mcRecSlot s.safe.slots : Nat) + 1 + 1 + (mcL mcRecSlot s.disk.slots : Nat) + (mcL mcRecMessage s.held : Nat) + (mcL mcString s.wishes : Nat) + 1 + 1 + 1 + (mcL mcInt s.yes : Nat) + (mcL mcRecSlot s.best : Nat) + (mcL mcRecAck s.acks : Nat) + 1, ?_, by rw [hsu]; omega, rfl⟩
    rw [← hst]
    simp only [rv0, rv1, rv2, rv3, rv4, rv5, rv6, rv7, rv8, rv9, rv10, rvE, rvH, rvS, eT, ↓reduceIte, Nat.reduceEqDiff, Nat.reduceAdd, Nat.reduceSub, Nat.reduceMul, Nat.reduceLeDiff, Nat.reduceBEq, decide_true, decide_false, reduceCtorEq, Int.reduceLT, Int.reduceNeg, rvN, Nat.reduceLT, Int.reduceLE, Int.reduceEq, eq_self, List.reduceReplicate, rvF, rvG, e137, e105, e102, e103, e104, e106, hlt, hr, hwi, hi0, hlm, hlen, i64c, List.map_set, List.set_set, List.length_set, hgs, VRecorder.c, mkRecorder, hw0, hw1, hw2, hw3, hw4, hm5, hw6, hw7, hm8, hm9, hm10, hw11, hw12, hw13, hm14, hm15, hm16, hw17, rowsRecSlot, rowsRecMessage, rowsString, rowsInt, rowsRecAck]
  · rintro a rfl
    simp only [rv0, rv1, rv2, rv3, rv4, rv5, rv6, rv7, rv8, rv9, rv10, rvE, rvH, rvS, eT, ↓reduceIte, Nat.reduceEqDiff, Nat.reduceAdd, Nat.reduceSub, Nat.reduceMul, Nat.reduceLeDiff, Nat.reduceBEq, decide_true, decide_false, reduceCtorEq, Int.reduceLT, Int.reduceNeg, rvN, Nat.reduceLT, Int.reduceLE, Int.reduceEq, eq_self, List.reduceReplicate, rvF, rvG, e137, kAt_all, mkTo_all, mkL_length]
theorem k_markRecFixS (l : List VRecFix) (k : Int) (h0 : 0 ≤ k) (hb : k + (mcL mcRecFix l : Nat) ≤ 4611686018427387904) : EV Try.prog E 138 [.val 0 false [.sl .own 2 (l.map VRecFix.c)], .val 0 false [.p (.int .i64 k)]] = some ⟨[(false, [.p (.int .i64 (k + (mcL mcRecFix l : Nat)))])], [[.sl .own 2 ((mkL mkRecFix mcRecFix l k).map VRecFix.c)]]⟩ := by
  have hlc := len_mcL mcRecFix (fun x => by unfold mcRecFix; omega) l
  refine EV_intro Try.func138 rfl ?_
  simp only [rv0, rv1, rv2, rv3, rv4, rv5, rv6, rv7, rv8, rv9, rv10, rvE, rvH, rvS, eT, ↓reduceIte, Nat.reduceEqDiff, Nat.reduceAdd, Nat.reduceSub, Nat.reduceMul, Nat.reduceLeDiff, Nat.reduceBEq, decide_true, decide_false, reduceCtorEq, Int.reduceLT, Int.reduceNeg, rvN, Nat.reduceLT, Int.reduceLE, Int.reduceEq, eq_self, List.reduceReplicate, rvF, rvG, e138, Try.f138]
  rw [for_block l (fun i (a : Int) => ⟨3, [(0, .val 0 false [.sl .own 2 ((mkTo mkRecFix mcRecFix i l k).map VRecFix.c)]), (1, .val 1 false [.p (.int .i64 a)]), (5, .val 2 false [.p (.int .i64 i)])]⟩) (fun i a => a = kAt mcRecFix l k i)
      (fun r i a => .norm ⟨2, [(0, .val 0 false [.sl .own 2 ((mkL mkRecFix mcRecFix l k).map VRecFix.c)]), (1, .val 1 false [.p (.int .i64 (k + (mcL mcRecFix l : Nat)))])]⟩) ?_ ?_ (a := k) (kAt_zero mcRecFix l k).symm (by simp only [rv0, rv1, rv2, rv3, rv4, rv5, rv6, rv7, rv8, rv9, rv10, rvE, rvH, rvS, eT, ↓reduceIte, Nat.reduceEqDiff, Nat.reduceAdd, Nat.reduceSub, Nat.reduceMul, Nat.reduceLeDiff, Nat.reduceBEq, decide_true, decide_false, reduceCtorEq, Int.reduceLT, Int.reduceNeg, rvN, Nat.reduceLT, Int.reduceLE, Int.reduceEq, eq_self, List.reduceReplicate, rvF, rvG, e138, mkTo_zero]; rfl)]
  · simp only [rv0, rv1, rv2, rv3, rv4, rv5, rv6, rv7, rv8, rv9, rv10, rvE, rvH, rvS, eT, ↓reduceIte, Nat.reduceEqDiff, Nat.reduceAdd, Nat.reduceSub, Nat.reduceMul, Nat.reduceLeDiff, Nat.reduceBEq, decide_true, decide_false, reduceCtorEq, Int.reduceLT, Int.reduceNeg, rvN, Nat.reduceLT, Int.reduceLE, Int.reduceEq, eq_self, List.reduceReplicate, rvF, rvG, e138]
  · rintro i s r a hd hi rfl
    have hlen := (List.getElem?_eq_some_iff.1 hi).1
    have hlt : ((i : Int) < (l.length : Int)) := by omega
    have hsu := kAt_succ mcRecFix hi k
    have hge := kAt_ge mcRecFix l k i
    have hle := kAt_le mcRecFix hi k
    have hwi := wrap64 (n := (i : Int) + 1) (by omega) (by omega)
    have hi0 : (0 : Int) ≤ (i : Int) := by omega
    have hr := getElem?_map_some (f := VRecFix.c) (mkTo_get mkRecFix mcRecFix hi k)
    have hst := mkTo_set mkRecFix mcRecFix hi k
    have hlm := mkTo_length mkRecFix mcRecFix i l k
    have hgs : ∀ z : List C, (((mkTo mkRecFix mcRecFix i l k).map VRecFix.c).set i z)[i]? = some z := fun z => List.getElem?_set_self (by rw [List.length_map, hlm]; exact hlen)
    generalize kAt mcRecFix l k i = a at *
    simp only [mcRecFix] at hsu hle
    simp only [VRecFix.c, mkRecFix] at hr
    have hw0 := wrap64 (n := a + 1) (by omega) (by omega)
    have hm1 := k_markText (a + 1) (by omega) (by omega)
    have hw1 := wrap64 (n := a + 1 + 1) (by omega) (by omega)
    left
    refine ⟨a + 1 + 1, ?_, by rw [hsu]; omega, rfl⟩
    rw [← hst]
    simp only [rv0, rv1, rv2, rv3, rv4, rv5, rv6, rv7, rv8, rv9, rv10, rvE, rvH, rvS, eT, ↓reduceIte, Nat.reduceEqDiff, Nat.reduceAdd, Nat.reduceSub, Nat.reduceMul, Nat.reduceLeDiff, Nat.reduceBEq, decide_true, decide_false, reduceCtorEq, Int.reduceLT, Int.reduceNeg, rvN, Nat.reduceLT, Int.reduceLE, Int.reduceEq, eq_self, List.reduceReplicate, rvF, rvG, e138, e139, hlt, hr, hwi, hi0, hlm, hlen, i64c, List.map_set, List.set_set, List.length_set, hgs, VRecFix.c, mkRecFix, hw0, hm1, hw1]
  · rintro a rfl
    simp only [rv0, rv1, rv2, rv3, rv4, rv5, rv6, rv7, rv8, rv9, rv10, rvE, rvH, rvS, eT, ↓reduceIte, Nat.reduceEqDiff, Nat.reduceAdd, Nat.reduceSub, Nat.reduceMul, Nat.reduceLeDiff, Nat.reduceBEq, decide_true, decide_false, reduceCtorEq, Int.reduceLT, Int.reduceNeg, rvN, Nat.reduceLT, Int.reduceLE, Int.reduceEq, eq_self, List.reduceReplicate, rvF, rvG, e138, kAt_all, mkTo_all, mkL_length]
theorem k_markRecWorld (x : VRecWorld) (k : Int) (h0 : 0 ≤ k) (hb : k + (ocRecWorld x : Nat) ≤ 4611686018427387904) : EV Try.prog E 65 [.val 0 true (VRecWorld.c .own x), .val 0 false [.p (.int .i64 k)]] = some ⟨[(false, [.p (.int .i64 (k + (ocRecWorld x : Nat)))])], [VRecWorld.c .own (moRecWorld x k)]⟩ := by
  refine EV_intro Try.func65 rfl ?_
  unfold ocRecWorld at hb ⊢
  have hm0 := k_markRecorderS x.recorders (k) (by omega) (by omega)
  have hm1 := k_markRecMessageS x.flight (k + (mcL mcRecorder x.recorders : Nat)) (by omega) (by omega)
  have hm2 := k_markRecFixS x.fixed (k + (mcL mcRecorder x.recorders : Nat) + (mcL mcRecMessage x.flight : Nat)) (by omega) (by omega)
  have he : k + ((mcL mcRecorder x.recorders + mcL mcRecMessage x.flight + mcL mcRecFix x.fixed : Nat) : Int) = k + (mcL mcRecorder x.recorders : Nat) + (mcL mcRecMessage x.flight : Nat) + (mcL mcRecFix x.fixed : Nat) := by omega
  rw [he]
  simp only [rv0, rv1, rv2, rv3, rv4, rv5, rv6, rv7, rv8, rv9, rv10, rvE, rvH, rvS, eT, ↓reduceIte, Nat.reduceEqDiff, Nat.reduceAdd, Nat.reduceSub, Nat.reduceMul, Nat.reduceLeDiff, Nat.reduceBEq, decide_true, decide_false, reduceCtorEq, Int.reduceLT, Int.reduceNeg, rvN, Nat.reduceLT, Int.reduceLE, Int.reduceEq, eq_self, List.reduceReplicate, rvF, rvG, e65, e137, e102, e138, Try.f65, VRecWorld.c, moRecWorld, hm0, hm1, hm2, rowsRecorder, rowsRecMessage, rowsRecFix]
theorem k_heldRecorderS (l : List VRecorder) (k : Int) (h0 : 0 ≤ k) (hb : k + (mcL mcRecorder l : Nat) ≤ 4611686018427387904) : EV Try.prog E 142 [.val 0 false [.sl .shr 18 ((mkL mkRecorder mcRecorder l k).map (VRecorder.c .shr))], .val 0 false [.p (.int .i64 k)]] = some ⟨[(false, [.p (.int .i64 (k + (mcL mcRecorder l : Nat)))])], []⟩ := by
  have hlc := len_mcL mcRecorder (fun x => by unfold mcRecorder; omega) l
  refine EV_intro Try.func142 rfl ?_
  simp only [rv0, rv1, rv2, rv3, rv4, rv5, rv6, rv7, rv8, rv9, rv10, rvE, rvH, rvS, eT, ↓reduceIte, Nat.reduceEqDiff, Nat.reduceAdd, Nat.reduceSub, Nat.reduceMul, Nat.reduceLeDiff, Nat.reduceBEq, decide_true, decide_false, reduceCtorEq, Int.reduceLT, Int.reduceNeg, rvN, Nat.reduceLT, Int.reduceLE, Int.reduceEq, eq_self, List.reduceReplicate, rvF, rvG, e142, Try.f142]
  rw [for_block l (fun i (a : Int) => ⟨3, [(0, .val 0 false [.sl .shr 18 ((mkL mkRecorder mcRecorder l k).map (VRecorder.c .shr))]), (1, .val 1 false [.p (.int .i64 a)]), (5, .val 2 false [.p (.int .i64 i)])]⟩) (fun i a => a = kAt mcRecorder l k i)
      (fun r i a => .norm ⟨1, [(1, .val 0 false [.p (.int .i64 (k + (mcL mcRecorder l : Nat)))])]⟩) ?_ ?_ (a := k) (kAt_zero mcRecorder l k).symm (by simp only [rv0, rv1, rv2, rv3, rv4, rv5, rv6, rv7, rv8, rv9, rv10, rvE, rvH, rvS, eT, ↓reduceIte, Nat.reduceEqDiff, Nat.reduceAdd, Nat.reduceSub, Nat.reduceMul, Nat.reduceLeDiff, Nat.reduceBEq, decide_true, decide_false, reduceCtorEq, Int.reduceLT, Int.reduceNeg, rvN, Nat.reduceLT, Int.reduceLE, Int.reduceEq, eq_self, List.reduceReplicate, rvF, rvG, e142]; rfl)]
  · simp only [rv0, rv1, rv2, rv3, rv4, rv5, rv6, rv7, rv8, rv9, rv10, rvE, rvH, rvS, eT, ↓reduceIte, Nat.reduceEqDiff, Nat.reduceAdd, Nat.reduceSub, Nat.reduceMul, Nat.reduceLeDiff, Nat.reduceBEq, decide_true, decide_false, reduceCtorEq, Int.reduceLT, Int.reduceNeg, rvN, Nat.reduceLT, Int.reduceLE, Int.reduceEq, eq_self, List.reduceReplicate, rvF, rvG, e142]
  · rintro i s r a hd hi rfl
    have hlen := (List.getElem?_eq_some_iff.1 hi).1
    have hlt : ((i : Int) < (l.length : Int)) := by omega
    have hsu := kAt_succ mcRecorder hi k
    have hge := kAt_ge mcRecorder l k i
    have hle := kAt_le mcRecorder hi k
    have hwi := wrap64 (n := (i : Int) + 1) (by omega) (by omega)
    have hi0 : (0 : Int) ≤ (i : Int) := by omega
    have hr := getElem?_map_some (f := (VRecorder.c .shr)) (mkL_get mkRecorder mcRecorder hi k)
    have hlm := mkL_length mkRecorder mcRecorder l k
    generalize kAt mcRecorder l k i = a at *
    simp only [mcRecorder] at hsu hle
    simp only [VRecorder.c, mkRecorder] at hr
    have hw0 := wrap64 (n := a + 1) (by omega) (by omega)
    have hw1 := wrap64 (n := a + 1 + 1) (by omega) (by omega)
    have hw2 := wrap64 (n := a + 1 + 1 + 1) (by omega) (by omega)
    have hw3 := wrap64 (n := a + 1 + 1 + 1 + 1) (by omega) (by omega)
    have hw4 := wrap64 (n := a + 1 + 1 + 1 + 1 + 1) (by omega) (by omega)
    have hm5 := k_heldRecSlotS s.safe.slots (a + 1 + 1 + 1 + 1 + 1) (by omega) (by omega)
    have hn5 : ¬ (a + 1 + 1 + 1 + 1 + 1 + (mcL mcRecSlot s.safe.slots : Nat) < 0) := by omega
    have hw6 := wrap64 (n := a + 1 + 1 + 1 + 1 + 1 + (mcL mcRecSlot s.safe.slots : Nat) + 1) (by omega) (by omega)
    have hw7 := wrap64 (n := a + 1 + 1 + 1 + 1 + 1 + (mcL mcRecSlot s.safe.slots : Nat) + 1 + 1) (by omega) (by omega)
    have hm8 := k_heldRecSlotS s.disk.slots (a + 1 + 1 + 1 + 1 + 1 + (mcL mcRecSlot s.safe.slots : Nat) + 1 + 1) (by omega) (by omega)
    have hn8 : ¬ (a + 1 + 1 + 1 + 1 + 1 + (mcL mcRecSlot s.safe.slots : Nat) + 1 + 1 + (mcL mcRecSlot s.disk.slots : Nat) < 0) := by omega
    have hm9 := k_heldRecMessageS s.held (a + 1 + 1 + 1 + 1 + 1 + (mcL mcRecSlot s.safe.slots : Nat) + 1 + 1 + (mcL mcRecSlot s.disk.slots : Nat)) (by omega) (by omega)
    have hn9 : ¬ (a + 1 + 1 + 1 + 1 + 1 + (mcL mcRecSlot s.safe.slots : Nat) + 1 + 1 + (mcL mcRecSlot s.disk.slots : Nat) + (mcL mcRecMessage s.held : Nat) < 0) := by omega
    have hm10 := k_heldStringS s.wishes (a + 1 + 1 + 1 + 1 + 1 + (mcL mcRecSlot s.safe.slots : Nat) + 1 + 1 + (mcL mcRecSlot s.disk.slots : Nat) + (mcL mcRecMessage s.held : Nat)) (by omega) (by omega)
    have hn10 : ¬ (a + 1 + 1 + 1 + 1 + 1 + (mcL mcRecSlot s.safe.slots : Nat) + 1 + 1 + (mcL mcRecSlot s.disk.slots : Nat) + (mcL mcRecMessage s.held : Nat) + (mcL mcString s.wishes : Nat) < 0) := by omega
    have hw11 := wrap64 (n := a + 1 + 1 + 1 + 1 + 1 + (mcL mcRecSlot s.safe.slots : Nat) + 1 + 1 + (mcL mcRecSlot s.disk.slots : Nat) + (mcL mcRecMessage s.held : Nat) + (mcL mcString s.wishes : Nat) + 1) (by omega) (by omega)
    have hw12 := wrap64 (n := a + 1 + 1 + 1 + 1 + 1 + (mcL mcRecSlot s.safe.slots : Nat) + 1 + 1 + (mcL mcRecSlot s.disk.slots : Nat) + (mcL mcRecMessage s.held : Nat) + (mcL mcString s.wishes : Nat) + 1 + 1) (by omega) (by omega)
    have hw13 := wrap64 (n := a + 1 + 1 + 1 + 1 + 1 + (mcL mcRecSlot s.safe.slots : Nat) + 1 + 1 + (mcL mcRecSlot s.disk.slots : Nat) + (mcL mcRecMessage s.held : Nat) + (mcL mcString s.wishes : Nat) + 1 + 1 + 1) (by omega) (by omega)
    have hm14 := k_heldIntS s.yes (a + 1 + 1 + 1 + 1 + 1 + (mcL mcRecSlot s.safe.slots : Nat) + 1 + 1 + (mcL mcRecSlot s.disk.slots : Nat) + (mcL mcRecMessage s.held : Nat) + (mcL mcString s.wishes : Nat) + 1 + 1 + 1) (by omega) (by omega)
    have hn14 : ¬ (a + 1 + 1 + 1 + 1 + 1 + (mcL mcRecSlot s.safe.slots : Nat) + 1 + 1 + (mcL mcRecSlot s.disk.slots : Nat) + (mcL mcRecMessage s.held : Nat) + (mcL mcString s.wishes : Nat) + 1 + 1 + 1 + (mcL mcInt s.yes : Nat) < 0) := by omega
    have hm15 := k_heldRecSlotS s.best (a + 1 + 1 + 1 + 1 + 1 + (mcL mcRecSlot s.safe.slots : Nat) + 1 + 1 + (mcL mcRecSlot s.disk.slots : Nat) + (mcL mcRecMessage s.held : Nat) + (mcL mcString s.wishes : Nat) + 1 + 1 + 1 + (mcL mcInt s.yes : Nat)) (by omega) (by omega)
    have hn15 : ¬ (a + 1 + 1 + 1 + 1 + 1 + (mcL mcRecSlot s.safe.slots : Nat) + 1 + 1 + (mcL mcRecSlot s.disk.slots : Nat) + (mcL mcRecMessage s.held : Nat) + (mcL mcString s.wishes : Nat) + 1 + 1 + 1 + (mcL mcInt s.yes : Nat) + (mcL mcRecSlot s.best : Nat) < 0) := by omega
    have hm16 := k_heldRecAckS s.acks (a + 1 + 1 + 1 + 1 + 1 + (mcL mcRecSlot s.safe.slots : Nat) + 1 + 1 + (mcL mcRecSlot s.disk.slots : Nat) + (mcL mcRecMessage s.held : Nat) + (mcL mcString s.wishes : Nat) + 1 + 1 + 1 + (mcL mcInt s.yes : Nat) + (mcL mcRecSlot s.best : Nat)) (by omega) (by omega)
    have hn16 : ¬ (a + 1 + 1 + 1 + 1 + 1 + (mcL mcRecSlot s.safe.slots : Nat) + 1 + 1 + (mcL mcRecSlot s.disk.slots : Nat) + (mcL mcRecMessage s.held : Nat) + (mcL mcString s.wishes : Nat) + 1 + 1 + 1 + (mcL mcInt s.yes : Nat) + (mcL mcRecSlot s.best : Nat) + (mcL mcRecAck s.acks : Nat) < 0) := by omega
    have hw17 := wrap64 (n := a + 1 + 1 + 1 + 1 + 1 + (mcL mcRecSlot s.safe.slots : Nat) + 1 + 1 + (mcL mcRecSlot s.disk.slots : Nat) + (mcL mcRecMessage s.held : Nat) + (mcL mcString s.wishes : Nat) + 1 + 1 + 1 + (mcL mcInt s.yes : Nat) + (mcL mcRecSlot s.best : Nat) + (mcL mcRecAck s.acks : Nat) + 1) (by omega) (by omega)
    left
    refine ⟨a + 1 + 1 + 1 + 1 + 1 + (mcL mcRecSlot s.safe.slots : Nat) + 1 + 1 + (mcL mcRecSlot s.disk.slots : Nat) + (mcL mcRecMessage s.held : Nat) + (mcL mcString s.wishes : Nat) + 1 + 1 + 1 + (mcL mcInt s.yes : Nat) + (mcL mcRecSlot s.best : Nat) + (mcL mcRecAck s.acks : Nat) + 1, ?_, by rw [hsu]; omega, rfl⟩
    simp only [rv0, rv1, rv2, rv3, rv4, rv5, rv6, rv7, rv8, rv9, rv10, rvE, rvH, rvS, eT, ↓reduceIte, Nat.reduceEqDiff, Nat.reduceAdd, Nat.reduceSub, Nat.reduceMul, Nat.reduceLeDiff, Nat.reduceBEq, decide_true, decide_false, reduceCtorEq, Int.reduceLT, Int.reduceNeg, rvN, Nat.reduceLT, Int.reduceLE, Int.reduceEq, eq_self, List.reduceReplicate, rvF, rvG, e142, e111, e108, e109, e110, e112, hlt, hr, hwi, hi0, hlm, hlen, i64c, hw0, hw1, hw2, hw3, hw4, hm5, hn5, hw6, hw7, hm8, hn8, hm9, hn9, hm10, hn10, hw11, hw12, hw13, hm14, hn14, hm15, hn15, hm16, hn16, hw17, rowsRecSlot, rowsRecMessage, rowsString, rowsInt, rowsRecAck, beq_self_eq_true]
  · rintro a rfl
    simp only [rv0, rv1, rv2, rv3, rv4, rv5, rv6, rv7, rv8, rv9, rv10, rvE, rvH, rvS, eT, ↓reduceIte, Nat.reduceEqDiff, Nat.reduceAdd, Nat.reduceSub, Nat.reduceMul, Nat.reduceLeDiff, Nat.reduceBEq, decide_true, decide_false, reduceCtorEq, Int.reduceLT, Int.reduceNeg, rvN, Nat.reduceLT, Int.reduceLE, Int.reduceEq, eq_self, List.reduceReplicate, rvF, rvG, e142, kAt_all, mkL_length]
theorem k_heldRecFixS (l : List VRecFix) (k : Int) (h0 : 0 ≤ k) (hb : k + (mcL mcRecFix l : Nat) ≤ 4611686018427387904) : EV Try.prog E 143 [.val 0 false [.sl .shr 2 ((mkL mkRecFix mcRecFix l k).map VRecFix.c)], .val 0 false [.p (.int .i64 k)]] = some ⟨[(false, [.p (.int .i64 (k + (mcL mcRecFix l : Nat)))])], []⟩ := by
  have hlc := len_mcL mcRecFix (fun x => by unfold mcRecFix; omega) l
  refine EV_intro Try.func143 rfl ?_
  simp only [rv0, rv1, rv2, rv3, rv4, rv5, rv6, rv7, rv8, rv9, rv10, rvE, rvH, rvS, eT, ↓reduceIte, Nat.reduceEqDiff, Nat.reduceAdd, Nat.reduceSub, Nat.reduceMul, Nat.reduceLeDiff, Nat.reduceBEq, decide_true, decide_false, reduceCtorEq, Int.reduceLT, Int.reduceNeg, rvN, Nat.reduceLT, Int.reduceLE, Int.reduceEq, eq_self, List.reduceReplicate, rvF, rvG, e143, Try.f143]
  rw [for_block l (fun i (a : Int) => ⟨3, [(0, .val 0 false [.sl .shr 2 ((mkL mkRecFix mcRecFix l k).map VRecFix.c)]), (1, .val 1 false [.p (.int .i64 a)]), (5, .val 2 false [.p (.int .i64 i)])]⟩) (fun i a => a = kAt mcRecFix l k i)
      (fun r i a => .norm ⟨1, [(1, .val 0 false [.p (.int .i64 (k + (mcL mcRecFix l : Nat)))])]⟩) ?_ ?_ (a := k) (kAt_zero mcRecFix l k).symm (by simp only [rv0, rv1, rv2, rv3, rv4, rv5, rv6, rv7, rv8, rv9, rv10, rvE, rvH, rvS, eT, ↓reduceIte, Nat.reduceEqDiff, Nat.reduceAdd, Nat.reduceSub, Nat.reduceMul, Nat.reduceLeDiff, Nat.reduceBEq, decide_true, decide_false, reduceCtorEq, Int.reduceLT, Int.reduceNeg, rvN, Nat.reduceLT, Int.reduceLE, Int.reduceEq, eq_self, List.reduceReplicate, rvF, rvG, e143]; rfl)]
  · simp only [rv0, rv1, rv2, rv3, rv4, rv5, rv6, rv7, rv8, rv9, rv10, rvE, rvH, rvS, eT, ↓reduceIte, Nat.reduceEqDiff, Nat.reduceAdd, Nat.reduceSub, Nat.reduceMul, Nat.reduceLeDiff, Nat.reduceBEq, decide_true, decide_false, reduceCtorEq, Int.reduceLT, Int.reduceNeg, rvN, Nat.reduceLT, Int.reduceLE, Int.reduceEq, eq_self, List.reduceReplicate, rvF, rvG, e143]
  · rintro i s r a hd hi rfl
    have hlen := (List.getElem?_eq_some_iff.1 hi).1
    have hlt : ((i : Int) < (l.length : Int)) := by omega
    have hsu := kAt_succ mcRecFix hi k
    have hge := kAt_ge mcRecFix l k i
    have hle := kAt_le mcRecFix hi k
    have hwi := wrap64 (n := (i : Int) + 1) (by omega) (by omega)
    have hi0 : (0 : Int) ≤ (i : Int) := by omega
    have hr := getElem?_map_some (f := VRecFix.c) (mkL_get mkRecFix mcRecFix hi k)
    have hlm := mkL_length mkRecFix mcRecFix l k
    generalize kAt mcRecFix l k i = a at *
    simp only [mcRecFix] at hsu hle
    simp only [VRecFix.c, mkRecFix] at hr
    have hw0 := wrap64 (n := a + 1) (by omega) (by omega)
    have hm1 := k_markText (a + 1) (by omega) (by omega)
    have hw1 := wrap64 (n := a + 1 + 1) (by omega) (by omega)
    left
    refine ⟨a + 1 + 1, ?_, by rw [hsu]; omega, rfl⟩
    simp only [rv0, rv1, rv2, rv3, rv4, rv5, rv6, rv7, rv8, rv9, rv10, rvE, rvH, rvS, eT, ↓reduceIte, Nat.reduceEqDiff, Nat.reduceAdd, Nat.reduceSub, Nat.reduceMul, Nat.reduceLeDiff, Nat.reduceBEq, decide_true, decide_false, reduceCtorEq, Int.reduceLT, Int.reduceNeg, rvN, Nat.reduceLT, Int.reduceLE, Int.reduceEq, eq_self, List.reduceReplicate, rvF, rvG, e143, e139, hlt, hr, hwi, hi0, hlm, hlen, i64c, hw0, hm1, hw1, beq_self_eq_true]
  · rintro a rfl
    simp only [rv0, rv1, rv2, rv3, rv4, rv5, rv6, rv7, rv8, rv9, rv10, rvE, rvH, rvS, eT, ↓reduceIte, Nat.reduceEqDiff, Nat.reduceAdd, Nat.reduceSub, Nat.reduceMul, Nat.reduceLeDiff, Nat.reduceBEq, decide_true, decide_false, reduceCtorEq, Int.reduceLT, Int.reduceNeg, rvN, Nat.reduceLT, Int.reduceLE, Int.reduceEq, eq_self, List.reduceReplicate, rvF, rvG, e143, kAt_all, mkL_length]
theorem k_heldRecWorld (x : VRecWorld) (k : Int) (h0 : 0 ≤ k) (hb : k + (ocRecWorld x : Nat) ≤ 4611686018427387904) : EV Try.prog E 67 [.val 0 true (VRecWorld.c .shr (moRecWorld x k)), .val 0 false [.p (.int .i64 k)]] = some ⟨[(false, [.p (.int .i64 (k + (ocRecWorld x : Nat)))])], []⟩ := by
  refine EV_intro Try.func67 rfl ?_
  unfold ocRecWorld at hb ⊢
  have hm0 := k_heldRecorderS x.recorders (k) (by omega) (by omega)
  have hn0 : ¬ (k + (mcL mcRecorder x.recorders : Nat) < 0) := by omega
  have hm1 := k_heldRecMessageS x.flight (k + (mcL mcRecorder x.recorders : Nat)) (by omega) (by omega)
  have hn1 : ¬ (k + (mcL mcRecorder x.recorders : Nat) + (mcL mcRecMessage x.flight : Nat) < 0) := by omega
  have hm2 := k_heldRecFixS x.fixed (k + (mcL mcRecorder x.recorders : Nat) + (mcL mcRecMessage x.flight : Nat)) (by omega) (by omega)
  have hn2 : ¬ (k + (mcL mcRecorder x.recorders : Nat) + (mcL mcRecMessage x.flight : Nat) + (mcL mcRecFix x.fixed : Nat) < 0) := by omega
  have he : k + ((mcL mcRecorder x.recorders + mcL mcRecMessage x.flight + mcL mcRecFix x.fixed : Nat) : Int) = k + (mcL mcRecorder x.recorders : Nat) + (mcL mcRecMessage x.flight : Nat) + (mcL mcRecFix x.fixed : Nat) := by omega
  rw [he]
  simp only [rv0, rv1, rv2, rv3, rv4, rv5, rv6, rv7, rv8, rv9, rv10, rvE, rvH, rvS, eT, ↓reduceIte, Nat.reduceEqDiff, Nat.reduceAdd, Nat.reduceSub, Nat.reduceMul, Nat.reduceLeDiff, Nat.reduceBEq, decide_true, decide_false, reduceCtorEq, Int.reduceLT, Int.reduceNeg, rvN, Nat.reduceLT, Int.reduceLE, Int.reduceEq, eq_self, List.reduceReplicate, rvF, rvG, e67, e142, e108, e143, Try.f67, VRecWorld.c, moRecWorld, hm0, hn0, hm1, hn1, hm2, hn2, rowsRecorder, rowsRecMessage, rowsRecFix]
theorem mc_leRecorder (x : VRecorder) : mcRecorder x ≤ 11 + 11 * x.w := by
  have h0 := mcL_leRecSlot x.safe.slots
  have h1 := mcL_leRecSlot x.disk.slots
  have h2 := mcL_leRecMessage x.held
  have h3 := mcL_leString x.wishes
  have h4 := mcL_leInt x.yes
  have h5 := mcL_leRecSlot x.best
  have h6 := mcL_leRecAck x.acks
  unfold mcRecorder VRecorder.w VRecDisk.w
  omega
theorem mcL_leRecorder (l : List VRecorder) : mcL mcRecorder l ≤ 11 * wSRecorder l := by
  unfold wSRecorder
  induction l with
  | nil => simp [mcL]
  | cons x r ih =>
    have := mc_leRecorder x
    simp only [mcL, sumWRecorder, List.length_cons]
    omega
theorem mc_leRecFix (x : VRecFix) : mcRecFix x ≤ 2 + 2 * x.w := by
  unfold mcRecFix VRecFix.w
  omega
theorem mcL_leRecFix (l : List VRecFix) : mcL mcRecFix l ≤ 2 * wSRecFix l := by
  unfold wSRecFix
  induction l with
  | nil => simp [mcL]
  | cons x r ih =>
    have := mc_leRecFix x
    simp only [mcL, sumWRecFix, List.length_cons]
    omega
theorem oc_leRecWorld (x : VRecWorld) : ocRecWorld x ≤ 11 * x.w := by
  have h0 := mcL_leRecorder x.recorders
  have h1 := mcL_leRecMessage x.flight
  have h2 := mcL_leRecFix x.fixed
  unfold ocRecWorld VRecWorld.w
  omega
end Go.Proofs.Ytjcbojcnfdlfaaa
