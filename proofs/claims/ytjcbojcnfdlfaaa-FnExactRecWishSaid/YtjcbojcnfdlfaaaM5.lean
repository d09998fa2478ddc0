/- Marks on recorders (written by a program). -/
import Derived.Test.YtjcbojcnfdlfaaaF5
namespace Go.Proofs.Ytjcbojcnfdlfaaa
open Go.Sx
set_option maxRecDepth 100000
set_option maxHeartbeats 4000000
set_option linter.unusedVariables false
set_option linter.unusedSimpArgs false
def mkRecSlot (x : VRecSlot) (k : Int) : VRecSlot := ⟨k, mtx (k + 1)⟩
def mcRecSlot (x : VRecSlot) : Nat := 1 + 1
def moRecDisk (x : VRecDisk) (k : Int) : VRecDisk := ⟨x.promise, x.known, mkL mkRecSlot mcRecSlot x.slots (k)⟩
def ocRecDisk (x : VRecDisk) : Nat := mcL mcRecSlot x.slots
def mkRecMessage (x : VRecMessage) (k : Int) : VRecMessage := ⟨k, k + 1, k + 1 + 1, k + 1 + 1 + 1, k + 1 + 1 + 1 + 1, k + 1 + 1 + 1 + 1 + 1, mtx (k + 1 + 1 + 1 + 1 + 1 + 1), mkL mkRecSlot mcRecSlot x.slots (k + 1 + 1 + 1 + 1 + 1 + 1 + 1)⟩
def mcRecMessage (x : VRecMessage) : Nat := 1 + 1 + 1 + 1 + 1 + 1 + 1 + mcL mcRecSlot x.slots
def mkString (_ : ByteArray) (k : Int) : ByteArray := mtx k
def mcString (_ : ByteArray) : Nat := 1
def mkInt (_ : Int) (k : Int) : Int := k
def mcInt (_ : Int) : Nat := 1
def mkRecAck (x : VRecAck) (k : Int) : VRecAck := ⟨k, mkL mkInt mcInt x.from_ (k + 1)⟩
def mcRecAck (x : VRecAck) : Nat := 1 + mcL mcInt x.from_
def moRecorder (x : VRecorder) (k : Int) : VRecorder := ⟨x.number, x.of_, x.up, moRecDisk x.safe (k), moRecDisk x.disk (k + (ocRecDisk x.safe : Nat)), mkL mkRecMessage mcRecMessage x.held (k + (ocRecDisk x.safe : Nat) + (ocRecDisk x.disk : Nat)), mkL mkString mcString x.wishes (k + (ocRecDisk x.safe : Nat) + (ocRecDisk x.disk : Nat) + (mcL mcRecMessage x.held : Nat)), x.lead, x.trying, x.ballot, mkL mkInt mcInt x.yes (k + (ocRecDisk x.safe : Nat) + (ocRecDisk x.disk : Nat) + (mcL mcRecMessage x.held : Nat) + (mcL mcString x.wishes : Nat)), mkL mkRecSlot mcRecSlot x.best (k + (ocRecDisk x.safe : Nat) + (ocRecDisk x.disk : Nat) + (mcL mcRecMessage x.held : Nat) + (mcL mcString x.wishes : Nat) + (mcL mcInt x.yes : Nat)), mkL mkRecAck mcRecAck x.acks (k + (ocRecDisk x.safe : Nat) + (ocRecDisk x.disk : Nat) + (mcL mcRecMessage x.held : Nat) + (mcL mcString x.wishes : Nat) + (mcL mcInt x.yes : Nat) + (mcL mcRecSlot x.best : Nat)), x.heard⟩
def ocRecorder (x : VRecorder) : Nat := ocRecDisk x.safe + ocRecDisk x.disk + mcL mcRecMessage x.held + mcL mcString x.wishes + mcL mcInt x.yes + mcL mcRecSlot x.best + mcL mcRecAck x.acks
theorem k_markText (k : Int) (h0 : 0 ≤ k) (hb : k ≤ 4611686018427387904) : EV Try.prog E 139 [.val 0 false [.p (.int .i64 k)]] = some ⟨[(false, [.p (.string (mtx k))])], []⟩ := by
  refine EV_intro Try.func139 rfl ?_
  by_cases hk : k ≤ 0
  · simp only [rv0, rv1, rv2, rv3, rv4, rv5, rv6, rv7, rv8, rv9, rv10, rv11, rv12, rv13, rv14, rvE, rvH, rvS, rvI, eT, eQ, ↓reduceIte, Nat.reduceEqDiff, Nat.reduceAdd, Nat.reduceSub, Nat.reduceMul, Nat.reduceLeDiff, Nat.reduceBEq, decide_true, decide_false, reduceCtorEq, Int.reduceLT, Int.reduceNeg, rvN, Nat.reduceLT, Int.reduceLE, Int.reduceEq, eq_self, List.reduceReplicate, rvF, rvG, e139, Try.f139, hk, mtx]
  · have h1 : (⟨#[109]⟩ : ByteArray).size + (dgs k.toNat ⟨#[]⟩).size < 9223372036854775807 := by
      have := dgs_size k.toNat ⟨#[]⟩
      have e1 : (⟨#[109]⟩ : ByteArray).size = 1 := rfl
      have e2 : (⟨#[]⟩ : ByteArray).size = 0 := rfl
      omega
    have ek : k = (k.toNat : Int) := by omega
    simp only [rv0, rv1, rv2, rv3, rv4, rv5, rv6, rv7, rv8, rv9, rv10, rv11, rv12, rv13, rv14, rvE, rvH, rvS, rvI, eT, eQ, ↓reduceIte, Nat.reduceEqDiff, Nat.reduceAdd, Nat.reduceSub, Nat.reduceMul, Nat.reduceLeDiff, Nat.reduceBEq, decide_true, decide_false, reduceCtorEq, Int.reduceLT, Int.reduceNeg, rvN, Nat.reduceLT, Int.reduceLE, Int.reduceEq, eq_self, List.reduceReplicate, rvF, rvG, e139, Try.f139, hk, mtx]
    rw [while_block (fun (p : Nat × ByteArray) => ⟨2, [(0, .val 0 false [.p (.int .i64 p.1)]), (3, .val 1 false [.p (.string p.2)])]⟩) (fun p => p.1 ≤ 4611686018427387904 ∧ p.2.size + p.1 ≤ 4611686018427388004)
      (fun p => .norm ⟨1, [(3, .val 0 false [.p (.string (dgs p.1 p.2))])]⟩) (fun p => p.1) ?_ (i := (k.toNat, ⟨#[]⟩)) ⟨by simp only; omega, by
        have e2 : (⟨#[]⟩ : ByteArray).size = 0 := rfl
        simp only [e2]; omega⟩ (by simp only [rv0, rv1, rv2, rv3, rv4, rv5, rv6, rv7, rv8, rv9, rv10, rv11, rv12, rv13, rv14, rvE, rvH, rvS, rvI, eT, eQ, ↓reduceIte, Nat.reduceEqDiff, Nat.reduceAdd, Nat.reduceSub, Nat.reduceMul, Nat.reduceLeDiff, Nat.reduceBEq, decide_true, decide_false, reduceCtorEq, Int.reduceLT, Int.reduceNeg, rvN, Nat.reduceLT, Int.reduceLE, Int.reduceEq, eq_self, List.reduceReplicate, rvF, rvG, e139]; rw [← ek])]
    · simp only [rv0, rv1, rv2, rv3, rv4, rv5, rv6, rv7, rv8, rv9, rv10, rv11, rv12, rv13, rv14, rvE, rvH, rvS, rvI, eT, eQ, ↓reduceIte, Nat.reduceEqDiff, Nat.reduceAdd, Nat.reduceSub, Nat.reduceMul, Nat.reduceLeDiff, Nat.reduceBEq, decide_true, decide_false, reduceCtorEq, Int.reduceLT, Int.reduceNeg, rvN, Nat.reduceLT, Int.reduceLE, Int.reduceEq, eq_self, List.reduceReplicate, rvF, rvG, e139, h1]
    · rintro ⟨n, s⟩ ⟨h1, h2⟩
      simp only at h1 h2
      by_cases hn : 0 < (n : Int)
      · left
        have e2 : (dgt n).size = 1 := rfl
        have e3 : (dgt n).size + s.size < 9223372036854775807 := by omega
        have e4 := wrap64 (n := ((n / 10 : Nat) : Int)) (by omega) (by omega)
        refine ⟨(n / 10, dgt n ++ s), ?_, ⟨by simp only; omega, by simp only [ByteArray.size_append]; omega⟩, by simp only; omega, by simp only [dgs_pos (show n ≠ 0 by omega)]⟩
        unfold dgt at e3 ⊢
        simp only [rv0, rv1, rv2, rv3, rv4, rv5, rv6, rv7, rv8, rv9, rv10, rv11, rv12, rv13, rv14, rvE, rvH, rvS, rvI, eT, eQ, ↓reduceIte, Nat.reduceEqDiff, Nat.reduceAdd, Nat.reduceSub, Nat.reduceMul, Nat.reduceLeDiff, Nat.reduceBEq, decide_true, decide_false, reduceCtorEq, Int.reduceLT, Int.reduceNeg, rvN, Nat.reduceLT, Int.reduceLE, Int.reduceEq, eq_self, List.reduceReplicate, rvF, rvG, e139, hn, tmod10, tdiv10, e3, e4]
      · right
        have : n = 0 := by omega
        subst this
        simp only [rv0, rv1, rv2, rv3, rv4, rv5, rv6, rv7, rv8, rv9, rv10, rv11, rv12, rv13, rv14, rvE, rvH, rvS, rvI, eT, eQ, ↓reduceIte, Nat.reduceEqDiff, Nat.reduceAdd, Nat.reduceSub, Nat.reduceMul, Nat.reduceLeDiff, Nat.reduceBEq, decide_true, decide_false, reduceCtorEq, Int.reduceLT, Int.reduceNeg, rvN, Nat.reduceLT, Int.reduceLE, Int.reduceEq, eq_self, List.reduceReplicate, rvF, rvG, e139, hn, dgs_zero]
theorem k_markRecSlotS (l : List VRecSlot) (k : Int) (h0 : 0 ≤ k) (hb : k + (mcL mcRecSlot l : Nat) ≤ 4611686018427387904) : EV Try.prog E 105 [.val 0 false [.sl .own 2 (l.map VRecSlot.c)], .val 0 false [.p (.int .i64 k)]] = some ⟨[(false, [.p (.int .i64 (k + (mcL mcRecSlot l : Nat)))])], [[.sl .own 2 ((mkL mkRecSlot mcRecSlot l k).map VRecSlot.c)]]⟩ := by
  have hlc := len_mcL mcRecSlot (fun x => by unfold mcRecSlot; omega) l
  refine EV_intro Try.func105 rfl ?_
  simp only [rv0, rv1, rv2, rv3, rv4, rv5, rv6, rv7, rv8, rv9, rv10, rv11, rv12, rv13, rv14, rvE, rvH, rvS, rvI, eT, eQ, ↓reduceIte, Nat.reduceEqDiff, Nat.reduceAdd, Nat.reduceSub, Nat.reduceMul, Nat.reduceLeDiff, Nat.reduceBEq, decide_true, decide_false, reduceCtorEq, Int.reduceLT, Int.reduceNeg, rvN, Nat.reduceLT, Int.reduceLE, Int.reduceEq, eq_self, List.reduceReplicate, rvF, rvG, e105, Try.f105]
  rw [for_block l (fun i (a : Int) => ⟨3, [(0, .val 0 false [.sl .own 2 ((mkTo mkRecSlot mcRecSlot i l k).map VRecSlot.c)]), (1, .val 1 false [.p (.int .i64 a)]), (5, .val 2 false [.p (.int .i64 i)])]⟩) (fun i a => a = kAt mcRecSlot l k i)
      (fun r i a => .norm ⟨2, [(0, .val 0 false [.sl .own 2 ((mkL mkRecSlot mcRecSlot l k).map VRecSlot.c)]), (1, .val 1 false [.p (.int .i64 (k + (mcL mcRecSlot l : Nat)))])]⟩) ?_ ?_ (a := k) (kAt_zero mcRecSlot l k).symm (by simp only [rv0, rv1, rv2, rv3, rv4, rv5, rv6, rv7, rv8, rv9, rv10, rv11, rv12, rv13, rv14, rvE, rvH, rvS, rvI, eT, eQ, ↓reduceIte, Nat.reduceEqDiff, Nat.reduceAdd, Nat.reduceSub, Nat.reduceMul, Nat.reduceLeDiff, Nat.reduceBEq, decide_true, decide_false, reduceCtorEq, Int.reduceLT, Int.reduceNeg, rvN, Nat.reduceLT, Int.reduceLE, Int.reduceEq, eq_self, List.reduceReplicate, rvF, rvG, e105, mkTo_zero]; rfl)]
  · simp only [rv0, rv1, rv2, rv3, rv4, rv5, rv6, rv7, rv8, rv9, rv10, rv11, rv12, rv13, rv14, rvE, rvH, rvS, rvI, eT, eQ, ↓reduceIte, Nat.reduceEqDiff, Nat.reduceAdd, Nat.reduceSub, Nat.reduceMul, Nat.reduceLeDiff, Nat.reduceBEq, decide_true, decide_false, reduceCtorEq, Int.reduceLT, Int.reduceNeg, rvN, Nat.reduceLT, Int.reduceLE, Int.reduceEq, eq_self, List.reduceReplicate, rvF, rvG, e105]
  · rintro i s r a hd hi rfl
    have hlen := (List.getElem?_eq_some_iff.1 hi).1
    have hlt : ((i : Int) < (l.length : Int)) := by omega
    have hsu := kAt_succ mcRecSlot hi k
    have hge := kAt_ge mcRecSlot l k i
    have hle := kAt_le mcRecSlot hi k
    have hwi := wrap64 (n := (i : Int) + 1) (by omega) (by omega)
    have hi0 : (0 : Int) ≤ (i : Int) := by omega
    have hr := getElem?_map_some (f := VRecSlot.c) (mkTo_get mkRecSlot mcRecSlot hi k)
    have hst := mkTo_set mkRecSlot mcRecSlot hi k
    have hlm := mkTo_length mkRecSlot mcRecSlot i l k
    have hgs : ∀ z : List C, (((mkTo mkRecSlot mcRecSlot i l k).map VRecSlot.c).set i z)[i]? = some z := fun z => List.getElem?_set_self (by rw [List.length_map, hlm]; exact hlen)
    generalize kAt mcRecSlot l k i = a at *
    simp only [mcRecSlot] at hsu hle
    simp only [VRecSlot.c, mkRecSlot] at hr
    have hw0 := wrap64 (n := a + 1) (by omega) (by omega)
    have hm1 := k_markText (a + 1) (by omega) (by omega)
    have hw1 := wrap64 (n := a + 1 + 1) (by omega) (by omega)
    left
    refine ⟨a + 1 + 1, ?_, by rw [hsu]; omega, rfl⟩
    rw [← hst]
    simp only [rv0, rv1, rv2, rv3, rv4, rv5, rv6, rv7, rv8, rv9, rv10, rv11, rv12, rv13, rv14, rvE, rvH, rvS, rvI, eT, eQ, ↓reduceIte, Nat.reduceEqDiff, Nat.reduceAdd, Nat.reduceSub, Nat.reduceMul, Nat.reduceLeDiff, Nat.reduceBEq, decide_true, decide_false, reduceCtorEq, Int.reduceLT, Int.reduceNeg, rvN, Nat.reduceLT, Int.reduceLE, Int.reduceEq, eq_self, List.reduceReplicate, rvF, rvG, e105, e139, hlt, hr, hwi, hi0, hlm, hlen, i64c, List.map_set, List.set_set, List.length_set, hgs, VRecSlot.c, mkRecSlot, hw0, hm1, hw1]
  · rintro a rfl
    simp only [rv0, rv1, rv2, rv3, rv4, rv5, rv6, rv7, rv8, rv9, rv10, rv11, rv12, rv13, rv14, rvE, rvH, rvS, rvI, eT, eQ, ↓reduceIte, Nat.reduceEqDiff, Nat.reduceAdd, Nat.reduceSub, Nat.reduceMul, Nat.reduceLeDiff, Nat.reduceBEq, decide_true, decide_false, reduceCtorEq, Int.reduceLT, Int.reduceNeg, rvN, Nat.reduceLT, Int.reduceLE, Int.reduceEq, eq_self, List.reduceReplicate, rvF, rvG, e105, kAt_all, mkTo_all, mkL_length]
theorem k_markRecDisk (x : VRecDisk) (k : Int) (h0 : 0 ≤ k) (hb : k + (ocRecDisk x : Nat) ≤ 4611686018427387904) : EV Try.prog E 101 [.val 0 true (VRecDisk.c .own x), .val 0 false [.p (.int .i64 k)]] = some ⟨[(false, [.p (.int .i64 (k + (ocRecDisk x : Nat)))])], [VRecDisk.c .own (moRecDisk x k)]⟩ := by
  refine EV_intro Try.func101 rfl ?_
  unfold ocRecDisk at hb ⊢
  have hm0 := k_markRecSlotS x.slots (k) (by omega) (by omega)
  have he : k + ((mcL mcRecSlot x.slots : Nat) : Int) = k + (mcL mcRecSlot x.slots : Nat) := by omega
  rw [he]
  simp only [rv0, rv1, rv2, rv3, rv4, rv5, rv6, rv7, rv8, rv9, rv10, rv11, rv12, rv13, rv14, rvE, rvH, rvS, rvI, eT, eQ, ↓reduceIte, Nat.reduceEqDiff, Nat.reduceAdd, Nat.reduceSub, Nat.reduceMul, Nat.reduceLeDiff, Nat.reduceBEq, decide_true, decide_false, reduceCtorEq, Int.reduceLT, Int.reduceNeg, rvN, Nat.reduceLT, Int.reduceLE, Int.reduceEq, eq_self, List.reduceReplicate, rvF, rvG, e101, e105, Try.f101, VRecDisk.c, moRecDisk, hm0, rowsRecSlot]
theorem k_markRecMessageS (l : List VRecMessage) (k : Int) (h0 : 0 ≤ k) (hb : k + (mcL mcRecMessage l : Nat) ≤ 4611686018427387904) : EV Try.prog E 102 [.val 0 false [.sl .own 8 (l.map (VRecMessage.c .own))], .val 0 false [.p (.int .i64 k)]] = some ⟨[(false, [.p (.int .i64 (k + (mcL mcRecMessage l : Nat)))])], [[.sl .own 8 ((mkL mkRecMessage mcRecMessage l k).map (VRecMessage.c .own))]]⟩ := by
  have hlc := len_mcL mcRecMessage (fun x => by unfold mcRecMessage; omega) l
  refine EV_intro Try.func102 rfl ?_
  simp only [rv0, rv1, rv2, rv3, rv4, rv5, rv6, rv7, rv8, rv9, rv10, rv11, rv12, rv13, rv14, rvE, rvH, rvS, rvI, eT, eQ, ↓reduceIte, Nat.reduceEqDiff, Nat.reduceAdd, Nat.reduceSub, Nat.reduceMul, Nat.reduceLeDiff, Nat.reduceBEq, decide_true, decide_false, reduceCtorEq, Int.reduceLT, Int.reduceNeg, rvN, Nat.reduceLT, Int.reduceLE, Int.reduceEq, eq_self, List.reduceReplicate, rvF, rvG, e102, Try.f102]
  rw [for_block l (fun i (a : Int) => ⟨3, [(0, .val 0 false [.sl .own 8 ((mkTo mkRecMessage mcRecMessage i l k).map (VRecMessage.c .own))]), (1, .val 1 false [.p (.int .i64 a)]), (5, .val 2 false [.p (.int .i64 i)])]⟩) (fun i a => a = kAt mcRecMessage l k i)
      (fun r i a => .norm ⟨2, [(0, .val 0 false [.sl .own 8 ((mkL mkRecMessage mcRecMessage l k).map (VRecMessage.c .own))]), (1, .val 1 false [.p (.int .i64 (k + (mcL mcRecMessage l : Nat)))])]⟩) ?_ ?_ (a := k) (kAt_zero mcRecMessage l k).symm (by simp only [rv0, rv1, rv2, rv3, rv4, rv5, rv6, rv7, rv8, rv9, rv10, rv11, rv12, rv13, rv14, rvE, rvH, rvS, rvI, eT, eQ, ↓reduceIte, Nat.reduceEqDiff, Nat.reduceAdd, Nat.reduceSub, Nat.reduceMul, Nat.reduceLeDiff, Nat.reduceBEq, decide_true, decide_false, reduceCtorEq, Int.reduceLT, Int.reduceNeg, rvN, Nat.reduceLT, Int.reduceLE, Int.reduceEq, eq_self, List.reduceReplicate, rvF, rvG, e102, mkTo_zero]; rfl)]
  · simp only [rv0, rv1, rv2, rv3, rv4, rv5, rv6, rv7, rv8, rv9, rv10, rv11, rv12, rv13, rv14, rvE, rvH, rvS, rvI, eT, eQ, ↓reduceIte, Nat.reduceEqDiff, Nat.reduceAdd, Nat.reduceSub, Nat.reduceMul, Nat.reduceLeDiff, Nat.reduceBEq, decide_true, decide_false, reduceCtorEq, Int.reduceLT, Int.reduceNeg, rvN, Nat.reduceLT, Int.reduceLE, Int.reduceEq, eq_self, List.reduceReplicate, rvF, rvG, e102]
  · rintro i s r a hd hi rfl
    have hlen := (List.getElem?_eq_some_iff.1 hi).1
    have hlt : ((i : Int) < (l.length : Int)) := by omega
    have hsu := kAt_succ mcRecMessage hi k
    have hge := kAt_ge mcRecMessage l k i
    have hle := kAt_le mcRecMessage hi k
    have hwi := wrap64 (n := (i : Int) + 1) (by omega) (by omega)
    have hi0 : (0 : Int) ≤ (i : Int) := by omega
    have hr := getElem?_map_some (f := (VRecMessage.c .own)) (mkTo_get mkRecMessage mcRecMessage hi k)
    have hst := mkTo_set mkRecMessage mcRecMessage hi k
    have hlm := mkTo_length mkRecMessage mcRecMessage i l k
    have hgs : ∀ z : List C, (((mkTo mkRecMessage mcRecMessage i l k).map (VRecMessage.c .own)).set i z)[i]? = some z := fun z => List.getElem?_set_self (by rw [List.length_map, hlm]; exact hlen)
    generalize kAt mcRecMessage l k i = a at *
    simp only [mcRecMessage] at hsu hle
    simp only [VRecMessage.c, mkRecMessage] at hr
    have hw0 := wrap64 (n := a + 1) (by omega) (by omega)
    have hw1 := wrap64 (n := a + 1 + 1) (by omega) (by omega)
    have hw2 := wrap64 (n := a + 1 + 1 + 1) (by omega) (by omega)
    have hw3 := wrap64 (n := a + 1 + 1 + 1 + 1) (by omega) (by omega)
    have hw4 := wrap64 (n := a + 1 + 1 + 1 + 1 + 1) (by omega) (by omega)
    have hw5 := wrap64 (n := a + 1 + 1 + 1 + 1 + 1 + 1) (by omega) (by omega)
    have hm6 := k_markText (a + 1 + 1 + 1 + 1 + 1 + 1) (by omega) (by omega)
    have hw6 := wrap64 (n := a + 1 + 1 + 1 + 1 + 1 + 1 + 1) (by omega) (by omega)
    have hm7 := k_markRecSlotS s.slots (a + 1 + 1 + 1 + 1 + 1 + 1 + 1) (by omega) (by omega)
    left
    refine ⟨a + 1 + 1 + 1 + 1 + 1 + 1 + 1 + (mcL mcRecSlot s.slots : Nat), ?_, by rw [hsu]; omega, rfl⟩
    rw [← hst]
    simp only [rv0, rv1, rv2, rv3, rv4, rv5, rv6, rv7, rv8, rv9, rv10, rv11, rv12, rv13, rv14, rvE, rvH, rvS, rvI, eT, eQ, ↓reduceIte, Nat.reduceEqDiff, Nat.reduceAdd, Nat.reduceSub, Nat.reduceMul, Nat.reduceLeDiff, Nat.reduceBEq, decide_true, decide_false, reduceCtorEq, Int.reduceLT, Int.reduceNeg, rvN, Nat.reduceLT, Int.reduceLE, Int.reduceEq, eq_self, List.reduceReplicate, rvF, rvG, e102, e139, e105, hlt, hr, hwi, hi0, hlm, hlen, i64c, List.map_set, List.set_set, List.length_set, hgs, VRecMessage.c, mkRecMessage, hw0, hw1, hw2, hw3, hw4, hw5, hm6, hw6, hm7, rowsRecSlot]
  · rintro a rfl
    simp only [rv0, rv1, rv2, rv3, rv4, rv5, rv6, rv7, rv8, rv9, rv10, rv11, rv12, rv13, rv14, rvE, rvH, rvS, rvI, eT, eQ, ↓reduceIte, Nat.reduceEqDiff, Nat.reduceAdd, Nat.reduceSub, Nat.reduceMul, Nat.reduceLeDiff, Nat.reduceBEq, decide_true, decide_false, reduceCtorEq, Int.reduceLT, Int.reduceNeg, rvN, Nat.reduceLT, Int.reduceLE, Int.reduceEq, eq_self, List.reduceReplicate, rvF, rvG, e102, kAt_all, mkTo_all, mkL_length]
theorem k_markStringS (l : List ByteArray) (k : Int) (h0 : 0 ≤ k) (hb : k + (mcL mcString l : Nat) ≤ 4611686018427387904) : EV Try.prog E 103 [.val 0 false [.sl .own 1 (l.map strC)], .val 0 false [.p (.int .i64 k)]] = some ⟨[(false, [.p (.int .i64 (k + (mcL mcString l : Nat)))])], [[.sl .own 1 ((mkL mkString mcString l k).map strC)]]⟩ := by
  have hlc := len_mcL mcString (fun x => by unfold mcString; omega) l
  refine EV_intro Try.func103 rfl ?_
  simp only [rv0, rv1, rv2, rv3, rv4, rv5, rv6, rv7, rv8, rv9, rv10, rv11, rv12, rv13, rv14, rvE, rvH, rvS, rvI, eT, eQ, ↓reduceIte, Nat.reduceEqDiff, Nat.reduceAdd, Nat.reduceSub, Nat.reduceMul, Nat.reduceLeDiff, Nat.reduceBEq, decide_true, decide_false, reduceCtorEq, Int.reduceLT, Int.reduceNeg, rvN, Nat.reduceLT, Int.reduceLE, Int.reduceEq, eq_self, List.reduceReplicate, rvF, rvG, e103, Try.f103]
  rw [for_block l (fun i (a : Int) => ⟨3, [(0, .val 0 false [.sl .own 1 ((mkTo mkString mcString i l k).map strC)]), (1, .val 1 false [.p (.int .i64 a)]), (5, .val 2 false [.p (.int .i64 i)])]⟩) (fun i a => a = kAt mcString l k i)
      (fun r i a => .norm ⟨2, [(0, .val 0 false [.sl .own 1 ((mkL mkString mcString l k).map strC)]), (1, .val 1 false [.p (.int .i64 (k + (mcL mcString l : Nat)))])]⟩) ?_ ?_ (a := k) (kAt_zero mcString l k).symm (by simp only [rv0, rv1, rv2, rv3, rv4, rv5, rv6, rv7, rv8, rv9, rv10, rv11, rv12, rv13, rv14, rvE, rvH, rvS, rvI, eT, eQ, ↓reduceIte, Nat.reduceEqDiff, Nat.reduceAdd, Nat.reduceSub, Nat.reduceMul, Nat.reduceLeDiff, Nat.reduceBEq, decide_true, decide_false, reduceCtorEq, Int.reduceLT, Int.reduceNeg, rvN, Nat.reduceLT, Int.reduceLE, Int.reduceEq, eq_self, List.reduceReplicate, rvF, rvG, e103, mkTo_zero]; rfl)]
  · simp only [rv0, rv1, rv2, rv3, rv4, rv5, rv6, rv7, rv8, rv9, rv10, rv11, rv12, rv13, rv14, rvE, rvH, rvS, rvI, eT, eQ, ↓reduceIte, Nat.reduceEqDiff, Nat.reduceAdd, Nat.reduceSub, Nat.reduceMul, Nat.reduceLeDiff, Nat.reduceBEq, decide_true, decide_false, reduceCtorEq, Int.reduceLT, Int.reduceNeg, rvN, Nat.reduceLT, Int.reduceLE, Int.reduceEq, eq_self, List.reduceReplicate, rvF, rvG, e103]
  · rintro i s r a hd hi rfl
    have hlen := (List.getElem?_eq_some_iff.1 hi).1
    have hlt : ((i : Int) < (l.length : Int)) := by omega
    have hsu := kAt_succ mcString hi k
    have hge := kAt_ge mcString l k i
    have hle := kAt_le mcString hi k
    have hwi := wrap64 (n := (i : Int) + 1) (by omega) (by omega)
    have hi0 : (0 : Int) ≤ (i : Int) := by omega
    have hr := getElem?_map_some (f := strC) (mkTo_get mkString mcString hi k)
    have hst := mkTo_set mkString mcString hi k
    have hlm := mkTo_length mkString mcString i l k
    have hgs : ∀ z : List C, (((mkTo mkString mcString i l k).map strC).set i z)[i]? = some z := fun z => List.getElem?_set_self (by rw [List.length_map, hlm]; exact hlen)
    generalize kAt mcString l k i = a at *
    simp only [mcString] at hsu hle
    simp only [strC, mkString] at hr
    have hm0 := k_markText (a) (by omega) (by omega)
    have hw0 := wrap64 (n := a + 1) (by omega) (by omega)
    left
    refine ⟨a + 1, ?_, by rw [hsu]; omega, rfl⟩
    rw [← hst]
    simp only [rv0, rv1, rv2, rv3, rv4, rv5, rv6, rv7, rv8, rv9, rv10, rv11, rv12, rv13, rv14, rvE, rvH, rvS, rvI, eT, eQ, ↓reduceIte, Nat.reduceEqDiff, Nat.reduceAdd, Nat.reduceSub, Nat.reduceMul, Nat.reduceLeDiff, Nat.reduceBEq, decide_true, decide_false, reduceCtorEq, Int.reduceLT, Int.reduceNeg, rvN, Nat.reduceLT, Int.reduceLE, Int.reduceEq, eq_self, List.reduceReplicate, rvF, rvG, e103, e139, hlt, hr, hwi, hi0, hlm, hlen, i64c, List.map_set, List.set_set, List.length_set, hgs, strC, mkString, hm0, hw0]
  · rintro a rfl
    simp only [rv0, rv1, rv2, rv3, rv4, rv5, rv6, rv7, rv8, rv9, rv10, rv11, rv12, rv13, rv14, rvE, rvH, rvS, rvI, eT, eQ, ↓reduceIte, Nat.reduceEqDiff, Nat.reduceAdd, Nat.reduceSub, Nat.reduceMul, Nat.reduceLeDiff, Nat.reduceBEq, decide_true, decide_false, reduceCtorEq, Int.reduceLT, Int.reduceNeg, rvN, Nat.reduceLT, Int.reduceLE, Int.reduceEq, eq_self, List.reduceReplicate, rvF, rvG, e103, kAt_all, mkTo_all, mkL_length]
theorem k_markIntS (l : List Int) (k : Int) (h0 : 0 ≤ k) (hb : k + (mcL mcInt l : Nat) ≤ 4611686018427387904) : EV Try.prog E 104 [.val 0 false [.sl .own 1 (l.map intC)], .val 0 false [.p (.int .i64 k)]] = some ⟨[(false, [.p (.int .i64 (k + (mcL mcInt l : Nat)))])], [[.sl .own 1 ((mkL mkInt mcInt l k).map intC)]]⟩ := by
  have hlc := len_mcL mcInt (fun x => by unfold mcInt; omega) l
  refine EV_intro Try.func104 rfl ?_
  simp only [rv0, rv1, rv2, rv3, rv4, rv5, rv6, rv7, rv8, rv9, rv10, rv11, rv12, rv13, rv14, rvE, rvH, rvS, rvI, eT, eQ, ↓reduceIte, Nat.reduceEqDiff, Nat.reduceAdd, Nat.reduceSub, Nat.reduceMul, Nat.reduceLeDiff, Nat.reduceBEq, decide_true, decide_false, reduceCtorEq, Int.reduceLT, Int.reduceNeg, rvN, Nat.reduceLT, Int.reduceLE, Int.reduceEq, eq_self, List.reduceReplicate, rvF, rvG, e104, Try.f104]
  rw [for_block l (fun i (a : Int) => ⟨3, [(0, .val 0 false [.sl .own 1 ((mkTo mkInt mcInt i l k).map intC)]), (1, .val 1 false [.p (.int .i64 a)]), (5, .val 2 false [.p (.int .i64 i)])]⟩) (fun i a => a = kAt mcInt l k i)
      (fun r i a => .norm ⟨2, [(0, .val 0 false [.sl .own 1 ((mkL mkInt mcInt l k).map intC)]), (1, .val 1 false [.p (.int .i64 (k + (mcL mcInt l : Nat)))])]⟩) ?_ ?_ (a := k) (kAt_zero mcInt l k).symm (by simp only [rv0, rv1, rv2, rv3, rv4, rv5, rv6, rv7, rv8, rv9, rv10, rv11, rv12, rv13, rv14, rvE, rvH, rvS, rvI, eT, eQ, ↓reduceIte, Nat.reduceEqDiff, Nat.reduceAdd, Nat.reduceSub, Nat.reduceMul, Nat.reduceLeDiff, Nat.reduceBEq, decide_true, decide_false, reduceCtorEq, Int.reduceLT, Int.reduceNeg, rvN, Nat.reduceLT, Int.reduceLE, Int.reduceEq, eq_self, List.reduceReplicate, rvF, rvG, e104, mkTo_zero]; rfl)]
  · simp only [rv0, rv1, rv2, rv3, rv4, rv5, rv6, rv7, rv8, rv9, rv10, rv11, rv12, rv13, rv14, rvE, rvH, rvS, rvI, eT, eQ, ↓reduceIte, Nat.reduceEqDiff, Nat.reduceAdd, Nat.reduceSub, Nat.reduceMul, Nat.reduceLeDiff, Nat.reduceBEq, decide_true, decide_false, reduceCtorEq, Int.reduceLT, Int.reduceNeg, rvN, Nat.reduceLT, Int.reduceLE, Int.reduceEq, eq_self, List.reduceReplicate, rvF, rvG, e104]
  · rintro i s r a hd hi rfl
    have hlen := (List.getElem?_eq_some_iff.1 hi).1
    have hlt : ((i : Int) < (l.length : Int)) := by omega
    have hsu := kAt_succ mcInt hi k
    have hge := kAt_ge mcInt l k i
    have hle := kAt_le mcInt hi k
    have hwi := wrap64 (n := (i : Int) + 1) (by omega) (by omega)
    have hi0 : (0 : Int) ≤ (i : Int) := by omega
    have hr := getElem?_map_some (f := intC) (mkTo_get mkInt mcInt hi k)
    have hst := mkTo_set mkInt mcInt hi k
    have hlm := mkTo_length mkInt mcInt i l k
    have hgs : ∀ z : List C, (((mkTo mkInt mcInt i l k).map intC).set i z)[i]? = some z := fun z => List.getElem?_set_self (by rw [List.length_map, hlm]; exact hlen)
    generalize kAt mcInt l k i = a at *
    simp only [mcInt] at hsu hle
    simp only [intC, mkInt] at hr
    have hw0 := wrap64 (n := a + 1) (by omega) (by omega)
    left
    refine ⟨a + 1, ?_, by rw [hsu]; omega, rfl⟩
    rw [← hst]
    simp only [rv0, rv1, rv2, rv3, rv4, rv5, rv6, rv7, rv8, rv9, rv10, rv11, rv12, rv13, rv14, rvE, rvH, rvS, rvI, eT, eQ, ↓reduceIte, Nat.reduceEqDiff, Nat.reduceAdd, Nat.reduceSub, Nat.reduceMul, Nat.reduceLeDiff, Nat.reduceBEq, decide_true, decide_false, reduceCtorEq, Int.reduceLT, Int.reduceNeg, rvN, Nat.reduceLT, Int.reduceLE, Int.reduceEq, eq_self, List.reduceReplicate, rvF, rvG, e104, hlt, hr, hwi, hi0, hlm, hlen, i64c, List.map_set, List.set_set, List.length_set, hgs, intC, mkInt, hw0]
  · rintro a rfl
    simp only [rv0, rv1, rv2, rv3, rv4, rv5, rv6, rv7, rv8, rv9, rv10, rv11, rv12, rv13, rv14, rvE, rvH, rvS, rvI, eT, eQ, ↓reduceIte, Nat.reduceEqDiff, Nat.reduceAdd, Nat.reduceSub, Nat.reduceMul, Nat.reduceLeDiff, Nat.reduceBEq, decide_true, decide_false, reduceCtorEq, Int.reduceLT, Int.reduceNeg, rvN, Nat.reduceLT, Int.reduceLE, Int.reduceEq, eq_self, List.reduceReplicate, rvF, rvG, e104, kAt_all, mkTo_all, mkL_length]
theorem k_markRecAckS (l : List VRecAck) (k : Int) (h0 : 0 ≤ k) (hb : k + (mcL mcRecAck l : Nat) ≤ 4611686018427387904) : EV Try.prog E 106 [.val 0 false [.sl .own 2 (l.map (VRecAck.c .own))], .val 0 false [.p (.int .i64 k)]] = some ⟨[(false, [.p (.int .i64 (k + (mcL mcRecAck l : Nat)))])], [[.sl .own 2 ((mkL mkRecAck mcRecAck l k).map (VRecAck.c .own))]]⟩ := by
  have hlc := len_mcL mcRecAck (fun x => by unfold mcRecAck; omega) l
  refine EV_intro Try.func106 rfl ?_
  simp only [rv0, rv1, rv2, rv3, rv4, rv5, rv6, rv7, rv8, rv9, rv10, rv11, rv12, rv13, rv14, rvE, rvH, rvS, rvI, eT, eQ, ↓reduceIte, Nat.reduceEqDiff, Nat.reduceAdd, Nat.reduceSub, Nat.reduceMul, Nat.reduceLeDiff, Nat.reduceBEq, decide_true, decide_false, reduceCtorEq, Int.reduceLT, Int.reduceNeg, rvN, Nat.reduceLT, Int.reduceLE, Int.reduceEq, eq_self, List.reduceReplicate, rvF, rvG, e106, Try.f106]
  rw [for_block l (fun i (a : Int) => ⟨3, [(0, .val 0 false [.sl .own 2 ((mkTo mkRecAck mcRecAck i l k).map (VRecAck.c .own))]), (1, .val 1 false [.p (.int .i64 a)]), (5, .val 2 false [.p (.int .i64 i)])]⟩) (fun i a => a = kAt mcRecAck l k i)
      (fun r i a => .norm ⟨2, [(0, .val 0 false [.sl .own 2 ((mkL mkRecAck mcRecAck l k).map (VRecAck.c .own))]), (1, .val 1 false [.p (.int .i64 (k + (mcL mcRecAck l : Nat)))])]⟩) ?_ ?_ (a := k) (kAt_zero mcRecAck l k).symm (by simp only [rv0, rv1, rv2, rv3, rv4, rv5, rv6, rv7, rv8, rv9, rv10, rv11, rv12, rv13, rv14, rvE, rvH, rvS, rvI, eT, eQ, ↓reduceIte, Nat.reduceEqDiff, Nat.reduceAdd, Nat.reduceSub, Nat.reduceMul, Nat.reduceLeDiff, Nat.reduceBEq, decide_true, decide_false, reduceCtorEq, Int.reduceLT, Int.reduceNeg, rvN, Nat.reduceLT, Int.reduceLE, Int.reduceEq, eq_self, List.reduceReplicate, rvF, rvG, e106, mkTo_zero]; rfl)]
  · simp only [rv0, rv1, rv2, rv3, rv4, rv5, rv6, rv7, rv8, rv9, rv10, rv11, rv12, rv13, rv14, rvE, rvH, rvS, rvI, eT, eQ, ↓reduceIte, Nat.reduceEqDiff, Nat.reduceAdd, Nat.reduceSub, Nat.reduceMul, Nat.reduceLeDiff, Nat.reduceBEq, decide_true, decide_false, reduceCtorEq, Int.reduceLT, Int.reduceNeg, rvN, Nat.reduceLT, Int.reduceLE, Int.reduceEq, eq_self, List.reduceReplicate, rvF, rvG, e106]
  · rintro i s r a hd hi rfl
    have hlen := (List.getElem?_eq_some_iff.1 hi).1
    have hlt : ((i : Int) < (l.length : Int)) := by omega
    have hsu := kAt_succ mcRecAck hi k
    have hge := kAt_ge mcRecAck l k i
    have hle := kAt_le mcRecAck hi k
    have hwi := wrap64 (n := (i : Int) + 1) (by omega) (by omega)
    have hi0 : (0 : Int) ≤ (i : Int) := by omega
    have hr := getElem?_map_some (f := (VRecAck.c .own)) (mkTo_get mkRecAck mcRecAck hi k)
    have hst := mkTo_set mkRecAck mcRecAck hi k
    have hlm := mkTo_length mkRecAck mcRecAck i l k
    have hgs : ∀ z : List C, (((mkTo mkRecAck mcRecAck i l k).map (VRecAck.c .own)).set i z)[i]? = some z := fun z => List.getElem?_set_self (by rw [List.length_map, hlm]; exact hlen)
    generalize kAt mcRecAck l k i = a at *
    simp only [mcRecAck] at hsu hle
    simp only [VRecAck.c, mkRecAck] at hr
    have hw0 := wrap64 (n := a + 1) (by omega) (by omega)
    have hm1 := k_markIntS s.from_ (a + 1) (by omega) (by omega)
    left
    refine ⟨a + 1 + (mcL mcInt s.from_ : Nat), ?_, by rw [hsu]; omega, rfl⟩
    rw [← hst]
    simp only [rv0, rv1, rv2, rv3, rv4, rv5, rv6, rv7, rv8, rv9, rv10, rv11, rv12, rv13, rv14, rvE, rvH, rvS, rvI, eT, eQ, ↓reduceIte, Nat.reduceEqDiff, Nat.reduceAdd, Nat.reduceSub, Nat.reduceMul, Nat.reduceLeDiff, Nat.reduceBEq, decide_true, decide_false, reduceCtorEq, Int.reduceLT, Int.reduceNeg, rvN, Nat.reduceLT, Int.reduceLE, Int.reduceEq, eq_self, List.reduceReplicate, rvF, rvG, e106, e104, hlt, hr, hwi, hi0, hlm, hlen, i64c, List.map_set, List.set_set, List.length_set, hgs, VRecAck.c, mkRecAck, hw0, hm1, rowsInt]
  · rintro a rfl
    simp only [rv0, rv1, rv2, rv3, rv4, rv5, rv6, rv7, rv8, rv9, rv10, rv11, rv12, rv13, rv14, rvE, rvH, rvS, rvI, eT, eQ, ↓reduceIte, Nat.reduceEqDiff, Nat.reduceAdd, Nat.reduceSub, Nat.reduceMul, Nat.reduceLeDiff, Nat.reduceBEq, decide_true, decide_false, reduceCtorEq, Int.reduceLT, Int.reduceNeg, rvN, Nat.reduceLT, Int.reduceLE, Int.reduceEq, eq_self, List.reduceReplicate, rvF, rvG, e106, kAt_all, mkTo_all, mkL_length]
theorem k_markRecorder (x : VRecorder) (k : Int) (h0 : 0 ≤ k) (hb : k + (ocRecorder x : Nat) ≤ 4611686018427387904) : EV Try.prog E 36 [.val 0 true (VRecorder.c .own x), .val 0 false [.p (.int .i64 k)]] = some ⟨[(false, [.p (.int .i64 (k + (ocRecorder x : Nat)))])], [VRecorder.c .own (moRecorder x k)]⟩ := by
  refine EV_intro Try.func36 rfl ?_
  unfold ocRecorder at hb ⊢
  have hm0 := k_markRecDisk x.safe (k) (by omega) (by omega)
  simp only [VRecDisk.c, moRecDisk] at hm0
  have hm1 := k_markRecDisk x.disk (k + (ocRecDisk x.safe : Nat)) (by omega) (by omega)
  simp only [VRecDisk.c, moRecDisk] at hm1
  have hm2 := k_markRecMessageS x.held (k + (ocRecDisk x.safe : Nat) + (ocRecDisk x.disk : Nat)) (by omega) (by omega)
  have hm3 := k_markStringS x.wishes (k + (ocRecDisk x.safe : Nat) + (ocRecDisk x.disk : Nat) + (mcL mcRecMessage x.held : Nat)) (by omega) (by omega)
  have hm4 := k_markIntS x.yes (k + (ocRecDisk x.safe : Nat) + (ocRecDisk x.disk : Nat) + (mcL mcRecMessage x.held : Nat) + (mcL mcString x.wishes : Nat)) (by omega) (by omega)
  have hm5 := k_markRecSlotS x.best (k + (ocRecDisk x.safe : Nat) + (ocRecDisk x.disk : Nat) + (mcL mcRecMessage x.held : Nat) + (mcL mcString x.wishes : Nat) + (mcL mcInt x.yes : Nat)) (by omega) (by omega)
  have hm6 := k_markRecAckS x.acks (k + (ocRecDisk x.safe : Nat) + (ocRecDisk x.disk : Nat) + (mcL mcRecMessage x.held : Nat) + (mcL mcString x.wishes : Nat) + (mcL mcInt x.yes : Nat) + (mcL mcRecSlot x.best : Nat)) (by omega) (by omega)
  have he : k + ((ocRecDisk x.safe + ocRecDisk x.disk + mcL mcRecMessage x.held + mcL mcString x.wishes + mcL mcInt x.yes + mcL mcRecSlot x.best + mcL mcRecAck x.acks : Nat) : Int) = k + (ocRecDisk x.safe : Nat) + (ocRecDisk x.disk : Nat) + (mcL mcRecMessage x.held : Nat) + (mcL mcString x.wishes : Nat) + (mcL mcInt x.yes : Nat) + (mcL mcRecSlot x.best : Nat) + (mcL mcRecAck x.acks : Nat) := by omega
  rw [he]
  simp only [rv0, rv1, rv2, rv3, rv4, rv5, rv6, rv7, rv8, rv9, rv10, rv11, rv12, rv13, rv14, rvE, rvH, rvS, rvI, eT, eQ, ↓reduceIte, Nat.reduceEqDiff, Nat.reduceAdd, Nat.reduceSub, Nat.reduceMul, Nat.reduceLeDiff, Nat.reduceBEq, decide_true, decide_false, reduceCtorEq, Int.reduceLT, Int.reduceNeg, rvN, Nat.reduceLT, Int.reduceLE, Int.reduceEq, eq_self, List.reduceReplicate, rvF, rvG, e36, e101, e102, e103, e104, e105, e106, Try.f36, VRecorder.c, moRecorder, moRecDisk, hm0, hm1, hm2, hm3, hm4, hm5, hm6, rowsRecSlot, rowsRecMessage, rowsString, rowsInt, rowsRecAck]
theorem k_heldRecSlotS (l : List VRecSlot) (k : Int) (h0 : 0 ≤ k) (hb : k + (mcL mcRecSlot l : Nat) ≤ 4611686018427387904) : EV Try.prog E 111 [.val 0 false [.sl .shr 2 ((mkL mkRecSlot mcRecSlot l k).map VRecSlot.c)], .val 0 false [.p (.int .i64 k)]] = some ⟨[(false, [.p (.int .i64 (k + (mcL mcRecSlot l : Nat)))])], []⟩ := by
  have hlc := len_mcL mcRecSlot (fun x => by unfold mcRecSlot; omega) l
  refine EV_intro Try.func111 rfl ?_
  simp only [rv0, rv1, rv2, rv3, rv4, rv5, rv6, rv7, rv8, rv9, rv10, rv11, rv12, rv13, rv14, rvE, rvH, rvS, rvI, eT, eQ, ↓reduceIte, Nat.reduceEqDiff, Nat.reduceAdd, Nat.reduceSub, Nat.reduceMul, Nat.reduceLeDiff, Nat.reduceBEq, decide_true, decide_false, reduceCtorEq, Int.reduceLT, Int.reduceNeg, rvN, Nat.reduceLT, Int.reduceLE, Int.reduceEq, eq_self, List.reduceReplicate, rvF, rvG, e111, Try.f111]
  rw [for_block l (fun i (a : Int) => ⟨3, [(0, .val 0 false [.sl .shr 2 ((mkL mkRecSlot mcRecSlot l k).map VRecSlot.c)]), (1, .val 1 false [.p (.int .i64 a)]), (5, .val 2 false [.p (.int .i64 i)])]⟩) (fun i a => a = kAt mcRecSlot l k i)
      (fun r i a => .norm ⟨1, [(1, .val 0 false [.p (.int .i64 (k + (mcL mcRecSlot l : Nat)))])]⟩) ?_ ?_ (a := k) (kAt_zero mcRecSlot l k).symm (by simp only [rv0, rv1, rv2, rv3, rv4, rv5, rv6, rv7, rv8, rv9, rv10, rv11, rv12, rv13, rv14, rvE, rvH, rvS, rvI, eT, eQ, ↓reduceIte, Nat.reduceEqDiff, Nat.reduceAdd, Nat.reduceSub, Nat.reduceMul, Nat.reduceLeDiff, Nat.reduceBEq, decide_true, decide_false, reduceCtorEq, Int.reduceLT, Int.reduceNeg, rvN, Nat.reduceLT, Int.reduceLE, Int.reduceEq, eq_self, List.reduceReplicate, rvF, rvG, e111]; rfl)]
  · simp only [rv0, rv1, rv2, rv3, rv4, rv5, rv6, rv7, rv8, rv9, rv10, rv11, rv12, rv13, rv14, rvE, rvH, rvS, rvI, eT, eQ, ↓reduceIte, Nat.reduceEqDiff, Nat.reduceAdd, Nat.reduceSub, Nat.reduceMul, Nat.reduceLeDiff, Nat.reduceBEq, decide_true, decide_false, reduceCtorEq, Int.reduceLT, Int.reduceNeg, rvN, Nat.reduceLT, Int.reduceLE, Int.reduceEq, eq_self, List.reduceReplicate, rvF, rvG, e111]
  · rintro i s r a hd hi rfl
    have hlen := (List.getElem?_eq_some_iff.1 hi).1
    have hlt : ((i : Int) < (l.length : Int)) := by omega
    have hsu := kAt_succ mcRecSlot hi k
    have hge := kAt_ge mcRecSlot l k i
    have hle := kAt_le mcRecSlot hi k
    have hwi := wrap64 (n := (i : Int) + 1) (by omega) (by omega)
    have hi0 : (0 : Int) ≤ (i : Int) := by omega
    have hr := getElem?_map_some (f := VRecSlot.c) (mkL_get mkRecSlot mcRecSlot hi k)
    have hlm := mkL_length mkRecSlot mcRecSlot l k
    generalize kAt mcRecSlot l k i = a at *
    simp only [mcRecSlot] at hsu hle
    simp only [VRecSlot.c, mkRecSlot] at hr
    have hw0 := wrap64 (n := a + 1) (by omega) (by omega)
    have hm1 := k_markText (a + 1) (by omega) (by omega)
    have hw1 := wrap64 (n := a + 1 + 1) (by omega) (by omega)
    left
    refine ⟨a + 1 + 1, ?_, by rw [hsu]; omega, rfl⟩
    simp only [rv0, rv1, rv2, rv3, rv4, rv5, rv6, rv7, rv8, rv9, rv10, rv11, rv12, rv13, rv14, rvE, rvH, rvS, rvI, eT, eQ, ↓reduceIte, Nat.reduceEqDiff, Nat.reduceAdd, Nat.reduceSub, Nat.reduceMul, Nat.reduceLeDiff, Nat.reduceBEq, decide_true, decide_false, reduceCtorEq, Int.reduceLT, Int.reduceNeg, rvN, Nat.reduceLT, Int.reduceLE, Int.reduceEq, eq_self, List.reduceReplicate, rvF, rvG, e111, e139, hlt, hr, hwi, hi0, hlm, hlen, i64c, hw0, hm1, hw1, beq_self_eq_true]
  · rintro a rfl
    simp only [rv0, rv1, rv2, rv3, rv4, rv5, rv6, rv7, rv8, rv9, rv10, rv11, rv12, rv13, rv14, rvE, rvH, rvS, rvI, eT, eQ, ↓reduceIte, Nat.reduceEqDiff, Nat.reduceAdd, Nat.reduceSub, Nat.reduceMul, Nat.reduceLeDiff, Nat.reduceBEq, decide_true, decide_false, reduceCtorEq, Int.reduceLT, Int.reduceNeg, rvN, Nat.reduceLT, Int.reduceLE, Int.reduceEq, eq_self, List.reduceReplicate, rvF, rvG, e111, kAt_all, mkL_length]
theorem k_heldRecDisk (x : VRecDisk) (k : Int) (h0 : 0 ≤ k) (hb : k + (ocRecDisk x : Nat) ≤ 4611686018427387904) : EV Try.prog E 107 [.val 0 true (VRecDisk.c .shr (moRecDisk x k)), .val 0 false [.p (.int .i64 k)]] = some ⟨[(false, [.p (.int .i64 (k + (ocRecDisk x : Nat)))])], []⟩ := by
  refine EV_intro Try.func107 rfl ?_
  unfold ocRecDisk at hb ⊢
  have hm0 := k_heldRecSlotS x.slots (k) (by omega) (by omega)
  have hn0 : ¬ (k + (mcL mcRecSlot x.slots : Nat) < 0) := by omega
  have he : k + ((mcL mcRecSlot x.slots : Nat) : Int) = k + (mcL mcRecSlot x.slots : Nat) := by omega
  rw [he]
  simp only [rv0, rv1, rv2, rv3, rv4, rv5, rv6, rv7, rv8, rv9, rv10, rv11, rv12, rv13, rv14, rvE, rvH, rvS, rvI, eT, eQ, ↓reduceIte, Nat.reduceEqDiff, Nat.reduceAdd, Nat.reduceSub, Nat.reduceMul, Nat.reduceLeDiff, Nat.reduceBEq, decide_true, decide_false, reduceCtorEq, Int.reduceLT, Int.reduceNeg, rvN, Nat.reduceLT, Int.reduceLE, Int.reduceEq, eq_self, List.reduceReplicate, rvF, rvG, e107, e111, Try.f107, VRecDisk.c, moRecDisk, hm0, hn0, rowsRecSlot]
theorem k_heldRecMessageS (l : List VRecMessage) (k : Int) (h0 : 0 ≤ k) (hb : k + (mcL mcRecMessage l : Nat) ≤ 4611686018427387904) : EV Try.prog E 108 [.val 0 false [.sl .shr 8 ((mkL mkRecMessage mcRecMessage l k).map (VRecMessage.c .shr))], .val 0 false [.p (.int .i64 k)]] = some ⟨[(false, [.p (.int .i64 (k + (mcL mcRecMessage l : Nat)))])], []⟩ := by
  have hlc := len_mcL mcRecMessage (fun x => by unfold mcRecMessage; omega) l
  refine EV_intro Try.func108 rfl ?_
  simp only [rv0, rv1, rv2, rv3, rv4, rv5, rv6, rv7, rv8, rv9, rv10, rv11, rv12, rv13, rv14, rvE, rvH, rvS, rvI, eT, eQ, ↓reduceIte, Nat.reduceEqDiff, Nat.reduceAdd, Nat.reduceSub, Nat.reduceMul, Nat.reduceLeDiff, Nat.reduceBEq, decide_true, decide_false, reduceCtorEq, Int.reduceLT, Int.reduceNeg, rvN, Nat.reduceLT, Int.reduceLE, Int.reduceEq, eq_self, List.reduceReplicate, rvF, rvG, e108, Try.f108]
  rw [for_block l (fun i (a : Int) => ⟨3, [(0, .val 0 false [.sl .shr 8 ((mkL mkRecMessage mcRecMessage l k).map (VRecMessage.c .shr))]), (1, .val 1 false [.p (.int .i64 a)]), (5, .val 2 false [.p (.int .i64 i)])]⟩) (fun i a => a = kAt mcRecMessage l k i)
      (fun r i a => .norm ⟨1, [(1, .val 0 false [.p (.int .i64 (k + (mcL mcRecMessage l : Nat)))])]⟩) ?_ ?_ (a := k) (kAt_zero mcRecMessage l k).symm (by simp only [rv0, rv1, rv2, rv3, rv4, rv5, rv6, rv7, rv8, rv9, rv10, rv11, rv12, rv13, rv14, rvE, rvH, rvS, rvI, eT, eQ, ↓reduceIte, Nat.reduceEqDiff, Nat.reduceAdd, Nat.reduceSub, Nat.reduceMul, Nat.reduceLeDiff, Nat.reduceBEq, decide_true, decide_false, reduceCtorEq, Int.reduceLT, Int.reduceNeg, rvN, Nat.reduceLT, Int.reduceLE, Int.reduceEq, eq_self, List.reduceReplicate, rvF, rvG, e108]; rfl)]
  · simp only [rv0, rv1, rv2, rv3, rv4, rv5, rv6, rv7, rv8, rv9, rv10, rv11, rv12, rv13, rv14, rvE, rvH, rvS, rvI, eT, eQ, ↓reduceIte, Nat.reduceEqDiff, Nat.reduceAdd, Nat.reduceSub, Nat.reduceMul, Nat.reduceLeDiff, Nat.reduceBEq, decide_true, decide_false, reduceCtorEq, Int.reduceLT, Int.reduceNeg, rvN, Nat.reduceLT, Int.reduceLE, Int.reduceEq, eq_self, List.reduceReplicate, rvF, rvG, e108]
  · rintro i s r a hd hi rfl
    have hlen := (List.getElem?_eq_some_iff.1 hi).1
    have hlt : ((i : Int) < (l.length : Int)) := by omega
    have hsu := kAt_succ mcRecMessage hi k
    have hge := kAt_ge mcRecMessage l k i
    have hle := kAt_le mcRecMessage hi k
    have hwi := wrap64 (n := (i : Int) + 1) (by omega) (by omega)
    have hi0 : (0 : Int) ≤ (i : Int) := by omega
    have hr := getElem?_map_some (f := (VRecMessage.c .shr)) (mkL_get mkRecMessage mcRecMessage hi k)
    have hlm := mkL_length mkRecMessage mcRecMessage l k
    generalize kAt mcRecMessage l k i = a at *
    simp only [mcRecMessage] at hsu hle
    simp only [VRecMessage.c, mkRecMessage] at hr
    have hw0 := wrap64 (n := a + 1) (by omega) (by omega)
    have hw1 := wrap64 (n := a + 1 + 1) (by omega) (by omega)
    have hw2 := wrap64 (n := a + 1 + 1 + 1) (by omega) (by omega)
    have hw3 := wrap64 (n := a + 1 + 1 + 1 + 1) (by omega) (by omega)
    have hw4 := wrap64 (n := a + 1 + 1 + 1 + 1 + 1) (by omega) (by omega)
    have hw5 := wrap64 (n := a + 1 + 1 + 1 + 1 + 1 + 1) (by omega) (by omega)
    have hm6 := k_markText (a + 1 + 1 + 1 + 1 + 1 + 1) (by omega) (by omega)
    have hw6 := wrap64 (n := a + 1 + 1 + 1 + 1 + 1 + 1 + 1) (by omega) (by omega)
    have hm7 := k_heldRecSlotS s.slots (a + 1 + 1 + 1 + 1 + 1 + 1 + 1) (by omega) (by omega)
    have hn7 : ¬ (a + 1 + 1 + 1 + 1 + 1 + 1 + 1 + (mcL mcRecSlot s.slots : Nat) < 0) := by omega
    left
    refine ⟨a + 1 + 1 + 1 + 1 + 1 + 1 + 1 + (mcL mcRecSlot s.slots : Nat), ?_, by rw [hsu]; omega, rfl⟩
    simp only [rv0, rv1, rv2, rv3, rv4, rv5, rv6, rv7, rv8, rv9, rv10, rv11, rv12, rv13, rv14, rvE, rvH, rvS, rvI, eT, eQ, ↓reduceIte, Nat.reduceEqDiff, Nat.reduceAdd, Nat.reduceSub, Nat.reduceMul, Nat.reduceLeDiff, Nat.reduceBEq, decide_true, decide_false, reduceCtorEq, Int.reduceLT, Int.reduceNeg, rvN, Nat.reduceLT, Int.reduceLE, Int.reduceEq, eq_self, List.reduceReplicate, rvF, rvG, e108, e139, e111, hlt, hr, hwi, hi0, hlm, hlen, i64c, hw0, hw1, hw2, hw3, hw4, hw5, hm6, hw6, hm7, hn7, rowsRecSlot, beq_self_eq_true]
  · rintro a rfl
    simp only [rv0, rv1, rv2, rv3, rv4, rv5, rv6, rv7, rv8, rv9, rv10, rv11, rv12, rv13, rv14, rvE, rvH, rvS, rvI, eT, eQ, ↓reduceIte, Nat.reduceEqDiff, Nat.reduceAdd, Nat.reduceSub, Nat.reduceMul, Nat.reduceLeDiff, Nat.reduceBEq, decide_true, decide_false, reduceCtorEq, Int.reduceLT, Int.reduceNeg, rvN, Nat.reduceLT, Int.reduceLE, Int.reduceEq, eq_self, List.reduceReplicate, rvF, rvG, e108, kAt_all, mkL_length]
theorem k_heldStringS (l : List ByteArray) (k : Int) (h0 : 0 ≤ k) (hb : k + (mcL mcString l : Nat) ≤ 4611686018427387904) : EV Try.prog E 109 [.val 0 false [.sl .shr 1 ((mkL mkString mcString l k).map strC)], .val 0 false [.p (.int .i64 k)]] = some ⟨[(false, [.p (.int .i64 (k + (mcL mcString l : Nat)))])], []⟩ := by
  have hlc := len_mcL mcString (fun x => by unfold mcString; omega) l
  refine EV_intro Try.func109 rfl ?_
  simp only [rv0, rv1, rv2, rv3, rv4, rv5, rv6, rv7, rv8, rv9, rv10, rv11, rv12, rv13, rv14, rvE, rvH, rvS, rvI, eT, eQ, ↓reduceIte, Nat.reduceEqDiff, Nat.reduceAdd, Nat.reduceSub, Nat.reduceMul, Nat.reduceLeDiff, Nat.reduceBEq, decide_true, decide_false, reduceCtorEq, Int.reduceLT, Int.reduceNeg, rvN, Nat.reduceLT, Int.reduceLE, Int.reduceEq, eq_self, List.reduceReplicate, rvF, rvG, e109, Try.f109]
  rw [for_block l (fun i (a : Int) => ⟨3, [(0, .val 0 false [.sl .shr 1 ((mkL mkString mcString l k).map strC)]), (1, .val 1 false [.p (.int .i64 a)]), (5, .val 2 false [.p (.int .i64 i)])]⟩) (fun i a => a = kAt mcString l k i)
      (fun r i a => .norm ⟨1, [(1, .val 0 false [.p (.int .i64 (k + (mcL mcString l : Nat)))])]⟩) ?_ ?_ (a := k) (kAt_zero mcString l k).symm (by simp only [rv0, rv1, rv2, rv3, rv4, rv5, rv6, rv7, rv8, rv9, rv10, rv11, rv12, rv13, rv14, rvE, rvH, rvS, rvI, eT, eQ, ↓reduceIte, Nat.reduceEqDiff, Nat.reduceAdd, Nat.reduceSub, Nat.reduceMul, Nat.reduceLeDiff, Nat.reduceBEq, decide_true, decide_false, reduceCtorEq, Int.reduceLT, Int.reduceNeg, rvN, Nat.reduceLT, Int.reduceLE, Int.reduceEq, eq_self, List.reduceReplicate, rvF, rvG, e109]; rfl)]
  · simp only [rv0, rv1, rv2, rv3, rv4, rv5, rv6, rv7, rv8, rv9, rv10, rv11, rv12, rv13, rv14, rvE, rvH, rvS, rvI, eT, eQ, ↓reduceIte, Nat.reduceEqDiff, Nat.reduceAdd, Nat.reduceSub, Nat.reduceMul, Nat.reduceLeDiff, Nat.reduceBEq, decide_true, decide_false, reduceCtorEq, Int.reduceLT, Int.reduceNeg, rvN, Nat.reduceLT, Int.reduceLE, Int.reduceEq, eq_self, List.reduceReplicate, rvF, rvG, e109]
  · rintro i s r a hd hi rfl
    have hlen := (List.getElem?_eq_some_iff.1 hi).1
    have hlt : ((i : Int) < (l.length : Int)) := by omega
    have hsu := kAt_succ mcString hi k
    have hge := kAt_ge mcString l k i
    have hle := kAt_le mcString hi k
    have hwi := wrap64 (n := (i : Int) + 1) (by omega) (by omega)
    have hi0 : (0 : Int) ≤ (i : Int) := by omega
    have hr := getElem?_map_some (f := strC) (mkL_get mkString mcString hi k)
    have hlm := mkL_length mkString mcString l k
    generalize kAt mcString l k i = a at *
    simp only [mcString] at hsu hle
    simp only [strC, mkString] at hr
    have hm0 := k_markText (a) (by omega) (by omega)
    have hw0 := wrap64 (n := a + 1) (by omega) (by omega)
    left
    refine ⟨a + 1, ?_, by rw [hsu]; omega, rfl⟩
    simp only [rv0, rv1, rv2, rv3, rv4, rv5, rv6, rv7, rv8, rv9, rv10, rv11, rv12, rv13, rv14, rvE, rvH, rvS, rvI, eT, eQ, ↓reduceIte, Nat.reduceEqDiff, Nat.reduceAdd, Nat.reduceSub, Nat.reduceMul, Nat.reduceLeDiff, Nat.reduceBEq, decide_true, decide_false, reduceCtorEq, Int.reduceLT, Int.reduceNeg, rvN, Nat.reduceLT, Int.reduceLE, Int.reduceEq, eq_self, List.reduceReplicate, rvF, rvG, e109, e139, hlt, hr, hwi, hi0, hlm, hlen, i64c, hm0, hw0, beq_self_eq_true]
  · rintro a rfl
    simp only [rv0, rv1, rv2, rv3, rv4, rv5, rv6, rv7, rv8, rv9, rv10, rv11, rv12, rv13, rv14, rvE, rvH, rvS, rvI, eT, eQ, ↓reduceIte, Nat.reduceEqDiff, Nat.reduceAdd, Nat.reduceSub, Nat.reduceMul, Nat.reduceLeDiff, Nat.reduceBEq, decide_true, decide_false, reduceCtorEq, Int.reduceLT, Int.reduceNeg, rvN, Nat.reduceLT, Int.reduceLE, Int.reduceEq, eq_self, List.reduceReplicate, rvF, rvG, e109, kAt_all, mkL_length]
theorem k_heldIntS (l : List Int) (k : Int) (h0 : 0 ≤ k) (hb : k + (mcL mcInt l : Nat) ≤ 4611686018427387904) : EV Try.prog E 110 [.val 0 false [.sl .shr 1 ((mkL mkInt mcInt l k).map intC)], .val 0 false [.p (.int .i64 k)]] = some ⟨[(false, [.p (.int .i64 (k + (mcL mcInt l : Nat)))])], []⟩ := by
  have hlc := len_mcL mcInt (fun x => by unfold mcInt; omega) l
  refine EV_intro Try.func110 rfl ?_
  simp only [rv0, rv1, rv2, rv3, rv4, rv5, rv6, rv7, rv8, rv9, rv10, rv11, rv12, rv13, rv14, rvE, rvH, rvS, rvI, eT, eQ, ↓reduceIte, Nat.reduceEqDiff, Nat.reduceAdd, Nat.reduceSub, Nat.reduceMul, Nat.reduceLeDiff, Nat.reduceBEq, decide_true, decide_false, reduceCtorEq, Int.reduceLT, Int.reduceNeg, rvN, Nat.reduceLT, Int.reduceLE, Int.reduceEq, eq_self, List.reduceReplicate, rvF, rvG, e110, Try.f110]
  rw [for_block l (fun i (a : Int) => ⟨3, [(0, .val 0 false [.sl .shr 1 ((mkL mkInt mcInt l k).map intC)]), (1, .val 1 false [.p (.int .i64 a)]), (5, .val 2 false [.p (.int .i64 i)])]⟩) (fun i a => a = kAt mcInt l k i)
      (fun r i a => .norm ⟨1, [(1, .val 0 false [.p (.int .i64 (k + (mcL mcInt l : Nat)))])]⟩) ?_ ?_ (a := k) (kAt_zero mcInt l k).symm (by simp only [rv0, rv1, rv2, rv3, rv4, rv5, rv6, rv7, rv8, rv9, rv10, rv11, rv12, rv13, rv14, rvE, rvH, rvS, rvI, eT, eQ, ↓reduceIte, Nat.reduceEqDiff, Nat.reduceAdd, Nat.reduceSub, Nat.reduceMul, Nat.reduceLeDiff, Nat.reduceBEq, decide_true, decide_false, reduceCtorEq, Int.reduceLT, Int.reduceNeg, rvN, Nat.reduceLT, Int.reduceLE, Int.reduceEq, eq_self, List.reduceReplicate, rvF, rvG, e110]; rfl)]
  · simp only [rv0, rv1, rv2, rv3, rv4, rv5, rv6, rv7, rv8, rv9, rv10, rv11, rv12, rv13, rv14, rvE, rvH, rvS, rvI, eT, eQ, ↓reduceIte, Nat.reduceEqDiff, Nat.reduceAdd, Nat.reduceSub, Nat.reduceMul, Nat.reduceLeDiff, Nat.reduceBEq, decide_true, decide_false, reduceCtorEq, Int.reduceLT, Int.reduceNeg, rvN, Nat.reduceLT, Int.reduceLE, Int.reduceEq, eq_self, List.reduceReplicate, rvF, rvG, e110]
  · rintro i s r a hd hi rfl
    have hlen := (List.getElem?_eq_some_iff.1 hi).1
    have hlt : ((i : Int) < (l.length : Int)) := by omega
    have hsu := kAt_succ mcInt hi k
    have hge := kAt_ge mcInt l k i
    have hle := kAt_le mcInt hi k
    have hwi := wrap64 (n := (i : Int) + 1) (by omega) (by omega)
    have hi0 : (0 : Int) ≤ (i : Int) := by omega
    have hr := getElem?_map_some (f := intC) (mkL_get mkInt mcInt hi k)
    have hlm := mkL_length mkInt mcInt l k
    generalize kAt mcInt l k i = a at *
    simp only [mcInt] at hsu hle
    simp only [intC, mkInt] at hr
    have hw0 := wrap64 (n := a + 1) (by omega) (by omega)
    left
    refine ⟨a + 1, ?_, by rw [hsu]; omega, rfl⟩
    simp only [rv0, rv1, rv2, rv3, rv4, rv5, rv6, rv7, rv8, rv9, rv10, rv11, rv12, rv13, rv14, rvE, rvH, rvS, rvI, eT, eQ, ↓reduceIte, Nat.reduceEqDiff, Nat.reduceAdd, Nat.reduceSub, Nat.reduceMul, Nat.reduceLeDiff, Nat.reduceBEq, decide_true, decide_false, reduceCtorEq, Int.reduceLT, Int.reduceNeg, rvN, Nat.reduceLT, Int.reduceLE, Int.reduceEq, eq_self, List.reduceReplicate, rvF, rvG, e110, hlt, hr, hwi, hi0, hlm, hlen, i64c, hw0, beq_self_eq_true]
  · rintro a rfl
    simp only [rv0, rv1, rv2, rv3, rv4, rv5, rv6, rv7, rv8, rv9, rv10, rv11, rv12, rv13, rv14, rvE, rvH, rvS, rvI, eT, eQ, ↓reduceIte, Nat.reduceEqDiff, Nat.reduceAdd, Nat.reduceSub, Nat.reduceMul, Nat.reduceLeDiff, Nat.reduceBEq, decide_true, decide_false, reduceCtorEq, Int.reduceLT, Int.reduceNeg, rvN, Nat.reduceLT, Int.reduceLE, Int.reduceEq, eq_self, List.reduceReplicate, rvF, rvG, e110, kAt_all, mkL_length]
theorem k_heldRecAckS (l : List VRecAck) (k : Int) (h0 : 0 ≤ k) (hb : k + (mcL mcRecAck l : Nat) ≤ 4611686018427387904) : EV Try.prog E 112 [.val 0 false [.sl .shr 2 ((mkL mkRecAck mcRecAck l k).map (VRecAck.c .shr))], .val 0 false [.p (.int .i64 k)]] = some ⟨[(false, [.p (.int .i64 (k + (mcL mcRecAck l : Nat)))])], []⟩ := by
  have hlc := len_mcL mcRecAck (fun x => by unfold mcRecAck; omega) l
  refine EV_intro Try.func112 rfl ?_
  simp only [rv0, rv1, rv2, rv3, rv4, rv5, rv6, rv7, rv8, rv9, rv10, rv11, rv12, rv13, rv14, rvE, rvH, rvS, rvI, eT, eQ, ↓reduceIte, Nat.reduceEqDiff, Nat.reduceAdd, Nat.reduceSub, Nat.reduceMul, Nat.reduceLeDiff, Nat.reduceBEq, decide_true, decide_false, reduceCtorEq, Int.reduceLT, Int.reduceNeg, rvN, Nat.reduceLT, Int.reduceLE, Int.reduceEq, eq_self, List.reduceReplicate, rvF, rvG, e112, Try.f112]
  rw [for_block l (fun i (a : Int) => ⟨3, [(0, .val 0 false [.sl .shr 2 ((mkL mkRecAck mcRecAck l k).map (VRecAck.c .shr))]), (1, .val 1 false [.p (.int .i64 a)]), (5, .val 2 false [.p (.int .i64 i)])]⟩) (fun i a => a = kAt mcRecAck l k i)
      (fun r i a => .norm ⟨1, [(1, .val 0 false [.p (.int .i64 (k + (mcL mcRecAck l : Nat)))])]⟩) ?_ ?_ (a := k) (kAt_zero mcRecAck l k).symm (by simp only [rv0, rv1, rv2, rv3, rv4, rv5, rv6, rv7, rv8, rv9, rv10, rv11, rv12, rv13, rv14, rvE, rvH, rvS, rvI, eT, eQ, ↓reduceIte, Nat.reduceEqDiff, Nat.reduceAdd, Nat.reduceSub, Nat.reduceMul, Nat.reduceLeDiff, Nat.reduceBEq, decide_true, decide_false, reduceCtorEq, Int.reduceLT, Int.reduceNeg, rvN, Nat.reduceLT, Int.reduceLE, Int.reduceEq, eq_self, List.reduceReplicate, rvF, rvG, e112]; rfl)]
  · simp only [rv0, rv1, rv2, rv3, rv4, rv5, rv6, rv7, rv8, rv9, rv10, rv11, rv12, rv13, rv14, rvE, rvH, rvS, rvI, eT, eQ, ↓reduceIte, Nat.reduceEqDiff, Nat.reduceAdd, Nat.reduceSub, Nat.reduceMul, Nat.reduceLeDiff, Nat.reduceBEq, decide_true, decide_false, reduceCtorEq, Int.reduceLT, Int.reduceNeg, rvN, Nat.reduceLT, Int.reduceLE, Int.reduceEq, eq_self, List.reduceReplicate, rvF, rvG, e112]
  · rintro i s r a hd hi rfl
    have hlen := (List.getElem?_eq_some_iff.1 hi).1
    have hlt : ((i : Int) < (l.length : Int)) := by omega
    have hsu := kAt_succ mcRecAck hi k
    have hge := kAt_ge mcRecAck l k i
    have hle := kAt_le mcRecAck hi k
    have hwi := wrap64 (n := (i : Int) + 1) (by omega) (by omega)
    have hi0 : (0 : Int) ≤ (i : Int) := by omega
    have hr := getElem?_map_some (f := (VRecAck.c .shr)) (mkL_get mkRecAck mcRecAck hi k)
    have hlm := mkL_length mkRecAck mcRecAck l k
    generalize kAt mcRecAck l k i = a at *
    simp only [mcRecAck] at hsu hle
    simp only [VRecAck.c, mkRecAck] at hr
    have hw0 := wrap64 (n := a + 1) (by omega) (by omega)
    have hm1 := k_heldIntS s.from_ (a + 1) (by omega) (by omega)
    have hn1 : ¬ (a + 1 + (mcL mcInt s.from_ : Nat) < 0) := by omega
    left
    refine ⟨a + 1 + (mcL mcInt s.from_ : Nat), ?_, by rw [hsu]; omega, rfl⟩
    simp only [rv0, rv1, rv2, rv3, rv4, rv5, rv6, rv7, rv8, rv9, rv10, rv11, rv12, rv13, rv14, rvE, rvH, rvS, rvI, eT, eQ, ↓reduceIte, Nat.reduceEqDiff, Nat.reduceAdd, Nat.reduceSub, Nat.reduceMul, Nat.reduceLeDiff, Nat.reduceBEq, decide_true, decide_false, reduceCtorEq, Int.reduceLT, Int.reduceNeg, rvN, Nat.reduceLT, Int.reduceLE, Int.reduceEq, eq_self, List.reduceReplicate, rvF, rvG, e112, e110, hlt, hr, hwi, hi0, hlm, hlen, i64c, hw0, hm1, hn1, rowsInt, beq_self_eq_true]
  · rintro a rfl
    simp only [rv0, rv1, rv2, rv3, rv4, rv5, rv6, rv7, rv8, rv9, rv10, rv11, rv12, rv13, rv14, rvE, rvH, rvS, rvI, eT, eQ, ↓reduceIte, Nat.reduceEqDiff, Nat.reduceAdd, Nat.reduceSub, Nat.reduceMul, Nat.reduceLeDiff, Nat.reduceBEq, decide_true, decide_false, reduceCtorEq, Int.reduceLT, Int.reduceNeg, rvN, Nat.reduceLT, Int.reduceLE, Int.reduceEq, eq_self, List.reduceReplicate, rvF, rvG, e112, kAt_all, mkL_length]
theorem k_heldRecorder (x : VRecorder) (k : Int) (h0 : 0 ≤ k) (hb : k + (ocRecorder x : Nat) ≤ 4611686018427387904) : EV Try.prog E 37 [.val 0 true (VRecorder.c .shr (moRecorder x k)), .val 0 false [.p (.int .i64 k)]] = some ⟨[(false, [.p (.int .i64 (k + (ocRecorder x : Nat)))])], []⟩ := by
  refine EV_intro Try.func37 rfl ?_
  unfold ocRecorder at hb ⊢
  have hm0 := k_heldRecDisk x.safe (k) (by omega) (by omega)
  simp only [VRecDisk.c, moRecDisk] at hm0
  have hn0 : ¬ (k + (ocRecDisk x.safe : Nat) < 0) := by omega
  have hm1 := k_heldRecDisk x.disk (k + (ocRecDisk x.safe : Nat)) (by omega) (by omega)
  simp only [VRecDisk.c, moRecDisk] at hm1
  have hn1 : ¬ (k + (ocRecDisk x.safe : Nat) + (ocRecDisk x.disk : Nat) < 0) := by omega
  have hm2 := k_heldRecMessageS x.held (k + (ocRecDisk x.safe : Nat) + (ocRecDisk x.disk : Nat)) (by omega) (by omega)
  have hn2 : ¬ (k + (ocRecDisk x.safe : Nat) + (ocRecDisk x.disk : Nat) + (mcL mcRecMessage x.held : Nat) < 0) := by omega
  have hm3 := k_heldStringS x.wishes (k + (ocRecDisk x.safe : Nat) + (ocRecDisk x.disk : Nat) + (mcL mcRecMessage x.held : Nat)) (by omega) (by omega)
  have hn3 : ¬ (k + (ocRecDisk x.safe : Nat) + (ocRecDisk x.disk : Nat) + (mcL mcRecMessage x.held : Nat) + (mcL mcString x.wishes : Nat) < 0) := by omega
  have hm4 := k_heldIntS x.yes (k + (ocRecDisk x.safe : Nat) + (ocRecDisk x.disk : Nat) + (mcL mcRecMessage x.held : Nat) + (mcL mcString x.wishes : Nat)) (by omega) (by omega)
  have hn4 : ¬ (k + (ocRecDisk x.safe : Nat) + (ocRecDisk x.disk : Nat) + (mcL mcRecMessage x.held : Nat) + (mcL mcString x.wishes : Nat) + (mcL mcInt x.yes : Nat) < 0) := by omega
  have hm5 := k_heldRecSlotS x.best (k + (ocRecDisk x.safe : Nat) + (ocRecDisk x.disk : Nat) + (mcL mcRecMessage x.held : Nat) + (mcL mcString x.wishes : Nat) + (mcL mcInt x.yes : Nat)) (by omega) (by omega)
  have hn5 : ¬ (k + (ocRecDisk x.safe : Nat) + (ocRecDisk x.disk : Nat) + (mcL mcRecMessage x.held : Nat) + (mcL mcString x.wishes : Nat) + (mcL mcInt x.yes : Nat) + (mcL mcRecSlot x.best : Nat) < 0) := by omega
  have hm6 := k_heldRecAckS x.acks (k + (ocRecDisk x.safe : Nat) + (ocRecDisk x.disk : Nat) + (mcL mcRecMessage x.held : Nat) + (mcL mcString x.wishes : Nat) + (mcL mcInt x.yes : Nat) + (mcL mcRecSlot x.best : Nat)) (by omega) (by omega)
  have hn6 : ¬ (k + (ocRecDisk x.safe : Nat) + (ocRecDisk x.disk : Nat) + (mcL mcRecMessage x.held : Nat) + (mcL mcString x.wishes : Nat) + (mcL mcInt x.yes : Nat) + (mcL mcRecSlot x.best : Nat) + (mcL mcRecAck x.acks : Nat) < 0) := by omega
  have he : k + ((ocRecDisk x.safe + ocRecDisk x.disk + mcL mcRecMessage x.held + mcL mcString x.wishes + mcL mcInt x.yes + mcL mcRecSlot x.best + mcL mcRecAck x.acks : Nat) : Int) = k + (ocRecDisk x.safe : Nat) + (ocRecDisk x.disk : Nat) + (mcL mcRecMessage x.held : Nat) + (mcL mcString x.wishes : Nat) + (mcL mcInt x.yes : Nat) + (mcL mcRecSlot x.best : Nat) + (mcL mcRecAck x.acks : Nat) := by omega
  rw [he]
  simp only [rv0, rv1, rv2, rv3, rv4, rv5, rv6, rv7, rv8, rv9, rv10, rv11, rv12, rv13, rv14, rvE, rvH, rvS, rvI, eT, eQ, ↓reduceIte, Nat.reduceEqDiff, Nat.reduceAdd, Nat.reduceSub, Nat.reduceMul, Nat.reduceLeDiff, Nat.reduceBEq, decide_true, decide_false, reduceCtorEq, Int.reduceLT, Int.reduceNeg, rvN, Nat.reduceLT, Int.reduceLE, Int.reduceEq, eq_self, List.reduceReplicate, rvF, rvG, e37, e107, e108, e109, e110, e111, e112, Try.f37, VRecorder.c, moRecorder, moRecDisk, hm0, hn0, hm1, hn1, hm2, hn2, hm3, hn3, hm4, hn4, hm5, hn5, hm6, hn6, rowsRecSlot, rowsRecMessage, rowsString, rowsInt, rowsRecAck]
theorem mc_leRecSlot (x : VRecSlot) : mcRecSlot x ≤ 2 + 2 * x.w := by
  unfold mcRecSlot VRecSlot.w
  omega
theorem mcL_leRecSlot (l : List VRecSlot) : mcL mcRecSlot l ≤ 2 * wSRecSlot l := by
  unfold wSRecSlot
  induction l with
  | nil => simp [mcL]
  | cons x r ih =>
    have := mc_leRecSlot x
    simp only [mcL, sumWRecSlot, List.length_cons]
    omega
theorem mc_leRecMessage (x : VRecMessage) : mcRecMessage x ≤ 7 + 7 * x.w := by
  have h0 := mcL_leRecSlot x.slots
  unfold mcRecMessage VRecMessage.w
  omega
theorem mcL_leRecMessage (l : List VRecMessage) : mcL mcRecMessage l ≤ 7 * wSRecMessage l := by
  unfold wSRecMessage
  induction l with
  | nil => simp [mcL]
  | cons x r ih =>
    have := mc_leRecMessage x
    simp only [mcL, sumWRecMessage, List.length_cons]
    omega
theorem mc_leString (x : ByteArray) : mcString x ≤ 1 + 1 * x.size := by
  unfold mcString
  omega
theorem mcL_leString (l : List ByteArray) : mcL mcString l ≤ 1 * wSString l := by
  unfold wSString
  induction l with
  | nil => simp [mcL]
  | cons x r ih =>
    have := mc_leString x
    simp only [mcL, sumWString, List.length_cons]
    omega
theorem mcL_leInt (l : List Int) : mcL mcInt l ≤ 1 * wSInt l := by
  unfold wSInt
  induction l with
  | nil => simp [mcL]
  | cons x r ih => simp only [mcL, mcInt, List.length_cons]; omega
theorem mc_leRecAck (x : VRecAck) : mcRecAck x ≤ 1 + 1 * x.w := by
  have h0 := mcL_leInt x.from_
  unfold mcRecAck VRecAck.w
  omega
theorem mcL_leRecAck (l : List VRecAck) : mcL mcRecAck l ≤ 1 * wSRecAck l := by
  unfold wSRecAck
  induction l with
  | nil => simp [mcL]
  | cons x r ih =>
    have := mc_leRecAck x
    simp only [mcL, sumWRecAck, List.length_cons]
    omega
theorem oc_leRecorder (x : VRecorder) : ocRecorder x ≤ 11 * x.w := by
  have h0 := mcL_leRecSlot x.safe.slots
  have h1 := mcL_leRecSlot x.disk.slots
  have h2 := mcL_leRecMessage x.held
  have h3 := mcL_leString x.wishes
  have h4 := mcL_leInt x.yes
  have h5 := mcL_leRecSlot x.best
  have h6 := mcL_leRecAck x.acks
  unfold ocRecorder ocRecDisk VRecorder.w VRecDisk.w
  omega
end Go.Proofs.Ytjcbojcnfdlfaaa
