/- Mirrors: views, conversions, marks (written by a program). -/
import Derived.Test.YtdjapblnmkghoaaM3o
namespace Go.Proofs.Ytdjapblnmkghoaa
open Go.Sx
set_option maxRecDepth 100000
set_option maxHeartbeats 4000000
set_option linter.unusedVariables false
set_option linter.unusedSimpArgs false
structure VBookMirror where
  kind : ByteArray
  prefix_ : ByteArray
  at_ : Int
  objects : List VBookObject
  seen : Int
def VBookMirror.c (f : Fl) (x : VBookMirror) : List C := [.p (.string x.kind), .p (.string x.prefix_), .p (.int .i64 x.at_), .sl f 7 (x.objects.map (VBookObject.c f)), .p (.int .i64 x.seen)]
def VBookMirror.w (x : VBookMirror) : Nat := x.kind.size + x.prefix_.size + wSBookObject x.objects
def VBookMirror.ok (x : VBookMirror) : Prop := x.kind.size ≤ maxLen ∧ x.prefix_.size ≤ maxLen ∧ i64ok x.at_ ∧ (x.objects.length ≤ maxLen ∧ ∀ e ∈ x.objects, e.ok) ∧ i64ok x.seen
theorem k_szBookMirror (x : VBookMirror) (left : Int) (hx : x.ok) (h0 : 0 ≤ left) (h1 : left ≤ 1048576) : EV Try.prog E 21 [.val 0 true (VBookMirror.c .shr x), .val 0 false [.p (.int .i64 left)]] = some ⟨[(false, [.p (.int .i64 (subW left x.w))])], []⟩ := by
  refine EV_intro Try.func21 rfl ?_
  have hx0 := hx
  simp only [VBookMirror.ok] at hx
  obtain ⟨o_kind, o_prefix_, o_at_, o_objects, o_seen⟩ := hx
  have w0 := wrap64 (n := left - x.kind.size) (by unfold maxLen at *; omega) (by omega)
  by_cases c0 : left < (x.kind.size : Nat)
  · have e : subW left x.w = -1 := subW_lt (by unfold VBookMirror.w; omega)
    have d0 : left - (x.kind.size : Int) < 0 := by omega
    simp only [rv0, rv1, rvE, rvH, rvS, rvI, eT, eQ, ↓reduceIte, Nat.reduceEqDiff, Nat.reduceAdd, Nat.reduceSub, Nat.reduceMul, Nat.reduceLeDiff, Nat.reduceBEq, decide_true, decide_false, reduceCtorEq, Int.reduceLT, Int.reduceNeg, rvN, Nat.reduceLT, Int.reduceLE, Int.reduceEq, eq_self, List.reduceReplicate, rvF, rvG, e21, Try.f21, VBookMirror.c, w0, d0, e]
  have d0 : ¬ (left - (x.kind.size : Nat) < 0) := by omega
  have w1 := wrap64 (n := left - (x.kind.size : Nat) - x.prefix_.size) (by unfold maxLen at *; omega) (by omega)
  by_cases c1 : left - (x.kind.size : Nat) < (x.prefix_.size : Nat)
  · have e : subW left x.w = -1 := subW_lt (by unfold VBookMirror.w; omega)
    have d1 : left - (x.kind.size : Nat) - (x.prefix_.size : Int) < 0 := by omega
    simp only [rv0, rv1, rvE, rvH, rvS, rvI, eT, eQ, ↓reduceIte, Nat.reduceEqDiff, Nat.reduceAdd, Nat.reduceSub, Nat.reduceMul, Nat.reduceLeDiff, Nat.reduceBEq, decide_true, decide_false, reduceCtorEq, Int.reduceLT, Int.reduceNeg, rvN, Nat.reduceLT, Int.reduceLE, Int.reduceEq, eq_self, List.reduceReplicate, rvF, rvG, e21, Try.f21, VBookMirror.c, w0, d0, w1, d1, e]
  have d1 : ¬ (left - (x.kind.size : Nat) - (x.prefix_.size : Nat) < 0) := by omega
  have w2 := k_szBookObjectS x.objects (left - (x.kind.size : Nat) - (x.prefix_.size : Nat)) o_objects (by omega) (by omega)
  by_cases c2 : left - (x.kind.size : Nat) - (x.prefix_.size : Nat) < (wSBookObject x.objects : Nat)
  · have e : subW left x.w = -1 := subW_lt (by unfold VBookMirror.w; omega)
    rw [subW_lt c2] at w2
    simp only [rv0, rv1, rvE, rvH, rvS, rvI, eT, eQ, ↓reduceIte, Nat.reduceEqDiff, Nat.reduceAdd, Nat.reduceSub, Nat.reduceMul, Nat.reduceLeDiff, Nat.reduceBEq, decide_true, decide_false, reduceCtorEq, Int.reduceLT, Int.reduceNeg, rvN, Nat.reduceLT, Int.reduceLE, Int.reduceEq, eq_self, List.reduceReplicate, rvF, rvG, e21, e53, Try.f21, VBookMirror.c, w0, d0, w1, d1, w2, e]
  rw [subW_ge c2] at w2
  have d2 : ¬ (left - (x.kind.size : Nat) - (x.prefix_.size : Nat) - (wSBookObject x.objects : Nat) < 0) := by omega
  have e : subW left x.w = left - (x.kind.size : Nat) - (x.prefix_.size : Nat) - (wSBookObject x.objects : Nat) := by rw [subW_ge (by unfold VBookMirror.w; omega)]; unfold VBookMirror.w; omega
  simp only [rv0, rv1, rvE, rvH, rvS, rvI, eT, eQ, ↓reduceIte, Nat.reduceEqDiff, Nat.reduceAdd, Nat.reduceSub, Nat.reduceMul, Nat.reduceLeDiff, Nat.reduceBEq, decide_true, decide_false, reduceCtorEq, Int.reduceLT, Int.reduceNeg, rvN, Nat.reduceLT, Int.reduceLE, Int.reduceEq, eq_self, List.reduceReplicate, rvF, rvG, e21, e53, Try.f21, VBookMirror.c, w0, d0, w1, d1, w2, d2, e]
theorem k_toBookMirror (x : VBookMirror) (hw : x.w ≤ 4194304) : EV Try.prog E 24 [.val 0 true (VBookMirror.c .shr x)] = some ⟨[(true, VBookMirror.c .own x)], []⟩ := by
  refine EV_intro Try.func24 rfl ?_
  unfold VBookMirror.w at hw
  have h0 := k_toBookObjectS x.objects (by omega)
  simp only [rv0, rv1, rvE, rvH, rvS, rvI, eT, eQ, ↓reduceIte, Nat.reduceEqDiff, Nat.reduceAdd, Nat.reduceSub, Nat.reduceMul, Nat.reduceLeDiff, Nat.reduceBEq, decide_true, decide_false, reduceCtorEq, Int.reduceLT, Int.reduceNeg, rvN, Nat.reduceLT, Int.reduceLE, Int.reduceEq, eq_self, List.reduceReplicate, rvF, rvG, e24, e57, Try.f24, VBookMirror.c, h0, rowsBookObject]
theorem k_eqBookMirror (x : VBookMirror) (hw : x.w ≤ 4194304) : EV Try.prog E 27 [.val 0 true (VBookMirror.c .shr x), .val 0 true (VBookMirror.c .shr x)] = some ⟨[(false, [.p (.bool true)])], []⟩ := by
  refine EV_intro Try.func27 rfl ?_
  unfold VBookMirror.w at hw
  have h0 := k_eqBookObjectS x.objects (by omega)
  simp only [rv0, rv1, rvE, rvH, rvS, rvI, eT, eQ, ↓reduceIte, Nat.reduceEqDiff, Nat.reduceAdd, Nat.reduceSub, Nat.reduceMul, Nat.reduceLeDiff, Nat.reduceBEq, decide_true, decide_false, reduceCtorEq, Int.reduceLT, Int.reduceNeg, rvN, Nat.reduceLT, Int.reduceLE, Int.reduceEq, eq_self, List.reduceReplicate, rvF, rvG, e27, e36, Try.f27, VBookMirror.c, h0, beq_self_eq_true]
def moBookMirror (x : VBookMirror) (k : Int) : VBookMirror := ⟨x.kind, x.prefix_, x.at_, mkL mkBookObject mcBookObject x.objects (k), x.seen⟩
def ocBookMirror (x : VBookMirror) : Nat := mcL mcBookObject x.objects
theorem k_markBookMirror (x : VBookMirror) (k : Int) (h0 : 0 ≤ k) (hb : k + (ocBookMirror x : Nat) ≤ 4611686018427387904) : EV Try.prog E 29 [.val 0 true (VBookMirror.c .own x), .val 0 false [.p (.int .i64 k)]] = some ⟨[(false, [.p (.int .i64 (k + (ocBookMirror x : Nat)))])], [VBookMirror.c .own (moBookMirror x k)]⟩ := by
  refine EV_intro Try.func29 rfl ?_
  unfold ocBookMirror at hb ⊢
  have hm0 := k_markBookObjectS x.objects (k) (by omega) (by omega)
  have he : k + ((mcL mcBookObject x.objects : Nat) : Int) = k + (mcL mcBookObject x.objects : Nat) := by omega
  rw [he]
  simp only [rv0, rv1, rvE, rvH, rvS, rvI, eT, eQ, ↓reduceIte, Nat.reduceEqDiff, Nat.reduceAdd, Nat.reduceSub, Nat.reduceMul, Nat.reduceLeDiff, Nat.reduceBEq, decide_true, decide_false, reduceCtorEq, Int.reduceLT, Int.reduceNeg, rvN, Nat.reduceLT, Int.reduceLE, Int.reduceEq, eq_self, List.reduceReplicate, rvF, rvG, e29, e37, Try.f29, VBookMirror.c, moBookMirror, hm0, rowsBookObject]
theorem k_heldBookMirror (x : VBookMirror) (k : Int) (h0 : 0 ≤ k) (hb : k + (ocBookMirror x : Nat) ≤ 4611686018427387904) : EV Try.prog E 31 [.val 0 true (VBookMirror.c .shr (moBookMirror x k)), .val 0 false [.p (.int .i64 k)]] = some ⟨[(false, [.p (.int .i64 (k + (ocBookMirror x : Nat)))])], []⟩ := by
  refine EV_intro Try.func31 rfl ?_
  unfold ocBookMirror at hb ⊢
  have hm0 := k_heldBookObjectS x.objects (k) (by omega) (by omega)
  have hn0 : ¬ (k + (mcL mcBookObject x.objects : Nat) < 0) := by omega
  have he : k + ((mcL mcBookObject x.objects : Nat) : Int) = k + (mcL mcBookObject x.objects : Nat) := by omega
  rw [he]
  simp only [rv0, rv1, rvE, rvH, rvS, rvI, eT, eQ, ↓reduceIte, Nat.reduceEqDiff, Nat.reduceAdd, Nat.reduceSub, Nat.reduceMul, Nat.reduceLeDiff, Nat.reduceBEq, decide_true, decide_false, reduceCtorEq, Int.reduceLT, Int.reduceNeg, rvN, Nat.reduceLT, Int.reduceLE, Int.reduceEq, eq_self, List.reduceReplicate, rvF, rvG, e31, e38, Try.f31, VBookMirror.c, moBookMirror, hm0, hn0, rowsBookObject]
theorem oc_leBookMirror (x : VBookMirror) : ocBookMirror x ≤ 6 * x.w := by
  have h0 := mcL_leBookObject x.objects
  unfold ocBookMirror VBookMirror.w
  omega
end Go.Proofs.Ytdjapblnmkghoaa

