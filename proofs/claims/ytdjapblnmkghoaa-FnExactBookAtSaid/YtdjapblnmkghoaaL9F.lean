/- FnExactBookAt: for all arguments within the bounds, the program answers as the reference. -/
import Derived.Test.YtdjapblnmkghoaaRows
import Derived.Test.YtdjapblnmkghoaaL9a
import Derived.KernelRfl
import Derived.JoinedOf
namespace Go.Proofs.Ytdjapblnmkghoaa
open Go.Sx
set_option maxRecDepth 100000
set_option linter.unusedVariables false
set_option linter.unusedSimpArgs false

theorem u3 : Try.prog.underlying 3 = some (.int .i64) := by kernel_rfl
theorem u9 : Try.prog.underlying 9 = some .string := by kernel_rfl
theorem u4 : Try.prog.underlying 4 = some .bool := by kernel_rfl
theorem u28 : Try.prog.underlying 28 = some (.slice 9) := by kernel_rfl
theorem z28_9 : Try.prog.cellsOf 9 = 1 := by kernel_rfl
theorem ct28 {n : Nat} {tr : List C} (h : CT Try.prog (n + 2) 28 tr) : ∃ l : List ByteArray, tr = [.sl .shr 1 (l.map strC)] ∧ l.length ≤ maxLen ∧ ∀ x ∈ l, x.size ≤ maxLen := by
  obtain ⟨l, h1, h2, h3⟩ := CT_slice (p := fun x => x.size ≤ maxLen) (f := strC) u28 z28_9 (fun r hr => by
    obtain ⟨m, rfl, hm⟩ := CT_str u9 hr
    exact ⟨m, rfl, hm⟩) h
  exact ⟨l, h1, h3, h2⟩
theorem u127 : (Try.prog.underlying 127).bind fieldTys = some [9, 9, 3, 3, 9, 4, 28] := by kernel_rfl
theorem ct127 {n : Nat} {tr : List C} (h : CT Try.prog (n + 3) 127 tr) : ∃ x : VBookObject, tr = VBookObject.c .shr x ∧ x.ok := by
  obtain ⟨x0, _, rfl, _, h0, x1, _, rfl, _, h1, x2, _, rfl, _, h2, x3, _, rfl, _, h3, x4, _, rfl, _, h4, x5, _, rfl, _, h5, x6, _, rfl, _, h6, rfl⟩ := CT_struct u127 h
  obtain ⟨v0, rfl, o0⟩ := CT_str u9 h0
  obtain ⟨v1, rfl, o1⟩ := CT_str u9 h1
  obtain ⟨v2, rfl, o2⟩ := CT_int u3 h2
  obtain ⟨v3, rfl, o3⟩ := CT_int u3 h3
  obtain ⟨v4, rfl, o4⟩ := CT_str u9 h4
  obtain ⟨v5, rfl⟩ := CT_bool u4 h5
  obtain ⟨v6, rfl, o6⟩ := ct28 h6
  exact ⟨⟨v0, v1, v2, v3, v4, v5, v6⟩, rfl, o0, o1, i64_of o2, i64_of o3, o4, o6⟩
theorem u22 : Try.prog.underlying 22 = some (.slice 127) := by kernel_rfl
theorem z22_127 : Try.prog.cellsOf 127 = 7 := by kernel_rfl
theorem ct22 {n : Nat} {tr : List C} (h : CT Try.prog (n + 4) 22 tr) : ∃ l : List VBookObject, tr = [.sl .shr 7 (l.map (VBookObject.c .shr))] ∧ l.length ≤ maxLen ∧ ∀ x ∈ l, x.ok := by
  obtain ⟨l, h1, h2, h3⟩ := CT_slice (p := fun x => x.ok) (f := (VBookObject.c .shr)) u22 z22_127 (fun r hr => by
    obtain ⟨x, rfl, hx⟩ := ct127 hr
    exact ⟨x, rfl, hx⟩) h
  exact ⟨l, h1, h3, h2⟩
theorem u130 : (Try.prog.underlying 130).bind fieldTys = some [3, 4, 127] := by kernel_rfl
theorem ct130 {n : Nat} {tr : List C} (h : CT Try.prog (n + 4) 130 tr) : ∃ x : VBookChange, tr = VBookChange.c .shr x ∧ x.ok := by
  obtain ⟨x0, _, rfl, _, h0, x1, _, rfl, _, h1, x2, _, rfl, _, h2, rfl⟩ := CT_struct u130 h
  obtain ⟨v0, rfl, o0⟩ := CT_int u3 h0
  obtain ⟨v1, rfl⟩ := CT_bool u4 h1
  obtain ⟨v2, rfl, o2⟩ := ct127 h2
  exact ⟨⟨v0, v1, v2⟩, rfl, i64_of o0, o2⟩
theorem u23 : Try.prog.underlying 23 = some (.slice 130) := by kernel_rfl
theorem z23_130 : Try.prog.cellsOf 130 = 9 := by kernel_rfl
theorem ct23 {n : Nat} {tr : List C} (h : CT Try.prog (n + 5) 23 tr) : ∃ l : List VBookChange, tr = [.sl .shr 9 (l.map (VBookChange.c .shr))] ∧ l.length ≤ maxLen ∧ ∀ x ∈ l, x.ok := by
  obtain ⟨l, h1, h2, h3⟩ := CT_slice (p := fun x => x.ok) (f := (VBookChange.c .shr)) u23 z23_130 (fun r hr => by
    obtain ⟨x, rfl, hx⟩ := ct130 hr
    exact ⟨x, rfl, hx⟩) h
  exact ⟨l, h1, h3, h2⟩
theorem u132 : (Try.prog.underlying 132).bind fieldTys = some [9, 3, 9, 3, 3] := by kernel_rfl
theorem ct132 {n : Nat} {tr : List C} (h : CT Try.prog (n + 2) 132 tr) : ∃ x : VBookTicket, tr = VBookTicket.c x ∧ x.ok := by
  obtain ⟨x0, _, rfl, _, h0, x1, _, rfl, _, h1, x2, _, rfl, _, h2, x3, _, rfl, _, h3, x4, _, rfl, _, h4, rfl⟩ := CT_struct u132 h
  obtain ⟨v0, rfl, o0⟩ := CT_str u9 h0
  obtain ⟨v1, rfl, o1⟩ := CT_int u3 h1
  obtain ⟨v2, rfl, o2⟩ := CT_str u9 h2
  obtain ⟨v3, rfl, o3⟩ := CT_int u3 h3
  obtain ⟨v4, rfl, o4⟩ := CT_int u3 h4
  exact ⟨⟨v0, v1, v2, v3, v4⟩, rfl, o0, i64_of o1, o2, i64_of o3, i64_of o4⟩
theorem u24 : Try.prog.underlying 24 = some (.slice 132) := by kernel_rfl
theorem z24_132 : Try.prog.cellsOf 132 = 5 := by kernel_rfl
theorem ct24 {n : Nat} {tr : List C} (h : CT Try.prog (n + 3) 24 tr) : ∃ l : List VBookTicket, tr = [.sl .shr 5 (l.map VBookTicket.c)] ∧ l.length ≤ maxLen ∧ ∀ x ∈ l, x.ok := by
  obtain ⟨l, h1, h2, h3⟩ := CT_slice (p := fun x => x.ok) (f := VBookTicket.c) u24 z24_132 (fun r hr => by
    obtain ⟨x, rfl, hx⟩ := ct132 hr
    exact ⟨x, rfl, hx⟩) h
  exact ⟨l, h1, h3, h2⟩
theorem u26 : (Try.prog.underlying 26).bind fieldTys = some [3, 3, 22, 23, 24] := by kernel_rfl
theorem ct26 {n : Nat} {tr : List C} (h : CT Try.prog (n + 6) 26 tr) : ∃ x : VBook, tr = VBook.c .shr x ∧ x.ok := by
  obtain ⟨x0, _, rfl, _, h0, x1, _, rfl, _, h1, x2, _, rfl, _, h2, x3, _, rfl, _, h3, x4, _, rfl, _, h4, rfl⟩ := CT_struct u26 h
  obtain ⟨v0, rfl, o0⟩ := CT_int u3 h0
  obtain ⟨v1, rfl, o1⟩ := CT_int u3 h1
  obtain ⟨v2, rfl, o2⟩ := ct22 h2
  obtain ⟨v3, rfl, o3⟩ := ct23 h3
  obtain ⟨v4, rfl, o4⟩ := ct24 h4
  exact ⟨⟨v0, v1, v2, v3, v4⟩, rfl, i64_of o0, i64_of o1, o2, o3, o4⟩
theorem law9 (trs : List (List C)) (h : CTall Try.prog 8 [26, 3] trs) : EV Try.prog E 9 (argsS Try.prog [26, 3] trs) = some ⟨[(false, [.p (.bool true)])], []⟩ := by
  obtain ⟨t0, r0, rfl, h0, h⟩ := CTall_cons h
  obtain ⟨t1, r1, rfl, h1, h⟩ := CTall_cons h
  obtain rfl := CTall_nil h
  obtain ⟨x0, rfl, o0⟩ := ct26 h0
  have s0 : isStr Try.prog 26 = true := by kernel_rfl
  obtain ⟨x1, rfl, o1⟩ := CT_int u3 h1
  have s1 : isStr Try.prog 3 = false := by kernel_rfl
  simp only [argsS, argS, s0, s1]
  exact k9 x0 x1 o0 (i64_of o1)
theorem kids : Kids Try.prog (· < Try.prog.types.size) := kids_rows (by kernel_rfl) (by kernel_rfl)
theorem full : ∀ t e, t < Try.prog.types.size → Try.prog.underlying t = some (.slice e) → 0 < Try.prog.cellsOf e := slices_full_of Try.prog (by kernel_rfl)
theorem own : ownKnob Try.prog.godebug = none := by kernel_rfl


theorem lifted9 (os : Os) (started : os.Started) (H : Type) (enc : TypeId × Value → H) :
    ReturnsInHanded {} Try.checked os 9 .any (Rows.fnExactBookAtSpec.pre6 enc Try.prog Try.f9 Rows.fnExactBookAtRow.domain false) (Rows.fnExactBookAtSpec.post enc Try.prog Try.f9 false true false false) := by
  refine returnsInHanded_of_change_sized (C := Try.checked) own started (by kernel_rfl) Try.func9
    (ChangeSpec.witness6 (enc := enc) (C := Try.checked) false ⟨#[], #[.agg #[.int .i64 0, .int .i64 0, .slice none 0 0, .slice none 0 0, .slice none 0 0], .int .i64 0], []⟩ 8 (by kernel_rfl) (by kernel_rfl) (by kernel_rfl) (by kernel_rfl)) ?_
  intro W base args ds gs before hval hW hcnd hsz _
  exact law_row Rows.fnExactBookAtSpec (m := 8) kids full Try.func9 rfl (by kernel_rfl) (by kernel_rfl) (tb := 4) rfl rfl (by kernel_rfl) (fun ds h => by
    match ds, h with
    | [_, _], _ => rfl) (sound 9) rfl law9 W base args ds gs before hval hW

theorem over9 : Rows.fnExactBookAtRow.holds Try.pinned (OpenSpec.ofChange Rows.fnExactBookAtSpec) :=
  OpenClaim.holds_of_wide 9 Try.f9 rfl rfl rfl rfl rfl rfl rfl ⟨rfl, rfl, rfl, rfl, rfl⟩ rfl rfl rfl rfl rfl (by kernel_rfl) Try.func9 (by kernel_rfl)
    (of_decide_eq_true (by kernel_rfl)) (by unfold Func.isWrapper; first | (rw [if_pos (by decide +kernel)]; kernel_rfl) | (rw [if_neg (by decide +kernel)]; exact ⟨rfl, rfl⟩))
    (fun os started H enc _ => lifted9 os started H enc)
theorem fnExactBookAt_holds : Rows.FnExactBookAtSaid := over9
#print axioms fnExactBookAt_holds

end Go.Proofs.Ytdjapblnmkghoaa

