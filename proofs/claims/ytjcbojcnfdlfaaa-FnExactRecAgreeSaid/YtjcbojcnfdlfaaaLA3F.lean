/- FnExactRecAgree: for all arguments within the bounds, the program answers as the reference. -/
import Derived.Test.YtjcbojcnfdlfaaaRows
import Derived.Test.YtjcbojcnfdlfaaaAj5
import Derived.KernelRfl
import Derived.JoinedOf
namespace Go.Proofs.Ytjcbojcnfdlfaaa
open Go.Sx
set_option maxRecDepth 100000
set_option linter.unusedVariables false
set_option linter.unusedSimpArgs false

theorem u3 : Try.prog.underlying 3 = some (.int .i64) := by kernel_rfl
theorem u4 : Try.prog.underlying 4 = some .bool := by kernel_rfl
theorem u9 : Try.prog.underlying 9 = some .string := by kernel_rfl
theorem u176 : (Try.prog.underlying 176).bind fieldTys = some [3, 9] := by kernel_rfl
theorem ct176 {n : Nat} {tr : List C} (h : CT Try.prog (n + 2) 176 tr) : ∃ x : VRecSlot, tr = VRecSlot.c x ∧ x.ok := by
  obtain ⟨x0, _, rfl, _, h0, x1, _, rfl, _, h1, rfl⟩ := CT_struct u176 h
  obtain ⟨v0, rfl, o0⟩ := CT_int u3 h0
  obtain ⟨v1, rfl, o1⟩ := CT_str u9 h1
  exact ⟨⟨v0, v1⟩, rfl, i64_of o0, o1⟩
theorem u65 : Try.prog.underlying 65 = some (.slice 176) := by kernel_rfl
theorem z65_176 : Try.prog.cellsOf 176 = 2 := by kernel_rfl
theorem ct65 {n : Nat} {tr : List C} (h : CT Try.prog (n + 3) 65 tr) : ∃ l : List VRecSlot, tr = [.sl .shr 2 (l.map VRecSlot.c)] ∧ l.length ≤ maxLen ∧ ∀ x ∈ l, x.ok := by
  obtain ⟨l, h1, h2, h3⟩ := CT_slice (p := fun x => x.ok) (f := VRecSlot.c) u65 z65_176 (fun r hr => by
    obtain ⟨x, rfl, hx⟩ := ct176 hr
    exact ⟨x, rfl, hx⟩) h
  exact ⟨l, h1, h3, h2⟩
theorem u67 : (Try.prog.underlying 67).bind fieldTys = some [3, 3, 65] := by kernel_rfl
theorem ct67 {n : Nat} {tr : List C} (h : CT Try.prog (n + 4) 67 tr) : ∃ x : VRecDisk, tr = VRecDisk.c .shr x ∧ x.ok := by
  obtain ⟨x0, _, rfl, _, h0, x1, _, rfl, _, h1, x2, _, rfl, _, h2, rfl⟩ := CT_struct u67 h
  obtain ⟨v0, rfl, o0⟩ := CT_int u3 h0
  obtain ⟨v1, rfl, o1⟩ := CT_int u3 h1
  obtain ⟨v2, rfl, o2⟩ := ct65 h2
  exact ⟨⟨v0, v1, v2⟩, rfl, i64_of o0, i64_of o1, o2⟩
theorem u142 : (Try.prog.underlying 142).bind fieldTys = some [3, 3, 3, 3, 3, 3, 9, 65] := by kernel_rfl
theorem ct142 {n : Nat} {tr : List C} (h : CT Try.prog (n + 4) 142 tr) : ∃ x : VRecMessage, tr = VRecMessage.c .shr x ∧ x.ok := by
  obtain ⟨x0, _, rfl, _, h0, x1, _, rfl, _, h1, x2, _, rfl, _, h2, x3, _, rfl, _, h3, x4, _, rfl, _, h4, x5, _, rfl, _, h5, x6, _, rfl, _, h6, x7, _, rfl, _, h7, rfl⟩ := CT_struct u142 h
  obtain ⟨v0, rfl, o0⟩ := CT_int u3 h0
  obtain ⟨v1, rfl, o1⟩ := CT_int u3 h1
  obtain ⟨v2, rfl, o2⟩ := CT_int u3 h2
  obtain ⟨v3, rfl, o3⟩ := CT_int u3 h3
  obtain ⟨v4, rfl, o4⟩ := CT_int u3 h4
  obtain ⟨v5, rfl, o5⟩ := CT_int u3 h5
  obtain ⟨v6, rfl, o6⟩ := CT_str u9 h6
  obtain ⟨v7, rfl, o7⟩ := ct65 h7
  exact ⟨⟨v0, v1, v2, v3, v4, v5, v6, v7⟩, rfl, i64_of o0, i64_of o1, i64_of o2, i64_of o3, i64_of o4, i64_of o5, o6, o7⟩
theorem u23 : Try.prog.underlying 23 = some (.slice 142) := by kernel_rfl
theorem z23_142 : Try.prog.cellsOf 142 = 8 := by kernel_rfl
theorem ct23 {n : Nat} {tr : List C} (h : CT Try.prog (n + 5) 23 tr) : ∃ l : List VRecMessage, tr = [.sl .shr 8 (l.map (VRecMessage.c .shr))] ∧ l.length ≤ maxLen ∧ ∀ x ∈ l, x.ok := by
  obtain ⟨l, h1, h2, h3⟩ := CT_slice (p := fun x => x.ok) (f := (VRecMessage.c .shr)) u23 z23_142 (fun r hr => by
    obtain ⟨x, rfl, hx⟩ := ct142 hr
    exact ⟨x, rfl, hx⟩) h
  exact ⟨l, h1, h3, h2⟩
theorem u68 : Try.prog.underlying 68 = some (.slice 9) := by kernel_rfl
theorem z68_9 : Try.prog.cellsOf 9 = 1 := by kernel_rfl
theorem ct68 {n : Nat} {tr : List C} (h : CT Try.prog (n + 2) 68 tr) : ∃ l : List ByteArray, tr = [.sl .shr 1 (l.map strC)] ∧ l.length ≤ maxLen ∧ ∀ x ∈ l, x.size ≤ maxLen := by
  obtain ⟨l, h1, h2, h3⟩ := CT_slice (p := fun x => x.size ≤ maxLen) (f := strC) u68 z68_9 (fun r hr => by
    obtain ⟨m, rfl, hm⟩ := CT_str u9 hr
    exact ⟨m, rfl, hm⟩) h
  exact ⟨l, h1, h3, h2⟩
theorem u69 : Try.prog.underlying 69 = some (.slice 3) := by kernel_rfl
theorem z69_3 : Try.prog.cellsOf 3 = 1 := by kernel_rfl
theorem ct69 {n : Nat} {tr : List C} (h : CT Try.prog (n + 2) 69 tr) : ∃ l : List Int, tr = [.sl .shr 1 (l.map intC)] ∧ l.length ≤ maxLen ∧ ∀ x ∈ l, i64ok x := by
  obtain ⟨l, h1, h2, h3⟩ := CT_slice (p := fun x => i64ok x) (f := intC) u69 z69_3 (fun r hr => by
    obtain ⟨m, rfl, hm⟩ := CT_int u3 hr
    exact ⟨m, rfl, i64_of hm⟩) h
  exact ⟨l, h1, h3, h2⟩
theorem u178 : (Try.prog.underlying 178).bind fieldTys = some [3, 69] := by kernel_rfl
theorem ct178 {n : Nat} {tr : List C} (h : CT Try.prog (n + 3) 178 tr) : ∃ x : VRecAck, tr = VRecAck.c .shr x ∧ x.ok := by
  obtain ⟨x0, _, rfl, _, h0, x1, _, rfl, _, h1, rfl⟩ := CT_struct u178 h
  obtain ⟨v0, rfl, o0⟩ := CT_int u3 h0
  obtain ⟨v1, rfl, o1⟩ := ct69 h1
  exact ⟨⟨v0, v1⟩, rfl, i64_of o0, o1⟩
theorem u70 : Try.prog.underlying 70 = some (.slice 178) := by kernel_rfl
theorem z70_178 : Try.prog.cellsOf 178 = 2 := by kernel_rfl
theorem ct70 {n : Nat} {tr : List C} (h : CT Try.prog (n + 4) 70 tr) : ∃ l : List VRecAck, tr = [.sl .shr 2 (l.map (VRecAck.c .shr))] ∧ l.length ≤ maxLen ∧ ∀ x ∈ l, x.ok := by
  obtain ⟨l, h1, h2, h3⟩ := CT_slice (p := fun x => x.ok) (f := (VRecAck.c .shr)) u70 z70_178 (fun r hr => by
    obtain ⟨x, rfl, hx⟩ := ct178 hr
    exact ⟨x, rfl, hx⟩) h
  exact ⟨l, h1, h3, h2⟩
theorem u72 : (Try.prog.underlying 72).bind fieldTys = some [3, 3, 4, 67, 67, 23, 68, 4, 4, 3, 69, 65, 70, 3] := by kernel_rfl
theorem ct72 {n : Nat} {tr : List C} (h : CT Try.prog (n + 6) 72 tr) : ∃ x : VRecorder, tr = VRecorder.c .shr x ∧ x.ok := by
  obtain ⟨x0, _, rfl, _, h0, x1, _, rfl, _, h1, x2, _, rfl, _, h2, x3, _, rfl, _, h3, x4, _, rfl, _, h4, x5, _, rfl, _, h5, x6, _, rfl, _, h6, x7, _, rfl, _, h7, x8, _, rfl, _, h8, x9, _, rfl, _, h9, x10, _, rfl, _, h10, x11, _, rfl, _, h11, x12, _, rfl, _, h12, x13, _, rfl, _, h13, rfl⟩ := CT_struct u72 h
  obtain ⟨v0, rfl, o0⟩ := CT_int u3 h0
  obtain ⟨v1, rfl, o1⟩ := CT_int u3 h1
  obtain ⟨v2, rfl⟩ := CT_bool u4 h2
  obtain ⟨v3, rfl, o3⟩ := ct67 h3
  obtain ⟨v4, rfl, o4⟩ := ct67 h4
  obtain ⟨v5, rfl, o5⟩ := ct23 h5
  obtain ⟨v6, rfl, o6⟩ := ct68 h6
  obtain ⟨v7, rfl⟩ := CT_bool u4 h7
  obtain ⟨v8, rfl⟩ := CT_bool u4 h8
  obtain ⟨v9, rfl, o9⟩ := CT_int u3 h9
  obtain ⟨v10, rfl, o10⟩ := ct69 h10
  obtain ⟨v11, rfl, o11⟩ := ct65 h11
  obtain ⟨v12, rfl, o12⟩ := ct70 h12
  obtain ⟨v13, rfl, o13⟩ := CT_int u3 h13
  exact ⟨⟨v0, v1, v2, v3, v4, v5, v6, v7, v8, v9, v10, v11, v12, v13⟩, rfl, i64_of o0, i64_of o1, o3, o4, o5, o6, i64_of o9, o10, o11, o12, i64_of o13⟩
theorem u22 : Try.prog.underlying 22 = some (.slice 72) := by kernel_rfl
theorem z22_72 : Try.prog.cellsOf 72 = 18 := by kernel_rfl
theorem ct22 {n : Nat} {tr : List C} (h : CT Try.prog (n + 7) 22 tr) : ∃ l : List VRecorder, tr = [.sl .shr 18 (l.map (VRecorder.c .shr))] ∧ l.length ≤ maxLen ∧ ∀ x ∈ l, x.ok := by
  obtain ⟨l, h1, h2, h3⟩ := CT_slice (p := fun x => x.ok) (f := (VRecorder.c .shr)) u22 z22_72 (fun r hr => by
    obtain ⟨x, rfl, hx⟩ := ct72 hr
    exact ⟨x, rfl, hx⟩) h
  exact ⟨l, h1, h3, h2⟩
theorem u145 : (Try.prog.underlying 145).bind fieldTys = some [3, 9] := by kernel_rfl
theorem ct145 {n : Nat} {tr : List C} (h : CT Try.prog (n + 2) 145 tr) : ∃ x : VRecFix, tr = VRecFix.c x ∧ x.ok := by
  obtain ⟨x0, _, rfl, _, h0, x1, _, rfl, _, h1, rfl⟩ := CT_struct u145 h
  obtain ⟨v0, rfl, o0⟩ := CT_int u3 h0
  obtain ⟨v1, rfl, o1⟩ := CT_str u9 h1
  exact ⟨⟨v0, v1⟩, rfl, i64_of o0, o1⟩
theorem u24 : Try.prog.underlying 24 = some (.slice 145) := by kernel_rfl
theorem z24_145 : Try.prog.cellsOf 145 = 2 := by kernel_rfl
theorem ct24 {n : Nat} {tr : List C} (h : CT Try.prog (n + 3) 24 tr) : ∃ l : List VRecFix, tr = [.sl .shr 2 (l.map VRecFix.c)] ∧ l.length ≤ maxLen ∧ ∀ x ∈ l, x.ok := by
  obtain ⟨l, h1, h2, h3⟩ := CT_slice (p := fun x => x.ok) (f := VRecFix.c) u24 z24_145 (fun r hr => by
    obtain ⟨x, rfl, hx⟩ := ct145 hr
    exact ⟨x, rfl, hx⟩) h
  exact ⟨l, h1, h3, h2⟩
theorem u26 : (Try.prog.underlying 26).bind fieldTys = some [22, 23, 24] := by kernel_rfl
theorem ct26 {n : Nat} {tr : List C} (h : CT Try.prog (n + 8) 26 tr) : ∃ x : VRecWorld, tr = VRecWorld.c .shr x ∧ x.ok := by
  obtain ⟨x0, _, rfl, _, h0, x1, _, rfl, _, h1, x2, _, rfl, _, h2, rfl⟩ := CT_struct u26 h
  obtain ⟨v0, rfl, o0⟩ := ct22 h0
  obtain ⟨v1, rfl, o1⟩ := ct23 h1
  obtain ⟨v2, rfl, o2⟩ := ct24 h2
  exact ⟨⟨v0, v1, v2⟩, rfl, o0, o1, o2⟩
theorem law3 (trs : List (List C)) (h : CTall Try.prog 8 [26] trs) : EV Try.prog E 3 (argsS Try.prog [26] trs) = some ⟨[(false, [.p (.bool true)])], []⟩ := by
  obtain ⟨t0, r0, rfl, h0, h⟩ := CTall_cons h
  obtain rfl := CTall_nil h
  obtain ⟨x0, rfl, o0⟩ := ct26 h0
  have s0 : isStr Try.prog 26 = true := by kernel_rfl
  simp only [argsS, argS, s0]
  exact k3 x0 o0
theorem kids : Kids Try.prog (· < Try.prog.types.size) := kids_rows (by kernel_rfl) (by kernel_rfl)
theorem full : ∀ t e, t < Try.prog.types.size → Try.prog.underlying t = some (.slice e) → 0 < Try.prog.cellsOf e := slices_full_of Try.prog (by kernel_rfl)
theorem own : ownKnob Try.prog.godebug = none := by kernel_rfl


theorem lifted3 (os : Os) (started : os.Started) (H : Type) (enc : TypeId × Value → H) :
    ReturnsInHanded {} Try.checked os 3 .any (Rows.fnExactRecAgreeSpec.pre6 enc Try.prog Try.f3 Rows.fnExactRecAgreeRow.domain false) (Rows.fnExactRecAgreeSpec.post enc Try.prog Try.f3 false true false false) := by
  refine returnsInHanded_of_change_sized (C := Try.checked) own started (by kernel_rfl) Try.func3
    (ChangeSpec.witness6 (enc := enc) (C := Try.checked) false ⟨#[], #[.agg #[.slice none 0 0, .slice none 0 0, .slice none 0 0]], []⟩ 8 (by kernel_rfl) (by kernel_rfl) (by kernel_rfl) (by kernel_rfl)) ?_
  intro W base args ds gs before hval hW hcnd hsz _
  exact law_row Rows.fnExactRecAgreeSpec (m := 8) kids full Try.func3 rfl (by kernel_rfl) (by kernel_rfl) (tb := 4) rfl rfl (by kernel_rfl) (fun ds h => by
    match ds, h with
    | [_], _ => rfl) (sound 3) rfl law3 W base args ds gs before hval hW

theorem over3 : Rows.fnExactRecAgreeRow.holds Try.pinned (OpenSpec.ofChange Rows.fnExactRecAgreeSpec) :=
  OpenClaim.holds_of_wide 3 Try.f3 rfl rfl rfl rfl rfl rfl rfl ⟨rfl, rfl, rfl, rfl, rfl⟩ rfl rfl rfl rfl rfl (by kernel_rfl) Try.func3 (by kernel_rfl)
    (of_decide_eq_true (by kernel_rfl)) (by unfold Func.isWrapper; first | (rw [if_pos (by decide +kernel)]; kernel_rfl) | (rw [if_neg (by decide +kernel)]; exact ⟨rfl, rfl⟩))
    (fun os started H enc _ => lifted3 os started H enc)
theorem fnExactRecAgree_holds : Rows.FnExactRecAgreeSaid := over3
#print axioms fnExactRecAgree_holds

end Go.Proofs.Ytjcbojcnfdlfaaa

