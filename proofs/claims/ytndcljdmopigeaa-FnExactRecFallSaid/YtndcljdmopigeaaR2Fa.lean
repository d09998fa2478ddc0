/- FnExactRecFall returns true at all arguments, and each argument reads behind the call as it did. -/
import Derived.Test.YtndcljdmopigeaaRows
import Derived.Test.YtndcljdmopigeaaFa2
import Derived.KernelRfl
import Derived.JoinedOf
namespace Go.Proofs.Ytndcljdmopigeaa
open Go.Sx
set_option maxRecDepth 100000
set_option linter.unusedVariables false
set_option linter.unusedSimpArgs false

theorem u3 : Try.prog.underlying 3 = some (.int .i64) := by kernel_rfl
theorem u4 : Try.prog.underlying 4 = some .bool := by kernel_rfl
theorem u9 : Try.prog.underlying 9 = some .string := by kernel_rfl
theorem u124 : (Try.prog.underlying 124).bind fieldTys = some [3, 9] := by kernel_rfl
theorem ct124 {n : Nat} {tr : List C} (h : CT Try.prog (n + 2) 124 tr) : ∃ x : VRecSlot, tr = VRecSlot.c x ∧ x.ok := by
  obtain ⟨x0, _, rfl, _, h0, x1, _, rfl, _, h1, rfl⟩ := CT_struct u124 h
  obtain ⟨v0, rfl, o0⟩ := CT_int u3 h0
  obtain ⟨v1, rfl, o1⟩ := CT_str u9 h1
  exact ⟨⟨v0, v1⟩, rfl, i64_of o0, o1⟩
theorem u35 : Try.prog.underlying 35 = some (.slice 124) := by kernel_rfl
theorem z35_124 : Try.prog.cellsOf 124 = 2 := by kernel_rfl
theorem ct35 {n : Nat} {tr : List C} (h : CT Try.prog (n + 3) 35 tr) : ∃ l : List VRecSlot, tr = [.sl .shr 2 (l.map VRecSlot.c)] ∧ l.length ≤ maxLen ∧ ∀ x ∈ l, x.ok := by
  obtain ⟨l, h1, h2, h3⟩ := CT_slice (p := fun x => x.ok) (f := VRecSlot.c) u35 z35_124 (fun r hr => by
    obtain ⟨x, rfl, hx⟩ := ct124 hr
    exact ⟨x, rfl, hx⟩) h
  exact ⟨l, h1, h3, h2⟩
theorem u37 : (Try.prog.underlying 37).bind fieldTys = some [3, 3, 35] := by kernel_rfl
theorem ct37 {n : Nat} {tr : List C} (h : CT Try.prog (n + 4) 37 tr) : ∃ x : VRecDisk, tr = VRecDisk.c .shr x ∧ x.ok := by
  obtain ⟨x0, _, rfl, _, h0, x1, _, rfl, _, h1, x2, _, rfl, _, h2, rfl⟩ := CT_struct u37 h
  obtain ⟨v0, rfl, o0⟩ := CT_int u3 h0
  obtain ⟨v1, rfl, o1⟩ := CT_int u3 h1
  obtain ⟨v2, rfl, o2⟩ := ct35 h2
  exact ⟨⟨v0, v1, v2⟩, rfl, i64_of o0, i64_of o1, o2⟩
theorem u122 : (Try.prog.underlying 122).bind fieldTys = some [3, 3, 3, 3, 3, 3, 9, 35] := by kernel_rfl
theorem ct122 {n : Nat} {tr : List C} (h : CT Try.prog (n + 4) 122 tr) : ∃ x : VRecMessage, tr = VRecMessage.c .shr x ∧ x.ok := by
  obtain ⟨x0, _, rfl, _, h0, x1, _, rfl, _, h1, x2, _, rfl, _, h2, x3, _, rfl, _, h3, x4, _, rfl, _, h4, x5, _, rfl, _, h5, x6, _, rfl, _, h6, x7, _, rfl, _, h7, rfl⟩ := CT_struct u122 h
  obtain ⟨v0, rfl, o0⟩ := CT_int u3 h0
  obtain ⟨v1, rfl, o1⟩ := CT_int u3 h1
  obtain ⟨v2, rfl, o2⟩ := CT_int u3 h2
  obtain ⟨v3, rfl, o3⟩ := CT_int u3 h3
  obtain ⟨v4, rfl, o4⟩ := CT_int u3 h4
  obtain ⟨v5, rfl, o5⟩ := CT_int u3 h5
  obtain ⟨v6, rfl, o6⟩ := CT_str u9 h6
  obtain ⟨v7, rfl, o7⟩ := ct35 h7
  exact ⟨⟨v0, v1, v2, v3, v4, v5, v6, v7⟩, rfl, i64_of o0, i64_of o1, i64_of o2, i64_of o3, i64_of o4, i64_of o5, o6, o7⟩
theorem u38 : Try.prog.underlying 38 = some (.slice 122) := by kernel_rfl
theorem z38_122 : Try.prog.cellsOf 122 = 8 := by kernel_rfl
theorem ct38 {n : Nat} {tr : List C} (h : CT Try.prog (n + 5) 38 tr) : ∃ l : List VRecMessage, tr = [.sl .shr 8 (l.map (VRecMessage.c .shr))] ∧ l.length ≤ maxLen ∧ ∀ x ∈ l, x.ok := by
  obtain ⟨l, h1, h2, h3⟩ := CT_slice (p := fun x => x.ok) (f := (VRecMessage.c .shr)) u38 z38_122 (fun r hr => by
    obtain ⟨x, rfl, hx⟩ := ct122 hr
    exact ⟨x, rfl, hx⟩) h
  exact ⟨l, h1, h3, h2⟩
theorem u26 : Try.prog.underlying 26 = some (.slice 9) := by kernel_rfl
theorem z26_9 : Try.prog.cellsOf 9 = 1 := by kernel_rfl
theorem ct26 {n : Nat} {tr : List C} (h : CT Try.prog (n + 2) 26 tr) : ∃ l : List ByteArray, tr = [.sl .shr 1 (l.map strC)] ∧ l.length ≤ maxLen ∧ ∀ x ∈ l, x.size ≤ maxLen := by
  obtain ⟨l, h1, h2, h3⟩ := CT_slice (p := fun x => x.size ≤ maxLen) (f := strC) u26 z26_9 (fun r hr => by
    obtain ⟨m, rfl, hm⟩ := CT_str u9 hr
    exact ⟨m, rfl, hm⟩) h
  exact ⟨l, h1, h3, h2⟩
theorem u27 : Try.prog.underlying 27 = some (.slice 3) := by kernel_rfl
theorem z27_3 : Try.prog.cellsOf 3 = 1 := by kernel_rfl
theorem ct27 {n : Nat} {tr : List C} (h : CT Try.prog (n + 2) 27 tr) : ∃ l : List Int, tr = [.sl .shr 1 (l.map intC)] ∧ l.length ≤ maxLen ∧ ∀ x ∈ l, i64ok x := by
  obtain ⟨l, h1, h2, h3⟩ := CT_slice (p := fun x => i64ok x) (f := intC) u27 z27_3 (fun r hr => by
    obtain ⟨m, rfl, hm⟩ := CT_int u3 hr
    exact ⟨m, rfl, i64_of hm⟩) h
  exact ⟨l, h1, h3, h2⟩
theorem u126 : (Try.prog.underlying 126).bind fieldTys = some [3, 27] := by kernel_rfl
theorem ct126 {n : Nat} {tr : List C} (h : CT Try.prog (n + 3) 126 tr) : ∃ x : VRecAck, tr = VRecAck.c .shr x ∧ x.ok := by
  obtain ⟨x0, _, rfl, _, h0, x1, _, rfl, _, h1, rfl⟩ := CT_struct u126 h
  obtain ⟨v0, rfl, o0⟩ := CT_int u3 h0
  obtain ⟨v1, rfl, o1⟩ := ct27 h1
  exact ⟨⟨v0, v1⟩, rfl, i64_of o0, o1⟩
theorem u39 : Try.prog.underlying 39 = some (.slice 126) := by kernel_rfl
theorem z39_126 : Try.prog.cellsOf 126 = 2 := by kernel_rfl
theorem ct39 {n : Nat} {tr : List C} (h : CT Try.prog (n + 4) 39 tr) : ∃ l : List VRecAck, tr = [.sl .shr 2 (l.map (VRecAck.c .shr))] ∧ l.length ≤ maxLen ∧ ∀ x ∈ l, x.ok := by
  obtain ⟨l, h1, h2, h3⟩ := CT_slice (p := fun x => x.ok) (f := (VRecAck.c .shr)) u39 z39_126 (fun r hr => by
    obtain ⟨x, rfl, hx⟩ := ct126 hr
    exact ⟨x, rfl, hx⟩) h
  exact ⟨l, h1, h3, h2⟩
theorem u41 : (Try.prog.underlying 41).bind fieldTys = some [3, 3, 4, 37, 37, 38, 26, 4, 4, 3, 27, 35, 39, 3] := by kernel_rfl
theorem ct41 {n : Nat} {tr : List C} (h : CT Try.prog (n + 6) 41 tr) : ∃ x : VRecorder, tr = VRecorder.c .shr x ∧ x.ok := by
  obtain ⟨x0, _, rfl, _, h0, x1, _, rfl, _, h1, x2, _, rfl, _, h2, x3, _, rfl, _, h3, x4, _, rfl, _, h4, x5, _, rfl, _, h5, x6, _, rfl, _, h6, x7, _, rfl, _, h7, x8, _, rfl, _, h8, x9, _, rfl, _, h9, x10, _, rfl, _, h10, x11, _, rfl, _, h11, x12, _, rfl, _, h12, x13, _, rfl, _, h13, rfl⟩ := CT_struct u41 h
  obtain ⟨v0, rfl, o0⟩ := CT_int u3 h0
  obtain ⟨v1, rfl, o1⟩ := CT_int u3 h1
  obtain ⟨v2, rfl⟩ := CT_bool u4 h2
  obtain ⟨v3, rfl, o3⟩ := ct37 h3
  obtain ⟨v4, rfl, o4⟩ := ct37 h4
  obtain ⟨v5, rfl, o5⟩ := ct38 h5
  obtain ⟨v6, rfl, o6⟩ := ct26 h6
  obtain ⟨v7, rfl⟩ := CT_bool u4 h7
  obtain ⟨v8, rfl⟩ := CT_bool u4 h8
  obtain ⟨v9, rfl, o9⟩ := CT_int u3 h9
  obtain ⟨v10, rfl, o10⟩ := ct27 h10
  obtain ⟨v11, rfl, o11⟩ := ct35 h11
  obtain ⟨v12, rfl, o12⟩ := ct39 h12
  obtain ⟨v13, rfl, o13⟩ := CT_int u3 h13
  exact ⟨⟨v0, v1, v2, v3, v4, v5, v6, v7, v8, v9, v10, v11, v12, v13⟩, rfl, i64_of o0, i64_of o1, o3, o4, o5, o6, i64_of o9, o10, o11, o12, i64_of o13⟩
theorem law9 (trs : List (List C)) (h : CTall Try.prog 8 [41] trs) : EV Try.prog E 9 (argsS Try.prog [41] trs) = some ⟨[(false, [.p (.bool true)])], []⟩ := by
  obtain ⟨t0, r0, rfl, h0, h⟩ := CTall_cons h
  obtain rfl := CTall_nil h
  obtain ⟨x0, rfl, o0⟩ := ct41 h0
  have s0 : isStr Try.prog 41 = true := by kernel_rfl
  simp only [argsS, argS, s0]
  exact k9 x0 o0
theorem kids : Kids Try.prog (· < Try.prog.types.size) := kids_rows (by kernel_rfl) (by kernel_rfl)
theorem full : ∀ t e, t < Try.prog.types.size → Try.prog.underlying t = some (.slice e) → 0 < Try.prog.cellsOf e := slices_full_of Try.prog (by kernel_rfl)
theorem own : ownKnob Try.prog.godebug = none := by kernel_rfl


theorem lifted9 (os : Os) (started : os.Started) (H : Type) (enc : TypeId × Value → H) :
    ReturnsInHanded {} Try.checked os 9 .any (Rows.fnExactRecFallSpec.pre6 enc Try.prog Try.f9 Rows.fnExactRecFallRow.domain false) (Rows.fnExactRecFallSpec.post enc Try.prog Try.f9 false true false false) := by
  refine returnsInHanded_of_change_sized (C := Try.checked) own started (by kernel_rfl) Try.func9
    (ChangeSpec.witness6 (enc := enc) (C := Try.checked) false ⟨#[], #[.agg #[.int .i64 0, .int .i64 0, .bool false, .int .i64 0, .int .i64 0, .slice none 0 0, .int .i64 0, .int .i64 0, .slice none 0 0, .slice none 0 0, .slice none 0 0, .bool false, .bool false, .int .i64 0, .slice none 0 0, .slice none 0 0, .slice none 0 0, .int .i64 0]], []⟩ 8 (by kernel_rfl) (by kernel_rfl) (by kernel_rfl) (by kernel_rfl)) ?_
  intro W base args ds gs before hval hW hcnd hsz _
  exact law_row Rows.fnExactRecFallSpec (m := 8) kids full Try.func9 rfl (by kernel_rfl) (by kernel_rfl) (tb := 4) rfl rfl (by kernel_rfl) (fun ds h => by
    match ds, h with
    | [_], _ => rfl) (sound 9) rfl law9 W base args ds gs before hval hW

theorem over9 : Rows.fnExactRecFallRow.holds Try.pinned (OpenSpec.ofChange Rows.fnExactRecFallSpec) :=
  OpenClaim.holds_of_wide 9 Try.f9 rfl rfl rfl rfl rfl rfl rfl ⟨rfl, rfl, rfl, rfl, rfl⟩ rfl rfl rfl rfl rfl (by kernel_rfl) Try.func9 (by kernel_rfl)
    (of_decide_eq_true (by kernel_rfl)) (by unfold Func.isWrapper; first | (rw [if_pos (by decide +kernel)]; kernel_rfl) | (rw [if_neg (by decide +kernel)]; exact ⟨rfl, rfl⟩))
    (fun os started H enc _ => lifted9 os started H enc)
theorem fnExactRecFall_holds : Rows.FnExactRecFallSaid := over9
#print axioms fnExactRecFall_holds

end Go.Proofs.Ytndcljdmopigeaa
