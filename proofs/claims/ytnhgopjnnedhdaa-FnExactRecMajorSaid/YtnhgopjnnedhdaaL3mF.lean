/- FnExactRecMajor: for all arguments within the bounds, the program answers as the reference. -/
import Derived.Test.YtnhgopjnnedhdaaRows
import Derived.Test.YtnhgopjnnedhdaaL3m
import Derived.KernelRfl
import Derived.JoinedOf
namespace Go.Proofs.Ytnhgopjnnedhdaa
open Go.Sx
set_option maxRecDepth 100000
set_option linter.unusedVariables false
set_option linter.unusedSimpArgs false

theorem u3 : Try.prog.underlying 3 = some (.int .i64) := by kernel_rfl
theorem u4 : Try.prog.underlying 4 = some .bool := by kernel_rfl
theorem u9 : Try.prog.underlying 9 = some .string := by kernel_rfl
theorem u110 : (Try.prog.underlying 110).bind fieldTys = some [3, 9] := by kernel_rfl
theorem ct110 {n : Nat} {tr : List C} (h : CT Try.prog (n + 2) 110 tr) : ∃ x : VRecSlot, tr = VRecSlot.c x ∧ x.ok := by
  obtain ⟨x0, _, rfl, _, h0, x1, _, rfl, _, h1, rfl⟩ := CT_struct u110 h
  obtain ⟨v0, rfl, o0⟩ := CT_int u3 h0
  obtain ⟨v1, rfl, o1⟩ := CT_str u9 h1
  exact ⟨⟨v0, v1⟩, rfl, i64_of o0, o1⟩
theorem u50 : Try.prog.underlying 50 = some (.slice 110) := by kernel_rfl
theorem z50_110 : Try.prog.cellsOf 110 = 2 := by kernel_rfl
theorem ct50 {n : Nat} {tr : List C} (h : CT Try.prog (n + 3) 50 tr) : ∃ l : List VRecSlot, tr = [.sl .shr 2 (l.map VRecSlot.c)] ∧ l.length ≤ maxLen ∧ ∀ x ∈ l, x.ok := by
  obtain ⟨l, h1, h2, h3⟩ := CT_slice (p := fun x => x.ok) (f := VRecSlot.c) u50 z50_110 (fun r hr => by
    obtain ⟨x, rfl, hx⟩ := ct110 hr
    exact ⟨x, rfl, hx⟩) h
  exact ⟨l, h1, h3, h2⟩
theorem u52 : (Try.prog.underlying 52).bind fieldTys = some [3, 3, 50] := by kernel_rfl
theorem ct52 {n : Nat} {tr : List C} (h : CT Try.prog (n + 4) 52 tr) : ∃ x : VRecDisk, tr = VRecDisk.c .shr x ∧ x.ok := by
  obtain ⟨x0, _, rfl, _, h0, x1, _, rfl, _, h1, x2, _, rfl, _, h2, rfl⟩ := CT_struct u52 h
  obtain ⟨v0, rfl, o0⟩ := CT_int u3 h0
  obtain ⟨v1, rfl, o1⟩ := CT_int u3 h1
  obtain ⟨v2, rfl, o2⟩ := ct50 h2
  exact ⟨⟨v0, v1, v2⟩, rfl, i64_of o0, i64_of o1, o2⟩
theorem u60 : (Try.prog.underlying 60).bind fieldTys = some [3, 3, 3, 3, 3, 3, 9, 50] := by kernel_rfl
theorem ct60 {n : Nat} {tr : List C} (h : CT Try.prog (n + 4) 60 tr) : ∃ x : VRecMessage, tr = VRecMessage.c .shr x ∧ x.ok := by
  obtain ⟨x0, _, rfl, _, h0, x1, _, rfl, _, h1, x2, _, rfl, _, h2, x3, _, rfl, _, h3, x4, _, rfl, _, h4, x5, _, rfl, _, h5, x6, _, rfl, _, h6, x7, _, rfl, _, h7, rfl⟩ := CT_struct u60 h
  obtain ⟨v0, rfl, o0⟩ := CT_int u3 h0
  obtain ⟨v1, rfl, o1⟩ := CT_int u3 h1
  obtain ⟨v2, rfl, o2⟩ := CT_int u3 h2
  obtain ⟨v3, rfl, o3⟩ := CT_int u3 h3
  obtain ⟨v4, rfl, o4⟩ := CT_int u3 h4
  obtain ⟨v5, rfl, o5⟩ := CT_int u3 h5
  obtain ⟨v6, rfl, o6⟩ := CT_str u9 h6
  obtain ⟨v7, rfl, o7⟩ := ct50 h7
  exact ⟨⟨v0, v1, v2, v3, v4, v5, v6, v7⟩, rfl, i64_of o0, i64_of o1, i64_of o2, i64_of o3, i64_of o4, i64_of o5, o6, o7⟩
theorem u23 : Try.prog.underlying 23 = some (.slice 60) := by kernel_rfl
theorem z23_60 : Try.prog.cellsOf 60 = 8 := by kernel_rfl
theorem ct23 {n : Nat} {tr : List C} (h : CT Try.prog (n + 5) 23 tr) : ∃ l : List VRecMessage, tr = [.sl .shr 8 (l.map (VRecMessage.c .shr))] ∧ l.length ≤ maxLen ∧ ∀ x ∈ l, x.ok := by
  obtain ⟨l, h1, h2, h3⟩ := CT_slice (p := fun x => x.ok) (f := (VRecMessage.c .shr)) u23 z23_60 (fun r hr => by
    obtain ⟨x, rfl, hx⟩ := ct60 hr
    exact ⟨x, rfl, hx⟩) h
  exact ⟨l, h1, h3, h2⟩
theorem u53 : Try.prog.underlying 53 = some (.slice 9) := by kernel_rfl
theorem z53_9 : Try.prog.cellsOf 9 = 1 := by kernel_rfl
theorem ct53 {n : Nat} {tr : List C} (h : CT Try.prog (n + 2) 53 tr) : ∃ l : List ByteArray, tr = [.sl .shr 1 (l.map strC)] ∧ l.length ≤ maxLen ∧ ∀ x ∈ l, x.size ≤ maxLen := by
  obtain ⟨l, h1, h2, h3⟩ := CT_slice (p := fun x => x.size ≤ maxLen) (f := strC) u53 z53_9 (fun r hr => by
    obtain ⟨m, rfl, hm⟩ := CT_str u9 hr
    exact ⟨m, rfl, hm⟩) h
  exact ⟨l, h1, h3, h2⟩
theorem u54 : Try.prog.underlying 54 = some (.slice 3) := by kernel_rfl
theorem z54_3 : Try.prog.cellsOf 3 = 1 := by kernel_rfl
theorem ct54 {n : Nat} {tr : List C} (h : CT Try.prog (n + 2) 54 tr) : ∃ l : List Int, tr = [.sl .shr 1 (l.map intC)] ∧ l.length ≤ maxLen ∧ ∀ x ∈ l, i64ok x := by
  obtain ⟨l, h1, h2, h3⟩ := CT_slice (p := fun x => i64ok x) (f := intC) u54 z54_3 (fun r hr => by
    obtain ⟨m, rfl, hm⟩ := CT_int u3 hr
    exact ⟨m, rfl, i64_of hm⟩) h
  exact ⟨l, h1, h3, h2⟩
theorem u112 : (Try.prog.underlying 112).bind fieldTys = some [3, 54] := by kernel_rfl
theorem ct112 {n : Nat} {tr : List C} (h : CT Try.prog (n + 3) 112 tr) : ∃ x : VRecAck, tr = VRecAck.c .shr x ∧ x.ok := by
  obtain ⟨x0, _, rfl, _, h0, x1, _, rfl, _, h1, rfl⟩ := CT_struct u112 h
  obtain ⟨v0, rfl, o0⟩ := CT_int u3 h0
  obtain ⟨v1, rfl, o1⟩ := ct54 h1
  exact ⟨⟨v0, v1⟩, rfl, i64_of o0, o1⟩
theorem u55 : Try.prog.underlying 55 = some (.slice 112) := by kernel_rfl
theorem z55_112 : Try.prog.cellsOf 112 = 2 := by kernel_rfl
theorem ct55 {n : Nat} {tr : List C} (h : CT Try.prog (n + 4) 55 tr) : ∃ l : List VRecAck, tr = [.sl .shr 2 (l.map (VRecAck.c .shr))] ∧ l.length ≤ maxLen ∧ ∀ x ∈ l, x.ok := by
  obtain ⟨l, h1, h2, h3⟩ := CT_slice (p := fun x => x.ok) (f := (VRecAck.c .shr)) u55 z55_112 (fun r hr => by
    obtain ⟨x, rfl, hx⟩ := ct112 hr
    exact ⟨x, rfl, hx⟩) h
  exact ⟨l, h1, h3, h2⟩
theorem u57 : (Try.prog.underlying 57).bind fieldTys = some [3, 3, 4, 52, 52, 23, 53, 4, 4, 3, 54, 50, 55, 3] := by kernel_rfl
theorem ct57 {n : Nat} {tr : List C} (h : CT Try.prog (n + 6) 57 tr) : ∃ x : VRecorder, tr = VRecorder.c .shr x ∧ x.ok := by
  obtain ⟨x0, _, rfl, _, h0, x1, _, rfl, _, h1, x2, _, rfl, _, h2, x3, _, rfl, _, h3, x4, _, rfl, _, h4, x5, _, rfl, _, h5, x6, _, rfl, _, h6, x7, _, rfl, _, h7, x8, _, rfl, _, h8, x9, _, rfl, _, h9, x10, _, rfl, _, h10, x11, _, rfl, _, h11, x12, _, rfl, _, h12, x13, _, rfl, _, h13, rfl⟩ := CT_struct u57 h
  obtain ⟨v0, rfl, o0⟩ := CT_int u3 h0
  obtain ⟨v1, rfl, o1⟩ := CT_int u3 h1
  obtain ⟨v2, rfl⟩ := CT_bool u4 h2
  obtain ⟨v3, rfl, o3⟩ := ct52 h3
  obtain ⟨v4, rfl, o4⟩ := ct52 h4
  obtain ⟨v5, rfl, o5⟩ := ct23 h5
  obtain ⟨v6, rfl, o6⟩ := ct53 h6
  obtain ⟨v7, rfl⟩ := CT_bool u4 h7
  obtain ⟨v8, rfl⟩ := CT_bool u4 h8
  obtain ⟨v9, rfl, o9⟩ := CT_int u3 h9
  obtain ⟨v10, rfl, o10⟩ := ct54 h10
  obtain ⟨v11, rfl, o11⟩ := ct50 h11
  obtain ⟨v12, rfl, o12⟩ := ct55 h12
  obtain ⟨v13, rfl, o13⟩ := CT_int u3 h13
  exact ⟨⟨v0, v1, v2, v3, v4, v5, v6, v7, v8, v9, v10, v11, v12, v13⟩, rfl, i64_of o0, i64_of o1, o3, o4, o5, o6, i64_of o9, o10, o11, o12, i64_of o13⟩
theorem u22 : Try.prog.underlying 22 = some (.slice 57) := by kernel_rfl
theorem z22_57 : Try.prog.cellsOf 57 = 18 := by kernel_rfl
theorem ct22 {n : Nat} {tr : List C} (h : CT Try.prog (n + 7) 22 tr) : ∃ l : List VRecorder, tr = [.sl .shr 18 (l.map (VRecorder.c .shr))] ∧ l.length ≤ maxLen ∧ ∀ x ∈ l, x.ok := by
  obtain ⟨l, h1, h2, h3⟩ := CT_slice (p := fun x => x.ok) (f := (VRecorder.c .shr)) u22 z22_57 (fun r hr => by
    obtain ⟨x, rfl, hx⟩ := ct57 hr
    exact ⟨x, rfl, hx⟩) h
  exact ⟨l, h1, h3, h2⟩
theorem u63 : (Try.prog.underlying 63).bind fieldTys = some [3, 9] := by kernel_rfl
theorem ct63 {n : Nat} {tr : List C} (h : CT Try.prog (n + 2) 63 tr) : ∃ x : VRecFix, tr = VRecFix.c x ∧ x.ok := by
  obtain ⟨x0, _, rfl, _, h0, x1, _, rfl, _, h1, rfl⟩ := CT_struct u63 h
  obtain ⟨v0, rfl, o0⟩ := CT_int u3 h0
  obtain ⟨v1, rfl, o1⟩ := CT_str u9 h1
  exact ⟨⟨v0, v1⟩, rfl, i64_of o0, o1⟩
theorem u24 : Try.prog.underlying 24 = some (.slice 63) := by kernel_rfl
theorem z24_63 : Try.prog.cellsOf 63 = 2 := by kernel_rfl
theorem ct24 {n : Nat} {tr : List C} (h : CT Try.prog (n + 3) 24 tr) : ∃ l : List VRecFix, tr = [.sl .shr 2 (l.map VRecFix.c)] ∧ l.length ≤ maxLen ∧ ∀ x ∈ l, x.ok := by
  obtain ⟨l, h1, h2, h3⟩ := CT_slice (p := fun x => x.ok) (f := VRecFix.c) u24 z24_63 (fun r hr => by
    obtain ⟨x, rfl, hx⟩ := ct63 hr
    exact ⟨x, rfl, hx⟩) h
  exact ⟨l, h1, h3, h2⟩
theorem u26 : (Try.prog.underlying 26).bind fieldTys = some [22, 23, 24] := by kernel_rfl
theorem ct26 {n : Nat} {tr : List C} (h : CT Try.prog (n + 8) 26 tr) : ∃ x : VRecWorld, tr = VRecWorld.c .shr x ∧ x.ok := by
  obtain ⟨x0, _, rfl, _, h0, x1, _, rfl, _, h1, x2, _, rfl, _, h2, rfl⟩ := CT_struct u26 h
  obtain ⟨v0, rfl, o0⟩ := ct22 h0
  obtain ⟨v1, rfl, o1⟩ := ct23 h1
  obtain ⟨v2, rfl, o2⟩ := ct24 h2
  exact ⟨⟨v0, v1, v2⟩, rfl, o0, o1, o2⟩
theorem law3 (trs : List (List C)) (h : CTall Try.prog 8 [26, 3] trs) : EV Try.prog E 3 (argsS Try.prog [26, 3] trs) = some ⟨[(false, [.p (.bool true)])], []⟩ := by
  obtain ⟨t0, r0, rfl, h0, h⟩ := CTall_cons h
  obtain ⟨t1, r1, rfl, h1, h⟩ := CTall_cons h
  obtain rfl := CTall_nil h
  obtain ⟨x0, rfl, o0⟩ := ct26 h0
  have s0 : isStr Try.prog 26 = true := by kernel_rfl
  obtain ⟨x1, rfl, o1⟩ := CT_int u3 h1
  have s1 : isStr Try.prog 3 = false := by kernel_rfl
  simp only [argsS, argS, s0, s1]
  exact k3 x0 x1 o0 (i64_of o1)
theorem kids : Kids Try.prog (· < Try.prog.types.size) := kids_rows (by kernel_rfl) (by kernel_rfl)
theorem full : ∀ t e, t < Try.prog.types.size → Try.prog.underlying t = some (.slice e) → 0 < Try.prog.cellsOf e := slices_full_of Try.prog (by kernel_rfl)
theorem own : ownKnob Try.prog.godebug = none := by kernel_rfl


theorem lifted3 (os : Os) (started : os.Started) (H : Type) (enc : TypeId × Value → H) :
    ReturnsInHanded {} Try.checked os 3 .any (Rows.fnExactRecMajorSpec.pre6 enc Try.prog Try.f3 Rows.fnExactRecMajorRow.domain false) (Rows.fnExactRecMajorSpec.post enc Try.prog Try.f3 false true false false) := by
  refine returnsInHanded_of_change_sized (C := Try.checked) own started (by kernel_rfl) Try.func3
    (ChangeSpec.witness6 (enc := enc) (C := Try.checked) false ⟨#[], #[.agg #[.slice none 0 0, .slice none 0 0, .slice none 0 0], .int .i64 0], []⟩ 8 (by kernel_rfl) (by kernel_rfl) (by kernel_rfl) (by kernel_rfl)) ?_
  intro W base args ds gs before hval hW hcnd hsz _
  exact law_row Rows.fnExactRecMajorSpec (m := 8) kids full Try.func3 rfl (by kernel_rfl) (by kernel_rfl) (tb := 4) rfl rfl (by kernel_rfl) (fun ds h => by
    match ds, h with
    | [_, _], _ => rfl) (sound 3) rfl law3 W base args ds gs before hval hW

theorem over3 : Rows.fnExactRecMajorRow.holds Try.pinned (OpenSpec.ofChange Rows.fnExactRecMajorSpec) :=
  OpenClaim.holds_of_wide 3 Try.f3 rfl rfl rfl rfl rfl rfl rfl ⟨rfl, rfl, rfl, rfl, rfl⟩ rfl rfl rfl rfl rfl (by kernel_rfl) Try.func3 (by kernel_rfl)
    (of_decide_eq_true (by kernel_rfl)) (by unfold Func.isWrapper; first | (rw [if_pos (by decide +kernel)]; kernel_rfl) | (rw [if_neg (by decide +kernel)]; exact ⟨rfl, rfl⟩))
    (fun os started H enc _ => lifted3 os started H enc)
theorem fnExactRecMajor_holds : Rows.FnExactRecMajorSaid := over3
#print axioms fnExactRecMajor_holds

end Go.Proofs.Ytnhgopjnnedhdaa

