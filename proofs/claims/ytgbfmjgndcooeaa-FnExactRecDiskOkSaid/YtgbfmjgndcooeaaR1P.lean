/- FnExactRecDiskOk returns true at all arguments, and each argument reads behind the call as it did. -/
import Derived.Test.YtgbfmjgndcooeaaRows
import Derived.Test.YtgbfmjgndcooeaaR1N
import Derived.KernelRfl
import Derived.JoinedOf
namespace Go.Proofs.Ytgbfmjgndcooeaa
open Go.Sx
set_option maxRecDepth 100000
set_option linter.unusedVariables false

theorem u25 : Try.prog.underlying 25 = some (.slice 53) := by kernel_rfl
theorem u53 : (Try.prog.underlying 53).bind fieldTys = some [3, 9] := by kernel_rfl
theorem u3 : Try.prog.underlying 3 = some (.int .i64) := by kernel_rfl
theorem u9 : Try.prog.underlying 9 = some .string := by kernel_rfl
theorem z53 : Try.prog.cellsOf 53 = 2 := by kernel_rfl
theorem ct_slots {n : Nat} {tr : List C} (h : CT Try.prog (n + 2) 25 tr) : ∃ l : List (Int × ByteArray), tr = [.sl .shr 2 (l.map slotC)] ∧ (∀ s ∈ l, s.2.size ≤ maxLen) ∧ l.length ≤ maxLen :=
  CT_slice u25 z53 (fun r hr => by
    obtain ⟨a, _, rfl, _, ha, b, _, rfl, _, hb, rfl⟩ := CT_struct u53 hr
    obtain ⟨m, rfl, _⟩ := CT_int u3 ha
    obtain ⟨t, rfl, ht⟩ := CT_str u9 hb
    exact ⟨(m, t), rfl, ht⟩) h

theorem u34 : (Try.prog.underlying 34).bind fieldTys = some [3, 3, 25] := by kernel_rfl
theorem law6 (trs : List (List C)) (h : CTall Try.prog 8 [34] trs) : EV Try.prog E 6 (argsS Try.prog [34] trs) = some ⟨[(false, [.p (.bool true)])], []⟩ := by
    obtain ⟨t1, r1, rfl, h1, h⟩ := CTall_cons h
    obtain rfl := CTall_nil h
    obtain ⟨a, _, rfl, _, ha, b, _, rfl, _, hb, c, _, rfl, _, hc, rfl⟩ := CT_struct u34 h1
    obtain ⟨p, rfl, _⟩ := CT_int u3 ha
    obtain ⟨kn, rfl, _⟩ := CT_int u3 hb
    obtain ⟨l, rfl, hl, hn⟩ := ct_slots hc
    have hs : isStr Try.prog 34 = true := by kernel_rfl
    simp only [argsS, argS, hs]
    exact k6 p kn l hl hn
theorem kids : Kids Try.prog (· < Try.prog.types.size) := kids_rows (by kernel_rfl) (by kernel_rfl)
theorem full : ∀ t e, t < Try.prog.types.size → Try.prog.underlying t = some (.slice e) → 0 < Try.prog.cellsOf e := slices_full_of Try.prog (by kernel_rfl)
theorem own : ownKnob Try.prog.godebug = none := by kernel_rfl

theorem lifted6 (os : Os) (started : os.Started) (H : Type) (enc : TypeId × Value → H) :
    ReturnsInHanded {} Try.checked os 6 .any (Rows.fnExactRecDiskOkSpec.pre6 enc Try.prog Try.f6 Rows.fnExactRecDiskOkRow.domain false) (Rows.fnExactRecDiskOkSpec.post enc Try.prog Try.f6 false true false false) := by
  refine returnsInHanded_of_change_sized (C := Try.checked) own started (by kernel_rfl) Try.func6
    (ChangeSpec.witness6 (enc := enc) (C := Try.checked) false ⟨#[], #[.agg #[.int .i64 0, .int .i64 0, .slice none 0 0]], []⟩ 8 (by kernel_rfl) (by kernel_rfl) (by kernel_rfl) (by kernel_rfl)) ?_
  intro W base args ds gs before hval hW hcnd hsz _
  exact law_row Rows.fnExactRecDiskOkSpec (m := 8) kids full Try.func6 rfl (by kernel_rfl) (by kernel_rfl) (tb := 4) rfl rfl (by kernel_rfl) (fun ds h => by
    match ds, h with
    | [_], _ => rfl) (sound 6) rfl law6 W base args ds gs before hval hW

theorem over6 : Rows.fnExactRecDiskOkRow.holds Try.pinned (OpenSpec.ofChange Rows.fnExactRecDiskOkSpec) :=
  OpenClaim.holds_of_wide 6 Try.f6 rfl rfl rfl rfl rfl rfl rfl ⟨rfl, rfl, rfl, rfl, rfl⟩ rfl rfl rfl rfl rfl (by kernel_rfl) Try.func6 (by kernel_rfl)
    (of_decide_eq_true (by kernel_rfl)) (by unfold Func.isWrapper; first | (rw [if_pos (by decide +kernel)]; kernel_rfl) | (rw [if_neg (by decide +kernel)]; exact ⟨rfl, rfl⟩))
    (fun os started H enc _ => lifted6 os started H enc)
theorem fnExactRecDiskOk_holds : Rows.FnExactRecDiskOkSaid := over6
#print axioms fnExactRecDiskOk_holds
end Go.Proofs.Ytgbfmjgndcooeaa
