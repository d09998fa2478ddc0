/- FnExactRecMessageOk returns true at all arguments, and each argument reads behind the call as it did. -/
import Derived.Test.YtgbfmjgndcooeaaRows
import Derived.Test.YtgbfmjgndcooeaaR1O
import Derived.KernelRfl
import Derived.JoinedOf
namespace Go.Proofs.Ytgbfmjgndcooeaa
open Go.Sx
set_option maxRecDepth 100000
set_option linter.unusedVariables false

theorem u25 : Try.prog.underlying 25 = some (.slice 53) := by kernel_rfl
theorem u53 : (Try.prog.underlying 53).bind fieldTys = some [3, 9] := by kernel_rfl
theorem u3 : Try.prog.underlying 3 = some (.int .i64) := by kernel_rfl
theorem u9 : Try.prog.underlying 9 = some .string := by kernel_rfl
theorem z53 : Try.prog.cellsOf 53 = 2 := by kernel_rfl
theorem ct_slots {n : Nat} {tr : List C} (h : CT Try.prog (n + 2) 25 tr) : ∃ l : List (Int × ByteArray), tr = [.sl .shr 2 (l.map slotC)] ∧ (∀ s ∈ l, s.2.size ≤ maxLen) ∧ l.length ≤ maxLen :=
  CT_slice u25 z53 (fun r hr => by
    obtain ⟨a, _, rfl, _, ha, b, _, rfl, _, hb, rfl⟩ := CT_struct u53 hr
    obtain ⟨m, rfl, _⟩ := CT_int u3 ha
    obtain ⟨t, rfl, ht⟩ := CT_str u9 hb
    exact ⟨(m, t), rfl, ht⟩) h

theorem u43 : (Try.prog.underlying 43).bind fieldTys = some [3, 3, 3, 3, 3, 3, 9, 25] := by kernel_rfl
theorem law7 (trs : List (List C)) (h : CTall Try.prog 8 [43, 3] trs) : EV Try.prog E 7 (argsS Try.prog [43, 3] trs) = some ⟨[(false, [.p (.bool true)])], []⟩ := by
    obtain ⟨t1, r1, rfl, h1, h⟩ := CTall_cons h
    obtain ⟨t2, r2, rfl, h2, h⟩ := CTall_cons h
    obtain rfl := CTall_nil h
    obtain ⟨x0, _, rfl, _, h_0, x1, _, rfl, _, h_1, x2, _, rfl, _, h_2, x3, _, rfl, _, h_3, x4, _, rfl, _, h_4, x5, _, rfl, _, h_5, x6, _, rfl, _, h_6, x7, _, rfl, _, h_7, rfl⟩ := CT_struct u43 h1
    obtain ⟨m0, rfl, _⟩ := CT_int u3 h_0
    obtain ⟨m1, rfl, _⟩ := CT_int u3 h_1
    obtain ⟨m2, rfl, _⟩ := CT_int u3 h_2
    obtain ⟨m3, rfl, _⟩ := CT_int u3 h_3
    obtain ⟨m4, rfl, _⟩ := CT_int u3 h_4
    obtain ⟨m5, rfl, _⟩ := CT_int u3 h_5
    obtain ⟨t, rfl, ht⟩ := CT_str u9 h_6
    obtain ⟨l, rfl, hl, hn⟩ := ct_slots h_7
    obtain ⟨n, rfl, _⟩ := CT_int u3 h2
    have hs : isStr Try.prog 43 = true := by kernel_rfl
    have hs3 : isStr Try.prog 3 = false := by kernel_rfl
    simp only [argsS, argS, hs, hs3]
    exact k7 _ _ _ _ _ _ t l n ht hl hn
theorem kids : Kids Try.prog (· < Try.prog.types.size) := kids_rows (by kernel_rfl) (by kernel_rfl)
theorem full : ∀ t e, t < Try.prog.types.size → Try.prog.underlying t = some (.slice e) → 0 < Try.prog.cellsOf e := slices_full_of Try.prog (by kernel_rfl)
theorem own : ownKnob Try.prog.godebug = none := by kernel_rfl

theorem lifted7 (os : Os) (started : os.Started) (H : Type) (enc : TypeId × Value → H) :
    ReturnsInHanded {} Try.checked os 7 .any (Rows.fnExactRecMessageOkSpec.pre6 enc Try.prog Try.f7 Rows.fnExactRecMessageOkRow.domain false) (Rows.fnExactRecMessageOkSpec.post enc Try.prog Try.f7 false true false false) := by
  refine returnsInHanded_of_change_sized (C := Try.checked) own started (by kernel_rfl) Try.func7
    (ChangeSpec.witness6 (enc := enc) (C := Try.checked) false ⟨#[], #[.agg #[.int .i64 0, .int .i64 0, .int .i64 0, .int .i64 0, .int .i64 0, .int .i64 0, .string ⟨#[]⟩, .slice none 0 0], .int .i64 0], []⟩ 8 (by kernel_rfl) (by kernel_rfl) (by kernel_rfl) (by kernel_rfl)) ?_
  intro W base args ds gs before hval hW hcnd hsz _
  exact law_row Rows.fnExactRecMessageOkSpec (m := 8) kids full Try.func7 rfl (by kernel_rfl) (by kernel_rfl) (tb := 4) rfl rfl (by kernel_rfl) (fun ds h => by
    match ds, h with
    | [_, _], _ => rfl) (sound 7) rfl law7 W base args ds gs before hval hW

theorem over7 : Rows.fnExactRecMessageOkRow.holds Try.pinned (OpenSpec.ofChange Rows.fnExactRecMessageOkSpec) :=
  OpenClaim.holds_of_wide 7 Try.f7 rfl rfl rfl rfl rfl rfl rfl ⟨rfl, rfl, rfl, rfl, rfl⟩ rfl rfl rfl rfl rfl (by kernel_rfl) Try.func7 (by kernel_rfl)
    (of_decide_eq_true (by kernel_rfl)) (by unfold Func.isWrapper; first | (rw [if_pos (by decide +kernel)]; kernel_rfl) | (rw [if_neg (by decide +kernel)]; exact ⟨rfl, rfl⟩))
    (fun os started H enc _ => lifted7 os started H enc)
theorem fnExactRecMessageOk_holds : Rows.FnExactRecMessageOkSaid := over7
#print axioms fnExactRecMessageOk_holds
end Go.Proofs.Ytgbfmjgndcooeaa
