/- FnExactLogNew returns true at all arguments. -/
import Derived.Test.YtjcbojcnfdlfaaaRows
import Derived.Test.YtjcbojcnfdlfaaaN4w
import Derived.KernelRfl
import Derived.JoinedOf
namespace Go.Proofs.Ytjcbojcnfdlfaaa
open Go.Sx
set_option maxRecDepth 100000
set_option linter.unusedVariables false
set_option linter.unusedSimpArgs false

theorem u3 : Try.prog.underlying 3 = some (.int .i64) := by kernel_rfl
theorem law4 (trs : List (List C)) (h : CTall Try.prog 8 [3] trs) : EV Try.prog E 4 (argsS Try.prog [3] trs) = some ⟨[(false, [.p (.bool true)])], []⟩ := by
  obtain ⟨t0, r0, rfl, h0, h⟩ := CTall_cons h
  obtain rfl := CTall_nil h
  obtain ⟨x0, rfl, o0⟩ := CT_int u3 h0
  have s0 : isStr Try.prog 3 = false := by kernel_rfl
  simp only [argsS, argS, s0]
  exact kC x0 (i64_of o0)
theorem kids : Kids Try.prog (· < Try.prog.types.size) := kids_rows (by kernel_rfl) (by kernel_rfl)
theorem full : ∀ t e, t < Try.prog.types.size → Try.prog.underlying t = some (.slice e) → 0 < Try.prog.cellsOf e := slices_full_of Try.prog (by kernel_rfl)
theorem own : ownKnob Try.prog.godebug = none := by kernel_rfl


theorem lifted4 (os : Os) (started : os.Started) (H : Type) (enc : TypeId × Value → H) :
    ReturnsInHanded {} Try.checked os 4 .any (Rows.fnExactLogNewSpec.pre6 enc Try.prog Try.f4 Rows.fnExactLogNewRow.domain false) (Rows.fnExactLogNewSpec.post enc Try.prog Try.f4 false true false false) := by
  refine returnsInHanded_of_change_sized (C := Try.checked) own started (by kernel_rfl) Try.func4
    (ChangeSpec.witness6 (enc := enc) (C := Try.checked) false ⟨#[], #[.int .i64 0], []⟩ 8 (by kernel_rfl) (by kernel_rfl) (by kernel_rfl) (by kernel_rfl)) ?_
  intro W base args ds gs before hval hW hcnd hsz _
  exact law_row Rows.fnExactLogNewSpec (m := 8) kids full Try.func4 rfl (by kernel_rfl) (by kernel_rfl) (tb := 4) rfl rfl (by kernel_rfl) (fun ds h => by
    match ds, h with
    | [_], _ => rfl) (sound 4) rfl law4 W base args ds gs before hval hW

theorem over4 : Rows.fnExactLogNewRow.holds Try.pinned (OpenSpec.ofChange Rows.fnExactLogNewSpec) :=
  OpenClaim.holds_of_wide 4 Try.f4 rfl rfl rfl rfl rfl rfl rfl ⟨rfl, rfl, rfl, rfl, rfl⟩ rfl rfl rfl rfl rfl (by kernel_rfl) Try.func4 (by kernel_rfl)
    (of_decide_eq_true (by kernel_rfl)) (by unfold Func.isWrapper; first | (rw [if_pos (by decide +kernel)]; kernel_rfl) | (rw [if_neg (by decide +kernel)]; exact ⟨rfl, rfl⟩))
    (fun os started H enc _ => lifted4 os started H enc)
theorem fnExactLogNew_holds : Rows.FnExactLogNewSaid := over4
#print axioms fnExactLogNew_holds

end Go.Proofs.Ytjcbojcnfdlfaaa
