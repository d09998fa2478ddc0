/- FnExactRecMerge returns true at all arguments, and each argument reads behind the call as it did. -/
import Derived.Test.YtgbfmjgndcooeaaRows
import Derived.Test.YtgbfmjgndcooeaaR1L
import Derived.KernelRfl
import Derived.JoinedOf
namespace Go.Proofs.Ytgbfmjgndcooeaa
open Go.Sx
set_option maxRecDepth 100000
set_option linter.unusedVariables false

theorem u25 : Try.prog.underlying 25 = some (.slice 53) := by kernel_rfl
theorem u53 : (Try.prog.underlying 53).map (fun d => match d with | .struct fs => fs.toList.map (·.type) | _ => []) = some [3, 9] := by kernel_rfl
theorem u3 : Try.prog.underlying 3 = some (.int .i64) := by kernel_rfl
theorem u9 : Try.prog.underlying 9 = some .string := by kernel_rfl
theorem z53 : Try.prog.cellsOf 53 = 2 := by kernel_rfl

theorem ct_slot {n : Nat} {r : List C} (h : CT Try.prog (n + 2) 53 r) : ∃ s : Int × ByteArray, r = slotC s ∧ s.2.size ≤ maxLen := by
  have hu : ∃ fs, Try.prog.underlying 53 = some (.struct fs) ∧ fs.toList.map (·.type) = [3, 9] := by
    have := u53
    cases hd : Try.prog.underlying 53 with
    | none => rw [hd] at this; simp at this
    | some d =>
      rw [hd] at this
      cases d <;> simp at this
      exact ⟨_, rfl, by simpa using this⟩
  obtain ⟨fs, hu, hf⟩ := hu
  simp only [CT, hu, hf, CTs, u3, u9] at h
  obtain ⟨a, b, rfl, _, ⟨m, rfl, _⟩, a2, b2, rfl, _, ⟨t, rfl, ht⟩, rfl⟩ := h
  exact ⟨(m, t), rfl, ht⟩

theorem ct_slots {n : Nat} {tr : List C} (h : CT Try.prog (n + 3) 25 tr) : ∃ l : List (Int × ByteArray), tr = [.sl .shr 2 (l.map slotC)] ∧ (∀ s ∈ l, s.2.size ≤ maxLen) ∧ l.length ≤ maxLen := by
  rw [CT, u25] at h
  obtain ⟨rows, rfl, hl, hr⟩ := h
  have : ∀ rows : List (List C), (∀ r ∈ rows, CT Try.prog (n + 2) 53 r) → ∃ l : List (Int × ByteArray), rows = l.map slotC ∧ ∀ s ∈ l, s.2.size ≤ maxLen := by
    intro rows
    induction rows with
    | nil => exact fun _ => ⟨[], rfl, fun s hs => by cases hs⟩
    | cons r rows ih =>
      intro h
      obtain ⟨s, hs, hs2⟩ := ct_slot (h r (by simp))
      obtain ⟨l, hl, hl2⟩ := ih (fun x hx => h x (List.mem_cons_of_mem _ hx))
      refine ⟨s :: l, by rw [hs, hl]; rfl, fun x hx => ?_⟩
      rcases List.mem_cons.1 hx with rfl | hx
      · exact hs2
      · exact hl2 x hx
  obtain ⟨l, e, hl2⟩ := this rows hr
  refine ⟨l, by rw [e, z53], hl2, by rw [e] at hl; simpa using hl⟩

theorem law5 (trs : List (List C)) (h : CTall Try.prog 4 [25, 25] trs) : EV Try.prog E 5 (argsS Try.prog [25, 25] trs) = some ⟨[(false, [.p (.bool true)])], []⟩ := by
  match trs, h with
  | [t1, t2], ⟨h1, h2, _⟩ =>
    obtain ⟨a, rfl, ha, hla⟩ := ct_slots (n := 1) h1
    obtain ⟨b, rfl, hb, hlb⟩ := ct_slots (n := 1) h2
    have hs : isStr Try.prog 25 = false := by simp only [isStr, u25]
    simp only [argsS, argS, hs]
    exact k5 a b ha hla hb hlb

theorem kids : Kids Try.prog (· < Try.prog.types.size) := kids_rows (by kernel_rfl) (by kernel_rfl)
theorem full : ∀ t e, t < Try.prog.types.size → Try.prog.underlying t = some (.slice e) → 0 < Try.prog.cellsOf e := slices_full_of Try.prog (by kernel_rfl)
theorem own : ownKnob Try.prog.godebug = none := by kernel_rfl

theorem lifted5 (os : Os) (started : os.Started) (H : Type) (enc : TypeId × Value → H) :
    ReturnsInHanded {} Try.checked os 5 .any (Rows.fnExactRecMergeSpec.pre6 enc Try.prog Try.f5 Rows.fnExactRecMergeRow.domain false) (Rows.fnExactRecMergeSpec.post enc Try.prog Try.f5 false true false false) := by
  refine returnsInHanded_of_change_sized (C := Try.checked) own started (by kernel_rfl) Try.func5
    (ChangeSpec.witness6 (enc := enc) (C := Try.checked) false ⟨#[], #[.slice none 0 0, .slice none 0 0], []⟩ 8 (by kernel_rfl) (by kernel_rfl) (by kernel_rfl) (by kernel_rfl)) ?_
  intro W base args ds gs before hval hW hcnd hsz _
  exact law_row Rows.fnExactRecMergeSpec (m := 4) kids full Try.func5 rfl (by kernel_rfl) (by kernel_rfl) (tb := 4) rfl rfl (by kernel_rfl) (fun ds h => by
    match ds, h with
    | [_, _], _ => rfl) (sound 5) rfl law5 W base args ds gs before hval hW

theorem over5 : Rows.fnExactRecMergeRow.holds Try.pinned (OpenSpec.ofChange Rows.fnExactRecMergeSpec) :=
  OpenClaim.holds_of_wide 5 Try.f5 rfl rfl rfl rfl rfl rfl rfl ⟨rfl, rfl, rfl, rfl, rfl⟩ rfl rfl rfl rfl rfl (by kernel_rfl) Try.func5 (by kernel_rfl)
    (of_decide_eq_true (by kernel_rfl)) (by unfold Func.isWrapper; first | (rw [if_pos (by decide +kernel)]; kernel_rfl) | (rw [if_neg (by decide +kernel)]; exact ⟨rfl, rfl⟩))
    (fun os started H enc _ => lifted5 os started H enc)
theorem fnExactRecMerge_holds : Rows.FnExactRecMergeSaid := over5
#print axioms fnExactRecMerge_holds
end Go.Proofs.Ytgbfmjgndcooeaa
