/- FnBookMirrors returns true at all codes,and the code reads behind the call as it did. -/
import Derived.Test.YtgekblcbdhjmfaaRows
import Derived.Test.YtgekblcbdhjmfaaQ9
import Derived.KernelRfl
import Derived.JoinedOf
namespace Go.Proofs.Ytgekblcbdhjmfaa
open Go.Sx
set_option maxRecDepth 100000
set_option linter.unusedVariables false
set_option linter.unusedSimpArgs false
theorem u5:Try.prog.underlying 5 = some (.int .u8) :=by kernel_rfl
theorem u22:Try.prog.underlying 22 = some (.slice 5) :=by kernel_rfl
theorem z22:Try.prog.cellsOf 5 = 1 :=by kernel_rfl
theorem ct22 {n:Nat} {tr:List C} (h:CT Try.prog (n + 2) 22 tr):∃ l:List Int,tr = [.sl .shr 1 (l.map byC)]∧l.length≤maxLen∧∀ x ∈ l,0≤x∧x≤255 :=by
 obtain ⟨l,h1,h2,h3⟩ :=CT_slice (p :=fun x =>0≤x∧x≤255) (f :=byC) u22 z22 (fun r hr =>by
  obtain ⟨m,rfl,hm⟩ :=CT_int u5 hr
  simp only [Lit.wf,Bool.and_eq_true,decide_eq_true_eq] at hm
  exact ⟨m,rfl,hm.1,hm.2⟩) h
 exact ⟨l,h1,h3,h2⟩
theorem laws5 (trs:List (List C)) (h:CTall Try.prog 8 [22] trs):EV Try.prog E 5 (argsS Try.prog [22] trs) = some ⟨[(false,[.p (.bool true)])],[]⟩ :=by
 obtain ⟨t0,r0,rfl,h0,h⟩ :=CTall_cons h
 obtain rfl :=CTall_nil h
 obtain ⟨x0,rfl,o0,b0⟩ :=ct22 h0
 have s0:isStr Try.prog 22 = false :=by kernel_rfl
 simp only [argsS,argS,s0]
 exact law5 o0 b0
theorem kids:Kids Try.prog (· < Try.prog.types.size) :=kids_rows (by kernel_rfl) (by kernel_rfl)
theorem full:∀ t e,t < Try.prog.types.size→Try.prog.underlying t = some (.slice e)→0 < Try.prog.cellsOf e :=slices_full_of Try.prog (by kernel_rfl)
theorem own:ownKnob Try.prog.godebug = none :=by kernel_rfl
theorem lifted5 (os:Os) (started:os.Started) (H:Type) (enc:TypeId × Value→H) :
  ReturnsInHanded {} Try.checked os 5 .any (Rows.fnBookMirrorsSpec.pre6 enc Try.prog Try.f5 Rows.fnBookMirrorsRow.domain false) (Rows.fnBookMirrorsSpec.post enc Try.prog Try.f5 false true false false) :=by
 refine returnsInHanded_of_change_sized (C :=Try.checked) own started (by kernel_rfl) Try.func5
  (ChangeSpec.witness6 (enc :=enc) (C :=Try.checked) false ⟨#[],#[.slice none 0 0],[]⟩ 8 (by kernel_rfl) (by kernel_rfl) (by kernel_rfl) (by kernel_rfl)) ?_
 intro W base args ds gs before hval hW hcnd hsz _
 exact law_row Rows.fnBookMirrorsSpec (m :=8) kids full Try.func5 rfl (by kernel_rfl) (by kernel_rfl) (tb :=4) rfl rfl (by kernel_rfl) (fun ds h =>by
  match ds,h with
  | [_],_ =>rfl) (sound 5) rfl laws5 W base args ds gs before hval hW
theorem over5:Rows.fnBookMirrorsRow.holds Try.pinned (OpenSpec.ofChange Rows.fnBookMirrorsSpec) :=
 OpenClaim.holds_of_wide 5 Try.f5 rfl rfl rfl rfl rfl rfl rfl ⟨rfl,rfl,rfl,rfl,rfl⟩ rfl rfl rfl rfl rfl (by kernel_rfl) Try.func5 (by kernel_rfl)
  (of_decide_eq_true (by kernel_rfl)) (by unfold Func.isWrapper; first | (rw [if_pos (by decide +kernel)]; kernel_rfl) | (rw [if_neg (by decide +kernel)]; exact ⟨rfl,rfl⟩))
  (fun os started H enc _ =>lifted5 os started H enc)
theorem fnBookMirrors_holds:Rows.FnBookMirrorsSaid :=over5
#print axioms fnBookMirrors_holds
end Go.Proofs.Ytgekblcbdhjmfaa

