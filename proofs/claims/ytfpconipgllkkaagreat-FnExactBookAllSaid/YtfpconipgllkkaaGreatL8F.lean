/- FnExactBookAll: the program and the document do the same bundle. -/
import Derived.Test.YtfpconipgllkkaaGreatRows
import Derived.Test.YtfpconipgllkkaaGreatL8a
import Derived.KernelRfl
import Derived.JoinedOf
namespace Go.Proofs.YtfpconipgllkkaaGreat
open Go.Sx
set_option maxRecDepth 100000
set_option linter.unusedVariables false
set_option linter.unusedSimpArgs false

theorem u3:Tryz.prog.underlying 3 = some (.int .i64) :=by kernel_rfl
theorem u9:Tryz.prog.underlying 9 = some .string :=by kernel_rfl
theorem u4:Tryz.prog.underlying 4 = some .bool :=by kernel_rfl
theorem u92:Tryz.prog.underlying 92 = some (.slice 9) :=by kernel_rfl
theorem z92_9:Tryz.prog.cellsOf 9 = 1 :=by kernel_rfl
theorem ct92 {n:Nat} {tr:List C} (h:CT Tryz.prog (n + 2) 92 tr):∃ l:List ByteArray,tr = [.sl .shr 1 (l.map strC)] ∧ l.length ≤ maxLen ∧ ∀ x ∈ l,x.size ≤ maxLen :=by
  obtain ⟨l,h1,h2,h3⟩ :=CT_slice (p :=fun x =>x.size ≤ maxLen) (f :=strC) u92 z92_9 (fun r hr =>by
    obtain ⟨m,rfl,hm⟩ :=CT_str u9 hr
    exact ⟨m,rfl,hm⟩) h
  exact ⟨l,h1,h3,h2⟩
theorem u94:(Tryz.prog.underlying 94).bind fieldTys = some [9,9,3,3,9,4,92] :=by kernel_rfl
theorem ct94 {n:Nat} {tr:List C} (h:CT Tryz.prog (n + 3) 94 tr):∃ x:VO,tr = VO.c .shr x ∧ x.ok :=by
  obtain ⟨x0,_,rfl,_,h0,x1,_,rfl,_,h1,x2,_,rfl,_,h2,x3,_,rfl,_,h3,x4,_,rfl,_,h4,x5,_,rfl,_,h5,x6,_,rfl,_,h6,rfl⟩ :=CT_struct u94 h
  obtain ⟨v0,rfl,o0⟩ :=CT_str u9 h0
  obtain ⟨v1,rfl,o1⟩ :=CT_str u9 h1
  obtain ⟨v2,rfl,o2⟩ :=CT_int u3 h2
  obtain ⟨v3,rfl,o3⟩ :=CT_int u3 h3
  obtain ⟨v4,rfl,o4⟩ :=CT_str u9 h4
  obtain ⟨v5,rfl⟩ :=CT_bool u4 h5
  obtain ⟨v6,rfl,o6⟩ :=ct92 h6
  exact ⟨⟨v0,v1,v2,v3,v4,v5,v6⟩,rfl,o0,o1,i64_of o2,i64_of o3,o4,o6⟩
theorem u22:Tryz.prog.underlying 22 = some (.slice 94) :=by kernel_rfl
theorem z22_94:Tryz.prog.cellsOf 94 = 7 :=by kernel_rfl
theorem ct22 {n:Nat} {tr:List C} (h:CT Tryz.prog (n + 4) 22 tr):∃ l:List VO,tr = [.sl .shr 7 (l.map (VO.c .shr))] ∧ l.length ≤ maxLen ∧ ∀ x ∈ l,x.ok :=by
  obtain ⟨l,h1,h2,h3⟩ :=CT_slice (p :=fun x =>x.ok) (f :=(VO.c .shr)) u22 z22_94 (fun r hr =>by
    obtain ⟨x,rfl,hx⟩ :=ct94 hr
    exact ⟨x,rfl,hx⟩) h
  exact ⟨l,h1,h3,h2⟩
theorem u97:(Tryz.prog.underlying 97).bind fieldTys = some [3,4,94] :=by kernel_rfl
theorem ct97 {n:Nat} {tr:List C} (h:CT Tryz.prog (n + 4) 97 tr):∃ x:VC,tr = VC.c .shr x ∧ x.ok :=by
  obtain ⟨x0,_,rfl,_,h0,x1,_,rfl,_,h1,x2,_,rfl,_,h2,rfl⟩ :=CT_struct u97 h
  obtain ⟨v0,rfl,o0⟩ :=CT_int u3 h0
  obtain ⟨v1,rfl⟩ :=CT_bool u4 h1
  obtain ⟨v2,rfl,o2⟩ :=ct94 h2
  exact ⟨⟨v0,v1,v2⟩,rfl,i64_of o0,o2⟩
theorem u23:Tryz.prog.underlying 23 = some (.slice 97) :=by kernel_rfl
theorem z23_97:Tryz.prog.cellsOf 97 = 9 :=by kernel_rfl
theorem ct23 {n:Nat} {tr:List C} (h:CT Tryz.prog (n + 5) 23 tr):∃ l:List VC,tr = [.sl .shr 9 (l.map (VC.c .shr))] ∧ l.length ≤ maxLen ∧ ∀ x ∈ l,x.ok :=by
  obtain ⟨l,h1,h2,h3⟩ :=CT_slice (p :=fun x =>x.ok) (f :=(VC.c .shr)) u23 z23_97 (fun r hr =>by
    obtain ⟨x,rfl,hx⟩ :=ct97 hr
    exact ⟨x,rfl,hx⟩) h
  exact ⟨l,h1,h3,h2⟩
theorem u100:(Tryz.prog.underlying 100).bind fieldTys = some [9,3,9,3,3] :=by kernel_rfl
theorem ct100 {n:Nat} {tr:List C} (h:CT Tryz.prog (n + 2) 100 tr):∃ x:VT,tr = VT.c x ∧ x.ok :=by
  obtain ⟨x0,_,rfl,_,h0,x1,_,rfl,_,h1,x2,_,rfl,_,h2,x3,_,rfl,_,h3,x4,_,rfl,_,h4,rfl⟩ :=CT_struct u100 h
  obtain ⟨v0,rfl,o0⟩ :=CT_str u9 h0
  obtain ⟨v1,rfl,o1⟩ :=CT_int u3 h1
  obtain ⟨v2,rfl,o2⟩ :=CT_str u9 h2
  obtain ⟨v3,rfl,o3⟩ :=CT_int u3 h3
  obtain ⟨v4,rfl,o4⟩ :=CT_int u3 h4
  exact ⟨⟨v0,v1,v2,v3,v4⟩,rfl,o0,i64_of o1,o2,i64_of o3,i64_of o4⟩
theorem u24:Tryz.prog.underlying 24 = some (.slice 100) :=by kernel_rfl
theorem z24_100:Tryz.prog.cellsOf 100 = 5 :=by kernel_rfl
theorem ct24 {n:Nat} {tr:List C} (h:CT Tryz.prog (n + 3) 24 tr):∃ l:List VT,tr = [.sl .shr 5 (l.map VT.c)] ∧ l.length ≤ maxLen ∧ ∀ x ∈ l,x.ok :=by
  obtain ⟨l,h1,h2,h3⟩ :=CT_slice (p :=fun x =>x.ok) (f :=VT.c) u24 z24_100 (fun r hr =>by
    obtain ⟨x,rfl,hx⟩ :=ct100 hr
    exact ⟨x,rfl,hx⟩) h
  exact ⟨l,h1,h3,h2⟩
theorem u26:(Tryz.prog.underlying 26).bind fieldTys = some [3,3,22,23,24] :=by kernel_rfl
theorem ct26 {n:Nat} {tr:List C} (h:CT Tryz.prog (n + 6) 26 tr):∃ x:VBook,tr = VBook.c .shr x ∧ x.ok :=by
  obtain ⟨x0,_,rfl,_,h0,x1,_,rfl,_,h1,x2,_,rfl,_,h2,x3,_,rfl,_,h3,x4,_,rfl,_,h4,rfl⟩ :=CT_struct u26 h
  obtain ⟨v0,rfl,o0⟩ :=CT_int u3 h0
  obtain ⟨v1,rfl,o1⟩ :=CT_int u3 h1
  obtain ⟨v2,rfl,o2⟩ :=ct22 h2
  obtain ⟨v3,rfl,o3⟩ :=ct23 h3
  obtain ⟨v4,rfl,o4⟩ :=ct24 h4
  exact ⟨⟨v0,v1,v2,v3,v4⟩,rfl,i64_of o0,i64_of o1,o2,o3,o4⟩
theorem u103:(Tryz.prog.underlying 103).bind fieldTys = some [9,9,3] :=by kernel_rfl
theorem ct103 {n:Nat} {tr:List C} (h:CT Tryz.prog (n + 2) 103 tr):∃ x:VN,tr = VN.c x ∧ x.ok :=by
  obtain ⟨x0,_,rfl,_,h0,x1,_,rfl,_,h1,x2,_,rfl,_,h2,rfl⟩ :=CT_struct u103 h
  obtain ⟨v0,rfl,o0⟩ :=CT_str u9 h0
  obtain ⟨v1,rfl,o1⟩ :=CT_str u9 h1
  obtain ⟨v2,rfl,o2⟩ :=CT_int u3 h2
  exact ⟨⟨v0,v1,v2⟩,rfl,o0,o1,i64_of o2⟩
theorem u27:Tryz.prog.underlying 27 = some (.slice 103) :=by kernel_rfl
theorem z27_103:Tryz.prog.cellsOf 103 = 3 :=by kernel_rfl
theorem ct27 {n:Nat} {tr:List C} (h:CT Tryz.prog (n + 3) 27 tr):∃ l:List VN,tr = [.sl .shr 3 (l.map VN.c)] ∧ l.length ≤ maxLen ∧ ∀ x ∈ l,x.ok :=by
  obtain ⟨l,h1,h2,h3⟩ :=CT_slice (p :=fun x =>x.ok) (f :=VN.c) u27 z27_103 (fun r hr =>by
    obtain ⟨x,rfl,hx⟩ :=ct103 hr
    exact ⟨x,rfl,hx⟩) h
  exact ⟨l,h1,h3,h2⟩
theorem u56:(Tryz.prog.underlying 56).bind fieldTys = some [3,9,9,3,9,9] :=by kernel_rfl
theorem ct56 {n:Nat} {tr:List C} (h:CT Tryz.prog (n + 2) 56 tr):∃ x:VW,tr = VW.c x ∧ x.ok :=by
  obtain ⟨x0,_,rfl,_,h0,x1,_,rfl,_,h1,x2,_,rfl,_,h2,x3,_,rfl,_,h3,x4,_,rfl,_,h4,x5,_,rfl,_,h5,rfl⟩ :=CT_struct u56 h
  obtain ⟨v0,rfl,o0⟩ :=CT_int u3 h0
  obtain ⟨v1,rfl,o1⟩ :=CT_str u9 h1
  obtain ⟨v2,rfl,o2⟩ :=CT_str u9 h2
  obtain ⟨v3,rfl,o3⟩ :=CT_int u3 h3
  obtain ⟨v4,rfl,o4⟩ :=CT_str u9 h4
  obtain ⟨v5,rfl,o5⟩ :=CT_str u9 h5
  exact ⟨⟨v0,v1,v2,v3,v4,v5⟩,rfl,i64_of o0,o1,o2,i64_of o3,o4,o5⟩
theorem u28:Tryz.prog.underlying 28 = some (.slice 56) :=by kernel_rfl
theorem z28_56:Tryz.prog.cellsOf 56 = 6 :=by kernel_rfl
theorem ct28 {n:Nat} {tr:List C} (h:CT Tryz.prog (n + 3) 28 tr):∃ l:List VW,tr = [.sl .shr 6 (l.map VW.c)] ∧ l.length ≤ maxLen ∧ ∀ x ∈ l,x.ok :=by
  obtain ⟨l,h1,h2,h3⟩ :=CT_slice (p :=fun x =>x.ok) (f :=VW.c) u28 z28_56 (fun r hr =>by
    obtain ⟨x,rfl,hx⟩ :=ct56 hr
    exact ⟨x,rfl,hx⟩) h
  exact ⟨l,h1,h3,h2⟩
theorem u30:(Tryz.prog.underlying 30).bind fieldTys = some [27,28] :=by kernel_rfl
theorem ct30 {n:Nat} {tr:List C} (h:CT Tryz.prog (n + 4) 30 tr):∃ x:VU,tr = VU.c .shr x ∧ x.ok :=by
  obtain ⟨x0,_,rfl,_,h0,x1,_,rfl,_,h1,rfl⟩ :=CT_struct u30 h
  obtain ⟨v0,rfl,o0⟩ :=ct27 h0
  obtain ⟨v1,rfl,o1⟩ :=ct28 h1
  exact ⟨⟨v0,v1⟩,rfl,o0,o1⟩
theorem law3 (trs:List (List C)) (h:CTall Tryz.prog 8 [26,30] trs):EV Tryz.prog E 3 (argsS Tryz.prog [26,30] trs) = some ⟨[(false,[.p (.bool true)])],[]⟩ :=by
  obtain ⟨t0,r0,rfl,h0,h⟩ :=CTall_cons h
  obtain ⟨t1,r1,rfl,h1,h⟩ :=CTall_cons h
  obtain rfl :=CTall_nil h
  obtain ⟨x0,rfl,o0⟩ :=ct26 h0
  have s0:isStr Tryz.prog 26 = true :=by kernel_rfl
  obtain ⟨x1,rfl,o1⟩ :=ct30 h1
  have s1:isStr Tryz.prog 30 = true :=by kernel_rfl
  simp only [argsS,argS,s0,s1]
  exact k3 x0 x1 o0 o1
theorem kids:Kids Tryz.prog (· < Tryz.prog.types.size) :=kids_rows (by kernel_rfl) (by kernel_rfl)
theorem full:∀ t e,t < Tryz.prog.types.size → Tryz.prog.underlying t = some (.slice e) → 0 < Tryz.prog.cellsOf e :=slices_full_of Tryz.prog (by kernel_rfl)
theorem own:ownKnob Tryz.prog.godebug = none :=by kernel_rfl


theorem lifted3 (os:Os) (started:os.Started) (H:Type) (enc:TypeId × Value → H) :
    ReturnsInHanded {} Tryz.checked os 3 .any (Rows.fnExactBookAllSpec.pre6 enc Tryz.prog Tryz.f3 Rows.fnExactBookAllRow.domain false) (Rows.fnExactBookAllSpec.post enc Tryz.prog Tryz.f3 false true false false) :=by
  refine returnsInHanded_of_change_sized (C :=Tryz.checked) own started (by kernel_rfl) Tryz.func3
    (ChangeSpec.witness6 (enc :=enc) (C :=Tryz.checked) false ⟨#[],#[.agg #[.int .i64 0,.int .i64 0,.slice none 0 0,.slice none 0 0,.slice none 0 0],.agg #[.slice none 0 0,.slice none 0 0]],[]⟩ 8 (by kernel_rfl) (by kernel_rfl) (by kernel_rfl) (by kernel_rfl)) ?_
  intro W base args ds gs before hval hW hcnd hsz _
  exact law_row Rows.fnExactBookAllSpec (m :=8) kids full Tryz.func3 rfl (by kernel_rfl) (by kernel_rfl) (tb :=4) rfl rfl (by kernel_rfl) (fun ds h =>by
    match ds,h with
    | [_,_],_ =>rfl) (sound 3) rfl law3 W base args ds gs before hval hW

theorem over3:Rows.fnExactBookAllRow.holds Tryz.pinned (OpenSpec.ofChange Rows.fnExactBookAllSpec) :=
  OpenClaim.holds_of_wide 3 Tryz.f3 rfl rfl rfl rfl rfl rfl rfl ⟨rfl,rfl,rfl,rfl,rfl⟩ rfl rfl rfl rfl rfl (by kernel_rfl) Tryz.func3 (by kernel_rfl)
    (of_decide_eq_true (by kernel_rfl)) (by unfold Func.isWrapper; first | (rw [if_pos (by decide +kernel)]; kernel_rfl) | (rw [if_neg (by decide +kernel)]; exact ⟨rfl,rfl⟩))
    (fun os started H enc _ =>lifted3 os started H enc)
theorem fnExactBookAll_holds:Rows.FnExactBookAllSaid :=over3
#print axioms fnExactBookAll_holds

end Go.Proofs.YtfpconipgllkkaaGreat

