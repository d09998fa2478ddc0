/- An evaluator for the translated code over values that are trees, and that it is sound: part SxD. -/
import Derived.Test.YtndcljdmopigeaaSxC
import Derived.ReadAgain
import Derived.OpenShut
import Derived.Below
import Derived.SizedLaws
import Derived.ChangeCalls
import Derived.ChangeShapes
set_option linter.unusedVariables false
set_option linter.unusedSimpArgs false
/- A function keeps what its evaluation says: the proof. -/
namespace Go.Sx
section
variable {P : Program} {E : Env}

/-- What CallOk grants at a return. -/
def RetPost (E : Env) (f : FuncId) (args : List S) (vals : List Value) (w : World) (Z : CA → Prop) (F : List CA) (res : Res) (v : Value) (w' : World) : Prop :=
  ∃ Z' F1 F2 G, Goes w w' (fun c => c ∈ F) ∧ (∀ c, Z c → Z' c) ∧ (∀ c, Z' c → Z c ∨ c ∈ F ∨ w.heap.size ≤ c.1) ∧ (∀ c, Z' c → (cell w' c).isSome = true) ∧
    ResRep w' Z' res.vals v F1 ∧ OutsRep w' Z' args vals (E.ann f).modes res.outs F2 G ∧ (F1 ++ F2 ++ G).Nodup ∧ (∀ c ∈ F1 ++ F2 ++ G, Mine w' Z' c) ∧ ∀ c ∈ F1 ++ F2 ++ G, c ∈ F ∨ w.heap.size ≤ c.1

theorem ret_ok (hT : TOk P E) {f : FuncId} {fn : Func} {args : List S} {vals : List Value} (hl : args.length = vals.length) {w w' : World} {Z : CA → Prop} {F : List CA} {n : Nat} {s : St} {a : Act} {res : Res}
    (h : SI w Z F n (keptOf (E.ann f).keep vals) s a w') (he : retOf E ⟨fn.results.toList, E.ann f, args⟩ s = some res) : a.defers = [] ∧ ∃ v, (results fn a.tmps).run P w' = .ok v w' ∧ RetPost E f args vals w Z F res v w' := by
  obtain ⟨Z', fp, hinv, z1, z2, hgo, hfp, hfr⟩ := h
  obtain ⟨q, hq, he1⟩ := bnd_eq_some.1 (show bnd (resultOf E fn.results.toList s.sl) _ = some res from he)
  obtain ⟨outs, ho, he2⟩ := bnd_eq_some.1 he1
  simp at he2
  subst he2
  obtain ⟨us, F1, fp1, c, hrun, htr, n1, f1, i1, s1, a1⟩ := resultOf_rep hT hinv hq
  obtain ⟨F2, G, o1, o2, o3⟩ := outsOf_rep (s := ⟨c, q.1⟩) i1 (i := 0) (vals := vals) hl (fun k v hv hk => by
    have := hfr.keep _ (keptOf_mem (i := k) hv (by simpa using hk))
    simpa using this) ho
  refine ⟨hfr.defers, _, run_results hrun, Z', F1, F2, G, hgo, z1, z2, hinv.zok, ?_, o1, ?_, ?_, ?_⟩
  · -- the result's value
    match hq2 : q.2, us, htr with
    | [], [], htr => exact htr
    | [z], [u], htr =>
      obtain ⟨vs, G1, G2, p1, p2, p3, p4, p5⟩ := htr
      have hG2 : G2 = [] := p4
      subst hG2
      rw [List.append_nil] at p5
      subst p5
      exact ⟨vs, p1, p2, p3⟩
    | z :: z2 :: zs, u :: u2 :: us, htr =>
      have : ¬ (u :: u2 :: us).length = 1 := by simp
      rw [dif_neg this]
      exact ⟨u :: u2 :: us, rfl, htr⟩
    | [], _ :: _, htr => exact htr.elim
    | _ :: _, [], htr => exact htr.elim
    | [_], _ :: _ :: _, htr =>
      obtain ⟨_, _, _, _, _, _, p4, _⟩ := htr
      exact p4.elim
    | _ :: _ :: _, [_], htr =>
      obtain ⟨_, _, _, _, _, _, p4, _⟩ := htr
      exact p4.elim
  · rw [List.append_assoc, List.nodup_append]
    refine ⟨n1, o2, fun x hx y hy e => ?_⟩
    subst e
    obtain ⟨t, _, hm⟩ := o3 x hy
    exact a1 t x hx hm
  · intro x hx
    rw [List.append_assoc] at hx
    rcases List.mem_append.1 hx with hx | hx
    · obtain ⟨t, ht⟩ := f1 x hx
      exact hinv.mine t x ht
    · obtain ⟨t, _, hm⟩ := o3 x hx
      exact i1.mine t x hm
  · intro x hx
    rw [List.append_assoc] at hx
    rcases List.mem_append.1 hx with hx | hx
    · obtain ⟨t, ht⟩ := f1 x hx
      exact hfp t x ht
    · obtain ⟨t, _, hm⟩ := o3 x hx
      exact hfp t x (s1 t x hm)
end
end Go.Sx

/- A function keeps what its evaluation says: all calls. -/
namespace Go.Sx
section
variable {P : Program} {E : Env}

theorem fn_ok (hT : TOk P E) (hE : EqOk P E) {call : Sem1} (hC : ∀ f, CallOk P E call f) (hF : ∀ f args res, call f args = some res → Callable P f) {f : FuncId} (hN : FnOk P E call f) {m : Nat} : CallOk P E (runF P E call (iterN m)) f := by
  intro args vals w Z F res hres ars nF mF hz
  unfold runF at hres
  cases hf : P.funcs[f]? with
  | none => rw [hf] at hres; cases hres
  | some fn =>
    rw [hf] at hres
    simp only at hres
    cases hb : fn.body with
    | none => rw [hb] at hres; cases hres
    | some c =>
      rw [hb] at hres
      simp only at hres
      obtain ⟨_, hgood⟩ := hN fn c hf hb
      obtain ⟨_, l1, _, _⟩ := ars.split
      have hlen : args.length = vals.length := by
        obtain ⟨fps, l1, l2, _, _⟩ := ars.split
        exact l2.symm
      let a0 : Act := { tmps := vals.toArray ++ Array.replicate (fn.ntmps - vals.toArray.size) undef, defers := [] }
      have hv : ∀ t v, vals[t]? = some v → Act.tm a0 t = v := by
        intro t v ht
        have hlt : t < vals.length := by
          rcases Nat.lt_or_ge t vals.length with h | h
          · exact h
          · simp [List.getElem?_eq_none h] at ht
        have : a0.tmps[t]? = some v := by
          simp only [a0]
          rw [Array.getElem?_append_left (by simpa using hlt)]
          simpa using ht
        simp [Act.tm, this]
      obtain ⟨fp, hinv, hfp⟩ := enter_inv (a := a0) ars nF mF hz hv
      have hSI : SI w Z F fn.ntmps (keptOf (E.ann f).keep vals) ⟨args.length, enterL 0 args⟩ a0 w :=
        ⟨Z, fp, hinv, fun _ h => h, fun _ h => .inl h, Goes.refl _ _, fun t c hc => .inl (hfp t c hc), ⟨by simp [a0]; omega, rfl, fun p hp => hv _ _ (keptOf_keep hp).2⟩⟩
      refine calls_of_wp hf hb ?_
      cases ho : evc E call (iterN m) ⟨fn.results.toList, E.ann f, args⟩ c ⟨args.length, enterL 0 args⟩ with
      | none => rw [ho] at hres; simp [finish] at hres
      | some o =>
        rw [ho] at hres
        have fin : ∀ {s : St} {a : Act} {w' : World}, SI w Z F fn.ntmps (keptOf (E.ann f).keep vals) s a w' → retOf E ⟨fn.results.toList, E.ann f, args⟩ s = some res → a.defers = [] ∧ ∃ v, (results fn a.tmps).run P w' = .ok v w' ∧ RetPost E f args vals w Z F res v w' := fun hs hr => ret_ok hT hlen hs hr
        refine evc_wp hT hE hC hF c (hgood _ (fun p hp => (keptOf_keep hp).1)) hSI ho ?_
        · cases o with
          | norm s => exact fun a w' hs => fin hs hres
          | exit id s => simp [finish] at hres
          | ret r =>
            simp [finish] at hres
            subst hres
            exact fun a w' s hs hr => fin hs hr
end
end Go.Sx

/- The evaluation is what the machine does. -/
namespace Go.Sx
section
variable {P : Program} {E : Env}

def Calm (P : Program) (E : Env) (call : Sem1) : Prop := (∀ f, CallOk P E call f) ∧ ∀ f args res, call f args = some res → Callable P f

theorem EVn_ok (hT : TOk P E) (hE : EqOk P E) (hN : ∀ call, Calm P E call → ∀ f, FnOk P E call f) : ∀ n, Calm P E (EVn P E n)
  | 0 => ⟨fun f args vals w Z F res h => by simp [EVn] at h, fun f args res h => by simp [EVn] at h⟩
  | n + 1 => by
    have ih := EVn_ok hT hE hN n
    refine ⟨fun f => fn_ok hT hE ih.1 ih.2 (hN _ ih f), fun f args res h => ?_⟩
    have h : runF P E (EVn P E n) (iterN n) f args = some res := h
    unfold runF at h
    cases hf : P.funcs[f]? with
    | none => rw [hf] at h; cases h
    | some fn =>
      rw [hf] at h
      simp only at h
      cases hb : fn.body with
      | none => rw [hb] at h; cases h
      | some c => exact ⟨fn, hf, (hN _ ih f fn c hf hb).1, by rw [hb]; rfl⟩

theorem EV_ok (hT : TOk P E) (hE : EqOk P E) (hN : ∀ call, Calm P E call → ∀ f, FnOk P E call f) (f : FuncId) : CallOk P E (EV P E) f := by
  intro args vals w Z F res h
  obtain ⟨n, hn⟩ := EV_some h
  exact (EVn_ok hT hE hN n).1 f args vals w Z F res hn
end
end Go.Sx

/- Locality: what an operation does hangs on the slots that it touches alone. -/
namespace Go.Sx

structure Agr (T : List Tmp) (s s' : St) : Prop where
  cnt : s'.cnt = s.cnt
  at_ : ∀ t, memT t T = true → look s'.sl t = look s.sl t

def Cl (T : List Tmp) (s : St) : Prop := ∀ t, memT t T = true → (look s.sl t).rootIn T = true

/-- From s to s2, and from s' to s2'. -/
structure Par (T : List Tmp) (s s' s2 s2' : St) : Prop where
  agr : Agr T s2 s2'
  le : s.cnt ≤ s2.cnt
  out : ∀ t, memT t T = false → look s2.sl t = look s.sl t
  out' : ∀ t, memT t T = false → look s2'.sl t = look s'.sl t
  cl : Cl T s2
  mv : ∀ t, look s2.sl t = look s.sl t ∨ (∃ c cs, s.cnt ≤ c ∧ look s2.sl t = (look s.sl t).withCells c cs) ∨ ∃ vs vs', look s.sl t = .tup vs ∧ look s2.sl t = .tup vs' ∧ vs' ≠ []

theorem with_with (x : S) (c c' : Nat) (cs cs' : List C) : (x.withCells c cs).withCells c' cs' = x.withCells c' cs' := by cases x <;> rfl

def opIn (T : List Tmp) : Operand → Bool
  | .tmp t => memT t T
  | .const _ => true
  | .func _ => true
  | .global _ => true

theorem tst_none {β : Type} {t : Bool} {x : Option β} {b : β} (h : tst t x none = some b) : t = true ∧ x = some b := by
  cases t
  · cases h
  · exact ⟨rfl, h⟩

section
variable {T : List Tmp} {E : Env} {s s' s2 s2' : St}

theorem Par.refl (h : Agr T s s') (hc : Cl T s) : Par T s s' s s' := ⟨h, Nat.le_refl _, fun _ _ => rfl, fun _ _ => rfl, hc, fun _ => .inl rfl⟩
theorem Par.trans {s3 s3' : St} (h : Par T s s' s2 s2') (k : Par T s2 s2' s3 s3') : Par T s s' s3 s3' :=
  ⟨k.agr, Nat.le_trans h.le k.le, fun t ht => (k.out t ht).trans (h.out t ht), fun t ht => (k.out' t ht).trans (h.out' t ht), k.cl, fun t => by
    rcases h.mv t with e | ⟨c, cs, hle, e⟩ | ⟨vs, vs', e1, e2, e3⟩
    · rcases k.mv t with e' | ⟨c, cs, hle, e'⟩ | ⟨vs, vs', e1, e2, e3⟩
      · exact .inl (e'.trans e)
      · exact .inr (.inl ⟨c, cs, Nat.le_trans h.le hle, by rw [e', e]⟩)
      · exact .inr (.inr ⟨vs, vs', e ▸ e1, e2, e3⟩)
    · rcases k.mv t with e' | ⟨c', cs', hle', e'⟩ | ⟨vs, vs', e1, e2, e3⟩
      · exact .inr (.inl ⟨c, cs, hle, e'.trans e⟩)
      · exact .inr (.inl ⟨c', cs', Nat.le_trans h.le hle', by rw [e', e, with_with]⟩)
      · refine .inr (.inr ⟨vs, vs', ?_, e2, e3⟩)
        rw [e] at e1
        revert e1
        cases look s.sl t <;> intro e1 <;> simp [S.withCells] at e1
        rw [e1]
    · rcases k.mv t with e' | ⟨c', cs', hle', e'⟩ | ⟨ws, ws', e1', e2', e3'⟩
      · exact .inr (.inr ⟨vs, vs', e1, e'.trans e2, e3⟩)
      · exact .inr (.inr ⟨vs, vs', e1, by rw [e', e2]; rfl, e3⟩)
      · exact .inr (.inr ⟨vs, ws', e1, e2', e3'⟩)⟩

theorem look_upd1 (r : Nat) (cs : List C) (s : St) (t : Tmp) : look (upd r cs s).sl t = if r = t then (look s.sl r).withCells s.cnt cs else look s.sl t := by
  obtain ⟨c, l⟩ := s
  rfl
theorem cnt_upd (r : Nat) (cs : List C) (s : St) : (upd r cs s).cnt = s.cnt + 1 := by
  obtain ⟨c, l⟩ := s
  rfl
theorem withCells_rootIn (x : S) (c : Nat) (cs : List C) : (x.withCells c cs).rootIn T = x.rootIn T := by cases x <;> rfl
theorem stamp_rootIn (x : S) (c : Nat) : (x.stamp c).rootIn T = x.rootIn T := by cases x <;> rfl

theorem Par.upd (h : Agr T s s') (hc : Cl T s) {r : Nat} (hr : memT r T = true) (cs : List C) : Par T s s' (Sx.upd r cs s) (Sx.upd r cs s') := by
  refine ⟨⟨by rw [cnt_upd, cnt_upd, h.cnt], fun t ht => ?_⟩, by rw [cnt_upd]; omega, fun t ht => ?_, fun t ht => ?_, fun t ht => ?_, fun t => ?_⟩
  · rw [look_upd1, look_upd1, h.cnt, h.at_ r hr, h.at_ t ht]
  · rw [look_upd1, if_neg]
    intro e; subst e; rw [hr] at ht; cases ht
  · rw [look_upd1, if_neg]
    intro e; subst e; rw [hr] at ht; cases ht
  · rw [look_upd1]
    split
    · rw [withCells_rootIn]; exact hc r hr
    · exact hc t ht
  · rw [look_upd1]
    split
    · rename_i e; subst e; exact .inr (.inl ⟨_, _, Nat.le_refl _, rfl⟩)
    · exact .inl rfl

theorem rd_loc (h : Agr T s s') {ty : TypeId} {x : Operand} (hx : opIn T x = true) : rd E ty s' x = rd E ty s x := by
  cases x
  case tmp t => simp only [rd]; rw [h.at_ t hx]
  all_goals rfl

theorem rd_root (hc : Cl T s) {ty : TypeId} {x : Operand} (hx : opIn T x = true) {v : S} (e : rd E ty s x = some v) : v.rootIn T = true := by
  cases x
  case tmp t =>
    have ht : memT t T = true := hx
    have hr := hc t ht
    simp only [rd] at e
    cases hl : look s.sl t <;> rw [hl] at e hr <;> simp only [S.read] at e
    case val g a cs =>
      split at e
      · simp at e; subst e; rfl
      · simp at e; subst e; exact ht
    all_goals first | (simp at e; done) | (simp at e; subst e; first | exact ht | exact hr | rfl)
  case const v =>
    simp only [rd] at e
    split at e
    · obtain ⟨i, _, e⟩ := bnd_eq_some.1 e
      obtain ⟨j, _, e⟩ := bnd_eq_some.1 e
      simp at e; subst e; rfl
    · rcases tst_eq_some.1 e with ⟨_, e⟩ | ⟨_, e⟩
      · simp at e; subst e; rfl
      · cases e
  case func f => simp [rd] at e; subst e; rfl
  case global g => simp [rd] at e

theorem cells_loc (h : Agr T s s') {v : S} (hv : v.rootIn T = true) : cells s' v = cells s v := by
  cases v
  case lnk r k off n a el win => simp only [cells]; rw [h.at_ r hv]
  all_goals rfl
theorem loadS_loc (h : Agr T s s') {i : TI} {v : S} (hv : v.rootIn T = true) : loadS s' i v = loadS s i v := by
  cases v
  case ptr r g off el => simp only [loadS]; rw [h.at_ r hv]
  all_goals rfl
theorem loadS_root {i : TI} {v u : S} (hv : v.rootIn T = true) (e : loadS s i v = some u) : u.rootIn T = true := by
  cases v <;> simp only [loadS] at e
  case ptr r g off el =>
    obtain ⟨cs, _, e⟩ := bnd_eq_some.1 e
    obtain ⟨xs, _, e⟩ := bnd_eq_some.1 e
    rcases tst_eq_some.1 e with ⟨_, e⟩ | ⟨_, e⟩ <;> simp at e <;> subst e
    · rfl
    · exact hv
  case rp cs =>
    obtain ⟨xs, _, e⟩ := bnd_eq_some.1 e
    simp at e; subst e; rfl
  all_goals cases e
theorem fieldS_loc (h : Agr T s s') {d : Nat} {v : S} (hv : v.rootIn T = true) : fieldS s' d v = fieldS s d v := by
  cases v
  case ptr r g off el => simp only [fieldS]; rw [h.at_ r hv]
  all_goals rfl
theorem fieldS_root {d : Nat} {v u : S} (hv : v.rootIn T = true) (e : fieldS s d v = some u) : u.rootIn T = true := by
  cases v <;> simp only [fieldS] at e
  case ptr r g off el =>
    obtain ⟨cs, _, e⟩ := bnd_eq_some.1 e
    rcases el with _ | ⟨i, o⟩ <;> simp at e <;> subst e <;> exact hv
  case rp cs =>
    obtain ⟨xs, _, e⟩ := bnd_eq_some.1 e
    simp at e; subst e; rfl
  all_goals cases e
theorem indexS_loc (h : Agr T s s') {i sz : Nat} {v : S} (hv : v.rootIn T = true) : indexS s' i sz v = indexS s i sz v := by
  cases v
  case lnk r k off n a el win =>
    cases el
    case none => simp only [indexS]; rw [cells_loc h (v := .lnk r k off n a none win) hv]
    case some => rfl
  all_goals rfl
theorem indexS_root {i sz : Nat} {v u : S} (hv : v.rootIn T = true) (e : indexS s i sz v = some u) : u.rootIn T = true := by
  cases v <;> simp only [indexS] at e
  case lnk r k off n a el win =>
    cases el <;> simp only at e
    case none =>
      obtain ⟨z, _, e⟩ := bnd_eq_some.1 e
      obtain ⟨c, _, e⟩ := bnd_eq_some.1 e
      obtain ⟨q, _, e⟩ := bnd_eq_some.1 e
      rcases tst_eq_some.1 e with ⟨_, e⟩ | ⟨_, e⟩
      · cases e
      rcases tst_eq_some.1 e with ⟨_, e⟩ | ⟨_, e⟩
      · rcases tst_eq_some.1 e with ⟨_, e⟩ | ⟨_, e⟩
        · simp at e; subst e; exact hv
        · cases e
      · cases e
    case some => cases e
  case val g a cs =>
    obtain ⟨z, _, e⟩ := bnd_eq_some.1 e
    obtain ⟨c, _, e⟩ := bnd_eq_some.1 e
    rcases tst_eq_some.1 e with ⟨_, e⟩ | ⟨_, e⟩
    · obtain ⟨q, _, e⟩ := bnd_eq_some.1 e
      rcases tst_eq_some.1 e with ⟨_, e⟩ | ⟨_, e⟩
      · simp at e; subst e; rfl
      · cases e
    · cases e
  all_goals cases e

def oIn (T : List Tmp) : Option Operand → Bool
  | none => true
  | some x => opIn T x

theorem boundOf_loc (h : Agr T s s') {d : Nat} {x : Option Operand} (hx : oIn T x = true) : boundOf E s' d x = boundOf E s d x := by
  cases x
  case none => rfl
  case some y => simp only [boundOf]; rw [rd_loc h hx]
theorem sliceS_loc (h : Agr T s s') {str : Bool} {sz : Nat} {lo hi : Option Operand} (h1 : oIn T lo = true) (h2 : oIn T hi = true) {v : S} (hv : v.rootIn T = true) : sliceS E s' str sz lo hi v = sliceS E s str sz lo hi v := by
  cases v
  case lnk r k off n a el win => simp only [sliceS]; rw [cells_loc h hv]; simp only [boundOf_loc h h1, boundOf_loc h h2]
  case val g a cs => simp only [sliceS, boundOf_loc h h1, boundOf_loc h h2]
  all_goals rfl
theorem sliceS_root {str : Bool} {sz : Nat} {lo hi : Option Operand} {v u : S} (hv : v.rootIn T = true) (e : sliceS E s str sz lo hi v = some u) : u.rootIn T = true := by
  cases v <;> simp only [sliceS] at e
  case lnk r k off n a el win =>
    obtain ⟨z, _, e⟩ := bnd_eq_some.1 e
    obtain ⟨c, _, e⟩ := bnd_eq_some.1 e
    obtain ⟨q, _, e⟩ := bnd_eq_some.1 e
    obtain ⟨l, _, e⟩ := bnd_eq_some.1 e
    obtain ⟨m, _, e⟩ := bnd_eq_some.1 e
    simp only [tst_eq_some] at e
    rcases e with ⟨_, (⟨_, (⟨_, (⟨_, e⟩ | ⟨_, (⟨_, e⟩ | ⟨_, e⟩)⟩)⟩ | ⟨_, e⟩)⟩ | ⟨_, e⟩)⟩ | ⟨_, e⟩ <;> simp at e
    subst e; exact hv
  case val g a cs =>
    obtain ⟨c, _, e⟩ := bnd_eq_some.1 e
    obtain ⟨n, _, e⟩ := bnd_eq_some.1 e
    obtain ⟨l, _, e⟩ := bnd_eq_some.1 e
    obtain ⟨m, _, e⟩ := bnd_eq_some.1 e
    simp only [tst_eq_some] at e
    rcases e with ⟨_, (⟨_, e⟩ | ⟨_, e⟩)⟩ | ⟨_, e⟩
    · split at e
      · have e := (tst_none e).2
        simp at e
        subst e; rfl
      · cases e
      · rcases tst_eq_some.1 e with ⟨_, e⟩ | ⟨_, e⟩
        · cases e
        · have e := (tst_none (tst_none e).2).2
          simp at e
          subst e; rfl
      · cases e
    · simp at e
    · simp at e
  all_goals cases e
theorem convS_loc (h : Agr T s s') {i j : TI} {ie je : Option TI} {v : S} (hv : v.rootIn T = true) : convS s' i j ie je v = convS s i j ie je v := by
  simp only [convS, cells_loc h hv]

theorem take_loc (h : Agr T s s') (hc : Cl T s) {v : S} (hv : v.rootIn T = true) {z : Bool × List C} (e : take s v = some (s2, z)) : ∃ s2', take s' v = some (s2', z) ∧ Par T s s' s2 s2' := by
  cases v <;> simp only [take] at e ⊢
  case val g a cs => simp at e; obtain ⟨rfl, rfl⟩ := e; exact ⟨s', rfl, Par.refl h hc⟩
  case lnk r k off n a el win =>
    rw [h.at_ r hv]
    obtain ⟨cs, e1, e⟩ := bnd_eq_some.1 e
    obtain ⟨xs, e2, e⟩ := bnd_eq_some.1 e
    rcases tst_eq_some.1 e with ⟨e3, e⟩ | ⟨_, e⟩
    · obtain ⟨ys, e4, e⟩ := bnd_eq_some.1 e
      obtain ⟨cs', e5, e⟩ := bnd_eq_some.1 e
      simp at e
      obtain ⟨rfl, rfl⟩ := e
      exact ⟨_, bnd_eq_some.2 ⟨_, e1, bnd_eq_some.2 ⟨_, e2, tst_eq_some.2 (.inl ⟨e3, bnd_eq_some.2 ⟨_, e4, bnd_eq_some.2 ⟨_, e5, rfl⟩⟩⟩)⟩⟩, Par.upd h hc hv _⟩
    · cases e
  all_goals cases e

theorem assignS_loc (h : Agr T s s') (hc : Cl T s) {v : S} (hv : v.rootIn T = true) {z : S} (e : assignS s v = some (s2, z)) : ∃ s2', assignS s' v = some (s2', z) ∧ Par T s s' s2 s2' ∧ z.rootIn T = true := by
  cases v <;> simp only [assignS] at e ⊢
  case lnk r k off n a el win =>
    obtain ⟨q, e1, e⟩ := bnd_eq_some.1 e
    simp at e
    obtain ⟨rfl, rfl⟩ := e
    obtain ⟨s3, e2, hp⟩ := take_loc h hc hv e1
    exact ⟨s3, bnd_eq_some.2 ⟨_, e2, rfl⟩, hp, rfl⟩
  all_goals first | (cases e; done) | (simp at e; obtain ⟨rfl, rfl⟩ := e; exact ⟨s', rfl, Par.refl h hc, hv⟩)
theorem nilS_loc (h : Agr T s s') {v : S} (hv : v.rootIn T = true) {z : S} (e : nilS s v = some (s2, z)) : nilS s' v = some (s', z) ∧ s2 = s ∧ z.rootIn T = true := by
  cases v <;> simp only [nilS] at e ⊢
  case ptr r g off el =>
    rw [h.at_ r hv]
    obtain ⟨cs, e1, e⟩ := bnd_eq_some.1 e
    simp at e
    obtain ⟨rfl, rfl⟩ := e
    exact ⟨bnd_eq_some.2 ⟨_, e1, rfl⟩, rfl, hv⟩
  all_goals first | (cases e; done) | (simp at e; obtain ⟨rfl, rfl⟩ := e; exact ⟨rfl, rfl, hv⟩)

theorem storeS_loc (h : Agr T s s') (hc : Cl T s) {i : TI} {v a : S} (hv : v.rootIn T = true) (ha : a.rootIn T = true) {z : S} (e : storeS s i v a = some (s2, z)) : ∃ s2', storeS s' i v a = some (s2', z) ∧ Par T s s' s2 s2' ∧ z.rootIn T = true := by
  cases a <;> simp only [storeS] at e ⊢
  case ptr r g off el =>
    rw [h.at_ r ha]
    obtain ⟨cs0, e0, e⟩ := bnd_eq_some.1 e
    obtain ⟨q, e1, e⟩ := bnd_eq_some.1 e
    obtain ⟨cs, e2, e⟩ := bnd_eq_some.1 e
    obtain ⟨old, e3, e⟩ := bnd_eq_some.1 e
    rcases tst_eq_some.1 e with ⟨e4, e⟩ | ⟨_, e⟩
    · rcases tst_eq_some.1 e with ⟨e5, e⟩ | ⟨_, e⟩
      · obtain ⟨cs', e6, e⟩ := bnd_eq_some.1 e
        simp at e
        obtain ⟨rfl, rfl⟩ := e
        obtain ⟨s3, e7, hp⟩ := take_loc h hc hv e1
        refine ⟨Sx.upd r cs' s3, bnd_eq_some.2 ⟨_, e0, bnd_eq_some.2 ⟨_, e7, ?_⟩⟩, hp.trans (Par.upd hp.agr hp.cl ha _), rfl⟩
        simp only
        rw [hp.agr.at_ r ha]
        exact bnd_eq_some.2 ⟨_, e2, bnd_eq_some.2 ⟨_, e3, tst_eq_some.2 (.inl ⟨e4, tst_eq_some.2 (.inl ⟨e5, bnd_eq_some.2 ⟨_, e6, rfl⟩⟩)⟩)⟩⟩
      · cases e
    · cases e
  all_goals cases e

theorem takeAll_loc : ∀ {ps : List (Nat × Operand)} {s s' s2 : St} {z : List (Nat × List C)}, Agr T s s' → Cl T s → (∀ p ∈ ps, opIn T p.2 = true) → takeAll E ps s = some (s2, z) → ∃ s2', takeAll E ps s' = some (s2', z) ∧ Par T s s' s2 s2'
  | [], s, s', s2, z, h, hc, _, e => by
    simp [takeAll] at e
    obtain ⟨rfl, rfl⟩ := e
    exact ⟨s', rfl, Par.refl h hc⟩
  | (i, x) :: r, s, s', s2, z, h, hc, hp, e => by
    simp only [takeAll] at e ⊢
    have hx : opIn T x = true := hp (i, x) (by simp)
    obtain ⟨v, e1, e⟩ := bnd_eq_some.1 e
    obtain ⟨q, e2, e⟩ := bnd_eq_some.1 e
    obtain ⟨y, e3, e⟩ := bnd_eq_some.1 e
    simp at e
    obtain ⟨rfl, rfl⟩ := e
    obtain ⟨s3, e4, p1⟩ := take_loc (z := q.2) h hc (rd_root hc hx e1) (by simpa using e2)
    obtain ⟨s4, e5, p2⟩ := takeAll_loc (z := y.2) p1.agr p1.cl (fun p hpm => hp p (List.mem_cons_of_mem _ hpm)) (by simpa using e3)
    exact ⟨s4, bnd_eq_some.2 ⟨v, by rw [rd_loc h hx]; exact e1, bnd_eq_some.2 ⟨_, e4, bnd_eq_some.2 ⟨_, e5, rfl⟩⟩⟩, p1.trans p2⟩

def backIn (T : List Tmp) : Back → Bool
  | .at r _ _ _ _ _ => memT r T
  | .drop => true

theorem argOf_loc (h : Agr T s s') (hc : Cl T s) {ty : TypeId} {m : Mode} {v : S} (hv : v.rootIn T = true) {z : S × List Back} (e : argOf E ty m s v = some (s2, z)) :
    ∃ s2', argOf E ty m s' v = some (s2', z) ∧ Par T s s' s2 s2' ∧ z.1.rootIn T = true ∧ ∀ b ∈ z.2, backIn T b = true := by
  cases v <;> simp only [argOf] at e ⊢
  case val g a cs =>
    simp at e
    obtain ⟨rfl, rfl⟩ := e
    refine ⟨s', rfl, Par.refl h hc, rfl, fun b hb => ?_⟩
    simp only at hb
    split at hb
    · simp at hb; subst hb; rfl
    · cases hb
  case rp cs =>
    rcases tst_eq_some.1 e with ⟨_, e⟩ | ⟨e1, e⟩
    · cases e
    · simp at e
      obtain ⟨rfl, rfl⟩ := e
      exact ⟨s', tst_eq_some.2 (.inr ⟨e1, rfl⟩), Par.refl h hc, rfl, fun b hb => by cases hb⟩
  case ptr q g off el =>
    rw [h.at_ q hv]
    obtain ⟨i, e1, e⟩ := bnd_eq_some.1 e
    obtain ⟨u, e2, e⟩ := bnd_eq_some.1 e
    obtain ⟨j, e3, e⟩ := bnd_eq_some.1 e
    obtain ⟨cs, e4, e⟩ := bnd_eq_some.1 e
    obtain ⟨xs, e5, e⟩ := bnd_eq_some.1 e
    obtain ⟨cs', e6, e⟩ := bnd_eq_some.1 e
    simp at e
    obtain ⟨rfl, rfl⟩ := e
    refine ⟨Sx.upd q cs' s', bnd_eq_some.2 ⟨_, e1, bnd_eq_some.2 ⟨_, e2, bnd_eq_some.2 ⟨_, e3, bnd_eq_some.2 ⟨_, e4, bnd_eq_some.2 ⟨_, e5, bnd_eq_some.2 ⟨_, e6, by rw [h.cnt]⟩⟩⟩⟩⟩⟩, Par.upd h hc hv _, rfl, fun b hb => ?_⟩
    simp at hb; subst hb; exact hv
  case lnk q k off n a el win =>
    cases m <;> simp only at e ⊢
    case shr =>
      simp at e
      obtain ⟨rfl, rfl⟩ := e
      exact ⟨s', rfl, Par.refl h hc, hv, fun b hb => by cases hb⟩
    case mv =>
      obtain ⟨y, e1, e⟩ := bnd_eq_some.1 e
      simp at e
      obtain ⟨rfl, rfl⟩ := e
      obtain ⟨s3, e2, hp⟩ := take_loc (z := y.2) h hc hv (by simpa using e1)
      exact ⟨s3, bnd_eq_some.2 ⟨_, e2, rfl⟩, hp, rfl, fun b hb => by cases hb⟩
    case io =>
      cases win <;> simp only at e ⊢
      case none =>
        obtain ⟨y, e1, e⟩ := bnd_eq_some.1 e
        simp at e
        obtain ⟨rfl, rfl⟩ := e
        obtain ⟨s3, e2, hp⟩ := take_loc (z := y.2) h hc hv (by simpa using e1)
        refine ⟨s3, bnd_eq_some.2 ⟨_, e2, by rw [h.cnt]⟩, hp, rfl, fun b hb => ?_⟩
        simp at hb; subst hb; exact hv
      case some => cases e
  all_goals cases e

theorem argsOf_loc : ∀ {xs : List Operand} {tys : List TypeId} {ms : List Mode} {s s' : St} {A : Args}, Agr T s s' → Cl T s → (∀ x ∈ xs, opIn T x = true) → argsOf E xs tys ms s = some A →
    ∃ s2', argsOf E xs tys ms s' = some ⟨s2', A.xs, A.backs⟩ ∧ Par T s s' A.s s2' ∧ (∀ x ∈ A.xs, x.rootIn T = true) ∧ ∀ b ∈ A.backs, backIn T b = true
  | [], [], ms, s, s', A, h, hc, _, e => by
    simp [argsOf] at e
    subst e
    exact ⟨s', rfl, Par.refl h hc, by simp, by simp⟩
  | x :: r, ty :: tys, ms, s, s', A, h, hc, hx, e => by
    simp only [argsOf] at e ⊢
    have h0 : opIn T x = true := hx x (by simp)
    obtain ⟨v, e1, e⟩ := bnd_eq_some.1 e
    obtain ⟨q, e2, e⟩ := bnd_eq_some.1 e
    obtain ⟨B, e3, e⟩ := bnd_eq_some.1 e
    simp at e
    subst e
    obtain ⟨s3, e4, p1, r1, b1⟩ := argOf_loc (z := q.2) h hc (rd_root hc h0 e1) (by simpa using e2)
    obtain ⟨s4, e5, p2, r2, b2⟩ := argsOf_loc p1.agr p1.cl (fun y hy => hx y (List.mem_cons_of_mem _ hy)) e3
    refine ⟨s4, bnd_eq_some.2 ⟨v, by rw [rd_loc h h0]; exact e1, bnd_eq_some.2 ⟨_, e4, bnd_eq_some.2 ⟨_, e5, rfl⟩⟩⟩, p1.trans p2, fun y hy => ?_, fun b hb => ?_⟩
    · rcases List.mem_cons.1 hy with rfl | hy
      · exact r1
      · exact r2 y hy
    · rcases List.mem_append.1 hb with hb | hb
      · exact b1 b hb
      · exact b2 b hb
  | [], _ :: _, _, _, _, _, _, _, _, e => by simp [argsOf] at e
  | _ :: _, [], _, _, _, _, _, _, _, e => by simp [argsOf] at e

theorem borrowAll_loc (h : Agr T s s') : ∀ {xs : List S}, (∀ x ∈ xs, x.rootIn T = true) → borrowAll s' xs = borrowAll s xs
  | [], _ => rfl
  | x :: r, hx => by
    have ih := borrowAll_loc h (xs := r) (fun y hy => hx y (List.mem_cons_of_mem _ hy))
    have h0 := hx x (by simp)
    simp only [borrowAll, ih]
    cases x <;> simp only
    case lnk k g off n a el win => rw [cells_loc h h0]
theorem borrowAll_in : ∀ {xs : List S} {B : List S × List (Nat × Nat × El × Nat)}, (∀ x ∈ xs, x.rootIn T = true) → borrowAll s xs = some B → ∀ b ∈ B.2, memT b.1 T = true
  | [], B, _, e => by
    simp [borrowAll] at e
    subst e
    intro b hb; cases hb
  | x :: r, B, hx, e => by
    simp only [borrowAll] at e
    obtain ⟨q, e1, e⟩ := bnd_eq_some.1 e
    have ih := borrowAll_in (fun y hy => hx y (List.mem_cons_of_mem _ hy)) e1
    have h0 := hx x (by simp)
    cases x <;> simp only at e
    case lnk k g off n a el win =>
      obtain ⟨z, _, e⟩ := bnd_eq_some.1 e
      rcases tst_eq_some.1 e with ⟨_, e⟩ | ⟨_, e⟩
      · simp at e
        subst e
        intro b hb
        rcases List.mem_cons.1 hb with rfl | hb
        · exact h0
        · exact ih b hb
      · cases e
    all_goals first | (cases e; done) | (simp at e; subst e; exact ih)

theorem freezeAll_loc : ∀ {bs : List (Nat × Nat × El × Nat)} {s s' s2 : St}, Agr T s s' → Cl T s → (∀ b ∈ bs, memT b.1 T = true) → freezeAll bs s = some s2 → ∃ s2', freezeAll bs s' = some s2' ∧ Par T s s' s2 s2'
  | [], s, s', s2, h, hc, _, e => by
    simp [freezeAll] at e
    subst e
    exact ⟨s', rfl, Par.refl h hc⟩
  | (r, off, el, n) :: l, s, s', s2, h, hc, hb, e => by
    have hr : memT r T = true := hb (r, off, el, n) (by simp)
    simp only [freezeAll] at e ⊢
    rw [h.at_ r hr]
    obtain ⟨cs, e1, e⟩ := bnd_eq_some.1 e
    obtain ⟨xs, e2, e⟩ := bnd_eq_some.1 e
    rcases tst_eq_some.1 e with ⟨e3, e⟩ | ⟨_, e⟩
    · obtain ⟨cs', e4, e⟩ := bnd_eq_some.1 e
      have p1 := Par.upd h hc hr cs'
      obtain ⟨s3, e5, p2⟩ := freezeAll_loc p1.agr p1.cl (fun b hm => hb b (List.mem_cons_of_mem _ hm)) e
      exact ⟨s3, bnd_eq_some.2 ⟨_, e1, bnd_eq_some.2 ⟨_, e2, tst_eq_some.2 (.inl ⟨e3, bnd_eq_some.2 ⟨_, e4, e5⟩⟩)⟩⟩, p1.trans p2⟩
    · cases e

theorem putBacks_loc : ∀ {bs : List Back} {os : List (List C)} {s s' s2 : St}, Agr T s s' → Cl T s → (∀ b ∈ bs, backIn T b = true) → putBacks bs os s = some s2 → ∃ s2', putBacks bs os s' = some s2' ∧ Par T s s' s2 s2'
  | [], [], s, s', s2, h, hc, _, e => by
    simp [putBacks] at e
    subst e
    exact ⟨s', rfl, Par.refl h hc⟩
  | .drop :: bs, _ :: os, s, s', s2, h, hc, hb, e => by
    simp only [putBacks] at e ⊢
    exact putBacks_loc h hc (fun b hm => hb b (List.mem_cons_of_mem _ hm)) e
  | .at r off el n w k :: bs, o :: os, s, s', s2, h, hc, hb, e => by
    have hr : memT r T = true := hb (.at r off el n w k) (by simp)
    simp only [putBacks] at e ⊢
    rw [h.at_ r hr]
    obtain ⟨cs, e1, e⟩ := bnd_eq_some.1 e
    obtain ⟨now, e2, e⟩ := bnd_eq_some.1 e
    obtain ⟨xs, e3, e⟩ := bnd_eq_some.1 e
    obtain ⟨cs', e4, e⟩ := bnd_eq_some.1 e
    have p1 := Par.upd h hc hr cs'
    obtain ⟨s3, e5, p2⟩ := putBacks_loc p1.agr p1.cl (fun b hm => hb b (List.mem_cons_of_mem _ hm)) e
    exact ⟨s3, bnd_eq_some.2 ⟨_, e1, bnd_eq_some.2 ⟨_, e2, bnd_eq_some.2 ⟨_, e3, bnd_eq_some.2 ⟨_, e4, e5⟩⟩⟩⟩, p1.trans p2⟩
  | [], _ :: _, _, _, _, _, _, _, e => by simp [putBacks] at e
  | .drop :: _, [], _, _, _, _, _, _, e => by simp [putBacks] at e
  | .at _ _ _ _ _ _ :: _, [], _, _, _, _, _, _, e => by simp [putBacks] at e

theorem freshB_loc (h : Agr T s s') : ∀ {bs : List Back}, (∀ b ∈ bs, backIn T b = true) → freshB s' bs = freshB s bs
  | [], _ => rfl
  | .drop :: bs, hb => by
    simp only [freshB]
    exact freshB_loc h (fun b hm => hb b (List.mem_cons_of_mem _ hm))
  | .at r off el n w k :: bs, hb => by
    have hr : memT r T = true := hb (.at r off el n w k) (by simp)
    simp only [freshB]
    rw [h.at_ r hr, freshB_loc h (fun b hm => hb b (List.mem_cons_of_mem _ hm))]

theorem ofVals_root (vs : List (Bool × List C)) : (S.ofVals vs).rootIn T = true := by
  rcases vs with _ | ⟨v, _ | _⟩ <;> rfl

theorem callOf_loc (h : Agr T s s') (hc : Cl T s) {call : Sem1} {f : FuncId} {xs : List Operand} {tys : List TypeId} (hx : ∀ x ∈ xs, opIn T x = true) {z : S} (e : callOf E call f xs tys s = some (s2, z)) :
    ∃ s2', callOf E call f xs tys s' = some (s2', z) ∧ Par T s s' s2 s2' ∧ z.rootIn T = true := by
  unfold callOf at e ⊢
  obtain ⟨A, e1, e⟩ := bnd_eq_some.1 e
  obtain ⟨s3, f1, p1, r1, b1⟩ := argsOf_loc h hc hx e1
  rcases tst_eq_some.1 e with ⟨e2, e⟩ | ⟨_, e⟩
  · obtain ⟨B, e3, e⟩ := bnd_eq_some.1 e
    rcases tst_eq_some.1 e with ⟨e4, e⟩ | ⟨_, e⟩
    · obtain ⟨res, e5, e⟩ := bnd_eq_some.1 e
      obtain ⟨s4, e6, e⟩ := bnd_eq_some.1 e
      obtain ⟨s5, e7, e⟩ := bnd_eq_some.1 e
      simp at e
      obtain ⟨rfl, rfl⟩ := e
      have hB := borrowAll_in r1 e3
      have k : ∃ s4', tst (B.2.isEmpty || res.mine) (some s3) (tst (distinctR B.2) (freezeAll B.2 s3) none) = some s4' ∧ Par T A.s s3 s4 s4' := by
        rcases tst_eq_some.1 e6 with ⟨a1, a2⟩ | ⟨a1, a2⟩
        · simp at a2
          subst a2
          exact ⟨s3, tst_eq_some.2 (.inl ⟨a1, rfl⟩), Par.refl p1.agr p1.cl⟩
        · rcases tst_eq_some.1 a2 with ⟨a3, a4⟩ | ⟨_, a4⟩
          · obtain ⟨s6, a5, a6⟩ := freezeAll_loc p1.agr p1.cl hB a4
            exact ⟨s6, tst_eq_some.2 (.inr ⟨a1, tst_eq_some.2 (.inl ⟨a3, a5⟩)⟩), a6⟩
          · cases a4
      obtain ⟨s4', k1, k2⟩ := k
      obtain ⟨s5', k3, k4⟩ := putBacks_loc k2.agr k2.cl b1 e7
      refine ⟨s5', bnd_eq_some.2 ⟨_, f1, tst_eq_some.2 (.inl ⟨?_, bnd_eq_some.2 ⟨B, ?_, tst_eq_some.2 (.inl ⟨e4, bnd_eq_some.2 ⟨res, e5, bnd_eq_some.2 ⟨s4', k1, bnd_eq_some.2 ⟨s5', k3, rfl⟩⟩⟩⟩)⟩⟩)⟩, (p1.trans k2).trans k4, ofVals_root _⟩
      · rw [freshB_loc p1.agr b1]; exact e2
      · simp only; rw [borrowAll_loc p1.agr r1]; exact e3
    · cases e
  · cases e

theorem appendS_loc (h : Agr T s s') (hc : Cl T s) {sz : Nat} {vx vy : S} (hx : vx.rootIn T = true) (hy : vy.rootIn T = true) {z : S} (e : appendS s sz vx vy = some (s2, z)) :
    ∃ s2', appendS s' sz vx vy = some (s2', z) ∧ Par T s s' s2 s2' ∧ z.rootIn T = true := by
  unfold appendS at e ⊢
  rw [cells_loc h hy]
  obtain ⟨a, e1, e⟩ := bnd_eq_some.1 e
  obtain ⟨cy, e2, e⟩ := bnd_eq_some.1 e
  obtain ⟨y, e3, e⟩ := bnd_eq_some.1 e
  obtain ⟨q, e4, e⟩ := bnd_eq_some.1 e
  obtain ⟨cx, e5, e⟩ := bnd_eq_some.1 e
  obtain ⟨x, e6, e⟩ := bnd_eq_some.1 e
  obtain ⟨s3, f1, p1⟩ := take_loc (z := q.2) h hc hx (by simpa using e4)
  obtain ⟨t1, e⟩ := tst_none e
  obtain ⟨t2, e⟩ := tst_none e
  obtain ⟨t3, e⟩ := tst_none e
  obtain ⟨t4, e⟩ := tst_none e
  rcases tst_eq_some.1 e with ⟨t5, e⟩ | ⟨t5, e⟩
  · simp at e
    obtain ⟨rfl, rfl⟩ := e
    exact ⟨s3, bnd_eq_some.2 ⟨a, e1, bnd_eq_some.2 ⟨cy, e2, bnd_eq_some.2 ⟨y, e3, bnd_eq_some.2 ⟨_, f1, bnd_eq_some.2 ⟨cx, e5, bnd_eq_some.2 ⟨x, e6, tst_eq_some.2 (.inl ⟨t1, tst_eq_some.2 (.inl ⟨t2, tst_eq_some.2 (.inl ⟨t3, tst_eq_some.2 (.inl ⟨t4, tst_eq_some.2 (.inl ⟨t5, rfl⟩)⟩)⟩)⟩)⟩)⟩⟩⟩⟩⟩⟩, p1, rfl⟩
  · obtain ⟨w, g1, e⟩ := bnd_eq_some.1 e
    obtain ⟨cw, g2, e⟩ := bnd_eq_some.1 e
    obtain ⟨y', g3, e⟩ := bnd_eq_some.1 e
    obtain ⟨t6, e⟩ := tst_none e
    obtain ⟨t7, e⟩ := tst_none e
    simp at e
    obtain ⟨rfl, rfl⟩ := e
    obtain ⟨s4, f2, p2⟩ := take_loc (z := w.2) p1.agr p1.cl hy (by simpa using g1)
    exact ⟨s4, bnd_eq_some.2 ⟨a, e1, bnd_eq_some.2 ⟨cy, e2, bnd_eq_some.2 ⟨y, e3, bnd_eq_some.2 ⟨_, f1, bnd_eq_some.2 ⟨cx, e5, bnd_eq_some.2 ⟨x, e6, tst_eq_some.2 (.inl ⟨t1, tst_eq_some.2 (.inl ⟨t2, tst_eq_some.2 (.inl ⟨t3, tst_eq_some.2 (.inl ⟨t4, tst_eq_some.2 (.inr ⟨t5, bnd_eq_some.2 ⟨_, f2, bnd_eq_some.2 ⟨cw, g2, bnd_eq_some.2 ⟨y', g3, tst_eq_some.2 (.inl ⟨t6, tst_eq_some.2 (.inl ⟨t7, rfl⟩)⟩)⟩⟩⟩⟩)⟩)⟩)⟩)⟩)⟩⟩⟩⟩⟩⟩, p1.trans p2, rfl⟩
end
end Go.Sx

/- Locality of each operation. -/
namespace Go.Sx

def quietB : Builtin → Bool
  | .append => false
  | _ => true

/-- Operations that leave the frame as it is. -/
def quietOp : Op → Bool
  | .move _ => true
  | .pick .. => true
  | .alloc _ => true
  | .load .. => true
  | .nilCheck _ => true
  | .binOp .. => true
  | .unOp .. => true
  | .fieldAddr .. => true
  | .indexAddr .. => true
  | .index .. => true
  | .makeSlice .. => true
  | .slice .. => true
  | .convert .. => true
  | .call c => match c.callee with
    | .builtin b => quietB b
    | _ => false
  | _ => false

section
variable {T : List Tmp} {E : Env} {s s' s2 s2' : St}

theorem binS_root {t : TypeId} {op : BinOp} {a b u : S} (e : binS E t op a b = some u) : u.rootIn T = true := by
  unfold binS at e
  split at e
  · obtain ⟨_, _, e⟩ := bnd_eq_some.1 e
    obtain ⟨_, _, e⟩ := bnd_eq_some.1 e
    obtain ⟨_, _, e⟩ := bnd_eq_some.1 e
    obtain ⟨_, _, e⟩ := bnd_eq_some.1 e
    obtain ⟨_, _, e⟩ := bnd_eq_some.1 e
    have e := (tst_none e).2
    simp at e; subst e; rfl
  · have e := (tst_none e).2
    obtain ⟨_, _, e⟩ := bnd_eq_some.1 e
    obtain ⟨_, _, e⟩ := bnd_eq_some.1 e
    obtain ⟨_, _, e⟩ := bnd_eq_some.1 e
    split at e
    · simp at e; subst e; rfl
    · simp at e; subst e; rfl
    · cases e
  · cases e

theorem convC_root {i j : TI} {ie je : Option TI} {c : C} {u : S} (e : convC i j ie je c = some u) : u.rootIn T = true := by
  unfold convC at e
  split at e
  · obtain ⟨_, _, e⟩ := bnd_eq_some.1 e
    obtain ⟨_, _, e⟩ := bnd_eq_some.1 e
    simp at e; subst e; rfl
  · have e := (tst_none e).2
    obtain ⟨_, _, e⟩ := bnd_eq_some.1 e
    obtain ⟨_, _, e⟩ := bnd_eq_some.1 e
    have e := (tst_none e).2
    simp at e; subst e; rfl
  · cases e
  · obtain ⟨_, _, e⟩ := bnd_eq_some.1 e
    obtain ⟨_, _, e⟩ := bnd_eq_some.1 e
    obtain ⟨_, _, e⟩ := bnd_eq_some.1 e
    have e := (tst_none (tst_none (tst_none e).2).2).2
    obtain ⟨_, _, e⟩ := bnd_eq_some.1 e
    simp at e; subst e; rfl
  · cases e

theorem extractS_loc (h : Agr T s s') (hc : Cl T s) {t : Tmp} {i : Nat} (ht : memT t T = true) {z : S} (e : extractS t i s (look s.sl t) = some (s2, z)) :
    ∃ s2', extractS t i s' (look s'.sl t) = some (s2', z) ∧ Par T s s' s2 s2' ∧ z.rootIn T = true := by
  rw [h.at_ t ht]
  have hcnt := h.cnt
  have hat := h.at_
  obtain ⟨c, l⟩ := s
  obtain ⟨c', l'⟩ := s'
  simp only at hcnt hat
  subst hcnt
  generalize hx : look l t = x at e ⊢
  cases x <;> simp only [extractS] at e ⊢
  case tup vs =>
    obtain ⟨v, e1, e⟩ := bnd_eq_some.1 e
    rcases tst_eq_some.1 e with ⟨e2, e⟩ | ⟨e2, e⟩ <;> simp at e <;> obtain ⟨rfl, rfl⟩ := e
    · exact ⟨_, bnd_eq_some.2 ⟨v, e1, tst_eq_some.2 (.inl ⟨e2, rfl⟩)⟩, Par.refl h hc, rfl⟩
    · refine ⟨_, bnd_eq_some.2 ⟨v, e1, tst_eq_some.2 (.inr ⟨e2, rfl⟩)⟩, ⟨⟨rfl, fun u hu => ?_⟩, Nat.le_succ _, fun u hu => ?_, fun u hu => ?_, fun u hu => ?_, fun u => ?_⟩, rfl⟩
      · simp only [look]; rw [hat u hu]
      · simp only [look]; rw [if_neg]; intro e; subst e; rw [ht] at hu; cases hu
      · simp only [look]; rw [if_neg]; intro e; subst e; rw [ht] at hu; cases hu
      · simp only [look]; split
        · rfl
        · exact hc u hu
      · simp only [look]; split
        · rename_i e; subst e; exact .inr (.inr ⟨_, _, hx, rfl, by cases vs with | nil => simp [atL] at e1 | cons a r => cases i <;> simp [setL]⟩)
        · exact .inl rfl
  all_goals cases e

theorem builtinS_loc (h : Agr T s s') (hc : Cl T s) {b : Builtin} {xs : List Operand} {tys : List TypeId} (hx : ∀ x ∈ xs, opIn T x = true) {z : S} (e : builtinS E s b xs tys = some (s2, z)) :
    ∃ s2', builtinS E s' b xs tys = some (s2', z) ∧ Par T s s' s2 s2' ∧ z.rootIn T = true ∧ (quietB b = true → s2 = s ∧ s2' = s') := by
  unfold builtinS at e ⊢
  split at e
  · rename_i x t
    have hx0 : opIn T x = true := hx x (by simp)
    split at e
    · obtain ⟨i, e1, e⟩ := bnd_eq_some.1 e
      obtain ⟨v, e2, e⟩ := bnd_eq_some.1 e
      obtain ⟨y, e3, e⟩ := bnd_eq_some.1 e
      obtain ⟨c, e4, e⟩ := bnd_eq_some.1 e
      obtain ⟨n, e5, e⟩ := bnd_eq_some.1 e
      obtain ⟨e6, e⟩ := tst_none e
      simp at e
      obtain ⟨rfl, rfl⟩ := e
      refine ⟨s', bnd_eq_some.2 ⟨i, e1, bnd_eq_some.2 ⟨v, by rw [rd_loc h hx0]; exact e2, bnd_eq_some.2 ⟨y, by rw [cells_loc h (rd_root hc hx0 e2)]; exact e3, bnd_eq_some.2 ⟨c, e4, bnd_eq_some.2 ⟨n, e5, tst_eq_some.2 (.inl ⟨e6, rfl⟩)⟩⟩⟩⟩⟩, Par.refl h hc, rfl, fun _ => ⟨rfl, rfl⟩⟩
    · cases e
  · rename_i x y t u
    have hx0 : opIn T x = true := hx x (by simp)
    have hy0 : opIn T y = true := hx y (by simp)
    split at e
    · obtain ⟨e0, e⟩ := tst_none e
      obtain ⟨i, e1, e⟩ := bnd_eq_some.1 e
      obtain ⟨k, e2, e⟩ := bnd_eq_some.1 e
      obtain ⟨j, e3, e⟩ := bnd_eq_some.1 e
      obtain ⟨vx, e4, e⟩ := bnd_eq_some.1 e
      obtain ⟨vy, e5, e⟩ := bnd_eq_some.1 e
      obtain ⟨s3, e6, p, r⟩ := appendS_loc h hc (rd_root hc hx0 e4) (rd_root hc hy0 e5) e
      exact ⟨s3, tst_eq_some.2 (.inl ⟨e0, bnd_eq_some.2 ⟨i, e1, bnd_eq_some.2 ⟨k, e2, bnd_eq_some.2 ⟨j, e3, bnd_eq_some.2 ⟨vx, by rw [rd_loc h hx0]; exact e4, bnd_eq_some.2 ⟨vy, by rw [rd_loc h hy0]; exact e5, e6⟩⟩⟩⟩⟩⟩), p, r, fun hq => by cases hq⟩
    · obtain ⟨vx, e4, e⟩ := bnd_eq_some.1 e
      obtain ⟨a, e1, e⟩ := bnd_eq_some.1 e
      obtain ⟨vy, e5, e⟩ := bnd_eq_some.1 e
      obtain ⟨c, e2, e⟩ := bnd_eq_some.1 e
      obtain ⟨v, e3, e⟩ := bnd_eq_some.1 e
      simp at e
      obtain ⟨rfl, rfl⟩ := e
      exact ⟨s', bnd_eq_some.2 ⟨vx, by rw [rd_loc h hx0]; exact e4, bnd_eq_some.2 ⟨a, e1, bnd_eq_some.2 ⟨vy, by rw [rd_loc h hy0]; exact e5, bnd_eq_some.2 ⟨c, e2, bnd_eq_some.2 ⟨v, e3, rfl⟩⟩⟩⟩⟩, Par.refl h hc, rfl, fun _ => ⟨rfl, rfl⟩⟩
    · obtain ⟨vx, e4, e⟩ := bnd_eq_some.1 e
      obtain ⟨a, e1, e⟩ := bnd_eq_some.1 e
      obtain ⟨vy, e5, e⟩ := bnd_eq_some.1 e
      obtain ⟨c, e2, e⟩ := bnd_eq_some.1 e
      obtain ⟨v, e3, e⟩ := bnd_eq_some.1 e
      simp at e
      obtain ⟨rfl, rfl⟩ := e
      exact ⟨s', bnd_eq_some.2 ⟨vx, by rw [rd_loc h hx0]; exact e4, bnd_eq_some.2 ⟨a, e1, bnd_eq_some.2 ⟨vy, by rw [rd_loc h hy0]; exact e5, bnd_eq_some.2 ⟨c, e2, bnd_eq_some.2 ⟨v, e3, rfl⟩⟩⟩⟩⟩, Par.refl h hc, rfl, fun _ => ⟨rfl, rfl⟩⟩
    · cases e
  · cases e

theorem oIn_of {o : Option Operand} (h : ∀ x, o = some x → opIn T x = true) : oIn T o = true := by
  cases o
  · rfl
  · exact h _ rfl

theorem ev1_loc (h : Agr T s s') (hc : Cl T s) {call : Sem1} {ty : TypeId} {op : Op} (hx : ∀ x ∈ op.operands, opIn T x = true) {z : S} (e : ev1 E call ty s op = some (s2, z)) :
    ∃ s2', ev1 E call ty s' op = some (s2', z) ∧ Par T s s' s2 s2' ∧ z.rootIn T = true ∧ (quietOp op = true → s2 = s ∧ s2' = s') := by
  cases op
  case move x =>
    have hx0 : opIn T x = true := hx x (by simp [Op.operands])
    simp only [ev1] at e ⊢
    obtain ⟨v, e1, e⟩ := bnd_eq_some.1 e
    simp at e
    obtain ⟨rfl, rfl⟩ := e
    exact ⟨s', bnd_eq_some.2 ⟨v, by rw [rd_loc h hx0]; exact e1, rfl⟩, Par.refl h hc, rd_root hc hx0 e1, fun _ => ⟨rfl, rfl⟩⟩
  case assign x =>
    have hx0 : opIn T x = true := hx x (by simp [Op.operands])
    simp only [ev1] at e ⊢
    obtain ⟨v, e1, e⟩ := bnd_eq_some.1 e
    obtain ⟨s3, e2, p, r⟩ := assignS_loc h hc (rd_root hc hx0 e1) e
    exact ⟨s3, bnd_eq_some.2 ⟨v, by rw [rd_loc h hx0]; exact e1, e2⟩, p, r, fun hq => by cases hq⟩
  case pick c a b =>
    have hc0 : opIn T c = true := hx c (by simp [Op.operands])
    have ha0 : opIn T a = true := hx a (by simp [Op.operands])
    have hb0 : opIn T b = true := hx b (by simp [Op.operands])
    simp only [ev1] at e ⊢
    obtain ⟨v, e1, e⟩ := bnd_eq_some.1 e
    obtain ⟨u, e2, e⟩ := bnd_eq_some.1 e
    obtain ⟨t, e3, e⟩ := bnd_eq_some.1 e
    rcases tst_eq_some.1 e with ⟨ht, e⟩ | ⟨ht, e⟩ <;> obtain ⟨w, e4, e⟩ := bnd_eq_some.1 e <;> simp at e <;> obtain ⟨rfl, rfl⟩ := e
    · exact ⟨s', bnd_eq_some.2 ⟨v, by rw [rd_loc h hc0]; exact e1, bnd_eq_some.2 ⟨u, e2, bnd_eq_some.2 ⟨t, e3, tst_eq_some.2 (.inl ⟨ht, bnd_eq_some.2 ⟨w, by rw [rd_loc h ha0]; exact e4, rfl⟩⟩)⟩⟩⟩, Par.refl h hc, rd_root hc ha0 e4, fun _ => ⟨rfl, rfl⟩⟩
    · exact ⟨s', bnd_eq_some.2 ⟨v, by rw [rd_loc h hc0]; exact e1, bnd_eq_some.2 ⟨u, e2, bnd_eq_some.2 ⟨t, e3, tst_eq_some.2 (.inr ⟨ht, bnd_eq_some.2 ⟨w, by rw [rd_loc h hb0]; exact e4, rfl⟩⟩)⟩⟩⟩, Par.refl h hc, rd_root hc hb0 e4, fun _ => ⟨rfl, rfl⟩⟩
  case alloc t =>
    simp only [ev1] at e ⊢
    obtain ⟨i, e1, e⟩ := bnd_eq_some.1 e
    simp at e
    obtain ⟨rfl, rfl⟩ := e
    exact ⟨s', bnd_eq_some.2 ⟨i, e1, rfl⟩, Par.refl h hc, rfl, fun _ => ⟨rfl, rfl⟩⟩
  case box t x =>
    have hx0 : opIn T x = true := hx x (by simp [Op.operands])
    simp only [ev1] at e ⊢
    obtain ⟨v, e1, e⟩ := bnd_eq_some.1 e
    obtain ⟨q, e2, e⟩ := bnd_eq_some.1 e
    simp at e
    obtain ⟨rfl, rfl⟩ := e
    obtain ⟨s3, e3, p⟩ := take_loc (z := q.2) h hc (rd_root hc hx0 e1) (by simpa using e2)
    exact ⟨s3, bnd_eq_some.2 ⟨v, by rw [rd_loc h hx0]; exact e1, bnd_eq_some.2 ⟨_, e3, rfl⟩⟩, p, rfl, fun hq => by cases hq⟩
  case load t x =>
    have hx0 : opIn T x = true := hx x (by simp [Op.operands])
    simp only [ev1] at e ⊢
    obtain ⟨i, e1, e⟩ := bnd_eq_some.1 e
    obtain ⟨v, e2, e⟩ := bnd_eq_some.1 e
    obtain ⟨u, e3, e⟩ := bnd_eq_some.1 e
    simp at e
    obtain ⟨rfl, rfl⟩ := e
    have hr := rd_root hc hx0 e2
    exact ⟨s', bnd_eq_some.2 ⟨i, e1, bnd_eq_some.2 ⟨v, by rw [rd_loc h hx0]; exact e2, bnd_eq_some.2 ⟨u, by rw [loadS_loc h hr]; exact e3, rfl⟩⟩⟩, Par.refl h hc, loadS_root hr e3, fun _ => ⟨rfl, rfl⟩⟩
  case store t x y =>
    have hx0 : opIn T x = true := hx x (by simp [Op.operands])
    have hy0 : opIn T y = true := hx y (by simp [Op.operands])
    simp only [ev1] at e ⊢
    obtain ⟨i, e1, e⟩ := bnd_eq_some.1 e
    obtain ⟨a, e2, e⟩ := bnd_eq_some.1 e
    obtain ⟨v, e3, e⟩ := bnd_eq_some.1 e
    obtain ⟨s3, e4, p, r⟩ := storeS_loc h hc (rd_root hc hy0 e3) (rd_root hc hx0 e2) e
    exact ⟨s3, bnd_eq_some.2 ⟨i, e1, bnd_eq_some.2 ⟨a, by rw [rd_loc h hx0]; exact e2, bnd_eq_some.2 ⟨v, by rw [rd_loc h hy0]; exact e3, e4⟩⟩⟩, p, r, fun hq => by cases hq⟩
  case nilCheck x =>
    have hx0 : opIn T x = true := hx x (by simp [Op.operands])
    simp only [ev1] at e ⊢
    obtain ⟨v, e1, e⟩ := bnd_eq_some.1 e
    obtain ⟨e2, e3, r⟩ := nilS_loc h (rd_root hc hx0 e1) e
    subst e3
    exact ⟨s', bnd_eq_some.2 ⟨v, by rw [rd_loc h hx0]; exact e1, e2⟩, Par.refl h hc, r, fun _ => ⟨rfl, rfl⟩⟩
  case binOp op t x y yt =>
    have hx0 : opIn T x = true := hx x (by simp [Op.operands])
    have hy0 : opIn T y = true := hx y (by simp [Op.operands])
    simp only [ev1] at e ⊢
    obtain ⟨a, e1, e⟩ := bnd_eq_some.1 e
    obtain ⟨b, e2, e⟩ := bnd_eq_some.1 e
    obtain ⟨v, e3, e⟩ := bnd_eq_some.1 e
    simp at e
    obtain ⟨rfl, rfl⟩ := e
    exact ⟨s', bnd_eq_some.2 ⟨a, by rw [rd_loc h hx0]; exact e1, bnd_eq_some.2 ⟨b, by rw [rd_loc h hy0]; exact e2, bnd_eq_some.2 ⟨v, e3, rfl⟩⟩⟩, Par.refl h hc, binS_root e3, fun _ => ⟨rfl, rfl⟩⟩
  case unOp op t x =>
    have hx0 : opIn T x = true := hx x (by simp [Op.operands])
    simp only [ev1] at e ⊢
    obtain ⟨a, e1, e⟩ := bnd_eq_some.1 e
    obtain ⟨u, e2, e⟩ := bnd_eq_some.1 e
    obtain ⟨v, e3, e⟩ := bnd_eq_some.1 e
    simp at e
    obtain ⟨rfl, rfl⟩ := e
    exact ⟨s', bnd_eq_some.2 ⟨a, by rw [rd_loc h hx0]; exact e1, bnd_eq_some.2 ⟨u, e2, bnd_eq_some.2 ⟨v, e3, rfl⟩⟩⟩, Par.refl h hc, rfl, fun _ => ⟨rfl, rfl⟩⟩
  case fieldAddr t x f =>
    have hx0 : opIn T x = true := hx x (by simp [Op.operands])
    simp only [ev1] at e ⊢
    obtain ⟨i, e1, e⟩ := bnd_eq_some.1 e
    obtain ⟨l, e2, e⟩ := bnd_eq_some.1 e
    obtain ⟨d, e3, e⟩ := bnd_eq_some.1 e
    obtain ⟨a, e4, e⟩ := bnd_eq_some.1 e
    obtain ⟨v, e5, e⟩ := bnd_eq_some.1 e
    simp at e
    obtain ⟨rfl, rfl⟩ := e
    have hr := rd_root hc hx0 e4
    exact ⟨s', bnd_eq_some.2 ⟨i, e1, bnd_eq_some.2 ⟨l, e2, bnd_eq_some.2 ⟨d, e3, bnd_eq_some.2 ⟨a, by rw [rd_loc h hx0]; exact e4, bnd_eq_some.2 ⟨v, by rw [fieldS_loc h hr]; exact e5, rfl⟩⟩⟩⟩⟩, Par.refl h hc, fieldS_root hr e5, fun _ => ⟨rfl, rfl⟩⟩
  case indexAddr t x ix =>
    have hx0 : opIn T x = true := hx x (by simp [Op.operands])
    have hi0 : opIn T ix = true := hx ix (by simp [Op.operands])
    simp only [ev1] at e ⊢
    obtain ⟨ti, e1, e⟩ := bnd_eq_some.1 e
    obtain ⟨k, e2, e⟩ := bnd_eq_some.1 e
    obtain ⟨tj, e3, e⟩ := bnd_eq_some.1 e
    obtain ⟨n, e4, e⟩ := bnd_eq_some.1 e
    obtain ⟨u, e5, e⟩ := bnd_eq_some.1 e
    obtain ⟨i, e6, e⟩ := bnd_eq_some.1 e
    obtain ⟨v, e7, e⟩ := bnd_eq_some.1 e
    obtain ⟨w, e8, e⟩ := bnd_eq_some.1 e
    simp at e
    obtain ⟨rfl, rfl⟩ := e
    have hr := rd_root hc hx0 e7
    exact ⟨s', bnd_eq_some.2 ⟨ti, e1, bnd_eq_some.2 ⟨k, e2, bnd_eq_some.2 ⟨tj, e3, bnd_eq_some.2 ⟨n, by rw [rd_loc h hi0]; exact e4, bnd_eq_some.2 ⟨u, e5, bnd_eq_some.2 ⟨i, e6, bnd_eq_some.2 ⟨v, by rw [rd_loc h hx0]; exact e7, bnd_eq_some.2 ⟨w, by rw [indexS_loc h hr]; exact e8, rfl⟩⟩⟩⟩⟩⟩⟩⟩, Par.refl h hc, indexS_root hr e8, fun _ => ⟨rfl, rfl⟩⟩
  case index t x ix =>
    have hx0 : opIn T x = true := hx x (by simp [Op.operands])
    have hi0 : opIn T ix = true := hx ix (by simp [Op.operands])
    simp only [ev1] at e ⊢
    obtain ⟨ti, e1, e⟩ := bnd_eq_some.1 e
    obtain ⟨e2, e⟩ := tst_none e
    obtain ⟨n, e4, e⟩ := bnd_eq_some.1 e
    obtain ⟨u, e5, e⟩ := bnd_eq_some.1 e
    obtain ⟨i, e6, e⟩ := bnd_eq_some.1 e
    obtain ⟨v, e7, e⟩ := bnd_eq_some.1 e
    obtain ⟨w, e8, e⟩ := bnd_eq_some.1 e
    obtain ⟨y, e9, e⟩ := bnd_eq_some.1 e
    obtain ⟨c, e10, e⟩ := bnd_eq_some.1 e
    simp at e
    obtain ⟨rfl, rfl⟩ := e
    exact ⟨s', bnd_eq_some.2 ⟨ti, e1, tst_eq_some.2 (.inl ⟨e2, bnd_eq_some.2 ⟨n, by rw [rd_loc h hi0]; exact e4, bnd_eq_some.2 ⟨u, e5, bnd_eq_some.2 ⟨i, e6, bnd_eq_some.2 ⟨v, by rw [rd_loc h hx0]; exact e7, bnd_eq_some.2 ⟨w, e8, bnd_eq_some.2 ⟨y, e9, bnd_eq_some.2 ⟨c, e10, rfl⟩⟩⟩⟩⟩⟩⟩⟩)⟩, Par.refl h hc, rfl, fun _ => ⟨rfl, rfl⟩⟩
  case extract x i =>
    cases x
    case tmp t =>
      have hx0 : opIn T (.tmp t) = true := hx (.tmp t) (by simp [Op.operands])
      simp only [ev1] at e ⊢
      obtain ⟨s3, e1, p, r⟩ := extractS_loc h hc hx0 e
      exact ⟨s3, e1, p, r, fun hq => by cases hq⟩
    all_goals cases e
  case build t parts =>
    simp only [ev1] at e ⊢
    obtain ⟨i, e1, e⟩ := bnd_eq_some.1 e
    obtain ⟨l, e2, e⟩ := bnd_eq_some.1 e
    obtain ⟨q, e3, e⟩ := bnd_eq_some.1 e
    obtain ⟨cs, e4, e⟩ := bnd_eq_some.1 e
    simp at e
    obtain ⟨rfl, rfl⟩ := e
    obtain ⟨s3, e5, p⟩ := takeAll_loc (z := q.2) h hc (fun p hp => hx p.2 (by simp only [Op.operands, List.mem_toArray, List.mem_map]; exact ⟨p, hp, rfl⟩)) (by simpa using e3)
    exact ⟨s3, bnd_eq_some.2 ⟨i, e1, bnd_eq_some.2 ⟨l, e2, bnd_eq_some.2 ⟨_, e5, bnd_eq_some.2 ⟨cs, e4, rfl⟩⟩⟩⟩, p, rfl, fun hq => by cases hq⟩
  case buildSlice t n parts =>
    simp only [ev1] at e ⊢
    obtain ⟨i, e1, e⟩ := bnd_eq_some.1 e
    obtain ⟨l, e2, e⟩ := bnd_eq_some.1 e
    obtain ⟨j, e2', e⟩ := bnd_eq_some.1 e
    obtain ⟨q, e3, e⟩ := bnd_eq_some.1 e
    obtain ⟨cs, e4, e⟩ := bnd_eq_some.1 e
    obtain ⟨e6, e⟩ := tst_none e
    simp at e
    obtain ⟨rfl, rfl⟩ := e
    obtain ⟨s3, e5, p⟩ := takeAll_loc (z := q.2) h hc (fun p hp => hx p.2 (by simp only [Op.operands, List.mem_toArray, List.mem_map]; exact ⟨p, hp, rfl⟩)) (by simpa using e3)
    exact ⟨s3, bnd_eq_some.2 ⟨i, e1, bnd_eq_some.2 ⟨l, e2, bnd_eq_some.2 ⟨j, e2', bnd_eq_some.2 ⟨_, e5, bnd_eq_some.2 ⟨cs, e4, tst_eq_some.2 (.inl ⟨e6, rfl⟩)⟩⟩⟩⟩⟩, p, rfl, fun hq => by cases hq⟩
  case makeSlice t x y =>
    have hx0 : opIn T x = true := hx x (by simp [Op.operands])
    have hy0 : opIn T y = true := hx y (by simp [Op.operands])
    simp only [ev1] at e ⊢
    obtain ⟨i, e1, e⟩ := bnd_eq_some.1 e
    obtain ⟨k, e2, e⟩ := bnd_eq_some.1 e
    obtain ⟨j, e3, e⟩ := bnd_eq_some.1 e
    obtain ⟨v, e4, e⟩ := bnd_eq_some.1 e
    obtain ⟨u, e5, e⟩ := bnd_eq_some.1 e
    obtain ⟨n, e6, e⟩ := bnd_eq_some.1 e
    obtain ⟨v', e7, e⟩ := bnd_eq_some.1 e
    obtain ⟨u', e8, e⟩ := bnd_eq_some.1 e
    obtain ⟨m, e9, e⟩ := bnd_eq_some.1 e
    obtain ⟨e10, e⟩ := tst_none e
    obtain ⟨e11, e⟩ := tst_none e
    simp at e
    obtain ⟨rfl, rfl⟩ := e
    exact ⟨s', bnd_eq_some.2 ⟨i, e1, bnd_eq_some.2 ⟨k, e2, bnd_eq_some.2 ⟨j, e3, bnd_eq_some.2 ⟨v, by rw [rd_loc h hx0]; exact e4, bnd_eq_some.2 ⟨u, e5, bnd_eq_some.2 ⟨n, e6, bnd_eq_some.2 ⟨v', by rw [rd_loc h hy0]; exact e7, bnd_eq_some.2 ⟨u', e8, bnd_eq_some.2 ⟨m, e9, tst_eq_some.2 (.inl ⟨e10, tst_eq_some.2 (.inl ⟨e11, rfl⟩)⟩)⟩⟩⟩⟩⟩⟩⟩⟩⟩, Par.refl h hc, rfl, fun _ => ⟨rfl, rfl⟩⟩
  case slice t x lo hi mx =>
    cases mx
    case none =>
      have hx0 : opIn T x = true := hx x (by simp [Op.operands])
      have hl0 : oIn T lo = true := oIn_of fun y hy => hx y (by subst hy; simp [Op.operands])
      have hh0 : oIn T hi = true := oIn_of fun y hy => hx y (by subst hy; simp [Op.operands])
      simp only [ev1] at e ⊢
      obtain ⟨i, e1, e⟩ := bnd_eq_some.1 e
      obtain ⟨sz, e2, e⟩ := bnd_eq_some.1 e
      obtain ⟨v, e3, e⟩ := bnd_eq_some.1 e
      obtain ⟨w, e4, e⟩ := bnd_eq_some.1 e
      simp at e
      obtain ⟨rfl, rfl⟩ := e
      have hr := rd_root hc hx0 e3
      exact ⟨s', bnd_eq_some.2 ⟨i, e1, bnd_eq_some.2 ⟨sz, e2, bnd_eq_some.2 ⟨v, by rw [rd_loc h hx0]; exact e3, bnd_eq_some.2 ⟨w, by rw [sliceS_loc h hl0 hh0 hr]; exact e4, rfl⟩⟩⟩⟩, Par.refl h hc, sliceS_root hr e4, fun _ => ⟨rfl, rfl⟩⟩
    case some => cases e
  case convert t b x =>
    have hx0 : opIn T x = true := hx x (by simp [Op.operands])
    simp only [ev1] at e ⊢
    obtain ⟨i, e1, e⟩ := bnd_eq_some.1 e
    obtain ⟨j, e2, e⟩ := bnd_eq_some.1 e
    obtain ⟨v, e3, e⟩ := bnd_eq_some.1 e
    obtain ⟨w, e4, e⟩ := bnd_eq_some.1 e
    simp at e
    obtain ⟨rfl, rfl⟩ := e
    have hr := rd_root hc hx0 e3
    refine ⟨s', bnd_eq_some.2 ⟨i, e1, bnd_eq_some.2 ⟨j, e2, bnd_eq_some.2 ⟨v, by rw [rd_loc h hx0]; exact e3, bnd_eq_some.2 ⟨w, by rw [convS_loc h hr]; exact e4, rfl⟩⟩⟩⟩, Par.refl h hc, ?_, fun _ => ⟨rfl, rfl⟩⟩
    unfold convS at e4
    obtain ⟨y, _, e4⟩ := bnd_eq_some.1 e4
    obtain ⟨c, _, e4⟩ := bnd_eq_some.1 e4
    exact convC_root e4
  case call c =>
    obtain ⟨callee, args, tys⟩ := c
    cases callee
    case value x =>
      cases x
      case func f =>
        obtain ⟨s3, e1, p, r⟩ := callOf_loc h hc (fun x hm => hx x (by simp only [Op.operands, Call.operands]; simp; exact .inr (by simpa using hm))) (show callOf E call f args.toList tys.toList s = some (s2, z) from e)
        exact ⟨s3, e1, p, r, fun hq => by cases hq⟩
      all_goals cases e
    case builtin b => exact builtinS_loc h hc (fun x hm => hx x (by simp only [Op.operands, Call.operands]; simp; simpa using hm)) e
    all_goals cases e
  all_goals cases e

def gIn (T : List Tmp) : Option (Option Tmp × Bool) → Bool
  | some (some t, _) => memT t T
  | _ => true

theorem wanted_loc (h : Agr T s s') {g : Option (Option Tmp × Bool)} (hg : gIn T g = true) : wanted s' g = wanted s g := by
  rcases g with _ | ⟨_ | t, b⟩
  · rfl
  · rfl
  · simp only [wanted]; rw [h.at_ t hg]
end
end Go.Sx

/- Two frames laid together: the part that an operation saw, and the rest. -/
namespace Go.Sx

def S.isLink : S → Bool
  | .lnk .. => true
  | .ptr .. => true
  | _ => false
def S.to : S → Tmp
  | .lnk r _ _ _ _ _ _ => r
  | .ptr r _ _ _ => r
  | _ => 0
/-- A link that still leads somewhere. -/
def S.live (l : List (Tmp × S)) : S → Prop
  | .lnk r h _ _ _ _ _ => ∃ cs, (look l r).rootL h = some cs
  | .ptr r g _ el => ∃ cs, (look l r).rootP g el = some cs
  | _ => True

section
variable {w w' : World} {Z Z' : CA → Prop} {l l' : List (Tmp × S)} {tm tm' : Tmp → Value} {v : Value} {F : List CA} {x : S}

theorem rootL_lt {y : S} {h c : Nat} {cs : List C} (e : y.rootL h = some cs) (hs : y.stampsLt c) : h < c := by
  cases y <;> simp only [S.rootL] at e
  case val g a ds =>
    split at e
    · rename_i hg; subst hg; exact hs
    · cases e
  case box g k ds =>
    split at e
    · rename_i hg; subst hg; exact hs.2
    · cases e
  all_goals cases e
theorem rootP_lt {y : S} {g c : Nat} {el : El} {cs : List C} (e : y.rootP g el = some cs) (hs : y.stampsLt c) : g < c := by
  cases y <;> simp only [S.rootP] at e
  case val k a ds =>
    cases el <;> simp only at e
    · cases e
    · split at e
      · rename_i hg; subst hg; exact hs
      · cases e
  case box k h ds =>
    cases el <;> simp only at e
    · split at e
      · rename_i hg; subst hg; exact hs.1
      · cases e
    · split at e
      · rename_i hg; subst hg; exact hs.2
      · cases e
  all_goals cases e
theorem live_lt {c : Nat} (hl : x.isLink = true) (h : x.live l) (hs : (look l x.to).stampsLt c) : x.stampsLt c := by
  cases x <;> simp only [S.isLink] at hl
  case lnk r k off n a el win =>
    obtain ⟨cs, e⟩ := h
    exact rootL_lt e hs
  case ptr r g off el =>
    obtain ⟨cs, e⟩ := h
    exact rootP_lt e hs
  all_goals cases hl

theorem Rep.vac (hF : F = []) (hl : x.isLink = true) (h : x.live l → Rep w Z l tm v F x) : Rep w Z l tm v F x := by
  cases x <;> simp only [S.isLink] at hl
  case lnk r k off n a el win => exact ⟨hF, fun cs hr => (h ⟨cs, hr⟩).2 cs hr⟩
  case ptr r g off el => exact ⟨hF, fun cs hr => (h ⟨cs, hr⟩).2 cs hr⟩
  all_goals cases hl

theorem Rep.link_fp (h : Rep w Z l tm v F x) (hl : x.isLink = true) : F = [] := by
  cases x <;> simp only [S.isLink] at hl
  case lnk r k off n a el win => exact h.1
  case ptr r g off el => exact h.1
  all_goals cases hl

theorem Rep.move (h : Rep w Z l tm v F x) (heq : x.isLink = true → look l' x.to = look l x.to ∧ tm' x.to = tm x.to) : Rep w Z l' tm' v F x := by
  cases x
  case lnk r k off n a el win =>
    obtain ⟨e1, e2⟩ := heq rfl
    simp only [S.to] at e1 e2
    simp only [Rep] at h ⊢
    rw [e1, e2]
    exact h
  case ptr r g off el =>
    obtain ⟨e1, e2⟩ := heq rfl
    simp only [S.to] at e1 e2
    simp only [Rep] at h ⊢
    rw [e1, e2]
    exact h
  all_goals exact h

/-- The world has gone on, beside what the slot and its link's root own. -/
theorem Rep.frame (hZ : ∀ c, Z c → Z' c) {N : Nat} (h : Rep w Z l tm v F x) (hst : x.stampsLt N) (hs : Same w w' F Z)
    (hroot : x.isLink = true → ∀ cs, (look l x.to).root = some cs → ∃ G, RL w Z cs (rget w (look l x.to) (tm x.to)) G ∧ Same w w' G Z ∧ ∀ i, i < cs.length → rget w' (look l x.to) (tm x.to) i = rget w (look l x.to) (tm x.to) i) :
    Rep w' Z' l tm v F x := by
  by_cases hl : x.isLink = true
  · have hf : Follows w w' Z l [(x.to, look l x.to)] tm tm N := by
      intro q
      by_cases hq : x.to = q
      · subst hq
        left
        refine ⟨by simp [look], rfl, hroot hl⟩
      · right
        have : look [(x.to, look l x.to)] q = .dead := by simp [look, hq]
        rw [this]
        exact ⟨fun h cs e => by simp [S.rootL] at e, fun g i cs e => by simp [S.rootP] at e, fun g cs e => by simp [S.rootP] at e⟩
    have h2 := Rep.follow hZ hf h hst hs
    exact h2.move fun _ => ⟨by simp [look], rfl⟩
  · have h2 : Rep w Z [] tm v F x := h.move fun e => absurd e hl
    have hf : Follows w w' Z [] [] tm tm N := fun q => .inr ⟨fun h cs e => by simp [look, S.rootL] at e, fun g i cs e => by simp [look, S.rootP] at e, fun g cs e => by simp [look, S.rootP] at e⟩
    exact (Rep.follow hZ hf h2 hst hs).move fun e => absurd e hl
end

open Classical in
/-- The frame sM: where In says, as s3 says (over w'); elsewhere as sD said (over w). -/
theorem Inv.merge {w w' : World} {Z Z' : CA → Prop} {tm tm' : Tmp → Value} {sD s3 sM : St} {fp fp3 : Tmp → List CA} {In : Tmp → Prop} (hD : Inv w Z tm sD fp) (h3 : Inv w' Z' tm' s3 fp3) (hZ : ∀ c, Z c → Z' c)
    (hM1 : ∀ t, In t → look sM.sl t = look s3.sl t) (hM2 : ∀ t, ¬ In t → look sM.sl t = look sD.sl t) (htm : ∀ t, ¬ In t → tm' t = tm t)
    (hL : ∀ t, ¬ In t → (look sD.sl t).isLink = true → In (look sD.sl t).to → ¬ (look sD.sl t).live sM.sl)
    (hL3 : ∀ t, In t → (look s3.sl t).isLink = true → ¬ In (look s3.sl t).to → look s3.sl t = look sD.sl t ∧ tm' t = tm t)
    (hs : ∀ t, ¬ In t → Same w w' (fp t) Z) (hmine : ∀ t, ¬ In t → ∀ c ∈ fp t, Mine w' Z' c) (hap : ∀ t u, In t → ¬ In u → ∀ c ∈ fp3 t, c ∉ fp u)
    (hc3 : s3.cnt ≤ sM.cnt) (hcD : sD.cnt ≤ sM.cnt) : Inv w' Z' tm' sM (fun t => if In t then fp3 t else fp t) := by
  -- a slot of before, whose link (if it is one) leads to a slot of before
  have old : ∀ t, Same w w' (fp t) Z → ((look sD.sl t).isLink = true → ¬ In (look sD.sl t).to) → tm' t = tm t → Rep w' Z' sM.sl tm' (tm' t) (fp t) (look sD.sl t) := by
    intro t hst hto htt
    have h1 : Rep w' Z' sD.sl tm (tm t) (fp t) (look sD.sl t) := Rep.frame hZ (hD.rep t) (hD.stamps t) hst fun hl => hD.rootKept (hs _ (hto hl))
    rw [htt]
    exact h1.move fun hl => ⟨hM2 _ (hto hl), htm _ (hto hl)⟩
  refine ⟨fun t => ?_, fun t => ?_, fun t u htu c hc => ?_, fun t c hc => ?_, h3.zok, fun t => ?_⟩
  · by_cases ht : In t
    · rw [hM1 t ht]
      simp only [if_pos ht]
      by_cases hl : (look s3.sl t).isLink = true
      · by_cases hto : In (look s3.sl t).to
        · exact (h3.rep t).move fun _ => ⟨hM1 _ hto, rfl⟩
        · obtain ⟨e1, e2⟩ := hL3 t ht hl hto
          have hF : fp3 t = [] := (h3.rep t).link_fp hl
          have hF2 : fp t = [] := (hD.rep t).link_fp (by rw [← e1]; exact hl)
          have := old t (by
            intro c hc
            rcases hc with hc | hc
            · rw [hF2] at hc; cases hc
            · -- a link owns nothing: what is asked of Z follows from any other slot
              exact (hs _ hto) c (.inr hc)) (fun _ => by rw [← e1]; exact hto) e2
          rw [hF2] at this
          rw [hF, e1]
          exact this
      · exact (h3.rep t).move fun e => absurd e hl
    · rw [hM2 t ht]
      simp only [if_neg ht]
      by_cases hl : (look sD.sl t).isLink = true
      · by_cases hto : In (look sD.sl t).to
        · exact Rep.vac ((hD.rep t).link_fp hl) hl fun hlv => absurd hlv (hL t ht hl hto)
        · exact old t (hs t ht) (fun _ => hto) (htm t ht)
      · exact old t (hs t ht) (fun e => absurd e hl) (htm t ht)
  · by_cases ht : In t
    · simp only [if_pos ht]; exact h3.nd t
    · simp only [if_neg ht]; exact hD.nd t
  · by_cases ht : In t <;> by_cases hu : In u <;> simp only [ht, hu, if_true, if_false] at hc ⊢
    · exact h3.disj t u htu c hc
    · exact hap t u ht hu c hc
    · exact fun hc' => hap u t hu ht c hc' hc
    · exact hD.disj t u htu c hc
  · by_cases ht : In t <;> simp only [ht, if_true, if_false] at hc
    · exact h3.mine t c hc
    · exact hmine t ht c hc
  · by_cases ht : In t
    · rw [hM1 t ht]; exact stampsLt_mono (h3.stamps t) hc3
    · rw [hM2 t ht]; exact stampsLt_mono (hD.stamps t) hcD
end Go.Sx

/- A region whose operations may run in any order that their edges allow. -/
namespace Go.Sx

theorem evDraw_steps {E : Env} {call : Sem1} {all : List Oper} : ∀ (Ts : List (List Tmp × List Tmp)) (l : List Oper) {s s' : St}, evDraw E call Ts (qsOf all l) s = some s' →
    ∃ st : Nat → St, st 0 = s ∧ st l.length = s' ∧ ∀ i o, l[i]? = some o → ∃ T, Ts[i]? = some T ∧ closedIn (st i).sl T.1 T.1 = true ∧ sameB (st i) (st (i + 1)) T.2 T.1 = true ∧ stepQ E call (st i) o.dst o.op o.type (wanted (st i) (qOf all o).guard) = some (st (i + 1))
  | Ts, [], s, s', h => by
    simp only [qsOf, evDraw] at h
    simp at h
    subst h
    exact ⟨fun _ => s, rfl, rfl, fun i o ho => by simp at ho⟩
  | [], _ :: _, _, _, h => by simp [qsOf, evDraw] at h
  | T :: Ts, o :: l, s, s', h => by
    have h : evDraw E call (T :: Ts) (⟨o.dst, o.op, o.type, (qOf all o).guard⟩ :: qsOf all l) s = some s' := h
    simp only [evDraw] at h
    obtain ⟨h1, h⟩ := tst_none h
    cases h2 : stepQ E call s o.dst o.op o.type (wanted s (qOf all o).guard) with
    | none => rw [h2] at h; cases h
    | some s1 =>
      rw [h2] at h
      obtain ⟨h3, h⟩ := tst_none h
      obtain ⟨st, e0, e1, e2⟩ := evDraw_steps Ts l h
      refine ⟨fun n => match n with | 0 => s | n + 1 => st n, rfl, e1, fun i oi hi => ?_⟩
      cases i with
      | zero =>
        simp at hi
        subst hi
        exact ⟨T, rfl, h1, by subst e0; exact h3, h2.trans (congrArg some e0.symm)⟩
      | succ i =>
        obtain ⟨T', f1, f2, f3, f4⟩ := e2 i oi (by simpa using hi)
        exact ⟨T', by simpa using f1, f2, f3, f4⟩

def tsAt (Ts : List (List Tmp × List Tmp)) (i : Nat) : List Tmp := ((Ts[i]?).getD ([], [])).1
def dstL (o : Oper) : List Tmp := match o.dst with | some t => [t] | none => []
/-- What an operation writes; what it touches. -/
def wrL (Ts : List (List Tmp × List Tmp)) (i : Nat) (_ : Oper) : List Tmp := ((Ts[i]?).getD ([], [])).2
def rdL (Ts : List (List Tmp × List Tmp)) (i : Nat) (o : Oper) : List Tmp := tsAt Ts i ++ dstL o

def Down (ops : Array Oper) (D : Nat → Bool) : Prop := ∀ i o, ops[i]? = some o → D i = true → ∀ e ∈ o.after, Region.binds .any e = true → D e.on = true
def Bef (ops : Array Oper) (i j : Nat) : Prop := i < j ∧ ∀ D, Down ops D → D j = true → D i = true

structure DrawGood (ops : Array Oper) (Ts : List (List Tmp × List Tmp)) : Prop where
  opnd : ∀ i o, ops[i]? = some o → (∀ x ∈ o.op.operands, opIn (tsAt Ts i) x = true) ∧ gIn (tsAt Ts i) (qOf ops.toList o).guard = true
  wr : ∀ i o, ops[i]? = some o → (∀ t, memT t (wrL Ts i o) = true → memT t (rdL Ts i o) = true) ∧ ∀ t, memT t (dstL o) = true → memT t (wrL Ts i o) = true
  back : ∀ i o, ops[i]? = some o → ∀ e ∈ o.after, Region.binds .any e = true → e.on < i
  conf : ∀ i j oi oj t, ops[i]? = some oi → ops[j]? = some oj → i ≠ j → memT t (wrL Ts i oi) = true → memT t (rdL Ts j oj) = true → Bef ops i j ∨ Bef ops j i

theorem memT_append {t : Tmp} : ∀ {a b : List Tmp}, memT t (a ++ b) = true ↔ memT t a = true ∨ memT t b = true
  | [], b => by simp [memT]
  | u :: a, b => by
    simp only [List.cons_append, memT]
    split
    · simp
    · exact memT_append
theorem mem_dstL {t : Tmp} {o : Oper} : memT t (dstL o) = true ↔ o.dst = some t := by
  unfold dstL
  cases o.dst with
  | none => simp [memT]
  | some u => simp [memT]

theorem look_mapf (f : Tmp → S) (l : List (Tmp × S)) (t : Tmp) : ∀ L : List Tmp, look (L.map (fun t => (t, f t)) ++ l) t = if memT t L = true then f t else look l t
  | [] => by simp [memT]
  | u :: L => by
    simp only [List.map_cons, List.cons_append, look_cons, memT]
    by_cases h : u = t
    · subst h; simp
    · simp only [if_neg h]; exact look_mapf f l t L

theorem look_put {d : Option Tmp} {r : S} {s : St} {t : Tmp} : look (put d r s).sl t = if d = some t then r.stamp s.cnt else look s.sl t := by
  obtain ⟨c, l⟩ := s
  cases d with
  | none => simp [put]
  | some u => simp [put, look_cons]
theorem cnt_put {d : Option Tmp} {r : S} {s : St} : (put d r s).cnt = s.cnt + (if d.isSome then 1 else 0) := by
  obtain ⟨c, l⟩ := s
  cases d <;> rfl

theorem closedIn_cl {l : List (Tmp × S)} {T : List Tmp} : ∀ {R : List Tmp}, closedIn l T R = true → ∀ t, memT t R = true → (look l t).rootIn T = true
  | [], _, t, ht => by simp [memT] at ht
  | u :: R, h, t, ht => by
    simp only [closedIn] at h
    have h : ((look l u).rootIn T && closedIn l T R) = true := h
    simp only [Bool.and_eq_true] at h
    simp only [memT] at ht
    split at ht
    · rename_i e; subst e; exact h.1
    · exact closedIn_cl h.2 t ht

theorem link_in {x : S} {T : List Tmp} (h : x.rootIn T = true) (hl : x.isLink = true) : memT x.to T = true := by
  cases x <;> simp only [S.isLink] at hl
  case lnk r k off n a el win => exact h
  case ptr r g off el => exact h
  all_goals cases hl
theorem stamp_isLink (x : S) (c : Nat) : (x.stamp c).isLink = x.isLink := by cases x <;> rfl
theorem stamp_to (x : S) (c : Nat) : (x.stamp c).to = x.to := by cases x <;> rfl

theorem still_eq {s s2 : St} {t : Tmp} {d : Option Tmp} {r : S} (hm : look s2.sl t = look s.sl t ∨ (∃ c cs, s.cnt ≤ c ∧ look s2.sl t = (look s.sl t).withCells c cs) ∨ ∃ vs vs', look s.sl t = .tup vs ∧ look s2.sl t = .tup vs' ∧ vs' ≠ []) (hd : d ≠ some t)
    (h : (look s.sl t).still s.cnt (look (put d r s2).sl t) = true) : look s2.sl t = look s.sl t := by
  rw [look_put, if_neg hd] at h
  rcases hm with e | ⟨c, cs, hle, e⟩ | ⟨vs, vs', e1, e2, e3⟩
  · exact e
  · rw [e] at h ⊢
    cases hx : look s.sl t with
    | val g a ds =>
      rw [hx] at h
      have h : (decide (c < s.cnt) && decide (g = c)) = true := h
      simp at h
      omega
    | box g k ds =>
      rw [hx] at h
      have h : (decide (c < s.cnt) && decide (k = c)) = true := h
      simp at h
      omega
    | _ => rfl
  · rw [e2] at h
    cases vs' with
    | nil => exact absurd rfl e3
    | cons _ _ => cases h
theorem sameB_at {s s' : St} {W : List Tmp} : ∀ {T : List Tmp}, sameB s s' W T = true → ∀ t, memT t T = true → memT t W = false → (look s.sl t).still s.cnt (look s'.sl t) = true
  | [], _, t, ht, _ => by simp [memT] at ht
  | u :: T, h, t, ht, hw => by
    have h : ((memT u W || (look s.sl u).still s.cnt (look s'.sl u)) && sameB s s' W T) = true := h
    simp only [Bool.and_eq_true, Bool.or_eq_true] at h
    simp only [memT] at ht
    split at ht
    · rename_i e
      subst e
      exact h.1.resolve_left (by rw [hw]; simp)
    · exact sameB_at h.2 t ht hw

theorem stepQ_loc {T : List Tmp} {E : Env} {call : Sem1} {s s' s1 : St} (h : Agr T s s') (hc : Cl T s) {dst : Option Tmp} {op : Op} {ty : TypeId} {g : Option (Option Tmp × Bool)} (hx : ∀ x ∈ op.operands, opIn T x = true) (hg : gIn T g = true)
    (e : stepQ E call s dst op ty (wanted s g) = some s1) : ∃ b s2 s2' r, wanted s' g = some b ∧ s1 = put dst r s2 ∧ Par T s s' s2 s2' ∧ r.rootIn T = true ∧ (quietOp op = true → s2 = s ∧ s2' = s') ∧
      ((b = true ∧ ev1 E call ty s' op = some (s2', r)) ∨ (b = false ∧ s2 = s ∧ s2' = s' ∧ r = .tup [])) := by
  have hw := wanted_loc h hg
  cases hb : wanted s g with
  | none => rw [hb] at e; cases e
  | some b =>
    rw [hb] at e hw
    cases b with
    | false =>
      simp only [stepQ] at e
      simp at e
      exact ⟨false, s, s', .tup [], hw, e.symm, Par.refl h hc, rfl, fun _ => ⟨rfl, rfl⟩, .inr ⟨rfl, rfl, rfl, rfl⟩⟩
    | true =>
      simp only [stepQ] at e
      obtain ⟨q, e1, e⟩ := bnd_eq_some.1 e
      simp at e
      obtain ⟨s2', e2, p, r, hq⟩ := ev1_loc (z := q.2) h hc hx (by simpa using e1)
      exact ⟨true, q.1, s2', q.2, hw, e.symm, p, r, hq, .inl ⟨rfl, e2⟩⟩

theorem Inv.congr {w : World} {Z : CA → Prop} {tm : Tmp → Value} {s s' : St} {fp : Tmp → List CA} (h : Inv w Z tm s fp) (hl : ∀ t, look s'.sl t = look s.sl t) (hst : ∀ t, (look s.sl t).stampsLt s'.cnt) : Inv w Z tm s' fp where
  rep t := by rw [hl t]; exact (h.rep t).move fun _ => ⟨hl _, rfl⟩
  nd := h.nd
  disj := h.disj
  mine := h.mine
  zok := h.zok
  stamps t := by rw [hl t]; exact hst t

/-- The frame where exactly the operations of D have run. -/
def slD (W : Nat → List Tmp) (st : Nat → St) (D : Nat → Bool) : Nat → List (Tmp × S)
  | 0 => (st 0).sl
  | k + 1 => if D k then (W k).map (fun t => (t, look (st (k + 1)).sl t)) ++ slD W st D k else slD W st D k

theorem look_slD {W : Nat → List Tmp} {st : Nat → St} {D : Nat → Bool} {k : Nat} {t : Tmp} : look (slD W st D (k + 1)) t = if D k = true ∧ memT t (W k) = true then look (st (k + 1)).sl t else look (slD W st D k) t := by
  simp only [slD]
  by_cases h : D k = true
  · rw [if_pos h, look_mapf]
    simp [h]
  · rw [if_neg h, if_neg (fun e => h e.1)]

def updD (D : Nat → Bool) (i : Nat) : Nat → Bool := fun k => if k = i then true else D k

/-- How many are still to run. -/
def left (D : Nat → Bool) : Nat → Nat
  | 0 => 0
  | k + 1 => (if D k then 0 else 1) + left D k
theorem left_same {D D' : Nat → Bool} : ∀ {n : Nat}, (∀ k, k < n → D' k = D k) → left D' n = left D n
  | 0, _ => rfl
  | n + 1, h => by simp only [left]; rw [h n (by omega), left_same (fun k hk => h k (by omega))]
theorem left_upd {D : Nat → Bool} {i : Nat} (hi : D i = false) : ∀ {n : Nat}, i < n → left D n = left (updD D i) n + 1
  | 0, h => by omega
  | n + 1, h => by
    simp only [left]
    by_cases e : i = n
    · subst e
      have h1 : left (updD D i) i = left D i := left_same (fun k hk => by simp only [updD]; rw [if_neg (by omega)])
      rw [h1, hi]
      simp [updD]
      omega
    · have := left_upd hi (n := n) (by omega)
      have h2 : updD D i n = D n := by simp only [updD]; rw [if_neg (fun e' => e e'.symm)]
      rw [h2, this]
      omega
theorem left_zero {D : Nat → Bool} : ∀ {n : Nat}, left D n = 0 → ∀ k, k < n → D k = true
  | 0, _, k, hk => by omega
  | n + 1, h, k, hk => by
    simp only [left] at h
    have h1 : D n = true := by
      cases hd : D n with
      | true => rfl
      | false => rw [hd] at h; simp at h
    by_cases e : k = n
    · rw [e]; exact h1
    · exact left_zero (n := n) (by omega) k (by omega)
end Go.Sx

/- A step in whatever order. -/
namespace Go.Sx
section
variable {P : Program} {E : Env} {w0 : World} {Z0 : CA → Prop} {F0 : List CA} {n : Nat} {kp : List (Tmp × Value)} {ops : Array Oper} {Ts : List (List Tmp × List Tmp)} {call : Sem1} {st : Nat → St}

def wAt (ops : Array Oper) (Ts : List (List Tmp × List Tmp)) (k : Nat) : List Tmp := match ops[k]? with | some o => wrL Ts k o | none => []

/-- The run in the given order. -/
def Trace (E : Env) (call : Sem1) (ops : Array Oper) (Ts : List (List Tmp × List Tmp)) (st : Nat → St) : Prop :=
  ∀ i o, ops[i]? = some o → Cl (tsAt Ts i) (st i) ∧ (∀ t, memT t (tsAt Ts i) = true → memT t (wrL Ts i o) = false → (look (st i).sl t).still (st i).cnt (look (st (i + 1)).sl t) = true) ∧ stepQ E call (st i) o.dst o.op o.type (wanted (st i) (qOf ops.toList o).guard) = some (st (i + 1))

theorem trace_of {s s' : St} (h : evDraw E call Ts (qsOf ops.toList ops.toList) s = some s') : ∃ st, st 0 = s ∧ st ops.size = s' ∧ Trace E call ops Ts st := by
  obtain ⟨st, e0, e1, e2⟩ := evDraw_steps Ts ops.toList h
  refine ⟨st, e0, by simpa using e1, fun i o hi => ?_⟩
  obtain ⟨T, f1, f2, f3, f4⟩ := e2 i o (by simpa using hi)
  have e1 : tsAt Ts i = T.1 := by simp [tsAt, f1]
  have e2 : wrL Ts i o = T.2 := by simp [wrL, f1]
  rw [e1, e2]
  exact ⟨fun t ht => closedIn_cl f2 t ht, fun t ht hw => sameB_at f3 t ht hw, f4⟩

/-- The state where D has run. -/
def MD (ops : Array Oper) (Ts : List (List Tmp × List Tmp)) (st : Nat → St) (D : Nat → Bool) : St := ⟨(st ops.size).cnt, slD (wAt ops Ts) st D ops.size⟩

theorem Trace.step (hG : DrawGood ops Ts) (hR : Trace E call ops Ts st) {i : Nat} {o : Oper} (hi : ops[i]? = some o) : (st i).cnt ≤ (st (i + 1)).cnt ∧ ∀ t, memT t (wrL Ts i o) = false → look (st (i + 1)).sl t = look (st i).sl t := by
  obtain ⟨hc, hst, he⟩ := hR i o hi
  obtain ⟨hx, hg⟩ := hG.opnd i o hi
  obtain ⟨b, s2, s2', r, _, e1, p, _, hq, _⟩ := stepQ_loc (s' := st i) ⟨rfl, fun _ _ => rfl⟩ hc hx hg he
  refine ⟨by rw [e1, cnt_put]; exact Nat.le_trans p.le (Nat.le_add_right _ _), fun t ht => ?_⟩
  have hd : o.dst ≠ some t := fun e => by
    have := (hG.wr i o hi).2 t (mem_dstL.2 e)
    rw [this] at ht; cases ht
  cases hm : memT t (tsAt Ts i) with
  | false =>
    rw [e1, look_put, if_neg hd]
    exact p.out t hm
  | true =>
    have h1 := hst t hm ht
    rw [e1] at h1 ⊢
    rw [look_put, if_neg hd]
    exact still_eq (p.mv t) hd h1

theorem Trace.cnt_le (hG : DrawGood ops Ts) (hR : Trace E call ops Ts st) {i : Nat} : ∀ {j : Nat}, i ≤ j → j ≤ ops.size → (st i).cnt ≤ (st j).cnt
  | 0, h, _ => by have : i = 0 := by omega
                  subst this; exact Nat.le_refl _
  | j + 1, h, hj => by
    by_cases e : i = j + 1
    · subst e; exact Nat.le_refl _
    · have hlt : j < ops.size := by omega
      exact Nat.le_trans (Trace.cnt_le hG hR (j := j) (by omega) (by omega)) (hR.step hG (Array.getElem?_eq_getElem hlt)).1

theorem wAt_some {i : Nat} {o : Oper} (hi : ops[i]? = some o) : wAt ops Ts i = wrL Ts i o := by simp [wAt, hi]

/-- At an operation that is ready, what it touches is as it was in the given order. -/
theorem ready_look (hG : DrawGood ops Ts) (hR : Trace E call ops Ts st) {D : Nat → Bool} (hD : Down ops D) {i : Nat} {o : Oper} (hi : ops[i]? = some o) (hDi : D i = false) (hrd : ∀ k, Bef ops k i → D k = true) {t : Tmp} (ht : memT t (rdL Ts i o) = true) :
    look (MD ops Ts st D).sl t = look (st i).sl t ∧ ∀ k, k ≤ i → look (slD (wAt ops Ts) st D k) t = look (st k).sl t := by
  have hin : i < ops.size := (Array.getElem?_eq_some_iff.1 hi).1
  have a1 : ∀ k, k ≤ i → look (slD (wAt ops Ts) st D k) t = look (st k).sl t := by
    intro k
    induction k with
    | zero => intro _; rfl
    | succ k ih =>
      intro hk
      have hkn : k < ops.size := by omega
      have hok := Array.getElem?_eq_getElem hkn
      rw [look_slD, wAt_some hok]
      by_cases hm : memT t (wrL Ts k ops[k]) = true
      · have hDk : D k = true := by
          rcases hG.conf k i _ _ t hok hi (by omega) hm ht with h | h
          · exact hrd k h
          · exact absurd h.1 (by omega)
        rw [if_pos ⟨hDk, hm⟩]
      · rw [if_neg (fun e => hm e.2), ih (by omega)]
        exact ((hR.step hG hok).2 t (by simpa using hm)).symm
  refine ⟨?_, a1⟩
  have a2 : ∀ k, i ≤ k → k ≤ ops.size → look (slD (wAt ops Ts) st D k) t = look (st i).sl t := by
    intro k
    induction k with
    | zero => intro h _; exact a1 0 (by omega) ▸ (by have : i = 0 := by omega
                                                     subst this; rfl)
    | succ k ih =>
      intro hk hkn
      by_cases e : i = k + 1
      · subst e; exact a1 _ (Nat.le_refl _)
      · have hkn' : k < ops.size := by omega
        have hok := Array.getElem?_eq_getElem hkn'
        rw [look_slD, wAt_some hok, if_neg, ih (by omega) (by omega)]
        rintro ⟨hDk, hm⟩
        by_cases ei : k = i
        · subst ei; rw [hDi] at hDk; cases hDk
        · rcases hG.conf k i _ _ t hok hi ei hm ht with h | h
          · exact absurd h.1 (by omega)
          · rw [h.2 D hD hDk] at hDi; cases hDi
  exact a2 _ (Nat.le_of_lt hin) (Nat.le_refl _)

theorem look_updD (hG : DrawGood ops Ts) {D : Nat → Bool} (hD : Down ops D) {i : Nat} {o : Oper} (hi : ops[i]? = some o) (hDi : D i = false) (t : Tmp) :
    look (MD ops Ts st (updD D i)).sl t = if memT t (wrL Ts i o) = true then look (st (i + 1)).sl t else look (MD ops Ts st D).sl t := by
  have hin : i < ops.size := (Array.getElem?_eq_some_iff.1 hi).1
  have b1 : ∀ k, k ≤ i → slD (wAt ops Ts) st (updD D i) k = slD (wAt ops Ts) st D k := by
    intro k
    induction k with
    | zero => intro _; rfl
    | succ k ih =>
      intro hk
      simp only [slD]
      rw [ih (by omega)]
      have : updD D i k = D k := by simp only [updD]; rw [if_neg (by omega)]
      rw [this]
  have b2 : ∀ k, i + 1 ≤ k → k ≤ ops.size → look (slD (wAt ops Ts) st (updD D i) k) t = if memT t (wrL Ts i o) = true then look (st (i + 1)).sl t else look (slD (wAt ops Ts) st D k) t := by
    intro k
    induction k with
    | zero => intro h _; omega
    | succ k ih =>
      intro hk hkn
      have hkn' : k < ops.size := by omega
      have hok := Array.getElem?_eq_getElem hkn'
      rw [look_slD, look_slD (D := D), wAt_some hok]
      by_cases e : k = i
      · subst e
        have eo : ops[k] = o := by rw [hok] at hi; simpa using hi
        rw [eo, b1 _ (Nat.le_refl _), hDi]
        have : updD D k k = true := by simp [updD]
        rw [this]
        simp
      · have hu : updD D i k = D k := by simp only [updD]; rw [if_neg e]
        rw [hu, ih (by omega) (by omega)]
        by_cases hm : D k = true ∧ memT t (wrL Ts k ops[k]) = true
        · rw [if_pos hm, if_pos hm]
          by_cases hw : memT t (wrL Ts i o) = true
          · rcases hG.conf k i _ _ t hok hi e hm.2 ((hG.wr i o hi).1 t hw) with h | h
            · exact absurd h.1 (by omega)
            · rw [h.2 D hD hm.1] at hDi; cases hDi
          · rw [if_neg hw]
        · rw [if_neg hm, if_neg hm]
  exact b2 _ (by omega) (Nat.le_refl _)

theorem look_allD (hG : DrawGood ops Ts) (hR : Trace E call ops Ts st) {D : Nat → Bool} (hD : ∀ k, k < ops.size → D k = true) (t : Tmp) : look (MD ops Ts st D).sl t = look (st ops.size).sl t := by
  have : ∀ k, k ≤ ops.size → look (slD (wAt ops Ts) st D k) t = look (st k).sl t := by
    intro k
    induction k with
    | zero => intro _; rfl
    | succ k ih =>
      intro hk
      have hok := Array.getElem?_eq_getElem (show k < ops.size by omega)
      rw [look_slD, wAt_some hok]
      by_cases hm : memT t (wrL Ts k ops[k]) = true
      · rw [if_pos ⟨hD k (by omega), hm⟩]
      · rw [if_neg (fun e => hm e.2), ih (by omega)]
        exact ((hR.step hG hok).2 t (by simpa using hm)).symm
  exact this _ (Nat.le_refl _)

structure DI (w0 : World) (Z0 : CA → Prop) (F0 : List CA) (n : Nat) (kp : List (Tmp × Value)) (ops : Array Oper) (Ts : List (List Tmp × List Tmp)) (st : Nat → St) (D : Nat → Bool) (a : Act) (w : World) : Prop where
  si : SI w0 Z0 F0 n kp (MD ops Ts st D) a w
  li : ∀ t, (look (MD ops Ts st D).sl t).isLink = true → ∀ k o, ops[k]? = some o → D k = false → memT (look (MD ops Ts st D).sl t).to (wrL Ts k o) = true → (look (MD ops Ts st D).sl t).stampsLt (st k).cnt
  sb : ∀ k o, ops[k]? = some o → D k = true → ∀ t, memT t (rdL Ts k o) = true → (look (st (k + 1)).sl t).stampsLt (st (k + 1)).cnt
  s0 : ∀ t, (look (st 0).sl t).stampsLt (st 0).cnt
  down : Down ops D

theorem ready_stamps (hG : DrawGood ops Ts) (hR : Trace E call ops Ts st) {D : Nat → Bool} {a : Act} {w : World} (hI : DI w0 Z0 F0 n kp ops Ts st D a w) {i : Nat} {o : Oper} (hi : ops[i]? = some o) (hrd : ∀ k, Bef ops k i → D k = true) {t : Tmp} (ht : memT t (rdL Ts i o) = true) :
    (look (st i).sl t).stampsLt (st i).cnt := by
  have hin : i < ops.size := (Array.getElem?_eq_some_iff.1 hi).1
  have : ∀ k, k ≤ i → (look (st k).sl t).stampsLt (st k).cnt := by
    intro k
    induction k with
    | zero => intro _; exact hI.s0 t
    | succ k ih =>
      intro hk
      have hok := Array.getElem?_eq_getElem (show k < ops.size by omega)
      by_cases hm : memT t (wrL Ts k ops[k]) = true
      · have hDk : D k = true := by
          rcases hG.conf k i _ _ t hok hi (by omega) hm ht with h | h
          · exact hrd k h
          · exact absurd h.1 (by omega)
        exact hI.sb k _ hok hDk t ((hG.wr k _ hok).1 t hm)
      · rw [(hR.step hG hok).2 t (by simpa using hm)]
        exact stampsLt_mono (ih (by omega)) (hR.step hG hok).1
  exact this i (Nat.le_refl _)
end
end Go.Sx

/- A step in whatever order, in memory. -/
namespace Go.Sx

open Classical in
/-- The part of a state that is older than c. -/
noncomputable def older (c : Nat) (l : List (Tmp × S)) (l0 : List (Tmp × S)) : List (Tmp × S) :=
  l.map fun p => (p.1, if (look l0 p.1).stampsLt c then p.2 else .dead)

open Classical in
theorem look_older {c : Nat} {l0 : List (Tmp × S)} {t : Tmp} : ∀ {l : List (Tmp × S)}, look (older c l l0) t = if (look l0 t).stampsLt c then look l t else .dead
  | [] => by simp [older, look]
  | p :: l => by
    have ih := look_older (c := c) (l0 := l0) (t := t) (l := l)
    obtain ⟨u, x⟩ := p
    simp only [older, List.map_cons, look_cons]
    by_cases h : u = t
    · subst h; simp
    · simp only [if_neg h]; exact ih

theorem live_dead {l : List (Tmp × S)} {x : S} (hl : x.isLink = true) (hd : look l x.to = .dead) : ¬ x.live l := by
  cases x
  case lnk r k off n a el win =>
    rintro ⟨cs, e⟩
    simp only [S.to] at hd
    rw [hd] at e
    simp [S.rootL] at e
  case ptr r g off el =>
    rintro ⟨cs, e⟩
    simp only [S.to] at hd
    rw [hd] at e
    simp [S.rootP] at e
  all_goals cases hl

open Classical in
theorem Inv.older {w : World} {Z : CA → Prop} {tm : Tmp → Value} {s : St} {fp : Tmp → List CA} (h : Inv w Z tm s fp) (c : Nat) : Inv w Z tm ⟨c, Sx.older c s.sl s.sl⟩ (fun t => if (look s.sl t).stampsLt c then fp t else []) := by
  have lk : ∀ t, look (Sx.older c s.sl s.sl) t = if (look s.sl t).stampsLt c then look s.sl t else .dead := fun t => look_older
  refine ⟨fun t => ?_, fun t => ?_, fun t u htu d hd => ?_, fun t d hd => ?_, h.zok, fun t => ?_⟩
  · simp only [lk t]
    by_cases ht : (look s.sl t).stampsLt c
    · rw [if_pos ht, if_pos ht]
      by_cases hl : (look s.sl t).isLink = true
      · by_cases hto : (look s.sl (look s.sl t).to).stampsLt c
        · exact (h.rep t).move fun _ => ⟨by rw [lk, if_pos hto], rfl⟩
        · refine Rep.vac ((h.rep t).link_fp hl) hl fun hlv => ?_
          exact absurd hlv (live_dead hl (by rw [lk, if_neg hto]))
      · exact (h.rep t).move fun e => absurd e hl
    · rw [if_neg ht, if_neg ht]
      rfl
  · by_cases ht : (look s.sl t).stampsLt c
    · simp only [if_pos ht]; exact h.nd t
    · simp only [if_neg ht]; exact List.nodup_nil
  · by_cases ht : (look s.sl t).stampsLt c <;> by_cases hu : (look s.sl u).stampsLt c <;> simp only [ht, hu, if_true, if_false] at hd ⊢
    · exact h.disj t u htu d hd
    · simp
    · cases hd
    · cases hd
  · by_cases ht : (look s.sl t).stampsLt c <;> simp only [ht, if_true, if_false] at hd
    · exact h.mine t d hd
    · cases hd
  · simp only [lk t]
    by_cases ht : (look s.sl t).stampsLt c
    · rw [if_pos ht]; exact ht
    · rw [if_neg ht]; trivial

/-- A slot filled behind an operation, or none. -/
theorem Done.putInv {a : Act} {w w' : World} {Z Z' : CA → Prop} {fp fp2 : Tmp → List CA} {s2 : St} {v : Value} {F : List CA} {r : S} (D : Done w Z (Act.tm a) fp w' Z' s2 fp2 v F r) {d : Option Tmp} (hd : ∀ t, d = some t → t < a.tmps.size) :
    ∃ fp3, Inv w' Z' (Act.tm (a.put d v)) (put d r s2) fp3 ∧ (∀ t, ∀ c ∈ fp3 t, c ∈ F ∨ ∃ u, c ∈ fp2 u) ∧ ∀ t, d ≠ some t → Act.tm (a.put d v) t = Act.tm a t := by
  cases d with
  | none => exact ⟨fp2, D.inv, fun t c hc => .inr ⟨t, hc⟩, fun _ _ => rfl⟩
  | some t =>
    have hlt := hd t rfl
    have hv : Act.tm (a.put (some t) v) t = v := by rw [tm_put hlt, if_pos rfl]
    refine ⟨_, D.inv.put (d := t) (x := r) (F := F) (tm' := Act.tm (a.put (some t) v)) rfl (fun u hu => by rw [tm_put hlt, if_neg hu]) (by rw [hv]; exact D.rep) D.lt D.nd D.mine (fun u _ c hc => D.apart u c hc), fun u c hc => ?_, fun u hu => by rw [tm_put hlt, if_neg (fun e => hu (by rw [e]))]⟩
    by_cases hu : u = t
    · simp only [if_pos hu] at hc; exact .inl hc
    · simp only [if_neg hu] at hc; exact .inr ⟨u, hc⟩

section
variable {P : Program} {E : Env} {w0 : World} {Z0 : CA → Prop} {F0 : List CA} {n : Nat} {kp : List (Tmp × Value)} {ops : Array Oper} {Ts : List (List Tmp × List Tmp)} {call : Sem1} {st : Nat → St}

open Classical in
theorem DI.next (hG : DrawGood ops Ts) (hR : Trace E call ops Ts st) {D : Nat → Bool} {a : Act} {w : World} (hI : DI w0 Z0 F0 n kp ops Ts st D a w) {i : Nat} {o : Oper} (hi : ops[i]? = some o) (hDi : D i = false)
    (hrdE : ∀ e ∈ o.after, Region.binds .any e = true → D e.on = true) (hod : okDst n kp o.dst) :
    ∃ (sP : St) (Z : CA → Prop) (fpP : Tmp → List CA) (b : Bool) (s2' : St) (r : S), Inv w Z (Act.tm a) sP fpP ∧ wanted sP (qOf ops.toList o).guard = some b ∧
      ((b = true ∧ ev1 E call o.type sP o.op = some (s2', r)) ∨ (b = false ∧ s2' = sP ∧ r = .tup [])) ∧
      ∀ v w', Brings w Z (Act.tm a) fpP s2' r v w' → DI w0 Z0 F0 n kp ops Ts st (updD D i) (a.put o.dst v) w' := by
  obtain ⟨hSI, hLI, hSB, hS0, hDown⟩ := id hI
  obtain ⟨Z, fp, hinv, h2, h3, h4, h5, h6⟩ := hSI
  have hin : i < ops.size := (Array.getElem?_eq_some_iff.1 hi).1
  have hDown' : Down ops (updD D i) := by
    intro k ok hk hDk e he hb
    simp only [updD] at hDk ⊢
    by_cases e1 : k = i
    · subst e1
      rw [hi] at hk
      simp at hk
      subst hk
      by_cases e2 : e.on = k
      · rw [if_pos e2]
      · rw [if_neg e2]; exact hrdE e he hb
    · rw [if_neg e1] at hDk
      by_cases e2 : e.on = i
      · rw [if_pos e2]
      · rw [if_neg e2]; exact hDown k ok hk hDk e he hb
  have hrd : ∀ k, Bef ops k i → D k = true := by
    intro k hk
    have := hk.2 (updD D i) hDown' (by simp [updD])
    simp only [updD] at this
    rw [if_neg (by have := hk.1; omega)] at this
    exact this
  obtain ⟨hc, hst, he⟩ := hR i o hi
  obtain ⟨hx, hg⟩ := hG.opnd i o hi
  -- the older part
  have lkP : ∀ t, look (older (st i).cnt (MD ops Ts st D).sl (MD ops Ts st D).sl) t = if (look (MD ops Ts st D).sl t).stampsLt (st i).cnt then look (MD ops Ts st D).sl t else .dead := fun t => look_older
  have hlo : ∀ t, memT t (rdL Ts i o) = true → (look (MD ops Ts st D).sl t).stampsLt (st i).cnt ∧ look (MD ops Ts st D).sl t = look (st i).sl t := fun t ht => by
    have e := (ready_look hG hR hDown hi hDi hrd ht).1
    exact ⟨by rw [e]; exact ready_stamps hG hR hI hi hrd ht, e⟩
  have hagr : Agr (tsAt Ts i) (st i) ⟨(st i).cnt, older (st i).cnt (MD ops Ts st D).sl (MD ops Ts st D).sl⟩ := by
    refine ⟨rfl, fun t ht => ?_⟩
    obtain ⟨h1, h2⟩ := hlo t (memT_append.2 (.inl ht))
    show look (older _ _ _) t = _
    rw [lkP, if_pos h1, h2]
  obtain ⟨b, s2, s2', r, hw, e1, p, hroot, hq, hev⟩ := stepQ_loc hagr hc hx hg he
  have hinvP := hinv.older (st i).cnt
  refine ⟨_, Z, _, b, s2', r, hinvP, hw, hev.imp id (fun h => ⟨h.1, h.2.2⟩), fun v w' hb => ?_⟩
  obtain ⟨Z', fp2, F, Dn⟩ := hb
  have hdlt : ∀ t, o.dst = some t → t < a.tmps.size := fun t ht => Nat.lt_of_lt_of_le (hod t ht).1 h6.size
  obtain ⟨fp3, inv3, hfp3, htm⟩ := Dn.putInv (d := o.dst) hdlt
  -- what the step's state and the given order's have in common
  have hcnt2 : s2'.cnt = s2.cnt := p.agr.cnt
  have hcnt3 : (put o.dst r s2').cnt = (st (i + 1)).cnt := by rw [e1, cnt_put, cnt_put, hcnt2]
  have hsame : ∀ t, memT t (rdL Ts i o) = true → look (put o.dst r s2').sl t = look (st (i + 1)).sl t := fun t ht => by
    rw [e1, look_put, look_put, hcnt2]
    by_cases hd : o.dst = some t
    · rw [if_pos hd, if_pos hd]
    · rw [if_neg hd, if_neg hd]
      rcases memT_append.1 ht with ht | ht
      · exact p.agr.at_ t ht
      · exact absurd (mem_dstL.1 ht) hd
  have hrootT : ∀ t, memT t (rdL Ts i o) = true → (look (st (i + 1)).sl t).isLink = true → memT (look (st (i + 1)).sl t).to (tsAt Ts i) = true := fun t ht hl => by
    rw [e1, look_put] at hl ⊢
    by_cases hd : o.dst = some t
    · rw [if_pos hd] at hl ⊢
      rw [stamp_to]
      rw [stamp_isLink] at hl
      exact link_in hroot hl
    · rw [if_neg hd] at hl ⊢
      rcases memT_append.1 ht with ht | ht
      · exact link_in (p.cl t ht) hl
      · exact absurd (mem_dstL.1 ht) hd
  have hsb' : ∀ t, memT t (rdL Ts i o) = true → (look (st (i + 1)).sl t).stampsLt (st (i + 1)).cnt := fun t ht => by
    rw [← hsame t ht, ← hcnt3]; exact inv3.stamps t
  -- slots that are not written
  have hnw : ∀ t, memT t (wrL Ts i o) = false → o.dst ≠ some t ∧ look (put o.dst r s2').sl t = look (older (st i).cnt (MD ops Ts st D).sl (MD ops Ts st D).sl) t := fun t ht => by
    have hd : o.dst ≠ some t := fun e => by
      have := (hG.wr i o hi).2 t (mem_dstL.2 e)
      rw [this] at ht; cases ht
    refine ⟨hd, ?_⟩
    rw [look_put, if_neg hd]
    cases hm : memT t (tsAt Ts i) with
    | false => exact p.out' t hm
    | true =>
      have h1 := hst t hm ht
      rw [e1] at h1
      rw [p.agr.at_ t hm, still_eq (p.mv t) hd h1]
      exact (hagr.at_ t hm).symm
  have lkN := look_updD (st := st) hG hDown hi hDi
  let In : Tmp → Prop := fun t => (look (MD ops Ts st D).sl t).stampsLt (st i).cnt ∨ memT t (wrL Ts i o) = true
  have hIn : ∀ t, In t ↔ (look (MD ops Ts st D).sl t).stampsLt (st i).cnt ∨ memT t (wrL Ts i o) = true := fun t => Iff.rfl
  have hrdIn : ∀ t, memT t (rdL Ts i o) = true → In t := fun t ht => .inl (hlo t ht).1
  have hM1 : ∀ t, In t → look (MD ops Ts st (updD D i)).sl t = look (put o.dst r s2').sl t := fun t ht => by
    rw [lkN]
    by_cases hm : memT t (wrL Ts i o) = true
    · rw [if_pos hm]; exact (hsame t ((hG.wr i o hi).1 t hm)).symm
    · rw [if_neg hm, (hnw t (by simpa using hm)).2, lkP]
      have : (look (MD ops Ts st D).sl t).stampsLt (st i).cnt := ((hIn t).1 ht).resolve_right hm
      rw [if_pos this]
  have hM2 : ∀ t, ¬ In t → look (MD ops Ts st (updD D i)).sl t = look (MD ops Ts st D).sl t := fun t ht => by
    rw [lkN, if_neg (fun hm => ht (.inr hm))]
  have hdst : ∀ t, ¬ In t → o.dst ≠ some t := fun t ht e => ht (hrdIn t (memT_append.2 (.inr (mem_dstL.2 e))))
  have hfpP : ∀ u, ∀ c ∈ (if (look (MD ops Ts st D).sl u).stampsLt (st i).cnt then fp u else []), (look (MD ops Ts st D).sl u).stampsLt (st i).cnt ∧ c ∈ fp u := fun u c hc => by
    by_cases hu : (look (MD ops Ts st D).sl u).stampsLt (st i).cnt
    · rw [if_pos hu] at hc; exact ⟨hu, hc⟩
    · rw [if_neg hu] at hc; cases hc
  have hfrom : ∀ t, ∀ c ∈ fp3 t, (∃ u, (look (MD ops Ts st D).sl u).stampsLt (st i).cnt ∧ c ∈ fp u) ∨ w.heap.size ≤ c.1 := fun t c hc => by
    have h7 : (∃ t, c ∈ (if (look (MD ops Ts st D).sl t).stampsLt (st i).cnt then fp t else [])) ∨ w.heap.size ≤ c.1 := Dn.from_ c (by
      rcases hfp3 t c hc with h | h
      · exact .inl h
      · exact .inr h)
    rcases h7 with ⟨u, hu⟩ | h7
    · exact .inl ⟨u, hfpP u c hu⟩
    · exact .inr h7
  have offP : ∀ t, ¬ In t → ∀ c ∈ fp t, ¬ ∃ u, c ∈ (if (look (MD ops Ts st D).sl u).stampsLt (st i).cnt then fp u else []) := by
    rintro t ht c hc ⟨u, hu⟩
    obtain ⟨h8, h9⟩ := hfpP u c hu
    have htu : t ≠ u := fun e => ht (.inl (by rw [e]; exact h8))
    exact hinv.disj t u htu c hc h9
  have hcle : (st (i + 1)).cnt ≤ (st ops.size).cnt := Trace.cnt_le hG hR (by omega) (Nat.le_refl _)
  have invM : ∃ fpM, Inv w' Z' (Act.tm (a.put o.dst v)) (MD ops Ts st (updD D i)) fpM ∧ (∀ t, In t → fpM t = fp3 t) ∧ ∀ t, ¬ In t → fpM t = fp t := by
    refine ⟨_, Inv.merge (In := In) hinv inv3 Dn.zz hM1 hM2 (fun t ht => htm t (hdst t ht)) (fun t ht hl hto => ?_) (fun t ht hl hto => ?_) (fun t ht => ?_) (fun t ht c hcf => ?_) (fun t u ht hu c hcf hcu => ?_) (by rw [hcnt3]; exact hcle) (Nat.le_refl _), fun t ht => if_pos ht, fun t ht => if_neg ht⟩
    · intro hlv
      apply ht
      left
      by_cases hm : memT (look (MD ops Ts st D).sl t).to (wrL Ts i o) = true
      · exact hLI t hl i o hi hDi hm
      · refine live_lt hl hlv ?_
        rw [lkN, if_neg hm]
        exact ((hIn _).1 hto).resolve_right hm
    · have hnrd : memT t (rdL Ts i o) = false := by
        cases hm : memT t (rdL Ts i o) with
        | false => rfl
        | true =>
          exfalso
          rw [hsame t hm] at hl hto
          exact hto (hrdIn _ (memT_append.2 (.inl (hrootT t hm hl))))
      have hnwr : memT t (wrL Ts i o) = false := by
        cases hm : memT t (wrL Ts i o) with
        | false => rfl
        | true => rw [(hG.wr i o hi).1 t hm] at hnrd; cases hnrd
      obtain ⟨hd, hlk⟩ := hnw t hnwr
      refine ⟨?_, htm t hd⟩
      rw [hlk, lkP, if_pos (((hIn t).1 ht).resolve_right (by rw [hnwr]; simp))]
    · refine Dn.goes.same fun c hcc => ?_
      rcases hcc with hcc | hcc
      · exact ⟨(hinv.mine t c hcc).1, offP t ht c hcc⟩
      · refine ⟨hinv.zok c hcc, ?_⟩
        rintro ⟨u, hu⟩
        exact (hinv.mine u c (hfpP u c hu).2).2.2 hcc
    · obtain ⟨m1, m2, m3⟩ := hinv.mine t c hcf
      refine ⟨Dn.goes.some c m1, by rw [Dn.goes.fro c (cell_lt m1)]; exact m2, fun hz => ?_⟩
      rcases Dn.zfrom c hz with h | h | h
      · exact m3 h
      · exact offP t ht c hcf h
      · exact absurd (cell_lt m1) (by omega)
    · rcases hfrom t c hcf with ⟨u', h8, h9⟩ | h
      · have huu : u ≠ u' := fun e => hu (.inl (by rw [e]; exact h8))
        exact hinv.disj u u' huu c hcu h9
      · exact absurd (cell_lt (hinv.mine u c hcu).1) (by omega)
  obtain ⟨fpM, invM, fpI, fpN⟩ := invM
  refine ⟨⟨Z', _, invM, fun c hc => Dn.zz c (h2 c hc), fun c hc => ?_, ?_, fun t c hc => ?_, h6.put hod⟩, fun t hl k ok hk hDk hm => ?_, fun k ok hk hDk t ht => ?_, hS0, hDown'⟩
  · rcases Dn.zfrom c hc with h | ⟨t, ht⟩ | h
    · exact h3 c h
    · exact .inr (h5 t c (hfpP t c ht).2)
    · exact .inr (.inr (Nat.le_trans h4.size h))
  · refine h4.trans Dn.goes fun c hc => ?_
    obtain ⟨t, ht⟩ := hc
    exact h5 t c (hfpP t c ht).2
  · by_cases ht : In t
    · rw [fpI t ht] at hc
      rcases hfrom t c hc with ⟨u, _, h9⟩ | h
      · exact h5 u c h9
      · exact .inr (Nat.le_trans h4.size h)
    · rw [fpN t ht] at hc
      exact h5 t c hc
  · have hki : k ≠ i := fun e => by subst e; simp [updD] at hDk
    have hDk' : D k = false := by simp only [updD] at hDk; rw [if_neg hki] at hDk; exact hDk
    have hkn : k < ops.size := (Array.getElem?_eq_some_iff.1 hk).1
    rw [lkN] at hl hm ⊢
    by_cases hw' : memT t (wrL Ts i o) = true
    · rw [if_pos hw'] at hl hm ⊢
      have hto := hrootT t ((hG.wr i o hi).1 t hw') hl
      rcases hG.conf k i ok o _ hk hi hki hm (memT_append.2 (.inl hto)) with h | h
      · rw [hrd k h] at hDk'; cases hDk'
      · exact stampsLt_mono (hsb' t ((hG.wr i o hi).1 t hw')) (Trace.cnt_le hG hR (by have := h.1; omega) (by omega))
    · rw [if_neg hw'] at hl hm ⊢
      exact hLI t hl k ok hk hDk' hm
  · by_cases hki : k = i
    · subst hki
      rw [hi] at hk
      simp at hk
      subst hk
      exact hsb' t ht
    · have hDk' : D k = true := by simp only [updD] at hDk; rw [if_neg hki] at hDk; exact hDk
      exact hSB k ok hk hDk' t ht
end
end Go.Sx

/- Regions that draw their order are sound; checks that the kernel does. -/
namespace Go.Sx
section
variable {P : Program} {E : Env} {w0 : World} {Z0 : CA → Prop} {F0 : List CA} {n : Nat} {kp : List (Tmp × Value)} {ops : Array Oper} {Ts : List (List Tmp × List Tmp)} {call : Sem1} {st : Nat → St}

def dOf (l : Array Bool) : Nat → Bool := fun i => l.getD i false

theorem dOf_set {l : Array Bool} {i : Nat} (hi : i < l.size) : dOf (l.setIfInBounds i true) = updD (dOf l) i := by
  funext k
  simp only [dOf, updD]
  by_cases h : k = i
  · subst h; simp [hi]
  · rw [if_neg h, getD_set_ne false (Ne.symm h)]

theorem draw_any (hT : TOk P E) (hE : EqOk P E) (hC : ∀ f, CallOk P E call f) (hF : ∀ f args res, call f args = some res → Callable P f) (hG : DrawGood ops Ts) (hR : Trace E call ops Ts st) (hops : ∀ o ∈ ops, okDst n kp o.dst) {Q : Exit → Act → World → Prop}
    (hQ : ∀ a w, SI w0 Z0 F0 n kp (st ops.size) a w → Q .normal a w) : ∀ (fuel : Nat) (listed : Array Bool) (a : Act) (w : World), listed.size = ops.size → left (dOf listed) ops.size ≤ fuel → DI w0 Z0 F0 n kp ops Ts st (dOf listed) a w → wpAny P .any ops Q fuel listed a w := by
  have fin : ∀ (D : Nat → Bool) a w, (∀ k, k < ops.size → D k = true) → DI w0 Z0 F0 n kp ops Ts st D a w → Q .normal a w := by
    intro D a w hD hI
    obtain ⟨Z, fp, hinv, h2, h3, h4, h5, h6⟩ := hI.si
    exact hQ a w ⟨Z, fp, hinv.congr (fun t => (look_allD hG hR hD t).symm) (fun t => hinv.stamps t), h2, h3, h4, h5, h6⟩
  have small : ∀ (listed : Array Bool) (j : Nat), listed.getD j true = false → dOf listed j = false := by
    intro l j h
    simp only [dOf, Array.getD_eq_getD_getElem?] at h ⊢
    cases hx : l[j]? with
    | none => simp
    | some b => rw [hx] at h; simpa using h
  have sizeOf : ∀ (listed : Array Bool) (j : Nat), listed.getD j true = false → j < listed.size := by
    intro l j h
    rcases Nat.lt_or_ge j l.size with h' | h'
    · exact h'
    · simp [Array.getElem?_eq_none h'] at h
  have done : ∀ (listed : Array Bool), listed.size = ops.size → Region.ready .any ops listed = [] → ∀ k, k < ops.size → dOf listed k = true := by
    intro listed hsz hr k
    induction k using Nat.strongRecOn with
    | ind k ih =>
      intro hk
      cases hd : dOf listed k with
      | true => rfl
      | false =>
        exfalso
        have hmem : k ∈ Region.ready .any ops listed := by
          rw [mem_ready]
          refine ⟨?_, ops[k], Array.getElem?_eq_getElem hk, fun e he hb => ?_⟩
          · have hk' : k < listed.size := by omega
            simp only [dOf, Array.getD_eq_getD_getElem?, Array.getElem?_eq_getElem hk', Option.getD_some] at hd ⊢
            exact hd
          · have hlt := hG.back k _ (Array.getElem?_eq_getElem hk) e he hb
            exact ih e.on hlt (by omega)
        rw [hr] at hmem
        cases hmem
  intro fuel
  induction fuel with
  | zero =>
    intro listed a w hsz hle hI
    have hall := left_zero (show left (dOf listed) ops.size = 0 by omega)
    refine ⟨?_, fin _ a w hall hI⟩
    rw [List.eq_nil_iff_forall_not_mem]
    intro j hj
    obtain ⟨h0, o, ho, _⟩ := mem_ready.1 hj
    have := hall j (by have := sizeOf _ _ h0; omega)
    rw [small _ _ h0] at this
    cases this
  | succ fuel ih =>
    intro listed a w hsz hle hI
    refine ⟨fun hr => fin _ a w (done listed hsz hr) hI, fun i hi => ?_⟩
    obtain ⟨h0, o, ho, hall⟩ := mem_ready.1 hi
    have hDi := small _ _ h0
    have hisz := sizeOf _ _ h0
    obtain ⟨sP, Z, fpP, b, s2', r, hinv, hw, hev, hnext⟩ := DI.next hG hR hI ho hDi hall (hops o (Array.mem_of_getElem? ho))
    have go : ∀ v w', Brings w Z (Act.tm a) fpP s2' r v w' → wpAny P .any ops Q fuel (listed.setIfInBounds i true) (a.put o.dst v) w' := by
      intro v w' hb
      refine ih _ _ _ (by simpa using hsz) ?_ ?_
      · rw [dOf_set hisz]
        have := left_upd hDi (n := ops.size) (by omega)
        omega
      · rw [dOf_set hisz]
        exact hnext v w' hb
    unfold wpOp
    rw [ho]
    simp only
    rw [wanted_of hinv hw]
    rcases hev with ⟨hb, hev⟩ | ⟨hb, h1, h2⟩
    · subst hb
      simp only [if_true]
      exact .inl (op_wp hT hE hC hF hinv hev go)
    · subst hb
      subst h1
      subst h2
      simp only [Bool.false_eq_true, if_false]
      exact go undef w ⟨Z, fpP, [], Done.still hinv (x := .tup []) ⟨[], rfl, rfl⟩ trivial⟩

theorem slD_none {W : Nat → List Tmp} {D : Nat → Bool} (h : ∀ k, D k = false) : ∀ k, slD W st D k = (st 0).sl
  | 0 => rfl
  | k + 1 => by simp only [slD]; rw [h k]; simpa using slD_none h k

theorem draw_ok (hm : P.follows .mixedOrders = true) (hT : TOk P E) (hE : EqOk P E) (hC : ∀ f, CallOk P E call f) (hF : ∀ f args res, call f args = some res → Callable P f) {draws : Nat → List (List Tmp × List Tmp)} {id : Nat} (hG : DrawGood ops (draws id)) : DrawOk P E call draws id ops := by
  intro w0 Z0 F0 n kp Q s s' a w hops hQ hSI he
  obtain ⟨st, e0, e1, hR⟩ := trace_of he
  subst e0
  subst e1
  refine wp_region_any hm (draw_any hT hE hC hF hG hR hops hQ _ _ _ _ (by simp) ?_ ?_)
  · have : ∀ (D : Nat → Bool) k, left D k ≤ k := by
      intro D k
      induction k with
      | zero => exact Nat.le_refl _
      | succ k ih => simp only [left]; split <;> omega
    exact this _ _
  · have hnone : ∀ k, dOf (Array.replicate ops.size false) k = false := by
      intro k
      simp only [dOf, Array.getD_eq_getD_getElem?, Array.getElem?_replicate]
      split <;> rfl
    have hMD : MD ops (draws id) st (dOf (Array.replicate ops.size false)) = ⟨(st ops.size).cnt, (st 0).sl⟩ := by
      simp only [MD, slD_none hnone]
    obtain ⟨Z, fp, hinv, h2, h3, h4, h5, h6⟩ := hSI
    have hcnt : ∀ k, k ≤ ops.size → (st 0).cnt ≤ (st k).cnt := fun k hk => Trace.cnt_le hG hR (Nat.zero_le _) hk
    have hinv2 : Inv { w with drawn := w.drawn + 1 } Z (Act.tm a) (st 0) fp := hinv.world (fun _ h => h) (fun t c _ => rfl) (fun t c hc => hinv.mine t c hc) hinv.zok
    refine ⟨?_, ?_, fun k o hk hD => ?_, fun t => hinv.stamps t, fun i o hi hD => ?_⟩
    · rw [hMD]
      refine ⟨Z, fp, hinv2.congr (fun t => rfl) (fun t => stampsLt_mono (hinv.stamps t) (hcnt _ (Nat.le_refl _))), h2, h3, h4.trans (goes_drewN w _ (fun c => c ∈ F0)) (fun c hc => .inl hc), h5, h6⟩
    · rw [hMD]
      intro t _ k o hk _ _
      exact stampsLt_mono (hinv.stamps t) (hcnt k (Nat.le_of_lt (Array.getElem?_eq_some_iff.1 hk).1))
    · rw [hnone k] at hD; cases hD
    · rw [hnone i] at hD; cases hD
end

/-! ### Checks -/

def uni : List Nat → List Nat → List Nat
  | [], b => b
  | x :: a, b => if memT x b then uni a b else x :: uni a b
theorem mem_uni {t : Nat} : ∀ {a b : List Nat}, memT t (uni a b) = true → memT t a = true ∨ memT t b = true
  | [], b, h => .inr h
  | x :: a, b, h => by
    simp only [uni] at h
    split at h
    · rcases mem_uni h with h | h
      · exact .inl (by simp only [memT]; split <;> first | rfl | exact h)
      · exact .inr h
    · simp only [memT] at h
      split at h
      · rename_i e; exact .inl (by simp [memT, e])
      · rcases mem_uni h with h | h
        · exact .inl (by simp only [memT]; split <;> first | rfl | exact h)
        · exact .inr h

def ancOf (acc : List (List Nat)) : List Edge → List Nat
  | [] => []
  | e :: r => if Region.binds .any e then uni [e.on] (uni ((acc[e.on]?).getD []) (ancOf acc r)) else ancOf acc r
def ancGo : List Oper → List (List Nat) → List (List Nat)
  | [], acc => acc
  | o :: r, acc => ancGo r (acc ++ [ancOf acc o.after.toList])

def apartB (a b : List Nat) : Bool := a.all fun t => !memT t b

def drawB (ops : Array Oper) (Ts : List (List Tmp × List Tmp)) : Bool :=
  (List.range ops.size).all fun j => match ops[j]? with
    | none => true
    | some oj => oj.op.operands.toList.all (opIn (tsAt Ts j)) && gIn (tsAt Ts j) (qOf ops.toList oj).guard && oj.after.toList.all (fun e => !Region.binds .any e || decide (e.on < j)) && (wrL Ts j oj).all (fun t => memT t (rdL Ts j oj)) && (dstL oj).all (fun t => memT t (wrL Ts j oj)) &&
      (List.range j).all fun i => match ops[i]? with
        | none => true
        | some oi => memT i (((ancGo ops.toList [])[j]?).getD []) || (apartB (wrL Ts i oi) (rdL Ts j oj) && apartB (wrL Ts j oj) (rdL Ts i oi))

theorem memT_mem {t : Tmp} : ∀ {l : List Tmp}, memT t l = true ↔ t ∈ l
  | [] => by simp [memT]
  | u :: l => by
    simp only [memT, List.mem_cons]
    by_cases h : u = t
    · simp [h]
    · rw [if_neg h, memT_mem]
      constructor
      · exact .inr
      · rintro (e | e)
        · exact absurd e.symm h
        · exact e

theorem apartB_spec {a b : List Nat} (h : apartB a b = true) {t : Nat} (ha : memT t a = true) : memT t b = false := by
  have := List.all_eq_true.1 h t (memT_mem.1 ha)
  simpa using this

section
variable {ops : Array Oper} {Ts : List (List Tmp × List Tmp)}

def AccOk (ops : Array Oper) (acc : List (List Nat)) : Prop := ∀ i l, acc[i]? = some l → ∀ k, memT k l = true → Bef ops k i

theorem ancOf_ok {acc : List (List Nat)} (hacc : AccOk ops acc) {i : Nat} {o : Oper} (hi : ops[i]? = some o) (hback : ∀ e ∈ o.after, Region.binds .any e = true → e.on < i) : ∀ {es : List Edge}, (∀ e ∈ es, e ∈ o.after) → ∀ k, memT k (ancOf acc es) = true → Bef ops k i
  | [], _, k, h => by simp [ancOf, memT] at h
  | e :: r, hes, k, h => by
    have ih := ancOf_ok hacc hi hback (es := r) (fun e he => hes e (List.mem_cons_of_mem _ he))
    have he := hes e (by simp)
    simp only [ancOf] at h
    split at h
    · rename_i hb
      have hlt := hback e he hb
      have h1 : Bef ops e.on i := ⟨hlt, fun D hD hDi => hD i o hi hDi e he hb⟩
      rcases mem_uni h with h | h
      · have : k = e.on := by
          simp only [memT] at h
          split at h
          · rename_i e'; exact e'.symm
          · cases h
        rw [this]; exact h1
      · rcases mem_uni h with h | h
        · cases ha : acc[e.on]? with
          | none => rw [ha] at h; simp [memT] at h
          | some l =>
            rw [ha] at h
            have h2 := hacc _ _ ha k h
            exact ⟨Nat.lt_trans h2.1 hlt, fun D hD hDi => h2.2 D hD (h1.2 D hD hDi)⟩
        · exact ih k h
    · exact ih k h

theorem ancGo_ok (hback : ∀ i o, ops[i]? = some o → ∀ e ∈ o.after, Region.binds .any e = true → e.on < i) : ∀ (l pre : List Oper) {acc : List (List Nat)}, ops.toList = pre ++ l → acc.length = pre.length → AccOk ops acc → AccOk ops (ancGo l acc)
  | [], _, _, _, _, h => h
  | o :: r, pre, acc, hp, hl, h => by
    simp only [ancGo]
    refine ancGo_ok hback r (pre ++ [o]) (by rw [hp]; simp) (by simp [hl]) fun i l hi k hk => ?_
    have ho : ops[pre.length]? = some o := by
      rw [← Array.getElem?_toList, hp, List.getElem?_append_right (Nat.le_refl _)]
      simp
    rcases Nat.lt_or_ge i acc.length with h' | h'
    · rw [List.getElem?_append_left h'] at hi
      exact h i l hi k hk
    · rw [List.getElem?_append_right h'] at hi
      have hi0 : i = acc.length := by
        rcases Nat.eq_zero_or_pos (i - acc.length) with e | e
        · omega
        · rw [List.getElem?_eq_none (by simp; omega)] at hi; cases hi
      subst hi0
      simp at hi
      subst hi
      rw [hl]
      exact ancOf_ok h ho (hback _ _ ho) (fun e he => by simpa using he) k hk

theorem drawB_good (h : drawB ops Ts = true) : DrawGood ops Ts := by
  have at_ : ∀ j oj, ops[j]? = some oj → ((∀ x ∈ oj.op.operands, opIn (tsAt Ts j) x = true) ∧ gIn (tsAt Ts j) (qOf ops.toList oj).guard = true) ∧ (∀ e ∈ oj.after, Region.binds .any e = true → e.on < j) ∧ ((∀ t, memT t (wrL Ts j oj) = true → memT t (rdL Ts j oj) = true) ∧ ∀ t, memT t (dstL oj) = true → memT t (wrL Ts j oj) = true) ∧
      ∀ i oi, i < j → ops[i]? = some oi → memT i (((ancGo ops.toList [])[j]?).getD []) = true ∨ (apartB (wrL Ts i oi) (rdL Ts j oj) = true ∧ apartB (wrL Ts j oj) (rdL Ts i oi) = true) := by
    intro j oj hj
    have hjn : j < ops.size := (Array.getElem?_eq_some_iff.1 hj).1
    have := List.all_eq_true.1 h j (List.mem_range.2 hjn)
    simp only [hj, Bool.and_eq_true] at this
    obtain ⟨⟨⟨⟨⟨h1, h2⟩, h3⟩, h5⟩, h6⟩, h4⟩ := this
    refine ⟨⟨fun x hx => List.all_eq_true.1 h1 x (by simpa using hx), h2⟩, fun e he hb => ?_, ⟨fun t ht => List.all_eq_true.1 h5 t (memT_mem.1 ht), fun t ht => List.all_eq_true.1 h6 t (memT_mem.1 ht)⟩, fun i oi hij hi => ?_⟩
    · have := List.all_eq_true.1 h3 e (by simpa using he)
      rw [hb] at this
      simpa using this
    · have := List.all_eq_true.1 h4 i (List.mem_range.2 hij)
      simp only [hi, Bool.or_eq_true, Bool.and_eq_true] at this
      exact this
  have hback : ∀ i o, ops[i]? = some o → ∀ e ∈ o.after, Region.binds .any e = true → e.on < i := fun i o hi => (at_ i o hi).2.1
  have hanc : AccOk ops (ancGo ops.toList []) := ancGo_ok hback ops.toList [] rfl rfl (fun i l hi => by simp at hi)
  have bef : ∀ i j, memT i (((ancGo ops.toList [])[j]?).getD []) = true → Bef ops i j := by
    intro i j hm
    cases ha : (ancGo ops.toList [])[j]? with
    | none => rw [ha] at hm; simp [memT] at hm
    | some l => rw [ha] at hm; exact hanc j l ha i hm
  refine ⟨fun i o hi => (at_ i o hi).1, fun i o hi => (at_ i o hi).2.2.1, hback, fun i j oi oj t hi hj hij hw hr => ?_⟩
  rcases Nat.lt_or_gt_of_ne hij with hlt | hlt
  · rcases (at_ j oj hj).2.2.2 i oi hlt hi with hm | ⟨ha, _⟩
    · exact .inl (bef i j hm)
    · rw [apartB_spec ha hw] at hr; cases hr
  · rcases (at_ i oi hi).2.2.2 j oj hlt hj with hm | ⟨_, ha⟩
    · exact .inr (bef j i hm)
    · rw [apartB_spec ha hw] at hr; cases hr
end

def dstB (n : Nat) (keep : List Tmp) : Option Tmp → Bool
  | none => true
  | some t => decide (t < n) && !keep.contains t

def goodB (n : Nat) (keep : List Tmp) (draws : Nat → List (List Tmp × List Tmp)) : Code → Bool
  | .region id ops draw => ops.toList.all (fun o => dstB n keep o.dst) && (!draw || (draws id).isEmpty || drawB ops (draws id))
  | .seq x y => goodB n keep draws x && goodB n keep draws y
  | .cond _ x y => goodB n keep draws x && goodB n keep draws y
  | .block _ c => goodB n keep draws c
  | .loop c => goodB n keep draws c
  | _ => true

theorem goodB_good {n : Nat} {keep : List Tmp} {draws : Nat → List (List Tmp × List Tmp)} {kp : List (Tmp × Value)} (hk : ∀ p ∈ kp, keep.contains p.1 = true) {D : Nat → Array Oper → Prop} (hD : ∀ id ops, draws id = [] ∨ DrawGood ops (draws id) → D id ops) : ∀ {c : Code}, goodB n keep draws c = true → Good n kp D c
  | .region id ops draw, h => by
    simp only [goodB, Bool.and_eq_true] at h
    refine ⟨fun o ho t ht => ?_, fun hd => ?_⟩
    · have := List.all_eq_true.1 h.1 o (by simpa using ho)
      rw [ht] at this
      simp only [dstB, Bool.and_eq_true, decide_eq_true_eq, Bool.not_eq_true'] at this
      refine ⟨this.1, fun p hp e => ?_⟩
      have h2 := hk p hp
      rw [e, this.2] at h2
      cases h2
    · subst hd
      have h2 := h.2
      simp only [Bool.not_true, Bool.false_or, Bool.or_eq_true, List.isEmpty_iff] at h2
      exact hD id ops (h2.imp (fun h => h) drawB_good)
  | .seq x y, h => by
    simp only [goodB, Bool.and_eq_true] at h
    exact ⟨goodB_good hk hD h.1, goodB_good hk hD h.2⟩
  | .cond _ x y, h => by
    simp only [goodB, Bool.and_eq_true] at h
    exact ⟨goodB_good hk hD h.1, goodB_good hk hD h.2⟩
  | .block _ c, h => goodB_good (c := c) hk hD h
  | .loop c, h => goodB_good (c := c) hk hD h
  | .skip, _ => trivial
  | .exit _, _ => trivial
  | .ret, _ => trivial
  | .rangeFunc .., _ => trivial
  | .scope _, _ => trivial
  | .label _, _ => trivial
  | .goto _, _ => trivial
  | .refuse _, _ => trivial

def fnB (E : Env) (f : FuncId) (fn : Func) : Bool :=
  match fn.body with
  | none => true
  | some c => !(fn.name == "runtime.NumGoroutine") && goodB fn.ntmps (E.ann f).keep (E.ann f).draws c

def progB (P : Program) (E : Env) : Bool := (P.funcs.toList.zipIdx).all fun p => fnB E p.2 p.1

theorem draw_none {P : Program} {E : Env} {call : Sem1} (hm : P.follows .mixedOrders = true) (hT : TOk P E) (hE : EqOk P E) (hC : ∀ f, CallOk P E call f) (hF : ∀ f args res, call f args = some res → Callable P f) {draws : Nat → List (List Tmp × List Tmp)} {id : Nat} {ops : Array Oper} (h : draws id = []) : DrawOk P E call draws id ops := by
  by_cases he : ops = #[]
  · subst he
    exact draw_ok hm hT hE hC hF ⟨fun i o hi => by simp at hi, fun i o hi => by simp at hi, fun i o hi => by simp at hi, fun i j oi oj t hi => by simp at hi⟩
  · intro w0 Z0 F0 n kp Q s s' a w hops hQ hSI hev
    rw [h] at hev
    exfalso
    cases hl : ops.toList with
    | nil => exact he (by simpa using hl)
    | cons o l => rw [hl] at hev; simp [qsOf, evDraw] at hev

theorem fnOk_of {P : Program} {E : Env} (hm : P.follows .mixedOrders = true) (hT : TOk P E) (hE : EqOk P E) (h : progB P E = true) : ∀ call, Calm P E call → ∀ f, FnOk P E call f := by
  intro call hc f fn c hf hb
  have := List.all_eq_true.1 h (fn, f) (List.mem_zipIdx_iff_getElem?.2 (by simpa using hf))
  simp only [fnB, hb, Bool.and_eq_true, Bool.not_eq_true'] at this
  exact ⟨this.1, fun kp hk => goodB_good hk (fun id ops hg => hg.elim (draw_none hm hT hE hc.1 hc.2) (draw_ok hm hT hE hc.1 hc.2)) this.2⟩

theorem EV_sound {P : Program} {E : Env} (hm : P.follows .mixedOrders = true) (hT : TOk P E) (hE : EqOk P E) (h : progB P E = true) (f : FuncId) : CallOk P E (EV P E) f :=
  EV_ok hT hE (fnOk_of hm hT hE h) f
end Go.Sx

/- The table of types, checked by the kernel. -/
namespace Go.Sx

def lookT {α : Type} : List (Nat × α) → Nat → Option α
  | [], _ => none
  | (u, i) :: r, t => if u = t then some i else lookT r t
theorem lookT_mem {α : Type} {t : Nat} {i : α} : ∀ {l : List (Nat × α)}, lookT l t = some i → (t, i) ∈ l
  | [], h => by simp [lookT] at h
  | (u, j) :: r, h => by
    simp only [lookT] at h
    split at h
    · rename_i e
      simp at h
      subst h; subst e
      simp
    · exact List.mem_cons_of_mem _ (lookT_mem h)

def lookD {α : Type} (l : List (Nat × α)) (d : α) (t : Nat) : α := (lookT l t).getD d

def isAggV : Value → Bool
  | .agg _ => true
  | _ => false

/-- The fields of a struct, beside their offsets and sizes. -/
def offsB (P : Program) : List Field → List (Nat × Nat × Bool) → Bool
  | _, [] => true
  | [], _ :: _ => false
  | fl :: fs, d :: ds => (fl.offset == d.1) && (match P.info? fl.type with | some inf => inf.size == d.2.1 | none => false) && !(d.2.1 == 0) && offsB P fs ds

theorem offsB_ok {P : Program} : ∀ {fs : List Field} {offs : List (Nat × Nat × Bool)}, offsB P fs offs = true → ∀ f d, atL offs f = some d → ∃ fl inf, fs[f]? = some fl ∧ fl.offset = d.1 ∧ P.info? fl.type = some inf ∧ inf.size = d.2.1 ∧ d.2.1 ≠ 0
  | _, [], _, f, d, h => by simp [atL] at h
  | [], _ :: _, h, _, _, _ => by simp [offsB] at h
  | fl :: fs, e :: ds, h, f, d, hd => by
    simp only [offsB, Bool.and_eq_true] at h
    obtain ⟨⟨⟨h1, h2⟩, h3⟩, h4⟩ := h
    cases f with
    | zero =>
      simp [atL] at hd
      subst hd
      cases hi : P.info? fl.type with
      | none => rw [hi] at h2; simp at h2
      | some inf =>
        rw [hi] at h2
        refine ⟨fl, inf, rfl, by simpa using h1, hi, by simpa using h2, by simpa using h3⟩
    | succ f =>
      simp only [atL] at hd
      obtain ⟨fl', inf, a, b⟩ := offsB_ok h4 f d hd
      exact ⟨fl', inf, by simpa using a, b⟩

def nilOwn : List C → Bool
  | [.sl .own _ []] => true
  | _ => false

def kindB (P : Program) (t : TypeId) (i : TI) : Bool :=
  match i.k with
  | .prim => (i.size == 1) && (match P.underlying t with | some d => notAgg d | none => false)
  | .strct offs => match P.underlying t with
    | some (.struct fs) => offsB P fs.toList offs && fs.toList.all fun fl => (P.info? fl.type).isSome
    | _ => false
  | .slc e => (i.size == 1) && nilOwn i.zero && (match P.underlying t with | some (.slice e') => e' == e | _ => false)
  | .ptr e => (i.size == 1) && (match P.underlying t with | some (.pointer e') => e' == e | _ => false)

def zeroTB (P : Program) (t : TypeId) (i : TI) : Bool :=
  match i.zero with
  | [.p (.bool _)] => (match P.underlying t with | some .bool => true | _ => false)
  | [.p (.int k _)] => (match P.underlying t with | some (.int k') => decide (k' = k) | _ => false)
  | [.p (.string _)] => (match P.underlying t with | some .string => true | _ => false)
  | _ => true

def tiB (P : Program) (t : TypeId) (i : TI) : Bool :=
  (match P.info? t with
    | some inf => (inf.size == i.size) && (inf.bytes == i.bytes) && (match inf.zero with
      | some z => (z.cells.size == i.size) && zeroL i.zero z.cells.toList && (if i.k.agg then isAggV z else z.oneCell')
      | none => false)
    | none => false) && decide (i.bytes ≤ 32768) && decide (0 < i.size) && decide (i.size ≤ 4096) && zeroTB P t i && kindB P t i

theorem tiB_ok {P : Program} {t : TypeId} {i : TI} (h : tiB P t i = true) : TIOk P t i := by
  simp only [tiB, Bool.and_eq_true, decide_eq_true_eq] at h
  obtain ⟨⟨⟨⟨⟨h1, h2⟩, h3⟩, h4⟩, h5⟩, h6⟩ := h
  refine ⟨?_, h2, h3, h4, fun b hz => ?_, fun k n hz => ?_, fun b hz => ?_, ?_⟩
  · cases hi : P.info? t with
    | none => rw [hi] at h1; simp at h1
    | some inf =>
      rw [hi] at h1
      simp only [Bool.and_eq_true] at h1
      obtain ⟨⟨a1, a2⟩, a3⟩ := h1
      cases hz : inf.zero with
      | none => rw [hz] at a3; simp at a3
      | some z =>
        rw [hz] at a3
        simp only [Bool.and_eq_true] at a3
        obtain ⟨⟨b1, b2⟩, b3⟩ := a3
        refine ⟨inf, z, rfl, by simpa using a1, by simpa using a2, hz, by simpa using b1, b2, fun ha => ?_, fun ha => ?_⟩
        · rw [ha] at b3; simpa using b3
        · rw [ha] at b3
          simp only [if_true] at b3
          cases z <;> simp [isAggV] at b3
          exact ⟨_, rfl⟩
  · simp only [zeroTB, hz] at h5
    split at h5
    · assumption
    · cases h5
  · simp only [zeroTB, hz] at h5
    split at h5
    · rename_i k' hk
      simp at h5
      subst h5
      exact hk
    · cases h5
  · simp only [zeroTB, hz] at h5
    split at h5
    · assumption
    · cases h5
  · unfold kindB at h6
    cases hk : i.k with
    | prim =>
      rw [hk] at h6
      simp only [Bool.and_eq_true] at h6
      refine ⟨by simpa using h6.1, ?_⟩
      cases hu : P.underlying t with
      | none => rw [hu] at h6; simp at h6
      | some d => rw [hu] at h6; exact ⟨d, rfl, h6.2⟩
    | strct offs =>
      rw [hk] at h6
      simp only at h6
      split at h6
      · rename_i fs hu
        simp only [Bool.and_eq_true] at h6
        refine ⟨fs, hu, fun f d hd => ?_, fun fl hfl => List.all_eq_true.1 h6.2 fl hfl⟩
        obtain ⟨fl, inf, a, b⟩ := offsB_ok h6.1 f d hd
        exact ⟨fl, inf, by simpa using a, b⟩
      · cases h6
    | slc e =>
      rw [hk] at h6
      simp only [Bool.and_eq_true] at h6
      refine ⟨by simpa using h6.1.1, ?_, ?_⟩
      · have h7 := h6.2
        split at h7
        · rename_i e' hu
          simp at h7
          subst h7
          exact hu
        · cases h7
      · have h7 := h6.1.2
        unfold nilOwn at h7
        split at h7
        · rename_i sz hz; exact ⟨sz, hz⟩
        · cases h7
    | ptr e =>
      rw [hk] at h6
      simp only [Bool.and_eq_true] at h6
      refine ⟨by simpa using h6.1, ?_⟩
      have h7 := h6.2
      split at h7
      · rename_i e' hu
        simp at h7
        subst h7
        exact hu
      · cases h7

theorem tok_of {P : Program} {tbl : List (Nat × TI)} {eqT : TypeId → Bool} {ann : FuncId → Ann} (h : tbl.all (fun p => tiB P p.1 p.2) = true) : TOk P ⟨lookT tbl, eqT, ann⟩ := by
  intro t i hi
  exact tiB_ok (List.all_eq_true.1 h (t, i) (lookT_mem hi))

theorem eqOk_none {P : Program} {T : TypeId → Option TI} {ann : FuncId → Ann} : EqOk P ⟨T, fun _ => false, ann⟩ := by
  intro t h
  cases h
end Go.Sx

/- From a row's arguments to trees, and back to the row. -/
namespace Go.Sx

/-- Trees of a type: what a row's arguments are. -/
def CTs (R : TypeId → List C → Prop) (P : Program) : List TypeId → List C → Prop
  | [], tr => tr = []
  | t :: ts, tr => ∃ a b, tr = a ++ b ∧ a.length = P.cellsOf t ∧ R t a ∧ CTs R P ts b
def CT (P : Program) : Nat → TypeId → List C → Prop
  | 0, _, _ => False
  | n + 1, t, tr => match P.underlying t with
    | some .bool => ∃ b, tr = [.p (.bool b)]
    | some (.int k) => ∃ m, tr = [.p (.int k m)] ∧ (Lit.int k m).wf = true
    | some .string => ∃ s : ByteArray, tr = [.p (.string s)] ∧ s.size ≤ maxLen
    | some (.slice e) => ∃ rows : List (List C), tr = [.sl .shr (P.cellsOf e) rows] ∧ rows.length ≤ maxLen ∧ ∀ r ∈ rows, CT P n e r
    | some (.struct fs) => CTs (CT P n) P (fs.toList.map (·.type)) tr
    | _ => False

/-- Types whose arguments are opened here. -/
def okT (P : Program) : Nat → TypeId → Bool
  | 0, _ => false
  | n + 1, t => match P.underlying t with
    | some .bool => true
    | some (.int _) => true
    | some .string => true
    | some (.slice e) => decide (0 < P.cellsOf e) && okT P n e
    | some (.struct fs) => fs.toList.all fun f => okT P n f.type
    | _ => false

/-- The whole memory of a world. -/
def allZ (w : World) : CA → Prop := fun c => (cell w c).isSome = true

theorem RL.cellsNil {w : World} {Z : CA → Prop} : ∀ {cs ds : List C} {l m : List Value}, RL w Z cs (fun i => l[i]?) [] → cs.length = l.length → RL w Z ds (fun i => m[i]?) [] → RL w Z (cs ++ ds) (fun i => (l ++ m)[i]?) [] := by
  intro cs ds l m h1 hl h2
  have := RL.append (RL.same (fun _ h => h) cs h1 (fun _ _ => rfl) (get' := fun i => (l ++ m)[i]?) (fun i hi => by rw [List.getElem?_append_left (by omega)])) (F := []) (G := []) (ds := ds) (by
    refine RL.same (fun _ h => h) ds h2 (fun _ _ => rfl) (fun i hi => ?_)
    rw [List.getElem?_append_right (by omega)]
    congr 1
    omega)
  simpa using this

section
variable {H : Type} {enc : TypeId × Value → H} {P : Program} {w : World} {T : TypeId → Prop} {held : Bool} {spare : Nat → Bool}

theorem rows_of {w : World} {Z : CA → Prop} {sz b : Nat} {p : List C → Prop} : ∀ (n o : Nat), (∀ i, i < n → ∃ r : List C, r.length = sz ∧ RL w Z r (fun j => cell w (b, o + i * sz + j)) [] ∧ p r) → ∃ rows : List (List C), rows.length = n ∧ RRs w Z rows sz b o [] ∧ ∀ r ∈ rows, p r
  | 0, o, _ => ⟨[], rfl, rfl, fun r hr => by cases hr⟩
  | n + 1, o, h => by
    obtain ⟨r, h1, h2, h3⟩ := h 0 (by omega)
    obtain ⟨rows, k1, k2, k3⟩ := rows_of n (o + sz) fun i hi => by
      obtain ⟨r, h1, h2, h3⟩ := h (i + 1) (by omega)
      refine ⟨r, h1, ?_, h3⟩
      have e : (fun j => cell w (b, o + sz + i * sz + j)) = fun j => cell w (b, o + (i + 1) * sz + j) := by
        funext j
        congr 2
        rw [Nat.add_mul, Nat.one_mul]
        omega
      rw [e]
      exact h2
    refine ⟨r :: rows, by simp [k1], ⟨h1, [], [], by simpa using h2, k2, rfl⟩, fun r' hr' => ?_⟩
    rcases List.mem_cons.1 hr' with rfl | hr'
    · exact h3
    · exact k3 r' hr'

theorem fields_of {R : TypeId → List C → Prop} {Z : CA → Prop} (cs : List Value) : ∀ (fs : List Field) (off : Nat), (∀ (j : Nat) f, fs[j]? = some f → f.offset = off + ((fs.take j).map fun f => P.cellsOf f.type).sum) → cs.length = off + (fs.map fun f => P.cellsOf f.type).sum →
    (∀ f ∈ fs, ∃ tr : List C, tr.length = ((cs.drop f.offset).take (P.cellsOf f.type)).length ∧ RL w Z tr (fun i => ((cs.drop f.offset).take (P.cellsOf f.type))[i]?) [] ∧ R f.type tr) →
    ∃ tr : List C, tr.length = (cs.drop off).length ∧ RL w Z tr (fun i => (cs.drop off)[i]?) [] ∧ CTs R P (fs.map (·.type)) tr
  | [], off, _, hl, _ => by
    refine ⟨[], by simp at hl ⊢; omega, rfl, rfl⟩
  | f :: fs, off, ho, hl, h => by
    obtain ⟨a, a1, a2, a3⟩ := h f (by simp)
    have hf0 : f.offset = off := by have := ho 0 f rfl; simpa using this
    have hsum : ((f :: fs).map fun f => P.cellsOf f.type).sum = P.cellsOf f.type + (fs.map fun f => P.cellsOf f.type).sum := by simp
    obtain ⟨b, b1, b2, b3⟩ := fields_of cs fs (off + P.cellsOf f.type) (fun j g hg => by
      have := ho (j + 1) g (by simpa using hg)
      rw [this]
      simp
      omega) (by rw [hl, hsum]; omega) (fun g hg => h g (List.mem_cons_of_mem _ hg))
    rw [hf0] at a1 a2
    have hlen : ((cs.drop off).take (P.cellsOf f.type)).length = P.cellsOf f.type := by simp; omega
    refine ⟨a ++ b, ?_, ?_, a, b, rfl, by rw [a1, hlen], a3, b3⟩
    · simp only [List.length_append, a1, b1, hlen, List.length_drop]
      omega
    · have hsplit : cs.drop off = (cs.drop off).take (P.cellsOf f.type) ++ cs.drop (off + P.cellsOf f.type) := by
        rw [← List.drop_drop]
        exact (List.take_append_drop _ _).symm
      rw [hsplit]
      exact RL.cellsNil a2 a1 b2

theorem Addr.add_plain {a : Addr} {n : Nat} (h : a.spot = none) : a.add n = ⟨a.block, a.off + n, none⟩ := by
  obtain ⟨b, o, s⟩ := a
  simp only at h
  subst h
  unfold Addr.add
  split
  · rename_i h; subst h; rfl
  · rfl

theorem mapM_at {α β : Type} {f : α → Option β} : ∀ {l : List α} {r : List β}, l.mapM f = some r → ∀ x ∈ l, ∃ y, f x = some y
  | [], _, _, x, hx => by cases hx
  | a :: l, r, h, x, hx => by
    simp only [List.mapM_cons, Option.bind_eq_bind, Option.bind_eq_some_iff] at h
    obtain ⟨y, h1, r', h2, _⟩ := h
    rcases List.mem_cons.1 hx with rfl | hx
    · exact ⟨y, h1⟩
    · exact mapM_at h2 x hx

theorem open_cells (K : Kids P T) : ∀ (m : Nat) (t : TypeId), okT P m t = true → T t → ∀ (fuel : Nat) (cs : List Value) (x : DataW H × List MemPlace), DataW.trod enc P w 0 spare held fuel t cs = some x →
    ∃ tr : List C, tr.length = cs.length ∧ RL w (allZ w) tr (fun i => cs[i]?) [] ∧ CT P m t tr
  | 0, t, h, _, _, _, _, _ => by simp [okT] at h
  | m + 1, t, hok, hT, 0, cs, x, h => by simp [DataW.trod] at h
  | m + 1, t, hok, hT, fuel + 1, cs0, x, h => by
    have ih := open_cells K m
    rw [DataW.trod_step] at h
    unfold DataW.trodStep at h
    split at h
    case h_1 b hu =>
      exact ⟨[.p (.bool b)], rfl, ⟨_, [], [], rfl, ⟨rfl, rfl, rfl⟩, rfl, rfl⟩, by simp only [CT, hu]; exact ⟨b, rfl⟩⟩
    case h_2 k k' n hu =>
      split at h
      · rename_i hk
        obtain ⟨rfl, hw⟩ := hk
        exact ⟨[.p (.int k' n)], rfl, ⟨_, [], [], rfl, ⟨rfl, rfl, rfl⟩, rfl, rfl⟩, by simp only [CT, hu]; exact ⟨n, rfl, hw⟩⟩
      · cases h
    case h_4 s hu =>
      split at h
      · rename_i hs
        exact ⟨[.p (.string s)], rfl, ⟨_, [], [], rfl, ⟨rfl, rfl, rfl⟩, rfl, rfl⟩, by simp only [CT, hu]; exact ⟨s, rfl, hs⟩⟩
      · cases h
    case h_7 e hu =>
      refine ⟨[.sl .shr (P.cellsOf e) []], rfl, ⟨_, [], [], rfl, ⟨none, 0, rfl, Nat.le_refl _, .inl ⟨rfl, rfl, .inl rfl⟩⟩, rfl, rfl⟩, by simp only [CT, hu]; exact ⟨[], rfl, by simp [maxLen], fun r hr => by cases hr⟩⟩
    case h_8 e a len cap hu =>
      simp only at h
      split at h
      · rename_i hc
        simp only [okT, hu, Bool.and_eq_true, decide_eq_true_eq] at hok
        simp only [Option.map_eq_some_iff, Option.bind_eq_some_iff] at h
        obtain ⟨elems, he, rest, _, _⟩ := h
        have elem : ∀ i, i < len → ∃ (cs' : List Value) (y : DataW H × List MemPlace), w.cells? 0 (a.add (i * P.cellsOf e)) (P.cellsOf e) = some cs' ∧ DataW.trod enc P w 0 spare held fuel e cs' = some y := by
          intro i hi
          obtain ⟨y, hy⟩ := mapM_at he i (List.mem_range.2 hi)
          simp only [Option.bind_eq_some_iff] at hy
          obtain ⟨cs', h1, h2⟩ := hy
          exact ⟨cs', y, h1, h2⟩
        by_cases h0 : len = 0
        · subst h0
          refine ⟨[.sl .shr (P.cellsOf e) []], rfl, ⟨_, [], [], rfl, ⟨some a, cap, rfl, Nat.zero_le _, .inl ⟨rfl, rfl, .inl rfl⟩⟩, rfl, rfl⟩, by simp only [CT, hu]; exact ⟨[], rfl, by simp [maxLen], fun r hr => by cases hr⟩⟩
        · have hspot : a.spot = none := by
            obtain ⟨cs', y, h1, _⟩ := elem 0 (by omega)
            obtain ⟨_, hl, hcell⟩ := World.cells?_some h1
            have h2 := hcell 0 hok.1
            have e1 : (a.add (0 * P.cellsOf e)).add 0 = a := by simp [Addr.add]
            rw [e1] at h2
            obtain ⟨v, hv⟩ : ∃ v, cs'[0]? = some v := ⟨cs'[0], List.getElem?_eq_getElem (by omega)⟩
            rw [hv] at h2
            unfold World.cell? at h2
            split at h2
            · split at h2
              · cases h2
              · rename_i hs; simpa using hs
            · cases h2
          have hcells : ∀ i, i < len → ∃ cs' : List Value, cs'.length = P.cellsOf e ∧ (∀ j, j < P.cellsOf e → cell w (a.block, a.off + i * P.cellsOf e + j) = cs'[j]?) ∧ ∃ y, DataW.trod enc P w 0 spare held fuel e cs' = some y := by
            intro i hi
            obtain ⟨cs', y, h1, h2⟩ := elem i hi
            obtain ⟨_, hl, hcell⟩ := World.cells?_some h1
            refine ⟨cs', hl, fun j hj => ?_, y, h2⟩
            rw [← hcell j hj, Addr.add_plain hspot, Addr.add_plain rfl]
            rfl
          obtain ⟨rows, r1, r2, r3⟩ := rows_of (w := w) (Z := allZ w) (sz := P.cellsOf e) (b := a.block) (p := CT P m e) len a.off fun i hi => by
            obtain ⟨cs', k1, k2, y, k3⟩ := hcells i hi
            obtain ⟨tr, t1, t2, t3⟩ := ih e hok.2 (K.slice hT hu) fuel cs' y k3
            refine ⟨tr, by rw [t1, k1], ?_, t3⟩
            exact RL.same (fun _ h => h) tr t2 (fun _ _ => rfl) (fun j hj => k2 j (by omega))
          obtain ⟨ab, ao, asp⟩ := a
          simp only at hspot
          subst hspot
          refine ⟨[.sl .shr (P.cellsOf e) rows], rfl, ⟨_, [], [], rfl, ⟨some ⟨ab, ao, none⟩, cap, by rw [r1], by rw [r1]; exact hc.2.1, .inl ⟨rfl, rfl, .inr ⟨ab, ao, rfl, r2, fun c hcm => ?_⟩⟩⟩, rfl, rfl⟩, by simp only [CT, hu]; exact ⟨rows, rfl, by rw [r1]; omega, r3⟩⟩
          rw [mem_span, r1] at hcm
          simp only at hcm
          obtain ⟨c1, c2, c3⟩ := hcm
          have hsz := hok.1
          have hq : (c.2 - ao) / P.cellsOf e < len := by
            rw [Nat.div_lt_iff_lt_mul hsz]
            omega
          obtain ⟨cs', k1, k2, _⟩ := hcells _ hq
          have hmod := Nat.mod_lt (c.2 - ao) hsz
          have := k2 ((c.2 - ao) % P.cellsOf e) hmod
          have e2 : ao + (c.2 - ao) / P.cellsOf e * P.cellsOf e + (c.2 - ao) % P.cellsOf e = c.2 := by
            have := Nat.div_add_mod (c.2 - ao) (P.cellsOf e)
            rw [Nat.mul_comm] at this
            omega
          simp only at this
          rw [e2, ← c1] at this
          show (cell w (c.1, c.2)).isSome = true
          rw [this, List.getElem?_eq_getElem (by omega)]
          rfl
      · cases h
    case h_9 fs hu =>
      rename_i r1 r2 r3
      split at h
      · rename_i hlen
        simp only [okT, hu, List.all_eq_true] at hok
        simp only [Option.map_eq_some_iff] at h
        obtain ⟨xs, hx, _⟩ := h
        obtain ⟨k1, k2, k3⟩ := K.struct hT hu
        obtain ⟨tr, t1, t2, t3⟩ := fields_of (P := P) (w := w) (Z := allZ w) (R := CT P m) r1 fs.toList 0 (fun j f hj => by rw [k3 j f hj]; omega) (by rw [hlen, k2]; omega) fun f hf => by
          obtain ⟨y, hy⟩ := mapM_at hx f hf
          obtain ⟨tr, t1, t2, t3⟩ := ih f.type (hok f hf) (k1 f hf) fuel _ y hy
          exact ⟨tr, t1, t2, t3⟩
        refine ⟨tr, by simpa using t1, by simpa using t2, by simp only [CT, hu]; exact t3⟩
      · cases h
    all_goals first
      | (rename_i hu _; simp [okT, hu] at hok; done)
      | (rename_i hu; simp [okT, hu] at hok; done)
      | (cases h; done)
      | skip

def isStr (P : Program) (t : TypeId) : Bool := match P.underlying t with | some (.struct _) => true | _ => false
/-- An argument of a row, as the evaluator is handed it. -/
def argS (P : Program) (t : TypeId) (tr : List C) : S := .val 0 (isStr P t) tr

theorem open_arg (K : Kids P T) {m : Nat} {t : TypeId} (hok : okT P m t = true) (hT : T t) {r : Go.Reach} {base : Nat} {v : Value} (hval : Value.okWide P w r base t v) {d : DataW H} {ps : List MemPlace} (hd : DataW.Trod enc P w 0 spare held t v d ps) :
    ∃ tr, CT P m t tr ∧ ARep w (allZ w) (argS P t tr) v [] := by
  obtain ⟨fuel, hf⟩ := hd
  obtain ⟨tr, t1, t2, t3⟩ := open_cells K m t hok hT fuel _ _ hf
  refine ⟨tr, t3, v.cells.toList, ?_, by simpa using t1.symm, t2⟩
  cases m with
  | zero => simp [okT] at hok
  | succ m =>
    unfold Value.okWide at hval
    unfold isStr
    split at hval
    · rename_i hu
      obtain ⟨cs, rfl, _⟩ := hval
      rw [hu]
      exact .inl ⟨rfl, rfl⟩
    · rename_i hu
      simp [okT, hu] at hok
    · rename_i hn1 hn2
      have hns : (match P.underlying t with | some (.struct _) => true | _ => false) = false := by
        split
        · rename_i fs hu; exact absurd hu (hn1 fs)
        · rfl
      rw [hns]
      have hna : ∀ cs, v ≠ .agg cs := by
        rintro cs rfl
        unfold Cell.okWide at hval
        split at hval <;> first | (rename_i h; cases h; done) | (rename_i h _; cases h; done) | skip
        all_goals
          unfold Cell.ok at hval
          split at hval <;> first | exact hval | (rename_i h; cases h; done) | (rename_i h _; cases h; done)
      right
      have hc : v.cells.toList = [v] := by cases v <;> first | rfl | exact absurd rfl (hna _)
      refine ⟨rfl, hc, ?_⟩
      rw [hc] at t1 t2
      -- a single cell
      obtain ⟨c, rfl⟩ : ∃ c, tr = [c] := by
        cases tr with
        | nil => simp at t1
        | cons c r => cases r with
          | nil => exact ⟨c, rfl⟩
          | cons _ _ => simp at t1
      obtain ⟨u, F1, F2, h0, hrc, _, _⟩ := t2
      simp at h0
      subst h0
      cases c with
      | p u => obtain ⟨rfl, h, _⟩ := hrc; exact h
      | hole => exact hrc.1
      | sl f sz rows => obtain ⟨ad, cap, rfl, _⟩ := hrc; rfl

/-- Trees for a list of types. -/
def CTall (P : Program) (m : Nat) : List TypeId → List (List C) → Prop
  | [], [] => True
  | t :: ts, tr :: trs => CT P m t tr ∧ CTall P m ts trs
  | [], _ :: _ => False
  | _ :: _, [] => False
def argsS (P : Program) : List TypeId → List (List C) → List S
  | t :: ts, tr :: trs => argS P t tr :: argsS P ts trs
  | _, _ => []

theorem open_args (K : Kids P T) {m : Nat} {r : Go.Reach} {base : Nat} : ∀ {ts : List TypeId} {vs : List Value} {ds : List (DataW H)} {ps : List MemPlace}, ts.all (okT P m) = true → (∀ t ∈ ts, T t) →
    (∀ (j : Nat) t v, ts[j]? = some t → vs[j]? = some v → Value.okWide P w r base t v) → DataW.TrodAll enc P w 0 spare held ts vs ds ps → ∃ trs, CTall P m ts trs ∧ ARs w (allZ w) (argsS P ts trs) vs []
  | [], [], [], _, _, _, _, _ => ⟨[], trivial, rfl⟩
  | t :: ts, v :: vs, d :: ds, ps, hok, hT, hval, ⟨p, q, h1, h2, _⟩ => by
    simp only [List.all_cons, Bool.and_eq_true] at hok
    obtain ⟨tr, a1, a2⟩ := open_arg K hok.1 (hT t (by simp)) (hval 0 t v rfl rfl) h1
    obtain ⟨trs, b1, b2⟩ := open_args K hok.2 (fun u hu => hT u (List.mem_cons_of_mem _ hu)) (fun j u y hu hy => hval (j + 1) u y (by simpa using hu) (by simpa using hy)) h2
    exact ⟨tr :: trs, ⟨a1, b1⟩, [], [], a2, b2, rfl⟩

theorem trodAll_carry {w' : World} {base : Nat} {sp : Nat → Bool} : ∀ {ts : List TypeId} {vs : List Value} {ds : List (DataW H)} {ps : List MemPlace}, DataW.TrodAll enc P w base sp held ts vs ds ps → (∀ p ∈ ps, w.sameAt w' p) → DataW.TrodAll enc P w' base sp held ts vs ds ps
  | [], [], [], _, h, _ => h
  | _ :: _, _ :: _, _ :: _, _, ⟨p, q, ⟨n, h1⟩, h2, e⟩, hs => by
    subst e
    exact ⟨p, q, ⟨n, DataW.trod_carry n _ _ _ h1 (fun x hx => hs x (List.mem_append_left _ hx))⟩, trodAll_carry h2 (fun x hx => hs x (List.mem_append_right _ hx)), rfl⟩
end

/-- A law whose evaluation is true at all trees: what its row asks. -/
theorem law_row {H : Type} {enc : TypeId × Value → H} {P : Program} {E : Env} {f : FuncId} {fn : Func} (s : ChangeSpec) {m : Nat} (K : Kids P (· < P.types.size)) (hz : ∀ t e, t < P.types.size → P.underlying t = some (.slice e) → 0 < P.cellsOf e)
    (hfn : P.funcs[f]? = some fn) (hvars : s.vars = []) (hok : fn.params.toList.all (okT P m) = true) (hts : fn.params.toList.all (fun t => decide (t < P.types.size)) = true) {tb : TypeId} (hres : fn.resultTypes.toList = [tb]) (hrs : fn.resultTypes.size = 1) (hb : P.underlying tb = some .bool)
    (hspec : ∀ ds : List (DataW H), ds.length = fn.params.size → s.fn H ds = { results := [.lit (.bool true)], args := ds }) (hS : CallOk P E (EV P E) f) (hmodes : (E.ann f).modes = [])
    (hlaw : ∀ trs, CTall P m fn.params.toList trs → EV P E f (argsS P fn.params.toList trs) = some ⟨[(false, [.p (.bool true)])], []⟩)
    (W : World) (base : Nat) (args : Array Value) (ds gs : List (DataW H)) (before : List MemPlace) (hval : ∀ (j : Nat) t v, fn.params[j]? = some t → args[j]? = some v → Value.okWide P W .any base t v)
    (hW : DataW.Whole enc P fn.params.toList s.vars false W args.toList ds gs before) : Calls P f args W fun e W' => ∃ v, e = .returned v ∧ s.post enc P fn false true false false W args v W' := by
  have hW' := hW
  obtain ⟨p, q, hA, hV, rfl, hfz, hnd⟩ := hW
  rw [hvars] at hV
  have hgs : gs = [] ∧ q = [] := by
    cases gs with
    | nil => exact ⟨rfl, hV⟩
    | cons g gs => exact hV.elim
  obtain ⟨rfl, rfl⟩ := hgs
  have hT : ∀ t ∈ fn.params.toList, t < P.types.size := fun t ht => by simpa using List.all_eq_true.1 hts t ht
  obtain ⟨trs, c1, c2⟩ := open_args (r := .any) (base := base) K hok hT (fun j t v ht hv => hval j t v (by simpa using ht) (by simpa using hv)) hA
  have hcall := hS _ _ W (allZ W) [] _ (hlaw trs c1) c2 List.nodup_nil (by simp) (fun c h => h)
  have hargs : args.toList.toArray = args := by simp
  rw [hargs] at hcall
  refine hcall.mono fun e W' h => ?_
  cases e with
  | outgrown => exact h.elim
  | panicked c => exact h.elim
  | returned v =>
    obtain ⟨Z', F1, F2, G, hg, h1, h2, h3, h4, _⟩ := h
    have hv : v = .bool true := by
      obtain ⟨vs, hp, hl, hr⟩ := h4
      obtain ⟨e1, e2⟩ := packs_one hp hl hr
      exact e2.1
    subst hv
    have bel : RowKit.Below W.heap.size W W' := hg.below (fun c hc => by cases hc)
    have hlt : ∀ x ∈ p, x.block < W.heap.size := hA.lt
    have hA2 := DataW.TrodAll.respare (spare' := fun b => decide (b < W.heap.size)) K hz hT hA (fun x hx => by simpa using hlt x hx)
    have hA3 := trodAll_carry hA2 (fun x hx => bel.same (hlt x hx))
    have hdl : ds.length = fn.params.size := by simpa using (trodAll_length hA).2
    have hsp : s.fn H (ds ++ []) = { results := [.lit (.bool true)], args := ds } := by rw [List.append_nil]; exact hspec ds hdl
    refine ⟨_, rfl, ds, [], p ++ [], [], p, [], hW', ?_, ?_, ?_, bel.frame _, fun h => by cases h⟩
    · rw [hres, hsp, hrs]
      exact ChangeShapes.trodAll_mk1 (RowKit.shut_bool hb true)
    · rw [hsp]; exact hA3
    · rw [hvars, hsp]; rfl
end Go.Sx

/- Loops, and lists of the language's values. -/
namespace Go.Sx

/-- What comes of a round: the next head, or what the block ends with. -/
def nxtB (F : Fr) (id : Nat) (live : List Tmp) : Option O → Option (St ⊕ O)
  | some (.norm s) => some (.inl (mask live s))
  | some (.exit k s) => bnd (endOf F id (.exit k s)) fun o => some (.inr o)
  | some (.ret r) => some (.inr (.ret r))
  | none => none
theorem rvN : (∀ F id live s, nxtB F id live (some (.norm s)) = some (.inl (mask live s))) ∧ (∀ F id live k s, nxtB F id live (some (.exit k s)) = bnd (endOf F id (.exit k s)) fun o => some (.inr o)) ∧ (∀ F id live r, nxtB F id live (some (.ret r)) = some (.inr (.ret r))) :=
  ⟨fun _ _ _ _ => rfl, fun _ _ _ _ _ => rfl, fun _ _ _ _ => rfl⟩

theorem blockO_of {F : Fr} {id : Nat} {live : List Tmp} {g : St → Option O} {s s1 : St} {o : O} (hs : mask live s = s1) (h : nxtB F id live (g s1) = some (.inr o)) : blockO F id (itω live g s) = some o := by
  rw [itω_eq, hs]
  cases hg : g s1 with
  | none => rw [hg] at h; cases h
  | some q =>
    rw [hg] at h
    cases q with
    | norm s' => simp [nxtB] at h
    | exit k s' =>
      obtain ⟨o', h1, h2⟩ := bnd_eq_some.1 (show bnd (endOf F id (.exit k s')) _ = some (Sum.inr o) from h)
      simp at h2
      subst h2
      exact h1
    | ret r =>
      simp [nxtB] at h
      subst h
      rfl

theorem blockO_next {F : Fr} {id : Nat} {live : List Tmp} {g : St → Option O} {s s1 s2 : St} (hs : mask live s = s1) (h : nxtB F id live (g s1) = some (.inl s2)) : ∃ s', mask live s' = s2 ∧ blockO F id (itω live g s) = blockO F id (itω live g s') := by
  rw [itω_eq, hs]
  cases hg : g s1 with
  | none => rw [hg] at h; cases h
  | some q =>
    rw [hg] at h
    cases q with
    | norm s' =>
      simp [nxtB] at h
      exact ⟨s', h, rfl⟩
    | exit k s' =>
      obtain ⟨o', h1, h2⟩ := bnd_eq_some.1 (show bnd (endOf F id (.exit k s')) _ = some (Sum.inl s2) from h)
      simp at h2
    | ret r => simp [nxtB] at h

/-- A loop over a list: 'I i a': the head of round i, where the variables are a; 'G r i a': what comes of it where r is left. -/
theorem for_block {α β : Type} {F : Fr} {id : Nat} {live : List Tmp} {g : St → Option O} (l : List β) (I : Nat → α → St) (ok : Nat → α → Prop) (G : List β → Nat → α → O)
    (hstep : ∀ i x r a, l.drop i = x :: r → l[i]? = some x → ok i a → (∃ b, nxtB F id live (g (I i a)) = some (.inl (I (i + 1) b)) ∧ ok (i + 1) b ∧ G (x :: r) i a = G r (i + 1) b) ∨ nxtB F id live (g (I i a)) = some (.inr (G (x :: r) i a)))
    (hend : ∀ a, ok l.length a → nxtB F id live (g (I l.length a)) = some (.inr (G [] l.length a)))
    {a : α} (h0 : ok 0 a) {s : St} (hs : mask live s = I 0 a) : blockO F id (itω live g s) = some (G l 0 a) := by
  have key : ∀ (r : List β) (i : Nat) (a : α) (s : St), l.drop i = r → i ≤ l.length → ok i a → mask live s = I i a → blockO F id (itω live g s) = some (G r i a) := by
    intro r
    induction r with
    | nil =>
      intro i a s hr hi hok hs
      have hi' : i = l.length := by
        have := congrArg List.length hr
        simp at this
        omega
      subst hi'
      exact blockO_of hs (hend a hok)
    | cons x r ih =>
      intro i a s hr hi hok hs
      have hx : l[i]? = some x := by
        have := congrArg (·[0]?) hr
        simpa using this
      have hlt : i < l.length := (List.getElem?_eq_some_iff.1 hx).1
      have hdr : l.drop (i + 1) = r := by rw [← List.drop_drop, hr]; rfl
      rcases hstep i x r a hr hx hok with ⟨b, h1, h2, h3⟩ | h1
      · obtain ⟨s', e1, e2⟩ := blockO_next hs h1
        rw [e2, h3]
        exact ih (i + 1) b s' hdr (by omega) h2 e1
      · exact blockO_of hs h1
  exact key l 0 a s rfl (Nat.zero_le _) h0 hs

/-- A loop with a measure. -/
theorem while_block {ι : Type} {F : Fr} {id : Nat} {live : List Tmp} {g : St → Option O} (I : ι → St) (ok : ι → Prop) (G : ι → O) (meas : ι → Nat)
    (hstep : ∀ i, ok i → (∃ j, nxtB F id live (g (I i)) = some (.inl (I j)) ∧ ok j ∧ meas j < meas i ∧ G i = G j) ∨ nxtB F id live (g (I i)) = some (.inr (G i)))
    {i : ι} (h0 : ok i) {s : St} (hs : mask live s = I i) : blockO F id (itω live g s) = some (G i) := by
  have key : ∀ n i s, meas i = n → ok i → mask live s = I i → blockO F id (itω live g s) = some (G i) := by
    intro n
    induction n using Nat.strongRecOn with
    | _ n ih =>
      intro i s hn hok hs
      rcases hstep i hok with ⟨j, h1, h2, h3, h4⟩ | h1
      · obtain ⟨s', e1, e2⟩ := blockO_next hs h1
        rw [e2, h4]
        exact ih (meas j) (hn ▸ h3) j s' rfl h2 e1
      · exact blockO_of hs h1
  exact key _ i s rfl h0 hs

theorem rvF : allFreeRows [] = true ∧ (∀ r rs, allFreeRows (r :: rs) = (allFree r && allFreeRows rs)) ∧ wholeRows [] = true ∧ (∀ r rs, wholeRows (r :: rs) = (wholeRow r && wholeRows rs)) ∧ mineRows [] = true ∧ (∀ r rs, mineRows (r :: rs) = (mineRow r && mineRows rs)) ∧ borRows [] = [] ∧ (∀ r rs, borRows (r :: rs) = borRow r :: borRows rs) := by
  refine ⟨?_, ?_, ?_, ?_, ?_, ?_, ?_, ?_⟩ <;> intros <;> first | rfl | simp only [wholeRows] | simp only [mineRows] | simp only [borRows]
theorem rvG : (∀ a b, allFreeRows (a ++ b) = (allFreeRows a && allFreeRows b)) ∧ (∀ a b, wholeRows (a ++ b) = (wholeRows a && wholeRows b)) ∧ (∀ a b, mineRows (a ++ b) = (mineRows a && mineRows b)) ∧ (∀ a b, borRows (a ++ b) = borRows a ++ borRows b) := by
  refine ⟨fun a b => ?_, fun a b => ?_, fun a b => ?_, fun a b => ?_⟩
  · induction a with
    | nil => simp [allFreeRows]
    | cons r a ih => simp [allFreeRows, ih, Bool.and_assoc]
  · induction a with
    | nil => simp [wholeRows]
    | cons r a ih => simp [wholeRows, ih, Bool.and_assoc]
  · induction a with
    | nil => simp [mineRows]
    | cons r a ih => simp [mineRows, ih, Bool.and_assoc]
  · induction a with
    | nil => simp [borRows]
    | cons r a ih => simp [borRows, ih]
theorem natBeq (a b : Nat) : Nat.beq a b = decide (a = b) := by
  by_cases h : a = b
  · subst h; simp
  · rw [decide_eq_false h]
    cases hb : Nat.beq a b with
    | false => rfl
    | true => exact absurd (Nat.eq_of_beq_eq_true hb) h
theorem rvE : (∀ a b, Nat.beq a b = decide (a = b)) ∧ (∀ i, enterL i [] = []) ∧ (∀ i x r, enterL i (x :: r) = (i, x.stamp i) :: enterL (i + 1) r) ∧ headM [] = .shr ∧ (∀ m r, headM (m :: r) = m) ∧ Mode.shr.isIo = false ∧ Mode.mv.isIo = false ∧ Mode.io.isIo = true ∧ (∀ E F r, finish E F (some (.ret r)) = some r) ∧ (∀ E F s, finish E F (some (.norm s)) = retOf E F s) := ⟨natBeq, fun _ => rfl, fun _ _ _ => rfl, rfl, fun _ _ => rfl, rfl, rfl, rfl, fun _ _ _ => rfl, fun _ _ _ => rfl⟩

/-- A row without slices. -/
def flatRow : List C → Bool
  | [] => true
  | .p _ :: r => flatRow r
  | _ :: _ => false
theorem flat_row : ∀ {r : List C}, flatRow r = true → borRow r = r ∧ mineRow r = true ∧ wholeRow r = true ∧ allFree r = true ∧ leftRow r = r
  | [], _ => ⟨rfl, rfl, rfl, rfl, rfl⟩
  | .p v :: r, h => by
    obtain ⟨h1, h2, h3, h4, h5⟩ := flat_row (r := r) h
    refine ⟨?_, ?_, ?_, ?_, ?_⟩
    · simp only [borRow, C.bor, h1]
    · simp only [mineRow, C.mine, h2, Bool.and_true]
    · simp only [wholeRow, C.whole, h3, Bool.and_true]
    · simp only [allFree, C.free, h4, Bool.and_true]
    · simp only [leftRow, C.left, h5]
  | .sl .. :: _, h => by simp [flatRow] at h
  | .hole :: _, h => by simp [flatRow] at h
theorem flat_rows {β : Type} (f : β → List C) (h : ∀ x, flatRow (f x) = true) : ∀ l : List β, borRows (l.map f) = l.map f ∧ mineRows (l.map f) = true ∧ wholeRows (l.map f) = true ∧ allFreeRows (l.map f) = true
  | [] => ⟨rfl, rfl, rfl, rfl⟩
  | x :: l => by
    obtain ⟨h1, h2, h3, h4⟩ := flat_rows f h l
    obtain ⟨k1, k2, k3, k4, _⟩ := flat_row (h x)
    refine ⟨?_, ?_, ?_, ?_⟩
    · simp only [List.map_cons, borRows, k1, h1]
    · simp only [List.map_cons, mineRows, k2, h2, Bool.and_true]
    · simp only [List.map_cons, wholeRows, k3, h3, Bool.and_true]
    · simp only [List.map_cons, allFreeRows, k4, h4, Bool.and_true]

theorem flat_repl {z : List C} (h : flatRow z = true) : ∀ n, borRows (List.replicate n z) = List.replicate n z ∧ mineRows (List.replicate n z) = true ∧ wholeRows (List.replicate n z) = true ∧ allFreeRows (List.replicate n z) = true := by
  intro n
  have e : List.replicate n z = (List.replicate n ()).map fun _ => z := by simp
  rw [e]
  exact flat_rows _ (fun _ => h) _

/-- A slice filled from its beginning. -/
def fillR {β : Type} (f : β → List C) (l : List β) (z : List C) (i : Nat) : List (List C) := (l.take i).map f ++ List.replicate (l.length - i) z
theorem fill_zero {β : Type} (f : β → List C) (l : List β) (z : List C) : fillR f l z 0 = List.replicate l.length z := by simp [fillR]
theorem fill_end {β : Type} (f : β → List C) (l : List β) (z : List C) : fillR f l z l.length = l.map f := by simp [fillR]
theorem fill_length {β : Type} (f : β → List C) (l : List β) (z : List C) {i : Nat} (h : i ≤ l.length) : (fillR f l z i).length = l.length := by simp [fillR]; omega
theorem fill_get {β : Type} (f : β → List C) {l : List β} (z : List C) {i : Nat} (h : i < l.length) : (fillR f l z i)[i]? = some z := by
  unfold fillR
  rw [List.getElem?_append_right (by simp; omega), List.getElem?_replicate, if_pos (by simp; omega)]
theorem fill_set {β : Type} (f : β → List C) {l : List β} (z : List C) {i : Nat} {x : β} (h : l[i]? = some x) : (fillR f l z i).set i (f x) = fillR f l z (i + 1) := by
  have hlt := (List.getElem?_eq_some_iff.1 h).1
  unfold fillR
  have e1 : l.length - i = (l.length - (i + 1)) + 1 := by omega
  rw [e1, List.replicate_succ, List.take_add_one, h]
  rw [List.set_append_right _ _ (by simp; omega)]
  have : i - ((l.take i).map f).length = 0 := by simp; omega
  rw [this]
  simp

theorem wrap64 {n : Int} (h1 : -9223372036854775808 ≤ n) (h2 : n ≤ 9223372036854775807) : IntKind.i64.wrap n = n := by
  rw [IntKind.wrap_i64]
  omega
theorem i64c (n : Nat) : ((n + 1 : Nat) : Int) = (n : Int) + 1 := by omega
theorem getElem?_map_some {α β : Type} {l : List α} {f : α → β} {i : Nat} {a : α} (h : l[i]? = some a) : (l.map f)[i]? = some (f a) := by simp [h]

/-! Trees of a type, opened. -/
def fieldTys : TypeDesc → Option (List TypeId)
  | .struct fs => some (fs.toList.map (·.type))
  | _ => none
theorem CT_struct {P : Program} {n : Nat} {t : TypeId} {tr : List C} {ts : List TypeId} (hu : (P.underlying t).bind fieldTys = some ts) (h : CT P (n + 1) t tr) : CTs (CT P n) P ts tr := by
  cases hd : P.underlying t with
  | none => rw [hd] at hu; cases hu
  | some d =>
    rw [hd] at hu
    cases d <;> simp [fieldTys] at hu
    simp only [CT, hd] at h
    rw [← hu]
    exact h
theorem CT_int {P : Program} {n : Nat} {t : TypeId} {tr : List C} {k : IntKind} (hu : P.underlying t = some (.int k)) (h : CT P n t tr) : ∃ m, tr = [.p (.int k m)] ∧ (Lit.int k m).wf = true := by
  cases n with
  | zero => exact h.elim
  | succ n => simpa only [CT, hu] using h
theorem CT_str {P : Program} {n : Nat} {t : TypeId} {tr : List C} (hu : P.underlying t = some .string) (h : CT P n t tr) : ∃ s : ByteArray, tr = [.p (.string s)] ∧ s.size ≤ maxLen := by
  cases n with
  | zero => exact h.elim
  | succ n => simpa only [CT, hu] using h
theorem CT_bool {P : Program} {n : Nat} {t : TypeId} {tr : List C} (hu : P.underlying t = some .bool) (h : CT P n t tr) : ∃ b, tr = [.p (.bool b)] := by
  cases n with
  | zero => exact h.elim
  | succ n => simpa only [CT, hu] using h
theorem CT_slice {P : Program} {n : Nat} {t e : TypeId} {tr : List C} {sz : Nat} {β : Type} {f : β → List C} {p : β → Prop} (hu : P.underlying t = some (.slice e)) (hz : P.cellsOf e = sz) (hf : ∀ r, CT P n e r → ∃ x, r = f x ∧ p x) (h : CT P (n + 1) t tr) :
    ∃ l : List β, tr = [.sl .shr sz (l.map f)] ∧ (∀ x ∈ l, p x) ∧ l.length ≤ maxLen := by
  simp only [CT, hu] at h
  obtain ⟨rows, rfl, hl, hr⟩ := h
  have : ∀ rows : List (List C), (∀ r ∈ rows, CT P n e r) → ∃ l : List β, rows = l.map f ∧ ∀ s ∈ l, p s := by
    intro rows
    induction rows with
    | nil => exact fun _ => ⟨[], rfl, fun s hs => by cases hs⟩
    | cons r rows ih =>
      intro h
      obtain ⟨s, hs, hs2⟩ := hf r (h r (by simp))
      obtain ⟨l, hl, hl2⟩ := ih (fun x hx => h x (List.mem_cons_of_mem _ hx))
      refine ⟨s :: l, by rw [hs, hl]; rfl, fun x hx => ?_⟩
      rcases List.mem_cons.1 hx with rfl | hx
      · exact hs2
      · exact hl2 x hx
  obtain ⟨l, e', hl2⟩ := this rows hr
  exact ⟨l, by rw [e', hz], hl2, by rw [e'] at hl; simpa using hl⟩
theorem CTall_nil {P : Program} {m : Nat} {trs : List (List C)} (h : CTall P m [] trs) : trs = [] := by
  cases trs with
  | nil => rfl
  | cons _ _ => exact h.elim
theorem CTall_cons {P : Program} {m : Nat} {t : TypeId} {ts : List TypeId} {trs : List (List C)} (h : CTall P m (t :: ts) trs) : ∃ tr r, trs = tr :: r ∧ CT P m t tr ∧ CTall P m ts r := by
  cases trs with
  | nil => exact h.elim
  | cons tr r => exact ⟨tr, r, rfl, h.1, h.2⟩
end Go.Sx

/- Rows, by what their cells are. -/
namespace Go.Sx
theorem rows_by {β : Type} {f g : β → List C} (h1 : ∀ x, borRow (f x) = g x) (h2 : ∀ x, mineRow (f x) = true) (h3 : ∀ x, wholeRow (f x) = true) (h4 : ∀ x, wholeRow (g x) = true) (h5 : ∀ x, allFree (g x) = true) :
    ∀ l : List β, borRows (l.map f) = l.map g ∧ mineRows (l.map f) = true ∧ wholeRows (l.map f) = true ∧ wholeRows (l.map g) = true ∧ allFreeRows (l.map g) = true
  | [] => ⟨rfl, rfl, rfl, rfl, rfl⟩
  | x :: l => by
    obtain ⟨a1, a2, a3, a4, a5⟩ := rows_by h1 h2 h3 h4 h5 l
    refine ⟨?_, ?_, ?_, ?_, ?_⟩
    · simp only [List.map_cons, borRows, h1, a1]
    · simp only [List.map_cons, mineRows, h2, a2, Bool.and_true]
    · simp only [List.map_cons, wholeRows, h3, a3, Bool.and_true]
    · simp only [List.map_cons, wholeRows, h4, a4, Bool.and_true]
    · simp only [List.map_cons, allFreeRows, h5, a5, Bool.and_true]
theorem repl_whole {z : List C} (h : wholeRow z = true) : ∀ n, wholeRows (List.replicate n z) = true
  | 0 => rfl
  | n + 1 => by simp only [List.replicate_succ, wholeRows, h, repl_whole h n, Bool.and_true]
theorem i64_of {n : Int} (h : (Lit.int .i64 n).wf = true) : -9223372036854775808 ≤ n ∧ n ≤ 9223372036854775807 := by
  simp only [Lit.wf, Bool.and_eq_true, decide_eq_true_eq] at h
  exact ⟨h.1, h.2⟩
end Go.Sx
