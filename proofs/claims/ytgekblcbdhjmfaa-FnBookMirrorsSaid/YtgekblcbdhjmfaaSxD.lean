/- An evaluator for the translated code over values that are trees,and that it is sound: part SxD. -/
import Derived.Test.YtgekblcbdhjmfaaSxC
import Derived.Test.YtgekblcbdhjmfaaSxB
import Derived.Lib.Bytealg
import Derived.ReadAgain
import Derived.OpenShut
import Derived.Below
import Derived.SizedLaws
import Derived.ChangeCalls
import Derived.ChangeShapes
import Derived.Sort.Grow
import Derived.Sort.EncStr
set_option linter.unusedVariables false
set_option linter.unusedSimpArgs false
set_option maxRecDepth 100000
/- A function keeps what its evaluation says: the proof. -/
namespace Go.Sx
section
variable {P:Program} {E:Env}

def RetPost (E:Env) (f:FuncId) (args:List S) (vals:List Value) (w:World) (Z:CA→Prop) (F:List CA) (res:Res) (v:Value) (w':World):Prop :=
 ∃ Z' F1 F2 G,Goes w w' (fun c =>c ∈ F)∧(∀ c,Z c→Z' c)∧(∀ c,Z' c→Z c∨c ∈ F∨w.heap.size≤c.1)∧(∀ c,Z' c→(gcell w' c).isSome = true) ∧
  ResRep w' Z' res.vals v F1∧OutsRep w' Z' args vals (E.ann f).modes res.outs F2 G∧(F1 ++ F2 ++ G).Nodup∧(∀ c ∈ F1 ++ F2 ++ G,Mine w' Z' c)∧∀ c ∈ F1 ++ F2 ++ G,c ∈ F∨w.heap.size≤c.1

theorem ptrR_rep {s:St} {fp:Tmp→List CA} {w:World} {Z:CA→Prop} {a:Act} {rs:List ResultVar} {q:List (Tmp × S) × List (Bool × List C)} (h:Inv w Z (Act.tm a) s fp) (he:ptrR s.sl rs = some q) :
  ∃ us F fp' c,(rs.mapM (rread a.tmps)).run P w = .ok us w∧ResRep w Z q.2 (if h:us.length = 1 then us[0] else .tuple us.toArray) F∧F.Nodup∧(∀ x ∈ F,∃ t,x ∈ fp t)∧Inv w Z (Act.tm a) ⟨c,q.1⟩ fp'∧(∀ t,∀ x ∈ fp' t,x ∈ fp t)∧(∀ t,∀ x ∈ F,x ∉ fp' t)∧∀ t,look q.1 t = look s.sl t∨look q.1 t = .dead :=by
 match rs,he with
 | [],he =>cases he
 | .cell _ _ :: _,he =>cases he
 | .tmp _ :: _ :: _,he =>cases he
 | [.tmp t],he =>
  obtain ⟨r,hr,he⟩ :=bE.1 (show bnd (ptrB s.sl t (look s.sl t)) _ = some q from he)
  obtain ⟨cs,hcs,he⟩ :=bE.1 he
  rcases tE.1 he with ⟨_,he⟩ | ⟨_,he⟩
  case inr =>cases he
  simp at he
  subst he
  have key:∃ b o g k,Act.tm a t = .pointer (some ⟨b,o,none⟩)∧look s.sl r = .box g k cs∧Act.tm a r = .pointer (some ⟨b,o,none⟩) :=by
   have hrep :=h.rep t
   cases hl:look s.sl t with
   | box g k ds =>
    rw [hl] at hr hrep
    simp [ptrB] at hr
    subst hr
    rw [hl] at hcs
    simp [S.root] at hcs
    subst hcs
    obtain ⟨b,o,G,hv,_⟩ :=hrep
    exact ⟨b,o,g,k,hv,hl,hv⟩
   | ptr r' g off el =>
    rw [hl] at hr hrep
    cases el with
    | some e =>cases hr
    | none =>
     rcases tE.1 (show tst (decide (off = 0) && (look s.sl r').isBox) _ none = some r from hr) with ⟨hb,hr2⟩ | ⟨_,hr2⟩
     case inr =>cases hr2
     clear hr
     simp only [Bool.and_eq_true,decide_eq_true_eq] at hb
     obtain ⟨h0,hb⟩ :=hb
     obtain ⟨cs2,h2,hr3⟩ :=bE.1 hr2
     clear hr2
     simp at hr3
     subst hr3
     subst h0
     obtain ⟨_,hp⟩ :=hrep
     obtain ⟨b,o,h3,h4⟩ :=hp cs2 h2
     cases hlr:look s.sl r' with
     | box g2 k2 ds =>
      rw [hlr] at hcs
      simp [S.root] at hcs
      subst hcs
      exact ⟨b,o,g2,k2,by simpa using h4,rfl,h3⟩
     | _ =>rw [hlr] at hb; simp [S.isBox] at hb
   | _ =>rw [hl] at hr; simp [ptrB] at hr
  obtain ⟨b,o,g,k,hv,hbox,hvr⟩ :=key
  have hrep :=h.rep r
  rw [hbox,hvr] at hrep
  have r1:(rread a.tmps (.tmp t)).run P w = .ok (Act.tm a t) w :=rfl
  refine ⟨[Act.tm a t],fp r,fun u =>if u = r then [] else fp u,s.cnt + 1,by simp [List.mapM_cons,r1],?_,h.nd r,fun x hx =>⟨r,hx⟩,h.kill r,fun t x hx =>?_,fun t x hx hm =>?_,fun t =>?_⟩
  ·show Rep w Z [] _ (Act.tm a t) (fp r) (.box 0 0 cs)
   rw [hv]
   exact hrep
  ·simp only at hx
   split at hx
   ·cases hx
   ·exact hx
  ·simp only at hm
   split at hm
   ·cases hm
   ·rename_i ht
    exact h.disj _ _ ht x hm hx
  ·by_cases e:r = t
   ·exact .inr (by simp [look,e])
   ·exact .inl (by simp [look,e])

theorem valsR_rep (hT:TOk P E) {s:St} {fp:Tmp→List CA} {w:World} {Z:CA→Prop} {a:Act} {rs:List ResultVar} {q:List (Tmp × S) × List (Bool × List C)} (h:Inv w Z (Act.tm a) s fp) (he:resultOf E rs s.sl = some q) :
  ∃ us F fp' c,(rs.mapM (rread a.tmps)).run P w = .ok us w∧ResRep w Z q.2 (if h:us.length = 1 then us[0] else .tuple us.toArray) F∧F.Nodup∧(∀ x ∈ F,∃ t,x ∈ fp t)∧Inv w Z (Act.tm a) ⟨c,q.1⟩ fp'∧(∀ t,∀ x ∈ fp' t,x ∈ fp t)∧(∀ t,∀ x ∈ F,x ∉ fp' t)∧∀ t,look q.1 t = look s.sl t∨look q.1 t = .dead :=by
 obtain ⟨us,F1,fp1,c,hrun,htr,n1,f1,i1,s1,a1⟩ :=resultOf_rep hT h he
 refine ⟨us,F1,fp1,c,hrun,?_,n1,f1,i1,s1,a1,resultOf_look he⟩
 obtain ⟨q1,q2⟩ :=q
 simp only at htr ⊢
 have tup:∀ (z z2:Bool × List C) (zs:List (Bool × List C)) (u u2:Value) (us:List Value),TR w Z (z :: z2 :: zs) (u :: u2 :: us) F1→ResRep w Z (z :: z2 :: zs) (if h:(u :: u2 :: us).length = 1 then (u :: u2 :: us)[0] else .tuple (u :: u2 :: us).toArray) F1 :=by
  intro z z2 zs u u2 us htr
  have hn:¬ (u :: u2 :: us).length = 1 :=by simp
  rw [dif_neg hn]
  match z,htr with
  | (true,_),htr =>exact ⟨u :: u2 :: us,rfl,htr⟩
  | (false,_ :: _),htr =>exact ⟨u :: u2 :: us,rfl,htr⟩
  | (false,[]),htr =>
   obtain ⟨vs,_,_,hp,hl,_⟩ :=htr
   rcases hp with ⟨hf,_⟩ | ⟨_,hf,_⟩
   ·cases hf
   ·rw [hf] at hl; simp at hl
 match q2,us,htr with
 | [],[],htr =>exact htr
 | [z],[u],htr =>
  obtain ⟨vs,G1,G2,p1,p2,p3,p4,p5⟩ :=htr
  have hG2:G2 = [] :=p4
  subst hG2
  rw [List.append_nil] at p5
  subst p5
  exact ⟨vs,p1,p2,p3⟩
 | z :: z2 :: zs,u :: u2 :: us,htr =>exact tup z z2 zs u u2 us htr
 | [],_ :: _,htr =>exact htr.elim
 | _ :: _,[],htr =>exact htr.elim
 | [_],_ :: _ :: _,htr =>
  obtain ⟨_,_,_,_,_,_,p4,_⟩ :=htr
  exact p4.elim
 | _ :: _ :: _,[_],htr =>
  obtain ⟨_,_,_,_,_,_,p4,_⟩ :=htr
  exact p4.elim

theorem ret_ok (hT:TOk P E) {f:FuncId} {fn:Func} {args:List S} {vals:List Value} (hl:args.length = vals.length) {w w':World} {Z:CA→Prop} {F:List CA} {n:Nat} {s:St} {a:Act} {res:Res}
  (hM:MirOk (E.ann f).mir (E.ann f).keep) (hA:∀ (k:Nat) (g:Nat) (b:Bool) (cs:List C) (v:Value),args[k]? = some (.val g b cs)→vals[k]? = some v→∃ vs,Packs b vs v∧vs.length = cs.length) (h:SI w Z F n (keptOf (E.ann f).keep vals) (hbOf (E.ann f).mir (keptOf (E.ann f).keep vals)) s a w') (he:retOf (E.forF f) ⟨fn.results.toList,E.ann f,args⟩ s = some res):a.defers = []∧∃ v,(results fn a.tmps).run P w' = .ok v w'∧RetPost E f args vals w Z F res v w' :=by
 obtain ⟨Z',fp,hinv,z1,z2,hgo,hfp,hfr,hhb⟩ :=h
 obtain ⟨q,hq,he1⟩ :=bE.1 (show bnd (orS (ptrR s.sl fn.results.toList) (resultOf (E.forF f) fn.results.toList s.sl)) _ = some res from he)
 obtain ⟨outs,ho,he2⟩ :=bE.1 he1
 simp at he2
 subst he2
 have hX:∃ us F fp' c,(fn.results.toList.mapM (rread a.tmps)).run P w' = .ok us w'∧ResRep w' Z' q.2 (if h:us.length = 1 then us[0] else .tuple us.toArray) F∧F.Nodup∧(∀ x ∈ F,∃ t,x ∈ fp t)∧Inv w' Z' (Act.tm a) ⟨c,q.1⟩ fp'∧(∀ t,∀ x ∈ fp' t,x ∈ fp t)∧(∀ t,∀ x ∈ F,x ∉ fp' t)∧∀ t,look q.1 t = look s.sl t∨look q.1 t = .dead :=by
  cases hp:ptrR s.sl fn.results.toList with
  | some q' =>
   rw [hp] at hq
   simp [orS] at hq
   subst hq
   exact ptrR_rep hinv hp
  | none =>
   rw [hp] at hq
   exact valsR_rep (E :=E.forF f) hT hinv hq
 obtain ⟨us,F1,fp1,c,hrun,htr,n1,f1,i1,s1,a1,hlk⟩ :=hX
 obtain ⟨F2,G,o1,o2,o3⟩ :=outsOf_rep (s :=⟨c,q.1⟩) i1 hM (i :=0) (vals :=vals) hl (fun k v hv hk =>by
  have :=hfr.keep _ (keptOf_mem (i :=k) hv (by simpa using hk))
  simpa using this) hA (fun k v b hv hk hm hf =>by
  refine hhb (b,v) (mem_hbOf (i :=k) (keptOf_mem (i :=k) hv (by simpa using hk)) (by simpa using hm)) ?_
  rcases hlk b with e | e
  ·rw [← e]; exact hf
  ·exact absurd (show (look q.1 b).isFz = true from hf) (by rw [e]; simp [S.isFz])) ho
 refine ⟨hfr.defers,_,run_results hrun,Z',F1,F2,G,hgo,z1,z2,hinv.zok,htr,o1,?_,?_,?_⟩
 ·rw [List.append_assoc,List.nodup_append]
  refine ⟨n1,o2,fun x hx y hy e =>?_⟩
  subst e
  obtain ⟨t,_,_,hm⟩ :=o3 x hy
  exact a1 _ x hx hm
 ·intro x hx
  rw [List.append_assoc] at hx
  rcases List.mem_append.1 hx with hx | hx
  ·obtain ⟨t,ht⟩ :=f1 x hx
   exact hinv.mine t x ht
  ·obtain ⟨t,_,_,hm⟩ :=o3 x hx
   exact i1.mine _ x hm
 ·intro x hx
  rw [List.append_assoc] at hx
  rcases List.mem_append.1 hx with hx | hx
  ·obtain ⟨t,ht⟩ :=f1 x hx
   exact hfp t x ht
  ·obtain ⟨t,_,_,hm⟩ :=o3 x hx
   exact hfp _ x (s1 _ x hm)
end
end Go.Sx

/- A function keeps what its evaluation says: all calls. -/
namespace Go.Sx
section
variable {P:Program} {E:Env}

theorem fn_ok (hT:TOk P E) (hE:EqOk P E) {call:Sem1} (hC:∀ f,CallOk P E call f) (hF:∀ f args res,call f args = some res→Callable P f) {f:FuncId} (hN:FnOk P E call f) {m:Nat}:CallOk P E (runB P E call (ITn m)) f :=by
 intro args vals w Z F res hres ars nF mF hz
 unfold runB at hres
 cases hf:P.funcs[f]? with
 | none =>rw [hf] at hres; cases hres
 | some fn =>
  rw [hf] at hres
  simp only at hres
  cases hb:fn.body with
  | none =>rw [hb] at hres; cases hres
  | some c =>
   rw [hb] at hres
   simp only at hres
   obtain ⟨_,hmir,hgood⟩ :=hN fn c hf hb
   obtain ⟨_,l1,_,_⟩ :=ars.split
   have hlen:args.length = vals.length :=by
    obtain ⟨fps,l1,l2,_,_⟩ :=ars.split
    exact l2.symm
   let a0:Act :={ tmps :=vals.toArray ++ Array.replicate (fn.ntmps - vals.toArray.size) undef,defers :=[] }
   have hv:∀ t v,vals[t]? = some v→Act.tm a0 t = v :=by
    intro t v ht
    have hlt:t < vals.length :=by
     rcases Nat.lt_or_ge t vals.length with h | h
     ·exact h
     ·simp [List.getElem?_eq_none h] at ht
    have:a0.tmps[t]? = some v :=by
     simp only [a0]
     rw [Array.getElem?_append_left (by simpa using hlt)]
     simpa using ht
    simp [Act.tm,this]
   obtain ⟨fp,hinv,hfp⟩ :=enter_inv (a :=a0) ars nF mF hz hv
   have hA:∀ (k:Nat) (g:Nat) (b:Bool) (cs:List C) (v:Value),args[k]? = some (.val g b cs)→vals[k]? = some v→∃ vs,Packs b vs v∧vs.length = cs.length :=by
    intro k g b cs v ha hv
    obtain ⟨fps,_,_,_,hrep⟩ :=ars.split
    obtain ⟨v',G,e1,e2,vs,h1,h2,_⟩ :=hrep k _ ha
    rw [hv] at e1
    simp at e1
    subst e1
    exact ⟨vs,h1,h2⟩
   have hno:HB (hbOf (E.ann f).mir (keptOf (E.ann f).keep vals)) ⟨args.length,enterL 0 args⟩ a0 w Z :=by
    intro p hp hf
    exfalso
    obtain ⟨fps,_,_,_,hrep⟩ :=ars.split
    have hlook :=look_enterL args 0 p.1
    simp only [Nat.zero_le,if_true,Nat.sub_zero] at hlook
    rw [show look (St.sl ⟨args.length,enterL 0 args⟩) p.1 = _ from hlook] at hf
    cases ha:args[p.1]? with
    | none =>rw [ha] at hf; cases hf
    | some x =>
     rw [ha] at hf
     obtain ⟨v,G,e1,e2,e3⟩ :=hrep p.1 x ha
     cases x <;> first | (exact e3.elim; done) | cases hf
   have hSI:SI w Z F fn.ntmps (keptOf (E.ann f).keep vals) (hbOf (E.ann f).mir (keptOf (E.ann f).keep vals)) ⟨args.length,enterL 0 args⟩ a0 w :=
    ⟨Z,fp,hinv,fun _ h =>h,fun _ h =>.inl h,Goes.refl _ _,fun t c hc =>.inl (hfp t c hc),⟨by simp [a0]; omega,rfl,fun p hp =>hv _ _ (keptOf_keep hp).2⟩,hno⟩
   refine calls_of_wp hf hb ?_
   cases ho:evc (E.forF f) call (ITn m) ⟨fn.results.toList,E.ann f,args⟩ c ⟨args.length,enterL 0 args⟩ with
   | none =>rw [ho] at hres; simp [finish] at hres
   | some o =>
    rw [ho] at hres
    have fin:∀ {s:St} {a:Act} {w':World},SI w Z F fn.ntmps (keptOf (E.ann f).keep vals) (hbOf (E.ann f).mir (keptOf (E.ann f).keep vals)) s a w'→retOf (E.forF f) ⟨fn.results.toList,E.ann f,args⟩ s = some res→a.defers = []∧∃ v,(results fn a.tmps).run P w' = .ok v w'∧RetPost E f args vals w Z F res v w' :=fun hs hr =>ret_ok hT hlen hmir hA hs hr
    refine evc_wp (E :=E.forF f) (fun hfz =>?_) hT hE hC hF c (hgood _ _ (fun p hp =>(keptOf_keep hp).1) (fun p hp =>hbOf_mem hp)) hSI ho ?_
    ·have hm:(E.ann f).mir = [] :=by
      cases hm:(E.ann f).mir with
      | nil =>rfl
      | cons p r =>simp only [Env.forF,hm,mirKeys] at hfz; cases hfz
     rw [hm]
     have:∀ kp:List (Tmp × Value),hbOf [] kp = [] :=by
      intro kp
      simp [hbOf,mirOf]
     exact this _
    ·cases o with
     | norm s =>exact fun a w' hs =>fin hs hres
     | exit id s =>simp [finish] at hres
     | ret r =>
      simp [finish] at hres
      subst hres
      exact fun a w' s hs hr =>fin hs hr
end
end Go.Sx

/- The evaluation is what the machine does. -/
namespace Go.Sx
section
variable {P:Program} {E:Env}

def Calm (P:Program) (E:Env) (call:Sem1):Prop :=(∀ f,CallOk P E call f)∧∀ f args res,call f args = some res→Callable P f

def SumOk (P:Program) (E:Env):Prop :=∀ f k,(E.ann f).sum = k + 1→CallOk P E (fun _ =>sumOf k) f∧Callable P f

theorem EVn_ok (hS:SumOk P E) (hT:TOk P E) (hE:EqOk P E) (hN:∀ call,Calm P E call→∀ f,FnOk P E call f):∀ n,Calm P E (EVn P E n)
 | 0 =>⟨fun f args vals w Z F res h =>by simp [EVn] at h,fun f args res h =>by simp [EVn] at h⟩
 | n + 1 =>by
  have ih :=EVn_ok hS hT hE hN n
  refine ⟨fun f args vals w Z F res h =>?_,fun f args res h =>?_⟩
  ·have h:runF P E (EVn P E n) (ITn n) f args = some res :=h
   unfold runF at h
   cases hs:(E.ann f).sum with
   | zero =>rw [hs] at h; exact fn_ok hT hE ih.1 ih.2 (hN _ ih f) args vals w Z F res h
   | succ k =>rw [hs] at h; exact (hS f k hs).1 args vals w Z F res h
  ·have h:runF P E (EVn P E n) (ITn n) f args = some res :=h
   unfold runF at h
   cases hs:(E.ann f).sum with
   | succ k =>exact (hS f k hs).2
   | zero =>
    rw [hs] at h
    have h:runB P E (EVn P E n) (ITn n) f args = some res :=h
    unfold runB at h
    cases hf:P.funcs[f]? with
    | none =>rw [hf] at h; cases h
    | some fn =>
     rw [hf] at h
     simp only at h
     cases hb:fn.body with
     | none =>rw [hb] at h; cases h
     | some c =>exact ⟨fn,hf,(hN _ ih f fn c hf hb).1,by rw [hb]; rfl⟩

theorem EV_ok (hS:SumOk P E) (hT:TOk P E) (hE:EqOk P E) (hN:∀ call,Calm P E call→∀ f,FnOk P E call f) (f:FuncId):CallOk P E (EV P E) f :=by
 intro args vals w Z F res h
 obtain ⟨n,hn⟩ :=EV_some h
 exact (EVn_ok hS hT hE hN n).1 f args vals w Z F res hn
end
end Go.Sx

/- Two frames laid together: the part that an operation saw,and the rest. -/
namespace Go.Sx

def S.isLink:S→Bool
 | .lnk .. =>true
 | .ptr .. =>true
 | _ =>false
def S.to:S→Tmp
 | .lnk r _ _ _ _ _ _ =>r
 | .ptr r _ _ _ =>r
 | _ =>0
def S.live (l:List (Tmp × S)):S→Prop
 | .lnk r h _ _ _ _ _ =>∃ cs,(look l r).rootL h = some cs
 | .ptr r g _ el =>∃ cs,(look l r).rootR g el = some cs
 | _ =>True

section
variable {w w':World} {Z Z':CA→Prop} {l l':List (Tmp × S)} {tm tm':Tmp→Value} {v:Value} {F:List CA} {x:S}

theorem rootL_lt {y:S} {h c:Nat} {cs:List C} (e:y.rootL h = some cs) (hs:y.stampsLt c):h < c :=by
 cases y <;> simp only [S.rootL] at e
 case val g a ds =>
  split at e
  ·rename_i hg; subst hg; exact hs
  ·cases e
 case box g k ds =>
  split at e
  ·rename_i hg; subst hg; exact hs.2
  ·cases e
 case fz g ds =>
  split at e
  ·rename_i hg; subst hg; exact hs
  ·cases e
 all_goals cases e
theorem rootR_lt {y:S} {g c:Nat} {el:El} {cs:List C} (e:y.rootR g el = some cs) (hs:y.stampsLt c):g < c :=by
 cases y <;> simp only [S.rootR,S.rootP] at e
 case val k a ds =>
  cases el <;> simp only at e
  ·cases e
  ·split at e
   ·rename_i hg; subst hg; exact hs
   ·cases e
 case box k h ds =>
  cases el <;> simp only at e
  ·split at e
   ·rename_i hg; subst hg; exact hs.1
   ·cases e
  ·split at e
   ·rename_i hg; subst hg; exact hs.2
   ·cases e
 case fz k ds =>
  split at e
  ·rename_i hg; subst hg; exact hs
  ·cases e
 all_goals cases e
theorem live_lt {c:Nat} (hl:x.isLink = true) (h:x.live l) (hs:(look l x.to).stampsLt c):x.stampsLt c :=by
 cases x <;> simp only [S.isLink] at hl
 case lnk r k off n a el win =>
  obtain ⟨cs,e⟩ :=h
  exact rootL_lt e hs
 case ptr r g off el =>
  obtain ⟨cs,e⟩ :=h
  exact rootR_lt e hs
 all_goals cases hl

theorem Rep.vac (hF:F = []) (hl:x.isLink = true) (h:x.live l→Rep w Z l tm v F x):Rep w Z l tm v F x :=by
 cases x <;> simp only [S.isLink] at hl
 case lnk r k off n a el win =>exact ⟨hF,fun cs hr =>(h ⟨cs,hr⟩).2 cs hr⟩
 case ptr r g off el =>exact ⟨hF,fun cs hr =>(h ⟨cs,hr⟩).2 cs hr⟩
 all_goals cases hl

theorem Rep.link_fp (h:Rep w Z l tm v F x) (hl:x.isLink = true):F = [] :=by
 cases x <;> simp only [S.isLink] at hl
 case lnk r k off n a el win =>exact h.1
 case ptr r g off el =>exact h.1
 all_goals cases hl

theorem Rep.move (h:Rep w Z l tm v F x) (heq:x.isLink = true→look l' x.to = look l x.to∧tm' x.to = tm x.to):Rep w Z l' tm' v F x :=by
 cases x
 case lnk r k off n a el win =>
  obtain ⟨e1,e2⟩ :=heq rfl
  simp only [S.to] at e1 e2
  simp only [Rep] at h ⊢
  rw [e1,e2]
  exact h
 case ptr r g off el =>
  obtain ⟨e1,e2⟩ :=heq rfl
  simp only [S.to] at e1 e2
  simp only [Rep] at h ⊢
  rw [e1,e2]
  exact h
 all_goals exact h

theorem Rep.frame (hZ:∀ c,Z c→Z' c) {N:Nat} (h:Rep w Z l tm v F x) (hst:x.stampsLt N) (hs:Same w w' F Z)
  (hroot:x.isLink = true→∀ cs,(look l x.to).root = some cs→∃ G,RL w Z cs (rget w (look l x.to) (tm x.to)) G∧Same w w' G Z∧∀ i,i < cs.length→rget w' (look l x.to) (tm x.to) i = rget w (look l x.to) (tm x.to) i) :
  Rep w' Z' l tm v F x :=by
 by_cases hl:x.isLink = true
 ·have hf:Follows w w' Z l [(x.to,look l x.to)] tm tm N :=by
   intro q
   by_cases hq:x.to = q
   ·subst hq
    left
    refine ⟨by simp [look],rfl,hroot hl⟩
   ·right
    have:look [(x.to,look l x.to)] q = .dead :=by simp [look,hq]
    rw [this]
    exact ⟨fun h cs e =>by simp [S.rootL] at e,fun g i cs e =>by simp [S.rootR,S.rootP] at e,fun g cs e =>by simp [S.rootR,S.rootP] at e⟩
  have h2 :=Rep.follow hZ hf h hst hs
  exact h2.move fun _ =>⟨by simp [look],rfl⟩
 ·have h2:Rep w Z [] tm v F x :=h.move fun e =>absurd e hl
  have hf:Follows w w' Z [] [] tm tm N :=fun q =>.inr ⟨fun h cs e =>by simp [look,S.rootL] at e,fun g i cs e =>by simp [look,S.rootR,S.rootP] at e,fun g cs e =>by simp [look,S.rootR,S.rootP] at e⟩
  exact (Rep.follow hZ hf h2 hst hs).move fun e =>absurd e hl
end

open Classical in
theorem Inv.merge {w w':World} {Z Z':CA→Prop} {tm tm':Tmp→Value} {sD s3 sM:St} {fp fp3:Tmp→List CA} {In:Tmp→Prop} (hD:Inv w Z tm sD fp) (h3:Inv w' Z' tm' s3 fp3) (hZ:∀ c,Z c→Z' c)
  (hM1:∀ t,In t→look sM.sl t = look s3.sl t) (hM2:∀ t,¬ In t→look sM.sl t = look sD.sl t) (htm:∀ t,¬ In t→tm' t = tm t)
  (hL:∀ t,¬ In t→(look sD.sl t).isLink = true→In (look sD.sl t).to→¬ (look sD.sl t).live sM.sl)
  (hL3:∀ t,In t→(look s3.sl t).isLink = true→¬ In (look s3.sl t).to→look s3.sl t = look sD.sl t∧tm' t = tm t)
  (hs:∀ t,¬ In t→Same w w' (fp t) Z) (hmine:∀ t,¬ In t→∀ c ∈ fp t,Mine w' Z' c) (hap:∀ t u,In t→¬ In u→∀ c ∈ fp3 t,c ∉ fp u)
  (hc3:s3.cnt≤sM.cnt) (hcD:sD.cnt≤sM.cnt):Inv w' Z' tm' sM (fun t =>if In t then fp3 t else fp t) :=by
 -- a slot of before,whose link (if it is one) leads to a slot of before
 have old:∀ t,Same w w' (fp t) Z→((look sD.sl t).isLink = true→¬ In (look sD.sl t).to)→tm' t = tm t→Rep w' Z' sM.sl tm' (tm' t) (fp t) (look sD.sl t) :=by
  intro t hst hto htt
  have h1:Rep w' Z' sD.sl tm (tm t) (fp t) (look sD.sl t) :=Rep.frame hZ (hD.rep t) (hD.stamps t) hst fun hl =>hD.rootKept (hs _ (hto hl))
  rw [htt]
  exact h1.move fun hl =>⟨hM2 _ (hto hl),htm _ (hto hl)⟩
 refine ⟨fun t =>?_,fun t =>?_,fun t u htu c hc =>?_,fun t c hc =>?_,h3.zok,fun t =>?_⟩
 ·by_cases ht:In t
  ·rw [hM1 t ht]
   simp only [if_pos ht]
   by_cases hl:(look s3.sl t).isLink = true
   ·by_cases hto:In (look s3.sl t).to
    ·exact (h3.rep t).move fun _ =>⟨hM1 _ hto,rfl⟩
    ·obtain ⟨e1,e2⟩ :=hL3 t ht hl hto
     have hF:fp3 t = [] :=(h3.rep t).link_fp hl
     have hF2:fp t = [] :=(hD.rep t).link_fp (by rw [← e1]; exact hl)
     have :=old t (by
      intro c hc
      rcases hc with hc | hc
      ·rw [hF2] at hc; cases hc
      ·-- a link owns nothing: what is asked of Z follows from any other slot
       exact (hs _ hto) c (.inr hc)) (fun _ =>by rw [← e1]; exact hto) e2
     rw [hF2] at this
     rw [hF,e1]
     exact this
   ·exact (h3.rep t).move fun e =>absurd e hl
  ·rw [hM2 t ht]
   simp only [if_neg ht]
   by_cases hl:(look sD.sl t).isLink = true
   ·by_cases hto:In (look sD.sl t).to
    ·exact Rep.vac ((hD.rep t).link_fp hl) hl fun hlv =>absurd hlv (hL t ht hl hto)
    ·exact old t (hs t ht) (fun _ =>hto) (htm t ht)
   ·exact old t (hs t ht) (fun e =>absurd e hl) (htm t ht)
 ·by_cases ht:In t
  ·simp only [if_pos ht]; exact h3.nd t
  ·simp only [if_neg ht]; exact hD.nd t
 ·by_cases ht:In t <;> by_cases hu:In u <;> simp only [ht,hu,if_true,if_false] at hc ⊢
  ·exact h3.disj t u htu c hc
  ·exact hap t u ht hu c hc
  ·exact fun hc' =>hap u t hu ht c hc' hc
  ·exact hD.disj t u htu c hc
 ·by_cases ht:In t <;> simp only [ht,if_true,if_false] at hc
  ·exact h3.mine t c hc
  ·exact hmine t ht c hc
 ·by_cases ht:In t
  ·rw [hM1 t ht]; exact stampsLt_mono (h3.stamps t) hc3
  ·rw [hM2 t ht]; exact stampsLt_mono (hD.stamps t) hcD
end Go.Sx

/- A region whose operations may run in any order that their edges allow. -/
namespace Go.Sx

theorem evDraw_steps {E:Env} {call:Sem1} {all:List Oper}:∀ (Ts:List (List Tmp × List Tmp)) (l:List Oper) {s s':St},evDraw E call Ts (qsOf all l) s = some s' →
  ∃ st:Nat→St,st 0 = s∧st l.length = s'∧∀ i o,l[i]? = some o→∃ T,Ts[i]? = some T∧closedX (st i).sl o.op T.1 = true∧sameB (st i) (st (i + 1)) T.2 T.1 = true∧stepQ E call (st i) o.dst o.op o.type (wanted (st i) (qOf all o).guard) = some (st (i + 1))
 | Ts,[],s,s',h =>by
  simp only [qsOf,evDraw] at h
  simp at h
  subst h
  exact ⟨fun _ =>s,rfl,rfl,fun i o ho =>by simp at ho⟩
 | [],_ :: _,_,_,h =>by simp [qsOf,evDraw] at h
 | T :: Ts,o :: l,s,s',h =>by
  have h:evDraw E call (T :: Ts) (⟨o.dst,o.op,o.type,(qOf all o).guard⟩ :: qsOf all l) s = some s' :=h
  simp only [evDraw] at h
  obtain ⟨h1,h⟩ :=tst_none h
  cases h2:stepQ E call s o.dst o.op o.type (wanted s (qOf all o).guard) with
  | none =>rw [h2] at h; cases h
  | some s1 =>
   rw [h2] at h
   obtain ⟨h3,h⟩ :=tst_none h
   obtain ⟨st,e0,e1,e2⟩ :=evDraw_steps Ts l h
   refine ⟨fun n =>match n with | 0 =>s | n + 1 =>st n,rfl,e1,fun i oi hi =>?_⟩
   cases i with
   | zero =>
    simp at hi
    subst hi
    exact ⟨T,rfl,h1,by subst e0; exact h3,h2.trans (congrArg some e0.symm)⟩
   | succ i =>
    obtain ⟨T',f1,f2,f3,f4⟩ :=e2 i oi (by simpa using hi)
    exact ⟨T',by simpa using f1,f2,f3,f4⟩

def tsAt (Ts:List (List Tmp × List Tmp)) (i:Nat):List Tmp :=((Ts[i]?).getD ([],[])).1
def dstL (o:Oper):List Tmp :=match o.dst with | some t =>[t] | none =>[]
def wrL (Ts:List (List Tmp × List Tmp)) (i:Nat) (_:Oper):List Tmp :=((Ts[i]?).getD ([],[])).2
def rdL (Ts:List (List Tmp × List Tmp)) (i:Nat) (o:Oper):List Tmp :=tsAt Ts i ++ dstL o

def Down (ops:Array Oper) (D:Nat→Bool):Prop :=∀ i o,ops[i]? = some o→D i = true→∀ e ∈ o.after,Region.binds .any e = true→D e.on = true
def Bef (ops:Array Oper) (i j:Nat):Prop :=i < j∧∀ D,Down ops D→D j = true→D i = true

structure Loose (ops:Array Oper) (Ts:List (List Tmp × List Tmp)) (i:Nat) (o:Oper) (t:Tmp):Prop where
 op:o.op = .move (.tmp t)
 guard:o.guard = none
 nil:tsAt Ts i = []
 wr:wrL Ts i o = dstL o
 dst:∀ (k:Nat) (ok:Oper),ops[k]? = some ok→ok.dst ≠ some t

structure DrawGood (ops:Array Oper) (Ts:List (List Tmp × List Tmp)):Prop where
 opnd:∀ i o,ops[i]? = some o→((∀ x ∈ o.op.operands,opIn (tsAt Ts i) x = true)∧gIn (tsAt Ts i) (qOf ops.toList o).guard = true)∨∃ t,Loose ops Ts i o t
 wr:∀ i o,ops[i]? = some o→(∀ t,memT t (wrL Ts i o) = true→memT t (rdL Ts i o) = true)∧∀ t,memT t (dstL o) = true→memT t (wrL Ts i o) = true
 back:∀ i o,ops[i]? = some o→∀ e ∈ o.after,Region.binds .any e = true→e.on < i
 conf:∀ i j oi oj t,ops[i]? = some oi→ops[j]? = some oj→i ≠ j→memT t (wrL Ts i oi) = true→memT t (rdL Ts j oj) = true→Bef ops i j∨Bef ops j i

theorem memT_append {t:Tmp}:∀ {a b:List Tmp},memT t (a ++ b) = true↔memT t a = true∨memT t b = true
 | [],b =>by simp [memT]
 | u :: a,b =>by
  simp only [List.cons_append,memT]
  split
  ·simp
  ·exact memT_append
theorem mem_dstL {t:Tmp} {o:Oper}:memT t (dstL o) = true↔o.dst = some t :=by
 unfold dstL
 cases o.dst with
 | none =>simp [memT]
 | some u =>simp [memT]

theorem look_mapf (f:Tmp→S) (l:List (Tmp × S)) (t:Tmp):∀ L:List Tmp,look (L.map (fun t =>(t,f t)) ++ l) t = if memT t L = true then f t else look l t
 | [] =>by simp [memT]
 | u :: L =>by
  simp only [List.map_cons,List.cons_append,look_cons,memT]
  by_cases h:u = t
  ·subst h; simp
  ·simp only [if_neg h]; exact look_mapf f l t L

theorem look_put {d:Option Tmp} {r:S} {s:St} {t:Tmp}:look (put d r s).sl t = if d = some t then r.stamp s.cnt else look s.sl t :=by
 obtain ⟨c,l⟩ :=s
 cases d with
 | none =>simp [put]
 | some u =>simp [put,look_cons]
theorem cnt_put {d:Option Tmp} {r:S} {s:St}:(put d r s).cnt = s.cnt + (if d.isSome then 1 else 0) :=by
 obtain ⟨c,l⟩ :=s
 cases d <;> rfl

theorem closedIn_cl {l:List (Tmp × S)} {T:List Tmp}:∀ {R:List Tmp},closedIn l T R = true→∀ t,memT t R = true→(look l t).rootIn T = true
 | [],_,t,ht =>by simp [memT] at ht
 | u :: R,h,t,ht =>by
  simp only [closedIn] at h
  have h:((look l u).rootIn T && closedIn l T R) = true :=h
  simp only [Bool.and_eq_true] at h
  simp only [memT] at ht
  split at ht
  ·rename_i e; subst e; exact h.1
  ·exact closedIn_cl h.2 t ht

theorem closedX_cl {l:List (Tmp × S)} {op:Op} {T:List Tmp} (h:closedX l op T = true):∀ t,memT t T = true→(look l t).rootIn T = true :=by
 cases T with
 | nil =>intro t ht; simp [memT] at ht
 | cons u r =>exact closedIn_cl h
def S.mvP (t:Tmp) (z:Tmp × Nat × Nat × El) (x:S):Prop :=(z.1 = t∧z.2.2.1 = 0∧z.2.2.2 = none∧∃ k cs,x = .box z.2.1 k cs)∨x = .ptr z.1 z.2.1 z.2.2.1 z.2.2.2
def ptrZ (z:Tmp × Nat × Nat × El):S :=.ptr z.1 z.2.1 z.2.2.1 z.2.2.2
theorem closedX_box {l:List (Tmp × S)} {t:Tmp} (h:closedX l (.move (.tmp t)) [] = true):∃ z,(look l t).mvP t z :=by
 have h:(look l t).isMv = true :=h
 cases hx:look l t with
 | box g k cs =>exact ⟨(t,g,0,none),.inl ⟨rfl,rfl,rfl,k,cs,rfl⟩⟩
 | ptr r g off el =>exact ⟨(r,g,off,el),.inr rfl⟩
 | _ =>rw [hx] at h; cases h
theorem link_in {x:S} {T:List Tmp} (h:x.rootIn T = true) (hl:x.isLink = true):memT x.to T = true :=by
 cases x <;> simp only [S.isLink] at hl
 case lnk r k off n a el win =>exact h
 case ptr r g off el =>exact h
 all_goals cases hl
theorem stamp_isLink (x:S) (c:Nat):(x.stamp c).isLink = x.isLink :=by cases x <;> rfl
theorem stamp_to (x:S) (c:Nat):(x.stamp c).to = x.to :=by cases x <;> rfl

theorem still_eq {s s2:St} {t:Tmp} {d:Option Tmp} {r:S} (hm:look s2.sl t = look s.sl t∨(∃ c cs,s.cnt≤c∧look s2.sl t = (look s.sl t).withCells c cs)∨∃ vs vs',look s.sl t = .tup vs∧look s2.sl t = .tup vs'∧(vs' ≠ []∧allFreeT vs = false)) (hd:d ≠ some t)
  (h:(look s.sl t).still s.cnt (look (put d r s2).sl t) = true):look s2.sl t = look s.sl t :=by
 rw [look_put,if_neg hd] at h
 rcases hm with e | ⟨c,cs,hle,e⟩ | ⟨vs,vs',e1,e2,e3⟩
 ·exact e
 ·rw [e] at h ⊢
  cases hx:look s.sl t with
  | val g a ds =>
   rw [hx] at h
   have h:(decide (c < s.cnt) && decide (g = c)) = true :=h
   simp at h
   omega
  | box g k ds =>
   rw [hx] at h
   have h:(decide (c < s.cnt) && decide (k = c)) = true :=h
   simp at h
   omega
  | fz g ds =>
   rw [hx] at h
   have h:(decide (c < s.cnt) && decide (g = c)) = true :=h
   simp at h
   omega
  | _ =>rfl
 ·rw [e2] at h
  cases vs' with
  | nil =>exact absurd rfl e3.1
  | cons _ _ =>
   rw [e1] at h
   have h:allFreeT vs = true :=h
   rw [e3.2] at h
   cases h
theorem sameB_at {s s':St} {W:List Tmp}:∀ {T:List Tmp},sameB s s' W T = true→∀ t,memT t T = true→memT t W = false→(look s.sl t).still s.cnt (look s'.sl t) = true
 | [],_,t,ht,_ =>by simp [memT] at ht
 | u :: T,h,t,ht,hw =>by
  have h:((memT u W || (look s.sl u).still s.cnt (look s'.sl u)) && sameB s s' W T) = true :=h
  simp only [Bool.and_eq_true,Bool.or_eq_true] at h
  simp only [memT] at ht
  split at ht
  ·rename_i e
   subst e
   exact h.1.resolve_left (by rw [hw]; simp)
  ·exact sameB_at h.2 t ht hw

theorem stepQ_loc {T:List Tmp} {E:Env} {call:Sem1} {s s' s1:St} (h:Agr T s s') (hc:Cl T s) {dst:Option Tmp} {op:Op} {ty:TypeId} {g:Option (Option Tmp × Bool)} (hx:∀ x ∈ op.operands,opIn T x = true) (hg:gIn T g = true)
  (e:stepQ E call s dst op ty (wanted s g) = some s1):∃ b s2 s2' r,wanted s' g = some b∧s1 = put dst r s2∧Par T s s' s2 s2'∧r.rootIn T = true∧(quietOp op = true→s2 = s∧s2' = s') ∧
   ((b = true∧ev1 E call ty s' op = some (s2',r))∨(b = false∧s2 = s∧s2' = s'∧r = .tup [])) :=by
 have hw :=wanted_loc h hg
 cases hb:wanted s g with
 | none =>rw [hb] at e; cases e
 | some b =>
  rw [hb] at e hw
  cases b with
  | false =>
   simp only [stepQ] at e
   simp at e
   exact ⟨false,s,s',.tup [],hw,e.symm,Par.refl h hc,rfl,fun _ =>⟨rfl,rfl⟩,.inr ⟨rfl,rfl,rfl,rfl⟩⟩
  | true =>
   simp only [stepQ] at e
   obtain ⟨q,e1,e⟩ :=bE.1 e
   simp at e
   obtain ⟨s2',e2,p,r,hq⟩ :=ev1_loc (z :=q.2) h hc hx (by simpa using e1)
   exact ⟨true,q.1,s2',q.2,hw,e.symm,p,r,hq,.inl ⟨rfl,e2⟩⟩

theorem stepQ_mv {E:Env} {call:Sem1} {s s1:St} {dst:Option Tmp} {op:Op} {ty:TypeId} {b:Option Bool} (e:stepQ E call s dst op ty b = some s1) {t:Tmp} (hd:dst ≠ some t) :
  look s1.sl t = look s.sl t∨(∃ c cs,s.cnt≤c∧look s1.sl t = (look s.sl t).withCells c cs)∨∃ vs vs',look s.sl t = .tup vs∧look s1.sl t = .tup vs'∧(vs' ≠ []∧allFreeT vs = false) :=by
 cases b with
 | none =>cases e
 | some b =>
  cases b with
  | false =>
   simp only [stepQ] at e
   simp at e
   subst e
   rw [look_put,if_neg hd]
   exact .inl rfl
  | true =>
   simp only [stepQ] at e
   obtain ⟨q,e1,e⟩ :=bE.1 e
   simp at e
   subst e
   rw [look_put,if_neg hd]
   exact ev1_mv (s' :=q.1) (z :=q.2) (by simpa using e1) t

theorem mvP_mv {x y:S} {n:Nat} {t:Tmp} {z:Tmp × Nat × Nat × El} (h:y = x∨(∃ c cs,n≤c∧y = x.withCells c cs)∨∃ vs vs',x = .tup vs∧y = .tup vs'∧(vs' ≠ []∧allFreeT vs = false)):y.mvP t z↔x.mvP t z :=by
 rcases h with rfl | ⟨c,cs,_,rfl⟩ | ⟨vs,vs',rfl,rfl,_⟩
 ·exact Iff.rfl
 ·constructor
  ·rintro (⟨h1,h2,h3,k,ds,e⟩ | e)
   ·cases x <;> simp [S.withCells] at e
    case box g' k' cs' =>exact .inl ⟨h1,h2,h3,k',cs',by rw [e.1]⟩
   ·cases x <;> simp [S.withCells] at e
    case ptr =>exact .inr (by rw [e.1,e.2.1,e.2.2.1,e.2.2.2])
  ·rintro (⟨h1,h2,h3,k,ds,rfl⟩ | rfl)
   ·exact .inl ⟨h1,h2,h3,c,cs,rfl⟩
   ·exact .inr rfl
 ·constructor <;> rintro (⟨h1,h2,h3,k,ds,e⟩ | e) <;> cases e

theorem Inv.congr {w:World} {Z:CA→Prop} {tm:Tmp→Value} {s s':St} {fp:Tmp→List CA} (h:Inv w Z tm s fp) (hl:∀ t,look s'.sl t = look s.sl t) (hst:∀ t,(look s.sl t).stampsLt s'.cnt):Inv w Z tm s' fp where
 rep t :=by rw [hl t]; exact (h.rep t).move fun _ =>⟨hl _,rfl⟩
 nd :=h.nd
 disj :=h.disj
 mine :=h.mine
 zok :=h.zok
 stamps t :=by rw [hl t]; exact hst t

def slD (W:Nat→List Tmp) (st:Nat→St) (D:Nat→Bool):Nat→List (Tmp × S)
 | 0 =>(st 0).sl
 | k + 1 =>if D k then (W k).map (fun t =>(t,look (st (k + 1)).sl t)) ++ slD W st D k else slD W st D k

theorem look_slD {W:Nat→List Tmp} {st:Nat→St} {D:Nat→Bool} {k:Nat} {t:Tmp}:look (slD W st D (k + 1)) t = if D k = true∧memT t (W k) = true then look (st (k + 1)).sl t else look (slD W st D k) t :=by
 simp only [slD]
 by_cases h:D k = true
 ·rw [if_pos h,look_mapf]
  simp [h]
 ·rw [if_neg h,if_neg (fun e =>h e.1)]

def updD (D:Nat→Bool) (i:Nat):Nat→Bool :=fun k =>if k = i then true else D k

def left (D:Nat→Bool):Nat→Nat
 | 0 =>0
 | k + 1 =>(if D k then 0 else 1) + left D k
theorem left_same {D D':Nat→Bool}:∀ {n:Nat},(∀ k,k < n→D' k = D k)→left D' n = left D n
 | 0,_ =>rfl
 | n + 1,h =>by simp only [left]; rw [h n (by omega),left_same (fun k hk =>h k (by omega))]
theorem left_upd {D:Nat→Bool} {i:Nat} (hi:D i = false):∀ {n:Nat},i < n→left D n = left (updD D i) n + 1
 | 0,h =>by omega
 | n + 1,h =>by
  simp only [left]
  by_cases e:i = n
  ·subst e
   have h1:left (updD D i) i = left D i :=left_same (fun k hk =>by simp only [updD]; rw [if_neg (by omega)])
   rw [h1,hi]
   simp [updD]
   omega
  ·have :=left_upd hi (n :=n) (by omega)
   have h2:updD D i n = D n :=by simp only [updD]; rw [if_neg (fun e' =>e e'.symm)]
   rw [h2,this]
   omega
theorem left_zero {D:Nat→Bool}:∀ {n:Nat},left D n = 0→∀ k,k < n→D k = true
 | 0,_,k,hk =>by omega
 | n + 1,h,k,hk =>by
  simp only [left] at h
  have h1:D n = true :=by
   cases hd:D n with
   | true =>rfl
   | false =>rw [hd] at h; simp at h
  by_cases e:k = n
  ·rw [e]; exact h1
  ·exact left_zero (n :=n) (by omega) k (by omega)
end Go.Sx

/- A step in whatever order. -/
namespace Go.Sx
section
variable {P:Program} {E:Env} {w0:World} {Z0:CA→Prop} {F0:List CA} {n:Nat} {kp:List (Tmp × Value)} {ops:Array Oper} {Ts:List (List Tmp × List Tmp)} {call:Sem1} {st:Nat→St}

def wAt (ops:Array Oper) (Ts:List (List Tmp × List Tmp)) (k:Nat):List Tmp :=match ops[k]? with | some o =>wrL Ts k o | none =>[]

def Trace (E:Env) (call:Sem1) (ops:Array Oper) (Ts:List (List Tmp × List Tmp)) (st:Nat→St):Prop :=
 ∀ i o,ops[i]? = some o→(∀ t,o.op = .move (.tmp t)→tsAt Ts i = []→∃ z,(look (st i).sl t).mvP t z)∧Cl (tsAt Ts i) (st i)∧(∀ t,memT t (tsAt Ts i) = true→memT t (wrL Ts i o) = false→(look (st i).sl t).still (st i).cnt (look (st (i + 1)).sl t) = true)∧stepQ E call (st i) o.dst o.op o.type (wanted (st i) (qOf ops.toList o).guard) = some (st (i + 1))

theorem trace_of {s s':St} (h:evDraw E call Ts (qsOf ops.toList ops.toList) s = some s'):∃ st,st 0 = s∧st ops.size = s'∧Trace E call ops Ts st :=by
 obtain ⟨st,e0,e1,e2⟩ :=evDraw_steps Ts ops.toList h
 refine ⟨st,e0,by simpa using e1,fun i o hi =>?_⟩
 obtain ⟨T,f1,f2,f3,f4⟩ :=e2 i o (by simpa using hi)
 have e1:tsAt Ts i = T.1 :=by simp [tsAt,f1]
 have e2:wrL Ts i o = T.2 :=by simp [wrL,f1]
 rw [e1,e2]
 refine ⟨fun t ht hn =>?_,fun t ht =>closedX_cl f2 t ht,fun t ht hw =>sameB_at f3 t ht hw,f4⟩
 rw [ht,hn] at f2
 exact closedX_box f2

def MD (ops:Array Oper) (Ts:List (List Tmp × List Tmp)) (st:Nat→St) (D:Nat→Bool):St :=⟨(st ops.size).cnt,slD (wAt ops Ts) st D ops.size⟩

theorem rd_box {E:Env} {ty:TypeId} {s:St} {t:Tmp} {z:Tmp × Nat × Nat × El} (h:(look s.sl t).mvP t z):rd E ty s (.tmp t) = some (ptrZ z) :=by
 obtain ⟨z1,z2,z3,z4⟩ :=z
 rcases h with ⟨h1,h2,h3,k,cs,e⟩ | e
 ·simp only at h1 h2 h3 e
  subst h1
  subst h2
  subst h3
  simp only [rd,e]
  rfl
 ·simp only at e
  simp only [rd,e]
  rfl
theorem Trace.loose (hR:Trace E call ops Ts st) {i:Nat} {o:Oper} {t:Tmp} (hi:ops[i]? = some o) (hL:Loose ops Ts i o t):∃ z,(look (st i).sl t).mvP t z∧st (i + 1) = put o.dst (ptrZ z) (st i) :=by
 obtain ⟨hbx,hc,hst,he⟩ :=hR i o hi
 obtain ⟨g,hg⟩ :=hbx t hL.op hL.nil
 refine ⟨g,hg,?_⟩
 have hq:(qOf ops.toList o).guard = none :=by simp only [qOf,hL.guard]
 rw [hq,hL.op] at he
 have he:bnd (ev1 E call o.type (st i) (.move (.tmp t))) (fun q =>some (put o.dst q.2 q.1)) = some (st (i + 1)) :=he
 simp only [ev1,rd_box hg,bnd] at he
 simp at he
 exact he.symm

theorem Trace.step (hG:DrawGood ops Ts) (hR:Trace E call ops Ts st) {i:Nat} {o:Oper} (hi:ops[i]? = some o):(st i).cnt≤(st (i + 1)).cnt∧∀ t,memT t (wrL Ts i o) = false→look (st (i + 1)).sl t = look (st i).sl t :=by
 obtain ⟨hbx,hc,hst,he⟩ :=hR i o hi
 rcases hG.opnd i o hi with ⟨hx,hg⟩ | ⟨t0,hL⟩
 case inr =>
  obtain ⟨g,e1⟩ :=hR.loose hi hL
  rw [e1.2]
  refine ⟨by rw [cnt_put]; exact Nat.le_add_right _ _,fun t ht =>?_⟩
  rw [hL.wr] at ht
  rw [look_put,if_neg (fun e =>by rw [mem_dstL.2 e] at ht; cases ht)]
 obtain ⟨b,s2,s2',r,_,e1,p,_,hq,_⟩ :=stepQ_loc (s' :=st i) ⟨rfl,fun _ _ =>rfl⟩ hc hx hg he
 refine ⟨by rw [e1,cnt_put]; exact Nat.le_trans p.le (Nat.le_add_right _ _),fun t ht =>?_⟩
 have hd:o.dst ≠ some t :=fun e =>by
  have :=(hG.wr i o hi).2 t (mem_dstL.2 e)
  rw [this] at ht; cases ht
 cases hm:memT t (tsAt Ts i) with
 | false =>
  rw [e1,look_put,if_neg hd]
  exact p.out t hm
 | true =>
  have h1 :=hst t hm ht
  rw [e1] at h1 ⊢
  rw [look_put,if_neg hd]
  exact still_eq (p.mv t) hd h1

theorem Trace.cnt_le (hG:DrawGood ops Ts) (hR:Trace E call ops Ts st) {i:Nat}:∀ {j:Nat},i≤j→j≤ops.size→(st i).cnt≤(st j).cnt
 | 0,h,_ =>by
  have:i = 0 :=by omega
  subst this; exact Nat.le_refl _
 | j + 1,h,hj =>by
  by_cases e:i = j + 1
  ·subst e; exact Nat.le_refl _
  ·have hlt:j < ops.size :=by omega
   exact Nat.le_trans (Trace.cnt_le hG hR (j :=j) (by omega) (by omega)) (hR.step hG (Array.getElem?_eq_getElem hlt)).1

theorem wAt_some {i:Nat} {o:Oper} (hi:ops[i]? = some o):wAt ops Ts i = wrL Ts i o :=by simp [wAt,hi]

theorem ready_look (hG:DrawGood ops Ts) (hR:Trace E call ops Ts st) {D:Nat→Bool} (hD:Down ops D) {i:Nat} {o:Oper} (hi:ops[i]? = some o) (hDi:D i = false) (hrd:∀ k,Bef ops k i→D k = true) {t:Tmp} (ht:memT t (rdL Ts i o) = true) :
  look (MD ops Ts st D).sl t = look (st i).sl t∧∀ k,k≤i→look (slD (wAt ops Ts) st D k) t = look (st k).sl t :=by
 have hin:i < ops.size :=(Array.getElem?_eq_some_iff.1 hi).1
 have a1:∀ k,k≤i→look (slD (wAt ops Ts) st D k) t = look (st k).sl t :=by
  intro k
  induction k with
  | zero =>intro _; rfl
  | succ k ih =>
   intro hk
   have hkn:k < ops.size :=by omega
   have hok :=Array.getElem?_eq_getElem hkn
   rw [look_slD,wAt_some hok]
   by_cases hm:memT t (wrL Ts k ops[k]) = true
   ·have hDk:D k = true :=by
     rcases hG.conf k i _ _ t hok hi (by omega) hm ht with h | h
     ·exact hrd k h
     ·exact absurd h.1 (by omega)
    rw [if_pos ⟨hDk,hm⟩]
   ·rw [if_neg (fun e =>hm e.2),ih (by omega)]
    exact ((hR.step hG hok).2 t (by simpa using hm)).symm
 refine ⟨?_,a1⟩
 have a2:∀ k,i≤k→k≤ops.size→look (slD (wAt ops Ts) st D k) t = look (st i).sl t :=by
  intro k
  induction k with
  | zero =>intro h _; exact a1 0 (by omega) ▸ (by have:i = 0 :=(by omega); subst this; rfl)
  | succ k ih =>
   intro hk hkn
   by_cases e:i = k + 1
   ·subst e; exact a1 _ (Nat.le_refl _)
   ·have hkn':k < ops.size :=by omega
    have hok :=Array.getElem?_eq_getElem hkn'
    rw [look_slD,wAt_some hok,if_neg,ih (by omega) (by omega)]
    rintro ⟨hDk,hm⟩
    by_cases ei:k = i
    ·subst ei; rw [hDi] at hDk; cases hDk
    ·rcases hG.conf k i _ _ t hok hi ei hm ht with h | h
     ·exact absurd h.1 (by omega)
     ·rw [h.2 D hD hDk] at hDi; cases hDi
 exact a2 _ (Nat.le_of_lt hin) (Nat.le_refl _)

theorem look_updD (hG:DrawGood ops Ts) {D:Nat→Bool} (hD:Down ops D) {i:Nat} {o:Oper} (hi:ops[i]? = some o) (hDi:D i = false) (t:Tmp) :
  look (MD ops Ts st (updD D i)).sl t = if memT t (wrL Ts i o) = true then look (st (i + 1)).sl t else look (MD ops Ts st D).sl t :=by
 have hin:i < ops.size :=(Array.getElem?_eq_some_iff.1 hi).1
 have b1:∀ k,k≤i→slD (wAt ops Ts) st (updD D i) k = slD (wAt ops Ts) st D k :=by
  intro k
  induction k with
  | zero =>intro _; rfl
  | succ k ih =>
   intro hk
   simp only [slD]
   rw [ih (by omega)]
   have:updD D i k = D k :=by simp only [updD]; rw [if_neg (by omega)]
   rw [this]
 have b2:∀ k,i + 1≤k→k≤ops.size→look (slD (wAt ops Ts) st (updD D i) k) t = if memT t (wrL Ts i o) = true then look (st (i + 1)).sl t else look (slD (wAt ops Ts) st D k) t :=by
  intro k
  induction k with
  | zero =>intro h _; omega
  | succ k ih =>
   intro hk hkn
   have hkn':k < ops.size :=by omega
   have hok :=Array.getElem?_eq_getElem hkn'
   rw [look_slD,look_slD (D :=D),wAt_some hok]
   by_cases e:k = i
   ·subst e
    have eo:ops[k] = o :=by rw [hok] at hi; simpa using hi
    rw [eo,b1 _ (Nat.le_refl _),hDi]
    have:updD D k k = true :=by simp [updD]
    rw [this]
    simp
   ·have hu:updD D i k = D k :=by simp only [updD]; rw [if_neg e]
    rw [hu,ih (by omega) (by omega)]
    by_cases hm:D k = true∧memT t (wrL Ts k ops[k]) = true
    ·rw [if_pos hm,if_pos hm]
     by_cases hw:memT t (wrL Ts i o) = true
     ·rcases hG.conf k i _ _ t hok hi e hm.2 ((hG.wr i o hi).1 t hw) with h | h
      ·exact absurd h.1 (by omega)
      ·rw [h.2 D hD hm.1] at hDi; cases hDi
     ·rw [if_neg hw]
    ·rw [if_neg hm,if_neg hm]
 exact b2 _ (by omega) (Nat.le_refl _)

theorem look_allD (hG:DrawGood ops Ts) (hR:Trace E call ops Ts st) {D:Nat→Bool} (hD:∀ k,k < ops.size→D k = true) (t:Tmp):look (MD ops Ts st D).sl t = look (st ops.size).sl t :=by
 have:∀ k,k≤ops.size→look (slD (wAt ops Ts) st D k) t = look (st k).sl t :=by
  intro k
  induction k with
  | zero =>intro _; rfl
  | succ k ih =>
   intro hk
   have hok :=Array.getElem?_eq_getElem (show k < ops.size by omega)
   rw [look_slD,wAt_some hok]
   by_cases hm:memT t (wrL Ts k ops[k]) = true
   ·rw [if_pos ⟨hD k (by omega),hm⟩]
   ·rw [if_neg (fun e =>hm e.2),ih (by omega)]
    exact ((hR.step hG hok).2 t (by simpa using hm)).symm
 exact this _ (Nat.le_refl _)

theorem Trace.box_const (hR:Trace E call ops Ts st) {t:Tmp} {z:Tmp × Nat × Nat × El} (hd:∀ (k:Nat) (ok:Oper),ops[k]? = some ok→ok.dst ≠ some t) {i:Nat} (hi:i≤ops.size) (hb:(look (st i).sl t).mvP t z):∀ k,k≤ops.size→(look (st k).sl t).mvP t z :=by
 have one:∀ k,k < ops.size→((look (st (k + 1)).sl t).mvP t z↔(look (st k).sl t).mvP t z) :=fun k hk =>by
  have hok :=Array.getElem?_eq_getElem hk
  exact mvP_mv (stepQ_mv (hR k _ hok).2.2.2 (hd k _ hok))
 have all:∀ k,k≤ops.size→((look (st k).sl t).mvP t z↔(look (st 0).sl t).mvP t z) :=by
  intro k
  induction k with
  | zero =>exact fun _ =>Iff.rfl
  | succ k ih =>exact fun hk =>(one k (by omega)).trans (ih (by omega))
 exact fun k hk =>(all k hk).2 ((all i hi).1 hb)
theorem slD_all {W:Nat→List Tmp} {D:Nat→Bool} {t:Tmp} {p:S→Prop} {n:Nat} (h:∀ k,k≤n→p (look (st k).sl t)):∀ k,k≤n→p (look (slD W st D k) t)
 | 0,_ =>h 0 (Nat.zero_le _)
 | k + 1,hk =>by
  rw [look_slD]
  split
  ·exact h (k + 1) hk
  ·exact slD_all h k (by omega)

structure DI (w0:World) (Z0:CA→Prop) (F0:List CA) (n:Nat) (kp:List (Tmp × Value)) (ops:Array Oper) (Ts:List (List Tmp × List Tmp)) (st:Nat→St) (D:Nat→Bool) (a:Act) (w:World):Prop where
 si:SI w0 Z0 F0 n kp [] (MD ops Ts st D) a w
 li:∀ t,(look (MD ops Ts st D).sl t).isLink = true→∀ k o,ops[k]? = some o→D k = false→memT (look (MD ops Ts st D).sl t).to (wrL Ts k o) = true→(look (MD ops Ts st D).sl t).stampsLt (st k).cnt
 sb:∀ k o,ops[k]? = some o→D k = true→∀ t,memT t (rdL Ts k o) = true→(look (st (k + 1)).sl t).stampsLt (st (k + 1)).cnt
 s0:∀ t,(look (st 0).sl t).stampsLt (st 0).cnt
 down:Down ops D

theorem ready_stamps (hG:DrawGood ops Ts) (hR:Trace E call ops Ts st) {D:Nat→Bool} {a:Act} {w:World} (hI:DI w0 Z0 F0 n kp ops Ts st D a w) {i:Nat} {o:Oper} (hi:ops[i]? = some o) (hrd:∀ k,Bef ops k i→D k = true) {t:Tmp} (ht:memT t (rdL Ts i o) = true) :
  (look (st i).sl t).stampsLt (st i).cnt :=by
 have hin:i < ops.size :=(Array.getElem?_eq_some_iff.1 hi).1
 have:∀ k,k≤i→(look (st k).sl t).stampsLt (st k).cnt :=by
  intro k
  induction k with
  | zero =>intro _; exact hI.s0 t
  | succ k ih =>
   intro hk
   have hok :=Array.getElem?_eq_getElem (show k < ops.size by omega)
   by_cases hm:memT t (wrL Ts k ops[k]) = true
   ·have hDk:D k = true :=by
     rcases hG.conf k i _ _ t hok hi (by omega) hm ht with h | h
     ·exact hrd k h
     ·exact absurd h.1 (by omega)
    exact hI.sb k _ hok hDk t ((hG.wr k _ hok).1 t hm)
   ·rw [(hR.step hG hok).2 t (by simpa using hm)]
    exact stampsLt_mono (ih (by omega)) (hR.step hG hok).1
 exact this i (Nat.le_refl _)
end
end Go.Sx

/- A step in whatever order,in memory. -/
namespace Go.Sx

open Classical in
noncomputable def older (c:Nat) (l:List (Tmp × S)) (l0:List (Tmp × S)):List (Tmp × S) :=
 l.map fun p =>(p.1,if (look l0 p.1).stampsLt c then p.2 else .dead)

open Classical in
theorem look_older {c:Nat} {l0:List (Tmp × S)} {t:Tmp}:∀ {l:List (Tmp × S)},look (older c l l0) t = if (look l0 t).stampsLt c then look l t else .dead
 | [] =>by simp [older,look]
 | p :: l =>by
  have ih :=look_older (c :=c) (l0 :=l0) (t :=t) (l :=l)
  obtain ⟨u,x⟩ :=p
  simp only [older,List.map_cons,look_cons]
  by_cases h:u = t
  ·subst h; simp
  ·simp only [if_neg h]; exact ih

theorem live_dead {l:List (Tmp × S)} {x:S} (hl:x.isLink = true) (hd:look l x.to = .dead):¬ x.live l :=by
 cases x
 case lnk r k off n a el win =>
  rintro ⟨cs,e⟩
  simp only [S.to] at hd
  rw [hd] at e
  simp [S.rootL] at e
 case ptr r g off el =>
  rintro ⟨cs,e⟩
  simp only [S.to] at hd
  rw [hd] at e
  simp [S.rootR,S.rootP] at e
 all_goals cases hl

open Classical in
theorem Inv.older {w:World} {Z:CA→Prop} {tm:Tmp→Value} {s:St} {fp:Tmp→List CA} (h:Inv w Z tm s fp) (c:Nat):Inv w Z tm ⟨c,Sx.older c s.sl s.sl⟩ (fun t =>if (look s.sl t).stampsLt c then fp t else []) :=by
 have lk:∀ t,look (Sx.older c s.sl s.sl) t = if (look s.sl t).stampsLt c then look s.sl t else .dead :=fun t =>look_older
 refine ⟨fun t =>?_,fun t =>?_,fun t u htu d hd =>?_,fun t d hd =>?_,h.zok,fun t =>?_⟩
 ·simp only [lk t]
  by_cases ht:(look s.sl t).stampsLt c
  ·rw [if_pos ht,if_pos ht]
   by_cases hl:(look s.sl t).isLink = true
   ·by_cases hto:(look s.sl (look s.sl t).to).stampsLt c
    ·exact (h.rep t).move fun _ =>⟨by rw [lk,if_pos hto],rfl⟩
    ·refine Rep.vac ((h.rep t).link_fp hl) hl fun hlv =>?_
     exact absurd hlv (live_dead hl (by rw [lk,if_neg hto]))
   ·exact (h.rep t).move fun e =>absurd e hl
  ·rw [if_neg ht,if_neg ht]
   rfl
 ·by_cases ht:(look s.sl t).stampsLt c
  ·simp only [if_pos ht]; exact h.nd t
  ·simp only [if_neg ht]; exact List.nodup_nil
 ·by_cases ht:(look s.sl t).stampsLt c <;> by_cases hu:(look s.sl u).stampsLt c <;> simp only [ht,hu,if_true,if_false] at hd ⊢
  ·exact h.disj t u htu d hd
  ·simp
  ·cases hd
  ·cases hd
 ·by_cases ht:(look s.sl t).stampsLt c <;> simp only [ht,if_true,if_false] at hd
  ·exact h.mine t d hd
  ·cases hd
 ·simp only [lk t]
  by_cases ht:(look s.sl t).stampsLt c
  ·rw [if_pos ht]; exact ht
  ·rw [if_neg ht]; trivial

theorem Done.putInv {a:Act} {w w':World} {Z Z':CA→Prop} {fp fp2:Tmp→List CA} {s2:St} {v:Value} {F:List CA} {r:S} (D:Done w Z (Act.tm a) fp w' Z' s2 fp2 v F r) {d:Option Tmp} (hd:∀ t,d = some t→t < a.tmps.size) :
  ∃ fp3,Inv w' Z' (Act.tm (a.put d v)) (put d r s2) fp3∧(∀ t,∀ c ∈ fp3 t,c ∈ F∨∃ u,c ∈ fp2 u)∧∀ t,d ≠ some t→Act.tm (a.put d v) t = Act.tm a t :=by
 cases d with
 | none =>exact ⟨fp2,D.inv,fun t c hc =>.inr ⟨t,hc⟩,fun _ _ =>rfl⟩
 | some t =>
  have hlt :=hd t rfl
  have hv:Act.tm (a.put (some t) v) t = v :=by rw [tm_put hlt,if_pos rfl]
  refine ⟨_,D.inv.put (d :=t) (x :=r) (F :=F) (tm' :=Act.tm (a.put (some t) v)) rfl (fun u hu =>by rw [tm_put hlt,if_neg hu]) (by rw [hv]; exact D.rep) D.lt D.nd D.mine (fun u _ c hc =>D.apart u c hc),fun u c hc =>?_,fun u hu =>by rw [tm_put hlt,if_neg (fun e =>hu (by rw [e]))]⟩
  by_cases hu:u = t
  ·simp only [if_pos hu] at hc; exact .inl hc
  ·simp only [if_neg hu] at hc; exact .inr ⟨u,hc⟩

section
variable {P:Program} {E:Env} {w0:World} {Z0:CA→Prop} {F0:List CA} {n:Nat} {kp:List (Tmp × Value)} {ops:Array Oper} {Ts:List (List Tmp × List Tmp)} {call:Sem1} {st:Nat→St}

theorem SI.congr {s s':St} {a:Act} {w:World} (h:SI w0 Z0 F0 n kp [] s a w) (hl:∀ t,look s'.sl t = look s.sl t) (hst:∀ t,(look s.sl t).stampsLt s'.cnt):SI w0 Z0 F0 n kp [] s' a w :=by
 obtain ⟨Z,fp,hinv,h2,h3,h4,h5,h6,_⟩ :=h
 exact ⟨Z,fp,hinv.congr hl hst,h2,h3,h4,h5,h6,fun p hp =>by cases hp⟩

theorem DI.nextLoose (hG:DrawGood ops Ts) (hR:Trace E call ops Ts st) {D:Nat→Bool} {a:Act} {w:World} (hI:DI w0 Z0 F0 n kp ops Ts st D a w) {i:Nat} {o:Oper} (hi:ops[i]? = some o) (hDi:D i = false)
  (hrdE:∀ e ∈ o.after,Region.binds .any e = true→D e.on = true) (hod:okDst n kp o.dst) {t:Tmp} (hL:Loose ops Ts i o t) :
  ∃ (sP:St) (Z:CA→Prop) (fpP:Tmp→List CA) (b:Bool) (s2':St) (r:S),Inv w Z (Act.tm a) sP fpP∧wanted sP (qOf ops.toList o).guard = some b ∧
   ((b = true∧ev1 E call o.type sP o.op = some (s2',r))∨(b = false∧s2' = sP∧r = .tup [])) ∧
   ∀ v w',Brings w Z (Act.tm a) fpP s2' r v w'→DI w0 Z0 F0 n kp ops Ts st (updD D i) (a.put o.dst v) w' :=by
 obtain ⟨hSI,hLI,hSB,hS0,hDown⟩ :=id hI
 obtain ⟨Z,fp,hinv,h2,h3,h4,h5,h6,h7⟩ :=id hSI
 have hin:i < ops.size :=(Array.getElem?_eq_some_iff.1 hi).1
 have hDown':Down ops (updD D i) :=by
  intro k ok hk hDk e he hb
  simp only [updD] at hDk ⊢
  by_cases e1:k = i
  ·subst e1
   rw [hi] at hk
   simp at hk
   subst hk
   by_cases e2:e.on = k
   ·rw [if_pos e2]
   ·rw [if_neg e2]; exact hrdE e he hb
  ·rw [if_neg e1] at hDk
   by_cases e2:e.on = i
   ·rw [if_pos e2]
   ·rw [if_neg e2]; exact hDown k ok hk hDk e he hb
 obtain ⟨z,hbi,hsi⟩ :=hR.loose hi hL
 have hbc :=hR.box_const hL.dst (Nat.le_of_lt hin) hbi
 have hbM:(look (MD ops Ts st D).sl t).mvP t z :=slD_all (n :=ops.size) hbc ops.size (Nat.le_refl _)
 have hg0:z.2.1 < (st 0).cnt :=by
  have :=hS0 t
  rcases hbc 0 (Nat.zero_le _) with ⟨_,_,_,k,cs,e⟩ | e
  ·rw [e] at this
   exact this.1
  ·rw [e] at this
   exact this
 have hgk:∀ k,k≤ops.size→z.2.1 < (st k).cnt :=fun k hk =>Nat.lt_of_lt_of_le hg0 (Trace.cnt_le hG hR (Nat.zero_le _) hk)
 have lkN :=look_updD (st :=st) hG hDown hi hDi
 have hdv:∀ u,o.dst = some u→look (st (i + 1)).sl u = ptrZ z :=fun u hu =>by rw [hsi,look_put,if_pos hu]; rfl
 have hlk:∀ u,look (MD ops Ts st (updD D i)).sl u = look (put o.dst (ptrZ z) (MD ops Ts st D)).sl u :=fun u =>by
  rw [lkN,look_put]
  by_cases hu:o.dst = some u
  ·rw [if_pos (by rw [hL.wr]; exact mem_dstL.2 hu),if_pos hu,hdv u hu]; rfl
  ·rw [if_neg (fun hm =>by rw [hL.wr] at hm; exact hu (mem_dstL.1 hm)),if_neg hu]
 refine ⟨MD ops Ts st D,Z,fp,true,MD ops Ts st D,ptrZ z,hinv,by simp only [qOf,hL.guard]; rfl,.inl ⟨rfl,by rw [hL.op]; simp only [ev1,rd_box hbM,bnd]⟩,fun v w' hb =>?_⟩
 have hput:SI w0 Z0 F0 n kp [] (put o.dst (ptrZ z) (MD ops Ts st D)) (a.put o.dst v) w' :=SI.put h2 h3 h4 h5 h6 hinv h7 (fun _ h =>h) (by
  obtain ⟨Z',fp',F,Dn⟩ :=hb
  exact ⟨Z',fp',F,Dn,fun p hp =>by cases hp⟩) hod
 refine ⟨hput.congr hlk (fun u =>?_),fun u hl k ok hk hDk hm =>?_,fun k ok hk hDk u hu =>?_,hS0,hDown'⟩
 ·rw [look_put]
  split
  ·exact hgk _ (Nat.le_refl _)
  ·exact hinv.stamps u
 ·have hki:k ≠ i :=fun e =>by subst e; simp [updD] at hDk
  have hDk':D k = false :=by simp only [updD] at hDk; rw [if_neg hki] at hDk; exact hDk
  have hkn:k < ops.size :=(Array.getElem?_eq_some_iff.1 hk).1
  rw [hlk,look_put] at hl hm ⊢
  by_cases hu:o.dst = some u
  ·rw [if_pos hu] at hl hm ⊢
   exact hgk k (Nat.le_of_lt hkn)
  ·rw [if_neg hu] at hl hm ⊢
   exact hLI u hl k ok hk hDk' hm
 ·by_cases hki:k = i
  ·subst hki
   rw [hi] at hk
   simp at hk
   subst hk
   have hu':o.dst = some u :=by
    unfold rdL at hu
    rw [hL.nil] at hu
    exact mem_dstL.1 hu
   rw [hdv u hu']
   exact hgk _ (by omega)
  ·have hDk':D k = true :=by simp only [updD] at hDk; rw [if_neg hki] at hDk; exact hDk
   exact hSB k ok hk hDk' u hu

open Classical in
theorem DI.next (hG:DrawGood ops Ts) (hR:Trace E call ops Ts st) {D:Nat→Bool} {a:Act} {w:World} (hI:DI w0 Z0 F0 n kp ops Ts st D a w) {i:Nat} {o:Oper} (hi:ops[i]? = some o) (hDi:D i = false)
  (hrdE:∀ e ∈ o.after,Region.binds .any e = true→D e.on = true) (hod:okDst n kp o.dst) :
  ∃ (sP:St) (Z:CA→Prop) (fpP:Tmp→List CA) (b:Bool) (s2':St) (r:S),Inv w Z (Act.tm a) sP fpP∧wanted sP (qOf ops.toList o).guard = some b ∧
   ((b = true∧ev1 E call o.type sP o.op = some (s2',r))∨(b = false∧s2' = sP∧r = .tup [])) ∧
   ∀ v w',Brings w Z (Act.tm a) fpP s2' r v w'→DI w0 Z0 F0 n kp ops Ts st (updD D i) (a.put o.dst v) w' :=by
 obtain ⟨hSI,hLI,hSB,hS0,hDown⟩ :=id hI
 obtain ⟨Z,fp,hinv,h2,h3,h4,h5,h6,_⟩ :=hSI
 have hin:i < ops.size :=(Array.getElem?_eq_some_iff.1 hi).1
 have hDown':Down ops (updD D i) :=by
  intro k ok hk hDk e he hb
  simp only [updD] at hDk ⊢
  by_cases e1:k = i
  ·subst e1
   rw [hi] at hk
   simp at hk
   subst hk
   by_cases e2:e.on = k
   ·rw [if_pos e2]
   ·rw [if_neg e2]; exact hrdE e he hb
  ·rw [if_neg e1] at hDk
   by_cases e2:e.on = i
   ·rw [if_pos e2]
   ·rw [if_neg e2]; exact hDown k ok hk hDk e he hb
 have hrd:∀ k,Bef ops k i→D k = true :=by
  intro k hk
  have :=hk.2 (updD D i) hDown' (by simp [updD])
  simp only [updD] at this
  rw [if_neg (by have :=hk.1; omega)] at this
  exact this
 obtain ⟨hbx,hc,hst,he⟩ :=hR i o hi
 rcases hG.opnd i o hi with ⟨hx,hg⟩ | ⟨t0,hL⟩
 case inr =>exact DI.nextLoose hG hR hI hi hDi hrdE hod hL
 -- the older part
 have lkP:∀ t,look (older (st i).cnt (MD ops Ts st D).sl (MD ops Ts st D).sl) t = if (look (MD ops Ts st D).sl t).stampsLt (st i).cnt then look (MD ops Ts st D).sl t else .dead :=fun t =>look_older
 have hlo:∀ t,memT t (rdL Ts i o) = true→(look (MD ops Ts st D).sl t).stampsLt (st i).cnt∧look (MD ops Ts st D).sl t = look (st i).sl t :=fun t ht =>by
  have e :=(ready_look hG hR hDown hi hDi hrd ht).1
  exact ⟨by rw [e]; exact ready_stamps hG hR hI hi hrd ht,e⟩
 have hagr:Agr (tsAt Ts i) (st i) ⟨(st i).cnt,older (st i).cnt (MD ops Ts st D).sl (MD ops Ts st D).sl⟩ :=by
  refine ⟨rfl,fun t ht =>?_⟩
  obtain ⟨h1,h2⟩ :=hlo t (memT_append.2 (.inl ht))
  show look (older _ _ _) t = _
  rw [lkP,if_pos h1,h2]
 obtain ⟨b,s2,s2',r,hw,e1,p,hroot,hq,hev⟩ :=stepQ_loc hagr hc hx hg he
 have hinvP :=hinv.older (st i).cnt
 refine ⟨_,Z,_,b,s2',r,hinvP,hw,hev.imp id (fun h =>⟨h.1,h.2.2⟩),fun v w' hb =>?_⟩
 obtain ⟨Z',fp2,F,Dn⟩ :=hb
 have hdlt:∀ t,o.dst = some t→t < a.tmps.size :=fun t ht =>Nat.lt_of_lt_of_le (hod t ht).1 h6.size
 obtain ⟨fp3,inv3,hfp3,htm⟩ :=Dn.putInv (d :=o.dst) hdlt
 -- what the step's state and the given order's have in common
 have hcnt2:s2'.cnt = s2.cnt :=p.agr.cnt
 have hcnt3:(put o.dst r s2').cnt = (st (i + 1)).cnt :=by rw [e1,cnt_put,cnt_put,hcnt2]
 have hsame:∀ t,memT t (rdL Ts i o) = true→look (put o.dst r s2').sl t = look (st (i + 1)).sl t :=fun t ht =>by
  rw [e1,look_put,look_put,hcnt2]
  by_cases hd:o.dst = some t
  ·rw [if_pos hd,if_pos hd]
  ·rw [if_neg hd,if_neg hd]
   rcases memT_append.1 ht with ht | ht
   ·exact p.agr.at_ t ht
   ·exact absurd (mem_dstL.1 ht) hd
 have hrootT:∀ t,memT t (rdL Ts i o) = true→(look (st (i + 1)).sl t).isLink = true→memT (look (st (i + 1)).sl t).to (tsAt Ts i) = true :=fun t ht hl =>by
  rw [e1,look_put] at hl ⊢
  by_cases hd:o.dst = some t
  ·rw [if_pos hd] at hl ⊢
   rw [stamp_to]
   rw [stamp_isLink] at hl
   exact link_in hroot hl
  ·rw [if_neg hd] at hl ⊢
   rcases memT_append.1 ht with ht | ht
   ·exact link_in (p.cl t ht) hl
   ·exact absurd (mem_dstL.1 ht) hd
 have hsb':∀ t,memT t (rdL Ts i o) = true→(look (st (i + 1)).sl t).stampsLt (st (i + 1)).cnt :=fun t ht =>by
  rw [← hsame t ht,← hcnt3]; exact inv3.stamps t
 -- slots that are not written
 have hnw:∀ t,memT t (wrL Ts i o) = false→o.dst ≠ some t∧look (put o.dst r s2').sl t = look (older (st i).cnt (MD ops Ts st D).sl (MD ops Ts st D).sl) t :=fun t ht =>by
  have hd:o.dst ≠ some t :=fun e =>by
   have :=(hG.wr i o hi).2 t (mem_dstL.2 e)
   rw [this] at ht; cases ht
  refine ⟨hd,?_⟩
  rw [look_put,if_neg hd]
  cases hm:memT t (tsAt Ts i) with
  | false =>exact p.out' t hm
  | true =>
   have h1 :=hst t hm ht
   rw [e1] at h1
   rw [p.agr.at_ t hm,still_eq (p.mv t) hd h1]
   exact (hagr.at_ t hm).symm
 have lkN :=look_updD (st :=st) hG hDown hi hDi
 let In:Tmp→Prop :=fun t =>(look (MD ops Ts st D).sl t).stampsLt (st i).cnt∨memT t (wrL Ts i o) = true
 have hIn:∀ t,In t↔(look (MD ops Ts st D).sl t).stampsLt (st i).cnt∨memT t (wrL Ts i o) = true :=fun t =>Iff.rfl
 have hrdIn:∀ t,memT t (rdL Ts i o) = true→In t :=fun t ht =>.inl (hlo t ht).1
 have hM1:∀ t,In t→look (MD ops Ts st (updD D i)).sl t = look (put o.dst r s2').sl t :=fun t ht =>by
  rw [lkN]
  by_cases hm:memT t (wrL Ts i o) = true
  ·rw [if_pos hm]; exact (hsame t ((hG.wr i o hi).1 t hm)).symm
  ·rw [if_neg hm,(hnw t (by simpa using hm)).2,lkP]
   have:(look (MD ops Ts st D).sl t).stampsLt (st i).cnt :=((hIn t).1 ht).resolve_right hm
   rw [if_pos this]
 have hM2:∀ t,¬ In t→look (MD ops Ts st (updD D i)).sl t = look (MD ops Ts st D).sl t :=fun t ht =>by
  rw [lkN,if_neg (fun hm =>ht (.inr hm))]
 have hdst:∀ t,¬ In t→o.dst ≠ some t :=fun t ht e =>ht (hrdIn t (memT_append.2 (.inr (mem_dstL.2 e))))
 have hfpP:∀ u,∀ c ∈ (if (look (MD ops Ts st D).sl u).stampsLt (st i).cnt then fp u else []),(look (MD ops Ts st D).sl u).stampsLt (st i).cnt∧c ∈ fp u :=fun u c hc =>by
  by_cases hu:(look (MD ops Ts st D).sl u).stampsLt (st i).cnt
  ·rw [if_pos hu] at hc; exact ⟨hu,hc⟩
  ·rw [if_neg hu] at hc; cases hc
 have hfrom:∀ t,∀ c ∈ fp3 t,(∃ u,(look (MD ops Ts st D).sl u).stampsLt (st i).cnt∧c ∈ fp u)∨w.heap.size≤c.1 :=fun t c hc =>by
  have h7:(∃ t,c ∈ (if (look (MD ops Ts st D).sl t).stampsLt (st i).cnt then fp t else []))∨w.heap.size≤c.1 :=Dn.from_ c (by
   rcases hfp3 t c hc with h | h
   ·exact .inl h
   ·exact .inr h)
  rcases h7 with ⟨u,hu⟩ | h7
  ·exact .inl ⟨u,hfpP u c hu⟩
  ·exact .inr h7
 have offP:∀ t,¬ In t→∀ c ∈ fp t,¬ ∃ u,c ∈ (if (look (MD ops Ts st D).sl u).stampsLt (st i).cnt then fp u else []) :=by
  rintro t ht c hc ⟨u,hu⟩
  obtain ⟨h8,h9⟩ :=hfpP u c hu
  have htu:t ≠ u :=fun e =>ht (.inl (by rw [e]; exact h8))
  exact hinv.disj t u htu c hc h9
 have hcle:(st (i + 1)).cnt≤(st ops.size).cnt :=Trace.cnt_le hG hR (by omega) (Nat.le_refl _)
 have invM:∃ fpM,Inv w' Z' (Act.tm (a.put o.dst v)) (MD ops Ts st (updD D i)) fpM∧(∀ t,In t→fpM t = fp3 t)∧∀ t,¬ In t→fpM t = fp t :=by
  refine ⟨_,Inv.merge (In :=In) hinv inv3 Dn.zz hM1 hM2 (fun t ht =>htm t (hdst t ht)) (fun t ht hl hto =>?_) (fun t ht hl hto =>?_) (fun t ht =>?_) (fun t ht c hcf =>?_) (fun t u ht hu c hcf hcu =>?_) (by rw [hcnt3]; exact hcle) (Nat.le_refl _),fun t ht =>if_pos ht,fun t ht =>if_neg ht⟩
  ·intro hlv
   apply ht
   left
   by_cases hm:memT (look (MD ops Ts st D).sl t).to (wrL Ts i o) = true
   ·exact hLI t hl i o hi hDi hm
   ·refine live_lt hl hlv ?_
    rw [lkN,if_neg hm]
    exact ((hIn _).1 hto).resolve_right hm
  ·have hnrd:memT t (rdL Ts i o) = false :=by
    cases hm:memT t (rdL Ts i o) with
    | false =>rfl
    | true =>
     exfalso
     rw [hsame t hm] at hl hto
     exact hto (hrdIn _ (memT_append.2 (.inl (hrootT t hm hl))))
   have hnwr:memT t (wrL Ts i o) = false :=by
    cases hm:memT t (wrL Ts i o) with
    | false =>rfl
    | true =>rw [(hG.wr i o hi).1 t hm] at hnrd; cases hnrd
   obtain ⟨hd,hlk⟩ :=hnw t hnwr
   refine ⟨?_,htm t hd⟩
   rw [hlk,lkP,if_pos (((hIn t).1 ht).resolve_right (by rw [hnwr]; simp))]
  ·refine Dn.goes.same fun c hcc =>?_
   rcases hcc with hcc | hcc
   ·exact ⟨(hinv.mine t c hcc).1,offP t ht c hcc⟩
   ·refine ⟨hinv.zok c hcc,?_⟩
    rintro ⟨u,hu⟩
    exact (hinv.mine u c (hfpP u c hu).2).2.2 hcc
  ·obtain ⟨m1,m2,m3⟩ :=hinv.mine t c hcf
   refine ⟨Dn.goes.some c m1,by rw [Dn.goes.fro c (cell_lt m1)]; exact m2,fun hz =>?_⟩
   rcases Dn.zfrom c hz with h | h | h
   ·exact m3 h
   ·exact offP t ht c hcf h
   ·exact absurd (cell_lt m1) (by omega)
  ·rcases hfrom t c hcf with ⟨u',h8,h9⟩ | h
   ·have huu:u ≠ u' :=fun e =>hu (.inl (by rw [e]; exact h8))
    exact hinv.disj u u' huu c hcu h9
   ·exact absurd (cell_lt (hinv.mine u c hcu).1) (by omega)
 obtain ⟨fpM,invM,fpI,fpN⟩ :=invM
 refine ⟨⟨Z',_,invM,fun c hc =>Dn.zz c (h2 c hc),fun c hc =>?_,?_,fun t c hc =>?_,h6.put hod,fun p hp =>by cases hp⟩,fun t hl k ok hk hDk hm =>?_,fun k ok hk hDk t ht =>?_,hS0,hDown'⟩
 ·rcases Dn.zfrom c hc with h | ⟨t,ht⟩ | h
  ·exact h3 c h
  ·exact .inr (h5 t c (hfpP t c ht).2)
  ·exact .inr (.inr (Nat.le_trans h4.size h))
 ·refine h4.trans Dn.goes fun c hc =>?_
  obtain ⟨t,ht⟩ :=hc
  exact h5 t c (hfpP t c ht).2
 ·by_cases ht:In t
  ·rw [fpI t ht] at hc
   rcases hfrom t c hc with ⟨u,_,h9⟩ | h
   ·exact h5 u c h9
   ·exact .inr (Nat.le_trans h4.size h)
  ·rw [fpN t ht] at hc
   exact h5 t c hc
 ·have hki:k ≠ i :=fun e =>by subst e; simp [updD] at hDk
  have hDk':D k = false :=by simp only [updD] at hDk; rw [if_neg hki] at hDk; exact hDk
  have hkn:k < ops.size :=(Array.getElem?_eq_some_iff.1 hk).1
  rw [lkN] at hl hm ⊢
  by_cases hw':memT t (wrL Ts i o) = true
  ·rw [if_pos hw'] at hl hm ⊢
   have hto :=hrootT t ((hG.wr i o hi).1 t hw') hl
   rcases hG.conf k i ok o _ hk hi hki hm (memT_append.2 (.inl hto)) with h | h
   ·rw [hrd k h] at hDk'; cases hDk'
   ·exact stampsLt_mono (hsb' t ((hG.wr i o hi).1 t hw')) (Trace.cnt_le hG hR (by have :=h.1; omega) (by omega))
  ·rw [if_neg hw'] at hl hm ⊢
   exact hLI t hl k ok hk hDk' hm
 ·by_cases hki:k = i
  ·subst hki
   rw [hi] at hk
   simp at hk
   subst hk
   exact hsb' t ht
  ·have hDk':D k = true :=by simp only [updD] at hDk; rw [if_neg hki] at hDk; exact hDk
   exact hSB k ok hk hDk' t ht
end
end Go.Sx

/- Regions that draw their order,run in every order. -/
namespace Go.Sx
section
variable {P:Program} {E:Env} {w0 w:World} {Z0:CA→Prop} {F0:List CA} {n:Nat} {kp:List (Tmp × Value)} {ops:Array Oper} {call:Sem1}

theorem step_wp (hT:TOk P E) (hE:EqOk P E) (hC:∀ f,CallOk P E call f) (hF:∀ f args res,call f args = some res→Callable P f) {Q:Exit→Act→World→Prop} {i:Nat} {o:Oper} (ho:ops[i]? = some o) (hod:okDst n kp o.dst)
  {s s1:St} {a:Act} (h:SI w0 Z0 F0 n kp [] s a w) (he:stepP E call s o.dst o.op o.type (wanted s (qOf ops.toList o).guard) (Sx.preX E s o.op) = some s1) {K:Act→World→Prop} (hK:∀ a1 w1,SI w0 Z0 F0 n kp [] (postX (preP o.dst o.op s) s1) a1 w1→K a1 w1) :
  wpOp P ops Q i K a w :=by
 have hsi :=h
 obtain ⟨Z,fp,hinv,h2,h3,h4,h5,h6,h7⟩ :=h
 unfold wpOp
 rw [ho]
 simp only
 cases hpx:Sx.preX E s o.op with
 | mk sp xo =>
 rw [hpx] at he
 cases hw:wanted s (qOf ops.toList o).guard with
 | none =>rw [hw] at he; cases xo <;> simp [stepP,stepR,stepB,stepQ] at he
 | some b =>
  rw [wanted_of hinv hw]
  rw [hw] at he
  cases xo with
  | some x =>
   obtain ⟨t,v,vs,hop,hlk,rfl,rfl⟩ :=preX_some hpx
   cases b with
   | true =>
    simp only [if_true]
    simp only [stepP,stepR,stepB] at he
    simp at he
    subst he
    refine .inl ?_
    obtain ⟨fp',F,D⟩ :=tup_move hinv hlk
    refine wp_of_runs (R :=fun v1 w1 =>v1 = Act.tm a t∧w1 = w) ⟨_,_,⟨rfl,rfl⟩,fun o' h8 _ =>.inl (by unfold execOp; rw [h8,hop]; rfl)⟩ ?_
    rintro v1 w1 ⟨rfl,rfl⟩
    rw [hop,preP_move] at hK
    refine hK _ _ (SI.put h2 h3 h4 h5 h6 hinv h7 (fun u hu =>?_) ⟨Z,fp',F,D,fun p hp =>by cases hp⟩ hod)
    by_cases hut:t = u
    ·subst hut
     simp [Sx.put,look,S.stamp,S.isFz] at hu
    ·simpa [Sx.put,look,hut] using hu
   | false =>
    simp only [stepP,stepR,stepB] at he
    simp at he
    subst he
    simp only [Bool.false_eq_true,if_false]
    rw [hop,preP_move] at hK
    exact hK _ _ (SI.put h2 h3 h4 h5 h6 (v :=undef) hinv h7 (fun _ h =>h) ⟨Z,fp,[],Done.still hinv (x :=.tup []) ⟨[],rfl,rfl⟩ trivial,fun p hp =>by cases hp⟩ hod)
  | none =>
  have hpre2 :=SI.preX (fun _ =>rfl) hsi hpx
  clear hinv h2 h3 h4 h5 h6 h7 Z fp
  obtain ⟨Z,fp,hinv,h2,h3,h4,h5,h6,h7⟩ :=hpre2
  cases b with
  | true =>
   simp only [if_true]
   simp only [stepP,stepR,stepQ] at he
   obtain ⟨q,h1,he⟩ :=bE.1 he
   simp at he
   subst he
   exact .inl (op_wp hT hE hC hF hinv h1 (fun v w' hbr =>hK _ _ (SI.post hpx hinv (SI.put h2 h3 h4 h5 h6 hinv h7 (ev1_fz h1) (by
     obtain ⟨Z',fp',F,D⟩ :=hbr
     exact ⟨Z',fp',F,D,fun p hp =>by cases hp⟩) hod) (put_tm h6 hod) (post_mv (ev1_mv h1)) (fun d t x y hd hop =>by rw [hd]; exact put_tup (entry_tup h1 hop)))))
  | false =>
   simp only [stepP,stepR,stepQ] at he
   simp at he
   subst he
   simp only [Bool.false_eq_true,if_false]
   exact hK _ _ (SI.post hpx hinv (SI.put h2 h3 h4 h5 h6 (v :=undef) hinv h7 (fun _ h =>h) ⟨Z,fp,[],Done.still hinv (x :=.tup []) ⟨[],rfl,rfl⟩ trivial,fun p hp =>by cases hp⟩ hod) (put_tm h6 hod) (post_mv (fun t =>.inl rfl)) (fun d t x y hd hop =>by rw [hd]; exact put_tup ⟨[],rfl⟩))

def nextB (ops:Array Oper) (p:List Nat) (i:Nat):Bool :=!p.contains i && (match ops[i]? with
 | none =>false
 | some o =>o.after.all fun e =>!Region.binds .any e || p.contains e.on)

def dagB (ops:Array Oper) (N:List DNode):Bool :=(match N[0]? with | none =>false | some nd =>nd.p.isEmpty) && (List.range N.length).all fun k =>match N[k]? with
 | none =>true
 | some nd =>((List.range ops.size).all fun i =>!nextB ops nd.p i || nd.es.any fun e =>decide (e.1 = i)) && (nd.es.all fun e =>nextB ops nd.p e.1 && (match N[e.2.1]? with
  | none =>false
  | some nd' =>(nd'.p.all fun j =>(e.1 :: nd.p).contains j) && (e.1 :: nd.p).all fun j =>nd'.p.contains j)) && (!nd.es.isEmpty || decide (k = N.length - 1))

structure FreeGood (ops:Array Oper) (N:List DNode):Prop where
 first:∃ nd,N[0]? = some nd∧nd.p = []
 all_:∀ (k:Nat) (nd:DNode),N[k]? = some nd→∀ i,nextB ops nd.p i = true→∃ e ∈ nd.es,e.1 = i
 edge:∀ (k:Nat) (nd:DNode),N[k]? = some nd→∀ e ∈ nd.es,nextB ops nd.p e.1 = true∧∃ nd',N[e.2.1]? = some nd'∧∀ j,j ∈ nd'.p↔j = e.1∨j ∈ nd.p
 last:∀ (k:Nat) (nd:DNode),N[k]? = some nd→nd.es = []→k = N.length - 1

theorem dagB_good {N:List DNode} (h:dagB ops N = true):FreeGood ops N :=by
 simp only [dagB,Bool.and_eq_true] at h
 obtain ⟨h0,h⟩ :=h
 have at_:∀ (k:Nat) (nd:DNode),N[k]? = some nd→((List.range ops.size).all fun i =>!nextB ops nd.p i || nd.es.any fun e =>decide (e.1 = i)) = true∧(nd.es.all fun e =>nextB ops nd.p e.1 && (match N[e.2.1]? with
  | none =>false
  | some nd' =>(nd'.p.all fun j =>(e.1 :: nd.p).contains j) && (e.1 :: nd.p).all fun j =>nd'.p.contains j)) = true∧(!nd.es.isEmpty || decide (k = N.length - 1)) = true :=by
  intro k nd hk
  have hlt:k < N.length :=(List.getElem?_eq_some_iff.1 hk).1
  have :=List.all_eq_true.1 h k (by simpa using hlt)
  rw [hk] at this
  simp only [Bool.and_eq_true] at this
  exact ⟨this.1.1,this.1.2,this.2⟩
 refine ⟨?_,fun k nd hk i hn =>?_,fun k nd hk e he =>?_,fun k nd hk he =>?_⟩
 ·cases hx:N[0]? with
  | none =>rw [hx] at h0; cases h0
  | some nd =>rw [hx] at h0; exact ⟨nd,rfl,by simpa using h0⟩
 ·have hlt:i < ops.size :=by
   rcases Nat.lt_or_ge i ops.size with h | h
   ·exact h
   ·simp [nextB,Array.getElem?_eq_none h] at hn
  have :=List.all_eq_true.1 (at_ k nd hk).1 i (by simpa using hlt)
  rw [hn] at this
  simp only [Bool.not_true,Bool.false_or] at this
  obtain ⟨e,he,h1⟩ :=List.any_eq_true.1 this
  exact ⟨e,he,by simpa using h1⟩
 ·have :=List.all_eq_true.1 (at_ k nd hk).2.1 e he
  simp only [Bool.and_eq_true] at this
  refine ⟨this.1,?_⟩
  have h2 :=this.2
  cases hx:N[e.2.1]? with
  | none =>rw [hx] at h2; cases h2
  | some nd' =>
   rw [hx] at h2
   simp only [Bool.and_eq_true,List.all_eq_true] at h2
   refine ⟨nd',rfl,fun j =>⟨fun hj =>?_,fun hj =>?_⟩⟩
   ·have :=h2.1 j hj
    simpa using this
   ·have :=h2.2 j (by simpa using hj)
    simpa using this
 ·have :=(at_ k nd hk).2.2
  rw [he] at this
  simpa using this

theorem nextB_same {p p':List Nat} (h:∀ j,j ∈ p↔j ∈ p') (i:Nat):nextB ops p i = nextB ops p' i :=by
 have hc:∀ j,p.contains j = p'.contains j :=fun j =>by
  have :=h j
  by_cases h1:j ∈ p
  ·rw [List.contains_iff_mem.2 h1,List.contains_iff_mem.2 (this.1 h1)]
  ·have h2:¬ j ∈ p' :=fun hh =>h1 (this.2 hh)
   rw [Bool.eq_false_iff.2 (fun hh =>h1 (List.contains_iff_mem.1 hh)),Bool.eq_false_iff.2 (fun hh =>h2 (List.contains_iff_mem.1 hh))]
 simp only [nextB,hc]

theorem findF_add {k t:Nat} {x s:St} {F F':List (Nat × St)} (h:addF t x F (findF t F) = some F'):findF t F' = some x∧(findF k F = some s→findF k F' = some s) :=by
 cases hf:findF t F with
 | none =>
  rw [hf] at h
  simp [addF] at h
  subst h
  refine ⟨by simp [findF],fun hk =>?_⟩
  simp only [findF]
  split
  ·rename_i e
   subst e
   rw [hf] at hk
   cases hk
  ·exact hk
 | some y =>
  rw [hf] at h
  simp only [addF] at h
  split at h
  ·rename_i e
   simp at h
   subst h
   exact ⟨by rw [hf,e],fun h =>h⟩
  ·cases h

theorem dagE_ok {qs:List Sx.Q} {s:St}:∀ {es:List (Nat × Nat × List Tmp)} {F F':List (Nat × St)},dagE E call qs s es F = some F'→(∀ k y,findF k F = some y→findF k F' = some y) ∧
  ∀ e ∈ es,∃ q x,atL qs e.1 = some q∧evOps E call [q] s = some x∧findF e.2.1 F' = some (mask e.2.2 x)
 | [],F,F',h =>by
  simp [dagE] at h
  subst h
  exact ⟨fun _ _ h =>h,by simp⟩
 | e :: r,F,F',h =>by
  obtain ⟨q,h1,h⟩ :=bE.1 (show bnd (atL qs e.1) _ = some F' from h)
  obtain ⟨x,h2,h⟩ :=bE.1 h
  obtain ⟨G,h3,h⟩ :=bE.1 h
  obtain ⟨i1,i2⟩ :=dagE_ok (es :=r) h
  refine ⟨fun k y hk =>i1 k y ((findF_add h3).2 hk),fun e' he' =>?_⟩
  rcases List.mem_cons.1 he' with rfl | he'
  ·exact ⟨q,x,h1,h2,i1 _ _ (findF_add (k :=0) (s :=x) h3).1⟩
  ·exact i2 e' he'

theorem dagN_ok {qs:List Sx.Q}:∀ {N:List DNode} {k:Nat} {F F':List (Nat × St)},dagN E call qs k N F = some F'→(∀ j y,findF j F = some y→findF j F' = some y) ∧
  ∀ i nd,N[i]? = some nd→∃ s,findF (k + i) F' = some s∧∀ e ∈ nd.es,∃ q x,atL qs e.1 = some q∧evOps E call [q] s = some x∧findF e.2.1 F' = some (mask e.2.2 x)
 | [],k,F,F',h =>by
  simp [dagN] at h
  subst h
  exact ⟨fun _ _ h =>h,by simp⟩
 | n :: r,k,F,F',h =>by
  obtain ⟨s,h1,h⟩ :=bE.1 (show bnd (findF k F) _ = some F' from h)
  obtain ⟨G,h2,h⟩ :=bE.1 h
  obtain ⟨i1,i2⟩ :=dagE_ok h2
  obtain ⟨j1,j2⟩ :=dagN_ok (N :=r) h
  refine ⟨fun j y hj =>j1 j y (i1 j y hj),fun i nd hi =>?_⟩
  cases i with
  | zero =>
   simp at hi
   subst hi
   refine ⟨s,j1 _ _ (i1 _ _ h1),fun e he =>?_⟩
   obtain ⟨q,x,e1,e2,e3⟩ :=i2 e he
   exact ⟨q,x,e1,e2,j1 _ _ e3⟩
  | succ i =>
   obtain ⟨s',e1,e2⟩ :=j2 i nd (by simpa using hi)
   exact ⟨s',by rw [← e1]; congr 1; omega,e2⟩

theorem evOps_one {q:Sx.Q} {s s2:St} (h:evOps E call [q] s = some s2):∃ s1,stepP E call s q.dst q.op q.type (wanted s q.guard) (Sx.preX E s q.op) = some s1∧s2 = postX (preP q.dst q.op s) s1 :=by
 obtain ⟨dst,op,ty,g⟩ :=q
 simp only [evOps] at h
 cases hs:stepP E call s dst op ty (wanted s g) (Sx.preX E s op) with
 | none =>rw [hs] at h; cases h
 | some s1 =>rw [hs] at h; simp [evOps] at h; exact ⟨s1,rfl,h.symm⟩

theorem qsOf_at {all:List Oper}:∀ {l:List Oper} {i:Nat},atL (qsOf all l) i = (l[i]?).map (qOf all)
 | [],i =>by cases i <;> rfl
 | o :: l,0 =>rfl
 | o :: l,i + 1 =>by simp only [qsOf,atL,List.getElem?_cons_succ]; exact qsOf_at (l :=l)

theorem nodup_len:∀ (n:Nat) (l:List Nat),l.Nodup→(∀ x ∈ l,x < n)→l.length≤n
 | 0,l,_,h =>by
  cases l with
  | nil =>simp
  | cons x r =>exact absurd (h x (by simp)) (by omega)
 | n + 1,l,hn,h =>by
  have h1 :=nodup_len n (l.erase n) (hn.erase n) (fun x hx =>by
   have h2 :=h x (List.mem_of_mem_erase hx)
   have h3:x ≠ n :=fun e =>by
    subst e
    exact (hn.mem_erase_iff.1 hx).1 rfl
   omega)
  have h4 :=List.length_erase (a :=n) (l :=l)
  split at h4 <;> omega

theorem free_wp (hT:TOk P E) (hE:EqOk P E) (hC:∀ f,CallOk P E call f) (hF:∀ f args res,call f args = some res→Callable P f) {N:List DNode} (hG:FreeGood ops N) (hops:∀ o ∈ ops,okDst n kp o.dst) {F:List (Nat × St)} {y:St}
  (hN:∀ i nd,N[i]? = some nd→∃ s,findF i F = some s∧∀ e ∈ nd.es,∃ q x,atL (qsOf ops.toList ops.toList) e.1 = some q∧evOps E call [q] s = some x∧findF e.2.1 F = some (mask e.2.2 x)) (hy:findF (N.length - 1) F = some y)
  {R:Exit→Act→World→Prop} (hQ:∀ a w,SI w0 Z0 F0 n kp [] y a w→R .normal a w) :
  ∀ (fuel:Nat) (listed:Array Bool) (p:List Nat) (k:Nat) (nd:DNode) (sp:St) (a:Act) (w:World),listed.size = ops.size→(∀ i,i < ops.size→(listed.getD i false = true↔i ∈ p))→ops.size≤fuel + p.length →
   p.Nodup→(∀ i ∈ p,i < ops.size)→N[k]? = some nd→(∀ j,j ∈ p↔j ∈ nd.p)→findF k F = some sp→SI w0 Z0 F0 n kp [] sp a w→wpAny P .any ops R fuel listed a w :=by
 have ready:∀ (listed:Array Bool) (p:List Nat) (i:Nat),listed.size = ops.size→(∀ i,i < ops.size→(listed.getD i false = true↔i ∈ p))→(∀ i ∈ p,i < ops.size)→(i ∈ Region.ready .any ops listed↔nextB ops p i = true) :=by
  intro listed p i hsz hl hp
  rw [mem_ready]
  unfold nextB
  constructor
  ·rintro ⟨h1,o,h2,h3⟩
   have hlt:i < ops.size :=(Array.getElem?_eq_some_iff.1 h2).1
   rw [h2]
   simp only [Bool.and_eq_true,Bool.not_eq_true',Array.all_eq_true_iff_forall_mem,Bool.or_eq_true]
   refine ⟨?_,fun e he =>?_⟩
   ·cases hc:p.contains i with
    | false =>rfl
    | true =>
     have :=(hl i hlt).2 (by simpa using hc)
     rw [Array.getD_eq_getD_getElem?] at this h1
     have hi:i < listed.size :=by omega
     rw [Array.getElem?_eq_getElem hi] at this h1
     simp only [Option.getD_some] at this h1
     rw [h1] at this
     cases this
   ·cases hb:Region.binds .any e with
    | false =>exact .inl rfl
    | true =>
     right
     have h4 :=h3 e he hb
     have hlt2:e.on < ops.size :=by
      rcases Nat.lt_or_ge e.on ops.size with h | h
      ·exact h
      ·rw [Array.getD_eq_getD_getElem?,Array.getElem?_eq_none (by omega)] at h4; cases h4
     simpa using (hl e.on hlt2).1 h4
  ·intro h
   cases ho:ops[i]? with
   | none =>rw [ho] at h; simp at h
   | some o =>
    rw [ho] at h
    simp only [Bool.and_eq_true,Bool.not_eq_true',Array.all_eq_true_iff_forall_mem,Bool.or_eq_true] at h
    have hlt:i < ops.size :=(Array.getElem?_eq_some_iff.1 ho).1
    refine ⟨?_,o,rfl,fun e he hb =>?_⟩
    ·have hi:i < listed.size :=by omega
     have hnot:¬ listed.getD i false = true :=fun hc =>by
      have :=(hl i hlt).1 hc
      have h1 :=h.1
      simp [this] at h1
     rw [Array.getD_eq_getD_getElem?,Array.getElem?_eq_getElem hi] at hnot ⊢
     simp only [Option.getD_some] at hnot ⊢
     simpa using hnot
    ·have h4 :=(h.2 e he).resolve_left (by simp [hb])
     have hm:e.on ∈ p :=by simpa using h4
     exact (hl e.on (hp _ hm)).2 hm
 have fin:∀ (listed:Array Bool) (p:List Nat) (k:Nat) (nd:DNode) (sp:St) (a:Act) (w:World),listed.size = ops.size→(∀ i,i < ops.size→(listed.getD i false = true↔i ∈ p))→(∀ i ∈ p,i < ops.size) →
   N[k]? = some nd→(∀ j,j ∈ p↔j ∈ nd.p)→findF k F = some sp→SI w0 Z0 F0 n kp [] sp a w→Region.ready .any ops listed = []→R .normal a w :=by
  intro listed p k nd sp a w hsz hl hp hk hpn hf hSI hrd
  have hes:nd.es = [] :=by
   cases hx:nd.es with
   | nil =>rfl
   | cons e r =>
    have h1 :=(hG.edge k nd hk e (by rw [hx]; simp)).1
    rw [← nextB_same hpn] at h1
    have :=(ready listed p e.1 hsz hl hp).2 h1
    rw [hrd] at this
    cases this
  have hlast :=hG.last k nd hk hes
  rw [← hlast,hf] at hy
  simp at hy
  rw [← hy] at hQ
  exact hQ a w hSI
 intro fuel
 induction fuel with
 | zero =>
  intro listed p k nd sp a w hsz hl hfu hnd hp hk hpn hf hSI
  have hnone:Region.ready .any ops listed = [] :=by
   rw [List.eq_nil_iff_forall_not_mem]
   intro j hj
   have hj :=(ready listed p j hsz hl hp).1 hj
   -- p holds all of the numbers
   have hlt:j < ops.size :=by
    rcases Nat.lt_or_ge j ops.size with h | h
    ·exact h
    ·simp [nextB,Array.getElem?_eq_none h] at hj
   have hnj:j ∉ p :=by
    intro hm
    simp [nextB,hm] at hj
   have h1:(j :: p).Nodup :=List.nodup_cons.2 ⟨hnj,hnd⟩
   have h2:(j :: p).length≤ops.size :=nodup_len _ _ h1 (fun x hx =>by
    rcases List.mem_cons.1 hx with rfl | hx
    ·exact hlt
    ·exact hp x hx)
   simp at h2
   omega
  exact ⟨hnone,fin listed p k nd sp a w hsz hl hp hk hpn hf hSI hnone⟩
 | succ fuel ih =>
  intro listed p k nd sp a w hsz hl hfu hnd hp hk hpn hf hSI
  refine ⟨fun hrd =>fin listed p k nd sp a w hsz hl hp hk hpn hf hSI hrd,fun i hi =>?_⟩
  have hn :=(ready listed p i hsz hl hp).1 hi
  have hlt:i < ops.size :=by
   rcases Nat.lt_or_ge i ops.size with h | h
   ·exact h
   ·simp [nextB,Array.getElem?_eq_none h] at hn
  have hnj:i ∉ p :=by
   intro hm
   simp [nextB,hm] at hn
  obtain ⟨e,he,hei⟩ :=hG.all_ k nd hk i (by rw [← nextB_same hpn]; exact hn)
  obtain ⟨_,nd',hk',hp'⟩ :=hG.edge k nd hk e he
  obtain ⟨s0,hf0,hes⟩ :=hN k nd hk
  rw [hf] at hf0
  simp at hf0
  subst hf0
  obtain ⟨q,x,h7,h11,h13⟩ :=hes e he
  have ho:ops[i]? = some ops[i] :=Array.getElem?_eq_getElem hlt
  rw [hei,qsOf_at] at h7
  have hol:ops.toList[i]? = some ops[i] :=by simp
  rw [hol] at h7
  simp at h7
  subst h7
  obtain ⟨s1,hst,hx1⟩ :=evOps_one h11
  refine step_wp hT hE hC hF ho (hops _ (Array.mem_of_getElem? ho)) hSI hst (fun a1 w1 hSI1 =>?_)
  rw [show postX (preP ops[i].dst ops[i].op sp) s1 = x from hx1.symm] at hSI1
  refine ih _ (p ++ [i]) e.2.1 nd' _ a1 w1 (by simpa using hsz) (fun j hj =>?_) (by simp; omega) ?_ (fun j hj =>?_) hk' (fun j =>?_) h13 (hSI1.mask e.2.2)
  ·by_cases hij:j = i
   ·subst hij
    have:j < listed.size :=by omega
    simp [this]
   ·rw [getD_set_ne false (Ne.symm hij)]
    rw [hl j hj]
    simp [hij]
  ·rw [List.nodup_append]
   refine ⟨hnd,by simp,fun c hc d hd e =>?_⟩
   simp at hd
   subst e
   subst hd
   exact hnj hc
  ·rcases List.mem_append.1 hj with hj | hj
   ·exact hp j hj
   ·simp at hj
    subst hj
    exact hlt
  ·rw [hp' j,hei,List.mem_append,hpn j]
   simp
   exact or_comm

theorem free_ok (hm:P.follows .mixedOrders = true) (hT:TOk P E) (hE:EqOk P E) (hC:∀ f,CallOk P E call f) (hF:∀ f args res,call f args = some res→Callable P f) {A:Ann} {id:Nat} {N:List DNode} (hz:A.free id = some N) (hG:FreeGood ops N):DrawOk P E call A id ops :=by
 intro w0 Z0 F0 n kp Q s s' a w hops hQ hSI he
 rw [hz] at he
 obtain ⟨F,h1,hy⟩ :=bE.1 (show bnd (dagN E call _ 0 N [(0,s)]) _ = some s' from he)
 obtain ⟨hkeep,hN⟩ :=dagN_ok h1
 obtain ⟨nd,hk,hp⟩ :=hG.first
 obtain ⟨Z,fp,hinv,h2,h3,h4,h5,h6,_⟩ :=hSI
 have hinv2:Inv { w with drawn :=w.drawn + 1 } Z (Act.tm a) s fp :=hinv.world (fun _ h =>h) (fun t c _ =>rfl) (fun t c hc =>hinv.mine t c hc) hinv.zok
 refine wp_region_any hm (free_wp hT hE hC hF hG hops (fun i nd hi =>by simpa using hN i nd hi) hy hQ _ _ [] 0 nd s _ _ (by simp) (fun i hi =>?_) (by simp) List.nodup_nil (by simp) hk (fun j =>by rw [hp]) (hkeep 0 s (by simp [findF])) ⟨Z,fp,hinv2,h2,h3,h4.trans (goes_drewN w _ (fun c =>c ∈ F0)) (fun c hc =>.inl hc),h5,h6,fun p hp =>by cases hp⟩)
 simp [Array.getD_eq_getD_getElem?,Array.getElem?_replicate,hi]
end
end Go.Sx

/- Regions that draw their order are sound; checks that the kernel does. -/
namespace Go.Sx
section
variable {P:Program} {E:Env} {w0:World} {Z0:CA→Prop} {F0:List CA} {n:Nat} {kp:List (Tmp × Value)} {ops:Array Oper} {Ts:List (List Tmp × List Tmp)} {call:Sem1} {st:Nat→St}

def dOf (l:Array Bool):Nat→Bool :=fun i =>l.getD i false

theorem dOf_set {l:Array Bool} {i:Nat} (hi:i < l.size):dOf (l.setIfInBounds i true) = updD (dOf l) i :=by
 funext k
 simp only [dOf,updD]
 by_cases h:k = i
 ·subst h; simp [hi]
 ·rw [if_neg h,getD_set_ne false (Ne.symm h)]

theorem draw_any (hT:TOk P E) (hE:EqOk P E) (hC:∀ f,CallOk P E call f) (hF:∀ f args res,call f args = some res→Callable P f) (hG:DrawGood ops Ts) (hR:Trace E call ops Ts st) (hops:∀ o ∈ ops,okDst n kp o.dst) {Q:Exit→Act→World→Prop}
  (hQ:∀ a w,SI w0 Z0 F0 n kp [] (st ops.size) a w→Q .normal a w):∀ (fuel:Nat) (listed:Array Bool) (a:Act) (w:World),listed.size = ops.size→left (dOf listed) ops.size≤fuel→DI w0 Z0 F0 n kp ops Ts st (dOf listed) a w→wpAny P .any ops Q fuel listed a w :=by
 have fin:∀ (D:Nat→Bool) a w,(∀ k,k < ops.size→D k = true)→DI w0 Z0 F0 n kp ops Ts st D a w→Q .normal a w :=by
  intro D a w hD hI
  obtain ⟨Z,fp,hinv,h2,h3,h4,h5,h6,_⟩ :=hI.si
  exact hQ a w ⟨Z,fp,hinv.congr (fun t =>(look_allD hG hR hD t).symm) (fun t =>hinv.stamps t),h2,h3,h4,h5,h6,fun p hp =>by cases hp⟩
 have small:∀ (listed:Array Bool) (j:Nat),listed.getD j true = false→dOf listed j = false :=by
  intro l j h
  simp only [dOf,Array.getD_eq_getD_getElem?] at h ⊢
  cases hx:l[j]? with
  | none =>simp
  | some b =>rw [hx] at h; simpa using h
 have sizeOf:∀ (listed:Array Bool) (j:Nat),listed.getD j true = false→j < listed.size :=by
  intro l j h
  rcases Nat.lt_or_ge j l.size with h' | h'
  ·exact h'
  ·simp [Array.getElem?_eq_none h'] at h
 have done:∀ (listed:Array Bool),listed.size = ops.size→Region.ready .any ops listed = []→∀ k,k < ops.size→dOf listed k = true :=by
  intro listed hsz hr k
  induction k using Nat.strongRecOn with
  | ind k ih =>
   intro hk
   cases hd:dOf listed k with
   | true =>rfl
   | false =>
    exfalso
    have hmem:k ∈ Region.ready .any ops listed :=by
     rw [mem_ready]
     refine ⟨?_,ops[k],Array.getElem?_eq_getElem hk,fun e he hb =>?_⟩
     ·have hk':k < listed.size :=by omega
      simp only [dOf,Array.getD_eq_getD_getElem?,Array.getElem?_eq_getElem hk',Option.getD_some] at hd ⊢
      exact hd
     ·have hlt :=hG.back k _ (Array.getElem?_eq_getElem hk) e he hb
      exact ih e.on hlt (by omega)
    rw [hr] at hmem
    cases hmem
 intro fuel
 induction fuel with
 | zero =>
  intro listed a w hsz hle hI
  have hall :=left_zero (show left (dOf listed) ops.size = 0 by omega)
  refine ⟨?_,fin _ a w hall hI⟩
  rw [List.eq_nil_iff_forall_not_mem]
  intro j hj
  obtain ⟨h0,o,ho,_⟩ :=mem_ready.1 hj
  have :=hall j (by have :=sizeOf _ _ h0; omega)
  rw [small _ _ h0] at this
  cases this
 | succ fuel ih =>
  intro listed a w hsz hle hI
  refine ⟨fun hr =>fin _ a w (done listed hsz hr) hI,fun i hi =>?_⟩
  obtain ⟨h0,o,ho,hall⟩ :=mem_ready.1 hi
  have hDi :=small _ _ h0
  have hisz :=sizeOf _ _ h0
  obtain ⟨sP,Z,fpP,b,s2',r,hinv,hw,hev,hnext⟩ :=DI.next hG hR hI ho hDi hall (hops o (Array.mem_of_getElem? ho))
  have go:∀ v w',Brings w Z (Act.tm a) fpP s2' r v w'→wpAny P .any ops Q fuel (listed.setIfInBounds i true) (a.put o.dst v) w' :=by
   intro v w' hb
   refine ih _ _ _ (by simpa using hsz) ?_ ?_
   ·rw [dOf_set hisz]
    have :=left_upd hDi (n :=ops.size) (by omega)
    omega
   ·rw [dOf_set hisz]
    exact hnext v w' hb
  unfold wpOp
  rw [ho]
  simp only
  rw [wanted_of hinv hw]
  rcases hev with ⟨hb,hev⟩ | ⟨hb,h1,h2⟩
  ·subst hb
   simp only [if_true]
   exact .inl (op_wp hT hE hC hF hinv hev go)
  ·subst hb
   subst h1
   subst h2
   simp only [Bool.false_eq_true,if_false]
   exact go undef w ⟨Z,fpP,[],Done.still hinv (x :=.tup []) ⟨[],rfl,rfl⟩ trivial⟩

theorem slD_none {W:Nat→List Tmp} {D:Nat→Bool} (h:∀ k,D k = false):∀ k,slD W st D k = (st 0).sl
 | 0 =>rfl
 | k + 1 =>by simp only [slD]; rw [h k]; simpa using slD_none h k

theorem draw_ok (hm:P.follows .mixedOrders = true) (hT:TOk P E) (hE:EqOk P E) (hC:∀ f,CallOk P E call f) (hF:∀ f args res,call f args = some res→Callable P f) {A:Ann} {id:Nat} (hf:A.free id = none) (hG:DrawGood ops (A.draws id)):DrawOk P E call A id ops :=by
 intro w0 Z0 F0 n kp Q s s' a w hops hQ hSI he
 rw [hf] at he
 have he:evDraw E call (A.draws id) (qsOf ops.toList ops.toList) s = some s' :=he
 obtain ⟨st,e0,e1,hR⟩ :=trace_of he
 subst e0
 subst e1
 refine wp_region_any hm (draw_any hT hE hC hF hG hR hops hQ _ _ _ _ (by simp) ?_ ?_)
 ·have:∀ (D:Nat→Bool) k,left D k≤k :=by
   intro D k
   induction k with
   | zero =>exact Nat.le_refl _
   | succ k ih =>simp only [left]; split <;> omega
  exact this _ _
 ·have hnone:∀ k,dOf (Array.replicate ops.size false) k = false :=by
   intro k
   simp only [dOf,Array.getD_eq_getD_getElem?,Array.getElem?_replicate]
   split <;> rfl
  have hMD:MD ops (A.draws id) st (dOf (Array.replicate ops.size false)) = ⟨(st ops.size).cnt,(st 0).sl⟩ :=by
   simp only [MD,slD_none hnone]
  obtain ⟨Z,fp,hinv,h2,h3,h4,h5,h6,_⟩ :=hSI
  have hcnt:∀ k,k≤ops.size→(st 0).cnt≤(st k).cnt :=fun k hk =>Trace.cnt_le hG hR (Nat.zero_le _) hk
  have hinv2:Inv { w with drawn :=w.drawn + 1 } Z (Act.tm a) (st 0) fp :=hinv.world (fun _ h =>h) (fun t c _ =>rfl) (fun t c hc =>hinv.mine t c hc) hinv.zok
  refine ⟨?_,?_,fun k o hk hD =>?_,fun t =>hinv.stamps t,fun i o hi hD =>?_⟩
  ·rw [hMD]
   refine ⟨Z,fp,hinv2.congr (fun t =>rfl) (fun t =>stampsLt_mono (hinv.stamps t) (hcnt _ (Nat.le_refl _))),h2,h3,h4.trans (goes_drewN w _ (fun c =>c ∈ F0)) (fun c hc =>.inl hc),h5,h6,fun p hp =>by cases hp⟩
  ·rw [hMD]
   intro t _ k o hk _ _
   exact stampsLt_mono (hinv.stamps t) (hcnt k (Nat.le_of_lt (Array.getElem?_eq_some_iff.1 hk).1))
  ·rw [hnone k] at hD; cases hD
  ·rw [hnone i] at hD; cases hD
end

/-! ### Checks -/

def uni:List Nat→List Nat→List Nat
 | [],b =>b
 | x :: a,b =>if memT x b then uni a b else x :: uni a b
theorem mem_uni {t:Nat}:∀ {a b:List Nat},memT t (uni a b) = true→memT t a = true∨memT t b = true
 | [],b,h =>.inr h
 | x :: a,b,h =>by
  simp only [uni] at h
  split at h
  ·rcases mem_uni h with h | h
   ·exact .inl (by simp only [memT]; split <;> first | rfl | exact h)
   ·exact .inr h
  ·simp only [memT] at h
   split at h
   ·rename_i e; exact .inl (by simp [memT,e])
   ·rcases mem_uni h with h | h
    ·exact .inl (by simp only [memT]; split <;> first | rfl | exact h)
    ·exact .inr h

def ancOf (acc:List (List Nat)):List Edge→List Nat
 | [] =>[]
 | e :: r =>if Region.binds .any e then uni [e.on] (uni ((acc[e.on]?).getD []) (ancOf acc r)) else ancOf acc r
def ancGo:List Oper→List (List Nat)→List (List Nat)
 | [],acc =>acc
 | o :: r,acc =>ancGo r (acc ++ [ancOf acc o.after.toList])

def apartB (a b:List Nat):Bool :=a.all fun t =>!memT t b

def looseB (ops:Array Oper) (Ts:List (List Tmp × List Tmp)) (i:Nat) (o:Oper):Bool :=match o.op with
 | .move (.tmp t) =>o.guard.isNone && (tsAt Ts i).isEmpty && decide (wrL Ts i o = dstL o) && ops.toList.all fun ok =>decide (ok.dst ≠ some t)
 | _ =>false
theorem looseB_ok {ops:Array Oper} {Ts:List (List Tmp × List Tmp)} {i:Nat} {o:Oper} (h:looseB ops Ts i o = true):∃ t,Loose ops Ts i o t :=by
 unfold looseB at h
 split at h
 ·rename_i t hop
  simp only [Bool.and_eq_true,decide_eq_true_eq,List.isEmpty_iff,Option.isNone_iff_eq_none] at h
  obtain ⟨⟨⟨h1,h2⟩,h3⟩,h4⟩ :=h
  exact ⟨t,hop,h1,h2,h3,fun k ok hk =>by
   have :=List.all_eq_true.1 h4 ok (by simpa using Array.mem_of_getElem? hk)
   simpa using this⟩
 ·cases h
def drawB (ops:Array Oper) (Ts:List (List Tmp × List Tmp)):Bool :=
 (List.range ops.size).all fun j =>match ops[j]? with
  | none =>true
  | some oj =>((oj.op.operands.toList.all (opIn (tsAt Ts j)) && gIn (tsAt Ts j) (qOf ops.toList oj).guard) || looseB ops Ts j oj) && oj.after.toList.all (fun e =>!Region.binds .any e || decide (e.on < j)) && (wrL Ts j oj).all (fun t =>memT t (rdL Ts j oj)) && (dstL oj).all (fun t =>memT t (wrL Ts j oj)) &&
   (List.range j).all fun i =>match ops[i]? with
    | none =>true
    | some oi =>memT i (((ancGo ops.toList [])[j]?).getD []) || (apartB (wrL Ts i oi) (rdL Ts j oj) && apartB (wrL Ts j oj) (rdL Ts i oi))

theorem memT_mem {t:Tmp}:∀ {l:List Tmp},memT t l = true↔t ∈ l
 | [] =>by simp [memT]
 | u :: l =>by
  simp only [memT,List.mem_cons]
  by_cases h:u = t
  ·simp [h]
  ·rw [if_neg h,memT_mem]
   constructor
   ·exact .inr
   ·rintro (e | e)
    ·exact absurd e.symm h
    ·exact e

theorem apartB_spec {a b:List Nat} (h:apartB a b = true) {t:Nat} (ha:memT t a = true):memT t b = false :=by
 have :=List.all_eq_true.1 h t (memT_mem.1 ha)
 simpa using this

section
variable {ops:Array Oper} {Ts:List (List Tmp × List Tmp)}

def AccOk (ops:Array Oper) (acc:List (List Nat)):Prop :=∀ i l,acc[i]? = some l→∀ k,memT k l = true→Bef ops k i

theorem ancOf_ok {acc:List (List Nat)} (hacc:AccOk ops acc) {i:Nat} {o:Oper} (hi:ops[i]? = some o) (hback:∀ e ∈ o.after,Region.binds .any e = true→e.on < i):∀ {es:List Edge},(∀ e ∈ es,e ∈ o.after)→∀ k,memT k (ancOf acc es) = true→Bef ops k i
 | [],_,k,h =>by simp [ancOf,memT] at h
 | e :: r,hes,k,h =>by
  have ih :=ancOf_ok hacc hi hback (es :=r) (fun e he =>hes e (List.mem_cons_of_mem _ he))
  have he :=hes e (by simp)
  simp only [ancOf] at h
  split at h
  ·rename_i hb
   have hlt :=hback e he hb
   have h1:Bef ops e.on i :=⟨hlt,fun D hD hDi =>hD i o hi hDi e he hb⟩
   rcases mem_uni h with h | h
   ·have:k = e.on :=by
     simp only [memT] at h
     split at h
     ·rename_i e'; exact e'.symm
     ·cases h
    rw [this]; exact h1
   ·rcases mem_uni h with h | h
    ·cases ha:acc[e.on]? with
     | none =>rw [ha] at h; simp [memT] at h
     | some l =>
      rw [ha] at h
      have h2 :=hacc _ _ ha k h
      exact ⟨Nat.lt_trans h2.1 hlt,fun D hD hDi =>h2.2 D hD (h1.2 D hD hDi)⟩
    ·exact ih k h
  ·exact ih k h

theorem ancGo_ok (hback:∀ i o,ops[i]? = some o→∀ e ∈ o.after,Region.binds .any e = true→e.on < i):∀ (l pre:List Oper) {acc:List (List Nat)},ops.toList = pre ++ l→acc.length = pre.length→AccOk ops acc→AccOk ops (ancGo l acc)
 | [],_,_,_,_,h =>h
 | o :: r,pre,acc,hp,hl,h =>by
  simp only [ancGo]
  refine ancGo_ok hback r (pre ++ [o]) (by rw [hp]; simp) (by simp [hl]) fun i l hi k hk =>?_
  have ho:ops[pre.length]? = some o :=by
   rw [← Array.getElem?_toList,hp,List.getElem?_append_right (Nat.le_refl _)]
   simp
  rcases Nat.lt_or_ge i acc.length with h' | h'
  ·rw [List.getElem?_append_left h'] at hi
   exact h i l hi k hk
  ·rw [List.getElem?_append_right h'] at hi
   have hi0:i = acc.length :=by
    rcases Nat.eq_zero_or_pos (i - acc.length) with e | e
    ·omega
    ·rw [List.getElem?_eq_none (by simp; omega)] at hi; cases hi
   subst hi0
   simp at hi
   subst hi
   rw [hl]
   exact ancOf_ok h ho (hback _ _ ho) (fun e he =>by simpa using he) k hk

theorem drawB_good (h:drawB ops Ts = true):DrawGood ops Ts :=by
 have at_:∀ j oj,ops[j]? = some oj→(((∀ x ∈ oj.op.operands,opIn (tsAt Ts j) x = true)∧gIn (tsAt Ts j) (qOf ops.toList oj).guard = true)∨∃ t,Loose ops Ts j oj t)∧(∀ e ∈ oj.after,Region.binds .any e = true→e.on < j)∧((∀ t,memT t (wrL Ts j oj) = true→memT t (rdL Ts j oj) = true)∧∀ t,memT t (dstL oj) = true→memT t (wrL Ts j oj) = true) ∧
   ∀ i oi,i < j→ops[i]? = some oi→memT i (((ancGo ops.toList [])[j]?).getD []) = true∨(apartB (wrL Ts i oi) (rdL Ts j oj) = true∧apartB (wrL Ts j oj) (rdL Ts i oi) = true) :=by
  intro j oj hj
  have hjn:j < ops.size :=(Array.getElem?_eq_some_iff.1 hj).1
  have :=List.all_eq_true.1 h j (List.mem_range.2 hjn)
  simp only [hj,Bool.and_eq_true,Bool.or_eq_true] at this
  obtain ⟨⟨⟨⟨h1,h3⟩,h5⟩,h6⟩,h4⟩ :=this
  refine ⟨h1.imp (fun h =>⟨fun x hx =>List.all_eq_true.1 h.1 x (by simpa using hx),h.2⟩) looseB_ok,fun e he hb =>?_,⟨fun t ht =>List.all_eq_true.1 h5 t (memT_mem.1 ht),fun t ht =>List.all_eq_true.1 h6 t (memT_mem.1 ht)⟩,fun i oi hij hi =>?_⟩
  ·have :=List.all_eq_true.1 h3 e (by simpa using he)
   rw [hb] at this
   simpa using this
  ·have :=List.all_eq_true.1 h4 i (List.mem_range.2 hij)
   simp only [hi,Bool.or_eq_true,Bool.and_eq_true] at this
   exact this
 have hback:∀ i o,ops[i]? = some o→∀ e ∈ o.after,Region.binds .any e = true→e.on < i :=fun i o hi =>(at_ i o hi).2.1
 have hanc:AccOk ops (ancGo ops.toList []) :=ancGo_ok hback ops.toList [] rfl rfl (fun i l hi =>by simp at hi)
 have bef:∀ i j,memT i (((ancGo ops.toList [])[j]?).getD []) = true→Bef ops i j :=by
  intro i j hm
  cases ha:(ancGo ops.toList [])[j]? with
  | none =>rw [ha] at hm; simp [memT] at hm
  | some l =>rw [ha] at hm; exact hanc j l ha i hm
 refine ⟨fun i o hi =>(at_ i o hi).1,fun i o hi =>(at_ i o hi).2.2.1,hback,fun i j oi oj t hi hj hij hw hr =>?_⟩
 rcases Nat.lt_or_gt_of_ne hij with hlt | hlt
 ·rcases (at_ j oj hj).2.2.2 i oi hlt hi with hm | ⟨ha,_⟩
  ·exact .inl (bef i j hm)
  ·rw [apartB_spec ha hw] at hr; cases hr
 ·rcases (at_ i oi hi).2.2.2 j oj hlt hj with hm | ⟨_,ha⟩
  ·exact .inr (bef j i hm)
  ·rw [apartB_spec ha hw] at hr; cases hr
end

def dstB (n:Nat) (keep:List Tmp):Option Tmp→Bool
 | none =>true
 | some t =>decide (t < n) && !keep.contains t

def mirB (mir:List (Tmp × Tmp)) (o:Oper):Bool :=mir.all fun p =>match o.dst with
 | none =>true
 | some t =>!decide (t = p.2) || (match o.op with | .box _ (.tmp i) =>decide (i = p.1) | _ =>false)

def drawGB (A:Ann) (id:Nat) (ops:Array Oper):Bool :=match A.free id with
 | none =>(A.draws id).isEmpty || drawB ops (A.draws id)
 | some N =>dagB ops N
def DrawGood2 (A:Ann) (id:Nat) (ops:Array Oper):Prop :=(A.free id = none∧(A.draws id = []∨DrawGood ops (A.draws id)))∨∃ N,A.free id = some N∧FreeGood ops N
theorem drawGB_good {A:Ann} {id:Nat} {ops:Array Oper} (h:drawGB A id ops = true):DrawGood2 A id ops :=by
 unfold drawGB at h
 split at h
 ·rename_i hf
  simp only [Bool.or_eq_true,List.isEmpty_iff] at h
  exact .inl ⟨hf,h.imp (fun h =>h) drawB_good⟩
 ·rename_i z hf
  exact .inr ⟨z,hf,dagB_good h⟩
def goodB (n:Nat) (keep:List Tmp) (mir:List (Tmp × Tmp)) (A:Ann):Code→Bool
 | .region id ops draw =>ops.toList.all (fun o =>dstB n keep o.dst && mirB mir o) && (!draw || (mir.isEmpty && drawGB A id ops))
 | .seq x y =>goodB n keep mir A x && goodB n keep mir A y
 | .cond _ x y =>goodB n keep mir A x && goodB n keep mir A y
 | .block _ c =>goodB n keep mir A c
 | .loop c =>goodB n keep mir A c
 | _ =>true

theorem mirOf_mem {mir:List (Tmp × Tmp)} {i b:Tmp} (h:mirOf mir i = some b):(i,b) ∈ mir :=by
 induction mir with
 | nil =>cases h
 | cons p r ih =>
  simp only [mirOf] at h
  split at h
  ·rename_i hp
   simp at h
   obtain ⟨x,y⟩ :=p
   simp only at hp h
   subst hp
   subst h
   exact List.mem_cons_self
  ·exact List.mem_cons_of_mem _ (ih h)

theorem mirKeys_mem {mir:List (Tmp × Tmp)} {i b:Tmp} (h:(i,b) ∈ mir):memT i (mirKeys mir) = true :=by
 induction mir with
 | nil =>cases h
 | cons p r ih =>
  simp only [mirKeys,memT]
  rcases List.mem_cons.1 h with h | h
  ·subst h; simp
  ·split
   ·rfl
   ·exact ih h

theorem goodB_good {E:Env} {n:Nat} {keep:List Tmp} {mir:List (Tmp × Tmp)} {A:Ann} {kp hb:List (Tmp × Value)} (hE:E.fz = mirKeys mir) (hk:∀ p ∈ kp,keep.contains p.1 = true) (hm:∀ p ∈ hb,∃ i,mirOf mir i = some p.1∧(i,p.2) ∈ kp)
  {D:Nat→Array Oper→Prop} (hD:∀ id ops,DrawGood2 A id ops→D id ops):∀ {c:Code},goodB n keep mir A c = true→Good E n kp hb D c
 | .region id ops draw,h =>by
  simp only [goodB,Bool.and_eq_true] at h
  refine ⟨fun o ho =>?_,fun hd =>?_⟩
  ·have :=List.all_eq_true.1 h.1 o (by simpa using ho)
   simp only [Bool.and_eq_true] at this
   obtain ⟨hd,hmir⟩ :=this
   refine ⟨fun t ht =>?_,fun p hp hdp =>?_⟩
   ·rw [ht] at hd
    simp only [dstB,Bool.and_eq_true,decide_eq_true_eq,Bool.not_eq_true'] at hd
    refine ⟨hd.1,fun p hp e =>?_⟩
    have h2 :=hk p hp
    rw [e,hd.2] at h2
    cases h2
   ·obtain ⟨i,hi,hkp⟩ :=hm p hp
    have hmem :=mirOf_mem hi
    have h1 :=List.all_eq_true.1 hmir _ hmem
    rw [hdp] at h1
    simp only [decide_true,Bool.not_true,Bool.false_or] at h1
    split at h1
    ·rename_i t j hop
     simp at h1
     subst h1
     exact ⟨t,_,hop,by simp only [Env.fzn,hE]; exact mirKeys_mem hmem,hkp⟩
    ·cases h1
  ·subst hd
   have h2 :=h.2
   simp only [Bool.not_true,Bool.false_or,Bool.and_eq_true,List.isEmpty_iff] at h2
   refine ⟨?_,hD id ops (drawGB_good h2.2)⟩
   cases hb with
   | nil =>rfl
   | cons p r =>
    obtain ⟨i,hi,_⟩ :=hm p (by simp)
    rw [h2.1] at hi
    cases hi
 | .seq x y,h =>by
  simp only [goodB,Bool.and_eq_true] at h
  exact ⟨goodB_good hE hk hm hD h.1,goodB_good hE hk hm hD h.2⟩
 | .cond _ x y,h =>by
  simp only [goodB,Bool.and_eq_true] at h
  exact ⟨goodB_good hE hk hm hD h.1,goodB_good hE hk hm hD h.2⟩
 | .block _ c,h =>goodB_good (c :=c) hE hk hm hD h
 | .loop c,h =>goodB_good (c :=c) hE hk hm hD h
 | .skip,_ =>trivial
 | .exit _,_ =>trivial
 | .ret,_ =>trivial
 | .rangeFunc ..,_ =>trivial
 | .scope _,_ =>trivial
 | .label _,_ =>trivial
 | .goto _,_ =>trivial
 | .refuse _,_ =>trivial

def mirsB (mir:List (Tmp × Tmp)) (keep:List Tmp):Bool :=mir.all fun p =>!keep.contains p.2 && mir.all fun q =>!decide (p.2 = q.2) || decide (p.1 = q.1)

theorem mirsB_ok {mir:List (Tmp × Tmp)} {keep:List Tmp} (h:mirsB mir keep = true):MirOk mir keep :=by
 have at_:∀ i b,mirOf mir i = some b→keep.contains b = false∧∀ j,mirOf mir j = some b→i = j :=fun i b hb =>by
  have :=List.all_eq_true.1 h _ (mirOf_mem hb)
  simp only [Bool.and_eq_true,Bool.not_eq_true'] at this
  refine ⟨this.1,fun j hj =>?_⟩
  have h2 :=List.all_eq_true.1 this.2 _ (mirOf_mem hj)
  simpa using h2
 intro i j hi hj hij
 unfold mirAt
 cases h1:mirOf mir i with
 | none =>
  cases h2:mirOf mir j with
  | none =>exact hij
  | some c =>
   simp only [Option.getD_none,Option.getD_some]
   intro e
   subst e
   rw [(at_ j i h2).1] at hi
   cases hi
 | some b =>
  cases h2:mirOf mir j with
  | none =>
   simp only [Option.getD_none,Option.getD_some]
   intro e
   subst e
   rw [(at_ i b h1).1] at hj
   cases hj
  | some c =>
   simp only [Option.getD_some]
   intro e
   subst e
   exact hij ((at_ i b h1).2 j h2)

def fnB (E:Env) (f:FuncId) (fn:Func):Bool :=
 match fn.body with
 | none =>true
 | some c =>!(fn.name == "runtime.NumGoroutine") && mirsB (E.ann f).mir (E.ann f).keep && goodB fn.ntmps (E.ann f).keep (E.ann f).mir (E.ann f) c

def progB (P:Program) (E:Env):Bool :=(P.funcs.toList.zipIdx).all fun p =>fnB E p.2 p.1

theorem draw_none {P:Program} {E:Env} {call:Sem1} (hm:P.follows .mixedOrders = true) (hT:TOk P E) (hE:EqOk P E) (hC:∀ f,CallOk P E call f) (hF:∀ f args res,call f args = some res→Callable P f) {A:Ann} {id:Nat} {ops:Array Oper} (hf:A.free id = none) (h:A.draws id = []):DrawOk P E call A id ops :=by
 by_cases he:ops = #[]
 ·subst he
  exact draw_ok hm hT hE hC hF hf ⟨fun i o hi =>by simp at hi,fun i o hi =>by simp at hi,fun i o hi =>by simp at hi,fun i j oi oj t hi =>by simp at hi⟩
 ·intro w0 Z0 F0 n kp Q s s' a w hops hQ hSI hev
  rw [h,hf] at hev
  have hev:evDraw E call [] (qsOf ops.toList ops.toList) s = some s' :=hev
  exfalso
  cases hl:ops.toList with
  | nil =>exact he (by simpa using hl)
  | cons o l =>rw [hl] at hev; simp [qsOf,evDraw] at hev

theorem fnOk_of {P:Program} {E:Env} (hm:P.follows .mixedOrders = true) (hT:TOk P E) (hE:EqOk P E) (h:progB P E = true):∀ call,Calm P E call→∀ f,FnOk P E call f :=by
 intro call hc f fn c hf hb
 have :=List.all_eq_true.1 h (fn,f) (List.mem_zipIdx_iff_getElem?.2 (by simpa using hf))
 simp only [fnB,hb,Bool.and_eq_true,Bool.not_eq_true'] at this
 exact ⟨this.1.1,mirsB_ok this.1.2,fun kp hb hk hh =>goodB_good (E :=E.forF f) rfl hk hh (fun id ops hg =>by
  rcases hg with ⟨h0,h1 | h1⟩ | ⟨z,h0,h1⟩
  ·exact draw_none (E :=E.forF f) hm hT hE hc.1 hc.2 h0 h1
  ·exact draw_ok (E :=E.forF f) hm hT hE hc.1 hc.2 h0 h1
  ·exact free_ok (E :=E.forF f) hm hT hE hc.1 hc.2 h0 h1) this.2⟩

theorem EV_sound {P:Program} {E:Env} (hS:SumOk P E) (hm:P.follows .mixedOrders = true) (hT:TOk P E) (hE:EqOk P E) (h:progB P E = true) (f:FuncId):CallOk P E (EV P E) f :=
 EV_ok hS hT hE (fnOk_of hm hT hE h) f
end Go.Sx

/- The table of types,checked by the kernel. -/
namespace Go.Sx

def lookT {α:Type}:List (Nat × α)→Nat→Option α
 | [],_ =>none
 | (u,i) :: r,t =>if u = t then some i else lookT r t
theorem lookT_mem {α:Type} {t:Nat} {i:α}:∀ {l:List (Nat × α)},lookT l t = some i→(t,i) ∈ l
 | [],h =>by simp [lookT] at h
 | (u,j) :: r,h =>by
  simp only [lookT] at h
  split at h
  ·rename_i e
   simp at h
   subst h; subst e
   simp
  ·exact List.mem_cons_of_mem _ (lookT_mem h)

def lookD {α:Type} (l:List (Nat × α)) (d:α) (t:Nat):α :=(lookT l t).getD d

def isAggV:Value→Bool
 | .agg _ =>true
 | _ =>false

def offsB (P:Program):List Field→List (Nat × Nat × Bool)→Bool
 | _,[] =>true
 | [],_ :: _ =>false
 | fl :: fs,d :: ds =>(fl.offset == d.1) && (match P.info? fl.type with | some inf =>inf.size == d.2.1 | none =>false) && !(d.2.1 == 0) && offsB P fs ds

theorem offsB_ok {P:Program}:∀ {fs:List Field} {offs:List (Nat × Nat × Bool)},offsB P fs offs = true→∀ f d,atL offs f = some d→∃ fl inf,fs[f]? = some fl∧fl.offset = d.1∧P.info? fl.type = some inf∧inf.size = d.2.1∧d.2.1 ≠ 0
 | _,[],_,f,d,h =>by simp [atL] at h
 | [],_ :: _,h,_,_,_ =>by simp [offsB] at h
 | fl :: fs,e :: ds,h,f,d,hd =>by
  simp only [offsB,Bool.and_eq_true] at h
  obtain ⟨⟨⟨h1,h2⟩,h3⟩,h4⟩ :=h
  cases f with
  | zero =>
   simp [atL] at hd
   subst hd
   cases hi:P.info? fl.type with
   | none =>rw [hi] at h2; simp at h2
   | some inf =>
    rw [hi] at h2
    refine ⟨fl,inf,rfl,by simpa using h1,hi,by simpa using h2,by simpa using h3⟩
  | succ f =>
   simp only [atL] at hd
   obtain ⟨fl',inf,a,b⟩ :=offsB_ok h4 f d hd
   exact ⟨fl',inf,by simpa using a,b⟩

def nilOwn:List C→Bool
 | [.sl .own _ []] =>true
 | _ =>false

def kindB (P:Program) (t:TypeId) (i:TI):Bool :=
 match i.k with
 | .prim =>(i.size == 1) && (match P.underlying t with | some d =>notAgg d | none =>false)
 | .strct offs =>match P.underlying t with
  | some (.struct fs) =>offsB P fs.toList offs && fs.toList.all fun fl =>(P.info? fl.type).isSome
  | _ =>false
 | .slc e =>(i.size == 1) && nilOwn i.zero && (match P.underlying t with | some (.slice e') =>e' == e | _ =>false)
 | .ptr e =>(i.size == 1) && (match P.underlying t with | some (.pointer e') =>e' == e | _ =>false)
 | .mp k e =>(i.size == 1) && (match P.underlying t with | some (.map k' e') =>(k' == k) && (e' == e) | _ =>false)

def zeroTB (P:Program) (t:TypeId) (i:TI):Bool :=
 match i.zero with
 | [.p (.bool _)] =>(match P.underlying t with | some .bool =>true | _ =>false)
 | [.p (.int k _)] =>(match P.underlying t with | some (.int k') =>decide (k' = k) | _ =>false)
 | [.p (.string _)] =>(match P.underlying t with | some .string =>true | _ =>false)
 | _ =>true

def tiB (P:Program) (t:TypeId) (i:TI):Bool :=
 (match P.info? t with
  | some inf =>(inf.size == i.size) && (inf.bytes == i.bytes) && (match inf.zero with
   | some z =>(z.cells.size == i.size) && zeroL i.zero z.cells.toList && (if i.k.agg then isAggV z else z.oneCell')
   | none =>false)
  | none =>false) && decide (i.bytes≤32768) && decide (0 < i.size) && decide (i.size≤4096) && zeroTB P t i && kindB P t i

theorem tiB_ok {P:Program} {t:TypeId} {i:TI} (h:tiB P t i = true):TIOk P t i :=by
 simp only [tiB,Bool.and_eq_true,decide_eq_true_eq] at h
 obtain ⟨⟨⟨⟨⟨h1,h2⟩,h3⟩,h4⟩,h5⟩,h6⟩ :=h
 refine ⟨?_,h2,h3,h4,fun b hz =>?_,fun k n hz =>?_,fun b hz =>?_,?_⟩
 ·cases hi:P.info? t with
  | none =>rw [hi] at h1; simp at h1
  | some inf =>
   rw [hi] at h1
   simp only [Bool.and_eq_true] at h1
   obtain ⟨⟨a1,a2⟩,a3⟩ :=h1
   cases hz:inf.zero with
   | none =>rw [hz] at a3; simp at a3
   | some z =>
    rw [hz] at a3
    simp only [Bool.and_eq_true] at a3
    obtain ⟨⟨b1,b2⟩,b3⟩ :=a3
    refine ⟨inf,z,rfl,by simpa using a1,by simpa using a2,hz,by simpa using b1,b2,fun ha =>?_,fun ha =>?_⟩
    ·rw [ha] at b3; simpa using b3
    ·rw [ha] at b3
     simp only [if_true] at b3
     cases z <;> simp [isAggV] at b3
     exact ⟨_,rfl⟩
 ·simp only [zeroTB,hz] at h5
  split at h5
  ·assumption
  ·cases h5
 ·simp only [zeroTB,hz] at h5
  split at h5
  ·rename_i k' hk
   simp at h5
   subst h5
   exact hk
  ·cases h5
 ·simp only [zeroTB,hz] at h5
  split at h5
  ·assumption
  ·cases h5
 ·unfold kindB at h6
  cases hk:i.k with
  | prim =>
   rw [hk] at h6
   simp only [Bool.and_eq_true] at h6
   refine ⟨by simpa using h6.1,?_⟩
   cases hu:P.underlying t with
   | none =>rw [hu] at h6; simp at h6
   | some d =>rw [hu] at h6; exact ⟨d,rfl,h6.2⟩
  | strct offs =>
   rw [hk] at h6
   simp only at h6
   split at h6
   ·rename_i fs hu
    simp only [Bool.and_eq_true] at h6
    refine ⟨fs,hu,fun f d hd =>?_,fun fl hfl =>List.all_eq_true.1 h6.2 fl hfl⟩
    obtain ⟨fl,inf,a,b⟩ :=offsB_ok h6.1 f d hd
    exact ⟨fl,inf,by simpa using a,b⟩
   ·cases h6
  | slc e =>
   rw [hk] at h6
   simp only [Bool.and_eq_true] at h6
   refine ⟨by simpa using h6.1.1,?_,?_⟩
   ·have h7 :=h6.2
    split at h7
    ·rename_i e' hu
     simp at h7
     subst h7
     exact hu
    ·cases h7
   ·have h7 :=h6.1.2
    unfold nilOwn at h7
    split at h7
    ·rename_i sz hz; exact ⟨sz,hz⟩
    ·cases h7
  | ptr e =>
   rw [hk] at h6
   simp only [Bool.and_eq_true] at h6
   refine ⟨by simpa using h6.1,?_⟩
   have h7 :=h6.2
   split at h7
   ·rename_i e' hu
    simp at h7
    subst h7
    exact hu
   ·cases h7
  | mp k e =>
   rw [hk] at h6
   simp only [Bool.and_eq_true] at h6
   refine ⟨by simpa using h6.1,?_⟩
   have h7 :=h6.2
   split at h7
   ·rename_i k' e' hu
    simp at h7
    obtain ⟨rfl,rfl⟩ :=h7
    exact hu
   ·cases h7

theorem tok_of {P:Program} {tbl:List (Nat × TI)} {eqT:TypeId→Bool} {ann:FuncId→Ann} (h:tbl.all (fun p =>tiB P p.1 p.2) = true):TOk P ⟨lookT tbl,eqT,ann,[],[],[]⟩ :=by
 intro t i hi
 exact tiB_ok (List.all_eq_true.1 h (t,i) (lookT_mem hi))

end Go.Sx

/- Structs of plain fields,compared; as keys. -/
namespace Go.Sx

def fieldB (P:Program) (f:Field) (c:C) (o:Nat):Bool :=
 (f.name != "_") && (f.offset == o) && (match c,P.underlying f.type with
  | .p (.int k _),some (.int k') =>decide (k = k')
  | .p (.string _),some .string =>true
  | .p (.bool _),some .bool =>true
  | _,_ =>false)
def flatB (P:Program):List Field→List C→Nat→Bool
 | [],[],_ =>true
 | f :: fs,c :: cs,o =>fieldB P f c o && flatB P fs cs (o + 1)
 | [],_ :: _,_ =>false
 | _ :: _,[],_ =>false
def eqTB (P:Program) (t:TypeId) (i:TI):Bool :=
 (match P.underlying t with | some (.struct fs) =>flatB P fs.toList i.zero 0 | _ =>false) && !P.stoodInHeld t && !P.eqGuardType P.depth t

section
variable {P:Program} {w:World}

theorem field_kind {f:Field} {c:C} {o:Nat} {x:Value} {z:List C} {xs:List Value} (h:fieldB P f c o = true) (hs:shapeOk (c :: z) (x :: xs) = true):f.name ≠ "_"∧f.offset = o∧shapeOk z xs = true ∧
  ((∃ k n,P.underlying f.type = some (.int k)∧x = .int k n)∨(P.underlying f.type = some .string∧∃ s,x = .string s)∨(P.underlying f.type = some .bool∧∃ b,x = .bool b)) :=by
 simp only [fieldB,Bool.and_eq_true,bne_iff_ne,ne_eq,beq_iff_eq] at h
 obtain ⟨⟨h1,h2⟩,h3⟩ :=h
 refine ⟨h1,h2,?_⟩
 split at h3
 ·rename_i k n k' hu
  simp at h3
  subst h3
  cases x <;> simp [shapeOk] at hs
  obtain ⟨rfl,hs⟩ :=hs
  exact ⟨hs,.inl ⟨_,_,hu,rfl⟩⟩
 ·rename_i s hu
  cases x <;> simp [shapeOk] at hs
  exact ⟨hs,.inr (.inl ⟨hu,_,rfl⟩)⟩
 ·rename_i b hu
  cases x <;> simp [shapeOk] at hs
  exact ⟨hs,.inr (.inr ⟨hu,_,rfl⟩)⟩
 ·cases h3

theorem part_plain {t:TypeId} {d:TypeDesc} (hu:P.underlying t = some d) (hn:notAgg d = true) {xs:Array Value} {o:Nat} {v:Value} (hx:xs[o]? = some v):(part t xs o).run P w = .ok v w :=by
 cases d <;> first | (simp [notAgg] at hn; done) | simp [part,isAgg,run_underlying hu,hx]

theorem eqFields_flat (d:Nat):∀ {fs:List Field} {z:List C} {o:Nat} {xs ys pre pre':List Value} {b:Bool},flatB P fs z o = true→shapeOk z xs = true→eqVals xs ys = some b→pre.length = o→pre'.length = o →
  (Op.eqFields (d + 1) (pre ++ xs).toArray (pre' ++ ys).toArray fs).run P w = .ok b w
 | [],[],o,xs,ys,pre,pre',b,_,hs,hq,_,_ =>by
  cases xs with
  | cons _ _ =>simp [shapeOk] at hs
  | nil =>
   cases ys with
   | cons _ _ =>simp [eqVals] at hq
   | nil =>
    simp [eqVals] at hq
    subst hq
    simp [Op.eqFields]
 | f :: fs,c :: z,o,[],ys,_,_,_,_,hs,_,_,_ =>by
  unfold shapeOk at hs
  split at hs <;> simp_all
 | f :: fs,c :: z,o,x :: xs,[],_,_,_,_,_,hq,_,_ =>by simp [eqVals] at hq
 | f :: fs,c :: z,o,x :: xs,y :: ys,pre,pre',b,hfl,hs,hq,hp,hp' =>by
  simp only [flatB,Bool.and_eq_true] at hfl
  obtain ⟨hn,ho,hs',hk⟩ :=field_kind hfl.1 hs
  obtain ⟨v,hv,h1⟩ :=bE.1 (show bnd (bin .eql x y) _ = some b from hq)
  obtain ⟨t,ht,h2⟩ :=bE.1 h1
  obtain ⟨u,hu,h3⟩ :=bE.1 h2
  simp at h3
  have hv' :=asBool_eq ht
  subst hv'
  have hx:(pre ++ x :: xs).toArray[f.offset]? = some x :=by simp [ho,← hp]
  have hy:(pre' ++ y :: ys).toArray[f.offset]? = some y :=by simp [ho,← hp']
  have key:∃ dd,P.underlying f.type = some dd∧notAgg dd = true∧(Op.equalIn (d + 1) f.type x y).run P w = .ok t w :=by
   rcases hk with ⟨k,n,hu',rfl⟩ | ⟨hu',s,rfl⟩ | ⟨hu',c',rfl⟩
   ·refine ⟨_,hu',rfl,?_⟩
    cases y <;> simp [bin,shiftV] at hv
    obtain ⟨rfl,hv⟩ :=hv
    simp [intBin] at hv
    rw [run_equalIn_int w d f.type _ _ _ _ hu',← hv]
    congr 1
   ·refine ⟨_,hu',rfl,?_⟩
    cases y <;> simp [bin,shiftV] at hv
    simp [strBin] at hv
    rw [run_equalIn_string w d f.type _ _ hu',← hv,str_eq]
   ·refine ⟨_,hu',rfl,?_⟩
    cases y <;> simp [bin,shiftV] at hv
    simp [boolBin] at hv
    rw [run_equalIn_bool' w d f.type _ _ hu',← hv]
  obtain ⟨dd,hu',hna,hrun⟩ :=key
  have hrec :=eqFields_flat d (pre :=pre ++ [x]) (pre' :=pre' ++ [y]) hfl.2 hs' hu (by simp [hp]) (by simp [hp'])
  simp only [List.append_assoc,List.cons_append,List.nil_append] at hrec
  simp only [Op.eqFields,if_pos hn,Sem.run_bind,part_plain hu' hna hx,part_plain hu' hna hy,Result.andThen_ok,hrun]
  cases t with
  | false =>
   simp at h3
   subst h3
   simp
  | true =>
   simp at h3
   subst h3
   simp only [Bool.not_true,Bool.false_eq_true,if_false]
   exact hrec
 | [],_ :: _,_,_,_,_,_,_,h,_,_,_,_ =>by simp [flatB] at h
 | _ :: _,[],_,_,_,_,_,_,h,_,_,_,_ =>by simp [flatB] at h

theorem eqOk_of {P:Program} {T:TypeId→Option TI} {eqT:TypeId→Bool} {ann:FuncId→Ann} (h:∀ t i,eqT t = true→T t = some i→eqTB P t i = true):EqOkT P ⟨T,eqT,ann,[],[],[]⟩ :=by
 intro t i ht hi w xs hs
 have hb :=h t i ht hi
 simp only [eqTB,Bool.and_eq_true,Bool.not_eq_true'] at hb
 obtain ⟨⟨h1,h2⟩,h3⟩ :=hb
 cases hu:P.underlying t with
 | none =>rw [hu] at h1; cases h1
 | some d =>
  rw [hu] at h1
  cases d <;> simp at h1
  rename_i fs
  have hfo:P.fieldsOf t = fs :=by simp [Program.fieldsOf,hu]
  have hu':P.underlying t = some (.struct (P.fieldsOf t)) :=by rw [hfo]; exact hu
  refine ⟨fun ys b hq =>?_,fun e =>?_⟩
  ·have hrun:(Op.equalIn 10000 t (.agg xs.toArray) (.agg ys.toArray)).run P w = .ok b w :=by
    show (Op.equalIn (9999 + 1) t (.agg xs.toArray) (.agg ys.toArray)).run P w = .ok b w
    rw [run_equalIn_struct w 9999 t _ _ hu' h2,hfo]
    have :=eqFields_flat (P :=P) (w :=w) 9998 (pre :=[]) (pre' :=[]) h1 hs hq rfl rfl
    simpa using this
   refine ⟨fun x y =>⟨?_,?_⟩,?_⟩
   ·simp only [Sem.run_bind,run_eqGuard_agg w .eql t x y _ _ h3,Result.andThen_ok,run_eql_struct,hrun]
   ·simp only [Sem.run_bind,run_eqGuard_agg w .neq t x y _ _ h3,Result.andThen_ok,run_neq_struct,hrun]
   ·simp only [Op.equal,Op.maxDepth]
    exact hrun
  ·have key:∀ (n:Nat) {gs:List Field} {z:List C} {o:Nat} {xs pre:List Value},flatB P gs z o = true→shapeOk z xs = true→pre.length = o →
     (forIn gs PUnit.unit (fun f (_:PUnit) =>do
      if f.name ≠ "_" then Instr.checkKey e (n + 1) f.type (← part f.type (pre ++ xs).toArray f.offset)
      pure (ForInStep.yield PUnit.unit)):Sem PUnit).run P w = .ok PUnit.unit w :=by
    intro n gs
    induction gs with
    | nil =>intro z o xs pre _ _ _; simp
    | cons f gs ih =>
     intro z o xs pre hfl hs hp
     cases z with
     | nil =>simp [flatB] at hfl
     | cons c z =>
      cases xs with
      | nil =>
       exfalso
       unfold shapeOk at hs
       split at hs <;> simp_all
      | cons x xs =>
       simp only [flatB,Bool.and_eq_true] at hfl
       obtain ⟨hn,ho,hs',hk⟩ :=field_kind hfl.1 hs
       have hx:(pre ++ x :: xs).toArray[f.offset]? = some x :=by simp [ho,← hp]
       have hck:∃ dd,P.underlying f.type = some dd∧notAgg dd = true∧(Instr.checkKey e (n + 1) f.type x).run P w = .ok () w :=by
        rcases hk with ⟨k,m,hu',rfl⟩ | ⟨hu',s,rfl⟩ | ⟨hu',c',rfl⟩
        ·exact ⟨_,hu',rfl,by simp [Instr.checkKey,run_underlying hu']⟩
        ·exact ⟨_,hu',rfl,by simp [Instr.checkKey,run_underlying hu']⟩
        ·exact ⟨_,hu',rfl,by simp [Instr.checkKey,run_underlying hu']⟩
       obtain ⟨dd,hu',hna,hck⟩ :=hck
       have hrec :=ih (pre :=pre ++ [x]) hfl.2 hs' (by simp [hp])
       simp only [List.append_assoc,List.cons_append,List.nil_append] at hrec
       simp only [List.forIn_cons,Sem.run_bind,if_pos hn,part_plain hu' hna hx,Result.andThen_ok,hck,Sem.run_pure]
       exact hrec
   show (Instr.checkKey e (9999 + 1) t (.agg xs.toArray)).run P w = .ok () w
   have hk :=key 9998 (pre :=[]) h1 hs rfl
   simp only [List.nil_append] at hk
   rw [Instr.checkKey]
   simp only [Sem.run_bind,run_underlying hu,Result.andThen_ok]
   rw [← Array.forIn_toList]
   simp only [hk,Result.andThen_ok,Sem.run_pure]

theorem eqOk_list {P:Program} {tbl:List (Nat × TI)} {eqs:List Nat} {ann:FuncId→Ann} (h:eqs.all (fun t =>match lookT tbl t with | some i =>eqTB P t i | none =>true) = true):EqOkT P ⟨lookT tbl,fun t =>eqs.contains t,ann,[],[],[]⟩ :=by
 refine eqOk_of (fun t i ht hi =>?_)
 have :=List.all_eq_true.1 h t (by simpa using ht)
 rw [hi] at this
 exact this

theorem compare_less:∀ (a b:List UInt8),Lib.compareBytes a b = if Op.bytesLess a b then -1 else if Op.bytesLess b a then 1 else 0
 | [],[] =>rfl
 | [],_ :: _ =>by simp [Lib.compareBytes,Op.bytesLess]
 | _ :: _,[] =>by simp [Lib.compareBytes,Op.bytesLess]
 | x :: a,y :: b =>by
  have ih :=compare_less a b
  simp only [Lib.compareBytes,Op.bytesLess]
  by_cases h1:x < y
  ·simp [h1]
  ·by_cases h2:y < x
   ·have h3:x ≠ y :=fun e =>UInt8.lt_irrefl y (e ▸ h2)
    simp [h1,h2,h3]
   ·have h3:x = y :=UInt8.le_antisymm (UInt8.not_lt.1 h2) (UInt8.not_lt.1 h1)
    subst h3
    simp [h1,ih]
theorem cmpS_eq (a b:ByteArray):Lib.compareBytes a.data.toList b.data.toList = cmpS a b :=by
 rw [compare_less]
 simp only [cmpS,ByteArray.toList_eq]

theorem ext_of {P:Program} {f:FuncId} {fn:Func} (hf:P.funcs[f]? = some fn) (h1:(fn.name == "runtime.NumGoroutine") = false) (h2:fn.body.isNone = true) (h3:Extern.findNext fn = none) (h4:Extern.find fn = some Extern.BytealgCompare.compare) (w:World) (a b:ByteArray) :
  (callFunc f #[.string a,.string b]).run P w = .ok (.value (.int .i64 (cmpS a b))) w :=by
 rw [run_callFunc_extern hf h1 h2 h3 h4,Lib.run_compareString]
 simp [cmpS_eq]
theorem extOk_of {P:Program} {T:TypeId→Option TI} {eqT:TypeId→Bool} {l:List (Nat × Ann)} {g:FuncId} (h:l.all (fun p =>!p.2.ext || p.1 == g) = true) (hg:∀ (w:World) (a b:ByteArray),(callFunc g #[.string a,.string b]).run P w = .ok (.value (.int .i64 (cmpS a b))) w) :
  ExtOk P ⟨T,eqT,lookD l {},[],[],[]⟩ :=by
 intro f hf
 have hfg:f = g :=by
  simp only [lookD] at hf
  cases hl:lookT l f with
  | none =>rw [hl] at hf; cases hf
  | some x =>
   rw [hl] at hf
   have :=List.all_eq_true.1 h (f,x) (lookT_mem hl)
   simp at hf
   simp [hf] at this
   exact this
 subst hfg
 exact hg
theorem sumOk_none {P:Program} {T:TypeId→Option TI} {eqT:TypeId→Bool} {l:List (Nat × Ann)} (h:l.all (fun p =>p.2.sum == 0) = true):SumOk P ⟨T,eqT,lookD l {},[],[],[]⟩ :=by
 intro f k hf
 exfalso
 simp only [lookD] at hf
 cases hl:lookT l f with
 | none =>rw [hl] at hf; cases hf
 | some x =>
  rw [hl] at hf
  have :=List.all_eq_true.1 h (f,x) (lookT_mem hl)
  simp at hf
  simp [hf] at this
end
end Go.Sx

/- From a row's arguments to trees,and back to the row. -/
namespace Go.Sx

def CTs (R:TypeId→List C→Prop) (P:Program):List TypeId→List C→Prop
 | [],tr =>tr = []
 | t :: ts,tr =>∃ a b,tr = a ++ b∧a.length = P.cellsOf t∧R t a∧CTs R P ts b
def CT (P:Program):Nat→TypeId→List C→Prop
 | 0,_,_ =>False
 | n + 1,t,tr =>match P.underlying t with
  | some .bool =>∃ b,tr = [.p (.bool b)]
  | some (.int k) =>∃ m,tr = [.p (.int k m)]∧(Lit.int k m).wf = true
  | some .string =>∃ s:ByteArray,tr = [.p (.string s)]∧s.size≤maxLen
  | some (.slice e) =>∃ rows:List (List C),tr = [.sl .shr (P.cellsOf e) rows]∧rows.length≤maxLen∧∀ r ∈ rows,CT P n e r
  | some (.struct fs) =>CTs (CT P n) P (fs.toList.map (·.type)) tr
  | _ =>False

def okT (P:Program):Nat→TypeId→Bool
 | 0,_ =>false
 | n + 1,t =>match P.underlying t with
  | some .bool =>true
  | some (.int _) =>true
  | some .string =>true
  | some (.slice e) =>decide (0 < P.cellsOf e) && okT P n e
  | some (.struct fs) =>fs.toList.all fun f =>okT P n f.type
  | _ =>false

def allZ (w:World):CA→Prop :=fun c =>(gcell w c).isSome = true

theorem RL.cellsNil {w:World} {Z:CA→Prop}:∀ {cs ds:List C} {l m:List Value},RL w Z cs (fun i =>l[i]?) []→cs.length = l.length→RL w Z ds (fun i =>m[i]?) []→RL w Z (cs ++ ds) (fun i =>(l ++ m)[i]?) [] :=by
 intro cs ds l m h1 hl h2
 have :=RL.append (RL.same (fun _ h =>h) cs h1 (fun _ _ =>rfl) (get' :=fun i =>(l ++ m)[i]?) (fun i hi =>by rw [List.getElem?_append_left (by omega)])) (F :=[]) (G :=[]) (ds :=ds) (by
  refine RL.same (fun _ h =>h) ds h2 (fun _ _ =>rfl) (fun i hi =>?_)
  rw [List.getElem?_append_right (by omega)]
  congr 1
  omega)
 simpa using this

section
variable {H:Type} {enc:TypeId × Value→H} {P:Program} {w:World} {T:TypeId→Prop} {held:Bool} {spare:Nat→Bool}

theorem rows_of {w:World} {Z:CA→Prop} {sz b:Nat} {p:List C→Prop}:∀ (n o:Nat),(∀ i,i < n→∃ r:List C,r.length = sz∧RL w Z r (fun j =>cell w (b,o + i * sz + j)) []∧p r)→∃ rows:List (List C),rows.length = n∧RRs w Z rows sz b o []∧∀ r ∈ rows,p r
 | 0,o,_ =>⟨[],rfl,rfl,fun r hr =>by cases hr⟩
 | n + 1,o,h =>by
  obtain ⟨r,h1,h2,h3⟩ :=h 0 (by omega)
  obtain ⟨rows,k1,k2,k3⟩ :=rows_of n (o + sz) fun i hi =>by
   obtain ⟨r,h1,h2,h3⟩ :=h (i + 1) (by omega)
   refine ⟨r,h1,?_,h3⟩
   have e:(fun j =>cell w (b,o + sz + i * sz + j)) = fun j =>cell w (b,o + (i + 1) * sz + j) :=by
    funext j
    congr 2
    rw [Nat.add_mul,Nat.one_mul]
    omega
   rw [e]
   exact h2
  refine ⟨r :: rows,by simp [k1],⟨h1,[],[],by simpa using h2,k2,rfl⟩,fun r' hr' =>?_⟩
  rcases List.mem_cons.1 hr' with rfl | hr'
  ·exact h3
  ·exact k3 r' hr'

theorem fields_of {R:TypeId→List C→Prop} {Z:CA→Prop} (cs:List Value):∀ (fs:List Field) (off:Nat),(∀ (j:Nat) f,fs[j]? = some f→f.offset = off + ((fs.take j).map fun f =>P.cellsOf f.type).sum)→cs.length = off + (fs.map fun f =>P.cellsOf f.type).sum →
  (∀ f ∈ fs,∃ tr:List C,tr.length = ((cs.drop f.offset).take (P.cellsOf f.type)).length∧RL w Z tr (fun i =>((cs.drop f.offset).take (P.cellsOf f.type))[i]?) []∧R f.type tr) →
  ∃ tr:List C,tr.length = (cs.drop off).length∧RL w Z tr (fun i =>(cs.drop off)[i]?) []∧CTs R P (fs.map (·.type)) tr
 | [],off,_,hl,_ =>by
  refine ⟨[],by simp at hl ⊢; omega,rfl,rfl⟩
 | f :: fs,off,ho,hl,h =>by
  obtain ⟨a,a1,a2,a3⟩ :=h f (by simp)
  have hf0:f.offset = off :=by have :=ho 0 f rfl; simpa using this
  have hsum:((f :: fs).map fun f =>P.cellsOf f.type).sum = P.cellsOf f.type + (fs.map fun f =>P.cellsOf f.type).sum :=by simp
  obtain ⟨b,b1,b2,b3⟩ :=fields_of cs fs (off + P.cellsOf f.type) (fun j g hg =>by
   have :=ho (j + 1) g (by simpa using hg)
   rw [this]
   simp
   omega) (by rw [hl,hsum]; omega) (fun g hg =>h g (List.mem_cons_of_mem _ hg))
  rw [hf0] at a1 a2
  have hlen:((cs.drop off).take (P.cellsOf f.type)).length = P.cellsOf f.type :=by simp; omega
  refine ⟨a ++ b,?_,?_,a,b,rfl,by rw [a1,hlen],a3,b3⟩
  ·simp only [List.length_append,a1,b1,hlen,List.length_drop]
   omega
  ·have hsplit:cs.drop off = (cs.drop off).take (P.cellsOf f.type) ++ cs.drop (off + P.cellsOf f.type) :=by
    rw [← List.drop_drop]
    exact (List.take_append_drop _ _).symm
   rw [hsplit]
   exact RL.cellsNil a2 a1 b2

theorem Addr.add_plain {a:Addr} {n:Nat} (h:a.spot = none):a.add n = ⟨a.block,a.off + n,none⟩ :=by
 obtain ⟨b,o,s⟩ :=a
 simp only at h
 subst h
 unfold Addr.add
 split
 ·rename_i h; subst h; rfl
 ·rfl

theorem mapM_at {α β:Type} {f:α→Option β}:∀ {l:List α} {r:List β},l.mapM f = some r→∀ x ∈ l,∃ y,f x = some y
 | [],_,_,x,hx =>by cases hx
 | a :: l,r,h,x,hx =>by
  simp only [List.mapM_cons,Option.bind_eq_bind,Option.bind_eq_some_iff] at h
  obtain ⟨y,h1,r',h2,_⟩ :=h
  rcases List.mem_cons.1 hx with rfl | hx
  ·exact ⟨y,h1⟩
  ·exact mapM_at h2 x hx

theorem open_cells (K:Kids P T):∀ (m:Nat) (t:TypeId),okT P m t = true→T t→∀ (fuel:Nat) (cs:List Value) (x:DataW H × List MemPlace),DataW.trod enc P w 0 spare held fuel t cs = some x →
  ∃ tr:List C,tr.length = cs.length∧RL w (allZ w) tr (fun i =>cs[i]?) []∧CT P m t tr
 | 0,t,h,_,_,_,_,_ =>by simp [okT] at h
 | m + 1,t,hok,hT,0,cs,x,h =>by simp [DataW.trod] at h
 | m + 1,t,hok,hT,fuel + 1,cs0,x,h =>by
  have ih :=open_cells K m
  rw [DataW.trod_step] at h
  unfold DataW.trodStep at h
  split at h
  case h_1 b hu =>
   exact ⟨[.p (.bool b)],rfl,⟨_,[],[],rfl,⟨rfl,rfl,rfl⟩,rfl,rfl⟩,by simp only [CT,hu]; exact ⟨b,rfl⟩⟩
  case h_2 k k' n hu =>
   split at h
   ·rename_i hk
    obtain ⟨rfl,hw⟩ :=hk
    exact ⟨[.p (.int k' n)],rfl,⟨_,[],[],rfl,⟨rfl,rfl,rfl⟩,rfl,rfl⟩,by simp only [CT,hu]; exact ⟨n,rfl,hw⟩⟩
   ·cases h
  case h_4 s hu =>
   split at h
   ·rename_i hs
    exact ⟨[.p (.string s)],rfl,⟨_,[],[],rfl,⟨rfl,rfl,rfl⟩,rfl,rfl⟩,by simp only [CT,hu]; exact ⟨s,rfl,hs⟩⟩
   ·cases h
  case h_7 e hu =>
   refine ⟨[.sl .shr (P.cellsOf e) []],rfl,⟨_,[],[],rfl,⟨none,0,rfl,Nat.le_refl _,.inl ⟨rfl,rfl,.inl rfl⟩⟩,rfl,rfl⟩,by simp only [CT,hu]; exact ⟨[],rfl,by simp [maxLen],fun r hr =>by cases hr⟩⟩
  case h_8 e a len cap hu =>
   simp only at h
   split at h
   ·rename_i hc
    simp only [okT,hu,Bool.and_eq_true,decide_eq_true_eq] at hok
    simp only [Option.map_eq_some_iff,Option.bind_eq_some_iff] at h
    obtain ⟨elems,he,rest,_,_⟩ :=h
    have elem:∀ i,i < len→∃ (cs':List Value) (y:DataW H × List MemPlace),w.cells? 0 (a.add (i * P.cellsOf e)) (P.cellsOf e) = some cs'∧DataW.trod enc P w 0 spare held fuel e cs' = some y :=by
     intro i hi
     obtain ⟨y,hy⟩ :=mapM_at he i (List.mem_range.2 hi)
     simp only [Option.bind_eq_some_iff] at hy
     obtain ⟨cs',h1,h2⟩ :=hy
     exact ⟨cs',y,h1,h2⟩
    by_cases h0:len = 0
    ·subst h0
     refine ⟨[.sl .shr (P.cellsOf e) []],rfl,⟨_,[],[],rfl,⟨some a,cap,rfl,Nat.zero_le _,.inl ⟨rfl,rfl,.inl rfl⟩⟩,rfl,rfl⟩,by simp only [CT,hu]; exact ⟨[],rfl,by simp [maxLen],fun r hr =>by cases hr⟩⟩
    ·have hspot:a.spot = none :=by
      obtain ⟨cs',y,h1,_⟩ :=elem 0 (by omega)
      obtain ⟨_,hl,hcell⟩ :=World.cells?_some h1
      have h2 :=hcell 0 hok.1
      have e1:(a.add (0 * P.cellsOf e)).add 0 = a :=by simp [Addr.add]
      rw [e1] at h2
      obtain ⟨v,hv⟩:∃ v,cs'[0]? = some v :=⟨cs'[0],List.getElem?_eq_getElem (by omega)⟩
      rw [hv] at h2
      unfold World.cell? at h2
      split at h2
      ·split at h2
       ·cases h2
       ·rename_i hs; simpa using hs
      ·cases h2
     have hcells:∀ i,i < len→∃ cs':List Value,cs'.length = P.cellsOf e∧(∀ j,j < P.cellsOf e→cell w (a.block,a.off + i * P.cellsOf e + j) = cs'[j]?)∧∃ y,DataW.trod enc P w 0 spare held fuel e cs' = some y :=by
      intro i hi
      obtain ⟨cs',y,h1,h2⟩ :=elem i hi
      obtain ⟨_,hl,hcell⟩ :=World.cells?_some h1
      refine ⟨cs',hl,fun j hj =>?_,y,h2⟩
      rw [← hcell j hj,Addr.add_plain hspot,Addr.add_plain rfl]
      rfl
     obtain ⟨rows,r1,r2,r3⟩ :=rows_of (w :=w) (Z :=allZ w) (sz :=P.cellsOf e) (b :=a.block) (p :=CT P m e) len a.off fun i hi =>by
      obtain ⟨cs',k1,k2,y,k3⟩ :=hcells i hi
      obtain ⟨tr,t1,t2,t3⟩ :=ih e hok.2 (K.slice hT hu) fuel cs' y k3
      refine ⟨tr,by rw [t1,k1],?_,t3⟩
      exact RL.same (fun _ h =>h) tr t2 (fun _ _ =>rfl) (fun j hj =>k2 j (by omega))
     obtain ⟨ab,ao,asp⟩ :=a
     simp only at hspot
     subst hspot
     refine ⟨[.sl .shr (P.cellsOf e) rows],rfl,⟨_,[],[],rfl,⟨some ⟨ab,ao,none⟩,cap,by rw [r1],by rw [r1]; exact hc.2.1,.inl ⟨rfl,rfl,.inr ⟨ab,ao,rfl,r2,fun c hcm =>?_⟩⟩⟩,rfl,rfl⟩,by simp only [CT,hu]; exact ⟨rows,rfl,by rw [r1]; omega,r3⟩⟩
     rw [mem_span,r1] at hcm
     simp only at hcm
     obtain ⟨c1,c2,c3⟩ :=hcm
     have hsz :=hok.1
     have hq:(c.2 - ao) / P.cellsOf e < len :=by
      rw [Nat.div_lt_iff_lt_mul hsz]
      omega
     obtain ⟨cs',k1,k2,_⟩ :=hcells _ hq
     have hmod :=Nat.mod_lt (c.2 - ao) hsz
     have :=k2 ((c.2 - ao) % P.cellsOf e) hmod
     have e2:ao + (c.2 - ao) / P.cellsOf e * P.cellsOf e + (c.2 - ao) % P.cellsOf e = c.2 :=by
      have :=Nat.div_add_mod (c.2 - ao) (P.cellsOf e)
      rw [Nat.mul_comm] at this
      omega
     simp only at this
     rw [e2,← c1] at this
     refine gcell_some ?_
     show (cell w (c.1,c.2)).isSome = true
     rw [this,List.getElem?_eq_getElem (by omega)]
     rfl
   ·cases h
  case h_9 fs hu =>
   rename_i r1 r2 r3
   split at h
   ·rename_i hlen
    simp only [okT,hu,List.all_eq_true] at hok
    simp only [Option.map_eq_some_iff] at h
    obtain ⟨xs,hx,_⟩ :=h
    obtain ⟨k1,k2,k3⟩ :=K.struct hT hu
    obtain ⟨tr,t1,t2,t3⟩ :=fields_of (P :=P) (w :=w) (Z :=allZ w) (R :=CT P m) r1 fs.toList 0 (fun j f hj =>by rw [k3 j f hj]; omega) (by rw [hlen,k2]; omega) fun f hf =>by
     obtain ⟨y,hy⟩ :=mapM_at hx f hf
     obtain ⟨tr,t1,t2,t3⟩ :=ih f.type (hok f hf) (k1 f hf) fuel _ y hy
     exact ⟨tr,t1,t2,t3⟩
    refine ⟨tr,by simpa using t1,by simpa using t2,by simp only [CT,hu]; exact t3⟩
   ·cases h
  all_goals first
   | (rename_i hu _; simp [okT,hu] at hok; done)
   | (rename_i hu; simp [okT,hu] at hok; done)
   | (cases h; done)
   | skip

def isStr (P:Program) (t:TypeId):Bool :=match P.underlying t with | some (.struct _) =>true | _ =>false
def argS (P:Program) (t:TypeId) (tr:List C):S :=.val 0 (isStr P t) tr

theorem open_arg (K:Kids P T) {m:Nat} {t:TypeId} (hok:okT P m t = true) (hT:T t) {r:Go.Reach} {base:Nat} {v:Value} (hval:Value.okWide P w r base t v) {d:DataW H} {ps:List MemPlace} (hd:DataW.Trod enc P w 0 spare held t v d ps) :
  ∃ tr,CT P m t tr∧ARep w (allZ w) (argS P t tr) v [] :=by
 obtain ⟨fuel,hf⟩ :=hd
 obtain ⟨tr,t1,t2,t3⟩ :=open_cells K m t hok hT fuel _ _ hf
 refine ⟨tr,t3,v.cells.toList,?_,by simpa using t1.symm,t2⟩
 cases m with
 | zero =>simp [okT] at hok
 | succ m =>
  unfold Value.okWide at hval
  unfold isStr
  split at hval
  ·rename_i hu
   obtain ⟨cs,rfl,_⟩ :=hval
   rw [hu]
   exact .inl ⟨rfl,rfl⟩
  ·rename_i hu
   simp [okT,hu] at hok
  ·rename_i hn1 hn2
   have hns:(match P.underlying t with | some (.struct _) =>true | _ =>false) = false :=by
    split
    ·rename_i fs hu; exact absurd hu (hn1 fs)
    ·rfl
   rw [hns]
   have hna:∀ cs,v ≠ .agg cs :=by
    rintro cs rfl
    unfold Cell.okWide at hval
    split at hval <;> first | (rename_i h; cases h; done) | (rename_i h _; cases h; done) | skip
    all_goals
     unfold Cell.ok at hval
     split at hval <;> first | exact hval | (rename_i h; cases h; done) | (rename_i h _; cases h; done)
   right
   have hc:v.cells.toList = [v] :=by cases v <;> first | rfl | exact absurd rfl (hna _)
   refine ⟨rfl,hc,?_⟩
   rw [hc] at t1 t2
   -- a single cell
   obtain ⟨c,rfl⟩:∃ c,tr = [c] :=by
    cases tr with
    | nil =>simp at t1
    | cons c r =>cases r with
     | nil =>exact ⟨c,rfl⟩
     | cons _ _ =>simp at t1
   obtain ⟨u,F1,F2,h0,hrc,_,_⟩ :=t2
   simp at h0
   subst h0
   cases c with
   | p u =>obtain ⟨rfl,h,_⟩ :=hrc; exact h
   | hole =>exact hrc.1
   | sl f sz rows =>obtain ⟨ad,cap,rfl,_⟩ :=hrc; rfl
   | mp f it ka va nk rows =>exact hrc.oneCell

def CTall (P:Program) (m:Nat):List TypeId→List (List C)→Prop
 | [],[] =>True
 | t :: ts,tr :: trs =>CT P m t tr∧CTall P m ts trs
 | [],_ :: _ =>False
 | _ :: _,[] =>False
def argsS (P:Program):List TypeId→List (List C)→List S
 | t :: ts,tr :: trs =>argS P t tr :: argsS P ts trs
 | _,_ =>[]

theorem open_args (K:Kids P T) {m:Nat} {r:Go.Reach} {base:Nat}:∀ {ts:List TypeId} {vs:List Value} {ds:List (DataW H)} {ps:List MemPlace},ts.all (okT P m) = true→(∀ t ∈ ts,T t) →
  (∀ (j:Nat) t v,ts[j]? = some t→vs[j]? = some v→Value.okWide P w r base t v)→DataW.TrodAll enc P w 0 spare held ts vs ds ps→∃ trs,CTall P m ts trs∧ARs w (allZ w) (argsS P ts trs) vs []
 | [],[],[],_,_,_,_,_ =>⟨[],trivial,rfl⟩
 | t :: ts,v :: vs,d :: ds,ps,hok,hT,hval,⟨p,q,h1,h2,_⟩ =>by
  simp only [List.all_cons,Bool.and_eq_true] at hok
  obtain ⟨tr,a1,a2⟩ :=open_arg K hok.1 (hT t (by simp)) (hval 0 t v rfl rfl) h1
  obtain ⟨trs,b1,b2⟩ :=open_args K hok.2 (fun u hu =>hT u (List.mem_cons_of_mem _ hu)) (fun j u y hu hy =>hval (j + 1) u y (by simpa using hu) (by simpa using hy)) h2
  exact ⟨tr :: trs,⟨a1,b1⟩,[],[],a2,b2,rfl⟩

theorem trodAll_carry {w':World} {base:Nat} {sp:Nat→Bool}:∀ {ts:List TypeId} {vs:List Value} {ds:List (DataW H)} {ps:List MemPlace},DataW.TrodAll enc P w base sp held ts vs ds ps→(∀ p ∈ ps,w.sameAt w' p)→DataW.TrodAll enc P w' base sp held ts vs ds ps
 | [],[],[],_,h,_ =>h
 | _ :: _,_ :: _,_ :: _,_,⟨p,q,⟨n,h1⟩,h2,e⟩,hs =>by
  subst e
  exact ⟨p,q,⟨n,DataW.trod_carry n _ _ _ h1 (fun x hx =>hs x (List.mem_append_left _ hx))⟩,trodAll_carry h2 (fun x hx =>hs x (List.mem_append_right _ hx)),rfl⟩
end

theorem law_row {H:Type} {enc:TypeId × Value→H} {P:Program} {E:Env} {f:FuncId} {fn:Func} (s:ChangeSpec) {m:Nat} (K:Kids P (· < P.types.size)) (hz:∀ t e,t < P.types.size→P.underlying t = some (.slice e)→0 < P.cellsOf e)
  (hfn:P.funcs[f]? = some fn) (hvars:s.vars = []) (hok:fn.params.toList.all (okT P m) = true) (hts:fn.params.toList.all (fun t =>decide (t < P.types.size)) = true) {tb:TypeId} (hres:fn.resultTypes.toList = [tb]) (hrs:fn.resultTypes.size = 1) (hb:P.underlying tb = some .bool)
  (hspec:∀ ds:List (DataW H),ds.length = fn.params.size→s.fn H ds = { results :=[.lit (.bool true)],args :=ds }) (hS:CallOk P E (EV P E) f) (hmodes:(E.ann f).modes = [])
  (hlaw:∀ trs,CTall P m fn.params.toList trs→EV P E f (argsS P fn.params.toList trs) = some ⟨[(false,[.p (.bool true)])],[]⟩)
  (W:World) (base:Nat) (args:Array Value) (ds gs:List (DataW H)) (before:List MemPlace) (hval:∀ (j:Nat) t v,fn.params[j]? = some t→args[j]? = some v→Value.okWide P W .any base t v)
  (hW:DataW.Whole enc P fn.params.toList s.vars false W args.toList ds gs before):Calls P f args W fun e W' =>∃ v,e = .returned v∧s.post enc P fn false true false false W args v W' :=by
 have hW' :=hW
 obtain ⟨p,q,hA,hV,rfl,hfz,hnd⟩ :=hW
 rw [hvars] at hV
 have hgs:gs = []∧q = [] :=by
  cases gs with
  | nil =>exact ⟨rfl,hV⟩
  | cons g gs =>exact hV.elim
 obtain ⟨rfl,rfl⟩ :=hgs
 have hT:∀ t ∈ fn.params.toList,t < P.types.size :=fun t ht =>by simpa using List.all_eq_true.1 hts t ht
 obtain ⟨trs,c1,c2⟩ :=open_args (r :=.any) (base :=base) K hok hT (fun j t v ht hv =>hval j t v (by simpa using ht) (by simpa using hv)) hA
 have hcall :=hS _ _ W (allZ W) [] _ (hlaw trs c1) c2 List.nodup_nil (by simp) (fun c h =>h)
 have hargs:args.toList.toArray = args :=by simp
 rw [hargs] at hcall
 refine hcall.mono fun e W' h =>?_
 cases e with
 | outgrown =>exact h.elim
 | panicked c =>exact h.elim
 | returned v =>
  obtain ⟨Z',F1,F2,G,hg,h1,h2,h3,h4,_⟩ :=h
  have hv:v = .bool true :=by
   obtain ⟨vs,hp,hl,hr⟩ :=h4
   obtain ⟨e1,e2⟩ :=packs_one hp hl hr
   exact e2.1
  subst hv
  have bel:RowKit.Below W.heap.size W W' :=hg.below (fun c hc =>by cases hc)
  have hlt:∀ x ∈ p,x.block < W.heap.size :=hA.lt
  have hA2 :=DataW.TrodAll.respare (spare' :=fun b =>decide (b < W.heap.size)) K hz hT hA (fun x hx =>by simpa using hlt x hx)
  have hA3 :=trodAll_carry hA2 (fun x hx =>bel.same (hlt x hx))
  have hdl:ds.length = fn.params.size :=by simpa using (trodAll_length hA).2
  have hsp:s.fn H (ds ++ []) = { results :=[.lit (.bool true)],args :=ds } :=by rw [List.append_nil]; exact hspec ds hdl
  refine ⟨_,rfl,ds,[],p ++ [],[],p,[],hW',?_,?_,?_,bel.frame _,fun h =>by cases h⟩
  ·rw [hres,hsp,hrs]
   exact ChangeShapes.trodAll_mk1 (RowKit.shut_bool hb true)
  ·rw [hsp]; exact hA3
  ·rw [hvars,hsp]; rfl
end Go.Sx

/- Loops,and lists of the language's values. -/
namespace Go.Sx

def nxtB (F:Fr) (id:Nat) (live:List Tmp):Option O→Option (St ⊕ O)
 | some (.norm s) =>some (.inl (mask live s))
 | some (.exit k s) =>bnd (endOf F id (.exit k s)) fun o =>some (.inr o)
 | some (.ret r) =>some (.inr (.ret r))
 | none =>none
theorem rvN:(∀ F id live s,nxtB F id live (some (.norm s)) = some (.inl (mask live s)))∧(∀ F id live k s,nxtB F id live (some (.exit k s)) = bnd (endOf F id (.exit k s)) fun o =>some (.inr o))∧(∀ F id live r,nxtB F id live (some (.ret r)) = some (.inr (.ret r))) :=
 ⟨fun _ _ _ _ =>rfl,fun _ _ _ _ _ =>rfl,fun _ _ _ _ =>rfl⟩

theorem blockO_of {F:Fr} {id:Nat} {live:List Tmp} {g:St→Option O} {s s1:St} {o:O} (hs:mask live s = s1) (h:nxtB F id live (g s1) = some (.inr o)):blockO F id (itω live g s) = some o :=by
 rw [itω_eq,hs]
 cases hg:g s1 with
 | none =>rw [hg] at h; cases h
 | some q =>
  rw [hg] at h
  cases q with
  | norm s' =>simp [nxtB] at h
  | exit k s' =>
   obtain ⟨o',h1,h2⟩ :=bE.1 (show bnd (endOf F id (.exit k s')) _ = some (Sum.inr o) from h)
   simp at h2
   subst h2
   exact h1
  | ret r =>
   simp [nxtB] at h
   subst h
   rfl

theorem blockO_next {F:Fr} {id:Nat} {live:List Tmp} {g:St→Option O} {s s1 s2:St} (hs:mask live s = s1) (h:nxtB F id live (g s1) = some (.inl s2)):∃ s',mask live s' = s2∧blockO F id (itω live g s) = blockO F id (itω live g s') :=by
 rw [itω_eq,hs]
 cases hg:g s1 with
 | none =>rw [hg] at h; cases h
 | some q =>
  rw [hg] at h
  cases q with
  | norm s' =>
   simp [nxtB] at h
   exact ⟨s',h,rfl⟩
  | exit k s' =>
   obtain ⟨o',h1,h2⟩ :=bE.1 (show bnd (endOf F id (.exit k s')) _ = some (Sum.inl s2) from h)
   simp at h2
  | ret r =>simp [nxtB] at h

theorem for_block {α β:Type} {F:Fr} {id:Nat} {live:List Tmp} {g:St→Option O} (l:List β) (I:Nat→α→St) (ok:Nat→α→Prop) (G:List β→Nat→α→O)
  (hstep:∀ i x r a,l.drop i = x :: r→l[i]? = some x→ok i a→(∃ b,nxtB F id live (g (I i a)) = some (.inl (I (i + 1) b))∧ok (i + 1) b∧G (x :: r) i a = G r (i + 1) b)∨nxtB F id live (g (I i a)) = some (.inr (G (x :: r) i a)))
  (hend:∀ a,ok l.length a→nxtB F id live (g (I l.length a)) = some (.inr (G [] l.length a)))
  {a:α} (h0:ok 0 a) {s:St} (hs:mask live s = I 0 a):blockO F id (itω live g s) = some (G l 0 a) :=by
 have key:∀ (r:List β) (i:Nat) (a:α) (s:St),l.drop i = r→i≤l.length→ok i a→mask live s = I i a→blockO F id (itω live g s) = some (G r i a) :=by
  intro r
  induction r with
  | nil =>
   intro i a s hr hi hok hs
   have hi':i = l.length :=by
    have :=congrArg List.length hr
    simp at this
    omega
   subst hi'
   exact blockO_of hs (hend a hok)
  | cons x r ih =>
   intro i a s hr hi hok hs
   have hx:l[i]? = some x :=by
    have :=congrArg (·[0]?) hr
    simpa using this
   have hlt:i < l.length :=(List.getElem?_eq_some_iff.1 hx).1
   have hdr:l.drop (i + 1) = r :=by rw [← List.drop_drop,hr]; rfl
   rcases hstep i x r a hr hx hok with ⟨b,h1,h2,h3⟩ | h1
   ·obtain ⟨s',e1,e2⟩ :=blockO_next hs h1
    rw [e2,h3]
    exact ih (i + 1) b s' hdr (by omega) h2 e1
   ·exact blockO_of hs h1
 exact key l 0 a s rfl (Nat.zero_le _) h0 hs

theorem while_block {ι:Type} {F:Fr} {id:Nat} {live:List Tmp} {g:St→Option O} (I:ι→St) (ok:ι→Prop) (G:ι→O) (meas:ι→Nat)
  (hstep:∀ i,ok i→(∃ j,nxtB F id live (g (I i)) = some (.inl (I j))∧ok j∧meas j < meas i∧G i = G j)∨nxtB F id live (g (I i)) = some (.inr (G i)))
  {i:ι} (h0:ok i) {s:St} (hs:mask live s = I i):blockO F id (itω live g s) = some (G i) :=by
 have key:∀ n i s,meas i = n→ok i→mask live s = I i→blockO F id (itω live g s) = some (G i) :=by
  intro n
  induction n using Nat.strongRecOn with
  | _ n ih =>
   intro i s hn hok hs
   rcases hstep i hok with ⟨j,h1,h2,h3,h4⟩ | h1
   ·obtain ⟨s',e1,e2⟩ :=blockO_next hs h1
    rw [e2,h4]
    exact ih (meas j) (hn ▸ h3) j s' rfl h2 e1
   ·exact blockO_of hs h1
 exact key _ i s rfl h0 hs

theorem while_ex {ι:Type} {F:Fr} {id:Nat} {live:List Tmp} {g:St→Option O} {s:St} {X:Option O} (hX:blockO F id (itω live g s) = X) (I:ι→St) (ok:ι→Prop) (Q:O→Prop) (meas:ι→Nat)
  (hstep:∀ i,ok i→(∃ j,nxtB F id live (g (I i)) = some (.inl (I j))∧ok j∧meas j < meas i)∨∃ o,nxtB F id live (g (I i)) = some (.inr o)∧Q o)
  {i:ι} (h0:ok i) (hs:mask live s = I i):∃ o,X = some o∧Q o :=by
 subst hX
 have key:∀ n i s,meas i = n→ok i→mask live s = I i→∃ o,blockO F id (itω live g s) = some o∧Q o :=by
  intro n
  induction n using Nat.strongRecOn with
  | _ n ih =>
   intro i s hn hok hs
   rcases hstep i hok with ⟨j,h1,h2,h3⟩ | ⟨o,h1,h2⟩
   ·obtain ⟨s',e1,e2⟩ :=blockO_next hs h1
    rw [e2]
    exact ih (meas j) (hn ▸ h3) j s' rfl h2 e1
   ·exact ⟨o,blockO_of hs h1,h2⟩
 exact key _ i s rfl h0 hs
theorem EV_introX {P:Program} {E:Env} {f:FuncId} {fn:Func} {c:Code} {x:List S} {Q:Res→Prop} (hf:P.funcs[f]? = some fn) (hb:fn.body = some c)
  (h:∃ r,finish (E.forF f) ⟨fn.results.toList,E.ann f,x⟩ (evc (E.forF f) (EV P E) ITω ⟨fn.results.toList,E.ann f,x⟩ c ⟨x.length,enterL 0 x⟩) = some r∧Q r) (h0:(E.ann f).sum = 0 :=by first | rfl | assumption):∃ r,EV P E f x = some r∧Q r :=by
 obtain ⟨r,h1,h2⟩ :=h
 exact ⟨r,eVi hf hb h1 h0,h2⟩

theorem rvF:allFreeRows [] = true∧(∀ r rs,allFreeRows (r :: rs) = (allFree r && allFreeRows rs))∧wholeRows [] = true∧(∀ r rs,wholeRows (r :: rs) = (wholeRow r && wholeRows rs))∧mineRows [] = true∧(∀ r rs,mineRows (r :: rs) = (mineRow r && mineRows rs))∧borRows [] = []∧(∀ r rs,borRows (r :: rs) = borRow r :: borRows rs) :=by
 refine ⟨?_,?_,?_,?_,?_,?_,?_,?_⟩ <;> intros <;> first | rfl | simp only [wholeRows] | simp only [mineRows] | simp only [borRows]
theorem rvG:(∀ a b,allFreeRows (a ++ b) = (allFreeRows a && allFreeRows b))∧(∀ a b,wholeRows (a ++ b) = (wholeRows a && wholeRows b))∧(∀ a b,mineRows (a ++ b) = (mineRows a && mineRows b))∧(∀ a b,borRows (a ++ b) = borRows a ++ borRows b) :=by
 refine ⟨fun a b =>?_,fun a b =>?_,fun a b =>?_,fun a b =>?_⟩
 ·induction a with
  | nil =>simp [allFreeRows]
  | cons r a ih =>simp [allFreeRows,ih,Bool.and_assoc]
 ·induction a with
  | nil =>simp [wholeRows]
  | cons r a ih =>simp [wholeRows,ih,Bool.and_assoc]
 ·induction a with
  | nil =>simp [mineRows]
  | cons r a ih =>simp [mineRows,ih,Bool.and_assoc]
 ·induction a with
  | nil =>simp [borRows]
  | cons r a ih =>simp [borRows,ih]
theorem natBeq (a b:Nat):Nat.beq a b = decide (a = b) :=by
 by_cases h:a = b
 ·subst h; simp
 ·rw [decide_eq_false h]
  cases hb:Nat.beq a b with
  | false =>rfl
  | true =>exact absurd (Nat.eq_of_beq_eq_true hb) h
theorem rvE:(∀ a b,Nat.beq a b = decide (a = b))∧(∀ i,enterL i [] = [])∧(∀ i x r,enterL i (x :: r) = (i,x.stamp i) :: enterL (i + 1) r)∧headM [] = .shr∧(∀ m r,headM (m :: r) = m)∧Mode.shr.isIo = false∧Mode.mv.isIo = false∧Mode.io.isIo = true∧(∀ E F r,finish E F (some (.ret r)) = some r)∧(∀ E F s,finish E F (some (.norm s)) = retOf E F s) :=⟨natBeq,fun _ =>rfl,fun _ _ _ =>rfl,rfl,fun _ _ =>rfl,rfl,rfl,rfl,fun _ _ _ =>rfl,fun _ _ _ =>rfl⟩

theorem rvI:ITω.lp = itω∧ITω.rg = irω :=⟨rfl,rfl⟩
theorem rvH:(∀ E f,(Env.forF E f).ann = E.ann)∧(∀ E f,(Env.forF E f).T = E.T)∧(∀ E f,(Env.forF E f).eqT = E.eqT)∧(∀ E f,(Env.forF E f).fz = mirKeys (E.ann f).mir)∧(∀ E f,(Env.forF E f).lf = (E.ann f).lf)∧(∀ E f,(Env.forF E f).fc = (E.ann f).fc)∧mirKeys [] = []∧∀ p r,mirKeys (p :: r) = p.1 :: mirKeys r :=
 ⟨fun _ _ =>rfl,fun _ _ =>rfl,fun _ _ =>rfl,fun _ _ =>rfl,fun _ _ =>rfl,fun _ _ =>rfl,rfl,fun _ _ =>rfl⟩

theorem rvS :
  (∀ (α:Type) (a:α) (l:List α),(a :: l).length = l.length + 1) ∧
  (∀ α:Type,([]:List α).length = 0) ∧
  (∀ α:Type,([]:List α).tail = []) ∧
  (∀ (α:Type) (a:α) (l:List α),(a :: l).tail = l) ∧
  (∀ (x a:Tmp) (l:List Tmp),(a :: l).contains x = (x == a || l.contains x)) ∧
  (∀ x:Tmp,([]:List Tmp).contains x = false) ∧
  (∀ b:Bool,(false || b) = b)∧(∀ b:Bool,(b || false) = b)∧(∀ b:Bool,(true || b) = true)∧(∀ b:Bool,(b || true) = true) ∧
  (∀ b:Bool,(b && true) = b)∧(∀ b:Bool,(true && b) = b)∧(∀ b:Bool,(b && false) = false)∧(∀ b:Bool,(false && b) = false) ∧
  (!true) = false∧(!false) = true∧((false = true) = False) ∧
  (∀ (α β:Type) (f:α→β) (l:List α),(l.map f).length = l.length) ∧
  (∀ (α:Type) (l:List α),[] ++ l = l)∧(∀ (α:Type) (l:List α),l ++ [] = l)∧(∀ (α:Type) (a:α) (l m:List α),(a :: l) ++ m = a :: (l ++ m)) ∧
  (∀ n:Nat,(n:Int).toNat = n)∧(∀ n:Nat,0 + n = n)∧(∀ n:Nat,n + 0 = n) ∧
  (∀ (α β:Type) (a:α) (f:α→Option β),(some a).bind f = f a) ∧
  (∀ (α:Type) (a:α),(some a).isSome = true)∧(∀ α:Type,(none:Option α).isSome = false) ∧
  (∀ (α:Type) (a:List α) (l:List (List α)),(a :: l).flatten = a ++ l.flatten)∧(∀ α:Type,([]:List (List α)).flatten = []) ∧
  (∀ (α:Type) (n:Nat) (a:α) (l:List α),(a :: l).take (n + 1) = a :: l.take n)∧(∀ (α:Type) (l:List α),l.take 0 = [])∧(∀ (α:Type) (n:Nat),([]:List α).take n = []) ∧
  (∀ (α:Type) (n:Nat) (a:α) (l:List α),(a :: l).drop (n + 1) = l.drop n)∧(∀ (α:Type) (l:List α),l.drop 0 = l)∧(∀ (α:Type) (n:Nat),([]:List α).drop n = []) ∧
  (∀ n:Int,(n < n) = False)∧(∀ α:Type,([]:List α).isEmpty = true)∧(∀ (α:Type) (a:α) (l:List α),(a :: l).isEmpty = false) :=by
 refine ⟨?_,?_,?_,?_,?_,?_,?_,?_,?_,?_,?_,?_,?_,?_,?_,?_,?_,?_,?_,?_,?_,?_,?_,?_,?_,?_,?_,?_,?_,?_,?_,?_,?_,?_,?_,?_,?_,?_⟩ <;> intros <;> first | rfl | simp | simp [List.contains_cons]

def flatRow:List C→Bool
 | [] =>true
 | .p _ :: r =>flatRow r
 | _ :: _ =>false
theorem flat_row:∀ {r:List C},flatRow r = true→borRow r = r∧mineRow r = true∧wholeRow r = true∧allFree r = true∧leftRow r = r
 | [],_ =>⟨rfl,rfl,rfl,rfl,rfl⟩
 | .p v :: r,h =>by
  obtain ⟨h1,h2,h3,h4,h5⟩ :=flat_row (r :=r) h
  refine ⟨?_,?_,?_,?_,?_⟩
  ·simp only [borRow,C.bor,h1]
  ·simp only [mineRow,C.mine,h2,Bool.and_true]
  ·simp only [wholeRow,C.whole,h3,Bool.and_true]
  ·simp only [allFree,C.free,h4,Bool.and_true]
  ·simp only [leftRow,C.left,h5]
 | .sl .. :: _,h =>by simp [flatRow] at h
 | .hole :: _,h =>by simp [flatRow] at h
 | .mp .. :: _,h =>by simp [flatRow] at h
theorem flat_rows {β:Type} (f:β→List C) (h:∀ x,flatRow (f x) = true):∀ l:List β,borRows (l.map f) = l.map f∧mineRows (l.map f) = true∧wholeRows (l.map f) = true∧allFreeRows (l.map f) = true
 | [] =>⟨rfl,rfl,rfl,rfl⟩
 | x :: l =>by
  obtain ⟨h1,h2,h3,h4⟩ :=flat_rows f h l
  obtain ⟨k1,k2,k3,k4,_⟩ :=flat_row (h x)
  refine ⟨?_,?_,?_,?_⟩
  ·simp only [List.map_cons,borRows,k1,h1]
  ·simp only [List.map_cons,mineRows,k2,h2,Bool.and_true]
  ·simp only [List.map_cons,wholeRows,k3,h3,Bool.and_true]
  ·simp only [List.map_cons,allFreeRows,k4,h4,Bool.and_true]

def fillR {β:Type} (f:β→List C) (l:List β) (z:List C) (i:Nat):List (List C) :=(l.take i).map f ++ List.replicate (l.length - i) z
theorem wrap64 {n:Int} (h1:-9223372036854775808≤n) (h2:n≤9223372036854775807):IntKind.i64.wrap n = n :=by
 rw [IntKind.wrap_i64]
 omega
theorem i64c (n:Nat):((n + 1:Nat):Int) = (n:Int) + 1 :=by omega
theorem getElem?_map_some {α β:Type} {l:List α} {f:α→β} {i:Nat} {a:α} (h:l[i]? = some a):(l.map f)[i]? = some (f a) :=by simp [h]

/-! Trees of a type,opened. -/
def fieldTys:TypeDesc→Option (List TypeId)
 | .struct fs =>some (fs.toList.map (·.type))
 | _ =>none
theorem CT_int {P:Program} {n:Nat} {t:TypeId} {tr:List C} {k:IntKind} (hu:P.underlying t = some (.int k)) (h:CT P n t tr):∃ m,tr = [.p (.int k m)]∧(Lit.int k m).wf = true :=by
 cases n with
 | zero =>exact h.elim
 | succ n =>simpa only [CT,hu] using h
theorem CT_slice {P:Program} {n:Nat} {t e:TypeId} {tr:List C} {sz:Nat} {β:Type} {f:β→List C} {p:β→Prop} (hu:P.underlying t = some (.slice e)) (hz:P.cellsOf e = sz) (hf:∀ r,CT P n e r→∃ x,r = f x∧p x) (h:CT P (n + 1) t tr) :
  ∃ l:List β,tr = [.sl .shr sz (l.map f)]∧(∀ x ∈ l,p x)∧l.length≤maxLen :=by
 simp only [CT,hu] at h
 obtain ⟨rows,rfl,hl,hr⟩ :=h
 have:∀ rows:List (List C),(∀ r ∈ rows,CT P n e r)→∃ l:List β,rows = l.map f∧∀ s ∈ l,p s :=by
  intro rows
  induction rows with
  | nil =>exact fun _ =>⟨[],rfl,fun s hs =>by cases hs⟩
  | cons r rows ih =>
   intro h
   obtain ⟨s,hs,hs2⟩ :=hf r (h r (by simp))
   obtain ⟨l,hl,hl2⟩ :=ih (fun x hx =>h x (List.mem_cons_of_mem _ hx))
   refine ⟨s :: l,by rw [hs,hl]; rfl,fun x hx =>?_⟩
   rcases List.mem_cons.1 hx with rfl | hx
   ·exact hs2
   ·exact hl2 x hx
 obtain ⟨l,e',hl2⟩ :=this rows hr
 exact ⟨l,by rw [e',hz],hl2,by rw [e'] at hl; simpa using hl⟩
theorem CTall_nil {P:Program} {m:Nat} {trs:List (List C)} (h:CTall P m [] trs):trs = [] :=by
 cases trs with
 | nil =>rfl
 | cons _ _ =>exact h.elim
theorem CTall_cons {P:Program} {m:Nat} {t:TypeId} {ts:List TypeId} {trs:List (List C)} (h:CTall P m (t :: ts) trs):∃ tr r,trs = tr :: r∧CT P m t tr∧CTall P m ts r :=by
 cases trs with
 | nil =>exact h.elim
 | cons tr r =>exact ⟨tr,r,rfl,h.1,h.2⟩
end Go.Sx

/- Rows,by what their cells are. -/
namespace Go.Sx
theorem rows_by {β:Type} {f g:β→List C} (h1:∀ x,borRow (f x) = g x) (h2:∀ x,mineRow (f x) = true) (h3:∀ x,wholeRow (f x) = true) (h4:∀ x,wholeRow (g x) = true) (h5:∀ x,allFree (g x) = true) :
  ∀ l:List β,borRows (l.map f) = l.map g∧mineRows (l.map f) = true∧wholeRows (l.map f) = true∧wholeRows (l.map g) = true∧allFreeRows (l.map g) = true
 | [] =>⟨rfl,rfl,rfl,rfl,rfl⟩
 | x :: l =>by
  obtain ⟨a1,a2,a3,a4,a5⟩ :=rows_by h1 h2 h3 h4 h5 l
  refine ⟨?_,?_,?_,?_,?_⟩
  ·simp only [List.map_cons,borRows,h1,a1]
  ·simp only [List.map_cons,mineRows,h2,a2,Bool.and_true]
  ·simp only [List.map_cons,wholeRows,h3,a3,Bool.and_true]
  ·simp only [List.map_cons,wholeRows,h4,a4,Bool.and_true]
  ·simp only [List.map_cons,allFreeRows,h5,a5,Bool.and_true]
end Go.Sx

/- Lists whose elements are marked one after the other. -/
namespace Go.Sx
section
variable {β:Type} (mk:β→Int→β) (mc:β→Nat)
def mcL:List β→Nat
 | [] =>0
 | x :: r =>mc x + mcL r
def mkTo:Nat→List β→Int→List β
 | 0,l,_ =>l
 | _ + 1,[],_ =>[]
 | i + 1,x :: r,k =>mk x k :: mkTo i r (k + (mc x:Nat))
def mkL:List β→Int→List β
 | [],_ =>[]
 | x :: r,k =>mk x k :: mkL r (k + (mc x:Nat))
def kAt (l:List β) (k:Int) (i:Nat):Int :=k + (mcL mc (l.take i):Nat)
end
def dgt (n:Nat):ByteArray :=⟨#[UInt8.ofNat (IntKind.u8.wrap (IntKind.i64.wrap (48 + ((n % 10:Nat):Int)))).toNat]⟩
def dgs (n:Nat) (s:ByteArray):ByteArray :=if h:n = 0 then s else dgs (n / 10) (dgt n ++ s)
def mtx (k:Int):ByteArray :=if k≤0 then ⟨#[109,48]⟩ else ⟨#[109]⟩ ++ dgs k.toNat ⟨#[]⟩
theorem tmod10 (n:Nat):(n:Int).tmod 10 = ((n % 10:Nat):Int) :=rfl
theorem tdiv10 (n:Nat):(n:Int).tdiv 10 = ((n / 10:Nat):Int) :=rfl
end Go.Sx

/- Maps by lists of entries: what a look finds,what a put leaves,and a walk that only looks. -/
namespace Go.Sx

def fstR {β:Type} (p:β→Bool) (f:β→List C):List β→Option (Nat × List C)
 | [] =>none
 | x :: r =>if p x = true then some (0,f x) else bump (fstR p f r)
theorem findR_map {β:Type} {ks:List Value} {nk:Nat} {f:β→List C} {key:β→List Value} {p:β→Bool} (hk:∀ x,allPrim ((f x).take nk) = some (key x)) (he:∀ x,eqVals ks (key x) = some (p x)) :
  ∀ l:List β,findR ks nk (l.map f) = some (fstR p f l)
 | [] =>rfl
 | x :: r =>by
  rw [List.map_cons,findR,hk x]
  simp only [bnd]
  rw [he x]
  simp only [bnd]
  rw [findR_map hk he r]
  cases h:p x <;> simp [tst,fstR,h]
theorem fstR_cases {β:Type} (p:β→Bool) (f:β→List C):∀ l:List β,(l.find? p = none∧fstR p f l = none)∨∃ i x,l.find? p = some x∧l[i]? = some x∧p x = true∧l.findIdx? p = some i∧fstR p f l = some (i,f x)
 | [] =>.inl ⟨rfl,rfl⟩
 | x :: r =>by
  by_cases h:p x = true
  ·exact .inr ⟨0,x,by simp [h],rfl,h,by simp [List.findIdx?_cons,h],by simp [fstR,h]⟩
  ·rcases fstR_cases p f r with ⟨h1,h2⟩ | ⟨i,y,h1,h2,h3,h4,h5⟩
   ·exact .inl ⟨by simp [h,h1],by simp [fstR,h,h2,bump]⟩
   ·exact .inr ⟨i + 1,y,by simp [h,h1],by simpa using h2,h3,by simp [List.findIdx?_cons,h,h4],by simp [fstR,h,h5,bump]⟩
def mput {β:Type} (p:β→Bool) (x:β) (l:List β):List β :=match l.findIdx? p with
 | none =>l ++ [x]
 | some i =>l.set i x
theorem putR_map {β:Type} {p:β→Bool} {f:β→List C} {ks:List Value} {vs:List C} {x:β} (hx:primC ks ++ vs = f x) (l:List β):putR ks vs (l.map f) (fstR p f l) = (mput p x l).map f :=by
 rcases fstR_cases p f l with ⟨h1,h2⟩ | ⟨i,y,h1,h2,h3,h4,h5⟩
 ·have h:l.findIdx? p = none :=by
   rw [List.findIdx?_eq_none_iff]
   intro a ha
   simpa using List.find?_eq_none.1 h1 a ha
  rw [h2]
  simp [putR,mput,h,hx]
 ·rw [h5]
  simp [putR,mput,h4,hx]

theorem nextR_map {β:Type} {f:β→List C} {r:List β} {i:Nat} {x:β} (h:r[i]? = some x) (m:Tmp × MpV) (s:St) :
  nextR m i s (r.map f) = some (upd m.1 [.mp .own 2 m.2.ka m.2.va m.2.nk (f x :: (r.eraseIdx i).map f)] s,.tup [(false,[.p (.bool true)]),(m.2.ka,(f x).take m.2.nk),(m.2.va,(f x).drop m.2.nk)]) :=by
 have he:∀ (r:List β) (i:Nat),(r.map f).eraseIdx i = (r.eraseIdx i).map f :=by
  intro r
  induction r with
  | nil =>intro i; rfl
  | cons y r ih =>
   intro i
   cases i with
   | zero =>rfl
   | succ i =>simp only [List.map_cons,List.eraseIdx_cons_succ,ih]
 cases r with
 | nil =>simp at h
 | cons y r =>
  have h2:(f y :: r.map f)[i]? = some (f x) :=by
   have :=getElem?_map_some (f :=f) h
   simpa using this
  rw [List.map_cons,nextR,h2]
  simp only [bnd]
  have :=he (y :: r) i
  rw [List.map_cons] at this
  rw [this]
theorem all_eraseIdx {β:Type} (p:β→Bool):∀ (r:List β) (i:Nat) (h:i < r.length),r.all p = (p r[i] && (r.eraseIdx i).all p)
 | [],_,h =>absurd h (Nat.not_lt_zero _)
 | x :: r,0,_ =>by simp
 | x :: r,i + 1,h =>by
  have :=all_eraseIdx p r i (by simpa using h)
  simp only [List.all_cons,List.getElem_cons_succ,List.eraseIdx_cons_succ,this]
  cases p x <;> cases p (r[i]'(by simpa using h)) <;> rfl
theorem range_all {β:Type} {F:Fr} {id:Nat} {live:List Tmp} {k:St→Nat} {g:Nat→St→Option O} (l:List β) (p:β→Bool) (I:Option β→List β→St) (od:O) (res:Res)
  (hk:∀ c r,k (I c r) = r.length)
  (hsame:∀ c,g 0 (I c []) = g 0 (I none []))
  (hnil:nxtB F id live (g 0 (I none [])) = some (.inr od))
  (hstep:∀ c r i x,(∀ y ∈ r,y ∈ l)→r[i]? = some x→(p x = true∧nxtB F id live (g i (I c r)) = some (.inl (I (some x) (r.eraseIdx i))))∨(p x = false∧nxtB F id live (g i (I c r)) = some (.inr (.ret res))))
  {s:St} (hs:mask live s = I none l):blockO F id (irω live k g s) = some (if l.all p = true then od else .ret res) :=by
 obtain ⟨q0,h0,h0',h0n⟩:∃ q0,g 0 (I none []) = some q0∧blockO F id (some q0) = some od∧∀ s',q0 ≠ .norm s' :=by
  cases hg:g 0 (I none []) with
  | none =>rw [hg] at hnil; cases hnil
  | some q =>
   rw [hg] at hnil
   cases q with
   | norm s' =>simp [nxtB] at hnil
   | exit j s' =>
    obtain ⟨o',h1,h2⟩ :=bE.1 (show bnd (endOf F id (.exit j s')) _ = some (Sum.inr od) from hnil)
    simp at h2
    subst h2
    exact ⟨_,rfl,h1,fun _ h =>by cases h⟩
   | ret r =>
    simp [nxtB] at hnil
    subst hnil
    exact ⟨_,rfl,rfl,fun _ h =>by cases h⟩
 have key:∀ n c r s,r.length = n→(∀ y ∈ r,y ∈ l)→mask live s = I c r→rangeN (n + 1) live k g s = some (if r.all p = true then q0 else .ret res) :=by
  intro n
  induction n with
  | zero =>
   intro c r s hn hsub hs
   have:r = [] :=List.length_eq_zero_iff.1 hn
   subst this
   rw [rangeN,agree_some,hs,hk]
   refine ⟨?_,fun i hi =>absurd hi (Nat.not_lt_zero i)⟩
   rw [hsame,h0]
   cases q0 with
   | norm s' =>exact absurd rfl (h0n s')
   | exit _ _ =>rfl
   | ret _ =>rfl
  | succ n ih =>
   intro c r s hn hsub hs
   rw [rangeN,agree_some,hs,hk]
   have main:∀ i,i < r.length→(match g i (I c r) with
     | some (.norm s') =>rangeN (n + 1) live k g s'
     | some (.exit id s') =>some (.exit id s')
     | some (.ret r) =>some (.ret r)
     | none =>none) = some (if r.all p = true then q0 else .ret res) :=by
    intro i hi
    have hx:r[i]? = some r[i] :=List.getElem?_eq_getElem hi
    rcases hstep c r i r[i] hsub hx with ⟨hp,h1⟩ | ⟨hp,h1⟩
    ·cases hg:g i (I c r) with
     | none =>rw [hg] at h1; cases h1
     | some q =>
      rw [hg] at h1
      cases q with
      | norm s' =>
       simp [nxtB] at h1
       have hall:r.all p = (r.eraseIdx i).all p :=by
        rw [all_eraseIdx p r i hi,hp,Bool.true_and]
       simp only
       rw [hall]
       exact ih (some r[i]) (r.eraseIdx i) s' (by rw [List.length_eraseIdx_of_lt hi]; omega) (fun y hy =>hsub y (List.mem_of_mem_eraseIdx hy)) h1
      | exit j s' =>
       obtain ⟨o',h2,h3⟩ :=bE.1 (show bnd (endOf F id (.exit j s')) _ = some (Sum.inl _) from h1)
       simp at h3
      | ret _ =>simp [nxtB] at h1
    ·have hall:r.all p = false :=by
      rw [List.all_eq_false]
      exact ⟨r[i],List.getElem_mem hi,by simp [hp]⟩
     rw [hall]
     cases hg:g i (I c r) with
     | none =>rw [hg] at h1; cases h1
     | some q =>
      rw [hg] at h1
      cases q with
      | norm s' =>simp [nxtB] at h1
      | exit j s' =>
       obtain ⟨o',h2,h3⟩ :=bE.1 (show bnd (endOf F id (.exit j s')) (fun o =>some (Sum.inr o)) = some (Sum.inr (O.ret res)) from h1)
       simp at h3
       subst h3
       simp only [endOf] at h2
       split at h2
       ·split at h2 <;> cases h2
       ·cases h2
      | ret _ =>
       simp [nxtB] at h1
       subst h1
       rfl
   exact ⟨main 0 (by omega),main⟩
 rw [irω_of (key l.length none l s rfl (fun _ h =>h) hs)]
 split
 ·exact h0'
 ·rfl
end Go.Sx

/- Functions that are known by their contracts: slices.Sort and slices.Delete of texts. -/
namespace Go.Sx
open Go.Sort Go.Proofs
section
variable {P:Program} {E:Env}

def movedT (xs:List ByteArray) (j:Nat):List Value :=(xs.drop j).map Value.string

end
end Go.Sx
