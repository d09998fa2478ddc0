/- An evaluator for the translated code over values that are trees,and that it is sound: part SxC. -/
import Derived.Test.YtgekblcbdhjmfaaSxB
set_option linter.unusedVariables false
set_option linter.unusedSimpArgs false
set_option maxRecDepth 100000
/- The arguments of a call. -/
namespace Go.Sx

def ARep (w:World) (Z:CA→Prop) (x:S) (v:Value) (F:List CA):Prop :=
 match x with
 | .val g a cs =>Rep w Z [] (fun _ =>undef) v F (.val g a cs)
 | .box g h cs =>Rep w Z [] (fun _ =>undef) v F (.box g h cs)
 | .rp cs =>Rep w Z [] (fun _ =>undef) v F (.rp cs)
 | .fn f caps =>Rep w Z [] (fun _ =>undef) v F (.fn f caps)
 | _ =>False
def ARs (w:World) (Z:CA→Prop):List S→List Value→List CA→Prop
 | [],[],F =>F = []
 | x :: xs,v :: vs,F =>∃ F1 F2,ARep w Z x v F1∧ARs w Z xs vs F2∧F = F1 ++ F2
 | [],_ :: _,_ =>False
 | _ :: _,[],_ =>False

def ItemOk (w:World) (Z:CA→Prop) (tm:Tmp→Value) (s:St) (x:S) (v:Value) (F:List CA):Prop :=
 match x with
 | .val g a cs =>Rep w Z s.sl tm v F (.val g a cs)
 | .box _ _ cs =>∃ b p,v = .pointer (some ⟨b,p,none⟩)∧RL w Z cs (fun i =>cell w (b,p + i)) F
 | .rp cs =>Rep w Z s.sl tm v F (.rp cs)
 | .fn f caps =>Rep w Z s.sl tm v F (.fn f caps)
 | .lnk r h off n a el win =>F = []∧h < s.cnt∧Rep w Z s.sl tm v [] (.lnk r h off n a el win)
 | _ =>False

def BackOk (w:World) (tm:Tmp→Value) (s:St) (x:S) (v:Value) (m:Mode):List Back→Prop
 | [] =>x.isBox = false∧m.isIo = false
 | [.drop] =>m.isIo = true∧∃ g a cs,x = .val g a cs
 | [.at r off el n w1 k] =>k < s.cnt∧match w1 with
  | true =>∃ xs,x = .box 0 0 xs∧xs.length = n∧((look s.sl r).linkStamp = k→∃ g cs old,(look s.sl r).rootP g el = some cs∧PtrTo (rget w (look s.sl r) (tm r)) cs (tm r) off el v∧getP cs off el n = some old∧∃ ys cs2,ys.length = n∧setP cs off el ys = some cs2)
  | false =>m.isIo = true∧∃ g a cs0 vs,x = .val g a cs0∧Packs a vs v∧vs.length = n∧cs0.length = n∧((look s.sl r).linkStamp = k→∃ cs old,(look s.sl r).root = some cs∧getP cs off el n = some old∧∀ j,j < n→pget w (rget w (look s.sl r) (tm r)) cs off el j = vs[j]?)
 | _ =>False

def Items (w:World) (Z:CA→Prop) (tm:Tmp→Value) (s:St):List S→List Value→List Mode→List Back→List CA→Prop
 | [],[],_,bs,F =>bs = []∧F = []
 | x :: xs,v :: vs,ms,bs,F =>∃ F1 F2 b1 b2,ItemOk w Z tm s x v F1∧BackOk w tm s x v (headM ms) b1∧Items w Z tm s xs vs ms.tail b2 F2∧bs = b1 ++ b2∧F = F1 ++ F2
 | [],_ :: _,_,_,_ =>False
 | _ :: _,[],_,_,_ =>False

section
variable {P:Program} {E:Env} {w:World} {Z:CA→Prop} {a:Act} {s:St} {fp:Tmp→List CA}

theorem ItemOk.later {tm:Tmp→Value} {s1:St} {x:S} {v:Value} {F:List CA} (hl:Later s s1) (h:ItemOk w Z tm s x v F):ItemOk w Z tm s1 x v F :=by
 cases x with
 | lnk r k off n b el win =>exact ⟨h.1,Nat.lt_of_lt_of_le h.2.1 hl.cnt,hl.lnk h.2.1 h.2.2⟩
 | val g b cs =>exact h
 | box g k cs =>exact h
 | rp cs =>exact h
 | fn f caps =>exact h
 | _ =>exact h

theorem BackOk.later {tm:Tmp→Value} {s1:St} {x:S} {v:Value} {m:Mode} {bs:List Back} (hl:Later s s1) (h:BackOk w tm s x v m bs):BackOk w tm s1 x v m bs :=by
 match bs,h with
 | [],h =>exact h
 | [.drop],h =>exact h
 | [.at r off el n true k],h =>
  obtain ⟨hk,xs,h1,h2,h3⟩ :=h
  refine ⟨Nat.lt_of_lt_of_le hk hl.cnt,xs,h1,h2,fun e =>?_⟩
  rcases hl.look r with e1 | e1
  ·rw [e1] at e ⊢
   exact h3 e
  ·omega
 | [.at r off el n false k],h =>
  obtain ⟨hk,hm,g,b,cs0,vs,h1,h2,h3,h4,h5⟩ :=h
  refine ⟨Nat.lt_of_lt_of_le hk hl.cnt,hm,g,b,cs0,vs,h1,h2,h3,h4,fun e =>?_⟩
  rcases hl.look r with e1 | e1
  ·rw [e1] at e ⊢
   exact h5 e
  ·omega
 | .drop :: _ :: _,h =>exact h.elim
 | .at .. :: _ :: _,h =>exact h.elim

theorem argOf_rep (hT:TOk P E) (h:Inv w Z (Act.tm a) s fp) {x:Operand} {t:TypeId} {m:Mode} {v:S} (hv:rd E t s x = some v) {q:St × S × List Back} (hq:argOf E t m s v = some q) :
  ∃ fp1 F,Inv w Z (Act.tm a) q.1 fp1∧Later s q.1∧ItemOk w Z (Act.tm a) q.1 q.2.1 (a.eval x) F∧BackOk w (Act.tm a) q.1 q.2.1 (a.eval x) m q.2.2∧F.Nodup∧(∀ c ∈ F,Mine w Z c)∧(∀ t,∀ c ∈ F,c ∉ fp1 t)∧(∀ t,∀ c ∈ fp1 t,c ∈ fp t)∧∀ c ∈ F,∃ t,c ∈ fp t :=by
 obtain ⟨rv,hlt⟩ :=rd_rep hT h hv
 have still:∀ {x':S} {bs:List Back},ItemOk w Z (Act.tm a) s x' (a.eval x) []→BackOk w (Act.tm a) s x' (a.eval x) m bs→q = (s,x',bs) →
   ∃ fp1 F,Inv w Z (Act.tm a) q.1 fp1∧Later s q.1∧ItemOk w Z (Act.tm a) q.1 q.2.1 (a.eval x) F∧BackOk w (Act.tm a) q.1 q.2.1 (a.eval x) m q.2.2∧F.Nodup∧(∀ c ∈ F,Mine w Z c)∧(∀ t,∀ c ∈ F,c ∉ fp1 t)∧(∀ t,∀ c ∈ fp1 t,c ∈ fp t)∧∀ c ∈ F,∃ t,c ∈ fp t :=by
  intro x' bs h1 h2 e
  subst e
  exact ⟨fp,[],h,Later.refl s,h1,h2,List.nodup_nil,by simp,by simp,fun _ _ h =>h,by simp⟩
 cases v with
 | val g b cs =>
  simp only [argOf,Option.some.injEq] at hq
  refine still (x' :=.val 0 b cs) rv ?_ hq.symm
  cases hm:m.isIo with
  | true =>exact ⟨hm,0,b,cs,rfl⟩
  | false =>exact ⟨rfl,hm⟩
 | rp cs =>
  rcases tE.1 (show tst m.isIo none _ = some q from hq) with ⟨_,hq⟩ | ⟨hm,hq⟩
  ·cases hq
  ·simp at hq
   exact still (x' :=.rp cs) (bs :=[]) rv ⟨rfl,hm⟩ hq.symm
 | fn f caps =>
  rcases tE.1 (show tst m.isIo none _ = some q from hq) with ⟨_,hq⟩ | ⟨hm,hq⟩
  ·cases hq
  ·simp at hq
   exact still (x' :=.fn f caps) (bs :=[]) rv ⟨rfl,hm⟩ hq.symm
 | lnk r k off n b el win =>
  cases m with
  | shr =>
   simp [argOf] at hq
   exact still (x' :=.lnk r k off n b el win) (bs :=[]) ⟨rfl,hlt,rv⟩ ⟨rfl,rfl⟩ hq.symm
  | mv =>
   obtain ⟨z,hz,hq⟩ :=bE.1 (show bnd (take s (.lnk r k off n b el win)) _ = some q from hq)
   simp at hq
   subst hq
   obtain ⟨s1,b1,ys⟩ :=z
   obtain ⟨fp1,vs,F,T⟩ :=take_rep h rv hz
   exact ⟨fp1,F,T.inv,Later.take hz,⟨vs,T.packs,T.len,T.rl⟩,⟨rfl,rfl⟩,T.nd,T.mine,T.apart,T.sub,T.from_⟩
  | io =>
   cases win with
   | some _ =>simp [argOf] at hq
   | none =>
    obtain ⟨z,hz,hq⟩ :=bE.1 (show bnd (take s (.lnk r k off n b el none)) _ = some q from hq)
    simp at hq
    subst hq
    obtain ⟨s1,b1,ys⟩ :=z
    obtain ⟨fp1,vs,F,T⟩ :=take_rep h rv hz
    -- the place,before and after
    obtain ⟨cs,hroot,hz2⟩ :=bE.1 (show bnd _ _ = some (s1,b1,ys) from hz)
    obtain ⟨xs,hg,hz3⟩ :=bE.1 hz2
    rcases tE.1 hz3 with ⟨hwh,hz4⟩ | ⟨_,hz4⟩
    case inr =>cases hz4
    obtain ⟨zs,hw,hz5⟩ :=bE.1 hz4
    obtain ⟨cs',hset,hz6⟩ :=bE.1 hz5
    simp at hz6
    obtain ⟨hs1,hb1,hys⟩ :=hz6
    simp [winC] at hw
    subst hw hb1 hys hs1
    have hxl:xs.length = n :=by
     obtain ⟨D,G,_,hG,_,_⟩ :=(h.rep r).root2 (rootL_root hroot).1
     exact (place_read hG hg).1
    obtain ⟨_,us,hul,hug,hum⟩ :=rv.2 cs hroot
    have huv:us = vs :=by
     have h1 :=T.packs.cells
     have h2 :=Packs.cells hum
     rw [← h1,← h2]
    subst huv
    refine ⟨fp1,F,T.inv,Later.take hz,⟨us,T.packs,T.len,T.rl⟩,⟨Nat.lt_succ_self _,rfl,0,b,xs,us,rfl,hum,hul,hxl,fun _ =>?_⟩,T.nd,T.mine,T.apart,T.sub,T.from_⟩
    have hrt :=(rootL_root hroot).1
    rw [look_upd,if_pos rfl]
    have hll:(leftRow xs).length = n :=by rw [left_length]; exact hxl
    refine ⟨cs',_,with_root hrt,getP_setP hg hset hll,fun j hj =>?_⟩
    rw [rget_with,pget_setP hg hset hll]
    exact hug j hj
 | ptr r g off el =>
  obtain ⟨i,hi,hq⟩ :=bE.1 (show bnd (E.T t) _ = some q from hq)
  obtain ⟨n,hn,hq⟩ :=bE.1 hq
  obtain ⟨cs,hroot,hq⟩ :=bE.1 hq
  obtain ⟨xs,hg,hq⟩ :=bE.1 hq
  obtain ⟨cs',hset,hq⟩ :=bE.1 hq
  simp at hq
  subst hq
  have hptr :=rv.2 cs (rootP_R hroot)
  have hrt :=rootP_root hroot
  have hxl:xs.length = n :=by
   obtain ⟨D,G,_,hG,_,_⟩ :=(h.rep r).root2 hrt
   exact (place_read hG hg).1
  have hhl:(holesOf xs).length = n :=by rw [holes_length]; exact hxl
  obtain ⟨fp1,Fx,hinv,hx,hnd,hsub,hap,hfp,_⟩ :=h.clear hrt hg hset hhl (fun h =>h.holes)
  obtain ⟨b,p,hv,_,_,_,_,_,hpg,_⟩ :=place_write h hroot hptr hg hset hhl
  refine ⟨fp1,Fx,hinv,Later.upd (by rw [hrt]; rfl),⟨b,p,hv,?_⟩,⟨Nat.lt_succ_self _,xs,rfl,hxl,fun _ =>?_⟩,hnd,fun c hc =>h.mine r c (hsub c hc),hap,hfp,fun c hc =>⟨r,hsub c hc⟩⟩
  ·refine RL.same (w' :=w) (fun _ h =>h) xs hx (fun _ _ =>rfl) (fun k hk =>(hpg k (by omega)).symm)
  ·rw [look_upd,if_pos rfl]
   obtain ⟨g',hg'⟩ :=with_rootP' (c :=s.cnt) (cs :=cs') hroot
   exact ⟨g',cs',_,hg',by rw [rget_with]; exact hptr.setP hg hset hhl,getP_setP hg hset hhl,_,(setP_again hg hset hhl).choose,hhl,(setP_again hg hset hhl).choose_spec⟩
 | _ =>simp [argOf] at hq
end
end Go.Sx

/- All arguments; what is borrowed; what is frozen. -/
namespace Go.Sx

mutual
theorem RC.unique {w:World} {Z Z':CA→Prop}:∀ (x:C) {v:Value} {F F':List CA},RC w Z x v F→RC w Z' x v F'→F = F'
 | .p _,_,_,_,h,h' =>by rw [h.2.2,h'.2.2]
 | .hole,_,_,_,h,h' =>by rw [h.2,h'.2]
 | .mp f it ka va nk rows,v,F,F',h,h' =>by
  obtain ⟨b,l,hm,_,h⟩ :=h
  obtain ⟨b',l',hm',_,h'⟩ :=h'
  have hb:b = b' :=hm.block hm'
  subst hb
  rcases h with ⟨h1,h2,_⟩ | ⟨h1,h2⟩ <;> rcases h' with ⟨h1',h2',_⟩ | ⟨h1',h2'⟩
  ·rw [h2,h2']
  ·exact absurd h1 h1'
  ·exact absurd h1' h1
  ·rw [h2,h2']
 | .sl f sz rows,v,F,F',h,h' =>by
  obtain ⟨ad,cap,hv,_,h⟩ :=h
  obtain ⟨ad',cap',hv',_,h'⟩ :=h'
  rw [hv] at hv'
  simp at hv'
  obtain ⟨rfl,rfl⟩ :=hv'
  rcases h with ⟨h1,h2,_⟩ | ⟨h1,h⟩ <;> rcases h' with ⟨h1',h2',_⟩ | ⟨h1',h'⟩
  ·rw [h2,h2']
  ·exact absurd h1 h1'
  ·exact absurd h1' h1
  ·rcases h with ⟨e,_,_,hF⟩ | ⟨b,o,G,e,hr,hF⟩ <;> rcases h' with ⟨e',_,_,hF'⟩ | ⟨b',o',G',e',hr',hF'⟩
   ·rw [hF,hF']
   ·rw [e] at e'; cases e'
   ·rw [e] at e'; cases e'
   ·rw [e] at e'
    simp at e'
    obtain ⟨rfl,rfl⟩ :=e'
    rw [hF,hF',RRs.unique rows hr.1 hr'.1]
theorem RL.unique {w:World} {Z Z':CA→Prop}:∀ (cs:List C) {get:Nat→Option Value} {F F':List CA},RL w Z cs get F→RL w Z' cs get F'→F = F'
 | [],_,_,_,h,h' =>by rw [show _ = [] from h,show _ = [] from h']
 | c :: cs,get,F,F',h,h' =>by
  obtain ⟨v,F1,F2,h0,h1,h2,hF⟩ :=h
  obtain ⟨v',F1',F2',h0',h1',h2',hF'⟩ :=h'
  rw [h0] at h0'
  simp at h0'
  subst h0'
  rw [hF,hF',RC.unique c h1 h1',RL.unique cs h2 h2']
theorem RRs.unique {w:World} {Z Z':CA→Prop}:∀ (rows:List (List C)) {sz b o:Nat} {F F':List CA},RRs w Z rows sz b o F→RRs w Z' rows sz b o F'→F = F'
 | [],_,_,_,_,_,h,h' =>by rw [show _ = [] from h,show _ = [] from h']
 | r :: rs,sz,b,o,F,F',h,h' =>by
  obtain ⟨_,F1,F2,h1,h2,hF⟩ :=h
  obtain ⟨_,F1',F2',h1',h2',hF'⟩ :=h'
  rw [hF,hF',RL.unique r h1 h1',RRs.unique rs h2 h2']
end

section
variable {P:Program} {E:Env} {w:World} {Z:CA→Prop} {a:Act}

theorem Items.later {tm:Tmp→Value} {s s1:St} (hl:Later s s1):∀ {xs:List S} {vs:List Value} {ms:List Mode} {bs:List Back} {F:List CA},Items w Z tm s xs vs ms bs F→Items w Z tm s1 xs vs ms bs F
 | [],[],_,_,_,h =>h
 | x :: xs,v :: vs,ms,bs,F,h =>by
  obtain ⟨F1,F2,b1,b2,h1,h2,h3,h4,h5⟩ :=h
  exact ⟨F1,F2,b1,b2,h1.later hl,h2.later hl,Items.later hl h3,h4,h5⟩
 | [],_ :: _,_,_,_,h =>h.elim
 | _ :: _,[],_,_,_,h =>h.elim

theorem argsOf_rep (hT:TOk P E):∀ {xs:List Operand} {tys:List TypeId} {ms:List Mode} {s:St} {fp:Tmp→List CA} {A:Args},Inv w Z (Act.tm a) s fp→argsOf E xs tys ms s = some A →
  ∃ fp1 F,Inv w Z (Act.tm a) A.s fp1∧Later s A.s∧Items w Z (Act.tm a) A.s A.xs (xs.map a.eval) ms A.backs F∧F.Nodup∧(∀ c ∈ F,Mine w Z c)∧(∀ t,∀ c ∈ F,c ∉ fp1 t)∧(∀ t,∀ c ∈ fp1 t,c ∈ fp t)∧∀ c ∈ F,∃ t,c ∈ fp t
 | [],[],ms,s,fp,A,h,he =>by
  simp [argsOf] at he
  subst he
  exact ⟨fp,[],h,Later.refl s,⟨rfl,rfl⟩,List.nodup_nil,by simp,by simp,fun _ _ h =>h,by simp⟩
 | x :: xs,t :: tys,ms,s,fp,A,h,he =>by
  obtain ⟨v,hv,he1⟩ :=bE.1 (show bnd (rd E t s x) _ = some A from he)
  obtain ⟨q,hq,he2⟩ :=bE.1 he1
  obtain ⟨A',hA,he3⟩ :=bE.1 he2
  simp at he3
  subst he3
  obtain ⟨fp1,F1,i1,l1,o1,b1,n1,m1,a1,s1,f1⟩ :=argOf_rep hT h hv hq
  obtain ⟨fp2,F2,i2,l2,o2,n2,m2,a2,s2,f2⟩ :=argsOf_rep hT i1 hA
  refine ⟨fp2,F1 ++ F2,i2,l1.trans l2,⟨F1,F2,_,_,o1.later l2,b1.later l2,o2,rfl,rfl⟩,?_,?_,?_,fun t c hc =>s1 t c (s2 t c hc),?_⟩
  ·rw [List.nodup_append]
   refine ⟨n1,n2,fun c hc d hd e =>?_⟩
   subst e
   obtain ⟨t,ht⟩ :=f2 c hd
   exact a1 t c hc ht
  ·exact fun c hc =>(List.mem_append.1 hc).elim (m1 c) (m2 c)
  ·exact fun t c hc hm =>(List.mem_append.1 hc).elim (fun hc =>a1 t c hc (s2 t c hm)) (fun hc =>a2 t c hc hm)
  ·intro c hc
   rcases List.mem_append.1 hc with hc | hc
   ·exact f1 c hc
   ·obtain ⟨t,ht⟩ :=f2 c hc
    exact ⟨t,s1 t c ht⟩
 | [],_ :: _,_,_,_,_,_,he =>by simp [argsOf] at he
 | _ :: _,[],_,_,_,_,_,he =>by simp [argsOf] at he

/-! ### Borrowing -/

def BorOk (w:World) (Z:CA→Prop) (tm:Tmp→Value) (s:St) (b:Nat × Nat × El × Nat) (Fb:List CA):Prop :=
 ∃ cs xs Fx,(look s.sl b.1).root = some cs∧getP cs b.2.1 b.2.2.1 b.2.2.2 = some xs∧xs.length = b.2.2.2∧RL w Z xs (pget w (rget w (look s.sl b.1) (tm b.1)) cs b.2.1 b.2.2.1) Fx∧∀ c ∈ Fb,c ∈ Fx

theorem cells_bor {tm:Tmp→Value} {s:St} {fp:Tmp→List CA} (h:Inv w Z tm s fp) {r k off n:Nat} {b:Bool} {el win:El} {v:Value} {a:Bool} {ys:List C} (hu:Rep w Z s.sl tm v [] (.lnk r k off n b el win))
  (hc:cells s (.lnk r k off n b el win) = some (a,ys)):∃ vs F,Packs a vs v∧vs.length = ys.length∧RL w Z ys (fun i =>vs[i]?) F∧BorOk w Z tm s (r,off,el,n) F∧∀ c ∈ F,c ∈ fp r :=by
 obtain ⟨cs,hroot,hc⟩ :=bE.1 (show bnd _ _ = some (a,ys) from hc)
 obtain ⟨xs,hg,hc⟩ :=bE.1 hc
 obtain ⟨zs,hw,hc⟩ :=bE.1 hc
 simp at hc
 obtain ⟨rfl,rfl⟩ :=hc
 obtain ⟨_,hlnk⟩ :=hu
 obtain ⟨_,vs,hn,hj,hm⟩ :=hlnk cs hroot
 obtain ⟨D,G,hF,hG,_,_⟩ :=(h.rep r).root2 (rootL_root hroot).1
 obtain ⟨hxl,A,Fx,B,hGe,hx⟩ :=place_read hG hg
 have hx':RL w Z xs (fun i =>vs[i]?) Fx :=RL.same (w' :=w) (fun _ h =>h) xs hx (fun _ _ =>rfl) (fun i hi =>(hj i (by omega)).symm)
 obtain ⟨us,F',h1,h2,h3,h4⟩ :=winC_some (a :=b) (v :=v) hx' (by omega) hw (by
  cases win with
  | none =>exact hm
  | some q =>
   obtain ⟨lo,k⟩ :=q
   obtain ⟨ha,u,f,sz,rows,e1,e2,e3,e4⟩ :=hm
   refine ⟨ha,u,f,sz,rows,e1,?_,e3,e4⟩
   have:n = 1 :=by rw [← hn,e1]; rfl
   subst this
   rw [hg] at e2
   simpa using e2)
 exact ⟨us,F',h1,h2,h3,⟨cs,xs,Fx,(rootL_root hroot).1,hg,hxl,hx,fun c hc =>h4.subset hc⟩,fun c hc =>by rw [hF,hGe]; exact List.mem_append_right _ (List.mem_append_left _ (List.mem_append_right _ (h4.subset hc)))⟩

def roots:List Back→List Tmp
 | [] =>[]
 | .drop :: l =>roots l
 | .at r _ _ _ _ _ :: l =>r :: roots l
theorem roots_append:∀ (x y:List Back),roots (x ++ y) = roots x ++ roots y
 | [],_ =>rfl
 | .drop :: x,y =>roots_append x y
 | .at r _ _ _ _ _ :: x,y =>by simp [roots,roots_append x y]
theorem notIn_spec {r:Nat}:∀ {l:List Back},notIn r l = true→r ∉ roots l
 | [],_ =>by simp [roots]
 | .drop :: l,h =>notIn_spec (l :=l) h
 | .at q _ _ _ _ _ :: l,h =>by
  simp [notIn] at h
  have h1:q ≠ r :=fun e =>by subst e; exact absurd h.1 (by simp)
  simp only [roots,List.mem_cons,not_or]
  exact ⟨fun e =>h1 e.symm,notIn_spec h.2⟩
theorem distinctB_spec:∀ {l:List Back},distinctB l = true→(roots l).Nodup
 | [],_ =>List.nodup_nil
 | .drop :: l,h =>distinctB_spec (l :=l) h
 | .at q _ _ _ _ _ :: l,h =>by
  simp [distinctB] at h
  exact List.nodup_cons.2 ⟨notIn_spec h.1,distinctB_spec h.2⟩
theorem noClash_spec:∀ {l:List (Nat × Nat × El × Nat)} {bs:List Back},noClash l bs = true→∀ b ∈ l,b.1 ∉ roots bs
 | [],_,_ =>by simp
 | b :: l,bs,h =>by
  simp [noClash] at h
  intro c hc
  rcases List.mem_cons.1 hc with rfl | hc
  ·exact notIn_spec h.1
  ·exact noClash_spec h.2 c hc
theorem freshB_spec {s:St}:∀ {l:List Back},freshB s l = true→∀ r off el n w k,Back.at r off el n w k ∈ l→(look s.sl r).linkStamp = k
 | [],_,_,_,_,_,_,_,hm =>by cases hm
 | .drop :: l,h,r,off,el,n,w,k,hm =>by
  rcases List.mem_cons.1 hm with hm | hm
  ·cases hm
  ·exact freshB_spec (l :=l) h r off el n w k hm
 | .at .. :: l,h,r,off,el,n,w,k,hm =>by
  simp [freshB] at h
  rcases List.mem_cons.1 hm with hm | hm
  ·cases hm
   exact h.1
  ·exact freshB_spec h.2 r off el n w k hm

theorem ARep.mono {Z':CA→Prop} (hZ:∀ c,Z c→Z' c) {x:S} {v:Value} {F:List CA} (h:ARep w Z x v F):ARep w Z' x v F :=by
 cases x with
 | val g b cs =>
  obtain ⟨vs,hp,hl,hr⟩ :=h
  exact ⟨vs,hp,hl,RL.same (w' :=w) hZ cs hr (fun _ _ =>rfl) (fun _ _ =>rfl)⟩
 | box g k cs =>
  obtain ⟨b,o,G,hv,hr,hF⟩ :=h
  exact ⟨b,o,G,hv,RL.same (w' :=w) hZ cs hr (fun _ _ =>rfl) (fun _ _ =>rfl),hF⟩
 | rp cs =>
  obtain ⟨hF,b,o,hv,hr,hz⟩ :=h
  exact ⟨hF,b,o,hv,RL.same (w' :=w) hZ cs hr (fun _ _ =>rfl) (fun _ _ =>rfl),fun c hc =>hZ c (hz c hc)⟩
 | fn f caps =>
  obtain ⟨hF,us,hv,hr⟩ :=h
  exact ⟨hF,us,hv,hr.same hZ (fun _ _ =>rfl)⟩
 | _ =>exact h
theorem ARs.mono {Z':CA→Prop} (hZ:∀ c,Z c→Z' c):∀ {xs:List S} {vs:List Value} {F:List CA},ARs w Z xs vs F→ARs w Z' xs vs F
 | [],[],_,h =>h
 | _ :: _,_ :: _,_,h =>by
  obtain ⟨F1,F2,h1,h2,hF⟩ :=h
  exact ⟨F1,F2,h1.mono hZ,ARs.mono hZ h2,hF⟩
 | [],_ :: _,_,h =>h.elim
 | _ :: _,[],_,h =>h.elim

def orIn (Z:CA→Prop) (F:List CA):CA→Prop :=fun c =>Z c∨c ∈ F

def BorsOk (w:World) (Z:CA→Prop) (tm:Tmp→Value) (s:St) (fp:Tmp→List CA):List (Nat × Nat × El × Nat)→List CA→Prop
 | [],F =>F = []
 | b :: l,F =>∃ F1 F2,BorOk w Z tm s b F1∧(∀ c ∈ F1,c ∈ fp b.1)∧BorsOk w Z tm s fp l F2∧F = F1 ++ F2

def WB (w:World) (tm:Tmp→Value) (s:St) (bs:List Back) (r b p n:Nat):Prop :=
 ∃ off el k g cs old ys cs2,Back.at r off el n true k ∈ bs∧(look s.sl r).rootP g el = some cs∧PtrTo (rget w (look s.sl r) (tm r)) cs (tm r) off el (.pointer (some ⟨b,p,none⟩))∧getP cs off el n = some old∧ys.length = n∧setP cs off el ys = some cs2

theorem mem_roots {r off el n w1 k}:∀ {bs:List Back},Back.at r off el n w1 k ∈ bs→r ∈ roots bs
 | .drop :: l,h =>by
  rcases List.mem_cons.1 h with h | h
  ·cases h
  ·exact mem_roots (bs :=l) h
 | .at q _ _ _ _ _ :: l,h =>by
  rcases List.mem_cons.1 h with h | h
  ·cases h; simp [roots]
  ·exact List.mem_cons_of_mem _ (mem_roots h)

theorem WB.fp {tm:Tmp→Value} {s:St} {fp:Tmp→List CA} (h:Inv w Z tm s fp) {bs:List Back} {r b p n:Nat} (hw:WB w tm s bs r b p n):r ∈ roots bs∧∀ c ∈ span (b,p) n,c ∈ fp r :=by
 obtain ⟨off,el,k,g,cs,old,ys,cs2,hm,hroot,hptr,hg,hl,hset⟩ :=hw
 refine ⟨mem_roots hm,?_⟩
 obtain ⟨b',p',hv',hsp,_⟩ :=place_write h hroot hptr hg hset hl
 simp at hv'
 obtain ⟨rfl,rfl⟩ :=hv'
 exact hsp
theorem WB.mono {tm:Tmp→Value} {s:St} {bs bs':List Back} {r b p n:Nat} (hw:WB w tm s bs r b p n) (h:∀ x ∈ bs,x ∈ bs'):WB w tm s bs' r b p n :=by
 obtain ⟨off,el,k,g,cs,old,ys,cs2,hm,rest⟩ :=hw
 exact ⟨off,el,k,g,cs,old,ys,cs2,h _ hm,rest⟩

theorem borrow_rep {tm:Tmp→Value} {s:St} {fp:Tmp→List CA} (h:Inv w Z tm s fp):∀ {xs:List S} {vs:List Value} {ms:List Mode} {bs:List Back} {F:List CA} {B:List S × List (Nat × Nat × El × Nat)},
  Items w Z tm s xs vs ms bs F→F.Nodup→(∀ t,∀ c ∈ F,c ∉ fp t)→borrowAll s xs = some B→(∀ r off el n w k,Back.at r off el n w k ∈ bs→(look s.sl r).linkStamp = k)→(roots bs).Nodup →
  ∃ Fb K,BorsOk w Z tm s fp B.2 Fb∧ARs w (orIn Z Fb) B.1 vs K∧K.Nodup∧∀ c ∈ K,c ∈ F∨∃ r b p n,WB w tm s bs r b p n∧c ∈ span (b,p) n
 | [],[],ms,bs,F,B,hI,_,_,hB,_,_ =>by
  simp [borrowAll] at hB
  subst hB
  exact ⟨[],[],rfl,rfl,List.nodup_nil,by simp⟩
 | x :: xs,v :: vs,ms,bs,F,B,hI,hnd,hap,hB,hst,hrt =>by
  obtain ⟨F1,F2,b1,b2,h1,h2,h3,h4,h5⟩ :=hI
  subst h4 h5
  rw [roots_append] at hrt
  rw [List.nodup_append] at hnd hrt
  obtain ⟨B',hB',hB⟩ :=bE.1 (show bnd (borrowAll s xs) _ = some B from hB)
  obtain ⟨Fb,K,k1,k2,k3,k4⟩ :=borrow_rep h h3 hnd.2.1 (fun t c hc =>hap t c (List.mem_append_right _ hc)) hB' (fun r off el n w k hm =>hst r off el n w k (List.mem_append_right _ hm)) hrt.2.1
  have kfp:∀ c ∈ K,c ∈ F2∨∃ r ∈ roots b2,c ∈ fp r :=fun c hc =>(k4 c hc).imp id (fun ⟨r,b,p,n,hw,hc⟩ =>⟨r,(hw.fp h).1,(hw.fp h).2 c hc⟩)
  have kfrom:∀ c ∈ K,c ∈ F1 ++ F2∨∃ r b p n,WB w tm s (b1 ++ b2) r b p n∧c ∈ span (b,p) n :=fun c hc =>(k4 c hc).imp (fun h =>List.mem_append_right _ h) (fun ⟨r,b,p,n,hw,hc⟩ =>⟨r,b,p,n,hw.mono (fun x hx =>List.mem_append_right _ hx),hc⟩)
  -- what is ours and is no box
  have own:∀ {x':S},ARep w (orIn Z Fb) x' v F1→B = (x' :: B'.1,B'.2)→∃ Fb K,BorsOk w Z tm s fp B.2 Fb∧ARs w (orIn Z Fb) B.1 (v :: vs) K∧K.Nodup∧∀ c ∈ K,c ∈ F1 ++ F2∨∃ r b p n,WB w tm s (b1 ++ b2) r b p n∧c ∈ span (b,p) n :=by
   intro x' hx e
   subst e
   refine ⟨Fb,F1 ++ K,k1,⟨F1,K,hx,k2,rfl⟩,?_,fun c hc =>(List.mem_append.1 hc).elim (fun h =>.inl (List.mem_append_left _ h)) (kfrom c)⟩
   rw [List.nodup_append]
   refine ⟨hnd.1,k3,fun c hc d hd e =>?_⟩
   subst e
   rcases kfp c hd with h | ⟨r,_,hr⟩
   ·exact hnd.2.2 c hc c h rfl
   ·exact hap r c (List.mem_append_left _ hc) hr
  cases x with
  | val g b cs =>
   simp at hB
   refine own (x' :=.val g b cs) ?_ hB.symm
   exact ARep.mono (fun c h =>.inl h) (show ARep w Z (.val g b cs) v F1 from h1)
  | rp cs =>
   simp at hB
   refine own (x' :=.rp cs) ?_ hB.symm
   exact ARep.mono (fun c h =>.inl h) (show ARep w Z (.rp cs) v F1 from h1)
  | fn f caps =>
   simp at hB
   refine own (x' :=.fn f caps) ?_ hB.symm
   exact ARep.mono (fun c h =>.inl h) (show ARep w Z (.fn f caps) v F1 from h1)
  | lnk r k off n b el win =>
   obtain ⟨z,hz,hB⟩ :=bE.1 hB
   rcases tE.1 hB with ⟨hwh,hB⟩ | ⟨_,hB⟩
   case inr =>cases hB
   simp at hB
   subst hB
   obtain ⟨z1,z2⟩ :=z
   obtain ⟨ws,Fc,c1,c2,c3,c4,c5⟩ :=cells_bor h h1.2.2 hz
   refine ⟨Fc ++ Fb,K,⟨Fc,Fb,c4,c5,k1,rfl⟩,⟨[],K,⟨ws,c1,by rw [borRow_length]; exact c2,RL.bor (Z' :=orIn Z (Fc ++ Fb)) (fun c h =>.inl h) z2 c3 (fun c hc =>.inr (List.mem_append_left _ hc))⟩,ARs.mono (fun c h =>h.imp id (fun h =>List.mem_append_right _ h)) k2,rfl⟩,k3,kfrom⟩
  | box g g' cs =>
   simp at hB
   subst hB
   obtain ⟨b,p,hv,hr⟩ :=h1
   -- its back
   match b1,h2 with
   | [],h2 =>simp [BackOk,S.isBox] at h2
   | [.drop],h2 =>obtain ⟨_,_,_,_,e⟩ :=h2; cases e
   | [.at r off el n false k],h2 =>obtain ⟨_,_,_,_,_,_,e,_⟩ :=h2; cases e
   | [.at r off el n true k],h2 =>
    obtain ⟨_,xs',e,hxl,hcond⟩ :=h2
    cases e
    obtain ⟨g,cs',old,hroot,hptr,hg,ys,cs2,hys,hset⟩ :=hcond (hst r off el n true k (by simp))
    have hspan:∀ c ∈ span (b,p) n,c ∈ fp r :=by
     obtain ⟨b',p',hv',hsp,_⟩ :=place_write h hroot hptr hg hset hys
     rw [hv] at hv'
     simp at hv'
     obtain ⟨rfl,rfl⟩ :=hv'
     exact hsp
    refine ⟨Fb,(span (b,p) cs.length ++ F1) ++ K,k1,⟨span (b,p) cs.length ++ F1,K,⟨b,p,F1,hv,RL.same (w' :=w) (fun c h =>.inl h) cs hr (fun _ _ =>rfl) (fun _ _ =>rfl),rfl⟩,k2,rfl⟩,?_,?_⟩
    ·rw [hxl,List.nodup_append,List.nodup_append]
     refine ⟨⟨span_nodup _ _,hnd.1,fun c hc d hd e =>?_⟩,k3,fun c hc d hd e =>?_⟩
     ·subst e
      exact hap r c (List.mem_append_left _ hd) (hspan c hc)
     ·subst e
      rcases List.mem_append.1 hc with hc | hc
      ·rcases kfp c hd with h8 | ⟨r',hr',h8⟩
       ·exact hap r c (List.mem_append_right _ h8) (hspan c hc)
       ·by_cases hrr:r = r'
        ·exact hrt.2.2 r (by simp [roots]) r' hr' hrr
        ·exact h.disj r r' hrr c (hspan c hc) h8
      ·rcases kfp c hd with h8 | ⟨r',hr',h8⟩
       ·exact hnd.2.2 c hc c h8 rfl
       ·exact hap r' c (List.mem_append_left _ hc) h8
    ·intro c hc
     rcases List.mem_append.1 hc with hc | hc
     ·rcases List.mem_append.1 hc with hc | hc
      ·exact .inr ⟨r,b,p,n,⟨off,el,k,g,cs',old,ys,cs2,by simp,hroot,by rw [← hv]; exact hptr,hg,hys,hset⟩,by rw [← hxl]; exact hc⟩
      ·exact .inl (List.mem_append_left _ hc)
     ·exact kfrom c hc
   | .drop :: _ :: _,h2 =>exact h2.elim
   | .at .. :: _ :: _,h2 =>exact h2.elim
  | ptr _ _ _ _ =>exact h1.elim
  | fz _ _ =>exact h1.elim
  | tup _ =>exact h1.elim
  | dead =>exact h1.elim
 | [],_ :: _,_,_,_,_,hI,_,_,_,_,_ =>hI.elim
 | _ :: _,[],_,_,_,_,hI,_,_,_,_,_ =>hI.elim
end
end Go.Sx

/- Freezing; what a call must do. -/
namespace Go.Sx
section
variable {P:Program} {E:Env} {w:World} {Z:CA→Prop} {a:Act}

theorem orIn_orIn (Z:CA→Prop) (A B:List CA):orIn (orIn Z A) B = orIn Z (A ++ B) :=by
 funext c
 simp [orIn,or_assoc]
theorem orIn_nil (Z:CA→Prop):orIn Z [] = Z :=by
 funext c
 simp [orIn]

theorem Inv.freeze {tm:Tmp→Value} {s:St} {fp:Tmp→List CA} (h:Inv w Z tm s fp) {r:Tmp} {cs xs cs':List C} {off n:Nat} {el:El} (hroot:(look s.sl r).root = some cs) (hg:getP cs off el n = some xs) (hset:setP cs off el (borRow xs) = some cs') (hxl:xs.length = n) :
  ∃ fp' Fx,RL w Z xs (pget w (rget w (look s.sl r) (tm r)) cs off el) Fx∧Inv w (orIn Z Fx) tm (Sx.upd r cs' s) fp'∧(∀ c ∈ Fx,c ∈ fp r)∧(∀ t,∀ c ∈ fp' t,c ∈ fp t)∧(∀ t,t ≠ r→fp' t = fp t) :=by
 obtain ⟨D,A,Fx,B,hF,hx,hnew⟩ :=place_turn h hroot hg hset (by rw [borRow_length]; exact hxl)
 have hnd :=h.nd r
 rw [hF] at hnd
 have hp:(D ++ (A ++ Fx ++ B)).Perm ((D ++ (A ++ [] ++ B)) ++ Fx) :=by
  refine List.perm_iff_count.2 fun c =>?_
  simp only [List.count_append,List.count_nil]
  omega
 have hnd2 :=hp.nodup_iff.1 hnd
 rw [List.nodup_append] at hnd2
 have hmem:∀ c,c ∈ fp r↔(c ∈ D ++ (A ++ [] ++ B)∨c ∈ Fx) :=fun c =>by rw [hF,hp.mem_iff,List.mem_append]
 have hxr:∀ c ∈ Fx,c ∈ fp r :=fun c hc =>(hmem c).2 (.inr hc)
 have hrep :=hnew w (orIn Z Fx) [] (fun c h =>.inl h) (fun _ _ =>rfl) (RL.bor (fun c h =>.inl h) xs hx (fun c hc =>.inr hc)) s.cnt
 have hmine:∀ {t:Tmp} {c:CA},c ∈ fp t→c ∉ Fx→Mine w (orIn Z Fx) c :=fun {t c} hc hn =>⟨(h.mine t c hc).1,(h.mine t c hc).2.1,fun hz =>hz.elim (h.mine t c hc).2.2 hn⟩
 have hinv :=h.upd (w' :=w) (Z' :=orIn Z Fx) (r :=r) (cs' :=cs') (F' :=D ++ (A ++ [] ++ B)) (by rw [hroot]; rfl) (fun c h =>.inl h) (fun _ _ _ _ =>rfl) (fun l tm0 =>hrep l tm0) hnd2.1
  (fun c hc =>hmine ((hmem c).2 (.inl hc)) (fun hx =>hnd2.2.2 c hc c hx rfl))
  (fun t ht c hc =>h.disj r t (fun e =>ht e.symm) c ((hmem c).2 (.inl hc))) (fun t ht c hc =>hmine hc (fun hx =>h.disj r t (fun e =>ht e.symm) c (hxr c hx) hc)) (fun c hc =>hc.elim (h.zok c) (fun hc =>(h.mine r c (hxr c hc)).1))
 refine ⟨_,Fx,hx,hinv,hxr,fun t c hc =>?_,fun t ht =>if_neg ht⟩
 by_cases ht:t = r
 ·simp only [if_pos ht] at hc
  rw [ht]
  exact (hmem c).2 (.inl hc)
 ·simp only [if_neg ht] at hc
  exact hc

theorem notInR_spec {r:Nat}:∀ {l:List (Nat × Nat × El × Nat)},notInR r l = true→∀ b ∈ l,b.1 ≠ r
 | [],_ =>by simp
 | b :: l,h =>by
  simp [notInR] at h
  intro c hc
  rcases List.mem_cons.1 hc with rfl | hc
  ·exact fun e =>by rw [e] at h; exact absurd h.1 (by simp)
  ·exact notInR_spec h.2 c hc

theorem BorsOk.later {tm:Tmp→Value} {s s1:St} {fp fp1:Tmp→List CA} {Z':CA→Prop} (hZ:∀ c,Z c→Z' c):∀ {l:List (Nat × Nat × El × Nat)} {F:List CA},(∀ b ∈ l,look s1.sl b.1 = look s.sl b.1∧fp1 b.1 = fp b.1)→BorsOk w Z tm s fp l F→BorsOk w Z' tm s1 fp1 l F
 | [],_,_,h =>h
 | b :: l,F,hl,h =>by
  obtain ⟨F1,F2,⟨cs,xs,Fx,h1,h2,h3,h4,h5⟩,h6,h7,h8⟩ :=h
  obtain ⟨e1,e2⟩ :=hl b (by simp)
  refine ⟨F1,F2,⟨cs,xs,Fx,by rw [e1]; exact h1,h2,h3,by rw [e1]; exact RL.same (w' :=w) hZ xs h4 (fun _ _ =>rfl) (fun _ _ =>rfl),h5⟩,by rw [e2]; exact h6,BorsOk.later hZ (fun b hb =>hl b (List.mem_cons_of_mem _ hb)) h7,h8⟩

theorem freezeAll_rep {tm:Tmp→Value}:∀ {l:List (Nat × Nat × El × Nat)} {Z:CA→Prop} {s sf:St} {fp:Tmp→List CA} {Fb:List CA},Inv w Z tm s fp→BorsOk w Z tm s fp l Fb→distinctR l = true→freezeAll l s = some sf →
  ∃ fpf Fz,Inv w (orIn Z Fz) tm sf fpf∧(∀ c ∈ Fb,c ∈ Fz)∧(∀ c ∈ Fz,∃ b ∈ l,c ∈ fp b.1)∧Later s sf∧(∀ t,∀ c ∈ fpf t,c ∈ fp t)∧∀ t,(∀ b ∈ l,b.1 ≠ t)→look sf.sl t = look s.sl t∧fpf t = fp t
 | [],Z,s,sf,fp,Fb,h,hb,_,he =>by
  simp [freezeAll] at he
  subst he
  have:Fb = [] :=hb
  subst this
  exact ⟨fp,[],by rw [orIn_nil]; exact h,by simp,by simp,Later.refl s,fun _ _ h =>h,fun _ _ =>⟨rfl,rfl⟩⟩
 | (r,off,el,n) :: l,Z,s,sf,fp,Fb,h,hb,hd,he =>by
  obtain ⟨F1,F2,⟨cs1,xs1,Fx1,b1,b2,b3,b4,b5⟩,b6,b7,b8⟩ :=hb
  simp [distinctR] at hd
  obtain ⟨cs,hroot,he1⟩ :=bE.1 (show bnd (look s.sl r).root _ = some sf from he)
  obtain ⟨xs,hg,he2⟩ :=bE.1 he1
  rcases tE.1 he2 with ⟨hwh,he3⟩ | ⟨_,he3⟩
  case inr =>cases he3
  obtain ⟨cs',hset,he4⟩ :=bE.1 he3
  simp only at b1 b2 b3 b4 b6
  rw [hroot] at b1
  simp at b1
  subst b1
  rw [hg] at b2
  simp at b2
  subst b2
  obtain ⟨fp1,Fx,hx,i1,x1,s1,o1⟩ :=h.freeze hroot hg hset b3
  have:Fx1 = Fx :=RL.unique xs b4 hx
  subst this
  have hne :=notInR_spec hd.1
  have hb' :=BorsOk.later (Z' :=orIn Z Fx1) (s1 :=upd r cs' s) (fp1 :=fp1) (fun c h =>.inl h) (fun b hb =>⟨by rw [look_upd,if_neg (fun e =>hne b hb e.symm)],o1 b.1 (hne b hb)⟩) b7
  obtain ⟨fpf,Fz,i2,z1,z2,l2,s2,o2⟩ :=freezeAll_rep i1 hb' hd.2 he4
  rw [orIn_orIn] at i2
  refine ⟨fpf,Fx1 ++ Fz,i2,?_,?_,(Later.upd (by rw [hroot]; rfl)).trans l2,fun t c hc =>s1 t c (s2 t c hc),fun t ht =>?_⟩
  ·intro c hc
   rw [b8] at hc
   rcases List.mem_append.1 hc with hc | hc
   ·exact List.mem_append_left _ (b5 c hc)
   ·exact List.mem_append_right _ (z1 c hc)
  ·intro c hc
   rcases List.mem_append.1 hc with hc | hc
   ·exact ⟨(r,off,el,n),by simp,x1 c hc⟩
   ·obtain ⟨b,hb,hc⟩ :=z2 c hc
    exact ⟨b,List.mem_cons_of_mem _ hb,s1 b.1 c hc⟩
  ·have h1:r ≠ t :=ht (r,off,el,n) (by simp)
   obtain ⟨e1,e2⟩ :=o2 t (fun b hb =>ht b (List.mem_cons_of_mem _ hb))
   rw [e1,e2,look_upd,if_neg h1]
   exact ⟨rfl,o1 t (fun e =>h1 e.symm)⟩

/-! ### What a callee does -/

def OutRep (w:World) (Z:CA→Prop) (x:S) (v:Value) (o:List C) (F G:List CA):Prop :=
 match x with
 | .box _ _ cs =>∃ b p,v = .pointer (some ⟨b,p,none⟩)∧o.length = cs.length∧RL w Z o (fun j =>cell w (b,p + j)) G∧F = span (b,p) o.length
 | .val _ a _ =>∃ vs,Packs a vs v∧vs.length = o.length∧RL w Z o (fun j =>vs[j]?) G∧F = []
 | _ =>False

def OutsRep (w:World) (Z:CA→Prop):List S→List Value→List Mode→List (List C)→List CA→List CA→Prop
 | [],[],_,os,F,G =>os = []∧F = []∧G = []
 | x :: xs,v :: vs,ms,os,F,G =>if (x.isBox || (headM ms).isIo) = true then
   ∃ o os' F1 F2 G1 G2,os = o :: os'∧OutRep w Z x v o F1 G1∧OutsRep w Z xs vs ms.tail os' F2 G2∧F = F1 ++ F2∧G = G1 ++ G2
  else OutsRep w Z xs vs ms.tail os F G
 | [],_ :: _,_,_,_,_ =>False
 | _ :: _,[],_,_,_,_ =>False

def ResRep (w:World) (Z:CA→Prop) (vals:List (Bool × List C)) (v:Value) (F:List CA):Prop :=
 Rep w Z [] (fun _ =>undef) v F (S.ofVals vals)

def CallOk (P:Program) (E:Env) (call:Sem1) (f:FuncId):Prop :=
 ∀ (args:List S) (vals:List Value) (w:World) (Z:CA→Prop) (F:List CA) (res:Res),call f args = some res→ARs w Z args vals F→F.Nodup→(∀ c ∈ F,Mine w Z c)→(∀ c,Z c→(gcell w c).isSome = true) →
  Calls P f vals.toArray w fun
   | .returned v,w' =>∃ Z' F1 F2 G,Goes w w' (fun c =>c ∈ F)∧(∀ c,Z c→Z' c)∧(∀ c,Z' c→Z c∨c ∈ F∨w.heap.size≤c.1)∧(∀ c,Z' c→(gcell w' c).isSome = true) ∧
     ResRep w' Z' res.vals v F1∧OutsRep w' Z' args vals (E.ann f).modes res.outs F2 G∧(F1 ++ F2 ++ G).Nodup∧(∀ c ∈ F1 ++ F2 ++ G,Mine w' Z' c)∧∀ c ∈ F1 ++ F2 ++ G,c ∈ F∨w.heap.size≤c.1
   | .panicked _,_ =>False
   | .outgrown,_ =>False
end
end Go.Sx

/- After a call: what is put back. -/
namespace Go.Sx
section
variable {P:Program} {E:Env} {w w':World} {Zp Zf:CA→Prop} {a:Act}

theorem RL.giveBack {w:World} {Z:CA→Prop}:∀ {now o xs:List C} {get:Nat→Option Value} {G:List CA},RL w Z now get []→RL w Z o get G→giveBack now o = some xs→∃ G',RL w Z xs get G'∧G'.Sublist G
 | [],[],xs,get,G,_,ho,he =>by
  simp [Sx.giveBack] at he
  subst he
  have:G = [] :=ho
  subst this
  exact ⟨[],rfl,List.Sublist.refl _⟩
 | c :: now,d :: o,xs,get,G,hn,ho,he =>by
  obtain ⟨v,F1,F2,n0,n1,n2,nF⟩ :=hn
  obtain ⟨v',G1,G2,o0,o1,o2,oF⟩ :=ho
  obtain ⟨e1,e2⟩ :=app_nil nF
  subst e1 e2
  rw [n0] at o0
  simp at o0
  subst o0
  obtain ⟨l,hl,he⟩ :=bE.1 (show bnd (Sx.giveBack now o) _ = some xs from he)
  simp at he
  subst he
  obtain ⟨G',g1,g2⟩ :=RL.giveBack n2 o2 hl
  rw [oF]
  cases c with
  | hole =>exact ⟨G1 ++ G',⟨v,G1,G',n0,o1,g1,rfl⟩,List.Sublist.append (List.Sublist.refl _) g2⟩
  | p u =>exact ⟨[] ++ G',⟨v,[],G',n0,n1,g1,rfl⟩,List.Sublist.append (List.nil_sublist _) g2⟩
  | sl f sz rows =>exact ⟨[] ++ G',⟨v,[],G',n0,n1,g1,rfl⟩,List.Sublist.append (List.nil_sublist _) g2⟩
  | mp f it ka va nk rows =>exact ⟨[] ++ G',⟨v,[],G',n0,n1,g1,rfl⟩,List.Sublist.append (List.nil_sublist _) g2⟩
 | [],_ :: _,_,_,_,_,_,he =>by simp [Sx.giveBack] at he
 | _ :: _,[],_,_,_,_,_,he =>by simp [Sx.giveBack] at he

theorem giveBack_length:∀ {now o xs:List C},giveBack now o = some xs→xs.length = now.length
 | [],[],xs,he =>by simp [giveBack] at he; subst he; rfl
 | c :: now,d :: o,xs,he =>by
  obtain ⟨l,hl,he⟩ :=bE.1 (show bnd (giveBack now o) _ = some xs from he)
  simp at he
  subst he
  simp [giveBack_length hl]
 | [],_ :: _,_,he =>by simp [giveBack] at he
 | _ :: _,[],_,he =>by simp [giveBack] at he

structure Put (w':World) (Zf:CA→Prop) (tm:Tmp→Value) (s0 sf s'':St) (fpf fp'':Tmp→List CA) (rs:List Tmp) (G:List CA):Prop where
 cnt:sf.cnt≤s''.cnt
 off:∀ t,t ∉ rs→look s''.sl t = look sf.sl t
 rep:∀ t ∈ rs,∃ c cs,look s''.sl t = (look s0.sl t).withCells c cs∧(look s0.sl t).root.isSome = true∧sf.cnt≤c∧c < s''.cnt∧∀ l tm0,Rep w' Zf l tm0 (tm t) (fp'' t) (look s''.sl t)
 nd:∀ t ∈ rs,(fp'' t).Nodup
 sub:∀ t ∈ rs,∀ c ∈ fp'' t,c ∈ fpf t∨c ∈ G
 disj:∀ t ∈ rs,∀ u ∈ rs,t ≠ u→∀ c ∈ fp'' t,c ∉ fp'' u

theorem putBacks_rep {tm:Tmp→Value} {sA s0:St} {fpf:Tmp→List CA} {K:List CA} (h:Inv w Zp tm s0 fpf) (hgo:Goes w w' (fun c =>c ∈ K)) (hZ:∀ c,Zp c→Zf c) (hZK:∀ c ∈ K,¬ Zp c) :
  ∀ {xs:List S} {vs:List Value} {ms:List Mode} {bs:List Back} {F:List CA} {B:List S × List (Nat × Nat × El × Nat)} {outs:List (List C)} {F2 G:List CA} {sf s'':St} {Z:CA→Prop},
   Items w Z tm sA xs vs ms bs F→borrowAll sA xs = some B→(roots bs).Nodup→(∀ r off el n w k,Back.at r off el n w k ∈ bs→(look sA.sl r).linkStamp = k) →
   (∀ t ∈ roots bs,look s0.sl t = look sA.sl t∧look sf.sl t = look sA.sl t)→(∀ r b p n,WB w tm sA bs r b p n→∀ c ∈ K,c ∈ fpf r→c ∈ span (b,p) n)→(∀ r off el n k,Back.at r off el n false k ∈ bs→∀ c ∈ K,c ∉ fpf r) →
   OutsRep w' Zf B.1 vs ms outs F2 G→G.Nodup→(∀ t,∀ c ∈ G,c ∉ fpf t)→putBacks bs outs sf = some s''→∃ fp'',Put w' Zf tm s0 sf s'' fpf fp'' (roots bs) G
 | [],[],ms,bs,F,B,outs,F2,G,sf,s'',Z,hI,hB,hrt,hst,hl,hsp,hio,ho,hnd,hap,he =>by
  obtain ⟨rfl,_⟩ :=hI
  simp [borrowAll] at hB
  subst hB
  obtain ⟨rfl,_,_⟩ :=ho
  simp [putBacks] at he
  subst he
  exact ⟨fpf,Nat.le_refl _,fun _ _ =>rfl,by simp [roots],by simp [roots],by simp [roots],by simp [roots]⟩
 | x :: xs,v :: vs,ms,bs,F,B,outs,F2,G,sf,s'',Z,hI,hB,hrt,hst,hl,hsp,hio,ho,hnd,hap,he =>by
  obtain ⟨F1,F2',b1,b2,h1,h2,h3,h4,h5⟩ :=hI
  subst h4 h5
  obtain ⟨B',hB',hB⟩ :=bE.1 (show bnd (borrowAll sA xs) _ = some B from hB)
  rw [roots_append] at hrt
  rw [List.nodup_append] at hrt
  have rest:∀ {outs2:List (List C)} {F3 G3:List CA} {sf2:St},(∀ t ∈ roots b2,look sf2.sl t = look sA.sl t)→OutsRep w' Zf B'.1 vs ms.tail outs2 F3 G3→G3.Nodup→(∀ c ∈ G3,c ∈ G)→putBacks b2 outs2 sf2 = some s''→∃ fp'',Put w' Zf tm s0 sf2 s'' fpf fp'' (roots b2) G3 :=by
   intro outs2 F3 G3 sf2 hl2 ho2 hnd2 hG2 he2
   exact putBacks_rep h hgo hZ hZK h3 hB' hrt.2.1 (fun r off el n w k hm =>hst r off el n w k (List.mem_append_right _ hm)) (fun t ht =>⟨(hl t (by rw [roots_append]; exact List.mem_append_right _ ht)).1,hl2 t ht⟩)
    (fun r b p n hw =>hsp r b p n (hw.mono (fun x hx =>List.mem_append_right _ hx))) (fun r off el n k hm =>hio r off el n k (List.mem_append_right _ hm)) ho2 hnd2 (fun t c hc =>hap t c (hG2 c hc)) he2
  match b1,h2 with
  | [],h2 =>
   -- no back: no out
   have hx:∃ x',B = (x' :: B'.1,(B.2))∧(x'.isBox || (headM ms).isIo) = false :=by
    obtain ⟨hb,hm⟩ :=h2
    cases x with
    | val g b cs =>simp at hB; exact ⟨_,by rw [← hB],by simp [S.isBox,hm]⟩
    | rp cs =>simp at hB; exact ⟨_,by rw [← hB],by simp [S.isBox,hm]⟩
    | fn f caps =>simp at hB; exact ⟨_,by rw [← hB],by simp [S.isBox,hm]⟩
    | box g g' cs =>simp [S.isBox] at hb
    | lnk r k off n b el win =>
     obtain ⟨z,hz,hB⟩ :=bE.1 hB
     rcases tE.1 hB with ⟨hwh,hB⟩ | ⟨_,hB⟩
     case inr =>cases hB
     simp at hB
     exact ⟨_,by rw [← hB],by simp [S.isBox,hm]⟩
    | ptr _ _ _ _ =>exact h1.elim
    | fz _ _ =>exact h1.elim
    | tup _ =>exact h1.elim
    | dead =>exact h1.elim
   obtain ⟨x',hBe,hxm⟩ :=hx
   rw [hBe] at ho
   simp only [OutsRep,hxm] at ho
   exact rest (fun t ht =>(hl t ht).2) (by simpa using ho) hnd (fun c hc =>hc) he
  | [.drop],h2 =>
   obtain ⟨hm,g,b,cs,rfl⟩ :=h2
   simp at hB
   subst hB
   simp only [OutsRep,hm,Bool.or_true,if_true] at ho
   obtain ⟨o,os',F3,F4,G3,G4,rfl,_,ho2,_,rfl⟩ :=ho
   have he2:putBacks b2 os' sf = some s'' :=he
   rw [List.nodup_append] at hnd
   obtain ⟨fp'',p⟩ :=rest (fun t ht =>(hl t ht).2) ho2 hnd.2.1 (fun c hc =>List.mem_append_right _ hc) he2
   exact ⟨fp'',p.cnt,p.off,p.rep,p.nd,fun t ht c hc =>(p.sub t ht c hc).imp id (fun h =>List.mem_append_right _ h),p.disj⟩
  | [.at r off el n w1 k],h2 =>
   obtain ⟨hk,h2⟩ :=h2
   have hstk :=hst r off el n w1 k (by simp)
   obtain ⟨l0,lf⟩ :=hl r (by simp [roots])
   have hout:∃ o os' F3 F4 G3 G4,outs = o :: os'∧OutRep w' Zf x v o F3 G3∧OutsRep w' Zf B'.1 vs ms.tail os' F4 G4∧G = G3 ++ G4 :=by
    cases w1 with
    | true =>
     obtain ⟨xs',rfl,_⟩ :=h2
     simp at hB
     subst hB
     simp only [OutsRep,S.isBox,Bool.true_or,if_true] at ho
     obtain ⟨o,os',F3,F4,G3,G4,e1,e2,e3,_,e5⟩ :=ho
     exact ⟨o,os',F3,F4,G3,G4,e1,e2,e3,e5⟩
    | false =>
     obtain ⟨hm,g,b,cs,_,rfl,_⟩ :=h2
     simp at hB
     subst hB
     simp only [OutsRep,hm,Bool.or_true,if_true] at ho
     obtain ⟨o,os',F3,F4,G3,G4,e1,e2,e3,_,e5⟩ :=ho
     exact ⟨o,os',F3,F4,G3,G4,e1,e2,e3,e5⟩
   obtain ⟨o,os',F3,F4,G3,G4,rfl,ho1,ho2,rfl⟩ :=hout
   obtain ⟨cs,hroot,he1⟩ :=bE.1 (show bnd (look sf.sl r).root _ = some s'' from he)
   obtain ⟨now,hg,he2⟩ :=bE.1 he1
   obtain ⟨ys,hys,he3⟩ :=bE.1 he2
   obtain ⟨cs',hset,he4⟩ :=bE.1 he3
   rw [lf] at hroot
   rw [List.nodup_append] at hnd
   have hr2:r ∉ roots b2 :=fun hm =>hrt.2.2 r (by simp [roots]) r hm rfl
   have hsome:(look s0.sl r).root.isSome = true :=by rw [l0,hroot]; rfl
   -- the new content of r
   have key:∃ F',(∀ c l tm0,Rep w' Zf l tm0 (tm r) F' ((look s0.sl r).withCells c cs'))∧F'.Nodup∧∀ c ∈ F',c ∈ fpf r∨c ∈ G3 :=by
    cases w1 with
    | true =>
     obtain ⟨xs',rfl,hxl,hcond⟩ :=h2
     obtain ⟨g,cs1,old,hroot1,hptr,hg1,ys1,cs2,hys1,hset1⟩ :=hcond hstk
     have hcs:cs1 = cs :=by
      have :=rootP_root hroot1
      rw [hroot] at this
      simpa using this.symm
     subst hcs
     rcases tE.1 hys with ⟨_,hys⟩ | ⟨hf,_⟩
     case inr =>cases hf
     rcases tE.1 hys with ⟨hol,hys⟩ | ⟨_,hys⟩
     case inr =>cases hys
     simp at hol hys
     subst hys
     obtain ⟨b,p,hv,hol2,hro,hF3⟩ :=ho1
     subst hv
     have hroot0 :=hroot1
     have hptr0 :=hptr
     rw [← l0] at hroot1 hptr
     obtain ⟨b',p',hv',hspan,R,hR,hRn,hRs,_,hnew⟩ :=place_write h hroot1 hptr hg hset hol
     simp at hv'
     obtain ⟨rfl,rfl⟩ :=hv'
     have hown :=hsp r b p n ⟨off,el,k,g,cs1,old,ys1,cs2,by simp,hroot0,hptr0,hg1,hys1,hset1⟩
     obtain ⟨F',f1,f2,f3⟩ :=hnew w' Zf G3 hZ hro (fun c hc hn =>hgo.cells c (cell_lt (hc.elim (fun hc =>(h.mine r c (hR c hc)).1) (h.zok c))) (fun hk =>hc.elim (fun hc =>hn (hown c hk (hR c hc))) (fun hz =>hZK c hk hz)))
      (fun j hj =>by
       obtain ⟨us,u1,u2,_⟩ :=hro.values
       rw [u2 j (by omega),List.getElem?_eq_getElem (by omega)]
       rfl) hnd.1 (fun c hc hm =>hap r c (List.mem_append_left _ hc) (hR c hm))
     exact ⟨F',f1,f2,fun c hc =>((f3 c).1 hc).imp (hR c) id⟩
    | false =>
     obtain ⟨hm,g,b,cs0,ws,rfl,hpk,hwl,hcl,hcond⟩ :=h2
     obtain ⟨cs1,old,hroot1,hg1,hpg⟩ :=hcond hstk
     have hcs:cs1 = cs :=by
      rw [hroot] at hroot1
      simpa using hroot1.symm
     subst hcs
     rcases tE.1 hys with ⟨hf,_⟩ | ⟨_,hys⟩
     ·cases hf
     rcases tE.1 hys with ⟨hfr,hys⟩ | ⟨_,hys⟩
     case inr =>cases hys
     obtain ⟨us,ou1,ou2,ou3,_⟩ :=ho1
     have huw:us = ws :=by rw [← Packs.cells ou1,← Packs.cells hpk]
     subst huw
     have hroot0:(look s0.sl r).root = some cs1 :=by rw [l0]; exact hroot
     have hnl:now.length = n :=by
      obtain ⟨D,G,_,hG,_,_⟩ :=(h.rep r).root2 hroot0
      exact (place_read hG hg).1
     obtain ⟨D,A,Fx,Bx,hFr,hx,hnew⟩ :=place_turn h hroot0 hg hset (by rw [giveBack_length hys]; exact hnl)
     have hFx :=hx.idle hfr
     subst hFx
     have hnK :=hio r off el n k (by simp)
     have hfr2:∀ c,c ∈ D ++ (A ++ [] ++ Bx)↔c ∈ D ++ (A ++ Bx) :=fun c =>by simp
     have hsame:∀ {L:List CA},(∀ c ∈ L,c ∈ fpf r)→Same w w' L Zp :=fun hL c hc =>hgo.cells c (cell_lt (hc.elim (fun hc =>(h.mine r c (hL c hc)).1) (h.zok c))) (fun hk =>hc.elim (fun hc =>hnK c hk (hL c hc)) (fun hz =>hZK c hk hz))
     have hpg0:∀ j,j < n→pget w (rget w (look s0.sl r) (tm r)) cs1 off el j = us[j]? :=by rw [l0]; exact hpg
     have hnow:RL w' Zf now (fun j =>us[j]?) [] :=RL.same hZ now hx (hsame (by simp)) (fun j hj =>(hpg0 j (by omega)).symm)
     obtain ⟨G',g1,g2⟩ :=RL.giveBack hnow ou3 hys
     have hrep :=hnew w' Zf G' hZ (hsame (fun c hc =>by rw [hFr]; exact (hfr2 c).2 hc)) (RL.same (w' :=w') (fun _ h =>h) ys g1 (fun _ _ =>rfl) (fun j hj =>hpg0 j (by rw [giveBack_length hys] at hj; omega)))
     have hnr :=h.nd r
     rw [hFr] at hnr
     refine ⟨D ++ (A ++ G' ++ Bx),hrep,?_,?_⟩
     ·have hp:(D ++ (A ++ G' ++ Bx)).Perm ((D ++ (A ++ [] ++ Bx)) ++ G') :=by
       refine List.perm_iff_count.2 fun c =>?_
       simp only [List.count_append,List.count_nil]
       omega
      rw [hp.nodup_iff,List.nodup_append]
      exact ⟨hnr,hnd.1.sublist g2,fun c hc d hd e =>hap r d (List.mem_append_left _ (g2.subset hd)) (by rw [hFr]; exact e ▸ hc)⟩
     ·intro c hc
      simp only [List.mem_append] at hc
      rcases hc with hc | (hc | hc) | hc
      ·exact .inl (by rw [hFr]; exact List.mem_append_left _ hc)
      ·exact .inl (by rw [hFr]; simp [hc])
      ·exact .inr (g2.subset hc)
      ·exact .inl (by rw [hFr]; simp [hc])
   obtain ⟨F',f1,f2,f3⟩ :=key
   have hl2:∀ t ∈ roots b2,look (upd r cs' sf).sl t = look sA.sl t :=fun t ht =>by
    have hne:r ≠ t :=fun e =>hr2 (by rw [e]; exact ht)
    rw [look_upd,if_neg hne]
    exact (hl t (by rw [roots_append]; exact List.mem_append_right _ ht)).2
   obtain ⟨fp'',p⟩ :=rest hl2 ho2 hnd.2.1 (fun c hc =>List.mem_append_right _ hc) he4
   have hlook:look s''.sl r = (look s0.sl r).withCells sf.cnt cs' :=by
    rw [p.off r hr2,look_upd,if_pos rfl,lf,l0]
   have hcnt:sf.cnt + 1≤s''.cnt :=p.cnt
   refine ⟨fun t =>if t = r then F' else fp'' t,by omega,fun t ht =>?_,fun t ht =>?_,fun t ht =>?_,fun t ht c hc =>?_,fun t ht u hu htu c hc =>?_⟩
   ·simp [roots] at ht
    rw [p.off t ht.2,look_upd,if_neg (fun e =>ht.1 e.symm)]
   ·by_cases e:t = r
    ·subst e
     exact ⟨sf.cnt,cs',hlook,hsome,Nat.le_refl _,by omega,fun l tm0 =>by simp only [if_true]; rw [hlook]; exact f1 _ l tm0⟩
    ·simp [roots,e] at ht
     obtain ⟨c,cs2,e1,e2,e3,e4,e5⟩ :=p.rep t ht
     have e3':sf.cnt + 1≤c :=e3
     exact ⟨c,cs2,e1,e2,by omega,e4,by simp only [if_neg e]; exact e5⟩
   ·by_cases e:t = r
    ·simp only [if_pos e]; exact f2
    ·simp [roots,e] at ht
     simp only [if_neg e]; exact p.nd t ht
   ·by_cases e:t = r
    ·subst e
     simp only [if_true] at hc
     exact (f3 c hc).imp id (fun h =>List.mem_append_left _ h)
    ·simp [roots,e] at ht
     simp only [if_neg e] at hc
     exact (p.sub t ht c hc).imp id (fun h =>List.mem_append_right _ h)
   ·have cross:∀ {t2:Tmp},t2 ≠ r→t2 ∈ roots b2→∀ c ∈ F',c ∉ fp'' t2 :=by
     intro t2 hne ht2 c hc hm
     rcases f3 c hc with h8 | h8 <;> rcases p.sub t2 ht2 c hm with h9 | h9
     ·exact h.disj r t2 (fun e =>hne e.symm) c h8 h9
     ·exact hap r c (List.mem_append_right _ h9) h8
     ·exact hap t2 c (List.mem_append_left _ h8) h9
     ·exact hnd.2.2 c h8 c h9 rfl
    by_cases e:t = r
    ·have hu2:u ≠ r :=fun e2 =>htu (e.trans e2.symm)
     simp [roots,hu2] at hu
     simp only [if_pos e] at hc
     simp only [if_neg hu2]
     exact cross hu2 hu c hc
    ·simp [roots,e] at ht
     simp only [if_neg e] at hc
     by_cases e2:u = r
     ·simp only [if_pos e2]
      exact fun hm =>cross e ht c hm hc
     ·simp [roots,e2] at hu
      simp only [if_neg e2]
      exact p.disj t ht u hu htu c hc
  | .drop :: _ :: _,h2 =>exact h2.elim
  | .at .. :: _ :: _,h2 =>exact h2.elim
 | [],_ :: _,_,_,_,_,_,_,_,_,_,_,hI,_,_,_,_,_,_,_,_,_,_ =>hI.elim
 | _ :: _,[],_,_,_,_,_,_,_,_,_,_,hI,_,_,_,_,_,_,_,_,_,_ =>hI.elim
end
end Go.Sx

/- A call,from the caller's side. -/
namespace Go.Sx
section
variable {P:Program} {E:Env} {w:World} {Z:CA→Prop} {a:Act}

theorem at_unique {r off el n w1 k off' el' n' w1' k'}:∀ {bs:List Back},(roots bs).Nodup→Back.at r off el n w1 k ∈ bs→Back.at r off' el' n' w1' k' ∈ bs→off = off'∧el = el'∧n = n'∧w1 = w1'∧k = k'
 | .drop :: l,hn,h,h' =>by
  rcases List.mem_cons.1 h with h | h
  ·cases h
  rcases List.mem_cons.1 h' with h' | h'
  ·cases h'
  exact at_unique (bs :=l) hn h h'
 | .at q _ _ _ _ _ :: l,hn,h,h' =>by
  simp only [roots,List.nodup_cons] at hn
  rcases List.mem_cons.1 h with h1 | h1 <;> rcases List.mem_cons.1 h' with h2 | h2
  ·cases h1; cases h2; exact ⟨rfl,rfl,rfl,rfl,rfl⟩
  ·cases h1; exact absurd (mem_roots h2) hn.1
  ·cases h2; exact absurd (mem_roots h1) hn.1
  ·exact at_unique hn.2 h1 h2

theorem PtrTo.unique {get:Nat→Option Value} {cs:List C} {tv v v':Value} {off:Nat} {el:El} (h:PtrTo get cs tv off el v) (h':PtrTo get cs tv off el v'):v = v' :=by
 cases el with
 | none =>
  obtain ⟨b,o,e1,e2⟩ :=h
  obtain ⟨b',o',e1',e2'⟩ :=h'
  rw [e1] at e1'
  simp at e1'
  obtain ⟨rfl,rfl⟩ :=e1'
  rw [e2,e2']
 | some q =>
  obtain ⟨i,o1⟩ :=q
  obtain ⟨b,o,len,cap,f,sz,rows,e1,e2,e3⟩ :=h
  obtain ⟨b',o',len',cap',f',sz',rows',e1',e2',e3'⟩ :=h'
  rw [e1] at e1'
  rw [e2] at e2'
  simp at e1' e2'
  obtain ⟨⟨rfl,rfl⟩,_⟩ :=e1'
  obtain ⟨_,rfl,_⟩ :=e2'
  rw [e3,e3']

theorem WB.unique {tm:Tmp→Value} {s:St} {bs:List Back} (hn:(roots bs).Nodup) {r b p n b' p' n':Nat} (h:WB w tm s bs r b p n) (h':WB w tm s bs r b' p' n'):b = b'∧p = p'∧n = n' :=by
 obtain ⟨off,el,k,g,cs,old,ys,cs2,hm,hr,hp,_⟩ :=h
 obtain ⟨off',el',k',g',cs',old',ys',cs2',hm',hr',hp',_⟩ :=h'
 obtain ⟨rfl,rfl,rfl,_,_⟩ :=at_unique hn hm hm'
 have:cs = cs' :=by
  have h1 :=rootP_root hr
  rw [rootP_root hr'] at h1
  simpa using h1.symm
 subst this
 have :=hp.unique hp'
 simp at this
 exact ⟨this.1,this.2,rfl⟩

theorem outs_spans {w':World} {Zf:CA→Prop} {tm:Tmp→Value} {sA:St}:∀ {xs:List S} {vs:List Value} {ms:List Mode} {bs:List Back} {F:List CA} {B:List S × List (Nat × Nat × El × Nat)} {outs:List (List C)} {F2 G:List CA},
  Items w Z tm sA xs vs ms bs F→borrowAll sA xs = some B→(roots bs).Nodup→(∀ r off el n w k,Back.at r off el n w k ∈ bs→(look sA.sl r).linkStamp = k)→OutsRep w' Zf B.1 vs ms outs F2 G →
   ∀ r b p n,WB w tm sA bs r b p n→∀ c ∈ span (b,p) n,c ∈ F2
 | [],[],ms,bs,F,B,outs,F2,G,hI,_,_,_,_,r,b,p,n,hw,_,_ =>by
  obtain ⟨rfl,_⟩ :=hI
  obtain ⟨_,_,_,_,_,_,_,_,hm,_⟩ :=hw
  cases hm
 | x :: xs,v :: vs,ms,bs,F,B,outs,F2,G,hI,hB,hrt,hst,ho,r,b,p,n,hw,c,hc =>by
  obtain ⟨F1,F2',b1,b2,h1,h2,h3,h4,h5⟩ :=hI
  subst h4 h5
  obtain ⟨B',hB',hB⟩ :=bE.1 (show bnd (borrowAll sA xs) _ = some B from hB)
  have hrt0 :=hrt
  rw [roots_append] at hrt
  rw [List.nodup_append] at hrt
  obtain ⟨off,el,k,g,cs,old,ys,cs2,hm,hroot,hptr,hg,hl,hset⟩ :=hw
  have later:∀ {outs2:List (List C)} {F3 G3:List CA},OutsRep w' Zf B'.1 vs ms.tail outs2 F3 G3→Back.at r off el n true k ∈ b2→c ∈ F3 :=fun ho2 hm2 =>
   outs_spans h3 hB' hrt.2.1 (fun r off el n w k hm =>hst r off el n w k (List.mem_append_right _ hm)) ho2 r b p n ⟨off,el,k,g,cs,old,ys,cs2,hm2,hroot,hptr,hg,hl,hset⟩ c hc
  by_cases hgive:∃ o os' F3 F4 G3 G4 x',outs = o :: os'∧OutRep w' Zf x' v o F3 G3∧OutsRep w' Zf B'.1 vs ms.tail os' F4 G4∧F2 = F3 ++ F4∧(x.isBox = true→x' = x)
  ·obtain ⟨o,os',F3,F4,G3,G4,x',rfl,ho1,ho2,rfl,hxx⟩ :=hgive
   rcases List.mem_append.1 hm with hm1 | hm2
   ·match b1,h2,hm1 with
    | [.drop],_,hm1 =>simp at hm1
    | [.at r1 off1 el1 n1 w1 k1],h2,hm1 =>
     simp at hm1
     obtain ⟨rfl,rfl,rfl,rfl,rfl,rfl⟩ :=hm1
     obtain ⟨_,xs',rfl,hxl,hcond⟩ :=h2
     obtain ⟨g1,cs1,old1,hroot1,hptr1,_⟩ :=hcond (hst r off el n true k (by simp))
     have hcs:cs1 = cs :=by
      have h1 :=rootP_root hroot1
      rw [rootP_root hroot] at h1
      simpa using h1.symm
     subst hcs
     have hv :=hptr1.unique hptr
     subst hv
     have :=hxx rfl
     subst this
     obtain ⟨b',p',hv',hol,_,hF3⟩ :=ho1
     simp at hv'
     obtain ⟨rfl,rfl⟩ :=hv'
     rw [hF3,hol,hxl]
     exact List.mem_append_left _ hc
    | .drop :: _ :: _,h2,_ =>exact h2.elim
    | .at .. :: _ :: _,h2,_ =>exact h2.elim
   ·exact List.mem_append_right _ (later ho2 hm2)
  ·-- no out: no back
   have hno:∃ x' ys,B.1 = x' :: ys∧ys = B'.1∧(x.isBox = true→x' = x) :=by
    cases x with
    | val g b cs =>simp at hB; exact ⟨_,_,by rw [← hB],rfl,by simp [S.isBox]⟩
    | rp cs =>simp at hB; exact ⟨_,_,by rw [← hB],rfl,by simp [S.isBox]⟩
    | fn f caps =>simp at hB; exact ⟨_,_,by rw [← hB],rfl,by simp [S.isBox]⟩
    | box g g' cs =>simp at hB; exact ⟨_,_,by rw [← hB],rfl,fun _ =>rfl⟩
    | lnk r k off n b el win =>
     obtain ⟨z,hz,hB⟩ :=bE.1 hB
     rcases tE.1 hB with ⟨hwh,hB⟩ | ⟨_,hB⟩
     case inr =>cases hB
     simp at hB
     exact ⟨_,_,by rw [← hB],rfl,by simp [S.isBox]⟩
    | ptr _ _ _ _ =>exact h1.elim
    | fz _ _ =>exact h1.elim
    | tup _ =>exact h1.elim
    | dead =>exact h1.elim
   obtain ⟨x',ys',hBe,rfl,hxx⟩ :=hno
   rw [hBe] at ho
   simp only [OutsRep] at ho
   split at ho
   ·obtain ⟨o,os',F3,F4,G3,G4,e1,e2,e3,e4,_⟩ :=ho
    exact absurd ⟨o,os',F3,F4,G3,G4,x',e1,e2,e3,e4,hxx⟩ hgive
   ·rename_i hxm
    rcases List.mem_append.1 hm with hm1 | hm2
    ·match b1,h2,hm1 with
     | [.drop],_,hm1 =>simp at hm1
     | [.at r1 off1 el1 n1 w1 k1],h2,hm1 =>
      simp at hm1
      obtain ⟨rfl,rfl,rfl,rfl,rfl,rfl⟩ :=hm1
      obtain ⟨_,xs',rfl,hxl,hcond⟩ :=h2
      have :=hxx rfl
      subst this
      simp [S.isBox] at hxm
     | .drop :: _ :: _,h2,_ =>exact h2.elim
     | .at .. :: _ :: _,h2,_ =>exact h2.elim
    ·exact later ho hm2
 | [],_ :: _,_,_,_,_,_,_,_,hI,_,_,_,_,_,_,_,_,_,_,_ =>hI.elim
 | _ :: _,[],_,_,_,_,_,_,_,hI,_,_,_,_,_,_,_,_,_,_,_ =>hI.elim

theorem ResRep.rep {w:World} {Z:CA→Prop} {vals:List (Bool × List C)} {v:Value} {F:List CA} (h:ResRep w Z vals v F) (l:List (Tmp × S)) (tm:Tmp→Value):Rep w Z l tm v F (S.ofVals vals)∧∀ n,(S.ofVals vals).linksLt n :=by
 match vals,h with
 | [],h =>exact ⟨h,fun _ =>trivial⟩
 | [z],h =>exact ⟨h,fun _ =>trivial⟩
 | (true,_) :: _ :: _,h =>exact ⟨h,fun _ =>trivial⟩
 | (false,[]) :: _ :: _,h =>exact ⟨h,fun _ =>trivial⟩
 | (false,_ :: _) :: _ :: _,h =>exact ⟨h,fun _ =>trivial⟩

theorem BorsOk.from_ {tm:Tmp→Value} {s:St} {fp:Tmp→List CA}:∀ {l:List (Nat × Nat × El × Nat)} {F:List CA},BorsOk w Z tm s fp l F→∀ c ∈ F,∃ b ∈ l,c ∈ fp b.1
 | [],F,h =>by rw [show F = [] from h]; simp
 | b :: l,F,h =>by
  obtain ⟨F1,F2,_,h2,h3,rfl⟩ :=h
  intro c hc
  rcases List.mem_append.1 hc with hc | hc
  ·exact ⟨b,by simp,h2 c hc⟩
  ·obtain ⟨b',hb',hc⟩ :=BorsOk.from_ h3 c hc
   exact ⟨b',List.mem_cons_of_mem _ hb',hc⟩
end
end Go.Sx

/- A call,from the caller's side: the whole of it. -/
namespace Go.Sx
section
variable {P:Program} {E:Env} {w:World} {Z:CA→Prop} {a:Act}

theorem TR.mine {w:World} {Z Z':CA→Prop}:∀ {vs:List (Bool × List C)} {us:List Value} {F:List CA},TR w Z vs us F→mineVals vs = true→TR w Z' vs us F
 | [],[],_,h,_ =>h
 | z :: r,u :: us,F,h,hm =>by
  simp [mineVals] at hm
  obtain ⟨vs,F1,F2,hp,hl,h1,h2,hF⟩ :=h
  exact ⟨vs,F1,F2,hp,hl,RL.mine _ h1 hm.1,TR.mine h2 hm.2,hF⟩
 | [],_ :: _,_,h,_ =>h.elim
 | _ :: _,[],_,h,_ =>h.elim

theorem ResRep.mine {w:World} {Z Z':CA→Prop} {vals:List (Bool × List C)} {v:Value} {F:List CA} (h:ResRep w Z vals v F) (hm:mineVals vals = true):ResRep w Z' vals v F :=by
 match vals,h,hm with
 | [],h,_ =>exact h
 | [z],h,hm =>
  obtain ⟨vs,hp,hl,hr⟩ :=h
  simp [mineVals] at hm
  exact ⟨vs,hp,hl,RL.mine _ hr hm⟩
 | (true,_) :: y :: l,h,hm =>
  obtain ⟨us,hv,ht⟩ :=h
  exact ⟨us,hv,TR.mine ht hm⟩
 | (false,_ :: _) :: y :: l,h,hm =>
  obtain ⟨us,hv,ht⟩ :=h
  exact ⟨us,hv,TR.mine ht hm⟩
 | (false,[]) :: y :: l,h,hm =>
  obtain ⟨b,o,G,hv,hr,hF⟩ :=h
  simp [mineVals] at hm
  exact ⟨b,o,G,hv,RL.mine _ hr hm.2.1,hF⟩

theorem ResRep.mono {w:World} {Z Z':CA→Prop} (hZ:∀ c,Z c→Z' c) {vals:List (Bool × List C)} {v:Value} {F:List CA} (h:ResRep w Z vals v F):ResRep w Z' vals v F :=by
 match vals,h with
 | [],h =>exact h
 | [z],h =>
  obtain ⟨vs,hp,hl,hr⟩ :=h
  exact ⟨vs,hp,hl,RL.same (w' :=w) hZ _ hr (fun _ _ =>rfl) (fun _ _ =>rfl)⟩
 | (true,_) :: y :: l,h =>
  obtain ⟨us,hv,ht⟩ :=h
  exact ⟨us,hv,TR.same (w' :=w) hZ ht (fun _ _ =>rfl)⟩
 | (false,_ :: _) :: y :: l,h =>
  obtain ⟨us,hv,ht⟩ :=h
  exact ⟨us,hv,TR.same (w' :=w) hZ ht (fun _ _ =>rfl)⟩
 | (false,[]) :: y :: l,h =>
  obtain ⟨b,o,G,hv,hr,hF⟩ :=h
  exact ⟨b,o,G,hv,RL.same (w' :=w) hZ _ hr (fun _ _ =>rfl) (fun _ _ =>rfl),hF⟩

theorem OutRep.turn {w:World} {Z Z':CA→Prop} {x:S} {v:Value} {o:List C} {F G:List CA} (hr:∀ get,RL w Z o get G→RL w Z' o get G) (h:OutRep w Z x v o F G):OutRep w Z' x v o F G :=by
 cases x with
 | box g k cs =>
  obtain ⟨b,p,h1,h2,h3,h4⟩ :=h
  exact ⟨b,p,h1,h2,hr _ h3,h4⟩
 | val g b cs =>
  obtain ⟨vs,h1,h2,h3,h4⟩ :=h
  exact ⟨vs,h1,h2,hr _ h3,h4⟩
 | _ =>exact h

theorem OutsRep.turn {w:World} {Z Z':CA→Prop}:∀ {xs:List S} {vs:List Value} {ms:List Mode} {os:List (List C)} {F G:List CA},(∀ o ∈ os,∀ get G,RL w Z o get G→RL w Z' o get G)→OutsRep w Z xs vs ms os F G→OutsRep w Z' xs vs ms os F G
 | [],[],_,_,_,_,_,h =>h
 | x :: xs,v :: vs,ms,os,F,G,hr,h =>by
  simp only [OutsRep] at h ⊢
  split at h
  ·rename_i hx
   rw [if_pos hx]
   obtain ⟨o,os',F1,F2,G1,G2,rfl,h1,h2,h3,h4⟩ :=h
   exact ⟨o,os',F1,F2,G1,G2,rfl,h1.turn (fun get =>hr o (by simp) get G1),OutsRep.turn (fun o ho =>hr o (List.mem_cons_of_mem _ ho)) h2,h3,h4⟩
  ·rename_i hx
   rw [if_neg hx]
   exact OutsRep.turn hr h
 | [],_ :: _,_,_,_,_,_,h =>h.elim
 | _ :: _,[],_,_,_,_,_,h =>h.elim

theorem mineRows_spec:∀ {rows:List (List C)},mineRows rows = true→∀ r ∈ rows,mineRow r = true
 | [],_ =>by simp
 | v :: r,h =>by
  simp [mineRows] at h
  intro u hu
  rcases List.mem_cons.1 hu with rfl | hu
  ·exact h.1
  ·exact mineRows_spec h.2 u hu

theorem callOf_runs (hT:TOk P E) {call:Sem1} {f:FuncId} (hc:CallOk P E call f) {s:St} {fp:Tmp→List CA} (h:Inv w Z (Act.tm a) s fp) {xs:List Operand} {tys:List TypeId} {s':St} {r:S} (he:callOf E call f xs tys s = some (s',r)) :
  Calls P f (xs.map a.eval).toArray w fun
   | .returned v,w' =>Brings w Z (Act.tm a) fp s' r v w'
   | .panicked _,_ =>False
   | .outgrown,_ =>False :=by
 obtain ⟨A,hA,he1⟩ :=bE.1 (show bnd (argsOf E xs tys (E.ann f).modes s) _ = some (s',r) from he)
 rcases tE.1 he1 with ⟨hfd,he2⟩ | ⟨_,he2⟩
 case inr =>cases he2
 obtain ⟨B,hB,he3⟩ :=bE.1 he2
 rcases tE.1 he3 with ⟨hnc,he4⟩ | ⟨_,he4⟩
 case inr =>cases he4
 obtain ⟨res,hres,he5⟩ :=bE.1 he4
 obtain ⟨s0,hs0,he6⟩ :=bE.1 he5
 obtain ⟨s2,hs2,he7⟩ :=bE.1 he6
 simp at he7
 obtain ⟨rfl,rfl⟩ :=he7
 simp only [Bool.and_eq_true] at hfd
 have hst :=freshB_spec hfd.1
 have hrt :=distinctB_spec hfd.2
 have hbr :=noClash_spec hnc
 obtain ⟨fp1,F,i1,l1,items,nF,mF,apF,sub1,fromF⟩ :=argsOf_rep hT h hA
 obtain ⟨Fb,K,bors,ars,nK,kfrom⟩ :=borrow_rep i1 items nF apF hB hst hrt
 have hFb :=bors.from_
 -- what K is
 have kmine:∀ c ∈ K,Mine w Z c :=fun c hc =>(kfrom c hc).elim (mF c) (fun ⟨r,b,p,n,hw,hs⟩ =>i1.mine r c ((hw.fp i1).2 c hs))
 have koff:∀ c ∈ K,∀ t,c ∈ fp1 t→∃ b p n,WB w (Act.tm a) A.s A.backs t b p n∧c ∈ span (b,p) n :=by
  intro c hc t ht
  rcases kfrom c hc with h8 | ⟨r,b,p,n,hw,hs⟩
  ·exact absurd ht (apF t c h8)
  ·by_cases e:r = t
   ·subst e; exact ⟨b,p,n,hw,hs⟩
   ·exact absurd ht (i1.disj r t e c ((hw.fp i1).2 c hs))
 have kb:∀ c ∈ K,∀ b ∈ B.2,c ∉ fp1 b.1 :=fun c hc b hb hm =>by
  obtain ⟨_,_,_,hw,_⟩ :=koff c hc b.1 hm
  exact hbr b hb (hw.fp i1).1
 have kcell:∀ c ∈ K,(gcell w c).isSome = true :=fun c hc =>(kmine c hc).1
 have kfp:∀ c ∈ K,∃ t,c ∈ fp t :=fun c hc =>(kfrom c hc).elim (fromF c) (fun ⟨r,b,p,n,hw,hs⟩ =>⟨r,sub1 r c ((hw.fp i1).2 c hs)⟩)
 refine Calls.mono (hc B.1 (xs.map a.eval) w (orIn Z Fb) K res hres ars nK (fun c hc =>⟨(kmine c hc).1,(kmine c hc).2.1,fun hz =>hz.elim (kmine c hc).2.2 (fun hf =>by
  obtain ⟨b,hb,hm⟩ :=hFb c hf
  exact kb c hc b hb hm)⟩) (fun c hz =>hz.elim (i1.zok c) (fun hf =>by
  obtain ⟨b,_,hm⟩ :=hFb c hf
  exact (i1.mine b.1 c hm).1))) (fun e w' hR =>?_)
 cases e with
 | panicked _ =>exact hR
 | outgrown =>exact hR
 | returned v =>
  obtain ⟨Z',F1,F2,G,goes,zz,zfrom,zok',hresR,houts,hnd,hmine,hfrom⟩ :=hR
  -- the end
  have fin:∀ (Zp Zf:CA→Prop) (fpf:Tmp→List CA),Inv w Zp (Act.tm a) s0 fpf→(∀ t,∀ c ∈ fpf t,c ∈ fp1 t)→(∀ t ∈ roots A.backs,look s0.sl t = look A.s.sl t)→(∀ c ∈ K,¬ Zp c)→(∀ c,Zp c→Z c∨∃ t,c ∈ fp t)→(∀ c,Z c→Zp c)→(∀ c,Zp c→Zf c) →
    ResRep w' Zf res.vals v F1→OutsRep w' Zf B.1 (xs.map a.eval) (E.ann f).modes res.outs F2 G→(∀ c ∈ F1 ++ F2 ++ G,¬ Zf c)→(∀ c,Zf c→Zp c∨c ∈ K∨w.heap.size≤c.1)→(∀ c,Zf c→(gcell w' c).isSome = true) →
    Brings w Z (Act.tm a) fp s2 (S.ofVals res.vals) v w' :=by
   intro Zp Zf fpf hinv hsub hlk hZpK hZp hZZp hZf hrr hoo hnZ hZfrom hZfok
   have hmem:∀ c,c ∈ F1 ++ F2 ++ G↔c ∈ F1∨c ∈ F2∨c ∈ G :=fun c =>by simp [or_assoc]
   have hspF2 :=outs_spans items hB hrt hst hoo
   have hK2:∀ c ∈ K,∀ t,c ∈ fp1 t→c ∈ F2∧t ∈ roots A.backs :=fun c hc t ht =>by
    obtain ⟨b,p,n,hw,hs⟩ :=koff c hc t ht
    exact ⟨hspF2 t b p n hw c hs,(hw.fp i1).1⟩
   rw [List.nodup_append,List.nodup_append] at hnd
   have old:∀ {c:CA} {t:Tmp},c ∈ fp1 t→c.1 < w.heap.size :=fun {c t} hc =>cell_lt (i1.mine t c hc).1
   have hGap:∀ t,∀ c ∈ G,c ∉ fpf t :=fun t c hc hm =>by
    have hm1 :=hsub t c hm
    rcases hfrom c ((hmem c).2 (.inr (.inr hc))) with h8 | h8
    ·exact hnd.2.2 c (List.mem_append_right _ (hK2 c h8 t hm1).1) c hc rfl
    ·have :=old hm1; omega
   have hF1ap:∀ t,∀ c ∈ F1,c ∉ fpf t :=fun t c hc hm =>by
    have hm1 :=hsub t c hm
    rcases hfrom c ((hmem c).2 (.inl hc)) with h8 | h8
    ·exact hnd.1.2.2 c hc c (hK2 c h8 t hm1).1 rfl
    ·have :=old hm1; omega
   obtain ⟨fp'',p⟩ :=putBacks_rep (sA :=A.s) (s0 :=s0) (sf :=s0) hinv goes hZf hZpK items hB hrt hst (fun t ht =>⟨hlk t ht,hlk t ht⟩)
    (fun r b p n hw c hc hm =>by
     obtain ⟨b',p',n',hw',hs'⟩ :=koff c hc r (hsub r c hm)
     obtain ⟨rfl,rfl,rfl⟩ :=hw.unique hrt hw'
     exact hs')
    (fun r off el n k hm c hc hm2 =>by
     obtain ⟨b',p',n',⟨_,_,_,_,_,_,_,_,hm',_⟩,_⟩ :=koff c hc r (hsub r c hm2)
     have :=(at_unique hrt hm hm').2.2.2.1
     cases this) hoo hnd.2.1 hGap hs2
   let fp3:Tmp→List CA :=fun t =>if t ∈ roots A.backs then fp'' t else fpf t
   have hKoff:∀ t,t ∉ roots A.backs→∀ c ∈ fpf t,c ∉ K :=fun t ht c hc hk =>ht (hK2 c hk t (hsub t c hc)).2
   have hmineF:∀ c ∈ F1 ++ F2 ++ G,Mine w' Zf c :=fun c hc =>⟨(hmine c hc).1,(hmine c hc).2.1,hnZ c hc⟩
   have hmineK:∀ t,∀ c ∈ fpf t,c ∉ K→Mine w' Zf c :=fun t c hc hk =>⟨goes.some c (hinv.mine t c hc).1,by rw [goes.fro c (cell_lt (hinv.mine t c hc).1)]; exact (hinv.mine t c hc).2.1,fun hz =>by
    rcases hZfrom c hz with h8 | h8 | h8
    ·exact (hinv.mine t c hc).2.2 h8
    ·exact hk h8
    ·have :=cell_lt (hinv.mine t c hc).1; omega⟩
   have hmineT:∀ t,∀ c ∈ fpf t,Mine w' Zf c :=fun t c hc =>by
    by_cases hk:c ∈ K
    ·exact hmineF c ((hmem c).2 (.inr (.inl (hK2 c hk t (hsub t c hc)).1)))
    ·exact hmineK t c hc hk
   have hfp3:∀ t,∀ c ∈ fp3 t,c ∈ fpf t∨c ∈ G :=fun t c hc =>by
    by_cases ht:t ∈ roots A.backs
    ·simp only [fp3,if_pos ht] at hc; exact p.sub t ht c hc
    ·simp only [fp3,if_neg ht] at hc; exact .inl hc
   have hinv3:Inv w' Zf (Act.tm a) s2 fp3 :=by
    refine hinv.upds hZf p.cnt (fun t =>?_) (fun t =>?_) (fun t u htu c hc =>?_) (fun t c hc =>?_) hZfok
    ·by_cases ht:t ∈ roots A.backs
     ·right
      have :=p.rep t ht
      simp only [fp3,if_pos ht]
      exact this
     ·left
      refine ⟨p.off t ht,by simp only [fp3,if_neg ht],goes.same (fun c hc =>⟨hc.elim (fun hc =>(hinv.mine t c hc).1) (hinv.zok c),fun hk =>hc.elim (fun hc =>hKoff t ht c hc hk) (fun hz =>hZpK c hk hz)⟩)⟩
    ·by_cases ht:t ∈ roots A.backs
     ·simp only [fp3,if_pos ht]; exact p.nd t ht
     ·simp only [fp3,if_neg ht]; exact hinv.nd t
    ·by_cases ht:t ∈ roots A.backs <;> by_cases hu:u ∈ roots A.backs
     ·simp only [fp3,if_pos ht] at hc
      simp only [fp3,if_pos hu]
      exact p.disj t ht u hu htu c hc
     ·simp only [fp3,if_neg hu]
      intro hm
      rcases hfp3 t c hc with h8 | h8
      ·exact hinv.disj t u htu c h8 hm
      ·exact hGap u c h8 hm
     ·simp only [fp3,if_neg ht] at hc
      intro hm
      rcases hfp3 u c hm with h8 | h8
      ·exact hinv.disj t u htu c hc h8
      ·exact hGap t c h8 hc
     ·simp only [fp3,if_neg ht] at hc
      simp only [fp3,if_neg hu]
      exact hinv.disj t u htu c hc
    ·exact (hfp3 t c hc).elim (hmineT t c) (fun h8 =>hmineF c ((hmem c).2 (.inr (.inr h8))))
   have hnew:∀ c,c ∈ F1 ++ F2 ++ G→(∃ t,c ∈ fp t)∨w.heap.size≤c.1 :=fun c hc =>(hfrom c hc).imp (kfp c) id
   refine ⟨Zf,fp3,F1,{ goes :=goes.mono kfp,zz :=fun c hz =>hZf c (hZZp c hz),zfrom :=fun c hz =>?_,inv :=hinv3,rep :=(hrr.rep _ _).1,lt :=(hrr.rep [] (Act.tm a)).2 _,nd :=hnd.1.1,mine :=fun c hc =>hmineF c ((hmem c).2 (.inl hc)),apart :=fun t c hc hm =>?_,from_ :=fun c hc =>?_ }⟩
   ·rcases hZfrom c hz with h8 | h8 | h8
    ·exact (hZp c h8).imp id .inl
    ·exact .inr (.inl (kfp c h8))
    ·exact .inr (.inr h8)
   ·rcases hfp3 t c hm with h8 | h8
    ·exact hF1ap t c hc h8
    ·exact hnd.2.2 c (List.mem_append_left _ hc) c h8 rfl
   ·rcases hc with hc | ⟨t,hc⟩
    ·exact hnew c ((hmem c).2 (.inl hc))
    ·rcases hfp3 t c hc with h8 | h8
     ·exact .inl ⟨t,sub1 t c (hsub t c h8)⟩
     ·exact hnew c ((hmem c).2 (.inr (.inr h8)))
  rcases tE.1 hs0 with ⟨hroute,hs0⟩ | ⟨hroute,hs0⟩
  ·simp at hs0
   subst hs0
   simp only [Bool.or_eq_true] at hroute
   rcases hroute with hemp | hmi
   ·-- nothing is borrowed
    have hB2:B.2 = [] :=by simpa using hemp
    have hFb0:Fb = [] :=by
     have :=bors
     rw [hB2] at this
     exact this
    subst hFb0
    rw [orIn_nil] at zz zfrom
    exact fin Z Z' fp1 i1 (fun _ _ h =>h) (fun _ _ =>rfl) (fun c hc =>(kmine c hc).2.2) (fun c h =>.inl h) (fun _ h =>h) zz hresR houts (fun c hc =>(hmine c hc).2.2) zfrom zok'
   ·-- all that comes back is its own
    simp only [Res.mine,Bool.and_eq_true] at hmi
    have hZ':∀ c,Z c→Z' c :=fun c hz =>zz c (.inl hz)
    exact fin Z Z fp1 i1 (fun _ _ h =>h) (fun _ _ =>rfl) (fun c hc =>(kmine c hc).2.2) (fun c h =>.inl h) (fun _ h =>h) (fun _ h =>h) (hresR.mine hmi.1) (houts.turn (fun o ho get G hr =>RL.mine o hr (mineRows_spec hmi.2 o ho)))
     (fun c hc hz =>(hmine c hc).2.2 (hZ' c hz)) (fun c hz =>.inl hz) (fun c hz =>zok' c (hZ' c hz))
  ·rcases tE.1 hs0 with ⟨hdist,hs0⟩ | ⟨_,hs0⟩
   case inr =>cases hs0
   obtain ⟨fpf,Fz,i2,z1,z2,l2,sub2,o2⟩ :=freezeAll_rep i1 bors hdist hs0
   have hFzK:∀ c ∈ Fz,c ∉ K :=fun c hc hk =>by
    obtain ⟨b,hb,hm⟩ :=z2 c hc
    exact kb c hk b hb hm
   have hFzold:∀ c ∈ Fz,(gcell w c).isSome = true :=fun c hc =>by
    obtain ⟨b,hb,hm⟩ :=z2 c hc
    exact (i1.mine b.1 c hm).1
   have hmono:∀ c,Z' c→orIn Z' Fz c :=fun c h =>.inl h
   refine fin (orIn Z Fz) (orIn Z' Fz) fpf i2 sub2 (fun t ht =>(o2 t (fun b hb e =>hbr b hb (e ▸ ht))).1) (fun c hk hz =>hz.elim (kmine c hk).2.2 (fun hf =>hFzK c hf hk)) (fun c hz =>hz.imp id (fun hf =>by
     obtain ⟨b,hb,hm⟩ :=z2 c hf
     exact ⟨b.1,sub1 b.1 c hm⟩)) (fun c h =>.inl h) (fun c hz =>hz.imp (fun h =>zz c (.inl h)) id) (hresR.mono hmono) (houts.turn (fun o _ get G hr =>RL.same (w' :=w') hmono o hr (fun _ _ =>rfl) (fun _ _ =>rfl)))
     (fun c hc hz =>hz.elim (hmine c hc).2.2 (fun hf =>(hfrom c hc).elim (hFzK c hf) (fun h8 =>by have :=cell_lt (hFzold c hf); omega)))
     (fun c hz =>hz.elim (fun hz =>(zfrom c hz).elim (fun hz =>.inl (hz.imp id (z1 c))) .inr) (fun hf =>.inl (.inr hf))) (fun c hz =>hz.elim (zok' c) (fun hf =>goes.some c (hFzold c hf)))
end
end Go.Sx

/- Closures: calls. -/
namespace Go.Sx
section
variable {P:Program} {E:Env} {w:World} {Z:CA→Prop} {a:Act}

theorem CapR.mono {w:World} {Z Z':CA→Prop} (hZ:∀ c,Z c→Z' c) {caps:List (List C)} {us:List Value} (h:CapR w Z caps us):CapR w Z' caps us :=h.same hZ (fun _ _ =>rfl)
theorem CapR.args {w:World} {Z:CA→Prop}:∀ {caps:List (List C)} {us:List Value},CapR w Z caps us→ARs w Z (capsS caps) us []
 | [],[],_ =>rfl
 | _ :: _,_ :: _,⟨⟨b,o,hu,h,hz⟩,h2⟩ =>⟨[],[],⟨rfl,b,o,hu,h,hz⟩,h2.args,rfl⟩
 | [],_ :: _,h =>h.elim
 | _ :: _,[],h =>h.elim
theorem ARs.length {w:World} {Z:CA→Prop}:∀ {xs:List S} {vs:List Value} {F:List CA},ARs w Z xs vs F→xs.length = vs.length
 | [],[],_,_ =>rfl
 | _ :: _,_ :: _,_,⟨_,_,_,h,_⟩ =>by simp [h.length]
 | [],_ :: _,_,h =>h.elim
 | _ :: _,[],_,h =>h.elim
theorem ARs.caps {w:World} {Z:CA→Prop} {caps:List (List C)} {us:List Value} (hc:CapR w Z caps us):∀ {xs:List S} {vs:List Value} {F:List CA},ARs w Z xs vs F→ARs w Z (xs ++ capsS caps) (vs ++ us) F
 | [],[],F,h =>by
  have:F = [] :=h
  subst this
  exact hc.args
 | _ :: _,_ :: _,_,⟨F1,F2,h1,h2,hF⟩ =>⟨F1,F2,h1,h2.caps hc,hF⟩
 | [],_ :: _,_,h =>h.elim
 | _ :: _,[],_,h =>h.elim
theorem OutsRep.caps0 {w:World} {Z:CA→Prop}:∀ {caps:List (List C)} {us:List Value} {os:List (List C)} {F G:List CA},OutsRep w Z (capsS caps) us [] os F G→os = []∧F = []∧G = []
 | [],[],_,_,_,h =>h
 | _ :: _,_ :: _,_,_,_,h =>OutsRep.caps0 (by simpa [capsS,OutsRep,S.isBox,headM,Mode.isIo] using h)
 | [],_ :: _,_,_,_,h =>h.elim
 | _ :: _,[],_,_,_,h =>h.elim
theorem OutsRep.caps {w:World} {Z:CA→Prop} {caps:List (List C)} {us:List Value}:∀ {xs:List S} {vs:List Value} {ms:List Mode} {os:List (List C)} {F G:List CA},xs.length = vs.length→ms.length≤xs.length →
  OutsRep w Z (xs ++ capsS caps) (vs ++ us) ms os F G→OutsRep w Z xs vs ms os F G
 | [],[],ms,os,F,G,_,hm,h =>by
  have:ms = [] :=List.eq_nil_of_length_eq_zero (by simpa using hm)
  subst this
  exact OutsRep.caps0 h
 | x :: xs,v :: vs,ms,os,F,G,hl,hm,h =>by
  have hl':xs.length = vs.length :=by simpa using hl
  have hm':ms.tail.length≤xs.length :=by cases ms <;> simp at hm ⊢; exact hm
  simp only [List.cons_append,OutsRep] at h ⊢
  split at h
  ·rename_i hx
   rw [if_pos hx]
   obtain ⟨o,os',F1,F2,G1,G2,h1,h2,h3,h4,h5⟩ :=h
   exact ⟨o,os',F1,F2,G1,G2,h1,h2,OutsRep.caps hl' hm' h3,h4,h5⟩
  ·rename_i hx
   rw [if_neg hx]
   exact OutsRep.caps hl' hm' h
 | [],_ :: _,_,_,_,_,h,_,_ =>by simp at h
 | _ :: _,[],_,_,_,_,h,_,_ =>by simp at h

theorem callClo_runs (hT:TOk P E) {call:Sem1} {caps:List (List C)} {us:List Value} (hus:CapR w Z caps us) {f:FuncId} (hc:CallOk P E call f) {s:St} {fp:Tmp→List CA} (h:Inv w Z (Act.tm a) s fp) {xs:List Operand} {tys:List TypeId} {s':St} {r:S} (he:callClo E call f caps xs tys s = some (s',r)) :
  Calls P f (xs.map a.eval ++ us).toArray w fun
   | .returned v,w' =>Brings w Z (Act.tm a) fp s' r v w'
   | .panicked _,_ =>False
   | .outgrown,_ =>False :=by
 obtain ⟨A,hA,he1⟩ :=bE.1 (show bnd (argsOf E xs tys (E.ann f).modes s) _ = some (s',r) from he)
 rcases tE.1 he1 with ⟨hfd,he2⟩ | ⟨_,he2⟩
 case inr =>cases he2
 obtain ⟨B,hB,he3⟩ :=bE.1 he2
 rcases tE.1 he3 with ⟨hnc2,he4⟩ | ⟨_,he4⟩
 case inr =>cases he4
 simp only [Bool.and_eq_true,decide_eq_true_eq] at hnc2
 obtain ⟨hnc,hmod⟩ :=hnc2
 obtain ⟨res,hres,he5⟩ :=bE.1 he4
 obtain ⟨s0,hs0,he6⟩ :=bE.1 he5
 obtain ⟨s2,hs2,he7⟩ :=bE.1 he6
 simp at he7
 obtain ⟨rfl,rfl⟩ :=he7
 simp only [Bool.and_eq_true] at hfd
 have hst :=freshB_spec hfd.1
 have hrt :=distinctB_spec hfd.2
 have hbr :=noClash_spec hnc
 obtain ⟨fp1,F,i1,l1,items,nF,mF,apF,sub1,fromF⟩ :=argsOf_rep hT h hA
 obtain ⟨Fb,K,bors,ars,nK,kfrom⟩ :=borrow_rep i1 items nF apF hB hst hrt
 have hFb :=bors.from_
 have hlen :=ars.length
 have hmod2:(E.ann f).modes.length≤B.1.length :=by rw [hlen]; simpa using hmod
 have ars :=ars.caps (hus.mono (fun c h =>(.inl h:orIn Z Fb c)))
 -- what K is
 have kmine:∀ c ∈ K,Mine w Z c :=fun c hc =>(kfrom c hc).elim (mF c) (fun ⟨r,b,p,n,hw,hs⟩ =>i1.mine r c ((hw.fp i1).2 c hs))
 have koff:∀ c ∈ K,∀ t,c ∈ fp1 t→∃ b p n,WB w (Act.tm a) A.s A.backs t b p n∧c ∈ span (b,p) n :=by
  intro c hc t ht
  rcases kfrom c hc with h8 | ⟨r,b,p,n,hw,hs⟩
  ·exact absurd ht (apF t c h8)
  ·by_cases e:r = t
   ·subst e; exact ⟨b,p,n,hw,hs⟩
   ·exact absurd ht (i1.disj r t e c ((hw.fp i1).2 c hs))
 have kb:∀ c ∈ K,∀ b ∈ B.2,c ∉ fp1 b.1 :=fun c hc b hb hm =>by
  obtain ⟨_,_,_,hw,_⟩ :=koff c hc b.1 hm
  exact hbr b hb (hw.fp i1).1
 have kcell:∀ c ∈ K,(gcell w c).isSome = true :=fun c hc =>(kmine c hc).1
 have kfp:∀ c ∈ K,∃ t,c ∈ fp t :=fun c hc =>(kfrom c hc).elim (fromF c) (fun ⟨r,b,p,n,hw,hs⟩ =>⟨r,sub1 r c ((hw.fp i1).2 c hs)⟩)
 refine Calls.mono (hc (B.1 ++ capsS caps) (xs.map a.eval ++ us) w (orIn Z Fb) K res hres ars nK (fun c hc =>⟨(kmine c hc).1,(kmine c hc).2.1,fun hz =>hz.elim (kmine c hc).2.2 (fun hf =>by
  obtain ⟨b,hb,hm⟩ :=hFb c hf
  exact kb c hc b hb hm)⟩) (fun c hz =>hz.elim (i1.zok c) (fun hf =>by
  obtain ⟨b,_,hm⟩ :=hFb c hf
  exact (i1.mine b.1 c hm).1))) (fun e w' hR =>?_)
 cases e with
 | panicked _ =>exact hR
 | outgrown =>exact hR
 | returned v =>
  obtain ⟨Z',F1,F2,G,goes,zz,zfrom,zok',hresR,houts,hnd,hmine,hfrom⟩ :=hR
  have houts :=OutsRep.caps hlen hmod2 houts
  -- the end
  have fin:∀ (Zp Zf:CA→Prop) (fpf:Tmp→List CA),Inv w Zp (Act.tm a) s0 fpf→(∀ t,∀ c ∈ fpf t,c ∈ fp1 t)→(∀ t ∈ roots A.backs,look s0.sl t = look A.s.sl t)→(∀ c ∈ K,¬ Zp c)→(∀ c,Zp c→Z c∨∃ t,c ∈ fp t)→(∀ c,Z c→Zp c)→(∀ c,Zp c→Zf c) →
    ResRep w' Zf res.vals v F1→OutsRep w' Zf B.1 (xs.map a.eval) (E.ann f).modes res.outs F2 G→(∀ c ∈ F1 ++ F2 ++ G,¬ Zf c)→(∀ c,Zf c→Zp c∨c ∈ K∨w.heap.size≤c.1)→(∀ c,Zf c→(gcell w' c).isSome = true) →
    Brings w Z (Act.tm a) fp s2 (S.ofVals res.vals) v w' :=by
   intro Zp Zf fpf hinv hsub hlk hZpK hZp hZZp hZf hrr hoo hnZ hZfrom hZfok
   have hmem:∀ c,c ∈ F1 ++ F2 ++ G↔c ∈ F1∨c ∈ F2∨c ∈ G :=fun c =>by simp [or_assoc]
   have hspF2 :=outs_spans items hB hrt hst hoo
   have hK2:∀ c ∈ K,∀ t,c ∈ fp1 t→c ∈ F2∧t ∈ roots A.backs :=fun c hc t ht =>by
    obtain ⟨b,p,n,hw,hs⟩ :=koff c hc t ht
    exact ⟨hspF2 t b p n hw c hs,(hw.fp i1).1⟩
   rw [List.nodup_append,List.nodup_append] at hnd
   have old:∀ {c:CA} {t:Tmp},c ∈ fp1 t→c.1 < w.heap.size :=fun {c t} hc =>cell_lt (i1.mine t c hc).1
   have hGap:∀ t,∀ c ∈ G,c ∉ fpf t :=fun t c hc hm =>by
    have hm1 :=hsub t c hm
    rcases hfrom c ((hmem c).2 (.inr (.inr hc))) with h8 | h8
    ·exact hnd.2.2 c (List.mem_append_right _ (hK2 c h8 t hm1).1) c hc rfl
    ·have :=old hm1; omega
   have hF1ap:∀ t,∀ c ∈ F1,c ∉ fpf t :=fun t c hc hm =>by
    have hm1 :=hsub t c hm
    rcases hfrom c ((hmem c).2 (.inl hc)) with h8 | h8
    ·exact hnd.1.2.2 c hc c (hK2 c h8 t hm1).1 rfl
    ·have :=old hm1; omega
   obtain ⟨fp'',p⟩ :=putBacks_rep (sA :=A.s) (s0 :=s0) (sf :=s0) hinv goes hZf hZpK items hB hrt hst (fun t ht =>⟨hlk t ht,hlk t ht⟩)
    (fun r b p n hw c hc hm =>by
     obtain ⟨b',p',n',hw',hs'⟩ :=koff c hc r (hsub r c hm)
     obtain ⟨rfl,rfl,rfl⟩ :=hw.unique hrt hw'
     exact hs')
    (fun r off el n k hm c hc hm2 =>by
     obtain ⟨b',p',n',⟨_,_,_,_,_,_,_,_,hm',_⟩,_⟩ :=koff c hc r (hsub r c hm2)
     have :=(at_unique hrt hm hm').2.2.2.1
     cases this) hoo hnd.2.1 hGap hs2
   let fp3:Tmp→List CA :=fun t =>if t ∈ roots A.backs then fp'' t else fpf t
   have hKoff:∀ t,t ∉ roots A.backs→∀ c ∈ fpf t,c ∉ K :=fun t ht c hc hk =>ht (hK2 c hk t (hsub t c hc)).2
   have hmineF:∀ c ∈ F1 ++ F2 ++ G,Mine w' Zf c :=fun c hc =>⟨(hmine c hc).1,(hmine c hc).2.1,hnZ c hc⟩
   have hmineK:∀ t,∀ c ∈ fpf t,c ∉ K→Mine w' Zf c :=fun t c hc hk =>⟨goes.some c (hinv.mine t c hc).1,by rw [goes.fro c (cell_lt (hinv.mine t c hc).1)]; exact (hinv.mine t c hc).2.1,fun hz =>by
    rcases hZfrom c hz with h8 | h8 | h8
    ·exact (hinv.mine t c hc).2.2 h8
    ·exact hk h8
    ·have :=cell_lt (hinv.mine t c hc).1; omega⟩
   have hmineT:∀ t,∀ c ∈ fpf t,Mine w' Zf c :=fun t c hc =>by
    by_cases hk:c ∈ K
    ·exact hmineF c ((hmem c).2 (.inr (.inl (hK2 c hk t (hsub t c hc)).1)))
    ·exact hmineK t c hc hk
   have hfp3:∀ t,∀ c ∈ fp3 t,c ∈ fpf t∨c ∈ G :=fun t c hc =>by
    by_cases ht:t ∈ roots A.backs
    ·simp only [fp3,if_pos ht] at hc; exact p.sub t ht c hc
    ·simp only [fp3,if_neg ht] at hc; exact .inl hc
   have hinv3:Inv w' Zf (Act.tm a) s2 fp3 :=by
    refine hinv.upds hZf p.cnt (fun t =>?_) (fun t =>?_) (fun t u htu c hc =>?_) (fun t c hc =>?_) hZfok
    ·by_cases ht:t ∈ roots A.backs
     ·right
      have :=p.rep t ht
      simp only [fp3,if_pos ht]
      exact this
     ·left
      refine ⟨p.off t ht,by simp only [fp3,if_neg ht],goes.same (fun c hc =>⟨hc.elim (fun hc =>(hinv.mine t c hc).1) (hinv.zok c),fun hk =>hc.elim (fun hc =>hKoff t ht c hc hk) (fun hz =>hZpK c hk hz)⟩)⟩
    ·by_cases ht:t ∈ roots A.backs
     ·simp only [fp3,if_pos ht]; exact p.nd t ht
     ·simp only [fp3,if_neg ht]; exact hinv.nd t
    ·by_cases ht:t ∈ roots A.backs <;> by_cases hu:u ∈ roots A.backs
     ·simp only [fp3,if_pos ht] at hc
      simp only [fp3,if_pos hu]
      exact p.disj t ht u hu htu c hc
     ·simp only [fp3,if_neg hu]
      intro hm
      rcases hfp3 t c hc with h8 | h8
      ·exact hinv.disj t u htu c h8 hm
      ·exact hGap u c h8 hm
     ·simp only [fp3,if_neg ht] at hc
      intro hm
      rcases hfp3 u c hm with h8 | h8
      ·exact hinv.disj t u htu c hc h8
      ·exact hGap t c h8 hc
     ·simp only [fp3,if_neg ht] at hc
      simp only [fp3,if_neg hu]
      exact hinv.disj t u htu c hc
    ·exact (hfp3 t c hc).elim (hmineT t c) (fun h8 =>hmineF c ((hmem c).2 (.inr (.inr h8))))
   have hnew:∀ c,c ∈ F1 ++ F2 ++ G→(∃ t,c ∈ fp t)∨w.heap.size≤c.1 :=fun c hc =>(hfrom c hc).imp (kfp c) id
   refine ⟨Zf,fp3,F1,{ goes :=goes.mono kfp,zz :=fun c hz =>hZf c (hZZp c hz),zfrom :=fun c hz =>?_,inv :=hinv3,rep :=(hrr.rep _ _).1,lt :=(hrr.rep [] (Act.tm a)).2 _,nd :=hnd.1.1,mine :=fun c hc =>hmineF c ((hmem c).2 (.inl hc)),apart :=fun t c hc hm =>?_,from_ :=fun c hc =>?_ }⟩
   ·rcases hZfrom c hz with h8 | h8 | h8
    ·exact (hZp c h8).imp id .inl
    ·exact .inr (.inl (kfp c h8))
    ·exact .inr (.inr h8)
   ·rcases hfp3 t c hm with h8 | h8
    ·exact hF1ap t c hc h8
    ·exact hnd.2.2 c (List.mem_append_left _ hc) c h8 rfl
   ·rcases hc with hc | ⟨t,hc⟩
    ·exact hnew c ((hmem c).2 (.inl hc))
    ·rcases hfp3 t c hc with h8 | h8
     ·exact .inl ⟨t,sub1 t c (hsub t c h8)⟩
     ·exact hnew c ((hmem c).2 (.inr (.inr h8)))
  rcases tE.1 hs0 with ⟨hroute,hs0⟩ | ⟨hroute,hs0⟩
  ·simp at hs0
   subst hs0
   simp only [Bool.or_eq_true] at hroute
   rcases hroute with hemp | hmi
   ·-- nothing is borrowed
    have hB2:B.2 = [] :=by simpa using hemp
    have hFb0:Fb = [] :=by
     have :=bors
     rw [hB2] at this
     exact this
    subst hFb0
    rw [orIn_nil] at zz zfrom
    exact fin Z Z' fp1 i1 (fun _ _ h =>h) (fun _ _ =>rfl) (fun c hc =>(kmine c hc).2.2) (fun c h =>.inl h) (fun _ h =>h) zz hresR houts (fun c hc =>(hmine c hc).2.2) zfrom zok'
   ·-- all that comes back is its own
    simp only [Res.mine,Bool.and_eq_true] at hmi
    have hZ':∀ c,Z c→Z' c :=fun c hz =>zz c (.inl hz)
    exact fin Z Z fp1 i1 (fun _ _ h =>h) (fun _ _ =>rfl) (fun c hc =>(kmine c hc).2.2) (fun c h =>.inl h) (fun _ h =>h) (fun _ h =>h) (hresR.mine hmi.1) (houts.turn (fun o ho get G hr =>RL.mine o hr (mineRows_spec hmi.2 o ho)))
     (fun c hc hz =>(hmine c hc).2.2 (hZ' c hz)) (fun c hz =>.inl hz) (fun c hz =>zok' c (hZ' c hz))
  ·rcases tE.1 hs0 with ⟨hdist,hs0⟩ | ⟨_,hs0⟩
   case inr =>cases hs0
   obtain ⟨fpf,Fz,i2,z1,z2,l2,sub2,o2⟩ :=freezeAll_rep i1 bors hdist hs0
   have hFzK:∀ c ∈ Fz,c ∉ K :=fun c hc hk =>by
    obtain ⟨b,hb,hm⟩ :=z2 c hc
    exact kb c hk b hb hm
   have hFzold:∀ c ∈ Fz,(gcell w c).isSome = true :=fun c hc =>by
    obtain ⟨b,hb,hm⟩ :=z2 c hc
    exact (i1.mine b.1 c hm).1
   have hmono:∀ c,Z' c→orIn Z' Fz c :=fun c h =>.inl h
   refine fin (orIn Z Fz) (orIn Z' Fz) fpf i2 sub2 (fun t ht =>(o2 t (fun b hb e =>hbr b hb (e ▸ ht))).1) (fun c hk hz =>hz.elim (kmine c hk).2.2 (fun hf =>hFzK c hf hk)) (fun c hz =>hz.imp id (fun hf =>by
     obtain ⟨b,hb,hm⟩ :=z2 c hf
     exact ⟨b.1,sub1 b.1 c hm⟩)) (fun c h =>.inl h) (fun c hz =>hz.imp (fun h =>zz c (.inl h)) id) (hresR.mono hmono) (houts.turn (fun o _ get G hr =>RL.same (w' :=w') hmono o hr (fun _ _ =>rfl) (fun _ _ =>rfl)))
     (fun c hc hz =>hz.elim (hmine c hc).2.2 (fun hf =>(hfrom c hc).elim (hFzK c hf) (fun h8 =>by have :=cell_lt (hFzold c hf); omega)))
     (fun c hz =>hz.elim (fun hz =>(zfrom c hz).elim (fun hz =>.inl (hz.imp id (z1 c))) .inr) (fun hf =>.inl (.inr hf))) (fun c hz =>hz.elim (zok' c) (fun hf =>goes.some c (hFzold c hf)))

theorem capsOf_rep (hT:TOk P E) {s:St} {fp:Tmp→List CA} (h:Inv w Z (Act.tm a) s fp):∀ {xs:List Operand} {caps:List (List C)},capsOf E s xs = some caps→CapR w Z caps (xs.map a.eval)
 | [],caps,he =>by
  simp [capsOf] at he
  subst he
  trivial
 | x :: xs,caps,he =>by
  obtain ⟨v,hv,he1⟩ :=bE.1 (show bnd (rd E 0 s x) _ = some caps from he)
  obtain ⟨z,hz,he2⟩ :=bE.1 he1
  obtain ⟨l,hl,he3⟩ :=bE.1 he2
  simp at he3
  subst he3
  refine ⟨?_,capsOf_rep hT h hl⟩
  obtain ⟨rv,_⟩ :=rd_rep hT h hv
  cases v with
  | rp cs =>
   simp [capV] at hz
   subst hz
   exact rv.2
  | ptr r g off el =>
   cases el with
   | some _ =>simp [capV] at hz
   | none =>
    simp only [capV] at hz
    split at hz
    ·rename_i k cs hlk
     obtain ⟨hk,hd⟩ :=tE.1 hz |>.resolve_right (fun h =>by cases h.2)
     simp only [Bool.and_eq_true,decide_eq_true_eq] at hk
     obtain ⟨rfl,hfr⟩ :=hk
     have hptr :=rv.2 cs (by rw [hlk]; simp [S.rootR])
     obtain ⟨b,o,htv,hv'⟩ :=hptr
     have hrep :=h.rep r
     rw [hlk] at hrep
     obtain ⟨b',o',htv',hr,hzz⟩ :=hrep
     rw [htv] at htv'
     simp at htv'
     obtain ⟨rfl,rfl⟩ :=htv'
     have hF :=hr.free hfr
     rw [hF] at hr
     obtain ⟨pre,hp,hn⟩ :=dropL_eq hd
     rw [hp] at hr
     obtain ⟨F1,F2,h1,h2,hF2⟩ :=RL.split hr
     obtain ⟨_,rfl⟩ :=app_nil hF2
     refine ⟨b,o + off,hv',?_,fun c hc =>hzz c ?_⟩
     ·have e:(fun i =>cell w (b,o + off + i)) = fun i =>cell w (b,o + (i + pre.length)) :=by
       funext j
       congr 2
       omega
      rw [e]
      exact h2
     ·rw [mem_span] at hc ⊢
      rw [hp]
      simp only [List.length_append] at hc ⊢
      omega
    ·cases hz
  | _ =>simp [capV] at hz

theorem makeFunc_runs (hT:TOk P E) {s:St} {fp:Tmp→List CA} {ty:TypeId} (h:Inv w Z (Act.tm a) s fp) {call:Sem1} {f:FuncId} {first caps:Array Operand} {s':St} {r:S} (he:ev1 E call ty s (.makeFunc (.func f) first caps) = some (s',r)) :
  Runs P a (.makeFunc (.func f) first caps) ty w (Brings w Z (Act.tm a) fp s' r) :=by
 have he2:makeF E s f first.toList caps.toList = some (s',r) :=he
 match hf:first.toList with
 | _ :: _ =>rw [hf] at he2; simp [makeF] at he2
 | [] =>
  rw [hf] at he2
  obtain ⟨l,hl,he3⟩ :=bE.1 (show bnd (capsOf E s caps.toList) _ = some (s',r) from he2)
  simp at he3
  obtain ⟨rfl,rfl⟩ :=he3
  have hc :=capsOf_rep hT h hl
  have hfe:first = #[] :=by
   apply Array.ext'
   simpa using hf
  subst hfe
  refine runs_still h (x :=.fn f l) (v :=.func (.func f) #[] (caps.map a.eval)) ⟨rfl,caps.toList.map a.eval,?_,hc⟩ trivial (fun o h1 h2 =>?_)
  ·congr 1
   apply Array.ext'
   simp
  ·simp [execOp,h1,Instr.makeFunc]
end
end Go.Sx

/- One operation of a region; a region that keeps its order. -/
namespace Go.Sx

def Callable (P:Program) (f:FuncId):Prop :=∃ fn,P.funcs[f]? = some fn∧(fn.name == "runtime.NumGoroutine") = false∧fn.body.isNone = false

section
variable {P:Program} {E:Env} {w:World} {Z:CA→Prop} {a:Act} {s:St} {fp:Tmp→List CA}

theorem wp_of_runs {o:Oper} {R:Value→World→Prop} {K:Act→World→Prop} {Q:Exit→Act→World→Prop} (h:Runs P a o.op o.type w R) (hK:∀ v w',R v w'→K (a.put o.dst v) w'):o.wp P a w K Q :=by
 obtain ⟨v,w',hR,hrun⟩ :=h
 unfold Oper.wp
 rcases hrun o rfl rfl with e | ⟨e,rfl⟩
 ·rw [e]; exact hK v w' hR
 ·rw [e]; exact hK undef w' hR

theorem TR.bor {w:World} {Z Z':CA→Prop} (hZ:∀ c,Z c→Z' c):∀ {vs:List (Bool × List C)} {us:List Value} {F:List CA},TR w Z vs us F→(∀ c ∈ F,Z' c)→TR w Z' (borT vs) us []
 | [],[],_,_,_ =>rfl
 | z :: r,u :: us,F,h,hz =>by
  obtain ⟨ws,F1,F2,hp,hl,hr,ht,hF⟩ :=h
  subst hF
  exact ⟨ws,[],[],hp,by simp only [borRow_length]; exact hl,RL.bor hZ _ hr (fun c hc =>hz c (List.mem_append_left _ hc)),ht.bor hZ (fun c hc =>hz c (List.mem_append_right _ hc)),rfl⟩
 | [],_ :: _,_,h,_ =>h.elim
 | _ :: _,[],_,h,_ =>h.elim
theorem Done.frozen {w w':World} {Z Z':CA→Prop} {tm:Tmp→Value} {fp fp':Tmp→List CA} {s':St} {v:Value} {F:List CA} {x y:S} (D:Done w Z tm fp w' Z' s' fp' v F x) (hy:Rep w' (orIn Z' F) s'.sl tm v [] y) (hl:y.linksLt s'.cnt):Done w Z tm fp w' (orIn Z' F) s' fp' v [] y where
 goes :=D.goes
 zz c h :=.inl (D.zz c h)
 zfrom c h :=h.elim (D.zfrom c) (fun h =>.inr (D.from_ c (.inl h)))
 inv :=D.inv.world (fun c h =>.inl h) (fun _ _ _ =>rfl) (fun t c hc =>⟨(D.inv.mine t c hc).1,(D.inv.mine t c hc).2.1,fun hz =>hz.elim (D.inv.mine t c hc).2.2 (fun h =>D.apart t c h hc)⟩) (fun c hc =>hc.elim (D.inv.zok c) (fun h =>(D.mine c h).1))
 rep :=hy
 lt :=hl
 nd :=List.nodup_nil
 mine :=by simp
 apart :=by simp
 from_ c h :=h.elim (by simp) (fun h =>D.from_ c (.inr h))
theorem Brings.frV {w w':World} {Z:CA→Prop} {tm:Tmp→Value} {fp:Tmp→List CA} {s':St} {v:Value} {x:S} (h:Brings w Z tm fp s' x v w') (b:Bool):Brings w Z tm fp s' (Sx.frV b x) v w' :=by
 cases b with
 | false =>exact h
 | true =>
  obtain ⟨Z',fp',F,D⟩ :=h
  cases x with
  | val g a cs =>
   obtain ⟨vs,hp,hl,hr⟩ :=D.rep
   exact ⟨_,_,_,D.frozen ⟨vs,hp,by rw [borRow_length]; exact hl,RL.bor (fun c h =>.inl h) cs hr (fun c h =>.inr h)⟩ trivial⟩
  | tup vs =>
   obtain ⟨us,hv,ht⟩ :=D.rep
   exact ⟨_,_,_,D.frozen ⟨us,hv,ht.bor (fun c h =>.inl h) (fun c h =>.inr h)⟩ trivial⟩
  | _ =>exact ⟨Z',fp',F,D⟩

theorem op_wp (hT:TOk P E) (hE:EqOk P E) {call:Sem1} (hC:∀ f,CallOk P E call f) (hF:∀ f args res,call f args = some res→Callable P f) (h:Inv w Z (Act.tm a) s fp) {o:Oper} {s':St} {r:S} (he:ev1 E call o.type s o.op = some (s',r))
  {K:Act→World→Prop} {Q:Exit→Act→World→Prop} (hK:∀ v w',Brings w Z (Act.tm a) fp s' r v w'→K (a.put o.dst v) w'):o.wp P a w K Q :=by
 have go:Runs P a o.op o.type w (Brings w Z (Act.tm a) fp s' r)→o.wp P a w K Q :=fun hr =>wp_of_runs hr hK
 cases hop:o.op <;> rw [hop] at he go
 case move x =>exact go (move_runs hT h he)
 case assign x =>exact go (assign_runs hT h he)
 case pick c x y =>exact go (pick_runs hT h he)
 case alloc t =>exact go (alloc_runs hT h he)
 case box t x =>exact go (box_runs hT h he)
 case load t x =>exact go (load_runs hT h he)
 case store t x y =>exact go (store_runs hT h he)
 case nilCheck x =>exact go (nil_runs hT h he)
 case binOp op t x y yt =>exact go (bin_runs hT hE h he)
 case unOp op t x =>exact go (un_runs hT h he)
 case fieldAddr t x f =>exact go (fieldAddr_runs hT h he)
 case indexAddr t x ix =>exact go (indexAddr_runs hT h he)
 case index t x ix =>exact go (index_runs hT h he)
 case extract x i =>
  cases x with
  | tmp t =>exact go (extract_runs h he)
  | _ =>simp [ev1] at he
 case build t parts =>exact go (build_runs hT h he)
 case buildSlice t n parts =>exact go (buildSlice_runs hT h he)
 case makeSlice t x y =>exact go (makeSlice_runs hT h he)
 case slice t x lo hi mx =>
  cases mx with
  | none =>exact go (slice_runs hT h he)
  | some _ =>simp [ev1] at he
 case convert t b x =>exact go (convert_runs hT h he)
 case call c =>
  obtain ⟨callee,args,tys⟩ :=c
  cases callee with
  | builtin b =>
   have he2:builtinS E s b args.toList tys.toList = some (s',r) :=he
   match ha:args.toList,ht:tys.toList with
   | [x],[t] =>
    rw [ha,ht] at he2
    cases b <;> simp only [builtinS] at he2 <;> first | (cases he2; done) | skip
    ·exact go (clear_runs hT h ha ht he)
    ·exact go (len_runs hT h ha ht he)
   | [x,y],[t,u] =>
    rw [ha,ht] at he2
    cases b <;> simp only [builtinS] at he2 <;> first | (cases he2; done) | skip
    ·exact go (append_runs hT h ha ht he)
    ·exact go (maxmin_runs hT h ha ht (.inl rfl) he)
    ·exact go (maxmin_runs hT h ha ht (.inr rfl) he)
   | [],_ =>rw [ha] at he2; simp [builtinS] at he2
   | [_],[] =>rw [ha,ht] at he2; simp [builtinS] at he2
   | [_],_ :: _ :: _ =>rw [ha,ht] at he2; simp [builtinS] at he2
   | [_,_],[] =>rw [ha,ht] at he2; simp [builtinS] at he2
   | [_,_],[_] =>rw [ha,ht] at he2; simp [builtinS] at he2
   | [_,_],_ :: _ :: _ :: _ =>rw [ha,ht] at he2; simp [builtinS] at he2
   | _ :: _ :: _ :: _,_ =>rw [ha] at he2; simp [builtinS] at he2
  | value x =>
   cases x with
   | func f =>
    have he1:callE E call f args.toList tys.toList s (E.ann f).ext = some (s',r) :=he
    cases hx:(E.ann f).ext with
    | true =>
     rw [hx] at he1
     have he1:extS E s args.toList = some (s',r) :=he1
     match ha:args.toList with
     | [x,y] =>
      rw [ha] at he1
      obtain ⟨u,hu,he3⟩ :=bE.1 (show bnd (rd E 0 s x) _ = some (s',r) from he1)
      obtain ⟨v,hv,he4⟩ :=bE.1 he3
      obtain ⟨q,hq,he5⟩ :=bE.1 he4
      simp at he5
      obtain ⟨rfl,rfl⟩ :=he5
      obtain ⟨p1,hp1,hq1⟩ :=bE.1 (show bnd u.prim _ = some q from hq)
      obtain ⟨p2,hp2,hq2⟩ :=bE.1 hq1
      have e1 :=(prim_val (rd_rep hT h hu).1 hp1).1
      have e2 :=(prim_val (rd_rep hT h hv).1 hp2).1
      cases p1 <;> cases p2 <;> simp at hq2
      subst hq2
      have hargs:args = #[x,y] :=by
       apply Array.ext'
       rw [ha]
      subst hargs
      refine go (runs_still h (x :=.val 0 false [.p (.int .i64 (cmpS _ _))]) (v :=.int .i64 (cmpS _ _)) (rep_one rfl) trivial (fun oo h1 h2 =>?_))
      have hcf :=hE.2 f hx w
      have r1:(resolve a.eval { callee :=.value (.func f),args :=#[x,y],argTypes :=tys } oo.type).run P w = .ok { target :=.fn (.func f) #[],args :=#[a.eval x,a.eval y] } w :=by
       simp [resolve,Deferred.ofValue,Act.eval]
      simp only [execOp,h1,Sem.run_bind,r1,Result.andThen_ok,e1,e2,invoke,Array.append_empty]
      exact hcf _ _
     | [] =>rw [ha] at he1; simp [extS] at he1
     | [_] =>rw [ha] at he1; simp [extS] at he1
     | _ :: _ :: _ :: _ =>rw [ha] at he1; simp [extS] at he1
    | false =>
    rw [hx] at he1
    obtain ⟨q0,he2,he0⟩ :=bE.1 (show bnd (callOf E call f args.toList tys.toList s) _ = some (s',r) from he1)
    simp at he0
    obtain ⟨e0,er⟩ :=he0
    have hcalls :=callOf_runs hT (hC f) h he2
    have hcal:Callable P f :=by
     obtain ⟨A,hA,he1⟩ :=bE.1 (show bnd (argsOf E args.toList tys.toList (E.ann f).modes s) _ = some q0 from he2)
     rcases tE.1 he1 with ⟨_,he2⟩ | ⟨_,he2⟩
     case inr =>cases he2
     obtain ⟨B,hB,he3⟩ :=bE.1 he2
     rcases tE.1 he3 with ⟨_,he4⟩ | ⟨_,he4⟩
     case inr =>cases he4
     obtain ⟨res,hres,_⟩ :=bE.1 he4
     exact hF f _ _ hres
    obtain ⟨fn,h1,h2,h3⟩ :=hcal
    have hrun:(execOp a.eval o).run P w = .ok (.enter f (args.map a.eval)) w :=by
     have h2':fn.name ≠ "runtime.NumGoroutine" :=by simpa using h2
     have h3':¬ fn.body = none :=fun e =>by rw [e] at h3; cases h3
     simp [execOp,hop,resolve,Deferred.ofValue,Act.eval,invoke,callFunc,h1,h2',h3']
    unfold Oper.wp
    rw [hrun]
    rw [Oper.upon_enter]
    have e:(args.toList.map a.eval).toArray = args.map a.eval :=Array.ext' (by rw [Array.toList_map])
    rw [e] at hcalls
    refine Calls.mono hcalls (fun en w' hR =>?_)
    cases en with
    | returned v =>exact hK v w' (by rw [← e0,← er]; exact Brings.frV hR _)
    | panicked _ =>exact hR.elim
    | outgrown =>exact hR.elim
   | tmp t =>
    obtain ⟨q,hq,he2⟩ :=bE.1 (show bnd (look s.sl t).asFn _ = some (s',r) from he)
    have hrep :=h.rep t
    cases hlk:look s.sl t with
    | fn f caps =>
     rw [hlk] at hq hrep
     simp [S.asFn] at hq
     subst hq
     obtain ⟨_,us,hval,hus⟩ :=hrep
     have hcalls :=callClo_runs hT (a :=a) (fp :=fp) hus (hC f) h he2
     have hcal:Callable P f :=by
      obtain ⟨A,hA,he1⟩ :=bE.1 (show bnd (argsOf E args.toList tys.toList (E.ann f).modes s) _ = some (s',r) from he2)
      rcases tE.1 he1 with ⟨_,he2⟩ | ⟨_,he2⟩
      case inr =>cases he2
      obtain ⟨B,hB,he3⟩ :=bE.1 he2
      rcases tE.1 he3 with ⟨_,he4⟩ | ⟨_,he4⟩
      case inr =>cases he4
      obtain ⟨res,hres,_⟩ :=bE.1 he4
      exact hF f _ _ hres
     obtain ⟨fn,h1,h2,h3⟩ :=hcal
     have hev:a.eval (.tmp t) = .func (.func f) #[] us.toArray :=hval
     have hrun:(execOp a.eval o).run P w = .ok (.enter f (args.map a.eval ++ us.toArray)) w :=by
      have h2':fn.name ≠ "runtime.NumGoroutine" :=by simpa using h2
      have h3':¬ fn.body = none :=fun e =>by rw [e] at h3; cases h3
      simp [execOp,hop,resolve,hev,Deferred.ofValue,invoke,callFunc,h1,h2',h3']
     unfold Oper.wp
     rw [hrun]
     rw [Oper.upon_enter]
     have e:(args.toList.map a.eval ++ us).toArray = args.map a.eval ++ us.toArray :=Array.ext' (by simp)
     rw [e] at hcalls
     refine Calls.mono hcalls (fun en w' hR =>?_)
     cases en with
     | returned v =>exact hK v w' hR
     | panicked _ =>exact hR.elim
     | outgrown =>exact hR.elim
    | _ =>rw [hlk] at hq; simp [S.asFn] at hq
   | _ =>exact nomatch (show (none:Option (St × S)) = some (s',r) from he)
  | invoke _ _ =>exact nomatch (show (none:Option (St × S)) = some (s',r) from he)
 case makeFunc fn first caps =>
  cases fn with
  | func f =>exact go (makeFunc_runs hT h he)
  | _ =>exact nomatch (show (none:Option (St × S)) = some (s',r) from he)
 case makeMap t rs =>
  cases rs with
  | none =>exact go (makeMap_runs hT h he)
  | some _ =>exact nomatch (show (none:Option (St × S)) = some (s',r) from he)
 case lookup t x y ok =>exact go (lookup_runs hT hE h he)
 case mapUpdate t x y z =>exact go (update_runs hT hE h he)
 case mapEntry t x y =>exact go (mapEntry_runs hT hE h he)
 case entryStore t x y z =>exact go (entryStore_runs hT h he)
 case range t x =>exact go (range_runs hT h he)
 case entry x =>exact go (entry_runs hT h he)
 all_goals exact nomatch (show (none:Option (St × S)) = some (s',r) from he)
end
end Go.Sx

/- Locality: what an operation does hangs on the slots that it touches alone. -/
namespace Go.Sx

structure Agr (T:List Tmp) (s s':St):Prop where
 cnt:s'.cnt = s.cnt
 at_:∀ t,memT t T = true→look s'.sl t = look s.sl t

def Cl (T:List Tmp) (s:St):Prop :=∀ t,memT t T = true→(look s.sl t).rootIn T = true

structure Par (T:List Tmp) (s s' s2 s2':St):Prop where
 agr:Agr T s2 s2'
 le:s.cnt≤s2.cnt
 out:∀ t,memT t T = false→look s2.sl t = look s.sl t
 out':∀ t,memT t T = false→look s2'.sl t = look s'.sl t
 cl:Cl T s2
 mv:∀ t,look s2.sl t = look s.sl t∨(∃ c cs,s.cnt≤c∧look s2.sl t = (look s.sl t).withCells c cs)∨∃ vs vs',look s.sl t = .tup vs∧look s2.sl t = .tup vs'∧(vs' ≠ []∧allFreeT vs = false)

theorem with_with (x:S) (c c':Nat) (cs cs':List C):(x.withCells c cs).withCells c' cs' = x.withCells c' cs' :=by cases x <;> rfl

def opIn (T:List Tmp):Operand→Bool
 | .tmp t =>memT t T
 | .const _ =>true
 | .func _ =>true
 | .global _ =>true

theorem tst_none {β:Type} {t:Bool} {x:Option β} {b:β} (h:tst t x none = some b):t = true∧x = some b :=by
 cases t
 ·cases h
 ·exact ⟨rfl,h⟩

section
variable {T:List Tmp} {E:Env} {s s' s2 s2':St}

theorem Par.refl (h:Agr T s s') (hc:Cl T s):Par T s s' s s' :=⟨h,Nat.le_refl _,fun _ _ =>rfl,fun _ _ =>rfl,hc,fun _ =>.inl rfl⟩
theorem Par.trans {s3 s3':St} (h:Par T s s' s2 s2') (k:Par T s2 s2' s3 s3'):Par T s s' s3 s3' :=
 ⟨k.agr,Nat.le_trans h.le k.le,fun t ht =>(k.out t ht).trans (h.out t ht),fun t ht =>(k.out' t ht).trans (h.out' t ht),k.cl,fun t =>by
  rcases h.mv t with e | ⟨c,cs,hle,e⟩ | ⟨vs,vs',e1,e2,e3⟩
  ·rcases k.mv t with e' | ⟨c,cs,hle,e'⟩ | ⟨vs,vs',e1,e2,e3⟩
   ·exact .inl (e'.trans e)
   ·exact .inr (.inl ⟨c,cs,Nat.le_trans h.le hle,by rw [e',e]⟩)
   ·exact .inr (.inr ⟨vs,vs',e ▸ e1,e2,e3⟩)
  ·rcases k.mv t with e' | ⟨c',cs',hle',e'⟩ | ⟨vs,vs',e1,e2,e3⟩
   ·exact .inr (.inl ⟨c,cs,hle,e'.trans e⟩)
   ·exact .inr (.inl ⟨c',cs',Nat.le_trans h.le hle',by rw [e',e,with_with]⟩)
   ·refine .inr (.inr ⟨vs,vs',?_,e2,e3⟩)
    rw [e] at e1
    revert e1
    cases look s.sl t <;> intro e1 <;> simp [S.withCells] at e1
    rw [e1]
  ·rcases k.mv t with e' | ⟨c',cs',hle',e'⟩ | ⟨ws,ws',e1',e2',e3'⟩
   ·exact .inr (.inr ⟨vs,vs',e1,e'.trans e2,e3⟩)
   ·exact .inr (.inr ⟨vs,vs',e1,by rw [e',e2]; rfl,e3⟩)
   ·exact .inr (.inr ⟨vs,ws',e1,e2',e3'.1,e3.2⟩)⟩

theorem look_upd1 (r:Nat) (cs:List C) (s:St) (t:Tmp):look (upd r cs s).sl t = if r = t then (look s.sl r).withCells s.cnt cs else look s.sl t :=by
 obtain ⟨c,l⟩ :=s
 rfl
theorem cnt_upd (r:Nat) (cs:List C) (s:St):(upd r cs s).cnt = s.cnt + 1 :=by
 obtain ⟨c,l⟩ :=s
 rfl
theorem withCells_rootIn (x:S) (c:Nat) (cs:List C):(x.withCells c cs).rootIn T = x.rootIn T :=by cases x <;> rfl
theorem Par.upd (h:Agr T s s') (hc:Cl T s) {r:Nat} (hr:memT r T = true) (cs:List C):Par T s s' (Sx.upd r cs s) (Sx.upd r cs s') :=by
 refine ⟨⟨by rw [cnt_upd,cnt_upd,h.cnt],fun t ht =>?_⟩,by rw [cnt_upd]; omega,fun t ht =>?_,fun t ht =>?_,fun t ht =>?_,fun t =>?_⟩
 ·rw [look_upd1,look_upd1,h.cnt,h.at_ r hr,h.at_ t ht]
 ·rw [look_upd1,if_neg]
  intro e; subst e; rw [hr] at ht; cases ht
 ·rw [look_upd1,if_neg]
  intro e; subst e; rw [hr] at ht; cases ht
 ·rw [look_upd1]
  split
  ·rw [withCells_rootIn]; exact hc r hr
  ·exact hc t ht
 ·rw [look_upd1]
  split
  ·rename_i e; subst e; exact .inr (.inl ⟨_,_,Nat.le_refl _,rfl⟩)
  ·exact .inl rfl

theorem rd_loc (h:Agr T s s') {ty:TypeId} {x:Operand} (hx:opIn T x = true):rd E ty s' x = rd E ty s x :=by
 cases x
 case tmp t =>simp only [rd]; rw [h.at_ t hx]
 all_goals rfl

theorem rd_root (hc:Cl T s) {ty:TypeId} {x:Operand} (hx:opIn T x = true) {v:S} (e:rd E ty s x = some v):v.rootIn T = true :=by
 cases x
 case tmp t =>
  have ht:memT t T = true :=hx
  have hr :=hc t ht
  simp only [rd] at e
  cases hl:look s.sl t <;> rw [hl] at e hr <;> simp only [S.read] at e
  case val g a cs =>
   split at e
   ·simp at e; subst e; rfl
   ·simp at e; subst e; exact ht
  case tup vs =>
   split at e
   ·simp at e; subst e; rfl
   ·cases e
  all_goals first | (simp at e; done) | (simp at e; subst e; first | exact ht | exact hr | rfl)
 case const v =>
  simp only [rd] at e
  split at e
  ·obtain ⟨i,_,e⟩ :=bE.1 e
   obtain ⟨j,_,e⟩ :=bE.1 e
   simp at e; subst e; rfl
  ·rcases tE.1 e with ⟨_,e⟩ | ⟨_,e⟩
   ·simp at e; subst e; rfl
   ·cases e
 case func f =>simp [rd] at e; subst e; rfl
 case global g =>simp [rd] at e

theorem cells_loc (h:Agr T s s') {v:S} (hv:v.rootIn T = true):cells s' v = cells s v :=by
 cases v
 case lnk r k off n a el win =>simp only [cells]; rw [h.at_ r hv]
 all_goals rfl
theorem loadS_loc (h:Agr T s s') {i:TI} {v:S} (hv:v.rootIn T = true):loadS s' i v = loadS s i v :=by
 cases v
 case ptr r g off el =>simp only [loadS]; rw [h.at_ r hv]
 all_goals rfl
theorem loadS_root {i:TI} {v u:S} (hv:v.rootIn T = true) (e:loadS s i v = some u):u.rootIn T = true :=by
 cases v <;> simp only [loadS] at e
 case ptr r g off el =>
  obtain ⟨cs,_,e⟩ :=bE.1 e
  obtain ⟨xs,_,e⟩ :=bE.1 e
  rcases tE.1 e with ⟨_,e⟩ | ⟨_,e⟩ <;> simp at e <;> subst e
  ·rfl
  ·exact hv
 case rp cs =>
  obtain ⟨xs,_,e⟩ :=bE.1 e
  simp at e; subst e; rfl
 all_goals cases e
theorem fieldS_loc (h:Agr T s s') {d:Nat} {v:S} (hv:v.rootIn T = true):fieldS s' d v = fieldS s d v :=by
 cases v
 case ptr r g off el =>simp only [fieldS]; rw [h.at_ r hv]
 all_goals rfl
theorem fieldS_root {d:Nat} {v u:S} (hv:v.rootIn T = true) (e:fieldS s d v = some u):u.rootIn T = true :=by
 cases v <;> simp only [fieldS] at e
 case ptr r g off el =>
  obtain ⟨cs,_,e⟩ :=bE.1 e
  rcases el with _ | ⟨i,o⟩ <;> simp at e <;> subst e <;> exact hv
 case rp cs =>
  obtain ⟨xs,_,e⟩ :=bE.1 e
  simp at e; subst e; rfl
 all_goals cases e
theorem indexS_loc (h:Agr T s s') {i sz:Nat} {v:S} (hv:v.rootIn T = true):indexS s' i sz v = indexS s i sz v :=by
 cases v
 case lnk r k off n a el win =>
  cases el
  case none =>simp only [indexS]; rw [cells_loc h (v :=.lnk r k off n a none win) hv]
  case some =>rfl
 all_goals rfl
theorem indexS_root {i sz:Nat} {v u:S} (hv:v.rootIn T = true) (e:indexS s i sz v = some u):u.rootIn T = true :=by
 cases v <;> simp only [indexS] at e
 case lnk r k off n a el win =>
  cases el <;> simp only at e
  case none =>
   obtain ⟨z,_,e⟩ :=bE.1 e
   obtain ⟨c,_,e⟩ :=bE.1 e
   obtain ⟨q,_,e⟩ :=bE.1 e
   rcases tE.1 e with ⟨_,e⟩ | ⟨_,e⟩
   ·cases e
   rcases tE.1 e with ⟨_,e⟩ | ⟨_,e⟩
   ·rcases tE.1 e with ⟨_,e⟩ | ⟨_,e⟩
    ·simp at e; subst e; exact hv
    ·cases e
   ·cases e
  case some =>cases e
 case val g a cs =>
  obtain ⟨z,_,e⟩ :=bE.1 e
  obtain ⟨c,_,e⟩ :=bE.1 e
  rcases tE.1 e with ⟨_,e⟩ | ⟨_,e⟩
  ·obtain ⟨q,_,e⟩ :=bE.1 e
   rcases tE.1 e with ⟨_,e⟩ | ⟨_,e⟩
   ·simp at e; subst e; rfl
   ·cases e
  ·cases e
 all_goals cases e

def oIn (T:List Tmp):Option Operand→Bool
 | none =>true
 | some x =>opIn T x

theorem boundOf_loc (h:Agr T s s') {d:Nat} {x:Option Operand} (hx:oIn T x = true):boundOf E s' d x = boundOf E s d x :=by
 cases x
 case none =>rfl
 case some y =>simp only [boundOf]; rw [rd_loc h hx]
theorem sliceS_loc (h:Agr T s s') {str:Bool} {sz:Nat} {lo hi:Option Operand} (h1:oIn T lo = true) (h2:oIn T hi = true) {v:S} (hv:v.rootIn T = true):sliceS E s' str sz lo hi v = sliceS E s str sz lo hi v :=by
 cases v
 case lnk r k off n a el win =>simp only [sliceS]; rw [cells_loc h hv]; simp only [boundOf_loc h h1,boundOf_loc h h2]
 case val g a cs =>simp only [sliceS,boundOf_loc h h1,boundOf_loc h h2]
 all_goals rfl
theorem sliceS_root {str:Bool} {sz:Nat} {lo hi:Option Operand} {v u:S} (hv:v.rootIn T = true) (e:sliceS E s str sz lo hi v = some u):u.rootIn T = true :=by
 cases v <;> simp only [sliceS] at e
 case lnk r k off n a el win =>
  obtain ⟨z,_,e⟩ :=bE.1 e
  obtain ⟨c,_,e⟩ :=bE.1 e
  obtain ⟨q,_,e⟩ :=bE.1 e
  obtain ⟨l,_,e⟩ :=bE.1 e
  obtain ⟨m,_,e⟩ :=bE.1 e
  simp only [tE] at e
  rcases e with ⟨_,(⟨_,(⟨_,(⟨_,e⟩ | ⟨_,(⟨_,e⟩ | ⟨_,e⟩)⟩)⟩ | ⟨_,e⟩)⟩ | ⟨_,e⟩)⟩ | ⟨_,e⟩ <;> simp at e
  subst e; exact hv
 case val g a cs =>
  obtain ⟨c,_,e⟩ :=bE.1 e
  obtain ⟨n,_,e⟩ :=bE.1 e
  obtain ⟨l,_,e⟩ :=bE.1 e
  obtain ⟨m,_,e⟩ :=bE.1 e
  simp only [tE] at e
  rcases e with ⟨_,(⟨_,e⟩ | ⟨_,e⟩)⟩ | ⟨_,e⟩
  ·split at e
   ·have e :=(tst_none e).2
    simp at e
    subst e; rfl
   ·cases e
   ·rcases tE.1 e with ⟨_,e⟩ | ⟨_,e⟩
    ·cases e
    ·have e :=(tst_none (tst_none e).2).2
     simp at e
     subst e; rfl
   ·cases e
   ·cases e
  ·simp at e
  ·simp at e
 all_goals cases e
theorem convS_loc (h:Agr T s s') {i j:TI} {ie je:Option TI} {v:S} (hv:v.rootIn T = true):convS s' i j ie je v = convS s i j ie je v :=by
 simp only [convS,cells_loc h hv]

theorem take_loc {lv:El→List C→List C} (h:Agr T s s') (hc:Cl T s) {v:S} (hv:v.rootIn T = true) {z:Bool × List C} (e:takeW lv s v = some (s2,z)):∃ s2',takeW lv s' v = some (s2',z)∧Par T s s' s2 s2' :=by
 cases v <;> simp only [takeW] at e ⊢
 case val g a cs =>simp at e; obtain ⟨rfl,rfl⟩ :=e; exact ⟨s',rfl,Par.refl h hc⟩
 case lnk r k off n a el win =>
  rw [h.at_ r hv]
  obtain ⟨cs,e1,e⟩ :=bE.1 e
  obtain ⟨xs,e2,e⟩ :=bE.1 e
  rcases tE.1 e with ⟨e3,e⟩ | ⟨_,e⟩
  ·obtain ⟨ys,e4,e⟩ :=bE.1 e
   obtain ⟨cs',e5,e⟩ :=bE.1 e
   simp at e
   obtain ⟨rfl,rfl⟩ :=e
   exact ⟨_,bE.2 ⟨_,e1,bE.2 ⟨_,e2,tE.2 (.inl ⟨e3,bE.2 ⟨_,e4,bE.2 ⟨_,e5,rfl⟩⟩⟩)⟩⟩,Par.upd h hc hv _⟩
  ·cases e
 all_goals cases e

theorem assignS_loc (h:Agr T s s') (hc:Cl T s) {v:S} (hv:v.rootIn T = true) {z:S} (e:assignS s v = some (s2,z)):∃ s2',assignS s' v = some (s2',z)∧Par T s s' s2 s2'∧z.rootIn T = true :=by
 cases v <;> simp only [assignS] at e ⊢
 case lnk r k off n a el win =>
  obtain ⟨q,e1,e⟩ :=bE.1 e
  simp at e
  obtain ⟨rfl,rfl⟩ :=e
  obtain ⟨s3,e2,hp⟩ :=take_loc h hc hv e1
  exact ⟨s3,bE.2 ⟨_,e2,rfl⟩,hp,rfl⟩
 all_goals first | (cases e; done) | (simp at e; obtain ⟨rfl,rfl⟩ :=e; exact ⟨s',rfl,Par.refl h hc,hv⟩)
theorem nilS_loc (h:Agr T s s') {v:S} (hv:v.rootIn T = true) {z:S} (e:nilS s v = some (s2,z)):nilS s' v = some (s',z)∧s2 = s∧z.rootIn T = true :=by
 cases v <;> simp only [nilS] at e ⊢
 case ptr r g off el =>
  rw [h.at_ r hv]
  obtain ⟨cs,e1,e⟩ :=bE.1 e
  simp at e
  obtain ⟨rfl,rfl⟩ :=e
  exact ⟨bE.2 ⟨_,e1,rfl⟩,rfl,hv⟩
 all_goals first | (cases e; done) | (simp at e; obtain ⟨rfl,rfl⟩ :=e; exact ⟨rfl,rfl,hv⟩)

theorem storeS_loc (h:Agr T s s') (hc:Cl T s) {i:TI} {v a:S} (hv:v.rootIn T = true) (ha:a.rootIn T = true) {z:S} (e:storeS s i v a = some (s2,z)):∃ s2',storeS s' i v a = some (s2',z)∧Par T s s' s2 s2'∧z.rootIn T = true :=by
 cases a <;> simp only [storeS] at e ⊢
 case ptr r g off el =>
  rw [h.at_ r ha]
  obtain ⟨cs0,e0,e⟩ :=bE.1 e
  obtain ⟨q,e1,e⟩ :=bE.1 e
  obtain ⟨cs,e2,e⟩ :=bE.1 e
  obtain ⟨old,e3,e⟩ :=bE.1 e
  rcases tE.1 e with ⟨e4,e⟩ | ⟨_,e⟩
  ·rcases tE.1 e with ⟨e5,e⟩ | ⟨_,e⟩
   ·obtain ⟨cs',e6,e⟩ :=bE.1 e
    simp at e
    obtain ⟨rfl,rfl⟩ :=e
    obtain ⟨s3,e7,hp⟩ :=take_loc h hc hv e1
    refine ⟨Sx.upd r cs' s3,bE.2 ⟨_,e0,bE.2 ⟨_,e7,?_⟩⟩,hp.trans (Par.upd hp.agr hp.cl ha _),rfl⟩
    simp only
    rw [hp.agr.at_ r ha]
    exact bE.2 ⟨_,e2,bE.2 ⟨_,e3,tE.2 (.inl ⟨e4,tE.2 (.inl ⟨e5,bE.2 ⟨_,e6,rfl⟩⟩)⟩)⟩⟩
   ·cases e
  ·cases e
 all_goals cases e

theorem takeAll_loc:∀ {ps:List (Nat × Operand)} {s s' s2:St} {z:List (Nat × List C)},Agr T s s'→Cl T s→(∀ p ∈ ps,opIn T p.2 = true)→takeAll E ps s = some (s2,z)→∃ s2',takeAll E ps s' = some (s2',z)∧Par T s s' s2 s2'
 | [],s,s',s2,z,h,hc,_,e =>by
  simp [takeAll] at e
  obtain ⟨rfl,rfl⟩ :=e
  exact ⟨s',rfl,Par.refl h hc⟩
 | (i,x) :: r,s,s',s2,z,h,hc,hp,e =>by
  simp only [takeAll] at e ⊢
  have hx:opIn T x = true :=hp (i,x) (by simp)
  obtain ⟨v,e1,e⟩ :=bE.1 e
  obtain ⟨q,e2,e⟩ :=bE.1 e
  obtain ⟨y,e3,e⟩ :=bE.1 e
  simp at e
  obtain ⟨rfl,rfl⟩ :=e
  obtain ⟨s3,e4,p1⟩ :=take_loc (z :=q.2) h hc (rd_root hc hx e1) (by simpa using e2)
  obtain ⟨s4,e5,p2⟩ :=takeAll_loc (z :=y.2) p1.agr p1.cl (fun p hpm =>hp p (List.mem_cons_of_mem _ hpm)) (by simpa using e3)
  exact ⟨s4,bE.2 ⟨v,by rw [rd_loc h hx]; exact e1,bE.2 ⟨_,e4,bE.2 ⟨_,e5,rfl⟩⟩⟩,p1.trans p2⟩

def backIn (T:List Tmp):Back→Bool
 | .at r _ _ _ _ _ =>memT r T
 | .drop =>true

theorem argOf_loc (h:Agr T s s') (hc:Cl T s) {ty:TypeId} {m:Mode} {v:S} (hv:v.rootIn T = true) {z:S × List Back} (e:argOf E ty m s v = some (s2,z)) :
  ∃ s2',argOf E ty m s' v = some (s2',z)∧Par T s s' s2 s2'∧z.1.rootIn T = true∧∀ b ∈ z.2,backIn T b = true :=by
 cases v <;> simp only [argOf] at e ⊢
 case val g a cs =>
  simp at e
  obtain ⟨rfl,rfl⟩ :=e
  refine ⟨s',rfl,Par.refl h hc,rfl,fun b hb =>?_⟩
  simp only at hb
  split at hb
  ·simp at hb; subst hb; rfl
  ·cases hb
 case rp cs =>
  rcases tE.1 e with ⟨_,e⟩ | ⟨e1,e⟩
  ·cases e
  ·simp at e
   obtain ⟨rfl,rfl⟩ :=e
   exact ⟨s',tE.2 (.inr ⟨e1,rfl⟩),Par.refl h hc,rfl,fun b hb =>by cases hb⟩
 case ptr q g off el =>
  rw [h.at_ q hv]
  obtain ⟨i,e1,e⟩ :=bE.1 e
  obtain ⟨u,e2,e⟩ :=bE.1 e
  obtain ⟨cs,e4,e⟩ :=bE.1 e
  obtain ⟨xs,e5,e⟩ :=bE.1 e
  obtain ⟨cs',e6,e⟩ :=bE.1 e
  simp at e
  obtain ⟨rfl,rfl⟩ :=e
  refine ⟨Sx.upd q cs' s',bE.2 ⟨_,e1,bE.2 ⟨_,e2,bE.2 ⟨_,e4,bE.2 ⟨_,e5,bE.2 ⟨_,e6,by rw [h.cnt]⟩⟩⟩⟩⟩,Par.upd h hc hv _,rfl,fun b hb =>?_⟩
  simp at hb; subst hb; exact hv
 case lnk q k off n a el win =>
  cases m <;> simp only at e ⊢
  case shr =>
   simp at e
   obtain ⟨rfl,rfl⟩ :=e
   exact ⟨s',rfl,Par.refl h hc,hv,fun b hb =>by cases hb⟩
  case mv =>
   obtain ⟨y,e1,e⟩ :=bE.1 e
   simp at e
   obtain ⟨rfl,rfl⟩ :=e
   obtain ⟨s3,e2,hp⟩ :=take_loc (z :=y.2) h hc hv (by simpa using e1)
   exact ⟨s3,bE.2 ⟨_,e2,rfl⟩,hp,rfl,fun b hb =>by cases hb⟩
  case io =>
   cases win <;> simp only at e ⊢
   case none =>
    obtain ⟨y,e1,e⟩ :=bE.1 e
    simp at e
    obtain ⟨rfl,rfl⟩ :=e
    obtain ⟨s3,e2,hp⟩ :=take_loc (z :=y.2) h hc hv (by simpa using e1)
    refine ⟨s3,bE.2 ⟨_,e2,by rw [h.cnt]⟩,hp,rfl,fun b hb =>?_⟩
    simp at hb; subst hb; exact hv
   case some =>cases e
 case fn f caps =>
  rcases tE.1 e with ⟨_,e⟩ | ⟨e1,e⟩
  ·cases e
  ·simp at e
   obtain ⟨rfl,rfl⟩ :=e
   exact ⟨s',tE.2 (.inr ⟨e1,rfl⟩),Par.refl h hc,rfl,fun b hb =>by cases hb⟩
 all_goals cases e

theorem argsOf_loc:∀ {xs:List Operand} {tys:List TypeId} {ms:List Mode} {s s':St} {A:Args},Agr T s s'→Cl T s→(∀ x ∈ xs,opIn T x = true)→argsOf E xs tys ms s = some A →
  ∃ s2',argsOf E xs tys ms s' = some ⟨s2',A.xs,A.backs⟩∧Par T s s' A.s s2'∧(∀ x ∈ A.xs,x.rootIn T = true)∧∀ b ∈ A.backs,backIn T b = true
 | [],[],ms,s,s',A,h,hc,_,e =>by
  simp [argsOf] at e
  subst e
  exact ⟨s',rfl,Par.refl h hc,by simp,by simp⟩
 | x :: r,ty :: tys,ms,s,s',A,h,hc,hx,e =>by
  simp only [argsOf] at e ⊢
  have h0:opIn T x = true :=hx x (by simp)
  obtain ⟨v,e1,e⟩ :=bE.1 e
  obtain ⟨q,e2,e⟩ :=bE.1 e
  obtain ⟨B,e3,e⟩ :=bE.1 e
  simp at e
  subst e
  obtain ⟨s3,e4,p1,r1,b1⟩ :=argOf_loc (z :=q.2) h hc (rd_root hc h0 e1) (by simpa using e2)
  obtain ⟨s4,e5,p2,r2,b2⟩ :=argsOf_loc p1.agr p1.cl (fun y hy =>hx y (List.mem_cons_of_mem _ hy)) e3
  refine ⟨s4,bE.2 ⟨v,by rw [rd_loc h h0]; exact e1,bE.2 ⟨_,e4,bE.2 ⟨_,e5,rfl⟩⟩⟩,p1.trans p2,fun y hy =>?_,fun b hb =>?_⟩
  ·rcases List.mem_cons.1 hy with rfl | hy
   ·exact r1
   ·exact r2 y hy
  ·rcases List.mem_append.1 hb with hb | hb
   ·exact b1 b hb
   ·exact b2 b hb
 | [],_ :: _,_,_,_,_,_,_,_,e =>by simp [argsOf] at e
 | _ :: _,[],_,_,_,_,_,_,_,e =>by simp [argsOf] at e

theorem borrowAll_loc (h:Agr T s s'):∀ {xs:List S},(∀ x ∈ xs,x.rootIn T = true)→borrowAll s' xs = borrowAll s xs
 | [],_ =>rfl
 | x :: r,hx =>by
  have ih :=borrowAll_loc h (xs :=r) (fun y hy =>hx y (List.mem_cons_of_mem _ hy))
  have h0 :=hx x (by simp)
  simp only [borrowAll,ih]
  cases x <;> simp only
  case lnk k g off n a el win =>rw [cells_loc h h0]
theorem borrowAll_in:∀ {xs:List S} {B:List S × List (Nat × Nat × El × Nat)},(∀ x ∈ xs,x.rootIn T = true)→borrowAll s xs = some B→∀ b ∈ B.2,memT b.1 T = true
 | [],B,_,e =>by
  simp [borrowAll] at e
  subst e
  intro b hb; cases hb
 | x :: r,B,hx,e =>by
  simp only [borrowAll] at e
  obtain ⟨q,e1,e⟩ :=bE.1 e
  have ih :=borrowAll_in (fun y hy =>hx y (List.mem_cons_of_mem _ hy)) e1
  have h0 :=hx x (by simp)
  cases x <;> simp only at e
  case lnk k g off n a el win =>
   obtain ⟨z,_,e⟩ :=bE.1 e
   rcases tE.1 e with ⟨_,e⟩ | ⟨_,e⟩
   ·simp at e
    subst e
    intro b hb
    rcases List.mem_cons.1 hb with rfl | hb
    ·exact h0
    ·exact ih b hb
   ·cases e
  all_goals first | (cases e; done) | (simp at e; subst e; exact ih)

theorem freezeAll_loc:∀ {bs:List (Nat × Nat × El × Nat)} {s s' s2:St},Agr T s s'→Cl T s→(∀ b ∈ bs,memT b.1 T = true)→freezeAll bs s = some s2→∃ s2',freezeAll bs s' = some s2'∧Par T s s' s2 s2'
 | [],s,s',s2,h,hc,_,e =>by
  simp [freezeAll] at e
  subst e
  exact ⟨s',rfl,Par.refl h hc⟩
 | (r,off,el,n) :: l,s,s',s2,h,hc,hb,e =>by
  have hr:memT r T = true :=hb (r,off,el,n) (by simp)
  simp only [freezeAll] at e ⊢
  rw [h.at_ r hr]
  obtain ⟨cs,e1,e⟩ :=bE.1 e
  obtain ⟨xs,e2,e⟩ :=bE.1 e
  rcases tE.1 e with ⟨e3,e⟩ | ⟨_,e⟩
  ·obtain ⟨cs',e4,e⟩ :=bE.1 e
   have p1 :=Par.upd h hc hr cs'
   obtain ⟨s3,e5,p2⟩ :=freezeAll_loc p1.agr p1.cl (fun b hm =>hb b (List.mem_cons_of_mem _ hm)) e
   exact ⟨s3,bE.2 ⟨_,e1,bE.2 ⟨_,e2,tE.2 (.inl ⟨e3,bE.2 ⟨_,e4,e5⟩⟩)⟩⟩,p1.trans p2⟩
  ·cases e

theorem putBacks_loc:∀ {bs:List Back} {os:List (List C)} {s s' s2:St},Agr T s s'→Cl T s→(∀ b ∈ bs,backIn T b = true)→putBacks bs os s = some s2→∃ s2',putBacks bs os s' = some s2'∧Par T s s' s2 s2'
 | [],[],s,s',s2,h,hc,_,e =>by
  simp [putBacks] at e
  subst e
  exact ⟨s',rfl,Par.refl h hc⟩
 | .drop :: bs,_ :: os,s,s',s2,h,hc,hb,e =>by
  simp only [putBacks] at e ⊢
  exact putBacks_loc h hc (fun b hm =>hb b (List.mem_cons_of_mem _ hm)) e
 | .at r off el n w k :: bs,o :: os,s,s',s2,h,hc,hb,e =>by
  have hr:memT r T = true :=hb (.at r off el n w k) (by simp)
  simp only [putBacks] at e ⊢
  rw [h.at_ r hr]
  obtain ⟨cs,e1,e⟩ :=bE.1 e
  obtain ⟨now,e2,e⟩ :=bE.1 e
  obtain ⟨xs,e3,e⟩ :=bE.1 e
  obtain ⟨cs',e4,e⟩ :=bE.1 e
  have p1 :=Par.upd h hc hr cs'
  obtain ⟨s3,e5,p2⟩ :=putBacks_loc p1.agr p1.cl (fun b hm =>hb b (List.mem_cons_of_mem _ hm)) e
  exact ⟨s3,bE.2 ⟨_,e1,bE.2 ⟨_,e2,bE.2 ⟨_,e3,bE.2 ⟨_,e4,e5⟩⟩⟩⟩,p1.trans p2⟩
 | [],_ :: _,_,_,_,_,_,_,e =>by simp [putBacks] at e
 | .drop :: _,[],_,_,_,_,_,_,e =>by simp [putBacks] at e
 | .at _ _ _ _ _ _ :: _,[],_,_,_,_,_,_,e =>by simp [putBacks] at e

theorem freshB_loc (h:Agr T s s'):∀ {bs:List Back},(∀ b ∈ bs,backIn T b = true)→freshB s' bs = freshB s bs
 | [],_ =>rfl
 | .drop :: bs,hb =>by
  simp only [freshB]
  exact freshB_loc h (fun b hm =>hb b (List.mem_cons_of_mem _ hm))
 | .at r off el n w k :: bs,hb =>by
  have hr:memT r T = true :=hb (.at r off el n w k) (by simp)
  simp only [freshB]
  rw [h.at_ r hr,freshB_loc h (fun b hm =>hb b (List.mem_cons_of_mem _ hm))]

theorem ofVals_root (vs:List (Bool × List C)):(S.ofVals vs).rootIn T = true :=by
 rcases vs with _ | ⟨⟨a,cs⟩,_ | _⟩ <;> first | rfl | (cases a <;> cases cs <;> rfl)

theorem callOf_loc (h:Agr T s s') (hc:Cl T s) {call:Sem1} {f:FuncId} {xs:List Operand} {tys:List TypeId} (hx:∀ x ∈ xs,opIn T x = true) {z:S} (e:callOf E call f xs tys s = some (s2,z)) :
  ∃ s2',callOf E call f xs tys s' = some (s2',z)∧Par T s s' s2 s2'∧z.rootIn T = true :=by
 unfold callOf at e ⊢
 obtain ⟨A,e1,e⟩ :=bE.1 e
 obtain ⟨s3,f1,p1,r1,b1⟩ :=argsOf_loc h hc hx e1
 rcases tE.1 e with ⟨e2,e⟩ | ⟨_,e⟩
 ·obtain ⟨B,e3,e⟩ :=bE.1 e
  rcases tE.1 e with ⟨e4,e⟩ | ⟨_,e⟩
  ·obtain ⟨res,e5,e⟩ :=bE.1 e
   obtain ⟨s4,e6,e⟩ :=bE.1 e
   obtain ⟨s5,e7,e⟩ :=bE.1 e
   simp at e
   obtain ⟨rfl,rfl⟩ :=e
   have hB :=borrowAll_in r1 e3
   have k:∃ s4',tst (B.2.isEmpty || res.mine) (some s3) (tst (distinctR B.2) (freezeAll B.2 s3) none) = some s4'∧Par T A.s s3 s4 s4' :=by
    rcases tE.1 e6 with ⟨a1,a2⟩ | ⟨a1,a2⟩
    ·simp at a2
     subst a2
     exact ⟨s3,tE.2 (.inl ⟨a1,rfl⟩),Par.refl p1.agr p1.cl⟩
    ·rcases tE.1 a2 with ⟨a3,a4⟩ | ⟨_,a4⟩
     ·obtain ⟨s6,a5,a6⟩ :=freezeAll_loc p1.agr p1.cl hB a4
      exact ⟨s6,tE.2 (.inr ⟨a1,tE.2 (.inl ⟨a3,a5⟩)⟩),a6⟩
     ·cases a4
   obtain ⟨s4',k1,k2⟩ :=k
   obtain ⟨s5',k3,k4⟩ :=putBacks_loc k2.agr k2.cl b1 e7
   refine ⟨s5',bE.2 ⟨_,f1,tE.2 (.inl ⟨?_,bE.2 ⟨B,?_,tE.2 (.inl ⟨e4,bE.2 ⟨res,e5,bE.2 ⟨s4',k1,bE.2 ⟨s5',k3,rfl⟩⟩⟩⟩)⟩⟩)⟩,(p1.trans k2).trans k4,ofVals_root _⟩
   ·rw [freshB_loc p1.agr b1]; exact e2
   ·simp only; rw [borrowAll_loc p1.agr r1]; exact e3
  ·cases e
 ·cases e

theorem callClo_loc (h:Agr T s s') (hc:Cl T s) {call:Sem1} {f:FuncId} {cp:List (List C)} {xs:List Operand} {tys:List TypeId} (hx:∀ x ∈ xs,opIn T x = true) {z:S} (e:callClo E call f cp xs tys s = some (s2,z)) :
  ∃ s2',callClo E call f cp xs tys s' = some (s2',z)∧Par T s s' s2 s2'∧z.rootIn T = true :=by
 unfold callClo at e ⊢
 obtain ⟨A,e1,e⟩ :=bE.1 e
 obtain ⟨s3,f1,p1,r1,b1⟩ :=argsOf_loc h hc hx e1
 rcases tE.1 e with ⟨e2,e⟩ | ⟨_,e⟩
 ·obtain ⟨B,e3,e⟩ :=bE.1 e
  rcases tE.1 e with ⟨e4,e⟩ | ⟨_,e⟩
  ·obtain ⟨res,e5,e⟩ :=bE.1 e
   obtain ⟨s4,e6,e⟩ :=bE.1 e
   obtain ⟨s5,e7,e⟩ :=bE.1 e
   simp at e
   obtain ⟨rfl,rfl⟩ :=e
   have hB :=borrowAll_in r1 e3
   have k:∃ s4',tst (B.2.isEmpty || res.mine) (some s3) (tst (distinctR B.2) (freezeAll B.2 s3) none) = some s4'∧Par T A.s s3 s4 s4' :=by
    rcases tE.1 e6 with ⟨a1,a2⟩ | ⟨a1,a2⟩
    ·simp at a2
     subst a2
     exact ⟨s3,tE.2 (.inl ⟨a1,rfl⟩),Par.refl p1.agr p1.cl⟩
    ·rcases tE.1 a2 with ⟨a3,a4⟩ | ⟨_,a4⟩
     ·obtain ⟨s6,a5,a6⟩ :=freezeAll_loc p1.agr p1.cl hB a4
      exact ⟨s6,tE.2 (.inr ⟨a1,tE.2 (.inl ⟨a3,a5⟩)⟩),a6⟩
     ·cases a4
   obtain ⟨s4',k1,k2⟩ :=k
   obtain ⟨s5',k3,k4⟩ :=putBacks_loc k2.agr k2.cl b1 e7
   refine ⟨s5',bE.2 ⟨_,f1,tE.2 (.inl ⟨?_,bE.2 ⟨B,?_,tE.2 (.inl ⟨e4,bE.2 ⟨res,e5,bE.2 ⟨s4',k1,bE.2 ⟨s5',k3,rfl⟩⟩⟩⟩)⟩⟩)⟩,(p1.trans k2).trans k4,ofVals_root _⟩
   ·rw [freshB_loc p1.agr b1]; exact e2
   ·simp only; rw [borrowAll_loc p1.agr r1]; exact e3
  ·cases e
 ·cases e

theorem mapS_loc (h:Agr T s s') {v:S} (hv:v.rootIn T = true):mapS s' v = mapS s v :=by
 simp only [mapS,cells_loc h hv]
theorem ownMap_loc (h:Agr T s s') {v:S} (hv:v.rootIn T = true):ownMap s' v = ownMap s v :=by
 cases v
 case lnk r k off n a el win =>
  simp only [ownMap,mapS_loc h hv]
  rw [h.at_ r hv]
 all_goals rfl
theorem ownMap_in {v:S} (hv:v.rootIn T = true) {m:Tmp × MpV} (e:ownMap s v = some m):memT m.1 T = true :=by
 cases v <;> simp only [ownMap] at e
 case lnk r k off n a el win =>
  obtain ⟨q,_,e⟩ :=bE.1 e
  split at e
  ·have e :=(tst_none e).2
   obtain ⟨_,_,e⟩ :=bE.1 e
   obtain ⟨_,_,e⟩ :=bE.1 e
   simp at e
   subst e
   exact hv
  ·cases e
 all_goals cases e
theorem lookRes_root (m:MpV) (ie:TI) (ok:Bool) (r:Option (Nat × List C)):(lookRes m ie ok r).rootIn T = true :=by
 cases r <;> cases ok <;> rfl
theorem entryRes_root (m:MpV) (ie:TI) (r:Option (Nat × List C)):(entryRes m ie r).rootIn T = true :=by
 cases r <;> rfl
theorem lookupS_loc (h:Agr T s s') (hc:Cl T s) {i:TI} {ok:Bool} {v y:S} (hv:v.rootIn T = true) {z:S} (e:lookupS E s i ok v y = some (s2,z)):∃ s2',lookupS E s' i ok v y = some (s2',z)∧Par T s s' s2 s2'∧z.rootIn T = true :=by
 unfold lookupS at e ⊢
 rw [mapS_loc h hv]
 obtain ⟨q,e1,e⟩ :=bE.1 e
 obtain ⟨ik,e2,e⟩ :=bE.1 e
 obtain ⟨ie,e3,e⟩ :=bE.1 e
 obtain ⟨m,e4,e⟩ :=bE.1 e
 obtain ⟨ks,e5,e⟩ :=bE.1 e
 obtain ⟨e6,e⟩ :=tst_none e
 obtain ⟨r,e7,e⟩ :=bE.1 e
 simp at e
 obtain ⟨rfl,rfl⟩ :=e
 exact ⟨s',bE.2 ⟨q,e1,bE.2 ⟨ik,e2,bE.2 ⟨ie,e3,bE.2 ⟨m,e4,bE.2 ⟨ks,e5,tE.2 (.inl ⟨e6,bE.2 ⟨r,e7,rfl⟩⟩)⟩⟩⟩⟩⟩,Par.refl h hc,lookRes_root _ _ _ _⟩
theorem updateS_loc (h:Agr T s s') (hc:Cl T s) {i:TI} {v y x:S} (hv:v.rootIn T = true) (hx:x.rootIn T = true) {z:S} (e:updateS E s i v y x = some (s2,z)):∃ s2',updateS E s' i v y x = some (s2',z)∧Par T s s' s2 s2'∧z.rootIn T = true :=by
 unfold updateS at e ⊢
 rw [ownMap_loc h hv,cells_loc h hx]
 obtain ⟨q,e1,e⟩ :=bE.1 e
 obtain ⟨ik,e2,e⟩ :=bE.1 e
 obtain ⟨ie,e3,e⟩ :=bE.1 e
 obtain ⟨m,e4,e⟩ :=bE.1 e
 obtain ⟨ks,e5,e⟩ :=bE.1 e
 obtain ⟨zc,e6,e⟩ :=bE.1 e
 obtain ⟨e7,e⟩ :=tst_none e
 obtain ⟨e8,e⟩ :=tst_none e
 obtain ⟨r,e9,e⟩ :=bE.1 e
 simp at e
 obtain ⟨rfl,rfl⟩ :=e
 exact ⟨_,bE.2 ⟨q,e1,bE.2 ⟨ik,e2,bE.2 ⟨ie,e3,bE.2 ⟨m,e4,bE.2 ⟨ks,e5,bE.2 ⟨zc,e6,tE.2 (.inl ⟨e7,tE.2 (.inl ⟨e8,bE.2 ⟨r,e9,rfl⟩⟩)⟩)⟩⟩⟩⟩⟩⟩,Par.upd h hc (ownMap_in hv e4) _,rfl⟩
theorem mapEntryS_loc (h:Agr T s s') (hc:Cl T s) {i:TI} {v y:S} (hv:v.rootIn T = true) {z:S} (e:mapEntryS E s i v y = some (s2,z)):∃ s2',mapEntryS E s' i v y = some (s2',z)∧Par T s s' s2 s2'∧z.rootIn T = true :=by
 unfold mapEntryS at e ⊢
 rw [ownMap_loc h hv]
 obtain ⟨q,e1,e⟩ :=bE.1 e
 obtain ⟨ik,e2,e⟩ :=bE.1 e
 obtain ⟨ie,e3,e⟩ :=bE.1 e
 obtain ⟨m,e4,e⟩ :=bE.1 e
 obtain ⟨ks,e5,e⟩ :=bE.1 e
 obtain ⟨e7,e⟩ :=tst_none e
 obtain ⟨r,e9,e⟩ :=bE.1 e
 simp at e
 obtain ⟨rfl,rfl⟩ :=e
 exact ⟨_,bE.2 ⟨q,e1,bE.2 ⟨ik,e2,bE.2 ⟨ie,e3,bE.2 ⟨m,e4,bE.2 ⟨ks,e5,tE.2 (.inl ⟨e7,bE.2 ⟨r,e9,rfl⟩⟩)⟩⟩⟩⟩⟩,Par.upd h hc (ownMap_in hv e4) _,entryRes_root _ _ _⟩
theorem entryStoreS_loc (h:Agr T s s') (hc:Cl T s) {i:TI} {v y x:S} (hv:v.rootIn T = true) (hx:x.rootIn T = true) {z:S} (e:entryStoreS E s i v y x = some (s2,z)):∃ s2',entryStoreS E s' i v y x = some (s2',z)∧Par T s s' s2 s2'∧z.rootIn T = true :=by
 unfold entryStoreS at e ⊢
 rw [ownMap_loc h hv,cells_loc h hx]
 obtain ⟨q,e1,e⟩ :=bE.1 e
 obtain ⟨ik,e2,e⟩ :=bE.1 e
 obtain ⟨ie,e3,e⟩ :=bE.1 e
 obtain ⟨m,e4,e⟩ :=bE.1 e
 obtain ⟨u,e5,e⟩ :=bE.1 e
 obtain ⟨n,e5',e⟩ :=bE.1 e
 obtain ⟨zc,e6,e⟩ :=bE.1 e
 obtain ⟨e7,e⟩ :=tst_none e
 obtain ⟨e8,e⟩ :=tst_none e
 obtain ⟨r,e9,e⟩ :=bE.1 e
 simp at e
 obtain ⟨rfl,rfl⟩ :=e
 exact ⟨_,bE.2 ⟨q,e1,bE.2 ⟨ik,e2,bE.2 ⟨ie,e3,bE.2 ⟨m,e4,bE.2 ⟨u,e5,bE.2 ⟨n,e5',bE.2 ⟨zc,e6,tE.2 (.inl ⟨e7,tE.2 (.inl ⟨e8,bE.2 ⟨r,e9,rfl⟩⟩)⟩)⟩⟩⟩⟩⟩⟩⟩,Par.upd h hc (ownMap_in hv e4) _,rfl⟩
theorem rangeS_loc (h:Agr T s s') (hc:Cl T s) {v:S} (hv:v.rootIn T = true) {z:S} (e:rangeS s v = some (s2,z)):∃ s2',rangeS s' v = some (s2',z)∧Par T s s' s2 s2'∧z.rootIn T = true :=by
 cases v <;> simp only [rangeS] at e ⊢
 case val g a cs =>
  obtain ⟨m,e1,e⟩ :=bE.1 e
  obtain ⟨e2,e⟩ :=tst_none e
  simp at e
  obtain ⟨rfl,rfl⟩ :=e
  exact ⟨s',bE.2 ⟨m,by rw [mapS_loc h (v :=.val g a cs) hv]; exact e1,tE.2 (.inl ⟨e2,rfl⟩)⟩,Par.refl h hc,rfl⟩
 case lnk r k off n a el win =>
  obtain ⟨m,e1,e⟩ :=bE.1 e
  obtain ⟨e2,e⟩ :=tst_none e
  simp at e
  obtain ⟨rfl,rfl⟩ :=e
  exact ⟨_,bE.2 ⟨m,by rw [ownMap_loc h (v :=.lnk r k off n a el win) hv]; exact e1,tE.2 (.inl ⟨e2,rfl⟩)⟩,Par.upd h hc (ownMap_in (v :=.lnk r k off n a el win) hv e1) _,rfl⟩
 all_goals cases e
theorem entryS_loc (h:Agr T s s') (hc:Cl T s) {v:S} (hv:v.rootIn T = true) {z:S} (e:entryS s v = some (s2,z)):∃ s2',entryS s' v = some (s2',z)∧Par T s s' s2 s2'∧z.rootIn T = true :=by
 unfold entryS at e ⊢
 rw [mapS_loc h hv]
 obtain ⟨m,e1,e⟩ :=bE.1 e
 obtain ⟨e2,e⟩ :=tst_none e
 cases hr:m.rows with
 | nil =>rw [hr] at e; simp [headR] at e
 | cons row rest =>
  rw [hr] at e
  simp [headR] at e
  obtain ⟨rfl,rfl⟩ :=e
  exact ⟨s',bE.2 ⟨m,e1,tE.2 (.inl ⟨e2,by rw [hr]; rfl⟩)⟩,Par.refl h hc,rfl⟩
theorem capsOf_loc (h:Agr T s s') (hc:Cl T s):∀ {xs:List Operand},(∀ x ∈ xs,opIn T x = true)→∀ {l:List (List C)},capsOf E s xs = some l→capsOf E s' xs = some l
 | [],_,l,e =>e
 | x :: r,hx,l,e =>by
  have hx0 :=hx x (by simp)
  obtain ⟨v,e1,e⟩ :=bE.1 (show bnd (rd E 0 s x) _ = some l from e)
  obtain ⟨z,e2,e⟩ :=bE.1 e
  obtain ⟨q,e3,e⟩ :=bE.1 e
  have hv :=rd_root hc hx0 e1
  have e2':capV s' v = some z :=by
   cases v
   case ptr r g off el =>
    cases el
    case none =>simp only [capV] at e2 ⊢; rw [h.at_ r hv]; exact e2
    case some =>exact e2
   all_goals exact e2
  exact bE.2 ⟨v,by rw [rd_loc h hx0]; exact e1,bE.2 ⟨z,e2',bE.2 ⟨q,capsOf_loc h hc (fun y hy =>hx y (List.mem_cons_of_mem _ hy)) e3,e⟩⟩⟩

theorem appendS_loc (h:Agr T s s') (hc:Cl T s) {sz:Nat} {vx vy:S} (hx:vx.rootIn T = true) (hy:vy.rootIn T = true) {z:S} (e:appendS s sz vx vy = some (s2,z)) :
  ∃ s2',appendS s' sz vx vy = some (s2',z)∧Par T s s' s2 s2'∧z.rootIn T = true :=by
 unfold appendS at e ⊢
 rw [cells_loc h hy]
 obtain ⟨a,e1,e⟩ :=bE.1 e
 obtain ⟨cy,e2,e⟩ :=bE.1 e
 obtain ⟨y,e3,e⟩ :=bE.1 e
 obtain ⟨q,e4,e⟩ :=bE.1 e
 obtain ⟨cx,e5,e⟩ :=bE.1 e
 obtain ⟨x,e6,e⟩ :=bE.1 e
 obtain ⟨s3,f1,p1⟩ :=take_loc (z :=q.2) h hc hx (by simpa using e4)
 obtain ⟨t1,e⟩ :=tst_none e
 obtain ⟨t2,e⟩ :=tst_none e
 obtain ⟨t3,e⟩ :=tst_none e
 obtain ⟨t4,e⟩ :=tst_none e
 rcases tE.1 e with ⟨t5,e⟩ | ⟨t5,e⟩
 ·simp at e
  obtain ⟨rfl,rfl⟩ :=e
  exact ⟨s3,bE.2 ⟨a,e1,bE.2 ⟨cy,e2,bE.2 ⟨y,e3,bE.2 ⟨_,f1,bE.2 ⟨cx,e5,bE.2 ⟨x,e6,tE.2 (.inl ⟨t1,tE.2 (.inl ⟨t2,tE.2 (.inl ⟨t3,tE.2 (.inl ⟨t4,tE.2 (.inl ⟨t5,rfl⟩)⟩)⟩)⟩)⟩)⟩⟩⟩⟩⟩⟩,p1,rfl⟩
 ·obtain ⟨w,g1,e⟩ :=bE.1 e
  obtain ⟨cw,g2,e⟩ :=bE.1 e
  obtain ⟨y',g3,e⟩ :=bE.1 e
  obtain ⟨t6,e⟩ :=tst_none e
  obtain ⟨t7,e⟩ :=tst_none e
  simp at e
  obtain ⟨rfl,rfl⟩ :=e
  obtain ⟨s4,f2,p2⟩ :=take_loc (z :=w.2) p1.agr p1.cl hy (by simpa using g1)
  exact ⟨s4,bE.2 ⟨a,e1,bE.2 ⟨cy,e2,bE.2 ⟨y,e3,bE.2 ⟨_,f1,bE.2 ⟨cx,e5,bE.2 ⟨x,e6,tE.2 (.inl ⟨t1,tE.2 (.inl ⟨t2,tE.2 (.inl ⟨t3,tE.2 (.inl ⟨t4,tE.2 (.inr ⟨t5,bE.2 ⟨_,f2,bE.2 ⟨cw,g2,bE.2 ⟨y',g3,tE.2 (.inl ⟨t6,tE.2 (.inl ⟨t7,rfl⟩)⟩)⟩⟩⟩⟩)⟩)⟩)⟩)⟩)⟩⟩⟩⟩⟩⟩,p1.trans p2,rfl⟩

theorem asWin_root {v:S} {p:Tmp × Nat × Nat × Nat × Nat} (h:v.asWin = some p) (hv:v.rootIn T = true):(S.lnk p.1 p.2.1 p.2.2.1 1 false none none).rootIn T = true :=by
 cases v with
 | lnk r g off n a el win =>
  cases el with
  | some e =>cases h
  | none =>
   cases win with
   | none =>cases h
   | some lw =>
    obtain ⟨_,h2⟩ :=tst_none (show tst (decide (n = 1) && !a) _ none = some p from h)
    clear h
    simp at h2
    subst h2
    exact hv
 | _ =>cases h

theorem appendJ_loc (h:Agr T s s') (hc:Cl T s) {sz:Nat} {vx vy:S} (hx:vx.rootIn T = true) {z:S} (e:appendJ s sz vx vy = some (s2,z)) :
  ∃ s2',appendJ s' sz vx vy = some (s2',z)∧Par T s s' s2 s2'∧z.rootIn T = true :=by
 unfold appendJ at e ⊢
 obtain ⟨p,e1,e⟩ :=bE.1 e
 obtain ⟨q,e2,e⟩ :=bE.1 e
 obtain ⟨t1,e⟩ :=tst_none e
 obtain ⟨t,e3,e⟩ :=bE.1 e
 obtain ⟨c,e4,e⟩ :=bE.1 e
 obtain ⟨x,e5,e⟩ :=bE.1 e
 obtain ⟨t2,e⟩ :=tst_none e
 obtain ⟨s3,f1,p1⟩ :=take_loc (z :=t.2) h hc (asWin_root e1 hx) (by simpa using e3)
 simp at e
 obtain ⟨rfl,rfl⟩ :=e
 exact ⟨s3,bE.2 ⟨p,e1,bE.2 ⟨q,e2,tE.2 (.inl ⟨t1,bE.2 ⟨_,f1,bE.2 ⟨c,e4,bE.2 ⟨x,e5,tE.2 (.inl ⟨t2,rfl⟩)⟩⟩⟩⟩)⟩⟩,p1,rfl⟩

theorem appendA_loc (h:Agr T s s') (hc:Cl T s) {sz:Nat} {vx vy:S} (hx:vx.rootIn T = true) (hy:vy.rootIn T = true) {z:S} (e:appendA s sz vx vy = some (s2,z)) :
  ∃ s2',appendA s' sz vx vy = some (s2',z)∧Par T s s' s2 s2'∧z.rootIn T = true :=by
 unfold appendA at e ⊢
 rcases tE.1 e with ⟨t,e⟩ | ⟨t,e⟩
 ·obtain ⟨s2',f,p,r⟩ :=appendJ_loc h hc hx e
  exact ⟨s2',tE.2 (.inl ⟨t,f⟩),p,r⟩
 ·obtain ⟨s2',f,p,r⟩ :=appendS_loc h hc hx hy e
  exact ⟨s2',tE.2 (.inr ⟨t,f⟩),p,r⟩
end
end Go.Sx

/- Locality of each operation. -/
namespace Go.Sx

def quietB:Builtin→Bool
 | .append =>false
 | .clear =>false
 | _ =>true

def quietOp:Op→Bool
 | .move _ =>true
 | .pick .. =>true
 | .alloc _ =>true
 | .load .. =>true
 | .nilCheck _ =>true
 | .binOp .. =>true
 | .unOp .. =>true
 | .fieldAddr .. =>true
 | .indexAddr .. =>true
 | .index .. =>true
 | .makeSlice .. =>true
 | .slice .. =>true
 | .convert .. =>true
 | .call c =>match c.callee with
  | .builtin b =>quietB b
  | _ =>false
 | _ =>false

section
variable {T:List Tmp} {E:Env} {s s' s2 s2':St}

theorem binS_root {t:TypeId} {op:BinOp} {a b u:S} (e:binS E t op a b = some u):u.rootIn T = true :=by
 unfold binS at e
 split at e
 ·obtain ⟨_,_,e⟩ :=bE.1 e
  obtain ⟨_,_,e⟩ :=bE.1 e
  obtain ⟨_,_,e⟩ :=bE.1 e
  obtain ⟨_,_,e⟩ :=bE.1 e
  obtain ⟨_,_,e⟩ :=bE.1 e
  have e :=(tst_none e).2
  simp at e; subst e; rfl
 ·have e :=(tst_none e).2
  obtain ⟨_,_,e⟩ :=bE.1 e
  obtain ⟨_,_,e⟩ :=bE.1 e
  obtain ⟨_,_,e⟩ :=bE.1 e
  have e :=(tst_none e).2
  obtain ⟨_,_,e⟩ :=bE.1 e
  split at e
  ·simp at e; subst e; rfl
  ·simp at e; subst e; rfl
  ·cases e
 ·cases e

theorem convC_root {i j:TI} {ie je:Option TI} {c:C} {u:S} (e:convC i j ie je c = some u):u.rootIn T = true :=by
 unfold convC at e
 split at e
 ·obtain ⟨_,_,e⟩ :=bE.1 e
  obtain ⟨_,_,e⟩ :=bE.1 e
  simp at e; subst e; rfl
 ·have e :=(tst_none e).2
  obtain ⟨_,_,e⟩ :=bE.1 e
  obtain ⟨_,_,e⟩ :=bE.1 e
  have e :=(tst_none e).2
  simp at e; subst e; rfl
 ·cases e
 ·obtain ⟨_,_,e⟩ :=bE.1 e
  obtain ⟨_,_,e⟩ :=bE.1 e
  obtain ⟨_,_,e⟩ :=bE.1 e
  have e :=(tst_none (tst_none (tst_none e).2).2).2
  obtain ⟨_,_,e⟩ :=bE.1 e
  simp at e; subst e; rfl
 ·cases e
 ·cases e

theorem not_freeT {v:Bool × List C}:∀ {vs:List (Bool × List C)} {i:Nat},atL vs i = some v→allFree v.2 = false→allFreeT vs = false
 | [],_,h,_ =>by simp [atL] at h
 | u :: r,0,h,hf =>by
  simp [atL] at h
  subst h
  rw [allFreeT,hf]
  rfl
 | u :: r,i + 1,h,hf =>by
  have h:atL r i = some v :=h
  rw [allFreeT,not_freeT h hf,Bool.and_false]
theorem extractS_loc (h:Agr T s s') (hc:Cl T s) {t:Tmp} {i:Nat} (ht:memT t T = true) {z:S} (e:extractS t i s (look s.sl t) = some (s2,z)) :
  ∃ s2',extractS t i s' (look s'.sl t) = some (s2',z)∧Par T s s' s2 s2'∧z.rootIn T = true :=by
 rw [h.at_ t ht]
 have hcnt :=h.cnt
 have hat :=h.at_
 obtain ⟨c,l⟩ :=s
 obtain ⟨c',l'⟩ :=s'
 simp only at hcnt hat
 subst hcnt
 generalize hx:look l t = x at e ⊢
 cases x <;> simp only [extractS] at e ⊢
 case tup vs =>
  obtain ⟨v,e1,e⟩ :=bE.1 e
  rcases tE.1 e with ⟨e2,e⟩ | ⟨e2,e⟩ <;> simp at e <;> obtain ⟨rfl,rfl⟩ :=e
  ·exact ⟨_,bE.2 ⟨v,e1,tE.2 (.inl ⟨e2,rfl⟩)⟩,Par.refl h hc,rfl⟩
  ·refine ⟨_,bE.2 ⟨v,e1,tE.2 (.inr ⟨e2,rfl⟩)⟩,⟨⟨rfl,fun u hu =>?_⟩,Nat.le_succ _,fun u hu =>?_,fun u hu =>?_,fun u hu =>?_,fun u =>?_⟩,rfl⟩
   ·simp only [look]; rw [hat u hu]
   ·simp only [look]; rw [if_neg]; intro e; subst e; rw [ht] at hu; cases hu
   ·simp only [look]; rw [if_neg]; intro e; subst e; rw [ht] at hu; cases hu
   ·simp only [look]; split
    ·rfl
    ·exact hc u hu
   ·simp only [look]; split
    ·rename_i e; subst e; exact .inr (.inr ⟨_,_,hx,rfl,by cases vs with | nil =>simp [atL] at e1 | cons a r =>cases i <;> simp [setL],not_freeT e1 e2⟩)
    ·exact .inl rfl
 all_goals cases e

theorem clearS_loc (h:Agr T s s') (hc:Cl T s) {sz:Nat} {z:List C} {v:S} (hv:v.rootIn T = true) {y:S} (e:clearS s sz z v = some (s2,y)):∃ s2',clearS s' sz z v = some (s2',y)∧Par T s s' s2 s2'∧y.rootIn T = true :=by
 cases v <;> simp only [clearS] at e ⊢
 case lnk r k off n a el win =>
  cases el <;> simp only at e ⊢
  case some =>cases e
  rw [h.at_ r hv]
  obtain ⟨e0,e⟩ :=tst_none e
  obtain ⟨cs,e1,e⟩ :=bE.1 e
  obtain ⟨c,e2,e⟩ :=bE.1 e
  obtain ⟨q,e3,e⟩ :=bE.1 e
  obtain ⟨e4,e⟩ :=tst_none e
  obtain ⟨rows,e5,e⟩ :=bE.1 e
  simp at e
  obtain ⟨rfl,rfl⟩ :=e
  exact ⟨_,tE.2 (.inl ⟨e0,bE.2 ⟨_,e1,bE.2 ⟨_,e2,bE.2 ⟨_,e3,tE.2 (.inl ⟨e4,bE.2 ⟨_,e5,rfl⟩⟩)⟩⟩⟩⟩),Par.upd h hc hv _,rfl⟩
 all_goals cases e

theorem builtinS_loc (h:Agr T s s') (hc:Cl T s) {b:Builtin} {xs:List Operand} {tys:List TypeId} (hx:∀ x ∈ xs,opIn T x = true) {z:S} (e:builtinS E s b xs tys = some (s2,z)) :
  ∃ s2',builtinS E s' b xs tys = some (s2',z)∧Par T s s' s2 s2'∧z.rootIn T = true∧(quietB b = true→s2 = s∧s2' = s') :=by
 unfold builtinS at e ⊢
 split at e
 ·rename_i x t
  have hx0:opIn T x = true :=hx x (by simp)
  split at e
  ·obtain ⟨i,e1,e⟩ :=bE.1 e
   obtain ⟨v,e2,e⟩ :=bE.1 e
   obtain ⟨y,e3,e⟩ :=bE.1 e
   obtain ⟨c,e4,e⟩ :=bE.1 e
   obtain ⟨n,e5,e⟩ :=bE.1 e
   obtain ⟨e6,e⟩ :=tst_none e
   simp at e
   obtain ⟨rfl,rfl⟩ :=e
   refine ⟨s',bE.2 ⟨i,e1,bE.2 ⟨v,by rw [rd_loc h hx0]; exact e2,bE.2 ⟨y,by rw [cells_loc h (rd_root hc hx0 e2)]; exact e3,bE.2 ⟨c,e4,bE.2 ⟨n,e5,tE.2 (.inl ⟨e6,rfl⟩)⟩⟩⟩⟩⟩,Par.refl h hc,rfl,fun _ =>⟨rfl,rfl⟩⟩
  ·obtain ⟨i,e1,e⟩ :=bE.1 e
   obtain ⟨k,e2,e⟩ :=bE.1 e
   obtain ⟨j,e3,e⟩ :=bE.1 e
   obtain ⟨v,e4,e⟩ :=bE.1 e
   obtain ⟨s3,e6,p,r⟩ :=clearS_loc h hc (rd_root hc hx0 e4) e
   exact ⟨s3,bE.2 ⟨i,e1,bE.2 ⟨k,e2,bE.2 ⟨j,e3,bE.2 ⟨v,by rw [rd_loc h hx0]; exact e4,e6⟩⟩⟩⟩,p,r,fun hq =>by cases hq⟩
  ·cases e
 ·rename_i x y t u
  have hx0:opIn T x = true :=hx x (by simp)
  have hy0:opIn T y = true :=hx y (by simp)
  split at e
  ·obtain ⟨e0,e⟩ :=tst_none e
   obtain ⟨i,e1,e⟩ :=bE.1 e
   obtain ⟨k,e2,e⟩ :=bE.1 e
   obtain ⟨j,e3,e⟩ :=bE.1 e
   obtain ⟨vx,e4,e⟩ :=bE.1 e
   obtain ⟨vy,e5,e⟩ :=bE.1 e
   obtain ⟨s3,e6,p,r⟩ :=appendA_loc h hc (rd_root hc hx0 e4) (rd_root hc hy0 e5) e
   exact ⟨s3,tE.2 (.inl ⟨e0,bE.2 ⟨i,e1,bE.2 ⟨k,e2,bE.2 ⟨j,e3,bE.2 ⟨vx,by rw [rd_loc h hx0]; exact e4,bE.2 ⟨vy,by rw [rd_loc h hy0]; exact e5,e6⟩⟩⟩⟩⟩⟩),p,r,fun hq =>by cases hq⟩
  ·obtain ⟨vx,e4,e⟩ :=bE.1 e
   obtain ⟨a,e1,e⟩ :=bE.1 e
   obtain ⟨vy,e5,e⟩ :=bE.1 e
   obtain ⟨c,e2,e⟩ :=bE.1 e
   obtain ⟨v,e3,e⟩ :=bE.1 e
   simp at e
   obtain ⟨rfl,rfl⟩ :=e
   exact ⟨s',bE.2 ⟨vx,by rw [rd_loc h hx0]; exact e4,bE.2 ⟨a,e1,bE.2 ⟨vy,by rw [rd_loc h hy0]; exact e5,bE.2 ⟨c,e2,bE.2 ⟨v,e3,rfl⟩⟩⟩⟩⟩,Par.refl h hc,rfl,fun _ =>⟨rfl,rfl⟩⟩
  ·obtain ⟨vx,e4,e⟩ :=bE.1 e
   obtain ⟨a,e1,e⟩ :=bE.1 e
   obtain ⟨vy,e5,e⟩ :=bE.1 e
   obtain ⟨c,e2,e⟩ :=bE.1 e
   obtain ⟨v,e3,e⟩ :=bE.1 e
   simp at e
   obtain ⟨rfl,rfl⟩ :=e
   exact ⟨s',bE.2 ⟨vx,by rw [rd_loc h hx0]; exact e4,bE.2 ⟨a,e1,bE.2 ⟨vy,by rw [rd_loc h hy0]; exact e5,bE.2 ⟨c,e2,bE.2 ⟨v,e3,rfl⟩⟩⟩⟩⟩,Par.refl h hc,rfl,fun _ =>⟨rfl,rfl⟩⟩
  ·cases e
 ·cases e

theorem oIn_of {o:Option Operand} (h:∀ x,o = some x→opIn T x = true):oIn T o = true :=by
 cases o
 ·rfl
 ·exact h _ rfl

theorem ev1_loc (h:Agr T s s') (hc:Cl T s) {call:Sem1} {ty:TypeId} {op:Op} (hx:∀ x ∈ op.operands,opIn T x = true) {z:S} (e:ev1 E call ty s op = some (s2,z)) :
  ∃ s2',ev1 E call ty s' op = some (s2',z)∧Par T s s' s2 s2'∧z.rootIn T = true∧(quietOp op = true→s2 = s∧s2' = s') :=by
 cases op
 case move x =>
  have hx0:opIn T x = true :=hx x (by simp [Op.operands])
  simp only [ev1] at e ⊢
  obtain ⟨v,e1,e⟩ :=bE.1 e
  simp at e
  obtain ⟨rfl,rfl⟩ :=e
  exact ⟨s',bE.2 ⟨v,by rw [rd_loc h hx0]; exact e1,rfl⟩,Par.refl h hc,rd_root hc hx0 e1,fun _ =>⟨rfl,rfl⟩⟩
 case assign x =>
  have hx0:opIn T x = true :=hx x (by simp [Op.operands])
  simp only [ev1] at e ⊢
  obtain ⟨v,e1,e⟩ :=bE.1 e
  obtain ⟨s3,e2,p,r⟩ :=assignS_loc h hc (rd_root hc hx0 e1) e
  exact ⟨s3,bE.2 ⟨v,by rw [rd_loc h hx0]; exact e1,e2⟩,p,r,fun hq =>by cases hq⟩
 case pick c a b =>
  have hc0:opIn T c = true :=hx c (by simp [Op.operands])
  have ha0:opIn T a = true :=hx a (by simp [Op.operands])
  have hb0:opIn T b = true :=hx b (by simp [Op.operands])
  simp only [ev1] at e ⊢
  obtain ⟨v,e1,e⟩ :=bE.1 e
  obtain ⟨u,e2,e⟩ :=bE.1 e
  obtain ⟨t,e3,e⟩ :=bE.1 e
  rcases tE.1 e with ⟨ht,e⟩ | ⟨ht,e⟩ <;> obtain ⟨w,e4,e⟩ :=bE.1 e <;> simp at e <;> obtain ⟨rfl,rfl⟩ :=e
  ·exact ⟨s',bE.2 ⟨v,by rw [rd_loc h hc0]; exact e1,bE.2 ⟨u,e2,bE.2 ⟨t,e3,tE.2 (.inl ⟨ht,bE.2 ⟨w,by rw [rd_loc h ha0]; exact e4,rfl⟩⟩)⟩⟩⟩,Par.refl h hc,rd_root hc ha0 e4,fun _ =>⟨rfl,rfl⟩⟩
  ·exact ⟨s',bE.2 ⟨v,by rw [rd_loc h hc0]; exact e1,bE.2 ⟨u,e2,bE.2 ⟨t,e3,tE.2 (.inr ⟨ht,bE.2 ⟨w,by rw [rd_loc h hb0]; exact e4,rfl⟩⟩)⟩⟩⟩,Par.refl h hc,rd_root hc hb0 e4,fun _ =>⟨rfl,rfl⟩⟩
 case alloc t =>
  simp only [ev1] at e ⊢
  obtain ⟨i,e1,e⟩ :=bE.1 e
  simp at e
  obtain ⟨rfl,rfl⟩ :=e
  exact ⟨s',bE.2 ⟨i,e1,rfl⟩,Par.refl h hc,rfl,fun _ =>⟨rfl,rfl⟩⟩
 case box t x =>
  have hx0:opIn T x = true :=hx x (by simp [Op.operands])
  simp only [ev1] at e ⊢
  obtain ⟨v,e1,e⟩ :=bE.1 e
  obtain ⟨q,e2,e⟩ :=bE.1 e
  simp at e
  obtain ⟨rfl,rfl⟩ :=e
  obtain ⟨s3,e3,p⟩ :=take_loc (z :=q.2) h hc (rd_root hc hx0 e1) (by simpa using e2)
  exact ⟨s3,bE.2 ⟨v,by rw [rd_loc h hx0]; exact e1,bE.2 ⟨_,e3,rfl⟩⟩,p,by split <;> rfl,fun hq =>by cases hq⟩
 case load t x =>
  have hx0:opIn T x = true :=hx x (by simp [Op.operands])
  simp only [ev1] at e ⊢
  obtain ⟨i,e1,e⟩ :=bE.1 e
  obtain ⟨v,e2,e⟩ :=bE.1 e
  obtain ⟨u,e3,e⟩ :=bE.1 e
  simp at e
  obtain ⟨rfl,rfl⟩ :=e
  have hr :=rd_root hc hx0 e2
  exact ⟨s',bE.2 ⟨i,e1,bE.2 ⟨v,by rw [rd_loc h hx0]; exact e2,bE.2 ⟨u,by rw [loadS_loc h hr]; exact e3,rfl⟩⟩⟩,Par.refl h hc,loadS_root hr e3,fun _ =>⟨rfl,rfl⟩⟩
 case store t x y =>
  have hx0:opIn T x = true :=hx x (by simp [Op.operands])
  have hy0:opIn T y = true :=hx y (by simp [Op.operands])
  simp only [ev1] at e ⊢
  obtain ⟨i,e1,e⟩ :=bE.1 e
  obtain ⟨a,e2,e⟩ :=bE.1 e
  obtain ⟨v,e3,e⟩ :=bE.1 e
  obtain ⟨s3,e4,p,r⟩ :=storeS_loc h hc (rd_root hc hy0 e3) (rd_root hc hx0 e2) e
  exact ⟨s3,bE.2 ⟨i,e1,bE.2 ⟨a,by rw [rd_loc h hx0]; exact e2,bE.2 ⟨v,by rw [rd_loc h hy0]; exact e3,e4⟩⟩⟩,p,r,fun hq =>by cases hq⟩
 case nilCheck x =>
  have hx0:opIn T x = true :=hx x (by simp [Op.operands])
  simp only [ev1] at e ⊢
  obtain ⟨v,e1,e⟩ :=bE.1 e
  obtain ⟨e2,e3,r⟩ :=nilS_loc h (rd_root hc hx0 e1) e
  subst e3
  exact ⟨s',bE.2 ⟨v,by rw [rd_loc h hx0]; exact e1,e2⟩,Par.refl h hc,r,fun _ =>⟨rfl,rfl⟩⟩
 case binOp op t x y yt =>
  have hx0:opIn T x = true :=hx x (by simp [Op.operands])
  have hy0:opIn T y = true :=hx y (by simp [Op.operands])
  simp only [ev1] at e ⊢
  obtain ⟨a,e1,e⟩ :=bE.1 e
  obtain ⟨b,e2,e⟩ :=bE.1 e
  obtain ⟨v,e3,e⟩ :=bE.1 e
  simp at e
  obtain ⟨rfl,rfl⟩ :=e
  exact ⟨s',bE.2 ⟨a,by rw [rd_loc h hx0]; exact e1,bE.2 ⟨b,by rw [rd_loc h hy0]; exact e2,bE.2 ⟨v,e3,rfl⟩⟩⟩,Par.refl h hc,binS_root e3,fun _ =>⟨rfl,rfl⟩⟩
 case unOp op t x =>
  have hx0:opIn T x = true :=hx x (by simp [Op.operands])
  simp only [ev1] at e ⊢
  obtain ⟨a,e1,e⟩ :=bE.1 e
  obtain ⟨u,e2,e⟩ :=bE.1 e
  obtain ⟨v,e3,e⟩ :=bE.1 e
  simp at e
  obtain ⟨rfl,rfl⟩ :=e
  exact ⟨s',bE.2 ⟨a,by rw [rd_loc h hx0]; exact e1,bE.2 ⟨u,e2,bE.2 ⟨v,e3,rfl⟩⟩⟩,Par.refl h hc,rfl,fun _ =>⟨rfl,rfl⟩⟩
 case fieldAddr t x f =>
  have hx0:opIn T x = true :=hx x (by simp [Op.operands])
  simp only [ev1] at e ⊢
  obtain ⟨i,e1,e⟩ :=bE.1 e
  obtain ⟨l,e2,e⟩ :=bE.1 e
  obtain ⟨d,e3,e⟩ :=bE.1 e
  obtain ⟨a,e4,e⟩ :=bE.1 e
  obtain ⟨v,e5,e⟩ :=bE.1 e
  simp at e
  obtain ⟨rfl,rfl⟩ :=e
  have hr :=rd_root hc hx0 e4
  exact ⟨s',bE.2 ⟨i,e1,bE.2 ⟨l,e2,bE.2 ⟨d,e3,bE.2 ⟨a,by rw [rd_loc h hx0]; exact e4,bE.2 ⟨v,by rw [fieldS_loc h hr]; exact e5,rfl⟩⟩⟩⟩⟩,Par.refl h hc,fieldS_root hr e5,fun _ =>⟨rfl,rfl⟩⟩
 case indexAddr t x ix =>
  have hx0:opIn T x = true :=hx x (by simp [Op.operands])
  have hi0:opIn T ix = true :=hx ix (by simp [Op.operands])
  simp only [ev1] at e ⊢
  obtain ⟨ti,e1,e⟩ :=bE.1 e
  obtain ⟨k,e2,e⟩ :=bE.1 e
  obtain ⟨tj,e3,e⟩ :=bE.1 e
  obtain ⟨n,e4,e⟩ :=bE.1 e
  obtain ⟨u,e5,e⟩ :=bE.1 e
  obtain ⟨i,e6,e⟩ :=bE.1 e
  obtain ⟨v,e7,e⟩ :=bE.1 e
  obtain ⟨w,e8,e⟩ :=bE.1 e
  simp at e
  obtain ⟨rfl,rfl⟩ :=e
  have hr :=rd_root hc hx0 e7
  exact ⟨s',bE.2 ⟨ti,e1,bE.2 ⟨k,e2,bE.2 ⟨tj,e3,bE.2 ⟨n,by rw [rd_loc h hi0]; exact e4,bE.2 ⟨u,e5,bE.2 ⟨i,e6,bE.2 ⟨v,by rw [rd_loc h hx0]; exact e7,bE.2 ⟨w,by rw [indexS_loc h hr]; exact e8,rfl⟩⟩⟩⟩⟩⟩⟩⟩,Par.refl h hc,indexS_root hr e8,fun _ =>⟨rfl,rfl⟩⟩
 case index t x ix =>
  have hx0:opIn T x = true :=hx x (by simp [Op.operands])
  have hi0:opIn T ix = true :=hx ix (by simp [Op.operands])
  simp only [ev1] at e ⊢
  obtain ⟨ti,e1,e⟩ :=bE.1 e
  obtain ⟨e2,e⟩ :=tst_none e
  obtain ⟨n,e4,e⟩ :=bE.1 e
  obtain ⟨u,e5,e⟩ :=bE.1 e
  obtain ⟨i,e6,e⟩ :=bE.1 e
  obtain ⟨v,e7,e⟩ :=bE.1 e
  obtain ⟨w,e8,e⟩ :=bE.1 e
  obtain ⟨y,e9,e⟩ :=bE.1 e
  obtain ⟨c,e10,e⟩ :=bE.1 e
  simp at e
  obtain ⟨rfl,rfl⟩ :=e
  exact ⟨s',bE.2 ⟨ti,e1,tE.2 (.inl ⟨e2,bE.2 ⟨n,by rw [rd_loc h hi0]; exact e4,bE.2 ⟨u,e5,bE.2 ⟨i,e6,bE.2 ⟨v,by rw [rd_loc h hx0]; exact e7,bE.2 ⟨w,e8,bE.2 ⟨y,e9,bE.2 ⟨c,e10,rfl⟩⟩⟩⟩⟩⟩⟩⟩)⟩,Par.refl h hc,rfl,fun _ =>⟨rfl,rfl⟩⟩
 case extract x i =>
  cases x
  case tmp t =>
   have hx0:opIn T (.tmp t) = true :=hx (.tmp t) (by simp [Op.operands])
   simp only [ev1] at e ⊢
   obtain ⟨s3,e1,p,r⟩ :=extractS_loc h hc hx0 e
   exact ⟨s3,e1,p,r,fun hq =>by cases hq⟩
  all_goals cases e
 case build t parts =>
  simp only [ev1] at e ⊢
  obtain ⟨i,e1,e⟩ :=bE.1 e
  obtain ⟨l,e2,e⟩ :=bE.1 e
  obtain ⟨q,e3,e⟩ :=bE.1 e
  obtain ⟨cs,e4,e⟩ :=bE.1 e
  simp at e
  obtain ⟨rfl,rfl⟩ :=e
  obtain ⟨s3,e5,p⟩ :=takeAll_loc (z :=q.2) h hc (fun p hp =>hx p.2 (by simp only [Op.operands,List.mem_toArray,List.mem_map]; exact ⟨p,hp,rfl⟩)) (by simpa using e3)
  exact ⟨s3,bE.2 ⟨i,e1,bE.2 ⟨l,e2,bE.2 ⟨_,e5,bE.2 ⟨cs,e4,rfl⟩⟩⟩⟩,p,rfl,fun hq =>by cases hq⟩
 case buildSlice t n parts =>
  simp only [ev1] at e ⊢
  obtain ⟨i,e1,e⟩ :=bE.1 e
  obtain ⟨l,e2,e⟩ :=bE.1 e
  obtain ⟨j,e2',e⟩ :=bE.1 e
  obtain ⟨q,e3,e⟩ :=bE.1 e
  obtain ⟨cs,e4,e⟩ :=bE.1 e
  obtain ⟨e6,e⟩ :=tst_none e
  simp at e
  obtain ⟨rfl,rfl⟩ :=e
  obtain ⟨s3,e5,p⟩ :=takeAll_loc (z :=q.2) h hc (fun p hp =>hx p.2 (by simp only [Op.operands,List.mem_toArray,List.mem_map]; exact ⟨p,hp,rfl⟩)) (by simpa using e3)
  exact ⟨s3,bE.2 ⟨i,e1,bE.2 ⟨l,e2,bE.2 ⟨j,e2',bE.2 ⟨_,e5,bE.2 ⟨cs,e4,tE.2 (.inl ⟨e6,rfl⟩)⟩⟩⟩⟩⟩,p,rfl,fun hq =>by cases hq⟩
 case makeSlice t x y =>
  have hx0:opIn T x = true :=hx x (by simp [Op.operands])
  have hy0:opIn T y = true :=hx y (by simp [Op.operands])
  simp only [ev1] at e ⊢
  obtain ⟨i,e1,e⟩ :=bE.1 e
  obtain ⟨k,e2,e⟩ :=bE.1 e
  obtain ⟨j,e3,e⟩ :=bE.1 e
  obtain ⟨v,e4,e⟩ :=bE.1 e
  obtain ⟨u,e5,e⟩ :=bE.1 e
  obtain ⟨n,e6,e⟩ :=bE.1 e
  obtain ⟨v',e7,e⟩ :=bE.1 e
  obtain ⟨u',e8,e⟩ :=bE.1 e
  obtain ⟨m,e9,e⟩ :=bE.1 e
  obtain ⟨e10,e⟩ :=tst_none e
  obtain ⟨e11,e⟩ :=tst_none e
  simp at e
  obtain ⟨rfl,rfl⟩ :=e
  exact ⟨s',bE.2 ⟨i,e1,bE.2 ⟨k,e2,bE.2 ⟨j,e3,bE.2 ⟨v,by rw [rd_loc h hx0]; exact e4,bE.2 ⟨u,e5,bE.2 ⟨n,e6,bE.2 ⟨v',by rw [rd_loc h hy0]; exact e7,bE.2 ⟨u',e8,bE.2 ⟨m,e9,tE.2 (.inl ⟨e10,tE.2 (.inl ⟨e11,rfl⟩)⟩)⟩⟩⟩⟩⟩⟩⟩⟩⟩,Par.refl h hc,rfl,fun _ =>⟨rfl,rfl⟩⟩
 case slice t x lo hi mx =>
  cases mx
  case none =>
   have hx0:opIn T x = true :=hx x (by simp [Op.operands])
   have hl0:oIn T lo = true :=oIn_of fun y hy =>hx y (by subst hy; simp [Op.operands])
   have hh0:oIn T hi = true :=oIn_of fun y hy =>hx y (by subst hy; simp [Op.operands])
   simp only [ev1] at e ⊢
   obtain ⟨i,e1,e⟩ :=bE.1 e
   obtain ⟨sz,e2,e⟩ :=bE.1 e
   obtain ⟨v,e3,e⟩ :=bE.1 e
   obtain ⟨w,e4,e⟩ :=bE.1 e
   simp at e
   obtain ⟨rfl,rfl⟩ :=e
   have hr :=rd_root hc hx0 e3
   exact ⟨s',bE.2 ⟨i,e1,bE.2 ⟨sz,e2,bE.2 ⟨v,by rw [rd_loc h hx0]; exact e3,bE.2 ⟨w,by rw [sliceS_loc h hl0 hh0 hr]; exact e4,rfl⟩⟩⟩⟩,Par.refl h hc,sliceS_root hr e4,fun _ =>⟨rfl,rfl⟩⟩
  case some =>cases e
 case convert t b x =>
  have hx0:opIn T x = true :=hx x (by simp [Op.operands])
  simp only [ev1] at e ⊢
  obtain ⟨i,e1,e⟩ :=bE.1 e
  obtain ⟨j,e2,e⟩ :=bE.1 e
  obtain ⟨v,e3,e⟩ :=bE.1 e
  obtain ⟨w,e4,e⟩ :=bE.1 e
  simp at e
  obtain ⟨rfl,rfl⟩ :=e
  have hr :=rd_root hc hx0 e3
  refine ⟨s',bE.2 ⟨i,e1,bE.2 ⟨j,e2,bE.2 ⟨v,by rw [rd_loc h hx0]; exact e3,bE.2 ⟨w,by rw [convS_loc h hr]; exact e4,rfl⟩⟩⟩⟩,Par.refl h hc,?_,fun _ =>⟨rfl,rfl⟩⟩
  unfold convS at e4
  obtain ⟨y,_,e4⟩ :=bE.1 e4
  obtain ⟨c,_,e4⟩ :=bE.1 e4
  exact convC_root e4
 case call c =>
  obtain ⟨callee,args,tys⟩ :=c
  cases callee
  case value x =>
   cases x
   case func f =>
    have e:callE E call f args.toList tys.toList s (E.ann f).ext = some (s2,z) :=e
    have hxs:∀ x ∈ args.toList,opIn T x = true :=fun x hm =>hx x (by simp only [Op.operands,Call.operands]; simp; (try right); simpa using hm)
    show ∃ s2',callE E call f args.toList tys.toList s' (E.ann f).ext = some (s2',z)∧_
    cases hxt:(E.ann f).ext with
    | true =>
     rw [hxt] at e
     have e:extS E s args.toList = some (s2,z) :=e
     show ∃ s2',extS E s' args.toList = some (s2',z)∧_
     match ha:args.toList with
     | [x,y] =>
      rw [ha] at e hxs
      have hx0:opIn T x = true :=hxs x (by simp)
      have hy0:opIn T y = true :=hxs y (by simp)
      obtain ⟨u,e1,e⟩ :=bE.1 (show bnd (rd E 0 s x) _ = some (s2,z) from e)
      obtain ⟨v,e2,e⟩ :=bE.1 e
      obtain ⟨q,e3,e⟩ :=bE.1 e
      simp at e
      obtain ⟨rfl,rfl⟩ :=e
      refine ⟨s',bE.2 ⟨u,by rw [rd_loc h hx0]; exact e1,bE.2 ⟨v,by rw [rd_loc h hy0]; exact e2,bE.2 ⟨q,e3,rfl⟩⟩⟩,Par.refl h hc,?_,fun hq =>by cases hq⟩
      obtain ⟨p1,_,e4⟩ :=bE.1 (show bnd u.prim _ = some q from e3)
      obtain ⟨p2,_,e5⟩ :=bE.1 e4
      split at e5
      ·simp at e5; subst e5; rfl
      ·cases e5
     | [] =>rw [ha] at e; simp [extS] at e
     | [_] =>rw [ha] at e; simp [extS] at e
     | _ :: _ :: _ :: _ =>rw [ha] at e; simp [extS] at e
    | false =>
     rw [hxt] at e
     obtain ⟨q0,ee,e9⟩ :=bE.1 (show bnd (callOf E call f args.toList tys.toList s) _ = some (s2,z) from e)
     simp at e9
     obtain ⟨rfl,rfl⟩ :=e9
     obtain ⟨s3,e1,p,r⟩ :=callOf_loc h hc hxs (show callOf E call f args.toList tys.toList s = some (q0.1,q0.2) from ee)
     refine ⟨s3,bE.2 ⟨_,e1,rfl⟩,p,?_,fun hq =>by cases hq⟩
     cases memT f E.fc with
     | false =>exact r
     | true =>cases hq0:q0.2 <;> rw [hq0] at r <;> first | exact r | rfl
   case tmp t =>
    have ht:memT t T = true :=hx (.tmp t) (by simp [Op.operands,Call.operands])
    obtain ⟨q,e0,e⟩ :=bE.1 (show bnd (look s.sl t).asFn _ = some (s2,z) from e)
    obtain ⟨s3,e1,p,r⟩ :=callClo_loc h hc (fun x hm =>hx x (by simp only [Op.operands,Call.operands]; simp; exact .inr (by simpa using hm))) e
    exact ⟨s3,bE.2 ⟨q,by rw [h.at_ t ht]; exact e0,e1⟩,p,r,fun hq =>by cases hq⟩
   all_goals cases e
  case builtin b =>exact builtinS_loc h hc (fun x hm =>hx x (by simp only [Op.operands,Call.operands]; simp; simpa using hm)) e
  all_goals cases e
 case makeFunc fn first caps =>
  cases fn
  case func f =>
   have e:makeF E s f first.toList caps.toList = some (s2,z) :=e
   match hf:first.toList with
   | _ :: _ =>rw [hf] at e; simp [makeF] at e
   | [] =>
    rw [hf] at e
    obtain ⟨l,e1,e⟩ :=bE.1 (show bnd (capsOf E s caps.toList) _ = some (s2,z) from e)
    simp at e
    obtain ⟨rfl,rfl⟩ :=e
    refine ⟨s',?_,Par.refl h hc,rfl,fun hq =>by cases hq⟩
    show makeF E s' f first.toList caps.toList = _
    rw [hf]
    exact bE.2 ⟨l,capsOf_loc h hc (fun x hm =>hx x (by simp only [Op.operands]; simp; exact .inr (by simpa using hm))) e1,rfl⟩
  all_goals cases e
 case makeMap t rs =>
  cases rs
  case none =>
   simp only [ev1] at e ⊢
   obtain ⟨i,e1,e⟩ :=bE.1 e
   obtain ⟨q,e2,e⟩ :=bE.1 e
   obtain ⟨ik,e3,e⟩ :=bE.1 e
   obtain ⟨ie,e4,e⟩ :=bE.1 e
   simp at e
   obtain ⟨rfl,rfl⟩ :=e
   exact ⟨s',bE.2 ⟨i,e1,bE.2 ⟨q,e2,bE.2 ⟨ik,e3,bE.2 ⟨ie,e4,rfl⟩⟩⟩⟩,Par.refl h hc,rfl,fun hq =>by cases hq⟩
  case some =>cases e
 case lookup t x y ok =>
  have hx0:opIn T x = true :=hx x (by simp [Op.operands])
  have hy0:opIn T y = true :=hx y (by simp [Op.operands])
  simp only [ev1] at e ⊢
  obtain ⟨i,e1,e⟩ :=bE.1 e
  obtain ⟨v,e2,e⟩ :=bE.1 e
  obtain ⟨u,e3,e⟩ :=bE.1 e
  obtain ⟨s3,e5,p,r⟩ :=lookupS_loc h hc (rd_root hc hx0 e2) e
  exact ⟨s3,bE.2 ⟨i,e1,bE.2 ⟨v,by rw [rd_loc h hx0]; exact e2,bE.2 ⟨u,by rw [rd_loc h hy0]; exact e3,e5⟩⟩⟩,p,r,fun hq =>by cases hq⟩
 case mapEntry t x y =>
  have hx0:opIn T x = true :=hx x (by simp [Op.operands])
  have hy0:opIn T y = true :=hx y (by simp [Op.operands])
  simp only [ev1] at e ⊢
  obtain ⟨i,e1,e⟩ :=bE.1 e
  obtain ⟨v,e2,e⟩ :=bE.1 e
  obtain ⟨u,e3,e⟩ :=bE.1 e
  obtain ⟨s3,e5,p,r⟩ :=mapEntryS_loc h hc (rd_root hc hx0 e2) e
  exact ⟨s3,bE.2 ⟨i,e1,bE.2 ⟨v,by rw [rd_loc h hx0]; exact e2,bE.2 ⟨u,by rw [rd_loc h hy0]; exact e3,e5⟩⟩⟩,p,r,fun hq =>by cases hq⟩
 case mapUpdate t x y w =>
  have hx0:opIn T x = true :=hx x (by simp [Op.operands])
  have hy0:opIn T y = true :=hx y (by simp [Op.operands])
  have hz0:opIn T w = true :=hx w (by simp [Op.operands])
  simp only [ev1] at e ⊢
  obtain ⟨i,e1,e⟩ :=bE.1 e
  obtain ⟨v,e2,e⟩ :=bE.1 e
  obtain ⟨u,e3,e⟩ :=bE.1 e
  obtain ⟨q,e4,e⟩ :=bE.1 e
  obtain ⟨s3,e5,p,r⟩ :=updateS_loc h hc (rd_root hc hx0 e2) (rd_root hc hz0 e4) e
  exact ⟨s3,bE.2 ⟨i,e1,bE.2 ⟨v,by rw [rd_loc h hx0]; exact e2,bE.2 ⟨u,by rw [rd_loc h hy0]; exact e3,bE.2 ⟨q,by rw [rd_loc h hz0]; exact e4,e5⟩⟩⟩⟩,p,r,fun hq =>by cases hq⟩
 case entryStore t x y w =>
  have hx0:opIn T x = true :=hx x (by simp [Op.operands])
  have hy0:opIn T y = true :=hx y (by simp [Op.operands])
  have hz0:opIn T w = true :=hx w (by simp [Op.operands])
  simp only [ev1] at e ⊢
  obtain ⟨i,e1,e⟩ :=bE.1 e
  obtain ⟨v,e2,e⟩ :=bE.1 e
  obtain ⟨u,e3,e⟩ :=bE.1 e
  obtain ⟨q,e4,e⟩ :=bE.1 e
  obtain ⟨s3,e5,p,r⟩ :=entryStoreS_loc h hc (rd_root hc hx0 e2) (rd_root hc hz0 e4) e
  exact ⟨s3,bE.2 ⟨i,e1,bE.2 ⟨v,by rw [rd_loc h hx0]; exact e2,bE.2 ⟨u,by rw [rd_loc h hy0]; exact e3,bE.2 ⟨q,by rw [rd_loc h hz0]; exact e4,e5⟩⟩⟩⟩,p,r,fun hq =>by cases hq⟩
 case range t x =>
  have hx0:opIn T x = true :=hx x (by simp [Op.operands])
  simp only [ev1] at e ⊢
  obtain ⟨i,e1,e⟩ :=bE.1 e
  obtain ⟨q,e2,e⟩ :=bE.1 e
  obtain ⟨v,e3,e⟩ :=bE.1 e
  obtain ⟨s3,e5,p,r⟩ :=rangeS_loc h hc (rd_root hc hx0 e3) e
  exact ⟨s3,bE.2 ⟨i,e1,bE.2 ⟨q,e2,bE.2 ⟨v,by rw [rd_loc h hx0]; exact e3,e5⟩⟩⟩,p,r,fun hq =>by cases hq⟩
 case entry x =>
  have hx0:opIn T x = true :=hx x (by simp [Op.operands])
  simp only [ev1] at e ⊢
  obtain ⟨v,e3,e⟩ :=bE.1 e
  obtain ⟨s3,e5,p,r⟩ :=entryS_loc h hc (rd_root hc hx0 e3) e
  exact ⟨s3,bE.2 ⟨v,by rw [rd_loc h hx0]; exact e3,e5⟩,p,r,fun hq =>by cases hq⟩
 all_goals cases e

def gIn (T:List Tmp):Option (Option Tmp × Bool)→Bool
 | some (some t,_) =>memT t T
 | _ =>true

theorem wanted_loc (h:Agr T s s') {g:Option (Option Tmp × Bool)} (hg:gIn T g = true):wanted s' g = wanted s g :=by
 rcases g with _ | ⟨_ | t,b⟩
 ·rfl
 ·rfl
 ·simp only [wanted]; rw [h.at_ t hg]
end
end Go.Sx

/- A step of a region; a region that keeps its order. -/
namespace Go.Sx

structure FrOk (n:Nat) (kp:List (Tmp × Value)) (a:Act):Prop where
 size:n≤a.tmps.size
 defers:a.defers = []
 keep:∀ p ∈ kp,Act.tm a p.1 = p.2

def S.isFz:S→Bool
 | .fz .. =>true
 | _ =>false

def HB (hb:List (Tmp × Value)) (s:St) (a:Act) (w:World) (Z:CA→Prop):Prop :=∀ p ∈ hb,(look s.sl p.1).isFz = true→MadeOf w Z p.2 (Act.tm a p.1)

def SI (w0:World) (Z0:CA→Prop) (F0:List CA) (n:Nat) (kp hb:List (Tmp × Value)) (s:St) (a:Act) (w:World):Prop :=
 ∃ Z fp,Inv w Z (Act.tm a) s fp∧(∀ c,Z0 c→Z c)∧(∀ c,Z c→Z0 c∨c ∈ F0∨w0.heap.size≤c.1)∧Goes w0 w (fun c =>c ∈ F0)∧(∀ t,∀ c ∈ fp t,c ∈ F0∨w0.heap.size≤c.1)∧FrOk n kp a∧HB hb s a w Z

theorem MadeOf.goes {w w':World} {Z Z':CA→Prop} {F:CA→Prop} {u v:Value} (h:MadeOf w Z u v) (hg:Goes w w' F) (hZ:∀ c,Z c→Z' c) (hok:∀ c,Z c→(gcell w c).isSome = true) (hF:∀ c,Z c→¬ F c):MadeOf w' Z' u v :=by
 obtain ⟨b,o,e,h⟩ :=h
 exact ⟨b,o,e,fun j y hy =>⟨by rw [cell_of_g (hg.cells _ (cell_lt (hok _ (h j y hy).2)) (hF _ (h j y hy).2))]; exact (h j y hy).1,hZ _ (h j y hy).2⟩⟩

theorem ev1_mv {E:Env} {call:Sem1} {ty:TypeId} {s s':St} {op:Op} {z:S} (e:ev1 E call ty s op = some (s',z)) (t:Tmp) :
  look s'.sl t = look s.sl t∨(∃ c cs,s.cnt≤c∧look s'.sl t = (look s.sl t).withCells c cs)∨∃ vs vs',look s.sl t = .tup vs∧look s'.sl t = .tup vs'∧(vs' ≠ []∧allFreeT vs = false) :=by
 let T:List Tmp :=(s.sl.map fun p =>p.1) ++ ((s.sl.map fun p =>match p.2 with | .lnk r _ _ _ _ _ _ =>r | .ptr r _ _ _ =>r | _ =>0) ++ (op.operands.toList.map fun x =>match x with | .tmp u =>u | _ =>0))
 have mem:∀ (u:Tmp) (l:List Tmp),u ∈ l→memT u l = true :=by
  intro u l hu
  induction l with
  | nil =>cases hu
  | cons v l ih =>
   simp only [memT]
   split
   ·rfl
   ·rename_i hne
    exact ih ((List.mem_cons.1 hu).resolve_left (fun e =>hne e.symm))
 have key:∀ (u:Tmp) (l:List (Tmp × S)),(look l u = .dead)∨∃ p ∈ l,p.1 = u∧p.2 = look l u :=by
  intro u l
  induction l with
  | nil =>exact .inl rfl
  | cons p l ih =>
   obtain ⟨v,x⟩ :=p
   by_cases hv:v = u
   ·exact .inr ⟨(v,x),by simp,hv,by simp [look,hv]⟩
   ·rcases ih with ih | ⟨p,hp,h1,h2⟩
    ·exact .inl (by simp [look,hv,ih])
    ·exact .inr ⟨p,by simp [hp],h1,by simp [look,hv,h2]⟩
 have hcl:Cl T s :=by
  intro u _
  rcases key u s.sl with e | ⟨p,hp,_,h2⟩
  ·rw [e]; rfl
  ·rw [← h2]
   cases hx:p.2 with
   | lnk r k off n a el win =>exact mem r T (List.mem_append_right _ (List.mem_append_left _ (List.mem_map.2 ⟨p,hp,by rw [hx]⟩)))
   | ptr r g off el =>exact mem r T (List.mem_append_right _ (List.mem_append_left _ (List.mem_map.2 ⟨p,hp,by rw [hx]⟩)))
   | _ =>rfl
 have hx:∀ x ∈ op.operands,opIn T x = true :=by
  intro x hx
  cases x with
  | tmp u =>exact mem u T (List.mem_append_right _ (List.mem_append_right _ (List.mem_map.2 ⟨.tmp u,by simpa using hx,rfl⟩)))
  | _ =>rfl
 obtain ⟨_,_,p,_⟩ :=ev1_loc (s' :=s) ⟨rfl,fun _ _ =>rfl⟩ hcl hx e
 exact p.mv t

theorem ev1_fz {E:Env} {call:Sem1} {ty:TypeId} {s s':St} {op:Op} {z:S} (e:ev1 E call ty s op = some (s',z)) (t:Tmp) (h:(look s'.sl t).isFz = true):(look s.sl t).isFz = true :=by
 rcases ev1_mv e t with e | ⟨c,cs,_,e⟩ | ⟨vs,vs',e1,e2,_⟩
 ·rw [e] at h; exact h
 ·rw [e] at h
  revert h
  cases look s.sl t <;> simp [S.withCells,S.isFz]
 ·rw [e2] at h; cases h

def okDst (n:Nat) (kp:List (Tmp × Value)) (d:Option Tmp):Prop :=∀ t,d = some t→t < n∧∀ p ∈ kp,p.1 ≠ t

def okOp (E:Env) (n:Nat) (kp hb:List (Tmp × Value)) (o:Oper):Prop :=okDst n kp o.dst∧∀ p ∈ hb,o.dst = some p.1→∃ t i,o.op = .box t (.tmp i)∧E.fzn (.tmp i) = true∧(i,p.2) ∈ kp

theorem tm_put {a:Act} {d:Tmp} {v:Value} (hd:d < a.tmps.size) (t:Tmp):Act.tm (a.put (some d) v) t = if t = d then v else Act.tm a t :=by
 simp only [Act.tm,Act.put]
 by_cases h:t = d
 ·subst h
  simp [hd]
 ·rw [if_neg h]
  simp [Array.getElem?_setIfInBounds_ne (Ne.symm h)]

theorem FrOk.put {n:Nat} {kp:List (Tmp × Value)} {a:Act} (h:FrOk n kp a) {d:Option Tmp} {v:Value} (hd:okDst n kp d):FrOk n kp (a.put d v) :=by
 cases d with
 | none =>exact h
 | some t =>
  obtain ⟨h1,h2⟩ :=hd t rfl
  refine ⟨by simpa [Act.put] using h.size,h.defers,fun p hp =>?_⟩
  rw [tm_put (Nat.lt_of_lt_of_le h1 h.size),if_neg (h2 p hp)]
  exact h.keep p hp

section
variable {P:Program} {E:Env} {w0 w:World} {Z0:CA→Prop} {F0:List CA} {n:Nat} {kp hb:List (Tmp × Value)} {a:Act} {s:St}

theorem SI.put {Z:CA→Prop} {fp:Tmp→List CA} (h2:∀ c,Z0 c→Z c) (h3:∀ c,Z c→Z0 c∨c ∈ F0∨w0.heap.size≤c.1) (h4:Goes w0 w (fun c =>c ∈ F0))
  (h5:∀ t,∀ c ∈ fp t,c ∈ F0∨w0.heap.size≤c.1) (h6:FrOk n kp a) (hi:Inv w Z (Act.tm a) s fp) (h7:HB hb s a w Z) {s':St} (hfz:∀ t,(look s'.sl t).isFz = true→(look s.sl t).isFz = true) {r:S} {v:Value} {w':World} {d:Option Tmp}
  (hbr:∃ Z' fp' F,Done w Z (Act.tm a) fp w' Z' s' fp' v F r∧∀ p ∈ hb,d = some p.1→r.isFz = true→MadeOf w' Z' p.2 v) (hd:okDst n kp d):SI w0 Z0 F0 n kp hb (put d r s') (a.put d v) w' :=by
 obtain ⟨Z',fp',F,D,hmade⟩ :=hbr
 have hgo:Goes w0 w' (fun c =>c ∈ F0) :=h4.trans D.goes (fun c hc =>by
  obtain ⟨t,ht⟩ :=hc
  exact h5 t c ht)
 have hfrom:∀ c,(c ∈ F∨∃ t,c ∈ fp' t)→c ∈ F0∨w0.heap.size≤c.1 :=fun c hc =>by
  rcases D.from_ c hc with ⟨t,ht⟩ | h
  ·exact h5 t c ht
  ·exact .inr (Nat.le_trans h4.size h)
 have hz3:∀ c,Z' c→Z0 c∨c ∈ F0∨w0.heap.size≤c.1 :=fun c hc =>by
  rcases D.zfrom c hc with h | ⟨t,ht⟩ | h
  ·exact h3 c h
  ·exact .inr (h5 t c ht)
  ·exact .inr (.inr (Nat.le_trans h4.size h))
 have hmg:∀ {u v:Value},MadeOf w Z u v→MadeOf w' Z' u v :=fun h =>h.goes D.goes D.zz hi.zok (fun c hc hf =>by
  obtain ⟨t,ht⟩ :=hf
  exact (hi.mine t c ht).2.2 hc)
 cases d with
 | none =>exact ⟨Z',fp',D.inv,fun c hc =>D.zz c (h2 c hc),hz3,hgo,fun t c hc =>hfrom c (.inr ⟨t,hc⟩),h6,fun p hp hf =>hmg (h7 p hp (hfz _ hf))⟩
 | some t =>
  have hlt :=Nat.lt_of_lt_of_le (hd t rfl).1 h6.size
  have hv:Act.tm (a.put (some t) v) t = v :=by rw [tm_put hlt,if_pos rfl]
  refine ⟨Z',_,D.inv.put (d :=t) (x :=r) (F :=F) (tm' :=Act.tm (a.put (some t) v)) rfl (fun u hu =>by rw [tm_put hlt,if_neg hu]) (by rw [hv]; exact D.rep) D.lt D.nd D.mine (fun u _ c hc =>D.apart u c hc),fun c hc =>D.zz c (h2 c hc),hz3,hgo,fun u c hc =>?_,h6.put hd,fun p hp hf =>?_⟩
  ·by_cases hu:u = t
   ·simp only [if_pos hu] at hc; exact hfrom c (.inl hc)
   ·simp only [if_neg hu] at hc; exact hfrom c (.inr ⟨u,hc⟩)
  ·by_cases hpt:t = p.1
   ·subst hpt
    rw [hv]
    refine hmade p hp rfl ?_
    obtain ⟨c,l⟩ :=s'
    revert hf
    cases r <;> simp [Sx.put,look,S.stamp,S.isFz]
   ·rw [tm_put hlt,if_neg (fun e =>hpt e.symm)]
    have:look (Sx.put (some t) r s').sl p.1 = look s'.sl p.1 :=by
     obtain ⟨c,l⟩ :=s'
     simp [Sx.put,look,hpt]
    rw [this] at hf
    exact hmg (h7 p hp (hfz _ hf))

theorem Inv.frz {Z:CA→Prop} {fp:Tmp→List CA} {tm:Tmp→Value} (h:Inv w Z tm s fp) (t:Tmp):∃ Z' fp',Inv w Z' tm (frzS s t (look s.sl t)) fp'∧(∀ c,Z c→Z' c)∧(∀ c,Z' c→Z c∨∃ t,c ∈ fp t)∧(∀ t,∀ c ∈ fp' t,c ∈ fp t) :=by
 have none:∃ Z' fp',Inv w Z' tm s fp'∧(∀ c,Z c→Z' c)∧(∀ c,Z' c→Z c∨∃ t,c ∈ fp t)∧(∀ t,∀ c ∈ fp' t,c ∈ fp t) :=⟨Z,fp,h,fun _ h =>h,fun _ h =>.inl h,fun _ _ h =>h⟩
 cases hx:look s.sl t with
 | box g k cs =>
  simp only [frzS]
  split
  case isFalse =>exact none
  case isTrue hf =>
   have hrep :=h.rep t
   rw [hx] at hrep
   obtain ⟨b,o,G,hv,hr,hF⟩ :=hrep
   have hG :=hr.free hf
   subst hG
   rw [List.append_nil] at hF
   let Z':CA→Prop :=fun c =>Z c∨c ∈ fp t
   have hZ:∀ c,Z c→Z' c :=fun c h =>.inl h
   have hput:Sx.put (some t) (.fz 0 cs) s = ⟨s.cnt + 1,(t,.fz s.cnt cs) :: s.sl⟩ :=rfl
   have hfo:Follows w w Z s.sl ((t,.fz s.cnt cs) :: s.sl) tm tm s.cnt :=by
    intro q
    by_cases hq:t = q
    ·right
     subst hq
     rw [look_cons,if_pos rfl]
     refine ⟨fun k ds e =>?_,fun g i ds e =>?_,fun g ds e =>.inl ?_⟩
     ·simp only [S.rootL] at e
      split at e
      ·rename_i e'; omega
      ·cases e
     ·simp only [S.rootR] at e
      split at e
      ·rename_i e'; omega
      ·cases e
     ·simp only [S.rootR] at e
      split at e
      ·rename_i e'; omega
      ·cases e
    ·left
     rw [look_cons,if_neg hq]
     exact ⟨by rfl,by rfl,h.rootKept (fun _ _ =>rfl)⟩
   rw [hput]
   refine ⟨Z',fun u =>if u = t then [] else fp u,⟨fun u =>?_,fun u =>?_,fun u v huv c hc =>?_,fun u c hc =>?_,fun c hc =>?_,fun u =>?_⟩,hZ,fun c hc =>hc.imp id (fun hc =>⟨t,hc⟩),fun u c hc =>?_⟩
   ·by_cases hu:u = t
    ·subst hu
     simp only [look_cons,if_true]
     exact ⟨b,o,hv,RL.same (w' :=w) hZ cs hr (fun _ _ =>rfl) (fun _ _ =>rfl),fun c hc =>.inr (by rw [hF]; exact hc)⟩
    ·have hu':¬ t = u :=fun e =>hu e.symm
     simp only [look_cons,if_neg hu',if_neg hu]
     exact Rep.follow hZ hfo (h.rep u) (h.stamps u) (fun _ _ =>rfl)
   ·by_cases hu:u = t
    ·simp only [if_pos hu]; exact List.nodup_nil
    ·simp only [if_neg hu]; exact h.nd u
   ·by_cases hu:u = t
    ·simp only [if_pos hu] at hc; cases hc
    ·simp only [if_neg hu] at hc
     by_cases hv:v = t
     ·simp only [if_pos hv]; exact List.not_mem_nil
     ·simp only [if_neg hv]; exact h.disj u v huv c hc
   ·by_cases hu:u = t
    ·simp only [if_pos hu] at hc; cases hc
    ·simp only [if_neg hu] at hc
     have hm :=h.mine u c hc
     exact ⟨hm.1,hm.2.1,fun hz =>hz.elim hm.2.2 (fun ht =>h.disj u t hu c hc ht)⟩
   ·exact hc.elim (h.zok c) (fun ht =>(h.mine t c ht).1)
   ·by_cases hu:u = t
    ·subst hu
     simp only [look_cons,if_true,S.stampsLt]
     omega
    ·have hu':¬ t = u :=fun e =>hu e.symm
     simp only [look_cons,if_neg hu']
     exact stampsLt_mono (h.stamps u) (Nat.le_succ _)
   ·by_cases hu:u = t
    ·simp only [if_pos hu] at hc; cases hc
    ·simp only [if_neg hu] at hc; exact hc
 | _ =>exact none

theorem SI.frz (h:SI w0 Z0 F0 n kp [] s a w) (t:Tmp):SI w0 Z0 F0 n kp [] (frzS s t (look s.sl t)) a w :=by
 obtain ⟨Z,fp,hinv,h2,h3,h4,h5,h6,h7⟩ :=h
 obtain ⟨Z',fp',i,z1,z2,s1⟩ :=hinv.frz t
 refine ⟨Z',fp',i,fun c hc =>z1 c (h2 c hc),fun c hc =>?_,h4,fun t c hc =>h5 t c (s1 t c hc),h6,fun p hp =>by cases hp⟩
 rcases z2 c hc with h | ⟨t,ht⟩
 ·exact h3 c h
 ·exact .inr (h5 t c ht)
theorem SI.frzAll:∀ (l:List Operand) {s:St},SI w0 Z0 F0 n kp [] s a w→SI w0 Z0 F0 n kp [] (Sx.frzAll s l) a w
 | [],_,h =>h
 | .tmp t :: r,_,h =>SI.frzAll r (h.frz t)
 | .const _ :: r,_,h =>SI.frzAll r h
 | .global _ :: r,_,h =>SI.frzAll r h
 | .func _ :: r,_,h =>SI.frzAll r h
theorem RC.deep {w:World} {Z:CA→Prop} {x:C} {v:Value} {F:List CA} (h:RC w Z x v F):∃ F1 F2,F = F1 ++ F2∧∀ Z':CA→Prop,(∀ c,Z c→Z' c)→(∀ c ∈ F2,Z' c)→RC w Z' (deepC x) v F1 :=by
 cases x with
 | sl f sz rows =>
  obtain ⟨ad,cap,hv,hle,h⟩ :=h
  have hlen:(borRows rows).length = rows.length :=borRows_length _
  rcases h with ⟨hf,hF,h⟩ | ⟨hf,⟨h1,h2,h3,h4⟩ | ⟨b,o,G,had,⟨hr,hc⟩,hF⟩⟩
  ·refine ⟨[],[],by simp [hF],fun Z' hZ _ =>⟨ad,cap,by rw [hlen]; exact hv,by rw [hlen]; exact hle,.inl ⟨hf,rfl,h.imp (fun e =>by rw [e]; rfl) ?_⟩⟩⟩
   rintro ⟨b,o,had,hr,hz⟩
   exact ⟨b,o,had,RRs.bor hZ rows hr (by simp),fun c hc =>hZ c (hz c (by rw [hlen] at hc; exact hc))⟩
  ·refine ⟨[],[],by simp [h4],fun Z' hZ _ =>⟨ad,cap,by rw [hlen]; exact hv,by rw [hlen]; exact hle,.inr ⟨hf,.inl ⟨h1,by rw [h2]; rfl,h3,rfl⟩⟩⟩⟩
  ·exact ⟨span (b,o) (cap * sz),G,hF,fun Z' hZ hG =>⟨ad,cap,by rw [hlen]; exact hv,by rw [hlen]; exact hle,.inr ⟨hf,.inr ⟨b,o,[],had,⟨RRs.bor hZ rows hr hG,hc⟩,by simp⟩⟩⟩⟩
 | p u =>exact ⟨F,[],by simp,fun Z' hZ _ =>h⟩
 | hole =>exact ⟨F,[],by simp,fun Z' hZ _ =>h⟩
 | mp f it ka va nk rows =>exact ⟨F,[],by simp,fun Z' hZ _ =>RC.same (w' :=w) hZ _ h (fun _ _ =>rfl)⟩
theorem deepRow_length:∀ {cs:List C},(deepRow cs).length = cs.length
 | [] =>rfl
 | _ :: cs =>by simp only [deepRow,List.length_cons,deepRow_length (cs :=cs)]
theorem RL.deep {w:World} {Z:CA→Prop}:∀ {cs:List C} {get:Nat→Option Value} {F:List CA},RL w Z cs get F→∃ F1 F2,F.Perm (F1 ++ F2)∧∀ Z':CA→Prop,(∀ c,Z c→Z' c)→(∀ c ∈ F2,Z' c)→RL w Z' (deepRow cs) get F1
 | [],_,F,h =>⟨[],[],by have h:F = [] :=h; rw [h]; exact List.Perm.refl _,fun _ _ _ =>rfl⟩
 | c :: cs,get,F,h =>by
  obtain ⟨v,A,B,h0,hc,hr,hF⟩ :=h
  subst hF
  obtain ⟨A1,A2,e1,k1⟩ :=hc.deep
  obtain ⟨B1,B2,p2,k2⟩ :=RL.deep hr
  subst e1
  refine ⟨A1 ++ B1,A2 ++ B2,?_,fun Z' hZ hz =>⟨v,A1,B1,h0,k1 Z' hZ (fun c hc =>hz c (List.mem_append_left _ hc)),k2 Z' hZ (fun c hc =>hz c (List.mem_append_right _ hc)),rfl⟩⟩
  refine List.perm_iff_count.2 fun c =>?_
  have :=List.perm_iff_count.1 p2 c
  simp only [List.count_append] at this ⊢
  omega

theorem Inv.turnR {Z:CA→Prop} {fp:Tmp→List CA} {tm:Tmp→Value} (h:Inv w Z tm s fp) {r:Tmp} {cs cs':List C} (hroot:(look s.sl r).root = some cs) (hlen:cs'.length = cs.length)
  (ht:∀ {get:Nat→Option Value} {F:List CA},RL w Z cs get F→∃ F1 F2,F.Perm (F1 ++ F2)∧∀ Z':CA→Prop,(∀ c,Z c→Z' c)→(∀ c ∈ F2,Z' c)→RL w Z' cs' get F1) :
  ∃ Z' fp',Inv w Z' tm (Sx.upd r cs' s) fp'∧(∀ c,Z c→Z' c)∧(∀ c,Z' c→Z c∨∃ t,c ∈ fp t)∧(∀ t,∀ c ∈ fp' t,c ∈ fp t) :=by
 obtain ⟨D,G,hF,hG,_,hmk⟩ :=(h.rep r).root2 hroot
 obtain ⟨F1,F2,hp,ht⟩ :=ht hG
 have hp2:(D ++ G).Perm ((D ++ F1) ++ F2) :=by
  refine List.perm_iff_count.2 fun c =>?_
  have :=List.perm_iff_count.1 hp c
  simp only [List.count_append] at this ⊢
  omega
 have hnd :=h.nd r
 rw [hF] at hnd
 have hnd2 :=hp2.nodup_iff.1 hnd
 rw [List.nodup_append] at hnd2
 have hmem:∀ c,c ∈ fp r↔(c ∈ D ++ F1∨c ∈ F2) :=fun c =>by rw [hF,hp2.mem_iff,List.mem_append]
 have hmine:∀ {t:Tmp} {c:CA},c ∈ fp t→c ∉ F2→Mine w (orIn Z F2) c :=fun {t c} hc hn =>⟨(h.mine t c hc).1,(h.mine t c hc).2.1,fun hz =>hz.elim (h.mine t c hc).2.2 hn⟩
 have hrl :=ht (orIn Z F2) (fun c h =>.inl h) (fun c h =>.inr h)
 refine ⟨orIn Z F2,_,h.upd (w' :=w) (Z' :=orIn Z F2) (r :=r) (cs' :=cs') (F' :=D ++ F1) (by rw [hroot]; rfl) (fun c h =>.inl h) (fun _ _ _ _ =>rfl) (fun l tm0 =>hmk w (orIn Z F2) cs' F1 l tm0 s.cnt (fun c h =>.inl h) hlen hrl) hnd2.1
  (fun c hc =>hmine ((hmem c).2 (.inl hc)) (fun hx =>hnd2.2.2 c hc c hx rfl)) (fun t ht c hc =>h.disj r t (fun e =>ht e.symm) c ((hmem c).2 (.inl hc)))
  (fun t ht c hc =>hmine hc (fun hx =>h.disj r t (fun e =>ht e.symm) c ((hmem c).2 (.inr hx)) hc)) (fun c hc =>hc.elim (h.zok c) (fun hc =>(h.mine r c ((hmem c).2 (.inr hc))).1)),fun c h =>.inl h,fun c hc =>hc.elim .inl (fun hc =>.inr ⟨r,(hmem c).2 (.inr hc)⟩),fun t c hc =>?_⟩
 by_cases ht:t = r
 ·simp only [if_pos ht] at hc
  rw [ht]
  exact (hmem c).2 (.inl hc)
 ·simp only [if_neg ht] at hc
  exact hc
theorem SI.frzR (h:SI w0 Z0 F0 n kp [] s a w) (r:Tmp) (b:Bool):SI w0 Z0 F0 n kp [] (Sx.frzR s r b (look s.sl r).root) a w :=by
 cases hr:(look s.sl r).root with
 | none =>exact h
 | some cs =>
  obtain ⟨Z,fp,hinv,h2,h3,h4,h5,h6,h7⟩ :=h
  have key:∃ Z' fp',Inv w Z' (Act.tm a) (Sx.frzR s r b (some cs)) fp'∧(∀ c,Z c→Z' c)∧(∀ c,Z' c→Z c∨∃ t,c ∈ fp t)∧(∀ t,∀ c ∈ fp' t,c ∈ fp t) :=by
   cases b with
   | true =>exact hinv.turnR hr deepRow_length (fun h =>h.deep)
   | false =>exact hinv.turnR hr (borRow_length _) (fun {get F} h =>⟨[],F,List.Perm.refl _,fun Z' hZ hz =>RL.bor hZ cs h hz⟩)
  obtain ⟨Z',fp',i,z1,z2,s1⟩ :=key
  refine ⟨Z',fp',i,fun c hc =>z1 c (h2 c hc),fun c hc =>?_,h4,fun t c hc =>h5 t c (s1 t c hc),h6,fun p hp =>by cases hp⟩
  rcases z2 c hc with h | ⟨t,ht⟩
  ·exact h3 c h
  ·exact .inr (h5 t c ht)
theorem SI.frzL {s:St} (h:SI w0 Z0 F0 n kp [] s a w):∀ (l:List (Tmp × Bool)),SI w0 Z0 F0 n kp [] (Sx.frzL l s) a w :=by
 intro l
 induction l generalizing s with
 | nil =>exact h
 | cons z l ih =>exact ih (h.frzR z.1 z.2)

theorem mvT_none {s s':St} {t:Tmp} {x:S} (h:mvT s t x = (s',none)):s' = s :=by
 cases x with
 | tup vs =>
  cases vs with
  | nil =>simp [mvT] at h; exact h.symm
  | cons _ _ =>simp [mvT] at h
 | _ =>simp [mvT] at h; exact h.symm
theorem rootL_lt0 {y:S} {h c:Nat} {cs:List C} (e:y.rootL h = some cs) (hs:y.stampsLt c):h < c :=by
 cases y <;> simp only [S.rootL] at e
 case val g a ds =>
  split at e
  ·rename_i hg; subst hg; exact hs
  ·cases e
 case box g k ds =>
  split at e
  ·rename_i hg; subst hg; exact hs.2
  ·cases e
 case fz g ds =>
  split at e
  ·rename_i hg; subst hg; exact hs
  ·cases e
 all_goals cases e
theorem look_refL (r h h':Nat) (t:Tmp):∀ l:List (Tmp × S),look (refL r h h' l) t = (look l t).refr r h h'
 | [] =>rfl
 | (u,x) :: l =>by
  simp only [refL,look]
  split
  ·rfl
  ·exact look_refL r h h' t l
theorem refr_root (r h h':Nat) (x:S):(x.refr r h h').root = x.root∧(∀ k,(x.refr r h h').rootL k = x.rootL k)∧(∀ g el,(x.refr r h h').rootR g el = x.rootR g el)∧(x.root.isSome = true→x.refr r h h' = x)∧(x.refr r h h').isFz = x.isFz :=by
 cases x with
 | lnk q k off n a el win =>
  cases el with
  | none =>
   cases win with
   | none =>
    simp only [S.refr]
    split
    ·split
     ·exact ⟨rfl,fun _ =>rfl,fun _ _ =>rfl,(fun h =>by cases h),rfl⟩
     ·exact ⟨rfl,fun _ =>rfl,fun _ _ =>rfl,(fun h =>by cases h),rfl⟩
    ·exact ⟨rfl,fun _ =>rfl,fun _ _ =>rfl,(fun h =>by cases h),rfl⟩
   | some w =>exact ⟨rfl,fun _ =>rfl,fun _ _ =>rfl,fun _ =>rfl,rfl⟩
  | some e =>exact ⟨rfl,fun _ =>rfl,fun _ _ =>rfl,fun _ =>rfl,rfl⟩
 | _ =>exact ⟨rfl,fun _ =>rfl,fun _ _ =>rfl,fun _ =>rfl,rfl⟩
theorem Inv.refL {tm:Tmp→Value} {Z:CA→Prop} {s:St} {fp:Tmp→List CA} (h:Inv w Z tm s fp) {r k g:Nat} {cs:List C} (hr:(look s.sl r).rootL g = some cs)
  (hl:∀ t off m b,look s.sl t = .lnk r k off m b none none→LnkTo w (rget w (look s.sl r) (tm r)) cs off m b none none (tm t)):Inv w Z tm ⟨s.cnt,Sx.refL r k g s.sl⟩ fp :=by
 have same:∀ q,(look s.sl q).root.isSome = true→look (Sx.refL r k g s.sl) q = look s.sl q :=fun q hq =>by
  rw [look_refL]
  exact (refr_root r k g _).2.2.2.1 hq
 refine ⟨fun t =>?_,h.nd,h.disj,h.mine,h.zok,fun t =>?_⟩
 ·have hrep :=h.rep t
  show Rep w Z (Sx.refL r k g s.sl) tm (tm t) (fp t) (look (Sx.refL r k g s.sl) t)
  have keepL:∀ {v:Value} {F:List CA} {q k2 off m:Nat} {b:Bool} {el win:El},Rep w Z s.sl tm v F (.lnk q k2 off m b el win)→Rep w Z (Sx.refL r k g s.sl) tm v F (.lnk q k2 off m b el win) :=by
   intro v F q k2 off m b el win hh
   refine ⟨hh.1,fun ds hds =>?_⟩
   rw [look_refL,(refr_root r k g _).2.1] at hds
   have hq :=same q (by rw [(rootL_root hds).1]; rfl)
   rw [hq]
   exact hh.2 ds hds
  rw [look_refL]
  cases hx:look s.sl t with
  | lnk q k2 off m b el win =>
   rw [hx] at hrep
   cases el with
   | some e =>exact keepL hrep
   | none =>
    cases win with
    | some w' =>exact keepL hrep
    | none =>
     simp only [S.refr]
     split
     ·rename_i hq
      subst hq
      split
      ·rename_i hk
       subst hk
       refine ⟨hrep.1,fun ds hds =>?_⟩
       rw [same q (by rw [(rootL_root hr).1]; rfl)] at hds ⊢
       rw [hr] at hds
       simp at hds
       subst hds
       exact hl t off m b hx
      ·exact keepL hrep
     ·exact keepL hrep
  | ptr q k2 off el =>
   rw [hx] at hrep
   refine ⟨hrep.1,fun ds hds =>?_⟩
   rw [look_refL,(refr_root r k g _).2.2.1] at hds
   have hq :=same q (by rw [rootR_root hds]; rfl)
   rw [hq]
   exact hrep.2 ds hds
  | _ =>rw [hx] at hrep; exact hrep
 ·have hst :=h.stamps t
  show (look (Sx.refL r k g s.sl) t).stampsLt s.cnt
  rw [look_refL]
  cases hx:look s.sl t with
  | lnk q k2 off m b el win =>
   rw [hx] at hst
   have hg:g < s.cnt :=rootL_lt0 hr (h.stamps r)
   cases el with
   | some e =>exact hst
   | none =>
    cases win with
    | some w' =>exact hst
    | none =>
     simp only [S.refr]
     split
     ·split
      ·exact hg
      ·exact hst
     ·exact hst
  | _ =>rw [hx] at hst; exact hst

theorem getP_len {cs ds xs:List C} {off m:Nat} (h:getP cs off none m = some xs) (hl:ds.length = cs.length):∃ ys,getP ds off none m = some ys :=by
 obtain ⟨pre,post,hc,hp,hx⟩ :=getP_none h
 have hle:off + m≤ds.length :=by rw [hl,hc]; simp; omega
 have hd:∀ (k:Nat) (l:List C),k≤l.length→dropL k l = some (l.drop k) :=by
  intro k
  induction k with
  | zero =>intro l _; cases l <;> rfl
  | succ k ih =>
   intro l hk
   cases l with
   | nil =>simp at hk
   | cons c l =>simp only [dropL,List.drop_succ_cons]; exact ih l (by simpa using hk)
 have ht:∀ (k:Nat) (l:List C),k≤l.length→takeL k l = some (l.take k) :=by
  intro k
  induction k with
  | zero =>intro l _; cases l <;> rfl
  | succ k ih =>
   intro l hk
   cases l with
   | nil =>simp at hk
   | cons c l =>simp only [takeL,List.take_succ_cons]; rw [ih l (by simpa using hk)]; rfl
 refine ⟨(ds.drop off).take m,?_⟩
 unfold getP
 simp only
 rw [hd off ds (by omega)]
 simp only [bnd]
 exact ht m _ (by rw [List.length_drop]; omega)


theorem with_rootL0 {x:S} {c:Nat} {cs ds:List C} (h:x.root = some cs):(x.withCells c ds).rootL c = some ds :=by
 cases x <;> simp [S.root] at h <;> simp [S.withCells,S.rootL]
theorem with_stamp0 {x:S} {c:Nat} {cs ds:List C} (h:x.root = some cs):(x.withCells c ds).linkStamp = c :=by
 cases x <;> simp [S.root] at h <;> simp [S.withCells,S.linkStamp]
theorem with_fz {x:S} {c:Nat} {ds:List C}:(x.withCells c ds).isFz = x.isFz :=by
 cases x <;> rfl
theorem SI.lift (h:SI w0 Z0 F0 n kp hb s a w) {r k off m t:Nat} {b:Bool} {e:Nat × Nat} (hl:look s.sl t = .lnk r k off m b (some e) none):SI w0 Z0 F0 n kp hb (liftG r k t s (take s (.lnk r k off m b (some e) none))) a w :=by
 cases ht:take s (.lnk r k off m b (some e) none) with
 | none =>exact h
 | some q =>
  obtain ⟨s',b',ys⟩ :=q
  obtain ⟨Z,fp,hinv,h2,h3,h4,h5,h6,h7⟩ :=h
  have hrep :=hinv.rep t
  rw [hl] at hrep
  have hF :=hrep.1
  rw [hF] at hrep
  obtain ⟨fp1,vs,F,T⟩ :=take_rep hinv hrep ht
  obtain ⟨cs,hroot,ht1⟩ :=bE.1 (show bnd _ _ = some (s',b',ys) from ht)
  obtain ⟨xs,hg,ht1⟩ :=bE.1 ht1
  rcases tE.1 ht1 with ⟨hwh,ht1⟩ | ⟨_,ht1⟩
  case inr =>cases ht1
  obtain ⟨zs,hw,ht1⟩ :=bE.1 ht1
  obtain ⟨cs',hset,ht1⟩ :=bE.1 ht1
  simp at ht1
  obtain ⟨hs',hb',hy⟩ :=ht1
  have hrt :=(rootL_root hroot).1
  have hrne:r ≠ t :=fun e' =>by rw [e',hl] at hrt; cases hrt
  have hlen:cs'.length = cs.length :=setP_length hg hset (by
   obtain ⟨G,hG,_⟩ :=(hinv.rep r).root hrt
   show (leftRow xs).length = m
   rw [left_length]
   exact (place_read hG hg).1)
  have iput :=T.inv.put (d :=t) (x :=.val 0 b' ys) (F :=F) (tm' :=Act.tm a) rfl (fun _ _ =>rfl) ⟨vs,T.packs,T.len,T.rl⟩ trivial T.nd T.mine (fun u _ c hc =>T.apart u c hc)
  have lk:∀ u,look (Sx.put (some t) (.val 0 b' ys) s').sl u = if u = t then .val s'.cnt b' ys else if u = r then (look s.sl r).withCells s.cnt cs' else look s.sl u :=fun u =>by
   rw [← hs']
   by_cases hu:u = t
   ·subst hu; simp [Sx.put,Sx.upd,look,S.stamp]
   ·have hu':¬ t = u :=fun e =>hu e.symm
    by_cases hr:u = r
    ·subst hr; simp [Sx.put,Sx.upd,look,hu,hu']
    ·have hr':¬ r = u :=fun e =>hr e.symm
     simp [Sx.put,Sx.upd,look,hu,hu',hr,hr']
  have lkr:look (Sx.put (some t) (.val 0 b' ys) s').sl r = (look s.sl r).withCells s.cnt cs' :=by rw [lk,if_neg hrne,if_pos rfl]
  have hst:(look (Sx.put (some t) (.val 0 b' ys) s').sl r).linkStamp = s.cnt :=by rw [lkr]; exact with_stamp0 hrt
  have iref :=iput.refL (r :=r) (k :=k) (g :=s.cnt) (cs :=cs') (by rw [lkr]; exact with_rootL0 hrt) (fun u off' m' c' hu =>by
   rw [lkr,rget_with]
   have hut:u ≠ t :=fun e' =>by rw [e',lk,if_pos rfl] at hu; cases hu
   have hur:u ≠ r :=fun e' =>by
    rw [e',lkr] at hu
    have :=with_rootL0 (c :=s.cnt) (ds :=cs') hrt
    rw [hu] at this
    cases this
   rw [lk,if_neg hut,if_neg hur] at hu
   have hr2 :=hinv.rep u
   rw [hu] at hr2
   obtain ⟨⟨zs',hz⟩,hv⟩ :=hr2.2 cs hroot
   exact ⟨getP_len hz hlen,hv⟩)
  show SI w0 Z0 F0 n kp hb (refS r k (Sx.put (some t) (.val 0 b' ys) s')) a w
  unfold refS
  rw [hst]
  refine ⟨Z,_,iref,h2,h3,h4,fun u c hc =>?_,h6,fun p hp hf =>h7 p hp ?_⟩
  ·by_cases hu:u = t
   ·simp only [if_pos hu] at hc
    obtain ⟨u',hu'⟩ :=T.from_ c hc
    exact h5 u' c hu'
   ·simp only [if_neg hu] at hc
    exact h5 u c (T.sub u c hc)
  ·rw [show look (St.mk _ (Sx.refL r k s.cnt (Sx.put (some t) (.val 0 b' ys) s').sl)).sl p.1 = _ from look_refL _ _ _ _ _,(refr_root r k s.cnt _).2.2.2.2,lk] at hf
   by_cases hu:p.1 = t
   ·rw [if_pos hu] at hf; cases hf
   ·rw [if_neg hu] at hf
    by_cases hur:p.1 = r
    ·rw [if_pos hur,with_fz] at hf
     rw [hur]; exact hf
    ·rw [if_neg hur] at hf; exact hf
theorem SI.liftC (h:SI w0 Z0 F0 n kp hb s a w) (c:Call) (l:List Tmp):SI w0 Z0 F0 n kp hb (Sx.liftC s c l) a w :=by
 unfold Sx.liftC
 split
 ·exact h
 ·split
  ·cases hx:c.args.toList with
   | nil =>exact h
   | cons x r =>
    cases x with
    | tmp t =>
     simp only [liftO]
     split
     ·cases hl:look s.sl t with
      | lnk q k off m b el win =>
       cases el with
       | none =>exact h
       | some e =>
        cases win with
        | some _ =>exact h
        | none =>exact h.lift hl
      | _ =>exact h
     ·exact h
    | _ =>exact h
  ·exact h
theorem SI.deepO (h:SI w0 Z0 F0 n kp [] s a w) (l:List Tmp) (x:Operand):SI w0 Z0 F0 n kp [] (Sx.deepO s l x) a w :=by
 cases x with
 | tmp t =>
  simp only [Sx.deepO]
  split
  ·cases hl:look s.sl t with
   | ptr r g off el =>exact h.frzR r true
   | _ =>exact h
  ·exact h
 | _ =>exact h
theorem SI.preX (hfb:E.fz = []→hb = []) (h:SI w0 Z0 F0 n kp hb s a w) {op:Op} {s':St} (he:Sx.preX E s op = (s',none)):SI w0 Z0 F0 n kp hb s' a w :=by
 cases op with
 | makeFunc fn first caps =>
  simp only [Sx.preX] at he
  cases hE:E.fz with
  | nil =>
   have :=hfb hE
   subst this
   rw [hE] at he
   simp [preN] at he
   subst he
   exact SI.frzAll _ h
  | cons _ _ =>
   rw [hE] at he
   simp [preN] at he
   subst he
   exact h
 | move x =>
  simp only [Sx.preX] at he
  cases x with
  | tmp t =>rw [mvT_none he]; exact h
  | _ =>simp [mvX] at he; subst he; exact h
 | call c =>
  simp [Sx.preX] at he
  subst he
  exact h.liftC c E.lf
 | load ty x =>
  simp only [Sx.preX] at he
  cases hE:E.fz with
  | nil =>
   have :=hfb hE
   subst this
   rw [hE] at he
   simp [deepN] at he
   subst he
   exact h.deepO _ _
  | cons _ _ =>
   rw [hE] at he
   simp [deepN] at he
   subst he
   exact h
 | _ =>simp [Sx.preX] at he; subst he; exact h

theorem TR.left {w:World} {Z:CA→Prop}:∀ {vs:List (Bool × List C)} {us:List Value} {F:List CA},TR w Z vs us F→TR w Z (leftT vs) us []
 | [],[],_,_ =>rfl
 | z :: r,u :: us,F,h =>by
  obtain ⟨ws,F1,F2,hp,hl,hr,ht,hF⟩ :=h
  exact ⟨ws,[],[],hp,by simp only [left_length]; exact hl,hr.left,ht.left,rfl⟩
 | [],_ :: _,_,h =>h.elim
 | _ :: _,[],_,h =>h.elim

theorem preX_some {op:Op} {s':St} {x:S} (he:Sx.preX E s op = (s',some x)):∃ t v vs,op = .move (.tmp t)∧look s.sl t = .tup (v :: vs)∧s' = Sx.put (some t) (.tup (leftT (v :: vs))) s∧x = .tup (v :: vs) :=by
 cases op with
 | move y =>
  simp only [Sx.preX] at he
  cases y with
  | tmp t =>
   simp only [mvX] at he
   cases hl:look s.sl t with
   | tup vs =>
    rw [hl] at he
    cases vs with
    | nil =>simp [mvT] at he
    | cons v vs =>
     simp [mvT] at he
     exact ⟨t,v,vs,rfl,hl,he.1.symm,he.2.symm⟩
   | _ =>rw [hl] at he; simp [mvT] at he
  | _ =>simp [mvX] at he
 | makeFunc fn first caps =>simp [Sx.preX] at he
 | load ty x =>simp [Sx.preX] at he
 | _ =>simp [Sx.preX] at he
theorem tup_move {Z:CA→Prop} {fp:Tmp→List CA} {tm:Tmp→Value} (h:Inv w Z tm s fp) {t:Tmp} {v:Bool × List C} {vs:List (Bool × List C)} (hl:look s.sl t = .tup (v :: vs)) :
  ∃ fp' F,Done w Z tm fp w Z (Sx.put (some t) (.tup (leftT (v :: vs))) s) fp' (tm t) F (.tup (v :: vs)) :=by
 have hrep :=h.rep t
 rw [hl] at hrep
 obtain ⟨us,hus,htr⟩ :=hrep
 have hinv :=h.put (d :=t) (x :=.tup (leftT (v :: vs))) (F :=[]) (tm' :=tm) rfl (fun _ _ =>rfl) ⟨us,hus,htr.left⟩ trivial List.nodup_nil (by simp) (by simp)
 refine ⟨_,fp t,{ goes :=Goes.refl _ _,zz :=fun _ h =>h,zfrom :=fun _ h =>.inl h,inv :=hinv,rep :=⟨us,hus,htr⟩,lt :=trivial,nd :=h.nd t,mine :=h.mine t,apart :=fun u c hc hm =>?_,from_ :=fun c hc =>.inl ?_ }⟩
 ·by_cases hu:u = t
  ·simp only [if_pos hu] at hm; cases hm
  ·simp only [if_neg hu] at hm
   exact h.disj t u (fun e =>hu e.symm) c hc hm
 ·rcases hc with hc | ⟨u,hc⟩
  ·exact ⟨t,hc⟩
  ·by_cases hu:u = t
   ·simp only [if_pos hu] at hc; cases hc
   ·simp only [if_neg hu] at hc; exact ⟨u,hc⟩

theorem wanted_of {ops:Array Oper} {Z:CA→Prop} {fp:Tmp→List CA} (h:Inv w Z (Act.tm a) s fp) {o:Oper} {b:Bool} (hw:wanted s (qOf ops.toList o).guard = some b):Region.wanted o (yielded ops a.tmps) = b :=by
 unfold Region.wanted
 cases hg:o.guard with
 | none =>
  simp [qOf,hg,wanted] at hw
  simp [hw]
 | some p =>
  obtain ⟨j,c⟩ :=p
  simp only [qOf,hg] at hw
  cases hd:bnd (atL ops.toList j) (·.dst) with
  | none =>rw [hd] at hw; simp [wanted] at hw
  | some t =>
   rw [hd] at hw
   obtain ⟨oj,hoj,hdj⟩ :=bE.1 hd
   rw [atL_getElem] at hoj
   have hoj':ops[j]? = some oj :=by simpa using hoj
   have hw':(look s.sl t).wants c = some b :=hw
   have hrep :=h.rep t
   -- the value in t
   have hval:∃ v,Act.tm a t = v∧((∃ x,v = .bool x∧eqB x c = b)∨(v = undef∧b = false)) :=by
    cases hl:look s.sl t with
    | val g ag cs =>
     rw [hl] at hw' hrep
     obtain ⟨c1,hc1,hw1⟩ :=bE.1 (show bnd (one1 ag cs) _ = some b from hw')
     obtain ⟨v,hv,hw2⟩ :=bE.1 hw1
     obtain ⟨x,hx,hw3⟩ :=bE.1 hw2
     simp at hw3
     have hv' :=asBool_eq hx
     subst hv'
     have hprim:(S.val g ag cs).prim = some (.bool x) :=bE.2 ⟨c1,hc1,hv⟩
     exact ⟨_,rfl,.inl ⟨x,(prim_val hrep hprim).1,hw3⟩⟩
    | tup vs =>
     rw [hl] at hw' hrep
     cases vs with
     | nil =>
      obtain ⟨us,hus,htr⟩ :=hrep
      cases us with
      | nil =>simp [S.wants] at hw'; exact ⟨_,rfl,.inr ⟨hus,hw'⟩⟩
      | cons _ _ =>exact htr.elim
     | cons _ _ =>simp [S.wants] at hw'
    | _ =>rw [hl] at hw'; simp [S.wants] at hw'
   obtain ⟨v,hv,hcase⟩ :=hval
   have hy:yielded ops a.tmps j = match Act.tm a t with | .bool x =>some x | _ =>none :=by
    unfold yielded
    rw [hoj']
    simp only [Option.bind_some,hdj]
    simp only [Act.tm]
    cases ht:a.tmps[t]? with
    | none =>simp [ht,undef]
    | some u =>simp [ht]; cases u <;> rfl
   simp only [hy,hv]
   rcases hcase with ⟨x,rfl,hx⟩ | ⟨rfl,rfl⟩
   ·cases c <;> cases x <;> simp [eqB] at hx <;> subst hx <;> rfl
   ·rfl
end
end Go.Sx

/- A region that keeps its order; a frame looked at anew. -/
namespace Go.Sx
section
variable {P:Program} {E:Env} {w0 w:World} {Z0:CA→Prop} {F0:List CA} {n:Nat} {kp hb:List (Tmp × Value)}

theorem preV_some {r h:Nat} {x:S} {z:Nat × Nat × Nat} (e:preV r h x = some z):z.1 = r∧∃ a cs,x = .val z.2.1 a cs∧cs.length = z.2.2 :=by
 cases x with
 | val g b cs =>
  simp only [preV] at e
  split at e
  ·rename_i hg
   simp at e
   subst e
   exact ⟨rfl,b,cs,by rw [hg],rfl⟩
  ·cases e
 | _ =>simp [preV] at e
theorem preP_some {dst:Option Tmp} {op:Op} {s:St} {z:Nat × Nat × Nat} (h:preP dst op s = some z):((dst = none∧∃ t x y,op = .store t x y)∨∃ d t x y,dst = some d∧op = .mapEntry t x y)∧∃ a cs,look s.sl z.1 = .val z.2.1 a cs∧cs.length = z.2.2 :=by
 unfold preP at h
 split at h
 ·rename_i t x y
  refine ⟨.inl ⟨rfl,t,x,_,rfl⟩,?_⟩
  cases hy:look s.sl y with
  | lnk r k off n a el win =>
   rw [hy] at h
   cases el with
   | none =>simp [preS] at h
   | some e =>
    simp only [preS] at h
    obtain ⟨e1,a,cs,e2,e3⟩ :=preV_some h
    exact ⟨a,cs,by rw [e1]; exact e2,e3⟩
  | _ =>rw [hy] at h; simp [preS] at h
 ·rename_i d t x y
  refine ⟨.inr ⟨d,t,_,y,rfl,rfl⟩,?_⟩
  cases hy:look s.sl x with
  | lnk r k off n a el win =>
   rw [hy] at h
   cases el with
   | some e =>simp [preM] at h
   | none =>
    cases win with
    | some w' =>simp [preM] at h
    | none =>
     simp only [preM] at h
     obtain ⟨e1,a,cs,e2,e3⟩ :=preV_some h
     exact ⟨a,cs,by rw [e1]; exact e2,e3⟩
  | _ =>rw [hy] at h; simp [preM] at h
 ·cases h

theorem SI.post {E:Env} {Z:CA→Prop} {fp:Tmp→List CA} {dst:Option Tmp} {op:Op} {s sp s1:St} {a a1:Act} {w1:World} (hpx:Sx.preX E s op = (sp,none)) (hi:Inv w Z (Act.tm a) sp fp) (h1:SI w0 Z0 F0 n kp hb s1 a1 w1)
  (htm:∀ t,dst ≠ some t→Act.tm a1 t = Act.tm a t) (hmv:∀ t,dst ≠ some t→look s1.sl t = look sp.sl t∨(∃ c cs,sp.cnt≤c∧look s1.sl t = (look sp.sl t).withCells c cs)∨∃ vs vs',look sp.sl t = .tup vs∧look s1.sl t = .tup vs'∧(vs' ≠ []∧allFreeT vs = false))
  (hdd:∀ d t x y,dst = some d→op = .mapEntry t x y→∃ vs,look s1.sl d = .tup vs) :
  SI w0 Z0 F0 n kp hb (postX (preP dst op s) s1) a1 w1 :=by
 cases hz:preP dst op s with
 | none =>exact h1
 | some z =>
  obtain ⟨hcase,b,cs,hr,hlen⟩ :=preP_some hz
  have hsp:sp = s :=by
   rcases hcase with ⟨_,t0,x0,y0,hop⟩ | ⟨d,t0,x0,y0,_,hop⟩
   ·rw [hop] at hpx
    simp [Sx.preX] at hpx
    exact hpx.symm
   ·rw [hop] at hpx
    simp [Sx.preX] at hpx
    exact hpx.symm
  subst hsp
  have hnd:∀ t,(∀ vs,look s1.sl t ≠ .tup vs)→dst ≠ some t :=by
   intro t ht e
   rcases hcase with ⟨hd,_⟩ | ⟨d,t0,x0,y0,hd,hop⟩
   ·rw [hd] at e; cases e
   ·rw [hd] at e
    cases e
    obtain ⟨vs,hv⟩ :=hdd t t0 x0 y0 hd hop
    exact ht vs hv
  simp only [postX]
  cases hr1:look s1.sl z.1 with
  | val g' b' cs' =>
   have hrd:dst ≠ some z.1 :=hnd z.1 (fun vs =>by rw [hr1]; intro e; cases e)
   simp only [postV]
   split
   ·rename_i hl2
    obtain ⟨Z1,fp1,i1,j2,j3,j4,j5,j6,j7⟩ :=h1
    refine ⟨Z1,fp1,i1.refL (r :=z.1) (cs :=cs') (by rw [hr1]; simp [S.rootL]) (fun t off m c hlk =>?_),j2,j3,j4,j5,j6,fun p hp hf =>j7 p hp ?_⟩
    ·have htd:dst ≠ some t :=hnd t (fun vs =>by rw [hlk]; intro e; cases e)
     have hlk0:look sp.sl t = .lnk z.1 z.2.1 off m c none none :=by
      rcases hmv t htd with e | ⟨_,_,_,e⟩ | ⟨_,_,_,e,_⟩
      ·rw [← e]; exact hlk
      ·rw [hlk] at e
       cases hx:look sp.sl t <;> rw [hx] at e <;> simp only [S.withCells] at e <;> first
        | exact e.symm
        | cases e
      ·rw [hlk] at e; cases e
     have hrep :=hi.rep t
     rw [hlk0] at hrep
     obtain ⟨_,hto⟩ :=hrep
     have hto :=hto cs (by rw [hr]; simp [S.rootL])
     rw [hr] at hto
     obtain ⟨⟨xs,hg⟩,vs,hvl,hv,hp⟩ :=hto
     rw [hr1]
     refine ⟨getP_len hg (by omega),vs,hvl,fun j hj =>?_,?_⟩
     ·have :=hv j hj
      simp only [pget,rget] at this ⊢
      rw [htm _ hrd]
      exact this
     ·rw [htm _ htd]; exact hp
    ·rw [show look (St.mk s1.cnt (Sx.refL z.1 z.2.1 g' s1.sl)).sl p.1 = _ from look_refL _ _ _ _ _] at hf
     rw [← (refr_root z.1 z.2.1 g' (look s1.sl p.1)).2.2.2.2]
     exact hf
   ·exact h1
  | _ =>exact h1

theorem put_tm {n:Nat} {kp:List (Tmp × Value)} {a:Act} {d:Option Tmp} {v:Value} (h:FrOk n kp a) (hd:okDst n kp d) (t:Tmp) (ht:d ≠ some t):Act.tm (a.put d v) t = Act.tm a t :=by
 cases d with
 | none =>rfl
 | some u =>
  have hu:u < a.tmps.size :=Nat.lt_of_lt_of_le (hd u rfl).1 h.size
  rw [tm_put hu,if_neg]
  intro e
  exact ht (by rw [e])
theorem post_mv {dst:Option Tmp} {r:S} {sp s2:St} (h:∀ t,look s2.sl t = look sp.sl t∨(∃ c cs,sp.cnt≤c∧look s2.sl t = (look sp.sl t).withCells c cs)∨∃ vs vs',look sp.sl t = .tup vs∧look s2.sl t = .tup vs'∧(vs' ≠ []∧allFreeT vs = false)) :
  ∀ t,dst ≠ some t→look (Sx.put dst r s2).sl t = look sp.sl t∨(∃ c cs,sp.cnt≤c∧look (Sx.put dst r s2).sl t = (look sp.sl t).withCells c cs)∨∃ vs vs',look sp.sl t = .tup vs∧look (Sx.put dst r s2).sl t = .tup vs'∧(vs' ≠ []∧allFreeT vs = false) :=by
 intro t ht
 have e:look (Sx.put dst r s2).sl t = look s2.sl t :=by
  cases dst with
  | none =>rfl
  | some u =>
   simp only [Sx.put,look]
   rw [if_neg (fun e =>ht (by rw [e]))]
 rw [e]
 exact h t
theorem entry_tup {E:Env} {call:Sem1} {ty:TypeId} {s:St} {op:Op} {q:St × S} (h:ev1 E call ty s op = some q) {t:TypeId} {x y:Operand} (hop:op = .mapEntry t x y):∃ vs,q.2 = .tup vs :=by
 subst hop
 obtain ⟨i,_,h⟩ :=bE.1 (show bnd (E.T t) _ = some q from h)
 obtain ⟨v,_,h⟩ :=bE.1 h
 obtain ⟨u,_,h⟩ :=bE.1 h
 obtain ⟨q0,_,h⟩ :=bE.1 (show bnd i.k.kv _ = some q from h)
 obtain ⟨ik,_,h⟩ :=bE.1 h
 obtain ⟨ie,_,h⟩ :=bE.1 h
 obtain ⟨m,_,h⟩ :=bE.1 h
 obtain ⟨ks,_,h⟩ :=bE.1 h
 obtain ⟨_,h⟩ :=(tE.1 h).resolve_right (fun h =>by cases h.2)
 obtain ⟨r0,_,h⟩ :=bE.1 h
 simp at h
 subst h
 cases r0 with
 | none =>exact ⟨_,rfl⟩
 | some p =>exact ⟨_,rfl⟩
theorem put_tup {d:Tmp} {x:S} {s:St} (h:∃ vs,x = .tup vs):∃ vs,look (Sx.put (some d) x s).sl d = .tup vs :=by
 obtain ⟨vs,rfl⟩ :=h
 exact ⟨vs,by simp [Sx.put,look,S.stamp]⟩
theorem preP_move {d:Option Tmp} {x:Operand} {s:St}:preP d (.move x) s = none :=by cases d <;> rfl

theorem evOps_wp (hfb:E.fz = []→hb = []) (hT:TOk P E) (hE:EqOk P E) {call:Sem1} (hC:∀ f,CallOk P E call f) (hF:∀ f args res,call f args = some res→Callable P f) {ops:Array Oper} (hops:∀ o ∈ ops,okOp E n kp hb o) {Q:Exit→Act→World→Prop} {s':St}
  (hQ:∀ a w,SI w0 Z0 F0 n kp hb s' a w→Q .normal a w):∀ (l pre:List Oper),ops.toList = pre ++ l→∀ {s:St} {a:Act} {w:World},SI w0 Z0 F0 n kp hb s a w→evOps E call (qsOf ops.toList l) s = some s'→wpOps P ops Q (List.range' pre.length l.length) a w
 | [],pre,_,s,a,w,h,he =>by
  simp [qsOf,evOps] at he
  subst he
  exact hQ a w h
 | o :: l,pre,hpre,s,a,w,h,he =>by
  have ho:ops[pre.length]? = some o :=by
   rw [← Array.getElem?_toList,hpre,List.getElem?_append_right (Nat.le_refl _)]
   simp
  have hod:okOp E n kp hb o :=hops o (Array.mem_of_getElem? ho)
  have ih:∀ {s1:St} {a1:Act} {w1:World},SI w0 Z0 F0 n kp hb s1 a1 w1→evOps E call (qsOf ops.toList l) s1 = some s'→wpOps P ops Q (List.range' (pre.length + 1) l.length) a1 w1 :=by
   intro s1 a1 w1 h1 he1
   have :=evOps_wp hfb hT hE hC hF hops hQ l (pre ++ [o]) (by rw [hpre]; simp) h1 he1
   simpa using this
  have hsi :=h
  obtain ⟨Z,fp,hinv,h2,h3,h4,h5,h6,h7⟩ :=h
  have he0:evOps E call (qOf ops.toList o :: qsOf ops.toList l) s = some s' :=he
  rw [List.length_cons,List.range'_succ,wpOps_cons]
  unfold wpOp
  rw [ho]
  simp only
  simp only [qOf,evOps] at he0
  cases hpx:preX E s o.op with
  | mk sp xo =>
  rw [hpx] at he0
  cases hw:wanted s (qOf ops.toList o).guard with
  | none =>simp only [qOf] at hw; rw [hw] at he0; cases xo <;> simp [stepP,stepR,stepB,stepQ] at he0
  | some b =>
   rw [wanted_of hinv hw]
   simp only [qOf] at hw
   rw [hw] at he0
   cases xo with
   | some x =>
    obtain ⟨t,v,vs,hop,hlk,rfl,rfl⟩ :=preX_some hpx
    cases b with
    | true =>
     simp only [if_true]
     simp only [stepP,stepR,stepB] at he0
     refine .inl ?_
     obtain ⟨fp',F,D⟩ :=tup_move hinv hlk
     refine wp_of_runs (R :=fun v1 w1 =>v1 = Act.tm a t∧w1 = w) ⟨_,_,⟨rfl,rfl⟩,fun o' h8 _ =>.inl (by unfold execOp; rw [h8,hop]; rfl)⟩ ?_
     rintro v1 w1 ⟨rfl,rfl⟩
     rw [hop,preP_move] at he0
     refine ih (SI.put h2 h3 h4 h5 h6 hinv h7 (fun u hu =>?_) ⟨Z,fp',F,D,fun p hp hdp hf =>by cases hf⟩ hod.1) he0
     by_cases hut:t = u
     ·subst hut
      simp [Sx.put,look,S.stamp,S.isFz] at hu
     ·simpa [Sx.put,look,hut] using hu
    | false =>
     simp only [stepP,stepR,stepB] at he0
     simp only [Bool.false_eq_true,if_false]
     rw [hop,preP_move] at he0
     exact ih (SI.put h2 h3 h4 h5 h6 (v :=undef) hinv h7 (fun _ h =>h) ⟨Z,fp,[],Done.still hinv (x :=.tup []) ⟨[],rfl,rfl⟩ trivial,fun _ _ _ h =>by cases h⟩ hod.1) he0
   | none =>
   have hpre2 :=SI.preX hfb hsi hpx
   clear hinv h2 h3 h4 h5 h6 h7 Z fp
   obtain ⟨Z,fp,hinv,h2,h3,h4,h5,h6,h7⟩ :=hpre2
   cases b with
   | true =>
    simp only [if_true]
    simp only [stepP,stepR,stepQ] at he0
    cases h1:ev1 E call o.type sp o.op with
    | none =>rw [h1] at he0; simp [bnd] at he0
    | some q =>
     rw [h1] at he0
     simp only [bnd] at he0
     refine .inl ?_
     by_cases hd:∃ p ∈ hb,o.dst = some p.1
     ·obtain ⟨p,hp,hdp⟩ :=hd
      obtain ⟨t,i,hop,hfz,_⟩ :=hod.2 p hp hdp
      have hruns :=box_runs' (a :=a) hT hinv (by rw [← hop]; exact h1)
      rw [← hop] at hruns
      refine wp_of_runs hruns (fun v w' hbr =>ih (SI.post hpx hinv (SI.put h2 h3 h4 h5 h6 hinv h7 (ev1_fz h1) ?_ hod.1) (put_tm h6 hod.1) (post_mv (ev1_mv h1)) (fun d t x y hd hop =>by rw [hd]; exact put_tup (entry_tup h1 hop))) he0)
      obtain ⟨Z',fp',F,D,hm⟩ :=hbr
      refine ⟨Z',fp',F,D,fun p' hp' hdp' _ =>?_⟩
      obtain ⟨t',i',hop',_,hkp'⟩ :=hod.2 p' hp' hdp'
      rw [hop] at hop'
      cases hop'
      have :=hm hfz
      rwa [show a.eval (.tmp i) = p'.2 from h6.keep (i,p'.2) hkp'] at this
     ·exact op_wp hT hE hC hF hinv h1 (fun v w' hbr =>ih (SI.post hpx hinv (SI.put h2 h3 h4 h5 h6 hinv h7 (ev1_fz h1) (by
       obtain ⟨Z',fp',F,D⟩ :=hbr
       exact ⟨Z',fp',F,D,fun p hp hdp _ =>absurd ⟨p,hp,hdp⟩ hd⟩) hod.1) (put_tm h6 hod.1) (post_mv (ev1_mv h1)) (fun d t x y hd hop =>by rw [hd]; exact put_tup (entry_tup h1 hop))) he0)
   | false =>
    simp only [stepP,stepR,stepQ] at he0
    simp only [Bool.false_eq_true,if_false]
    exact ih (SI.post hpx hinv (SI.put h2 h3 h4 h5 h6 (v :=undef) hinv h7 (fun _ h =>h) ⟨Z,fp,[],Done.still hinv (x :=.tup []) ⟨[],rfl,rfl⟩ trivial,fun _ _ _ h =>by cases h⟩ hod.1) (put_tm h6 hod.1) (post_mv (fun t =>.inl rfl)) (fun d t x y hd hop =>by rw [hd]; exact put_tup ⟨[],rfl⟩)) he0

theorem region_wp (hfb:E.fz = []→hb = []) (hT:TOk P E) (hE:EqOk P E) {call:Sem1} (hC:∀ f,CallOk P E call f) (hF:∀ f args res,call f args = some res→Callable P f) {ops:Array Oper} (hops:∀ o ∈ ops,okOp E n kp hb o) {Q:Exit→Act→World→Prop} {s s':St}
  (hQ:∀ a w,SI w0 Z0 F0 n kp hb s' a w→Q .normal a w) {id:Nat} {a:Act} (h:SI w0 Z0 F0 n kp hb s a w) (he:evOps E call (qsOf ops.toList ops.toList) s = some s'):(Code.region id ops false).wp P Q a w :=by
 refine wp_region ?_
 have :=evOps_wp hfb hT hE hC hF hops hQ ops.toList [] rfl h he
 simpa [List.range_eq_range'] using this

/-! ### A frame looked at anew -/

theorem look_maskGo (l:List (Tmp × S)) (live:List Tmp) (t:Tmp):∀ (r:List Tmp) (i:Nat),look (maskGo l live i r) t = match posOf r i t with | some j =>(look l t).anew l live j | none =>.dead
 | [],i =>rfl
 | u :: r,i =>by
  simp only [maskGo,look_cons,posOf]
  by_cases h:u = t
  ·subst h; simp
  ·simp only [if_neg h]
   exact look_maskGo l live t r (i + 1)

theorem posOf_lt {t:Tmp}:∀ {r:List Tmp} {i j:Nat},posOf r i t = some j→i≤j∧j < i + r.length
 | [],_,_,h =>by simp [posOf] at h
 | u :: r,i,j,h =>by
  simp only [posOf] at h
  split at h
  ·simp at h; simp; omega
  ·have :=posOf_lt h
   simp; omega

theorem Inv.masked {tm:Tmp→Value} {Z:CA→Prop} {s:St} {fp:Tmp→List CA} (h:Inv w Z tm s fp) (live:List Tmp):∃ fp',Inv w Z tm (mask live s) fp'∧∀ t,∀ c ∈ fp' t,c ∈ fp t :=by
 have hlook:∀ t,look (mask live s).sl t = match posOf live 0 t with | some j =>(look s.sl t).anew s.sl live j | none =>.dead :=fun t =>look_maskGo s.sl live t live 0
 -- roots,anew
 have hrootL:∀ q k cs,(look (mask live s).sl q).rootL k = some cs→(look s.sl q).root = some cs∧posOf live 0 q = some k∧∀ w' tv,rget w' (look (mask live s).sl q) tv = rget w' (look s.sl q) tv :=by
  intro q k cs e
  rw [hlook] at e ⊢
  cases hp:posOf live 0 q with
  | none =>rw [hp] at e; simp [S.rootL] at e
  | some j =>
   rw [hp] at e
   simp only at e ⊢
   cases hx:look s.sl q with
   | val g a ds =>
    rw [hx] at e
    simp only [S.anew,S.rootL] at e
    split at e
    ·rename_i hj
     exact ⟨e,by rw [hj],fun _ _ =>rfl⟩
    ·cases e
   | box g g' ds =>
    rw [hx] at e
    simp only [S.anew,S.rootL] at e
    split at e
    ·rename_i hj
     exact ⟨e,by rw [hj],fun _ _ =>rfl⟩
    ·cases e
   | fz g ds =>
    rw [hx] at e
    simp only [S.anew,S.rootL] at e
    split at e
    ·rename_i hj
     exact ⟨e,by rw [hj],fun _ _ =>rfl⟩
    ·cases e
   | lnk r k' off n b el win =>
    rw [hx] at e
    simp only [S.anew] at e
    split at e <;> simp [S.rootL] at e
   | ptr r g off el =>
    rw [hx] at e
    simp only [S.anew] at e
    split at e <;> simp [S.rootL] at e
   | fn f caps =>
    rw [hx] at e
    simp only [S.anew] at e
    simp [S.rootL] at e
   | rp cs =>rw [hx] at e; simp [S.anew,S.rootL] at e
   | tup vs =>rw [hx] at e; simp [S.anew,S.rootL] at e
   | dead =>rw [hx] at e; simp [S.anew,S.rootL] at e
 have hrootR:∀ q g el cs,(look (mask live s).sl q).rootR g el = some cs→(look s.sl q).root = some cs∧posOf live 0 q = some g∧∀ w' tv,rget w' (look (mask live s).sl q) tv = rget w' (look s.sl q) tv :=by
  intro q g el cs e
  rw [hlook] at e ⊢
  cases hp:posOf live 0 q with
  | none =>rw [hp] at e; simp [S.rootR,S.rootP] at e
  | some j =>
   rw [hp] at e
   simp only at e ⊢
   cases hx:look s.sl q with
   | val k a ds =>
    rw [hx] at e
    simp only [S.anew] at e
    cases el with
    | none =>simp [S.rootR,S.rootP] at e
    | some z =>
     simp only [S.rootR,S.rootP] at e
     split at e
     ·rename_i hj
      exact ⟨e,by rw [hj],fun _ _ =>rfl⟩
     ·cases e
   | box k g' ds =>
    rw [hx] at e
    simp only [S.anew] at e
    cases el with
    | none =>
     simp only [S.rootR,S.rootP] at e
     split at e
     ·rename_i hj
      exact ⟨e,by rw [hj],fun _ _ =>rfl⟩
     ·cases e
    | some z =>
     simp only [S.rootR,S.rootP] at e
     split at e
     ·rename_i hj
      exact ⟨e,by rw [hj],fun _ _ =>rfl⟩
     ·cases e
   | fz k ds =>
    rw [hx] at e
    simp only [S.anew,S.rootR] at e
    split at e
    ·rename_i hj
     exact ⟨e,by rw [hj],fun _ _ =>rfl⟩
    ·cases e
   | lnk r k' off n b el' win =>
    rw [hx] at e
    simp only [S.anew] at e
    split at e <;> simp [S.rootR,S.rootP] at e
   | ptr r g' off el' =>
    rw [hx] at e
    simp only [S.anew] at e
    split at e <;> simp [S.rootR,S.rootP] at e
   | fn f caps =>
    rw [hx] at e
    simp only [S.anew] at e
    simp [S.rootR,S.rootP] at e
   | rp cs =>rw [hx] at e; simp [S.anew,S.rootR] at e
   | tup vs =>rw [hx] at e; simp [S.anew,S.rootR] at e
   | dead =>rw [hx] at e; simp [S.anew,S.rootR] at e
 -- each slot
 have slot:∀ t,∃ F,Rep w Z (mask live s).sl tm (tm t) F (look (mask live s).sl t)∧(F = fp t∨F = [])∧(look (mask live s).sl t).stampsLt (mask live s).cnt :=by
  intro t
  have hrep :=h.rep t
  rw [hlook t]
  have hcnt:(mask live s).cnt = live.length :=rfl
  cases hp:posOf live 0 t with
  | none =>exact ⟨[],rfl,.inr rfl,trivial⟩
  | some j =>
   have hj:j < live.length :=by have :=posOf_lt hp; omega
   simp only
   cases hx:look s.sl t with
   | val g a ds =>rw [hx] at hrep; exact ⟨fp t,hrep,.inl rfl,hj⟩
   | box g g' ds =>rw [hx] at hrep; exact ⟨fp t,hrep,.inl rfl,hj,hj⟩
   | fz g ds =>rw [hx] at hrep; exact ⟨fp t,hrep,.inl rfl,hj⟩
   | rp cs =>rw [hx] at hrep; exact ⟨fp t,hrep,.inl rfl,trivial⟩
   | tup vs =>rw [hx] at hrep; exact ⟨fp t,hrep,.inl rfl,trivial⟩
   | dead =>exact ⟨[],rfl,.inr rfl,trivial⟩
   | fn f caps =>
    rw [hx] at hrep
    exact ⟨fp t,hrep,.inl rfl,trivial⟩
   | lnk r k off n b el win =>
    rw [hx] at hrep
    simp only [S.anew]
    split
    ·rename_i cs0 j' hr hpos
     refine ⟨[],⟨rfl,fun cs hroot =>?_⟩,.inr rfl,(by have :=posOf_lt hpos; simp only [S.stampsLt]; omega)⟩
     obtain ⟨e1,_,e3⟩ :=hrootL _ _ _ hroot
     have:cs0 = cs :=by
      have h1 :=(rootL_root hr).1
      rw [e1] at h1
      simpa using h1.symm
     subst this
     rw [e3]
     exact hrep.2 cs0 hr
    ·exact ⟨[],rfl,.inr rfl,trivial⟩
   | ptr r g off el =>
    rw [hx] at hrep
    simp only [S.anew]
    split
    ·rename_i cs0 j' hr hpos
     refine ⟨[],⟨rfl,fun cs hroot =>?_⟩,.inr rfl,(by have :=posOf_lt hpos; simp only [S.stampsLt]; omega)⟩
     obtain ⟨e1,_,e3⟩ :=hrootR _ _ _ _ hroot
     have:cs0 = cs :=by
      have h1 :=rootR_root hr
      rw [e1] at h1
      simpa using h1.symm
     subst this
     have h2 :=hrep.2 cs0 hr
     rw [e3]
     exact h2
    ·exact ⟨[],rfl,.inr rfl,trivial⟩
 have hsub:∀ t,∀ c ∈ (slot t).choose,c ∈ fp t :=fun t c hc =>by
  rcases (slot t).choose_spec.2.1 with e | e
  ·rw [e] at hc; exact hc
  ·rw [e] at hc; cases hc
 refine ⟨fun t =>(slot t).choose,⟨fun t =>(slot t).choose_spec.1,fun t =>?_,fun t u htu c hc hm =>h.disj t u htu c (hsub t c hc) (hsub u c hm),fun t c hc =>h.mine t c (hsub t c hc),h.zok,fun t =>(slot t).choose_spec.2.2⟩,hsub⟩
 rcases (slot t).choose_spec.2.1 with e | e
 ·rw [e]; exact h.nd t
 ·rw [e]; exact List.nodup_nil

theorem SI.mask {s:St} {a:Act} (h:SI w0 Z0 F0 n kp hb s a w) (live:List Tmp):SI w0 Z0 F0 n kp hb (Sx.mask live s) a w :=by
 obtain ⟨Z,fp,hinv,h2,h3,h4,h5,h6,h7⟩ :=h
 obtain ⟨fp',i,hs⟩ :=hinv.masked live
 refine ⟨Z,fp',i,h2,h3,h4,fun t c hc =>h5 t c (hs t c hc),h6,fun p hp hf =>h7 p hp ?_⟩
 have hlook :=look_maskGo s.sl live p.1 live 0
 rw [show look (Sx.mask live s).sl p.1 = _ from hlook] at hf
 revert hf
 cases posOf live 0 p.1 with
 | none =>intro hf; cases hf
 | some j =>
  simp only
  cases hx:look s.sl p.1 with
  | fz g cs =>exact fun _ =>rfl
  | fn f caps =>intro hf; cases hf
  | lnk r k off n b el win =>intro hf; simp only [S.anew] at hf; split at hf <;> cases hf
  | ptr r g off el =>intro hf; simp only [S.anew] at hf; split at hf <;> cases hf
  | _ =>intro hf; cases hf
end
end Go.Sx

/- Code. -/
namespace Go.Sx

def Good (E:Env) (n:Nat) (kp hb:List (Tmp × Value)) (D:Nat→Array Oper→Prop):Code→Prop
 | .region id ops draw =>(∀ o ∈ ops,okOp E n kp hb o)∧(draw = true→hb = []∧D id ops)
 | .seq x y =>Good E n kp hb D x∧Good E n kp hb D y
 | .cond _ x y =>Good E n kp hb D x∧Good E n kp hb D y
 | .block _ c =>Good E n kp hb D c
 | .loop c =>Good E n kp hb D c
 | _ =>True

section
variable {P:Program} {E:Env} {w0 w:World} {Z0:CA→Prop} {F0:List CA} {n:Nat} {kp hb:List (Tmp × Value)}

def Grants (E:Env) (w0:World) (Z0:CA→Prop) (F0:List CA) (n:Nat) (kp hb:List (Tmp × Value)) (F:Fr) (Q:Exit→Act→World→Prop):O→Prop
 | .norm s =>∀ a w,SI w0 Z0 F0 n kp hb s a w→Q .normal a w
 | .exit id s =>∀ a w,SI w0 Z0 F0 n kp hb s a w→Q (.exit id) a w
 | .ret r =>∀ a w s,SI w0 Z0 F0 n kp hb s a w→retOf E F s = some r→Q .ret a w


theorem nextS_eq {t:Tmp} {i:Nat} {s:St} {q:St × S} (h:nextS t i s = some q):(∃ vs,q.2 = .tup vs)∧∃ cs,q.1 = upd t cs s :=by
 obtain ⟨m,hm,h1⟩ :=bE.1 (show bnd (walkV (look s.sl t)) _ = some q from h)
 obtain ⟨hw,h1⟩ :=(tE.1 h1).resolve_right (fun h =>by cases h.2)
 cases hr:restOf m with
 | nil =>
  rw [hr] at h1
  simp [nextR] at h1
  subst h1
  exact ⟨⟨_,rfl⟩,_,rfl⟩
 | cons x r =>
  rw [hr] at h1
  obtain ⟨row,_,h2⟩ :=bE.1 (show bnd (x :: r)[i]? _ = some q from h1)
  simp at h2
  subst h2
  exact ⟨⟨_,rfl⟩,_,rfl⟩

def DrawOk (P:Program) (E:Env) (call:Sem1) (A:Ann) (id:Nat) (ops:Array Oper):Prop :=
 ∀ (w0:World) (Z0:CA→Prop) (F0:List CA) (n:Nat) (kp:List (Tmp × Value)) (Q:Exit→Act→World→Prop) (s s':St) (a:Act) (w:World),(∀ o ∈ ops,okDst n kp o.dst) →
  (∀ a w,SI w0 Z0 F0 n kp [] s' a w→Q .normal a w)→SI w0 Z0 F0 n kp [] s a w→drawX E call (A.draws id) (qsOf ops.toList ops.toList) s (A.free id) = some s'→(Code.region id ops true).wp P Q a w

theorem evc_wp (hfb:E.fz = []→hb = []) (hT:TOk P E) (hE:EqOk P E) {call:Sem1} (hC:∀ f,CallOk P E call f) (hF:∀ f args res,call f args = some res→Callable P f) {F:Fr} {m:Nat} :
  ∀ (c:Code) {s:St} {o:O} {Q:Exit→Act→World→Prop} {a:Act} {w:World},Good E n kp hb (DrawOk P E call F.ann) c→SI w0 Z0 F0 n kp hb s a w→evc E call (ITn m) F c s = some o→Grants E w0 Z0 F0 n kp hb F Q o→c.wp P Q a w
 | .skip,s,o,Q,a,w,_,h,he,hG =>by
  simp [evc] at he
  subst he
  exact wp_skip (hG a w h)
 | .region id ops false,s,o,Q,a,w,hg,h,he,hG =>by
  simp only [evc] at he
  cases h1:evOps E call (qsOf ops.toList ops.toList) s with
  | none =>rw [h1] at he; simp [normO] at he
  | some s' =>
   rw [h1] at he
   simp [normO] at he
   subst he
   exact region_wp hfb hT hE hC hF hg.1 hG h h1
 | .region id ops true,s,o,Q,a,w,hg,h,he,hG =>by
  simp only [evc] at he
  cases h1:drawX E call (F.ann.draws id) (qsOf ops.toList ops.toList) (frzL (F.ann.frz id) s) (F.ann.free id) with
  | none =>rw [h1] at he; simp [normO] at he
  | some s' =>
   rw [h1] at he
   simp [normO] at he
   subst he
   obtain ⟨hb0,hd⟩ :=hg.2 rfl
   subst hb0
   exact hd w0 Z0 F0 n kp Q _ s' a w (fun o ho =>(hg.1 o ho).1) hG (h.frzL (F.ann.frz id)) h1
 | .seq x y,s,o,Q,a,w,hg,h,he,hG =>by
  simp only [evc] at he
  cases h1:evc E call (ITn m) F x s with
  | none =>rw [h1] at he; cases he
  | some o1 =>
   rw [h1] at he
   refine wp_seq (evc_wp hfb hT hE hC hF x hg.1 h h1 ?_)
   cases o1 with
   | norm s1 =>exact fun a1 w1 hs =>evc_wp hfb hT hE hC hF y hg.2 hs he hG
   | exit id s1 =>simp at he; subst he; exact hG
   | ret r =>simp at he; subst he; exact hG
 | .cond c x y,s,o,Q,a,w,hg,h,he,hG =>by
  simp only [evc] at he
  cases h1:condOf E s c with
  | none =>rw [h1] at he; cases he
  | some t =>
   rw [h1] at he
   have h' :=h
   obtain ⟨Z,fp,hinv,_⟩ :=h'
   obtain ⟨v,hv,h2⟩ :=bE.1 h1
   obtain ⟨u,hu,h3⟩ :=bE.1 h2
   have hub :=asBool_eq h3
   subst hub
   have ec :=(prim_val (rd_rep hT hinv hv).1 hu).1
   cases t with
   | true =>exact wp_cond_true ec (evc_wp hfb hT hE hC hF x hg.1 h he hG)
   | false =>exact wp_cond_false ec (evc_wp hfb hT hE hC hF y hg.2 h he hG)
 | .exit id,s,o,Q,a,w,_,h,he,hG =>by
  simp [evc] at he
  subst he
  exact wp_exit (hG a w h)
 | .ret,s,o,Q,a,w,_,h,he,hG =>by
  simp only [evc] at he
  cases h1:retOf E F s with
  | none =>rw [h1] at he; simp [retO] at he
  | some r =>
   rw [h1] at he
   simp [retO] at he
   subst he
   exact wp_ret (hG a w s h h1)
 | .block id body,s,o,Q,a,w,hg,h,he,hG =>by
  -- the end of a block
  have ends:∀ {o1:O},endOf F id o1 = some o→Grants E w0 Z0 F0 n kp hb F (Exit.inBlock id Q) o1 :=by
   intro o1 h1
   cases o1 with
   | norm s1 =>simp [endOf] at h1; subst h1; exact hG
   | ret r =>simp [endOf] at h1; subst h1; exact hG
   | exit k s1 =>
    simp only [endOf] at h1
    intro a1 w1 hs
    show (if k = id then Q .normal a1 w1 else Q (.exit k) a1 w1)
    split at h1
    ·rename_i hk
     rw [if_pos hk]
     split at h1
     ·simp at h1; subst h1; exact hG a1 w1 (hs.mask _)
     ·simp at h1; subst h1; exact hG a1 w1 hs
    ·rename_i hk
     rw [if_neg hk]
     simp at h1; subst h1; exact hG a1 w1 hs
  have plain:blockO F id (evc E call (ITn m) F body s) = some o→(Code.block id body).wp P Q a w :=by
   intro he
   cases h1:evc E call (ITn m) F body s with
   | none =>rw [h1] at he; simp [blockO] at he
   | some o1 =>
    rw [h1] at he
    exact wp_block (evc_wp hfb hT hE hC hF body hg h h1 (ends he))
  cases body
  case loop c =>
   rw [evc_loop] at he
   cases hrg:F.ann.rng id with
   | none =>
    rw [hrg] at he
    simp only [loopC] at he
    cases h1:iterN m (F.ann.heads id) (fun s =>evc E call (ITn m) F c s) s with
    | none =>rw [show (ITn m).lp = iterN m from rfl,show (evc E call (ITn m) F c) = fun s =>evc E call (ITn m) F c s from rfl,h1] at he; simp [blockO] at he
    | some o1 =>
     rw [show (ITn m).lp = iterN m from rfl,show (evc E call (ITn m) F c) = fun s =>evc E call (ITn m) F c s from rfl,h1] at he
     have hend :=ends he
     refine wp_block ?_
     have rounds:∀ (k:Nat) {s:St} {a:Act} {w:World},SI w0 Z0 F0 n kp hb s a w→iterN k (F.ann.heads id) (fun s =>evc E call (ITn m) F c s) s = some o1→Code.rounds P c (Exit.inBlock id Q) k a w :=by
      intro k
      induction k with
      | zero =>intro s a w _ hk; simp [iterN] at hk
      | succ k ih =>
       intro s a w hs hk
       rw [iterN] at hk
       rw [rounds_succ]
       cases h2:evc E call (ITn m) F c (mask (F.ann.heads id) s) with
       | none =>rw [h2] at hk; cases hk
       | some o2 =>
        rw [h2] at hk
        refine evc_wp hfb hT hE hC hF c hg (hs.mask _) h2 ?_
        cases o2 with
        | norm s1 =>exact fun a1 w1 h3 =>ih h3 hk
        | exit k' s1 =>simp at hk; subst hk; exact hend
        | ret r =>simp at hk; subst hk; exact hend
     exact wp_loop_rounds m (rounds m h h1)
   | some z =>
    rw [hrg] at he
    simp only [loopC] at he
    obtain ⟨k0,ops,rest,rfl,hst,he⟩ :=rangeB_some he
    rw [show (ITn m).rg = rangeN m from rfl] at he
    cases h1:rangeN m (F.ann.heads id) (leftN z) (roundG E call (ITn m) F id z (qsOf ops.toList ops.toList) rest) s with
    | none =>rw [h1] at he; simp [blockO] at he
    | some o1 =>
     rw [h1] at he
     have hend :=ends he
     refine wp_block ?_
     have rounds:∀ (k:Nat) {s:St} {a:Act} {w:World},SI w0 Z0 F0 n kp hb s a w→rangeN k (F.ann.heads id) (leftN z) (roundG E call (ITn m) F id z (qsOf ops.toList ops.toList) rest) s = some o1 →
       Code.rounds P (.seq (.region k0 ops false) rest) (Exit.inBlock id Q) k a w :=by
      intro k
      induction k with
      | zero =>intro s a w _ hk; simp [rangeN] at hk
      | succ k ih =>
       intro s a w hs hk
       rw [rangeN,agree_some] at hk
       rw [rounds_succ]
       have hs1 :=hs.mask (F.ann.heads id)
       revert hs1 hk
       generalize mask (F.ann.heads id) s = s1
       intro hk hs1
       -- the step's operation
       cases hol:ops.toList with
       | nil =>rw [hol] at hst; simp [qsOf,isStep] at hst
       | cons o0 l =>
        have hq0:isStep z (qOf ops.toList o0 :: qsOf ops.toList l) = true :=by rw [hol] at hst ⊢; exact hst
        obtain ⟨hdst,hop,hgd⟩:o0.dst = some z.2∧o0.op = .next (.tmp z.1) false∧o0.guard = none :=by
         unfold isStep at hq0
         split at hq0
         ·rename_i e1; cases e1
         ·rename_i d t0 ty0 r0 e1
          simp only [List.cons.injEq,qOf,Sx.Q.mk.injEq] at e1
          obtain ⟨⟨e2,e3,_,e4⟩,_⟩ :=e1
          simp only [Bool.and_eq_true,decide_eq_true_eq] at hq0
          obtain ⟨rfl,rfl⟩ :=hq0
          refine ⟨e2,e3,?_⟩
          cases hgg:o0.guard with
          | none =>rfl
          | some p =>rw [hgg] at e4; cases e4
         ·cases hq0
        have hqs:qsOf ops.toList ops.toList = qOf ops.toList o0 :: qsOf ops.toList l :=by
         conv =>lhs; arg 2; rw [hol]
         rfl
        -- a round's parts
        have parts:∀ i,(match roundG E call (ITn m) F id z (qsOf ops.toList ops.toList) rest i s1 with
          | some (.norm s') =>rangeN k (F.ann.heads id) (leftN z) (roundG E call (ITn m) F id z (qsOf ops.toList ops.toList) rest) s'
          | some (.exit id s') =>some (.exit id s')
          | some (.ret r) =>some (.ret r)
          | none =>none) = some o1→∃ q s2 o2,nextS z.1 i s1 = some q∧evOps E call (qsOf ops.toList l) (put (some z.2) q.2 q.1) = some s2∧evc E call (ITn m) F rest s2 = some o2 ∧
           (match o2 with
            | .norm s' =>rangeN k (F.ann.heads id) (leftN z) (roundG E call (ITn m) F id z (qsOf ops.toList ops.toList) rest) s' = some o1
            | .exit k' s' =>o1 = .exit k' (endX F id k' s')
            | .ret r =>o1 = .ret r) :=by
         intro i hi
         cases h2:roundG E call (ITn m) F id z (qsOf ops.toList ops.toList) rest i s1 with
         | none =>rw [h2] at hi; cases hi
         | some o2 =>
          rw [h2] at hi
          unfold roundG at h2
          cases h3:stepN E call z i s1 (qsOf ops.toList ops.toList) with
          | none =>rw [h3] at h2; cases h2
          | some s2 =>
           rw [h3] at h2
           rw [hqs] at h3
           obtain ⟨q,h4,h5⟩ :=bE.1 (show bnd (nextS z.1 i s1) _ = some s2 from h3)
           obtain ⟨o3,h6,rfl⟩ :=outE_some.1 h2
           refine ⟨q,s2,o3,h4,h5,h6,?_⟩
           cases o3 with
           | norm s' =>exact hi
           | exit k' s' =>simp [out1] at hi; exact hi.symm
           | ret r =>simp [out1] at hi; exact hi.symm
        obtain ⟨q00,_,_,h00,_⟩ :=parts 0 hk.1
        obtain ⟨Z,fp,hinv,h2,h3,h4,h5,h6,h7⟩ :=hs1
        obtain ⟨i,hi,hbr⟩ :=next_brings (P :=P) hinv h00
        obtain ⟨q,s2,o2,e1,e2,e3,e4⟩ :=parts i (hi.elim (fun e =>e ▸ hk.1) (fun hlt =>hk.2 i hlt))
        obtain ⟨v,w',⟨Z',fp',F',D⟩,hrun⟩ :=hbr q e1
        obtain ⟨⟨vs,hvs⟩,cs0,hupd⟩ :=nextS_eq e1
        have hops :=hg.1.1
        have ho0:ops[0]? = some o0 :=by rw [← Array.getElem?_toList,hol]; rfl
        have hod :=hops o0 (Array.mem_of_getElem? ho0)
        refine wp_seq ?_
        refine wp_region ?_
        have hsz:ops.size = l.length + 1 :=by rw [← Array.length_toList,hol]; rfl
        rw [List.range_eq_range',hsz,List.range'_succ,wpOps_cons]
        unfold wpOp
        rw [ho0]
        have hwd:Region.wanted o0 (yielded ops a.tmps) = true :=by unfold Region.wanted; rw [hgd]
        simp only
        rw [hwd]
        simp only [if_true]
        refine .inl (wp_of_runs (R :=fun v1 w1 =>v1 = v∧w1 = w') ⟨v,w',⟨rfl,rfl⟩,fun o h8 _ =>.inl (hrun o (by rw [h8,hop]))⟩ ?_)
        rintro v1 w1 ⟨rfl,rfl⟩
        have hfz:∀ t,(look q.1.sl t).isFz = true→(look s1.sl t).isFz = true :=by
         intro t ht
         rw [hupd,look_upd] at ht
         split at ht
         ·rename_i e; subst e
          revert ht
          cases look s1.sl z.1 <;> simp [S.withCells,S.isFz]
         ·exact ht
        have hsi:SI w0 Z0 F0 n kp hb (put (some z.2) q.2 q.1) (a.put o0.dst v1) w1 :=by
         rw [hdst]
         refine SI.put h2 h3 h4 h5 h6 hinv h7 hfz ⟨Z',fp',F',D,fun p hp hdp hf =>?_⟩ (hdst ▸ hod.1)
         rw [hvs] at hf
         cases hf
        refine evOps_wp hfb hT hE hC hF hops (fun a2 w2 hs2 =>?_) l [o0] (by rw [hol]; rfl) hsi e2
        refine evc_wp hfb hT hE hC hF rest hg.2 hs2 e3 ?_
        cases o2 with
        | norm s3 =>exact fun a1 w1 h9 =>ih h9 e4
        | exit k' s3 =>
         simp only at e4
         subst e4
         intro a1 w1 h9
         refine hend a1 w1 ?_
         unfold endX
         split
         ·split
          ·exact h9.mask _
          ·exact h9
         ·exact h9
        | ret r =>simp only at e4; subst e4; exact hend
     exact wp_loop_rounds m (rounds m h h1)
  all_goals exact plain he
 | .loop _,_,_,_,_,_,_,_,he,_ =>by simp [evc] at he
 | .rangeFunc ..,_,_,_,_,_,_,_,he,_ =>by simp [evc] at he
 | .scope _,_,_,_,_,_,_,_,he,_ =>by simp [evc] at he
 | .label _,_,_,_,_,_,_,_,he,_ =>by simp [evc] at he
 | .goto _,_,_,_,_,_,_,_,he,_ =>by simp [evc] at he
 | .refuse _,_,_,_,_,_,_,_,he,_ =>by simp [evc] at he
end
end Go.Sx

/- The return. -/
namespace Go.Sx
section
variable {P:Program} {E:Env} {w:World} {Z:CA→Prop} {a:Act}

theorem Inv.kill {tm:Tmp→Value} {s:St} {fp:Tmp→List CA} (h:Inv w Z tm s fp) (t:Tmp):Inv w Z tm ⟨s.cnt + 1,(t,.dead) :: s.sl⟩ (fun u =>if u = t then [] else fp u) :=
 h.put (d :=t) (x :=.dead) (F :=[]) (tm' :=tm) rfl (fun _ _ =>rfl) rfl trivial List.nodup_nil (by simp) (by simp)

def rread (tmps:Array Value):ResultVar→Sem Value
 | .tmp t =>pure (tmps.getD t undef)
 | .cell t ty =>do loadVar ty (← asAddr (tmps.getD t undef))

theorem giveR_rep (hT:TOk P E) {s:St} {fp:Tmp→List CA} (h:Inv w Z (Act.tm a) s fp) {v:ResultVar} {z:Bool × List C} (he:giveR E s.sl v = some z) :
  ∃ u vs F,(rread a.tmps v).run P w = .ok u w∧Packs z.1 vs u∧vs.length = z.2.length∧RL w Z z.2 (fun i =>vs[i]?) F∧F.Nodup∧∀ c ∈ F,c ∈ fp (rslot v) :=by
 cases v with
 | tmp t =>
  have hrep :=h.rep t
  have he:(look s.sl t).giveV = some z :=he
  cases hl:look s.sl t with
  | val g b cs =>
   rw [hl] at he hrep
   rcases tE.1 (show tst (wholeRow cs) _ none = some z from he) with ⟨_,he⟩ | ⟨_,he⟩
   case inr =>cases he
   simp at he
   subst he
   obtain ⟨vs,hp,hvl,hr⟩ :=hrep
   exact ⟨Act.tm a t,vs,fp t,rfl,hp,hvl,hr,h.nd t,fun c hc =>hc⟩
  | _ =>rw [hl] at he; simp [S.giveV] at he
 | cell t ty =>
  obtain ⟨i,hi,he⟩ :=bE.1 (show bnd (E.T ty) _ = some z from he)
  have hrep :=h.rep t
  cases hl:look s.sl t with
  | box g k cs =>
   rw [hl] at he hrep
   rcases tE.1 (show tst (wholeRow cs) _ none = some z from he) with ⟨_,he⟩ | ⟨_,he⟩
   case inr =>cases he
   rcases tE.1 he with ⟨hcl,he⟩ | ⟨_,he⟩
   case inr =>cases he
   simp at he hcl
   subst he
   obtain ⟨b,o,G,hv,hr,hF⟩ :=hrep
   obtain ⟨vs,v1,v2,v3⟩ :=hr.values
   obtain ⟨u,hrun,hp⟩ :=run_load_cells (w :=w) (hT _ _ hi) (b :=b) (o :=o) (by rw [v1]; exact hcl) (fun j hj =>v2 j (by omega)) v3
   have hnd :=h.nd t
   rw [hF,List.nodup_append] at hnd
   refine ⟨u,vs,G,?_,hp,v1,RL.same (w' :=w) (fun _ h =>h) cs hr (fun _ _ =>rfl) (fun j hj =>(v2 j hj).symm),hnd.2.1,fun c hc =>by rw [show rslot (ResultVar.cell t ty) = t from rfl,hF]; exact List.mem_append_right _ hc⟩
   have e:a.tmps.getD t undef = .pointer (some ⟨b,o,none⟩) :=hv
   have hrun':(loadVar ty ⟨b,o,none⟩).run P w = .ok u w :=by
    simpa [Instr.loadAt,Instr.sureAddr] using hrun
   simp only [rread,e,Sem.run_bind,asAddr,Sem.run_pure,Result.andThen_ok,hrun']
  | _ =>rw [hl] at he; simp [S.giveB] at he

theorem resultOf_rep (hT:TOk P E):∀ {rs:List ResultVar} {s:St} {fp:Tmp→List CA} {q:List (Tmp × S) × List (Bool × List C)},Inv w Z (Act.tm a) s fp→resultOf E rs s.sl = some q →
  ∃ us F fp' c,(rs.mapM (rread a.tmps)).run P w = .ok us w∧TR w Z q.2 us F∧F.Nodup∧(∀ x ∈ F,∃ t,x ∈ fp t)∧Inv w Z (Act.tm a) ⟨c,q.1⟩ fp'∧(∀ t,∀ x ∈ fp' t,x ∈ fp t)∧∀ t,∀ x ∈ F,x ∉ fp' t
 | [],s,fp,q,h,he =>by
  simp [resultOf] at he
  subst he
  exact ⟨[],[],fp,s.cnt,by simp,rfl,List.nodup_nil,by simp,h,fun _ _ h =>h,by simp⟩
 | v :: rs,s,fp,q,h,he =>by
  obtain ⟨z,hz,he1⟩ :=bE.1 (show bnd (giveR E s.sl v) _ = some q from he)
  obtain ⟨q',hq',he2⟩ :=bE.1 he1
  simp at he2
  subst he2
  obtain ⟨u,vs,F1,r1,p1,l1,h1,n1,f1⟩ :=giveR_rep hT h hz
  obtain ⟨us,F2,fp2,c,r2,t2,n2,f2,i2,s2,a2⟩ :=resultOf_rep hT (h.kill (rslot v)) hq'
  have hoff:∀ {x:CA} {t:Tmp},x ∈ (fun u =>if u = rslot v then [] else fp u) t→x ∈ fp t∧t ≠ rslot v :=fun {x t} hx =>by
   simp only at hx
   split at hx
   ·cases hx
   ·exact ⟨hx,by assumption⟩
  refine ⟨u :: us,F1 ++ F2,fp2,c,by simp [List.mapM_cons,r1,r2],⟨vs,F1,F2,p1,l1,h1,t2,rfl⟩,?_,?_,i2,fun t x hx =>(hoff (s2 t x hx)).1,?_⟩
  ·rw [List.nodup_append]
   refine ⟨n1,n2,fun x hx y hy e =>?_⟩
   subst e
   obtain ⟨t,ht⟩ :=f2 x hy
   exact h.disj _ _ (hoff ht).2 x (hoff ht).1 (f1 x hx)
  ·intro x hx
   rcases List.mem_append.1 hx with hx | hx
   ·exact ⟨_,f1 x hx⟩
   ·obtain ⟨t,ht⟩ :=f2 x hx
    exact ⟨t,(hoff ht).1⟩
  ·intro t x hx hm
   rcases List.mem_append.1 hx with hx | hx
   ·have :=hoff (s2 t x hm)
    exact h.disj _ _ this.2 x this.1 (f1 x hx)
   ·exact a2 t x hx hm

theorem resultOf_look:∀ {rs:List ResultVar} {l:List (Tmp × S)} {q:List (Tmp × S) × List (Bool × List C)},resultOf E rs l = some q→∀ t,look q.1 t = look l t∨look q.1 t = .dead
 | [],l,q,he,t =>by
  simp [resultOf] at he
  subst he
  exact .inl rfl
 | v :: rs,l,q,he,t =>by
  obtain ⟨z,hz,he1⟩ :=bE.1 (show bnd (giveR E l v) _ = some q from he)
  obtain ⟨q',hq',he2⟩ :=bE.1 he1
  simp at he2
  subst he2
  rcases resultOf_look hq' t with e | e
  ·simp only at e ⊢
   rw [e]
   by_cases h:rslot v = t
   ·exact .inr (by simp [look,h])
   ·exact .inl (by simp [look,h])
  ·exact .inr e
end
end Go.Sx

/- What a body gives back of its parameters. -/
namespace Go.Sx
section
variable {P:Program} {E:Env} {w:World} {Z:CA→Prop} {a:Act}

def mirAt (mir:List (Tmp × Tmp)) (i:Tmp):Tmp :=(mirOf mir i).getD i

def MirOk (mir:List (Tmp × Tmp)) (keep:List Tmp):Prop :=∀ i j,keep.contains i = true→keep.contains j = true→i ≠ j→mirAt mir i ≠ mirAt mir j

theorem outsOf_rep {tm:Tmp→Value} {s:St} {fp:Tmp→List CA} (h:Inv w Z tm s fp) {keep:List Tmp} {mir:List (Tmp × Tmp)} (hN:MirOk mir keep):∀ {args:List S} {vals:List Value} {i:Nat} {ms:List Mode} {outs:List (List C)},args.length = vals.length →
  (∀ k v,vals[k]? = some v→keep.contains (i + k) = true→tm (i + k) = v) →
  (∀ (k:Nat) (g:Nat) (b:Bool) (cs:List C) (v:Value),args[k]? = some (.val g b cs)→vals[k]? = some v→∃ vs,Packs b vs v∧vs.length = cs.length) →
  (∀ k v b,vals[k]? = some v→keep.contains (i + k) = true→mirOf mir (i + k) = some b→(look s.sl b).isFz = true→MadeOf w Z v (tm b)) →
  outsOf s.sl keep mir i args ms = some outs→∃ F G,OutsRep w Z args vals ms outs F G∧(F ++ G).Nodup∧∀ c ∈ F ++ G,∃ t,i≤t∧keep.contains t = true∧c ∈ fp (mirAt mir t)
 | [],[],i,ms,outs,_,_,_,_,he =>by
  simp [outsOf] at he
  subst he
  exact ⟨[],[],⟨rfl,rfl,rfl⟩,List.nodup_nil,by simp⟩
 | x :: args,v :: vals,i,ms,outs,hlen,hk,hA,hM,he =>by
  obtain ⟨os,hos,he1⟩ :=bE.1 (show bnd (outsOf s.sl keep mir (i + 1) args ms.tail) _ = some outs from he)
  obtain ⟨F,G,h1,h2,h3⟩ :=outsOf_rep h hN (i :=i + 1) (by simpa using hlen) (fun k v hv hc =>by
   have :=hk (k + 1) v (by simpa using hv)
   rw [show i + (k + 1) = i + 1 + k by omega] at this
   exact this hc) (fun k g b cs v ha hv =>hA (k + 1) g b cs v (by simpa using ha) (by simpa using hv)) (fun k v b hv hc hm hf =>by
   have :=hM (k + 1) v b (by simpa using hv)
   rw [show i + (k + 1) = i + 1 + k by omega] at this
   exact this hc hm hf) hos
  rcases tE.1 he1 with ⟨hx,he2⟩ | ⟨hx,he2⟩
  ·rcases tE.1 he2 with ⟨hc,he3⟩ | ⟨_,he3⟩
   case inr =>cases he3
   have hc0 :=hc
   obtain ⟨cs,hcs,he4⟩ :=bE.1 he3
   simp at he4
   subst he4
   have hv:tm i = v :=by
    have :=hk 0 v (by simp)
    simpa using this (by simpa using hc)
   have key:∃ F1 G1,OutRep w Z x v cs F1 G1∧(F1 ++ G1).Nodup∧∀ c ∈ F1 ++ G1,c ∈ fp (mirAt mir i) :=by
    unfold mirAt
    cases hmi:mirOf mir i with
    | some b =>
     simp only [Option.getD_some]
     rw [hmi] at hcs
     have hnd :=h.nd b
     have hrep :=h.rep b
     have hcs:S.fzOut x (look s.sl b) = some cs :=hcs
     have hmade :=hM 0 v b (by simp) (by simpa using hc) (by simpa using hmi)
     cases hl:look s.sl b with
     | fz g ds =>
      rw [hl] at hcs hrep hmade
      have hmade :=hmade rfl
      cases x with
      | val g' b0 cs0 =>
       rcases tE.1 (show tst (decide (ds.length = cs0.length)) (some ds) none = some cs from hcs) with ⟨hd,he⟩ | ⟨_,he⟩
       case inr =>cases he
       simp at hd he
       subst he
       obtain ⟨vs,hp,hvl⟩ :=hA 0 g' b0 cs0 v (by simp) (by simp)
       obtain ⟨p,o,e1,hr,_⟩ :=hrep
       obtain ⟨p',o',e2,hcell⟩ :=hmade
       rw [e1] at e2
       simp at e2
       obtain ⟨rfl,rfl⟩ :=e2
       refine ⟨[],fp b,⟨vs,hp,by omega,RL.same (fun _ h =>h) ds hr (fun _ _ =>rfl) (fun j hj =>?_),rfl⟩,by simpa using hnd,fun c hc =>by simpa using hc⟩
       have hj':j < vs.length :=by omega
       have :=(hcell j vs[j] (by rw [hp.cells]; exact List.getElem?_eq_getElem hj')).1
       rw [this,List.getElem?_eq_getElem hj']
      | _ =>simp [S.fzOut] at hcs
     | _ =>rw [hl] at hcs; simp [S.fzOut] at hcs
    | none =>
     simp only [Option.getD_none]
     rw [hmi] at hcs
     have hcs:S.outOf x (look s.sl i) = some cs :=hcs
     have hnd :=h.nd i
     have hrep :=h.rep i
     cases hl:look s.sl i with
     | box g k ds =>
      rw [hl] at hcs hrep
      cases x with
      | box g' k' cs0 =>
       rcases tE.1 (show tst (decide (ds.length = cs0.length)) (some ds) none = some cs from hcs) with ⟨hd,he⟩ | ⟨_,he⟩
       case inr =>cases he
       simp at hd he
       subst he
       obtain ⟨b,o,G,hv',hr,hF⟩ :=hrep
       rw [hv] at hv'
       rw [hF] at hnd
       exact ⟨_,G,⟨b,o,hv',hd,hr,rfl⟩,hnd,fun c hc =>by rw [hF]; exact hc⟩
      | _ =>simp [S.outOf] at hcs
     | val g b ds =>
      rw [hl] at hcs hrep
      cases x with
      | val g' b0 cs0 =>
       rcases tE.1 (show tst (eqB b b0) (some ds) none = some cs from hcs) with ⟨hd,he⟩ | ⟨_,he⟩
       case inr =>cases he
       simp at he
       subst he
       have hb:b0 = b :=by cases b <;> cases b0 <;> simp [eqB] at hd <;> rfl
       subst hb
       obtain ⟨vs,hp,hvl,hr⟩ :=hrep
       rw [hv] at hp
       exact ⟨[],fp i,⟨vs,hp,hvl,hr,rfl⟩,by simpa using hnd,fun c hc =>by simpa using hc⟩
      | _ =>simp [S.outOf] at hcs
     | _ =>rw [hl] at hcs; simp [S.outOf] at hcs
   obtain ⟨F1,G1,o1,o2,o3⟩ :=key
   refine ⟨F1 ++ F,G1 ++ G,?_,?_,?_⟩
   ·simp only [OutsRep]
    rw [if_pos hx]
    exact ⟨cs,os,F1,F,G1,G,rfl,o1,h1,rfl,rfl⟩
   ·have hp:(F1 ++ F ++ (G1 ++ G)).Perm ((F1 ++ G1) ++ (F ++ G)) :=by
     refine List.perm_iff_count.2 fun c =>?_
     simp only [List.count_append]
     omega
    rw [hp.nodup_iff,List.nodup_append]
    refine ⟨o2,h2,fun c hc d hd e =>?_⟩
    subst e
    obtain ⟨t,ht,htN,hm⟩ :=h3 c hd
    exact h.disj _ _ (hN i t hc0 htN (fun e =>Nat.not_succ_le_self i (e ▸ ht))) c (o3 c hc) hm
   ·intro c hc
    have:c ∈ (F1 ++ G1)∨c ∈ (F ++ G) :=by
     simp only [List.mem_append] at hc ⊢
     rcases hc with (h | h) | h | h <;> simp [h]
    rcases this with h8 | h8
    ·exact ⟨i,Nat.le_refl _,hc0,o3 c h8⟩
    ·obtain ⟨t,ht,htN,hm⟩ :=h3 c h8
     exact ⟨t,by omega,htN,hm⟩
  ·simp at he2
   subst he2
   refine ⟨F,G,?_,h2,fun c hc =>?_⟩
   ·simp only [OutsRep]
    rw [if_neg (by rw [hx]; simp)]
    exact h1
   ·obtain ⟨t,ht,htN,hm⟩ :=h3 c hc
    exact ⟨t,by omega,htN,hm⟩
 | [],_ :: _,_,_,_,hl,_,_,_,_ =>by simp at hl
 | _ :: _,[],_,_,_,hl,_,_,_,_ =>by simp at hl
end
end Go.Sx

/- A body that is entered. -/
namespace Go.Sx
section
variable {P:Program} {E:Env} {w:World} {Z:CA→Prop} {a:Act}

theorem look_enterL:∀ (args:List S) (i t:Nat),look (enterL i args) t = if i≤t then match args[t - i]? with | some x =>x.stamp t | none =>.dead else .dead
 | [],i,t =>by simp [enterL,look]
 | x :: args,i,t =>by
  simp only [enterL,look_cons]
  by_cases h:i = t
  ·subst h; simp
  ·rw [if_neg h,look_enterL args (i + 1) t]
   by_cases h1:i≤t
   ·have h2:i + 1≤t :=by omega
    rw [if_pos h1,if_pos h2]
    obtain ⟨d,hd⟩:∃ d,t - i = d + 1 :=⟨t - i - 1,by omega⟩
    rw [hd,List.getElem?_cons_succ,show t - (i + 1) = d by omega]
   ·rw [if_neg h1,if_neg (by omega)]

theorem ARs.split:∀ {args:List S} {vals:List Value} {F:List CA},ARs w Z args vals F→∃ fps:List (List CA),fps.length = args.length∧vals.length = args.length∧F = fps.flatten∧∀ (k:Nat) (x:S),args[k]? = some x→∃ v G,vals[k]? = some v∧fps[k]? = some G∧ARep w Z x v G
 | [],[],F,h =>⟨[],rfl,rfl,h,by simp⟩
 | x :: args,v :: vals,F,h =>by
  obtain ⟨F1,F2,h1,h2,hF⟩ :=h
  obtain ⟨fps,l1,l2,l3,l4⟩ :=ARs.split h2
  refine ⟨F1 :: fps,by simp [l1],by simp [l2],by simp [hF,l3],fun k y hy =>?_⟩
  cases k with
  | zero =>simp at hy; subst hy; exact ⟨v,F1,rfl,rfl,h1⟩
  | succ k =>simpa using l4 k y (by simpa using hy)
 | [],_ :: _,_,h =>h.elim
 | _ :: _,[],_,h =>h.elim

theorem flatten_nodup:∀ {L:List (List CA)},L.flatten.Nodup→(∀ (i:Nat) (G:List CA),L[i]? = some G→G.Nodup)∧∀ (i j:Nat) (G H:List CA),i ≠ j→L[i]? = some G→L[j]? = some H→∀ c ∈ G,c ∉ H
 | [],_ =>⟨by simp,by simp⟩
 | A :: L,h =>by
  rw [List.flatten_cons,List.nodup_append] at h
  obtain ⟨h1,h2⟩ :=flatten_nodup h.2.1
  have hm:∀ {i:Nat} {G:List CA},L[i]? = some G→∀ c ∈ G,c ∈ L.flatten :=fun {i G} hi c hc =>List.mem_flatten.2 ⟨G,List.mem_of_getElem? hi,hc⟩
  refine ⟨fun i G hi =>?_,fun i j G H hij hi hj c hc hd =>?_⟩
  ·cases i with
   | zero =>simp at hi; subst hi; exact h.1
   | succ i =>exact h1 i G (by simpa using hi)
  ·cases i with
   | zero =>
    cases j with
    | zero =>exact hij rfl
    | succ j =>
     simp at hi hj
     subst hi
     exact h.2.2 c hc c (hm hj c hd) rfl
   | succ i =>
    cases j with
    | zero =>
     simp at hi hj
     subst hj
     exact h.2.2 c hd c (hm hi c hc) rfl
    | succ j =>exact h2 i j G H (by omega) (by simpa using hi) (by simpa using hj) c hc hd

theorem enter_inv {args:List S} {vals:List Value} {F:List CA} (h:ARs w Z args vals F) (hnd:F.Nodup) (hm:∀ c ∈ F,Mine w Z c) (hz:∀ c,Z c→(gcell w c).isSome = true) (hv:∀ t v,vals[t]? = some v→Act.tm a t = v) :
  ∃ fp,Inv w Z (Act.tm a) ⟨args.length,enterL 0 args⟩ fp∧∀ t,∀ c ∈ fp t,c ∈ F :=by
 obtain ⟨fps,l1,l2,hF,hrep⟩ :=h.split
 subst hF
 obtain ⟨n1,n2⟩ :=flatten_nodup hnd
 have hfp:∀ t:Nat,(fps[t]?).getD [] = []∨fps[t]? = some ((fps[t]?).getD []) :=fun t =>by cases h:fps[t]? <;> simp
 have hlook:∀ t:Nat,look (enterL 0 args) t = match args[t]? with | some x =>x.stamp t | none =>.dead :=fun t =>by rw [look_enterL]; simp
 have hsub:∀ t:Nat,∀ c ∈ (fps[t]?).getD [],c ∈ fps.flatten :=fun t c hc =>by
  rcases hfp t with e | e
  ·rw [e] at hc; cases hc
  ·exact List.mem_flatten.2 ⟨_,List.mem_of_getElem? e,hc⟩
 refine ⟨fun t:Nat =>(fps[t]?).getD [],⟨fun t =>?_,fun t =>?_,fun t u htu c hc hd =>?_,fun t c hc =>hm c (hsub t c hc),hz,fun t =>?_⟩,hsub⟩
 ·rw [hlook t]
  cases ha:args[t]? with
  | none =>
   have:fps[t]? = none :=by
    rw [List.getElem?_eq_none_iff] at ha ⊢
    omega
   simp only [this]
   rfl
  | some x =>
   obtain ⟨v,G,e1,e2,e3⟩ :=hrep t x ha
   rw [hv t v e1,e2]
   cases x with
   | val g b cs =>exact e3
   | box g k cs =>exact e3
   | rp cs =>exact e3
   | fn f caps =>exact e3
   | _ =>exact e3.elim
 ·rcases hfp t with e | e
  ·rw [e]; exact List.nodup_nil
  ·exact n1 t _ e
 ·rcases hfp t with e | e
  ·rw [e] at hc; cases hc
  rcases hfp u with e' | e'
  ·rw [e'] at hd; cases hd
  exact n2 t u _ _ htu e e' c hc hd
 ·rw [hlook t]
  cases ha:args[t]? with
  | none =>trivial
  | some x =>
   obtain ⟨v,G,e1,e2,e3⟩ :=hrep t x ha
   have ht:t < args.length :=by
    rcases Nat.lt_or_ge t args.length with h | h
    ·exact h
    ·simp [List.getElem?_eq_none h] at ha
   cases x with
   | val g b cs =>exact ht
   | box g k cs =>exact ⟨ht,ht⟩
   | rp cs =>trivial
   | fn f caps =>trivial
   | _ =>exact e3.elim
end
end Go.Sx

/- A function keeps what its evaluation says. -/
namespace Go.Sx
section
variable {P:Program} {E:Env}

def FnOk (P:Program) (E:Env) (call:Sem1) (f:FuncId):Prop :=
 ∀ fn c,P.funcs[f]? = some fn→fn.body = some c→(fn.name == "runtime.NumGoroutine") = false∧MirOk (E.ann f).mir (E.ann f).keep∧∀ kp hb:List (Tmp × Value),(∀ p ∈ kp,(E.ann f).keep.contains p.1 = true) →
  (∀ p ∈ hb,∃ i,mirOf (E.ann f).mir i = some p.1∧(i,p.2) ∈ kp)→Good (E.forF f) fn.ntmps kp hb (DrawOk P (E.forF f) call (E.ann f)) c

def hbOf (mir:List (Tmp × Tmp)) (kp:List (Tmp × Value)):List (Tmp × Value) :=kp.filterMap fun p =>(mirOf mir p.1).map fun b =>(b,p.2)

theorem hbOf_mem {mir:List (Tmp × Tmp)} {kp:List (Tmp × Value)} {p:Tmp × Value} (h:p ∈ hbOf mir kp):∃ i,mirOf mir i = some p.1∧(i,p.2) ∈ kp :=by
 obtain ⟨q,hq,he⟩ :=List.mem_filterMap.1 h
 cases hm:mirOf mir q.1 with
 | none =>rw [hm] at he; simp at he
 | some b =>
  rw [hm] at he
  simp at he
  subst he
  exact ⟨q.1,hm,hq⟩

theorem mem_hbOf {mir:List (Tmp × Tmp)} {kp:List (Tmp × Value)} {i b:Tmp} {v:Value} (h:(i,v) ∈ kp) (hm:mirOf mir i = some b):(b,v) ∈ hbOf mir kp :=
 List.mem_filterMap.2 ⟨(i,v),h,by simp [hm]⟩

theorem run_results {w:World} {fn:Func} {tmps:Array Value} {us:List Value} (h:(fn.results.toList.mapM (rread tmps)).run P w = .ok us w):(results fn tmps).run P w = .ok (if h:us.length = 1 then us[0] else .tuple us.toArray) w :=by
 have e:results fn tmps = (do
  let vs ← fn.results.mapM (rread tmps)
  pure (if h:vs.size = 1 then vs[0] else .tuple vs)) :=by
  unfold results
  congr 1
 rw [e,Array.mapM_eq_mapM_toList]
 simp only [Sem.run_bind,Sem.run_map,h,Result.andThen_ok,Sem.run_pure]
 simp

def keptOf (keep:List Tmp) (vals:List Value):List (Tmp × Value) :=((vals.zipIdx 0).filter fun p =>keep.contains p.2).map fun p =>(p.2,p.1)

theorem keptOf_keep {keep:List Tmp} {vals:List Value} {p:Tmp × Value} (h:p ∈ keptOf keep vals):keep.contains p.1 = true∧vals[p.1]? = some p.2 :=by
 obtain ⟨q,hq,rfl⟩ :=List.mem_map.1 h
 obtain ⟨hq1,hq2⟩ :=List.mem_filter.1 hq
 refine ⟨hq2,?_⟩
 obtain ⟨v,i⟩ :=q
 have :=List.mem_zipIdx_iff_getElem?.1 hq1
 simpa using this

theorem keptOf_mem {keep:List Tmp} {vals:List Value} {i:Nat} {v:Value} (h:vals[i]? = some v) (hk:keep.contains i = true):(i,v) ∈ keptOf keep vals :=
 List.mem_map.2 ⟨(v,i),List.mem_filter.2 ⟨List.mem_zipIdx_iff_getElem?.2 (by simpa using h),hk⟩,rfl⟩
end
end Go.Sx
