/- News taken: plain. -/
import Derived.Test.YtgekblcbdhjmfaaQ1
import Derived.Test.YtgekblcbdhjmfaaQ5
import Derived.Test.YtgekblcbdhjmfaaQ4
import Derived.Test.YtgekblcbdhjmfaaN13m
namespace Go.Proofs.Ytgekblcbdhjmfaa
open Go.Sx
set_option maxRecDepth 100000
set_option maxHeartbeats 64000000
set_option linter.unusedVariables false
set_option linter.unusedSimpArgs false
def tk (m:VMi) (c:VC):VMi :=if c.version≤m.at_ then m else ⟨m.kind,m.prefix_,c.version,putR c.object c.gone m.objects,IntKind.i64.wrap (m.seen + 1)⟩
def tks (m:VMi) (l:List VC):VMi :=l.foldl tk m
def risF:Option VC→List VC→Bool
 | _,[] =>true
 | none,x :: r =>risF (some x) r
 | some p,x :: r =>!decide (x.version≤p.version) && risF (some x) r
def endT (m:VMi) (f:Int):VMi :=⟨m.kind,m.prefix_,max m.at_ f,m.objects,m.seen⟩
def takeM (m:VMi) (n:VNe):VMi :=if n.code ≠ 0 then m else if n.from_ < m.at_ then m else if risF none n.changes = true then endT (tks m n.changes) n.from_ else m
def takeC (m:VMi) (n:VNe):Int :=if n.code ≠ 0 then 1 else if n.from_ < m.at_ then 2 else if risF none n.changes = true then 0 else 2
theorem tk_w (m:VMi) (c:VC):wSBookObject (tk m c).objects≤wSBookObject m.objects + (c.w + 1) :=by
 unfold tk
 split
 ·omega
 ·have :=putR_w c.object c.gone m.objects
  unfold VC.w
  simpa using this
theorem tks_w:∀ (l:List VC) (m:VMi),wSBookObject (tks m l).objects≤wSBookObject m.objects + wSBookChange l
 | [],m =>by simp [tks]
 | c :: l,m =>by
  have h1 :=tks_w l (tk m c)
  have h2 :=tk_w m c
  have e:tks m (c :: l) = tks (tk m c) l :=rfl
  rw [e]
  have e2:sumWBookChange (c :: l) = c.w + sumWBookChange l :=rfl
  unfold wSBookChange at *
  rw [e2]
  simp only [List.length_cons]
  omega
theorem k52 (m:VMi) (hw:m.w≤4194304):EV Try.prog E 52 [.val 0 true (m.c .shr)] = some ⟨[(true,m.c .own)],[]⟩ :=by
 refine eVi Try.func52 rfl ?_
 have h1 :=k63 m.objects (by unfold VMi.w at hw; omega)
 simp only [rA,seval,e52,e63,Try.f52,VMi.c,h1,rwO]
theorem k49 (m:VMi) (hw:m.w≤4194304):EV Try.prog E 49 [.val 0 true (m.c .shr)] = some ⟨[(true,m.c .own)],[]⟩ :=by
 refine eVi Try.func49 rfl ?_
 have h1 :=k62 m.objects (by unfold VMi.w at hw; omega)
 simp only [rA,seval,e49,e62,Try.f49,VMi.c,h1,rwO]
def brel (b:VBook) (m:VMi):VMi :=⟨m.kind,m.prefix_,bnow b,blist b m.kind m.prefix_,m.seen⟩
theorem k27 (b:VBook) (m:VMi) (hw:b.w≤4194304) (hm:m.w≤4194304):EV Try.prog E 27 [.val 0 true (b.c .shr),.val 0 true (m.c .shr)] = some ⟨[(true,(brel b m).c .own)],[]⟩ :=by
 refine eVi Try.func27 rfl ?_
 have h1 :=k52 m hm
 have h2 :=k57 b m.kind m.prefix_ hw
 simp only [VBook.c,VMi.c] at h1 h2
 simp only [rA,seval,e27,e52,e57,Try.f27,VBook.c,VMi.c,brel,h1,h2,rwO]
theorem k26 (b:VBook) (m:VMi) (hw:b.w≤4194304):EV Try.prog E 26 [.val 0 true (b.c .shr),.val 0 true (m.c .shr)] = some ⟨[(true,(brel b m).c .own)],[]⟩ :=by
 refine eVi Try.func26 rfl ?_
 have h2 :=k56 b m.kind m.prefix_ hw
 simp only [VBook.c,VMi.c] at h2
 simp only [rA,seval,e26,e56,Try.f26,VBook.c,VMi.c,brel,h2,rwO]
def flB:Bool→Fl
 | true =>.own
 | false =>.shr
theorem flB_t:flB true = .own :=rfl
theorem flB_f:flB false = .shr :=rfl
theorem rowsFl (b:Bool) (l:List VO):borRows (l.map (VO.c (flB b))) = l.map (VO.c .shr)∧wholeRows (l.map (VO.c (flB b))) = true :=by
 cases b
 ·exact ⟨(rowsShr l).1,(rowsShr l).2.1⟩
 ·exact ⟨(rwO l).1,(rwO l).2.2.1⟩
def VMi.m (b:Bool) (x:VMi):List C :=[.p (.string x.kind),.p (.string x.prefix_),.p (.int .i64 x.at_),.sl .own 7 (x.objects.map (VO.c (flB b))),.p (.int .i64 x.seen)]
def nilM:VMi :=⟨⟨#[]⟩,⟨#[]⟩,0,[],0⟩
def tkB (b:Bool) (m:VMi) (c:VC):Bool :=if c.version≤m.at_ then b else false
def tksB:Bool→VMi→List VC→Bool
 | b,_,[] =>b
 | b,m,c :: r =>tksB (tkB b m c) (tk m c) r
def takeB (m:VMi) (n:VNe):Bool :=if n.code ≠ 0 then true else if n.from_ < m.at_ then true else if risF none n.changes = true then tksB true m n.changes else true
theorem risF_head:∀ l:List VC,risF l[0]? (l.drop 1) = risF none l
 | [] =>rfl
 | x :: r =>rfl
theorem max_at (a f:Int):max a f = if a < f then f else a :=by
 split <;> omega
theorem k21 (m:VMi) (n:VNe) (hw:m.w + n.w≤4194304):EV Try.prog E 21 [.val 0 true (m.c .shr),.val 0 true (n.c .shr)] = some ⟨[(true,(takeM m n).m (takeB m n)),(false,[.p (.int .i64 (takeC m n))])],[]⟩ :=by
 refine eVi Try.func21 rfl ?_
 have hm:m.w≤4194304 :=by omega
 have h1 :=k52 m hm
 have hcl:n.changes.length≤4194304 :=by unfold VNe.w wSBookChange at hw; omega
 simp only [VMi.c] at h1
 unfold takeM takeB takeC
 by_cases c1:n.code = 0
 case neg =>
  rw [if_pos c1,if_pos c1,if_pos c1]
  simp only [rA,seval,e21,e52,Try.f21,VMi.c,VNe.c,VMi.m,flB_t,h1,c1,rwO]
 have c1':¬ (n.code ≠ 0) :=fun h =>h c1
 rw [if_neg c1',if_neg c1',if_neg c1']
 simp only [rA,seval,e21,e52,Try.f21,VMi.c,VNe.c,h1,c1,rwO]
 rw [for_block (n.changes.drop 1) (fun k (_:Unit) =>⟨5,[(2,.box 0 0 (m.c .shr)),(3,.box 1 1 (n.c .shr)),(4,.box 2 2 (nilM.c .own)),(6,.box 3 3 (m.c .own)),(7,.val 4 false [.p (.int .i64 ((1 + k:Nat):Int))])]⟩) (fun _ _ =>True)
  (fun r k _ =>if risF n.changes[k]? r = true then .norm ⟨4,[(2,.box 0 0 (m.c .shr)),(3,.box 1 1 (n.c .shr)),(4,.box 2 2 (nilM.c .own)),(6,.box 3 3 (m.c .own))]⟩ else .ret ⟨[(true,m.c .own),(false,[.p (.int .i64 2)])],[]⟩) ?_ ?_ (a :=()) trivial (by simp only [rA,seval,e21,VMi.c,VNe.c,nilM,c1,List.map_nil]; try rfl)]
 ·rw [risF_head]
  cases d1:risF none n.changes
  ·by_cases c2:n.from_ < m.at_
   ·rw [if_pos c2,if_pos c2,if_pos c2]
    simp only [rA,seval,e21,VMi.c,VNe.c,VMi.m,flB_t,nilM,c1,c2,Bool.false_eq_true]
   ·rw [if_neg c2,if_neg c2,if_neg c2]
    simp only [rA,seval,e21,VMi.c,VNe.c,VMi.m,flB_t,nilM,c1,c2,Bool.false_eq_true]
  by_cases c2:n.from_ < m.at_
  ·rw [if_pos c2,if_pos c2,if_pos c2]
   simp only [rA,seval,e21,VMi.c,VNe.c,VMi.m,flB_t,nilM,c1,c2,rwO]
  rw [if_neg c2,if_neg c2,if_neg c2]
  simp only [rA,seval,e21,VMi.c,VNe.c,nilM,c1,c2,rwO]
  rw [for_block n.changes (fun i (a:VMi × Bool) =>⟨4,[(3,.box 0 0 (n.c .shr)),(4,.box 1 1 (nilM.c .own)),(6,.box 2 2 (a.1.m a.2)),(8,.val 3 false [.p (.int .i64 i)])]⟩) (fun i a =>wSBookObject a.1.objects + wSBookChange (n.changes.drop i)≤4194304)
   (fun r i a =>.norm ⟨3,[(3,.box 0 0 (n.c .shr)),(4,.box 1 1 (nilM.c .own)),(6,.box 2 2 ((tks a.1 r).m (tksB a.2 a.1 r)))]⟩) ?_ ?_ (a :=(m,true)) (by rw [List.drop_zero]; show wSBookObject m.objects + _≤_; unfold VMi.w VNe.w at hw; omega) (by simp only [rA,seval,e21,VMi.c,VNe.c,VMi.m,flB_t,nilM,c1,List.map_nil]; try rfl)]
  ·show _ = some _
   generalize tks m n.changes = x
   generalize tksB true m n.changes = b
   unfold endT
   rw [max_at]
   by_cases c3:x.at_ < n.from_
   ·rw [if_pos c3]
    simp only [rA,seval,e21,VMi.c,VNe.c,VMi.m,nilM,c3,rowsFl]
   ·rw [if_neg c3]
    simp only [rA,seval,e21,VMi.c,VNe.c,VMi.m,nilM,c3,rowsFl]
  ·intro i c r a hd hi hA
   obtain ⟨x,b⟩ :=a
   simp only at hA
   have hlen :=(List.getElem?_eq_some_iff.1 hi).1
   have hlt:((i:Int) < (n.changes.length:Int)) :=by omega
   have hr :=getElem?_map_some (f :=VC.c .shr) hi
   have hi0:(0:Int)≤(i:Int) :=by omega
   have hwi :=wrap64 (n :=(i:Int) + 1) (by omega) (by omega)
   have e3:n.changes.drop (i + 1) = r :=by rw [← List.drop_drop,hd]; rfl
   have e4:wSBookChange (n.changes.drop i) = c.w + 1 + wSBookChange r :=by
    rw [hd]; unfold wSBookChange; rw [show sumWBookChange (c :: r) = c.w + sumWBookChange r from rfl]; simp; omega
   have hcw:c.w = c.object.w :=rfl
   left
   refine ⟨(tk x c,tkB b x c),?_,?_,rfl⟩
   ·by_cases d2:c.version≤x.at_
    ·have e1:tk x c = x :=by unfold tk; rw [if_pos d2]
     have e2:tkB b x c = b :=by unfold tkB; rw [if_pos d2]
     rw [e1,e2]
     simp only [VC.c] at hr
     simp only [rA,seval,e21,VMi.c,VNe.c,VMi.m,VC.c,nilM,c1,hlt,hr,hi0,hwi,d2,i64c]
    ·have e1:tk x c = ⟨x.kind,x.prefix_,c.version,putR c.object c.gone x.objects,IntKind.i64.wrap (x.seen + 1)⟩ :=by unfold tk; rw [if_neg d2]
     have e2:tkB b x c = false :=by unfold tkB; rw [if_neg d2]
     rw [e1,e2]
     have g1 :=k53 c.object (holds_le (n :=4194304) (by omega))
     have g2 :=k54 x.objects c (by unfold wSBookObject at hA; omega)
     simp only [VC.c,VO.c] at hr g1 g2
     cases hmr:mineRows ((putR c.object c.gone x.objects).map (VO.c .shr))
     all_goals simp only [rA,seval,e21,e53,e54,VMi.c,VNe.c,VMi.m,flB_f,VC.c,VO.c,nilM,c1,hlt,hr,hi0,hwi,d2,g1,g2,hmr,rowsFl,rowsShr,rwS,i64c]
   ·show wSBookObject (tk x c).objects + _≤_
    have :=tk_w x c
    rw [e3]
    omega
  ·intro a _
   have hn:¬ ((n.changes.length:Int) < (n.changes.length:Int)) :=by omega
   simp only [rA,seval,e21,VMi.c,VNe.c,VMi.m,nilM,c1,hn,tks,tksB,List.foldl_nil]
 ·intro k x r a hd hk _
  rw [List.getElem?_drop] at hk
  have hlen :=(List.getElem?_eq_some_iff.1 hk).1
  have hlt:(((1 + k:Nat):Int) < (n.changes.length:Int)) :=by omega
  have hkl:k < n.changes.length :=by omega
  have hp:n.changes[k]? = some n.changes[k] :=List.getElem?_eq_getElem hkl
  generalize n.changes[k] = p at hp
  have hr :=getElem?_map_some (f :=VC.c .shr) hk
  have hr2 :=getElem?_map_some (f :=VC.c .shr) hp
  have hk0:(0:Int)≤((1 + k:Nat):Int) :=by omega
  have hk1:(0:Int)≤(k:Int) :=by omega
  have hw1:IntKind.i64.wrap (((1 + k:Nat):Int) - 1) = (k:Int) :=by rw [wrap64 (by omega) (by omega)]; omega
  have hw2:IntKind.i64.wrap (((1 + k:Nat):Int) + 1) = ((1 + (k + 1):Nat):Int) :=by rw [wrap64 (by omega) (by omega)]; omega
  have hf:risF n.changes[k]? (x :: r) = (!decide (x.version≤p.version) && risF (some x) r) :=by rw [hp]; rfl
  have hf2:n.changes[k + 1]? = some x :=by rw [Nat.add_comm]; exact hk
  simp only [VC.c] at hr hr2
  by_cases d:x.version≤p.version
  ·right
   rw [hf,decide_eq_true d,Bool.not_true,Bool.false_and,if_neg (by simp)]
   simp only [rA,seval,e21,VMi.c,VNe.c,VC.c,nilM,c1,hlt,hr,hr2,hk0,hk1,hw1,d,rwO]
  ·left
   refine ⟨(),?_,trivial,by rw [hf,hf2,decide_eq_false d]; rfl⟩
   simp only [rA,seval,e21,VMi.c,VNe.c,VC.c,nilM,c1,hlt,hr,hr2,hk0,hk1,hw1,hw2,d]
 ·intro a _
  have hn:¬ (((1 + (n.changes.drop 1).length:Nat):Int) < (n.changes.length:Int)) :=by rw [List.length_drop]; omega
  simp only [rA,seval,e21,VMi.c,VNe.c,nilM,c1,hn,risF]
theorem tk_gone {m:VMi} {c:VC} (h:¬ c.version≤m.at_) {g:Bool} (hg:c.gone = g):tk m c = ⟨m.kind,m.prefix_,c.version,putR c.object g m.objects,IntKind.i64.wrap (m.seen + 1)⟩ :=by
 unfold tk; rw [if_neg h,hg]
theorem risP_step (l:List VC) {i:Nat} {x:VC} {r:List VC} (h:l[i]? = some x):risF (prevO l i) (x :: r) = ((match prevO l i with | none =>true | some p =>!decide (x.version≤p.version)) && risF (prevO l (i + 1)) r) :=by
 have e:prevO l (i + 1) = some x :=h
 rw [e]
 cases hp:prevO l i with
 | none =>simp [risF]
 | some p =>rfl
theorem k20 (m:VMi) (n:VNe) (hw:m.w + n.w≤4194304):EV Try.prog E 20 [.val 0 true (m.c .shr),.val 0 true (n.c .shr)] = some ⟨[(true,(takeM m n).c .own),(false,[.p (.int .i64 (takeC m n))])],[]⟩ :=by
 refine eVi Try.func20 rfl ?_
 have hm:m.w≤4194304 :=by omega
 have h1 :=k49 m hm
 have hcl:n.changes.length≤4194304 :=by unfold VNe.w wSBookChange at hw; omega
 simp only [VMi.c] at h1
 unfold takeM takeC
 by_cases c1:n.code = 0
 case neg =>
  rw [if_pos c1,if_pos c1]
  simp only [rA,seval,e20,e49,Try.f20,VMi.c,VNe.c,h1,c1,rwO]
 have c1':¬ (n.code ≠ 0) :=fun h =>h c1
 rw [if_neg c1',if_neg c1']
 by_cases c2:n.from_ < m.at_
 ·rw [if_pos c2,if_pos c2]
  simp only [rA,seval,e20,e49,Try.f20,VMi.c,VNe.c,h1,c1,c2,rwO]
 rw [if_neg c2,if_neg c2]
 simp only [rA,seval,e20,e49,Try.f20,VMi.c,VNe.c,h1,c1,c2,rwO]
 rw [for_block n.changes (fun i (_:Unit) =>⟨6,[(3,.box 0 0 (n.c .shr)),(4,.box 1 1 (nilM.c .own)),(6,.box 2 2 (m.c .own)),(24,.val 3 false [.sl .shr 9 (n.changes.map (VC.c .shr))]),(25,.val 4 false [.p (.int .i64 n.changes.length)]),(26,.val 5 false [.p (.int .i64 i)])]⟩) (fun _ _ =>True)
  (fun r i _ =>if risF (prevO n.changes i) r = true then .norm ⟨3,[(3,.box 0 0 (n.c .shr)),(4,.box 1 1 (nilM.c .own)),(6,.box 2 2 (m.c .own))]⟩ else .ret ⟨[(true,m.c .own),(false,[.p (.int .i64 2)])],[]⟩) ?_ ?_ (a :=()) trivial (by simp only [rA,seval,e20,VMi.c,VNe.c,nilM,c1,List.map_nil]; try rfl)]
 ·have e0:prevO n.changes 0 = none :=rfl
  rw [e0]
  cases d1:risF none n.changes
  ·simp only [rA,seval,e20,VMi.c,VNe.c,nilM,c1,Bool.false_eq_true]
  simp only [rA,seval,e20,VMi.c,VNe.c,nilM,c1]
  rw [for_block n.changes (fun i (x:VMi) =>⟨6,[(3,.box 0 0 (n.c .shr)),(4,.box 1 1 (nilM.c .own)),(6,.box 2 2 (x.c .own)),(48,.val 3 false [.sl .shr 9 (n.changes.map (VC.c .shr))]),(49,.val 4 false [.p (.int .i64 n.changes.length)]),(50,.val 5 false [.p (.int .i64 i)])]⟩) (fun i x =>wSBookObject x.objects + wSBookChange (n.changes.drop i)≤4194304)
   (fun r i x =>.norm ⟨3,[(3,.box 0 0 (n.c .shr)),(4,.box 1 1 (nilM.c .own)),(6,.box 2 2 ((tks x r).c .own))]⟩) ?_ ?_ (a :=m) (by rw [List.drop_zero]; unfold VMi.w VNe.w at hw; omega) (by simp only [rA,seval,e20,VMi.c,VNe.c,nilM,c1,List.map_nil]; try rfl)]
  ·generalize tks m n.changes = x
   unfold endT
   simp only [rA,seval,e20,VMi.c,VNe.c,nilM,rwO]
  ·intro i c r x hd hi hA
   have hlen :=(List.getElem?_eq_some_iff.1 hi).1
   have hlt:((i:Int) < (n.changes.length:Int)) :=by omega
   have hr :=getElem?_map_some (f :=VC.c .shr) hi
   have hi0:(0:Int)≤(i:Int) :=by omega
   have hwi :=wrap64 (n :=(i:Int) + 1) (by omega) (by omega)
   have e3:n.changes.drop (i + 1) = r :=by rw [← List.drop_drop,hd]; rfl
   have e4:wSBookChange (n.changes.drop i) = c.w + 1 + wSBookChange r :=by
    rw [hd]; unfold wSBookChange; rw [show sumWBookChange (c :: r) = c.w + sumWBookChange r from rfl]; simp; omega
   have hcw:c.w = c.object.w :=rfl
   have hxl:x.objects.length≤4194304 :=by unfold wSBookObject at hA; omega
   left
   refine ⟨tk x c,?_,?_,rfl⟩
   ·by_cases d2:c.version≤x.at_
    ·have e1:tk x c = x :=by unfold tk; rw [if_pos d2]
     rw [e1]
     simp only [VC.c] at hr
     simp only [rA,seval,e20,VMi.c,VNe.c,VC.c,nilM,c1,hlt,hr,hi0,hwi,d2,i64c]
    ·cases d3:c.gone
     ·rw [tk_gone d2 d3]
      have g1 :=k32 c.object (holds_le (n :=4194304) (by omega))
      have g2 :=k51 x.objects c.object hxl
      simp only [VC.c,VO.c] at hr g1
      simp only [VO.c] at g2
      simp only [rA,seval,e20,e32,e51,VMi.c,VNe.c,VC.c,VO.c,nilM,c1,hlt,hr,hi0,hwi,d2,d3,g1,g2,rwO,rwS,i64c]
     ·rw [tk_gone d2 d3]
      have g1 :=k44 c.object
      have g2 :=k50 x.objects c.object hxl
      simp only [VC.c,VO.c] at hr g1
      simp only [rA,seval,e20,e44,e50,VMi.c,VNe.c,VC.c,VO.c,nilM,c1,hlt,hr,hi0,hwi,d2,d3,g1,g2,rwO,rwS,i64c]
   ·show wSBookObject (tk x c).objects + _≤_
    have :=tk_w x c
    rw [e3]
    omega
  ·intro a _
   have hn:¬ ((n.changes.length:Int) < (n.changes.length:Int)) :=by omega
   simp only [rA,seval,e20,VMi.c,VNe.c,nilM,c1,hn,tks,List.foldl_nil]
 ·intro i x r a hd hi _
  have hlen :=(List.getElem?_eq_some_iff.1 hi).1
  have hlt:((i:Int) < (n.changes.length:Int)) :=by omega
  have hr :=getElem?_map_some (f :=VC.c .shr) hi
  have hi0:(0:Int)≤(i:Int) :=by omega
  have hwi :=wrap64 (n :=(i:Int) + 1) (by omega) (by omega)
  have hst :=risP_step n.changes (r :=r) hi
  simp only [VC.c] at hr
  cases i with
  | zero =>
   have hlt0:(0:Int) < (n.changes.length:Int) :=by omega
   have hw01:IntKind.i64.wrap 1 = 1 :=wrap64 (by omega) (by omega)
   left
   refine ⟨(),?_,trivial,by rw [hst]; rfl⟩
   simp only [rA,seval,e20,VMi.c,VNe.c,VC.c,nilM,c1,hlt,hr,hi0,hwi,i64c,Int.lt_irrefl,Int.natCast_zero,Int.zero_add,hw01,hlt0,Int.toNat_zero]
  | succ i =>
   have hil:i < n.changes.length :=by omega
   have hp:n.changes[i]? = some n.changes[i] :=List.getElem?_eq_getElem hil
   generalize n.changes[i] = p at hp
   have hr2 :=getElem?_map_some (f :=VC.c .shr) hp
   have hpr:prevO n.changes (i + 1) = some p :=hp
   have hip:(0:Int) < ((i + 1:Nat):Int) :=by omega
   have hi1:(0:Int)≤(i:Int) :=by omega
   have hw1:IntKind.i64.wrap (((i + 1:Nat):Int) - 1) = (i:Int) :=by rw [wrap64 (by omega) (by omega)]; omega
   have hw2:IntKind.i64.wrap (((i + 1:Nat):Int) + 1) = ((i + 1 + 1:Nat):Int) :=by rw [wrap64 (by omega) (by omega)]; omega
   rw [hpr] at hst ⊢
   simp only at hst
   simp only [VC.c] at hr2
   by_cases d:x.version≤p.version
   ·right
    rw [hst,decide_eq_true d,Bool.not_true,Bool.false_and,if_neg (by simp)]
    simp only [rA,seval,e20,VMi.c,VNe.c,VC.c,nilM,c1,hlt,hr,hr2,hi0,hi1,hip,hw1,d,rwO]
   ·left
    refine ⟨(),?_,trivial,by rw [hst,decide_eq_false d]; rfl⟩
    simp only [rA,seval,e20,VMi.c,VNe.c,VC.c,nilM,c1,hlt,hr,hr2,hi0,hi1,hip,hw1,hw2,d]
 ·intro a _
  have hn:¬ ((n.changes.length:Int) < (n.changes.length:Int)) :=by omega
  simp only [rA,seval,e20,VMi.c,VNe.c,nilM,c1,hn,risF]
theorem nxt_sum (w:VWa) (most:Int):∀ l acc:List VC,wSBookChange (nxt w most l acc).1≤wSBookChange acc + wSBookChange l
 | [],acc =>Nat.le_add_right _ _
 | c :: r,acc =>by
  have h1 :=nxt_sum w most r acc
  have h2 :=nxt_sum w most r (acc ++ [c])
  have h3:wSBookChange (acc ++ [c]) = wSBookChange acc + (1 + c.w) :=by
   clear h1 h2
   unfold wSBookChange
   rw [List.length_append]
   have:∀ a:List VC,sumWBookChange (a ++ [c]) = sumWBookChange a + c.w :=by
    intro a
    induction a with
    | nil =>simp [sumWBookChange]
    | cons x a ih =>simp only [List.cons_append,sumWBookChange,ih]; omega
   rw [this]
   simp
   omega
  have h4:wSBookChange (c :: r) = (1 + c.w) + wSBookChange r :=by
   unfold wSBookChange
   simp only [List.length_cons,sumWBookChange]
   omega
  by_cases p:passB w c = true
  ·by_cases q:(acc.length:Int) = most
   ·rw [show nxt w most (c :: r) acc = (acc,some (lastV acc)) by rw [nxt,if_pos p,if_pos q]]
    exact Nat.le_add_right _ _
   ·rw [show nxt w most (c :: r) acc = nxt w most r (acc ++ [c]) by rw [nxt,if_pos p,if_neg q]]
    omega
  ·rw [show nxt w most (c :: r) acc = nxt w most r acc by rw [nxt,if_neg p]]
   omega
theorem next_w (b:VBook) (w:VWa) (most:Int):(nextB b w most).w≤b.w :=by
 have h :=nxt_sum w most b.history []
 have h0:wSBookChange [] = 0 :=rfl
 unfold nextB
 split
 ·split
  ·exact Nat.zero_le _
  ·split
   ·exact Nat.zero_le _
   ·unfold VNe.w VBook.w
    simp only
    omega
 ·exact Nat.zero_le _
theorem filter_w (p:VO→Bool):∀ l:List VO,wSBookObject (l.filter p)≤wSBookObject l
 | [] =>Nat.le_refl _
 | x :: l =>by
  have ih :=filter_w p l
  unfold wSBookObject at *
  rw [List.filter_cons]
  split
  ·simp only [List.length_cons,sumWBookObject]; omega
  ·simp only [List.length_cons,sumWBookObject]; omega
theorem blist_w (b:VBook) (k p:ByteArray):wSBookObject (blist b k p)≤b.w :=by
 unfold blist
 split
 ·have :=filter_w (looksB k p) b.objects
  unfold VBook.w lst
  omega
 ·exact Nat.zero_le _
theorem brel_w (b:VBook) (m:VMi):(brel b m).w≤m.w + b.w :=by
 have :=blist_w b m.kind m.prefix_
 unfold brel VMi.w
 simp only
 omega
theorem tks_kind:∀ (l:List VC) (m:VMi),(tks m l).kind = m.kind∧(tks m l).prefix_ = m.prefix_
 | [],m =>⟨rfl,rfl⟩
 | c :: l,m =>by
  have e:tks m (c :: l) = tks (tk m c) l :=rfl
  obtain ⟨h1,h2⟩ :=tks_kind l (tk m c)
  rw [e,h1,h2]
  unfold tk
  split <;> exact ⟨rfl,rfl⟩
theorem takeM_w (m:VMi) (n:VNe):(takeM m n).w≤m.w + n.w :=by
 unfold takeM
 split
 ·omega
 ·split
  ·omega
  ·split
   ·have h :=tks_w n.changes m
    obtain ⟨h1,h2⟩ :=tks_kind n.changes m
    unfold VMi.w VNe.w endT
    simp only [h1,h2]
    omega
   ·omega
def watchM (m:VMi):VWa :=⟨m.kind,m.prefix_,m.at_⟩
def mstM (b:VBook) (m:VMi) (most:Int):VMi :=if (nextB b (watchM m) most).code = 2 then brel b m else takeM m (nextB b (watchM m) most)
def mstC (b:VBook) (m:VMi) (most:Int):Int :=if (nextB b (watchM m) most).code = 2 then 2 else takeC m (nextB b (watchM m) most)
def mstF (b:VBook) (m:VMi) (most:Int):Bool :=if (nextB b (watchM m) most).code = 2 then true else takeB m (nextB b (watchM m) most)
theorem k25 (b:VBook) (m:VMi) (most:Int) (hw:b.w + m.w≤4194304) (hm:i64ok most):EV Try.prog E 25 [.val 0 true (b.c .shr),.val 0 true (m.c .shr),.val 0 false [.p (.int .i64 most)]] = some ⟨[(true,(mstM b m most).m (mstF b m most)),(false,[.p (.int .i64 (mstC b m most))])],[]⟩ :=by
 refine eVi Try.func25 rfl ?_
 have h1 :=k8 b (watchM m) most (by omega) hm
 have h2 :=k27 b m (by omega) (by omega)
 have hnw :=next_w b (watchM m) most
 unfold mstM mstF mstC
 generalize nextB b (watchM m) most = n at *
 have h3 :=k21 m n (by omega)
 simp only [VBook.c,VMi.c,VWa.c,watchM,VNe.c] at h1 h2 h3
 by_cases c2:n.code = 2
 ·rw [if_pos c2,if_pos c2,if_pos c2]
  rw [c2] at h1
  simp only [rA,seval,e25,e8,e27,Try.f25,VBook.c,VMi.c,VMi.m,flB_t,h1,h2,rwC,rwO]
 ·rw [if_neg c2,if_neg c2,if_neg c2]
  generalize takeM m n = y at *
  generalize takeC m n = cc at *
  generalize takeB m n = bb at *
  simp only [VMi.m] at h3
  cases bb
  ·cases hmr:mineRows (y.objects.map (VO.c .shr))
   all_goals
    simp only [flB_f] at h3
    simp only [rA,seval,e25,e8,e21,Try.f25,VBook.c,VMi.c,VMi.m,flB_f,h1,h3,c2,hmr,rwC,rwO,rowsShr]
  ·simp only [flB_t] at h3
   simp only [rA,seval,e25,e8,e21,Try.f25,VBook.c,VMi.c,VMi.m,flB_t,h1,h3,c2,rwC,rwO,rowsShr]
theorem k24 (b:VBook) (m:VMi) (most:Int) (hw:b.w + m.w≤4194304) (hm:i64ok most):EV Try.prog E 24 [.val 0 true (b.c .shr),.val 0 true (m.c .shr),.val 0 false [.p (.int .i64 most)]] = some ⟨[(true,(mstM b m most).c .own),(false,[.p (.int .i64 (mstC b m most))])],[]⟩ :=by
 refine eVi Try.func24 rfl ?_
 have h1 :=k7 b (watchM m) most (by omega) hm
 have h2 :=k26 b m (by omega)
 have hnw :=next_w b (watchM m) most
 unfold mstM mstC
 generalize nextB b (watchM m) most = n at *
 have h3 :=k20 m n (by omega)
 have h4 :=k49 m (by omega)
 have e1:n.code = 1→takeM m n = m∧takeC m n = 1 :=fun h =>by
  have:n.code ≠ 0 :=by omega
  unfold takeM takeC
  rw [if_pos this,if_pos this]
  exact ⟨rfl,rfl⟩
 simp only [VBook.c,VMi.c,VWa.c,watchM,VNe.c] at h1 h2 h3 h4
 by_cases c1:n.code = 1
 ·rw [(e1 c1).1,(e1 c1).2,if_neg (by omega),if_neg (by omega)]
  rw [c1] at h1
  simp only [rA,seval,e24,e7,e49,Try.f24,VBook.c,VMi.c,h1,h4,rwC,rwO]
 by_cases c2:n.code = 2
 ·rw [if_pos c2,if_pos c2]
  rw [c2] at h1
  simp only [rA,seval,e24,e7,e26,Try.f24,VBook.c,VMi.c,h1,h2,rwC,rwO]
 ·rw [if_neg c2,if_neg c2]
  generalize takeM m n = y at *
  generalize takeC m n = cc at *
  simp only [rA,seval,e24,e7,e20,Try.f24,VBook.c,VMi.c,h1,h3,c1,c2,rwC,rwO]
theorem blist_small {n:Nat} {b:VBook} (g:DrB n b) (k p:ByteArray):wSBookObject (blist b k p)≤110000 :=by
 unfold blist
 split
 ·rename_i h
  have hl:b.objects.length≤100 :=by
   simp only [implB,Bool.and_eq_true,decide_eq_true_eq] at h
   have :=h.2.2.1
   omega
  have h1 :=filter_w (looksB k p) b.objects
  have h2 :=sum_obj g.objs
  unfold wSBookObject at h1 ⊢
  unfold lst
  omega
 ·decide
structure MrB (m:VMi):Prop where
 w:m.w≤110050
 a0:0≤m.at_
 a1:m.at_≤1000100
def KM:List ByteArray :=[⟨#[]⟩,⟨#[98,101,114,116,104]⟩,⟨#[106,111,98]⟩]
def PM:List ByteArray :=[⟨#[]⟩,⟨#[120]⟩]
theorem KM_sz:∀ s ∈ KM,s.size≤20 :=by decide
theorem PM_sz:∀ s ∈ PM,s.size≤20 :=by decide
theorem brel_ok {n:Nat} {b:VBook} (g:DrB n b) {kd pf:ByteArray} (h1:kd.size≤20) (h2:pf.size≤20) (s:Int):MrB (brel b ⟨kd,pf,0,[],s⟩) :=by
 have h3 :=blist_small g kd pf
 have h4 :=g.lo
 have h5 :=g.hi
 refine ⟨?_,?_,?_⟩
 ·unfold brel VMi.w
  simp only
  omega
 ·show 0≤bnow b
  unfold bnow; split <;> omega
 ·show bnow b≤1000100
  unfold bnow; split <;> omega
theorem k48 {bs:List Int} (hb:Bytes bs) (p0:Nat) (hp:p0≤400000):∃ (y:VBook) (m:VMi) (p':Nat),DrB 1020 y∧MrB m∧p0≤p'∧p'≤p0 + 25000∧EV Try.prog E 48 [.box 0 0 (rdC bs p0)] = some ⟨[(true,y.c .shr),(true,m.c .shr)],[rdC bs p']⟩ :=by
 have key:∃ r,EV Try.prog E 48 [.box 0 0 (rdC bs p0)] = some r∧∃ (y:VBook) (m:VMi) (p':Nat),DrB 1020 y∧MrB m∧p0≤p'∧p'≤p0 + 25000∧r = ⟨[(true,y.c .shr),(true,m.c .shr)],[rdC bs p']⟩ :=by
  refine EV_introX Try.func48 rfl ?_
  obtain ⟨y,p,g,hp1,hp2,h60⟩ :=k60 hb p0 (by omega)
  obtain ⟨k1,⟨k1a,k1b⟩,hk1⟩ :=k30 hb p (by omega) 3
  obtain ⟨k2,⟨k2a,k2b⟩,hk2⟩ :=k30 hb (p + 1) (by omega) 2
  obtain ⟨k3,⟨k3a,k3b⟩,hk3⟩ :=k30 hb (p + 1 + 1) (by omega) 3
  obtain ⟨k4,⟨k4a,k4b⟩,hk4⟩ :=k30 hb (p + 1 + 1 + 1) (by omega) 12
  have ek4:k4 = (k4.toNat:Int) :=by omega
  rw [ek4] at hk4
  have k4c:k4.toNat≤12 :=by omega
  generalize k4.toNat = m0 at *
  have k1c:k1 < 3 :=by omega
  have k2c:k2 < 2 :=by omega
  have k1n:k1.toNat < 3 :=by omega
  have k2n:k2.toNat < 2 :=by omega
  obtain ⟨kd,hkd,hr1⟩ :=pickL KM k1a (by simpa [KM] using k1c)
  obtain ⟨pf,hpf,hr2⟩ :=pickL PM k2a (by simpa [PM] using k2c)
  have mb :=brel_ok g (KM_sz kd hkd) (PM_sz pf hpf) k3
  simp only [KM,PM,List.map_cons,List.map_nil,strC] at hr1 hr2
  have hyw :=g.w (by omega)
  have h27 :=k27 y ⟨kd,pf,0,[],k3⟩ (by omega) (by have h1 :=KM_sz kd hkd; have h2 :=PM_sz pf hpf; have h3:wSBookObject [] = 0 :=rfl; unfold VMi.w; simp only; omega)
  generalize brel y ⟨kd,pf,0,[],k3⟩ = M at *
  simp only [rdC,VBook.c,VMi.c,List.map_nil] at h60 hk1 hk2 hk3 hk4 h27
  simp only [rA,seval,e48,e27,e30,e60,Try.f48,VBook.c,VBook.m,VMi.c,VWa.c,VW.c,VNe.c,rdC,zB,nilM,List.cons_append,List.nil_append,List.map_nil,List.length_map,rowsShr,rowsShrC,rwO,rwC,rwT,rwS,rowsBy,h60,hk1,hk2,hk3,hk4,h27,k1a,k1c,k1n,k2a,k2c,k2n,hr1,hr2]
  generalize hX:blockO _ _ (itω _ _ _) = X
  have hw:∃ o,X = some o∧∃ (y:VBook) (p':Nat),(DrB 1012 y∧p0≤p'∧p'≤p + 4000)∧o = .norm ⟨5,[(0,.box 0 0 (rdC bs p')),(2,.box 1 1 (zB.c .own)),(3,.box 2 2 (nilM.c .own)),(4,.box 3 3 (y.c .shr)),(5,.box 4 4 (M.c .shr))]⟩ :=by
   refine while_ex hX (fun (q:Nat × Nat × VBook) =>⟨6,[(0,.box 0 0 (rdC bs q.2.1)),(2,.box 1 1 (zB.c .own)),(3,.box 2 2 (nilM.c .own)),(4,.box 3 3 (q.2.2.c .shr)),(5,.box 4 4 (M.c .shr)),(6,.val 5 false [.p (.int .i64 (q.1:Nat))])]⟩)
    (fun q =>q.1≤12∧p0≤q.2.1∧q.2.1 + 300 * q.1≤p + 3900∧DrB (1012 - q.1) q.2.2)
    (fun o =>∃ (y:VBook) (p':Nat),(DrB 1012 y∧p0≤p'∧p'≤p + 4000)∧o = .norm ⟨5,[(0,.box 0 0 (rdC bs p')),(2,.box 1 1 (zB.c .own)),(3,.box 2 2 (nilM.c .own)),(4,.box 3 3 (y.c .shr)),(5,.box 4 4 (M.c .shr))]⟩)
    (fun q =>q.1) ?_ (i :=(m0,p + 1 + 1 + 1 + 1,y)) ⟨k4c,by simp only; omega,by simp only; omega,g.mono (by simp only; omega)⟩ (by simp only [rA,seval,e48,VBook.c,VBook.m,VMi.c,VWa.c,VW.c,VNe.c,rdC,zB,nilM,List.cons_append,List.nil_append,List.map_nil,List.length_map])
   clear g hyw h60 h27
   rintro ⟨m,p3,y⟩ ⟨g1,g2,g3,g5⟩
   simp only at g1 g2 g3 g5
   by_cases hm:0 < (m:Int)
   case neg =>
    right
    refine ⟨.norm ⟨5,[(0,.box 0 0 (rdC bs p3)),(2,.box 1 1 (zB.c .own)),(3,.box 2 2 (nilM.c .own)),(4,.box 3 3 (y.c .shr)),(5,.box 4 4 (M.c .shr))]⟩,?_,y,p3,⟨g5.mono (by omega),by omega,by omega⟩,rfl⟩
    simp only [rA,seval,e48,VBook.c,VBook.m,VMi.c,VWa.c,VW.c,VNe.c,rdC,zB,nilM,List.cons_append,List.nil_append,List.map_nil,List.length_map,rowsShr,rowsShrC,rwO,rwC,rwT,rwS,rowsBy,hm]
   left
   have hyw :=g5.w (by omega)
   have wm :=wrap64 (n :=(m:Int) - 1) (by omega) (by omega)
   have em:((m - 1:Nat):Int) = (m:Int) - 1 :=by omega
   obtain ⟨w,p2,hww,⟨⟨wo0,wo1⟩,ws0,ws1⟩,hq1,hq2,h76⟩ :=k76 hb p3 (by omega) y (by have :=g5.ol; omega) (M :=1000) (fun o ho =>⟨(g5.objs o ho).w,by have :=(g5.objs o ho).holds; omega,(g5.objs o ho).v0,by have :=(g5.objs o ho).v1; omega⟩)
   obtain ⟨c,v,z,hz,⟨e1,e3,_,_,e6⟩,h75⟩ :=do_ok3 g5 (w :=w) (by omega) (by omega)
   refine ⟨(m - 1,p2,z),?_,⟨by simp only; omega,by simp only; omega,by simp only; omega,e3.mono (by simp only; omega)⟩,by simp only; omega⟩
   have hc1 :=e1.bor
   simp only [VBook.c,VBook.m,VW.c,rdC] at h75 h76
   by_cases hc0:c = 0
   ·have hfl:flD c = .own :=by unfold flD; rw [if_pos hc0]
    simp only [rA,seval,e48,e75,e76,VBook.c,VBook.m,VMi.c,VWa.c,VW.c,VNe.c,rdC,zB,nilM,List.cons_append,List.nil_append,List.map_nil,List.length_map,rowsShr,rowsShrC,rwO,rwC,rwT,rwS,rowsBy,hm,wm,em,h76,h75,hc1,hfl]
   ·have hfl:flD c = .shr :=by unfold flD; rw [if_neg hc0]
    have hhz :=e6 hc0
    subst hhz
    simp only [rA,seval,e48,e75,e76,VBook.c,VBook.m,VMi.c,VWa.c,VW.c,VNe.c,rdC,zB,nilM,List.cons_append,List.nil_append,List.map_nil,List.length_map,rowsShr,rowsShrC,rwO,rwC,rwT,rwS,rowsBy,hm,wm,em,h76,h75,hc1,hfl]
  obtain ⟨o,ho,y,p3,⟨g5,g2,g3⟩,rfl⟩ :=hw
  rw [ho]
  clear ho hX X g h60 h27 hyw
  obtain ⟨k5,⟨k5a,k5b⟩,hk5⟩ :=k30 hb p3 (by omega) 4
  have hyw :=g5.w (by omega)
  by_cases c5:k5 = 0
  ·obtain ⟨k6,⟨k6a,k6b⟩,hk6⟩ :=k30 hb (p3 + 1) (by omega) 8
   have f0 :=g5.f0
   have f1 :=g5.f1
   have w2 :=wrap64 (n :=y.floor + k6) (by omega) (by omega)
   have h15 :=k15 y (y.floor + k6) (by omega)
   have dz :=(g5.cut (y.floor + k6)).mono (m :=1020) (by omega)
   generalize bcut y (y.floor + k6) = z at *
   have h38 :=k38 z (by have :=dz.w (by omega); omega)
   refine ⟨_,?_,z,M,p3 + 1 + 1,dz,mb,by omega,by omega,rfl⟩
   simp only [VBook.c,VMi.c,rdC] at h15 h38 hk5 hk6
   simp only [rA,seval,e48,e30,e15,e38,VBook.c,VBook.m,VMi.c,VWa.c,VW.c,VNe.c,rdC,zB,nilM,List.cons_append,List.nil_append,List.map_nil,List.length_map,rowsShr,rowsShrC,rwO,rwC,rwT,rwS,rowsBy,hk5,c5,hk6,w2,h15,h38]
  ·have h38 :=k38 y (by omega)
   refine ⟨_,?_,y,M,p3 + 1,g5.mono (by omega),mb,by omega,by omega,rfl⟩
   simp only [VBook.c,VMi.c,rdC] at h38 hk5
   simp only [rA,seval,e48,e30,e38,VBook.c,VBook.m,VMi.c,VWa.c,VW.c,VNe.c,rdC,zB,nilM,List.cons_append,List.nil_append,List.map_nil,List.length_map,rowsShr,rowsShrC,rwO,rwC,rwT,rwS,rowsBy,hk5,c5,h38]
 obtain ⟨r,e1,y,m,p',h1,h2,h3,h4,rfl⟩ :=key
 exact ⟨y,m,p',h1,h2,h3,h4,e1⟩
theorem k55 {l:List Int} (hl:l.length≤2097152) (hb:∀ x ∈ l,0≤x∧x≤255):∃ (z:VBook) (m:VMi),z.w≤2300000∧MrB m∧EV Try.prog E 55 [.val 0 false [.sl .shr 1 (l.map byC)]] = some ⟨[(true,z.c .shr),(true,m.c .shr)],[]⟩ :=by
 obtain ⟨bs,hbs,h28⟩ :=k28 hl hb
 obtain ⟨y,m,p,g,gm,h1,h2,h48⟩ :=k48 hbs 0 (by omega)
 obtain ⟨k,⟨ka,kb⟩,hk⟩ :=k30 hbs p (by omega) 12
 by_cases c:k = 0
 ·obtain ⟨z,p2,cs,d,h3,h4,hc,h61⟩ :=k61 hbs (p + 1) (by omega) y (g.mono (by omega))
  refine ⟨z,m,by have :=d.w; omega,gm,eVi Try.func55 rfl ?_⟩
  simp only [rdC,VBook.c,VMi.c,seval] at h28 h48 hk hc h61
  simp only [rA,seval,e55,e28,e30,e48,e61,Try.f55,VBook.c,VBook.m,VMi.c,VWa.c,VW.c,VNe.c,rdC,zB,nilM,List.cons_append,List.nil_append,List.map_nil,List.length_map,rowsShr,rowsShrC,rwO,rwC,rwT,rwS,rowsBy,h28,h48,hk,c,h61,hc]
 ·refine ⟨y,m,g.w (by omega),gm,eVi Try.func55 rfl ?_⟩
  simp only [rdC,VBook.c,VMi.c,seval] at h28 h48 hk
  simp only [rA,seval,e55,e28,e30,e48,Try.f55,VBook.c,VBook.m,VMi.c,VWa.c,VW.c,VNe.c,rdC,zB,nilM,List.cons_append,List.nil_append,List.map_nil,List.length_map,rowsShr,rowsShrC,rwO,rwC,rwT,rwS,rowsBy,h28,h48,hk,c]
theorem k23 {l:List Int} (hl:l.length≤2097152) (hb:∀ x ∈ l,0≤x∧x≤255):∃ (z:VBook) (m:VMi) (most:Int),z.w≤2300000∧MrB m∧(0≤most∧most≤8)∧EV Try.prog E 23 [.val 0 false [.sl .shr 1 (l.map byC)]] = some ⟨[(true,z.c .shr),(true,m.c .shr),(false,[.p (.int .i64 most)])],[]⟩ :=by
 obtain ⟨bs,hbs,h28⟩ :=k28 hl hb
 obtain ⟨z,m,d,gm,h55⟩ :=k55 hl hb
 obtain ⟨k,⟨ka,kb⟩,hk⟩ :=k30 hbs 0 (by omega) 12
 by_cases c:k = 0
 ·obtain ⟨k1,⟨k1a,k1b⟩,hk1⟩ :=k30 hbs (0 + 1) (by omega) 30
  obtain ⟨k2,⟨k2a,k2b⟩,hk2⟩ :=k30 hbs (0 + 1 + 1) (by omega) 8
  refine ⟨z,⟨m.kind,m.prefix_,k1,m.objects,m.seen⟩,k2,d,⟨gm.w,k1a,by show k1≤1000100; omega⟩,⟨k2a,by omega⟩,eVi Try.func23 rfl ?_⟩
  simp only [rdC,VBook.c,VMi.c,seval] at h28 h55 hk hk1 hk2
  simp only [rA,seval,e23,e28,e30,e55,Try.f23,VBook.c,VBook.m,VMi.c,VWa.c,VW.c,VNe.c,rdC,zB,nilM,List.cons_append,List.nil_append,List.map_nil,List.length_map,rowsShr,rowsShrC,rwO,rwC,rwT,rwS,rowsBy,h28,h55,hk,c,hk1,hk2]
 ·obtain ⟨k2,⟨k2a,k2b⟩,hk2⟩ :=k30 hbs (0 + 1) (by omega) 8
  refine ⟨z,m,k2,d,gm,⟨k2a,by omega⟩,eVi Try.func23 rfl ?_⟩
  simp only [rdC,VBook.c,VMi.c,seval] at h28 h55 hk hk2
  simp only [rA,seval,e23,e28,e30,e55,Try.f23,VBook.c,VBook.m,VMi.c,VWa.c,VW.c,VNe.c,rdC,zB,nilM,List.cons_append,List.nil_append,List.map_nil,List.length_map,rowsShr,rowsShrC,rwO,rwC,rwT,rwS,rowsBy,h28,h55,hk,c,hk2]
theorem chg_w {l:List VC} {n:Nat} {b:VBook} (g:DrB n b) (h:∀ x ∈ l,x ∈ b.history) (hl:l.length≤201):wSBookChange l≤202000 :=by
 have h1 :=sum_chg (l :=l) (fun c hc =>g.hist c (h c hc))
 unfold wSBookChange
 omega
theorem k19 {l:List Int} (hl:l.length≤2097152) (hb:∀ x ∈ l,0≤x∧x≤255):∃ (m:VMi) (n:VNe) (cs:List C),m.w≤110050∧n.w≤210000∧borRow cs = n.c .shr∧EV Try.prog E 19 [.val 0 false [.sl .shr 1 (l.map byC)]] = some ⟨[(true,m.c .shr),(true,cs)],[]⟩ :=by
 obtain ⟨bs,hbs,h28⟩ :=k28 hl hb
 obtain ⟨y,m,p,g,gm,h1,h2,h48⟩ :=k48 hbs 0 (by omega)
 have hyw :=g.w (by omega)
 have ga0 :=gm.a0
 have ga1 :=gm.a1
 obtain ⟨k1,⟨k1a,k1b⟩,hk1⟩ :=k30 hbs p (by omega) 6
 have w1 :=wrap64 (n :=1 + k1) (by omega) (by omega)
 have h8 :=k8 y ⟨m.kind,m.prefix_,m.at_⟩ (1 + k1) (by omega) (by unfold i64ok; omega)
 obtain ⟨hmem,hlen⟩ :=next_mem y ⟨m.kind,m.prefix_,m.at_⟩ (1 + k1)
 have ghl :=g.hl
 generalize nextB y ⟨m.kind,m.prefix_,m.at_⟩ (1 + k1) = N at *
 obtain ⟨Nc,Nl,Nf⟩ :=N
 simp only at hmem hlen
 have hNw:wSBookChange Nl≤202000 :=chg_w g hmem (by omega)
 have hNn:VNe.w ⟨Nc,Nl,Nf⟩≤210000 :=by unfold VNe.w; simp only; omega
 obtain ⟨k2,⟨k2a,k2b⟩,hk2⟩ :=k30 hbs (p + 1) (by omega) (Nl.length:Int)
 obtain ⟨v,⟨va,vb⟩,hk3⟩ :=k30 hbs (p + 1 + 1) (by omega) 10
 simp only [rdC,VBook.c,VMi.c,VWa.c,VNe.c,seval] at h28 h48 hk1 h8 hk2 hk3
 by_cases v0:v = 0
 ·obtain ⟨k4,⟨k4a,k4b⟩,hk4⟩ :=k30 hbs (p + 1 + 1 + 1) (by omega) 20
  simp only [rdC] at hk4
  refine ⟨m,⟨Nc,Nl,k4⟩,_,gm.w,hNn,(rowBookNews _).1,eVi Try.func19 rfl ?_⟩
  simp only [rA,seval,e19,e28,e30,e48,e8,Try.f19,VBook.c,VBook.m,VMi.c,VWa.c,VW.c,VNe.c,rdC,zB,nilM,List.cons_append,List.nil_append,List.map_nil,List.length_map,rowsShr,rowsShrC,rwO,rwC,rwT,rwS,rowsBy,h28,h48,hk1,w1,h8,hk2,hk3,v0,hk4]
 by_cases v1:v = 1
 ·by_cases hl0:(0:Int) < (Nl.length:Int)
  ·have ek:k2 = (k2.toNat:Int) :=by omega
   rw [ek] at hk2
   have hkl:k2.toNat < Nl.length :=by omega
   generalize k2.toNat = j at *
   have hji:(j:Int) < (Nl.length:Int) :=by omega
   have hj0:(0:Int)≤(j:Int) :=by omega
   have hx :=List.getElem?_eq_getElem hkl
   have hxm :=List.getElem_mem hkl
   generalize Nl[j] = x at hx hxm
   have hro :=getElem?_map_some (f :=VC.c .own) hx
   have hrs :=getElem?_map_some (f :=VC.c .shr) hx
   simp only [VC.c] at hro hrs
   have hL:Nl.length + 1 < 4294967296 :=by omega
   have hw3:VNe.w ⟨Nc,Nl ++ [x],Nf⟩≤210000 :=by
    have :=chg_w g (l :=Nl ++ [x]) (fun c hc =>by
     rcases List.mem_append.1 hc with hc | hc
     ·exact hmem c hc
     ·rw [List.mem_singleton.1 hc]; exact hmem x hxm) (by simp; omega)
    unfold VNe.w; simp only; omega
   refine ⟨m,⟨Nc,Nl ++ [x],Nf⟩,[.p (.int .i64 Nc),.sl .own 9 ((Nl ++ [x]).map (VC.c .shr)),.p (.int .i64 Nf)],gm.w,hw3,by simp only [VNe.c,borRow,rA,seval,rowsShrC],eVi Try.func19 rfl ?_⟩
   simp only [rA,seval,e19,e28,e30,e48,e8,Try.f19,VBook.c,VBook.m,VMi.c,VWa.c,VW.c,VNe.c,rdC,zB,nilM,List.cons_append,List.nil_append,List.map_nil,List.length_map,rowsShr,rowsShrC,rwO,rwC,rwT,rwS,rowsBy,h28,h48,hk1,w1,h8,hk2,hk3,v0,v1,hl0,hkl,hji,hj0,hro,hrs,hL,LIM,VC.c,List.map_append,List.map_cons]
  ·skip
   refine ⟨m,⟨Nc,Nl,Nf⟩,_,gm.w,hNn,(rowBookNews _).1,eVi Try.func19 rfl ?_⟩
   simp only [rA,seval,e19,e28,e30,e48,e8,Try.f19,VBook.c,VBook.m,VMi.c,VWa.c,VW.c,VNe.c,rdC,zB,nilM,List.cons_append,List.nil_append,List.map_nil,List.length_map,rowsShr,rowsShrC,rwO,rwC,rwT,rwS,rowsBy,h28,h48,hk1,w1,h8,hk2,hk3,v0,v1,hl0]
 by_cases v2:v = 2
 ·by_cases hl0:(0:Int) < (Nl.length:Int)
  ·have ek:k2 = (k2.toNat:Int) :=by omega
   rw [ek] at hk2
   have hkl:k2.toNat < Nl.length :=by omega
   generalize k2.toNat = j at *
   have hji:(j:Int) < (Nl.length:Int) :=by omega
   have hj0:(0:Int)≤(j:Int) :=by omega
   have hx :=List.getElem?_eq_getElem hkl
   have hxm :=List.getElem_mem hkl
   generalize Nl[j] = x at hx hxm
   have hro :=getElem?_map_some (f :=VC.c .own) hx
   have hs :=(List.map_set (f :=VC.c .own) (l :=Nl) (i :=j) (a :=⟨x.version,!x.gone,x.object⟩)).symm
   simp only [VC.c] at hro hs
   have hw3:VNe.w ⟨Nc,Nl.set j ⟨x.version,!x.gone,x.object⟩,Nf⟩≤210000 :=by
    have h1 :=sum_chg (l :=Nl.set j ⟨x.version,!x.gone,x.object⟩) (all_set (fun c hc =>g.hist c (hmem c hc)) (g.hist x (hmem x hxm)))
    unfold VNe.w wSBookChange; simp only [List.length_set] at h1 ⊢; omega
   refine ⟨m,⟨Nc,Nl.set j ⟨x.version,!x.gone,x.object⟩,Nf⟩,_,gm.w,hw3,(rowBookNews _).1,eVi Try.func19 rfl ?_⟩
   simp only [rA,seval,e19,e28,e30,e48,e8,Try.f19,VBook.c,VBook.m,VMi.c,VWa.c,VW.c,VNe.c,rdC,zB,nilM,List.cons_append,List.nil_append,List.map_nil,List.length_map,rowsShr,rowsShrC,rwO,rwC,rwT,rwS,rowsBy,h28,h48,hk1,w1,h8,hk2,hk3,v0,v1,v2,hl0,hkl,hji,hj0,hro,hs,VC.c]
  ·skip
   refine ⟨m,⟨Nc,Nl,Nf⟩,_,gm.w,hNn,(rowBookNews _).1,eVi Try.func19 rfl ?_⟩
   simp only [rA,seval,e19,e28,e30,e48,e8,Try.f19,VBook.c,VBook.m,VMi.c,VWa.c,VW.c,VNe.c,rdC,zB,nilM,List.cons_append,List.nil_append,List.map_nil,List.length_map,rowsShr,rowsShrC,rwO,rwC,rwT,rwS,rowsBy,h28,h48,hk1,w1,h8,hk2,hk3,v0,v1,v2,hl0]
 by_cases v3:v = 3
 ·obtain ⟨k4,⟨k4a,k4b⟩,hk4⟩ :=k30 hbs (p + 1 + 1 + 1) (by omega) 4
  have w4 :=wrap64 (n :=m.at_ + k4) (by omega) (by omega)
  simp only [rdC] at hk4
  refine ⟨⟨m.kind,m.prefix_,m.at_ + k4,m.objects,m.seen⟩,⟨Nc,Nl,Nf⟩,_,gm.w,hNn,(rowBookNews _).1,eVi Try.func19 rfl ?_⟩
  simp only [rA,seval,e19,e28,e30,e48,e8,Try.f19,VBook.c,VBook.m,VMi.c,VWa.c,VW.c,VNe.c,rdC,zB,nilM,List.cons_append,List.nil_append,List.map_nil,List.length_map,rowsShr,rowsShrC,rwO,rwC,rwT,rwS,rowsBy,h28,h48,hk1,w1,h8,hk2,hk3,v0,v1,v2,v3,hk4,w4]
 by_cases v4:v = 4
 ·obtain ⟨k4,⟨k4a,k4b⟩,hk4⟩ :=k30 hbs (p + 1 + 1 + 1) (by omega) 3
  simp only [rdC] at hk4
  refine ⟨m,⟨k4,Nl,Nf⟩,_,gm.w,hNn,(rowBookNews _).1,eVi Try.func19 rfl ?_⟩
  simp only [rA,seval,e19,e28,e30,e48,e8,Try.f19,VBook.c,VBook.m,VMi.c,VWa.c,VW.c,VNe.c,rdC,zB,nilM,List.cons_append,List.nil_append,List.map_nil,List.length_map,rowsShr,rowsShrC,rwO,rwC,rwT,rwS,rowsBy,h28,h48,hk1,w1,h8,hk2,hk3,v0,v1,v2,v3,v4,hk4]
 refine ⟨m,⟨Nc,Nl,Nf⟩,_,gm.w,hNn,(rowBookNews _).1,eVi Try.func19 rfl ?_⟩
 simp only [rA,seval,e19,e28,e30,e48,e8,Try.f19,VBook.c,VBook.m,VMi.c,VWa.c,VW.c,VNe.c,rdC,zB,nilM,List.cons_append,List.nil_append,List.map_nil,List.length_map,rowsShr,rowsShrC,rwO,rwC,rwT,rwS,rowsBy,h28,h48,hk1,w1,h8,hk2,hk3,v0,v1,v2,v3,v4]
theorem k22 (m:VMi) (hw:m.w≤4194304):EV Try.prog E 22 [.val 0 true (m.c .shr),.val 0 true (m.c .shr)] = some ⟨[(false,[.p (.bool true)])],[]⟩ :=by
 refine eVi Try.func22 rfl ?_
 have hl:m.objects.length≤4194304 :=by unfold VMi.w wSBookObject at hw; omega
 have ho:∀ x ∈ m.objects,x.holds.length≤4194304 :=fun x hx =>by
  have :=wSBookObject_mem hx
  exact holds_le (n :=4194304) (by unfold VMi.w wSBookObject at hw; omega)
 have h18 :=k18 m.objects hl ho
 simp only [rA,seval,e22,e18,Try.f22,VMi.c,h18,rwO]
theorem tk_at (m:VMi) (c:VC):m.at_≤(tk m c).at_∧c.version≤(tk m c).at_ :=by
 unfold tk
 split
 ·exact ⟨Int.le_refl _,by assumption⟩
 ·simp only; omega
theorem tks_at:∀ (l:List VC) (m:VMi),m.at_≤(tks m l).at_∧∀ c ∈ l,c.version≤(tks m l).at_
 | [],m =>⟨Int.le_refl _,fun c h =>by cases h⟩
 | x :: l,m =>by
  obtain ⟨h1,h2⟩ :=tks_at l (tk m x)
  obtain ⟨h3,h4⟩ :=tk_at m x
  have e:tks m (x :: l) = tks (tk m x) l :=rfl
  rw [e]
  refine ⟨by omega,fun c hc =>?_⟩
  rcases List.mem_cons.1 hc with rfl | hc
  ·omega
  ·exact h2 c hc
theorem tks_id:∀ (l:List VC) (m:VMi),(∀ c ∈ l,c.version≤m.at_)→tks m l = m
 | [],m,_ =>rfl
 | x :: l,m,h =>by
  have e:tks m (x :: l) = tks (tk m x) l :=rfl
  have e2:tk m x = m :=by unfold tk; rw [if_pos (h x (by simp))]
  rw [e,e2]
  exact tks_id l m (fun c hc =>h c (by simp [hc]))
theorem take_refused {m:VMi} {n:VNe} (h:takeC m n ≠ 0):takeM m n = m :=by
 unfold takeC at h
 unfold takeM
 split
 ·rfl
 ·rename_i h1
  rw [if_neg h1] at h
  split
  ·rfl
  ·rename_i h2
   rw [if_neg h2] at h
   split
   ·rename_i h3
    rw [if_pos h3] at h
    exact absurd rfl h
   ·rfl
theorem take_twice {m:VMi} {n:VNe} (h:takeC m n = 0) (h2:takeC (takeM m n) n = 0):takeM (takeM m n) n = takeM m n :=by
 have hc:¬ n.code ≠ 0 :=by
  intro e
  unfold takeC at h
  rw [if_pos e] at h
  cases h
 have hf:¬ n.from_ < m.at_ :=by
  intro e
  unfold takeC at h
  rw [if_neg hc,if_pos e] at h
  cases h
 have hr:risF none n.changes = true :=by
  cases e:risF none n.changes
  ·unfold takeC at h
   rw [if_neg hc,if_neg hf,e] at h
   exact absurd h (by decide)
  ·rfl
 have e1:takeM m n = endT (tks m n.changes) n.from_ :=by unfold takeM; rw [if_neg hc,if_neg hf,if_pos hr]
 rw [e1] at h2 ⊢
 have hf2:¬ n.from_ < (endT (tks m n.changes) n.from_).at_ :=by
  intro e
  unfold takeC at h2
  rw [if_neg hc,if_pos e] at h2
  cases h2
 have e2:takeM (endT (tks m n.changes) n.from_) n = endT (tks (endT (tks m n.changes) n.from_) n.changes) n.from_ :=by
  conv =>lhs; unfold takeM
  rw [if_neg hc,if_neg hf2,if_pos hr]
 have ha:(endT (tks m n.changes) n.from_).at_ = max (tks m n.changes).at_ n.from_ :=rfl
 rw [e2,tks_id n.changes _ (fun c hc =>by
  have :=(tks_at n.changes m).2 c hc
  rw [ha]; omega)]
 show (⟨_,_,max (max (tks m n.changes).at_ n.from_) n.from_,_,_⟩:VMi) = _
 have:max (max (tks m n.changes).at_ n.from_) n.from_ = max (tks m n.changes).at_ n.from_ :=by omega
 rw [this]
 rfl
theorem mBor (m:VMi) (b:Bool):borRow (m.m b) = m.c .shr :=by
 simp only [VMi.m,VMi.c,borRow,rA,seval,rowsFl]
theorem law5 {l:List Int} (hl:l.length≤maxLen) (hb:∀ x ∈ l,0≤x∧x≤255):EV Try.prog E 5 [.val 0 false [.sl .shr 1 (l.map byC)]] = some ⟨[(false,[.p (.bool true)])],[]⟩ :=by
 refine eVi Try.func5 rfl ?_
 by_cases c1:(1048576:Int) < (l.length:Int)
 ·simp only [rA,seval,e5,Try.f5,c1,List.length_map,rowsBy]
 obtain ⟨m,n,cs,hm,hn,hcs,h19⟩ :=k19 (l :=l) (by omega) hb
 have h20 :=k20 m n (by omega)
 have h21 :=k21 m n (by omega)
 have hxw :=takeM_w m n
 have h22 :=k22 (takeM m n) (by omega)
 have hbr :=mBor (takeM m n) (takeB m n)
 generalize VMi.m (takeB m n) (takeM m n) = ms at *
 by_cases c2:takeC m n = 0
 case neg =>
  rw [take_refused c2] at h20 h22 hbr
  simp only [VMi.c,VNe.c] at h19 h20 h21 h22 hbr hcs
  simp only [rA,seval,e5,e19,e20,e21,e22,Try.f5,VMi.c,VNe.c,c1,c2,h19,h20,h21,h22,hbr,hcs,List.length_map,rowsBy,rwO,rwC]
 have h20b :=k20 (takeM m n) n (by omega)
 obtain ⟨z,o,most,hz,ho,hmost,h23⟩ :=k23 (l :=l) (by omega) hb
 have how :=ho.w
 have him:i64ok most :=by unfold i64ok; omega
 have h24 :=k24 z o most (by omega) him
 have h25 :=k25 z o most (by omega) him
 have h26 :=k26 z o (by omega)
 have h27 :=k27 z o (by omega) (by omega)
 have hsw:(mstM z o most).w≤4194304 :=by
  unfold mstM
  split
  ·have :=brel_w z o; omega
  ·have :=takeM_w o (nextB z (watchM o) most)
   have :=next_w z (watchM o) most
   omega
 have h22s :=k22 (mstM z o most) hsw
 have h22r :=k22 (brel z o) (by have :=brel_w z o; omega)
 have hbs :=mBor (mstM z o most) (mstF z o most)
 generalize VMi.m (mstF z o most) (mstM z o most) = ss at *
 generalize mstM z o most = sm at *
 generalize mstC z o most = sc at *
 generalize brel z o = br at *
 by_cases c3:takeC (takeM m n) n = 0
 ·rw [take_twice c2 c3,c3] at h20b
  rw [c2] at h20 h21
  generalize takeM m n = x at *
  simp only [VBook.c,VMi.c,VNe.c] at h19 h20 h21 h22 hbr hcs h20b h23 h24 h25 h26 h27 h22s h22r hbs
  simp only [rA,seval,e5,e19,e20,e21,e22,e23,e24,e25,e26,e27,Try.f5,VBook.c,VMi.c,VNe.c,c1,h19,h20,h21,h22,hbr,hcs,h20b,h23,h24,h25,h26,h27,h22s,h22r,hbs,List.length_map,rowsBy,rwO,rwC,rwT]
 ·rw [c2] at h20 h21
  generalize takeC (takeM m n) n = yc at *
  generalize takeM (takeM m n) n = yy at *
  generalize takeM m n = x at *
  simp only [VBook.c,VMi.c,VNe.c] at h19 h20 h21 h22 hbr hcs h20b h23 h24 h25 h26 h27 h22s h22r hbs
  simp only [rA,seval,e5,e19,e20,e21,e22,e23,e24,e25,e26,e27,Try.f5,VBook.c,VMi.c,VNe.c,c1,c3,h19,h20,h21,h22,hbr,hcs,h20b,h23,h24,h25,h26,h27,h22s,h22r,hbs,List.length_map,rowsBy,rwO,rwC,rwT]
end Go.Proofs.Ytgekblcbdhjmfaa
