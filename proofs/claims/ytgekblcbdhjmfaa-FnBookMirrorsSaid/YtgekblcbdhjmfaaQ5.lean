/- Draws: a book spoilt (written by a program). -/
import Derived.Test.YtgekblcbdhjmfaaQ4
import Derived.Test.YtgekblcbdhjmfaaQ2
import Derived.Test.YtgekblcbdhjmfaaQ1
import Derived.Test.YtgekblcbdhjmfaaD10e
import Derived.Test.YtgekblcbdhjmfaaQ3
namespace Go.Proofs.Ytgekblcbdhjmfaa
open Go.Sx
set_option maxRecDepth 100000
set_option maxHeartbeats 64000000
set_option linter.unusedVariables false
set_option linter.unusedSimpArgs false
def zS:VBook :=⟨0,0,[],[],[]⟩
def GH (y:VBook) (H:List VC):Prop :=H.length = y.history.length∧∀ c ∈ H,SoO c.object∧0≤c.version∧c.version≤1000001
def GO (y:VBook) (O:List VO):Prop :=O.length = y.objects.length∧∀ c ∈ O,SoO c
theorem GH.self {y:VBook} (g:DrB 1200 y):GH y y.history :=⟨rfl,(g.so (by omega)).hist⟩
theorem GO.self {y:VBook} (g:DrB 1200 y):GO y y.objects :=⟨rfl,(g.so (by omega)).objs⟩
theorem k61_19 {bs:List Int} {p:Nat} {y:VBook} {o h:Nat} (H:In61 bs p y o h 19):Out61 bs p y :=by
 have F :=H.f
 have B :=H.b
 have h1 :=H.h1
 have h2 :=H.h2
 have h3 :=H.h3
 have h38 :=H.k38
 have d :=H.g.so (by omega)
 obtain ⟨x,hrc,sm,xv⟩ :=H.his
 have sx :=sm.so
 obtain ⟨k0,q0,hk0⟩ :=H.pick (p + 1 + 1 + 1) (by omega) 2 2 rfl (by decide)
 have w2 :=wrap64 (n :=y.floor + k0) (by omega) (by omega)
 have key:∃ r,EV Try.prog E 61 [.box 0 0 (rdC bs p),.val 0 true (y.c .shr)] = some r∧∃ (hl:List VC) (ol:List VO),(GH y hl∧GO y ol)∧r = ⟨[(true,VBook.m2 ⟨y.now,y.floor,ol,hl,y.tickets⟩)],[rdC bs (p + 1 + 1 + 1 + 1)]⟩ :=by
  refine EV_introX Try.func61 rfl ?_
  simp only [rdC,VBook.c,VO.c,VC.c] at h1 h2 h3 h38 hk0 hrc
  simp only [rA,seval,e61,e30,e38,Try.f61,VBook.c,VBook.m2,VO.c,VC.c,rdC,zS,List.map_nil,List.length_map,h1,h2,h3,h38,hk0,w2,F,hrc,hk0,q0,w2,rwO,rwC,rwT,rwS,rowsShr,rowsShrC]
  generalize hX:blockO _ _ (itω _ _ _) = X
  have hw:∃ o,X = some o∧∃ hl,GH y hl∧o = .norm ⟨5,[(0,.box 0 0 (rdC bs (p + 1 + 1 + 1 + 1))),(4,.box 1 1 (zS.c .own)),(5,.box 2 2 (VBook.m2 ⟨y.now,y.floor,y.objects,hl,y.tickets⟩)),(8,.box 3 3 (VO.c .shr x.object)),(9,.val 4 false [.p (.int .i64 (y.floor + k0))])]⟩ :=by
   refine while_ex hX (fun (q:Nat × List VC) =>⟨6,[(0,.box 0 0 (rdC bs (p + 1 + 1 + 1 + 1))),(4,.box 1 1 (zS.c .own)),(5,.box 2 2 (VBook.m2 ⟨y.now,y.floor,y.objects,q.2,y.tickets⟩)),(8,.box 3 3 (VO.c .shr x.object)),(9,.val 4 false [.p (.int .i64 (y.floor + k0))]),(10,.val 5 false [.p (.int .i64 (q.1:Nat))])]⟩) (fun q =>q.1≤q.2.length∧GH y q.2) (fun o =>∃ hl,GH y hl∧o = .norm ⟨5,[(0,.box 0 0 (rdC bs (p + 1 + 1 + 1 + 1))),(4,.box 1 1 (zS.c .own)),(5,.box 2 2 (VBook.m2 ⟨y.now,y.floor,y.objects,hl,y.tickets⟩)),(8,.box 3 3 (VO.c .shr x.object)),(9,.val 4 false [.p (.int .i64 (y.floor + k0))])]⟩) (fun q =>3000 - q.1) ?_ (i :=(0,y.history)) ⟨Nat.zero_le _,GH.self H.g⟩ (by simp only [rA,seval,e61,VBook.c,VBook.m2,VO.c,VC.c,rdC,zS,List.map_nil,List.length_map] <;> rfl)
   rintro ⟨i,l⟩ ⟨g1,gl,gh⟩
   simp only at g1 gl gh
   by_cases hlt:(i:Int) < (l.length:Int)
   case neg =>
    right
    exact ⟨_,by simp only [rA,seval,e61,VBook.c,VBook.m2,VO.c,VC.c,rdC,zS,List.map_nil,List.length_map,hlt,rwO,rwC,rwT,rwS,rowsShr,rowsShrC],l,⟨gl,gh⟩,rfl⟩
   left
   have gl2:l.length≤2000 :=by omega
   have hil:i < l.length :=by omega
   have hi :=List.getElem?_eq_getElem hil
   have him :=List.getElem_mem hil
   generalize l[i] = c at hi him
   have hr :=getElem?_map_some (f :=VC.c .shr) hi
   have hi0:(0:Int)≤(i:Int) :=by omega
   have hwi :=wrap64 (n :=(i:Int) + 1) (by omega) (by omega)
   have h66 :=k66 c.object x.object
   have hs :=(List.map_set (f :=VC.c .shr) (l :=l) (i :=i) (a :=⟨c.version,c.gone,⟨c.object.kind,c.object.name,c.object.version,y.floor + k0,c.object.text,c.object.ending,c.object.holds⟩⟩)).symm
   simp only [VO.c,VC.c] at hr h66 hs
   have gc :=gh c him
   by_cases hk:keyO c.object x.object = 0
   ·refine ⟨(i + 1,l.set i ⟨c.version,c.gone,⟨c.object.kind,c.object.name,c.object.version,y.floor + k0,c.object.text,c.object.ending,c.object.holds⟩⟩),?_,⟨by simp; omega,by simpa using gl,all_set gh ⟨⟨gc.1.kind,gc.1.name,gc.1.text,gc.1.holds,gc.1.hold,gc.1.v0,gc.1.v1⟩,gc.2.1,gc.2.2⟩⟩,by simp only; omega⟩
    simp only [rA,seval,e61,e66,VBook.c,VBook.m2,VO.c,VC.c,rdC,zS,List.map_nil,List.length_map,hlt,hil,hr,hi0,hwi,h66,hk,hs,rwO,rwC,rwT,rwS,rowsShr,rowsShrC,i64c]
   ·refine ⟨(i + 1,l),?_,⟨by simp only; omega,gl,gh⟩,by simp only; omega⟩
    simp only [rA,seval,e61,e66,VBook.c,VBook.m2,VO.c,VC.c,rdC,zS,List.map_nil,List.length_map,hlt,hil,hr,hi0,hwi,h66,hk,rwO,rwC,rwT,rwS,rowsShr,rowsShrC,i64c]
  obtain ⟨o,ho,hl,gH,rfl⟩ :=hw
  rw [ho]
  clear ho hX X
  simp only [rA,seval,e61,VBook.c,VBook.m2,VO.c,VC.c,rdC,zS,List.map_nil,List.length_map,rwO,rwC,rwT,rwS,rowsShr,rowsShrC]
  generalize hX:blockO _ _ (itω _ _ _) = X
  have hw:∃ o,X = some o∧∃ ol,GO y ol∧o = .norm ⟨3,[(0,.box 0 0 (rdC bs (p + 1 + 1 + 1 + 1))),(4,.box 1 1 (zS.c .own)),(5,.box 2 2 (VBook.m2 ⟨y.now,y.floor,ol,hl,y.tickets⟩))]⟩ :=by
   refine while_ex hX (fun (q:Nat × List VO) =>⟨6,[(0,.box 0 0 (rdC bs (p + 1 + 1 + 1 + 1))),(4,.box 1 1 (zS.c .own)),(5,.box 2 2 (VBook.m2 ⟨y.now,y.floor,q.2,hl,y.tickets⟩)),(8,.box 3 3 (VO.c .shr x.object)),(9,.val 4 false [.p (.int .i64 (y.floor + k0))]),(11,.val 5 false [.p (.int .i64 (q.1:Nat))])]⟩) (fun q =>q.1≤q.2.length∧GO y q.2) (fun o =>∃ ol,GO y ol∧o = .norm ⟨3,[(0,.box 0 0 (rdC bs (p + 1 + 1 + 1 + 1))),(4,.box 1 1 (zS.c .own)),(5,.box 2 2 (VBook.m2 ⟨y.now,y.floor,ol,hl,y.tickets⟩))]⟩) (fun q =>3000 - q.1) ?_ (i :=(0,y.objects)) ⟨Nat.zero_le _,GO.self H.g⟩ (by simp only [rA,seval,e61,VBook.c,VBook.m2,VO.c,VC.c,rdC,zS,List.map_nil,List.length_map] <;> rfl)
   rintro ⟨i,l⟩ ⟨g1,gl,gh⟩
   simp only at g1 gl gh
   by_cases hlt:(i:Int) < (l.length:Int)
   case neg =>
    right
    exact ⟨_,by simp only [rA,seval,e61,VBook.c,VBook.m2,VO.c,VC.c,rdC,zS,List.map_nil,List.length_map,hlt,rwO,rwC,rwT,rwS,rowsShr,rowsShrC],l,⟨gl,gh⟩,rfl⟩
   left
   have gl2:l.length≤2000 :=by omega
   have hil:i < l.length :=by omega
   have hi :=List.getElem?_eq_getElem hil
   have him :=List.getElem_mem hil
   generalize l[i] = c at hi him
   have hr :=getElem?_map_some (f :=VO.c .shr) hi
   have hi0:(0:Int)≤(i:Int) :=by omega
   have hwi :=wrap64 (n :=(i:Int) + 1) (by omega) (by omega)
   have h66 :=k66 c x.object
   have hs :=(List.map_set (f :=VO.c .shr) (l :=l) (i :=i) (a :=⟨c.kind,c.name,c.version,y.floor + k0,c.text,c.ending,c.holds⟩)).symm
   simp only [VO.c,VC.c] at hr h66 hs
   have gc :=gh c him
   by_cases hk:keyO c x.object = 0
   ·refine ⟨(i + 1,l.set i ⟨c.kind,c.name,c.version,y.floor + k0,c.text,c.ending,c.holds⟩),?_,⟨by simp; omega,by simpa using gl,all_set gh ⟨gc.kind,gc.name,gc.text,gc.holds,gc.hold,gc.v0,gc.v1⟩⟩,by simp only; omega⟩
    simp only [rA,seval,e61,e66,VBook.c,VBook.m2,VO.c,VC.c,rdC,zS,List.map_nil,List.length_map,hlt,hil,hr,hi0,hwi,h66,hk,hs,rwO,rwC,rwT,rwS,rowsShr,rowsShrC,i64c]
   ·refine ⟨(i + 1,l),?_,⟨by simp only; omega,gl,gh⟩,by simp only; omega⟩
    simp only [rA,seval,e61,e66,VBook.c,VBook.m2,VO.c,VC.c,rdC,zS,List.map_nil,List.length_map,hlt,hil,hr,hi0,hwi,h66,hk,rwO,rwC,rwT,rwS,rowsShr,rowsShrC,i64c]
  obtain ⟨o,ho,ol,gO,rfl⟩ :=hw
  rw [ho]
  clear ho hX X
  refine ⟨_,?_,hl,ol,⟨gH,gO⟩,rfl⟩
  simp only [rA,seval,e61,VBook.c,VBook.m2,VO.c,VC.c,rdC,zS,List.map_nil,List.length_map,rwO,rwC,rwT,rwS,rowsShr,rowsShrC]
 obtain ⟨r,e1,hl,ol,⟨gH,gO⟩,rfl⟩ :=key
 refine ⟨⟨y.now,y.floor,ol,hl,y.tickets⟩,_,_,⟨d.lo,d.hi,d.f0,d.f1,gO.2,by have :=d.ol; have :=gO.1; show ol.length≤2001; omega,gH.2,by have :=d.hl; have :=gH.1; show hl.length≤200; omega,d.tick,d.tl⟩,by omega,by omega,?_,e1⟩
 simp only [VBook.m2,VBook.c,borRow,rA,seval,rowsShr,rowsShrC,rwT]
theorem k61 {bs:List Int} (hb:Bytes bs) (p:Nat) (hp:p≤600000) (y:VBook) (g:DrB 1200 y):∃ (z:VBook) (p':Nat) (cs:List C),DrS z∧p≤p'∧p'≤p + 20∧borRow cs = z.c .shr∧EV Try.prog E 61 [.box 0 0 (rdC bs p),.val 0 true (y.c .shr)] = some ⟨[(true,cs)],[rdC bs p']⟩ :=by
 obtain ⟨ko,⟨koa,kob⟩,h1⟩ :=k30 hb p (by omega) (y.objects.length:Int)
 obtain ⟨kh,⟨kha,khb⟩,h2⟩ :=k30 hb (p + 1) (by omega) (y.history.length:Int)
 have e1:ko = (ko.toNat:Int) :=by omega
 have e2:kh = (kh.toNat:Int) :=by omega
 rw [e1] at h1
 rw [e2] at h2
 by_cases c1:0 < y.objects.length∧0 < y.history.length
 case neg =>
  have hyw :=g.w (by omega)
  have h38 :=k38 y (by omega)
  refine ⟨⟨1,0,[],[],[]⟩,p + 1 + 1,_,⟨by decide,by decide,by decide,by decide,(fun _ h =>by cases h),Nat.zero_le _,(fun _ h =>by cases h),Nat.zero_le _,(fun _ h =>by cases h),Nat.zero_le _⟩,by omega,by omega,(rowBook _).1,eVi Try.func61 rfl ?_⟩
  simp only [rdC,VBook.c] at h1 h2 h38
  by_cases c2:(y.objects.length:Int) = 0
  ·have c2' :=eq_true c2
   simp only [rA,seval,e61,e30,e38,Try.f61,VBook.c,rdC,h1,h2,h38,c2',List.length_map,List.map_nil,rwO,rwC,rwT]
  ·have c3:(y.history.length:Int) = 0 :=by omega
   have c3' :=eq_true c3
   simp only [rA,seval,e61,e30,e38,Try.f61,VBook.c,rdC,h1,h2,h38,c2,c3',List.length_map,List.map_nil,rwO,rwC,rwT]
 have ho:ko.toNat < y.objects.length :=by omega
 have hh:kh.toNat < y.history.length :=by omega
 obtain ⟨v,⟨va,vb⟩,h3⟩ :=k30 hb (p + 1 + 1) (by omega) 20
 have H:In61 bs p y ko.toNat kh.toNat v :=⟨hb,hp,g,ho,hh,h1,h2,h3⟩
 by_cases c100:v = 0
 ·subst c100
  exact k61_0 H
 by_cases c101:v = 1
 ·subst c101
  exact k61_1 H
 by_cases c102:v = 2
 ·subst c102
  exact k61_2 H
 by_cases c103:v = 3
 ·subst c103
  exact k61_3 H
 by_cases c104:v = 4
 ·subst c104
  exact k61_4 H
 by_cases c105:v = 5
 ·subst c105
  exact k61_5 H
 by_cases c106:v = 6
 ·subst c106
  exact k61_6 H
 by_cases c107:v = 7
 ·subst c107
  exact k61_7 H
 by_cases c108:v = 8
 ·subst c108
  exact k61_8 H
 by_cases c109:v = 9
 ·subst c109
  exact k61_9 H
 by_cases c110:v = 10
 ·subst c110
  exact k61_10 H
 by_cases c111:v = 11
 ·subst c111
  exact k61_11 H
 by_cases c112:v = 12
 ·subst c112
  exact k61_12 H
 by_cases c113:v = 13
 ·subst c113
  exact k61_13 H
 by_cases c114:v = 14
 ·subst c114
  exact k61_14 H
 by_cases c115:v = 15
 ·subst c115
  exact k61_15 H
 by_cases c116:v = 16
 ·subst c116
  exact k61_16 H
 by_cases c118:v = 18
 ·subst c118
  by_cases hl:(1:Int) < (y.objects.length:Int)
  ·exact k61_18b H hl
  ·exact k61_18a H hl
 by_cases c119:v = 19
 ·subst c119
  exact k61_19 H
 exact k61_17 H ⟨c118,c119,c100,c101,c102,c103,c104,c105,c106,c107,c108,c109,c110,c111,c112,c113,c114,c115,c116⟩
def preB (n p:ByteArray):Bool :=decide ((p.size:Int)≤(n.size:Int)) && decide (n.extract 0 p.size = p)
def looksB (k p:ByteArray) (o:VO):Bool :=(decide (k = ⟨#[]⟩) || decide (o.kind = k)) && preB o.name p
theorem k82 (n p:ByteArray):EV Try.prog E 82 [.val 0 false [.p (.string n)],.val 0 false [.p (.string p)]] = some ⟨[(false,[.p (.bool (preB n p))])],[]⟩ :=by
 refine eVi Try.func82 rfl ?_
 unfold preB
 by_cases h:(p.size:Int)≤(n.size:Int)
 ·have h2:p.size≤n.size :=by omega
  have h3:(0:Int)≤(p.size:Int) :=by omega
  simp only [rA,seval,e82,Try.f82,h,h2,h3,Nat.zero_le]
 ·simp only [rA,seval,e82,Try.f82,h]
theorem k58 (n p:ByteArray):EV Try.prog E 58 [.val 0 false [.p (.string n)],.val 0 false [.p (.string p)]] = some ⟨[(false,[.p (.bool (preB n p))])],[]⟩ :=by
 refine eVi Try.func58 rfl ?_
 have h :=k82 n p
 simp only [rA,seval,e58,e82,Try.f58,h]
theorem k31 (o:VO) (k p:ByteArray):EV Try.prog E 31 [.val 0 true (VO.c .shr o),.val 0 false [.p (.string k)],.val 0 false [.p (.string p)]] = some ⟨[(false,[.p (.bool (looksB k p o))])],[]⟩ :=by
 refine eVi Try.func31 rfl ?_
 have h :=k58 o.name p
 unfold looksB
 by_cases c1:k = ⟨#[]⟩
 ·have c1' :=eq_true c1
  simp only [rA,seval,e31,e58,Try.f31,VO.c,c1',h]
 by_cases c2:o.kind = k
 ·have c2' :=eq_true c2
  simp only [rA,seval,e31,e58,Try.f31,VO.c,c1,c2',h]
 ·simp only [rA,seval,e31,e58,Try.f31,VO.c,c1,c2,h]
theorem k59 (o:VO) (k p:ByteArray):EV Try.prog E 59 [.val 0 true (VO.c .shr o),.val 0 false [.p (.string k)],.val 0 false [.p (.string p)]] = some ⟨[(false,[.p (.bool (looksB k p o))])],[]⟩ :=by
 refine eVi Try.func59 rfl ?_
 unfold looksB preB
 by_cases h:(p.size:Int)≤(o.name.size:Int)
 ·have h2:p.size≤o.name.size :=by omega
  have h3:(0:Int)≤(p.size:Int) :=by omega
  by_cases c1:k = ⟨#[]⟩
  ·have c1' :=eq_true c1
   simp only [rA,seval,e59,Try.f59,VO.c,c1',h,h2,h3,Nat.zero_le]
  by_cases c2:o.kind = k
  ·have c2' :=eq_true c2
   simp only [rA,seval,e59,Try.f59,VO.c,c1,c2',h,h2,h3,Nat.zero_le]
  ·simp only [rA,seval,e59,Try.f59,VO.c,c1,c2,h]
 ·by_cases c1:k = ⟨#[]⟩
  ·have c1' :=eq_true c1
   simp only [rA,seval,e59,Try.f59,VO.c,c1',h]
  by_cases c2:o.kind = k
  ·have c2' :=eq_true c2
   simp only [rA,seval,e59,Try.f59,VO.c,c1,c2',h]
  ·simp only [rA,seval,e59,Try.f59,VO.c,c1,c2,h]
def lst (k p:ByteArray) (l:List VO):List VO :=l.filter (looksB k p)
theorem lst_snoc {l:List VO} {i:Nat} {x:VO} (k p:ByteArray) (h:l[i]? = some x):lst k p (l.take (i + 1)) = if looksB k p x = true then lst k p (l.take i) ++ [x] else lst k p (l.take i) :=by
 rw [take_snoc h,lst,List.filter_append]
 by_cases d:looksB k p x = true
 ·rw [if_pos d]; simp [lst,d]
 ·rw [if_neg d]; simp [lst,d]
theorem lst_len (k p:ByteArray) (l:List VO) (i:Nat):(lst k p (l.take i)).length≤l.length :=by
 unfold lst
 exact Nat.le_trans (List.length_filter_le _ _) (by rw [List.length_take]; omega)
theorem k81 (l:List VO) (k p:ByteArray) (hw:sumWBookObject l + l.length≤4194304):EV Try.prog E 81 [.val 0 false [.sl .shr 7 (l.map (VO.c .shr))],.val 0 false [.p (.string k)],.val 0 false [.p (.string p)]] =
  some ⟨[(false,[.sl .own 7 ((lst k p l).map (VO.c .own))])],[]⟩ :=by
 refine eVi Try.func81 rfl ?_
 simp only [rA,seval,e81,Try.f81]
 rw [for_block l (fun i (_:Unit) =>⟨5,[(0,.val 0 false [.sl .shr 7 (l.map (VO.c .shr))]),(1,.val 1 false [.p (.string k)]),(2,.val 2 false [.p (.string p)]),(7,.val 3 false [.sl .own 7 ((lst k p (l.take i)).map (VO.c .own))]),(8,.val 4 false [.p (.int .i64 i)])]⟩) (fun i _ =>True)
  (fun r i a =>.norm ⟨1,[(7,.val 0 false [.sl .own 7 ((lst k p l).map (VO.c .own))])]⟩) ?_ ?_ (a :=()) trivial (by simp only [rA,seval,e81,lst,List.take_zero,List.filter_nil,List.map_nil] <;> rfl)]
 ·simp only [rA,seval,e81,rwO]
 ·intro i x r a hd hi _
  have hlen :=(List.getElem?_eq_some_iff.1 hi).1
  have hlt:((i:Int) < (l.length:Int)) :=by omega
  have hr :=getElem?_map_some (f :=VO.c .shr) hi
  have hi0:(0:Int)≤(i:Int) :=by omega
  have hwi :=wrap64 (n :=(i:Int) + 1) (by omega) (by omega)
  have hxw :=sum_obj_le (List.mem_of_getElem? hi)
  have hxl:x.holds.length≤4194304 :=holds_le (n :=4194304) (by omega)
  have h1 :=k59 x k p
  have h2 :=k53 x hxl
  have hll :=lst_len k p l i
  have hs :=lst_snoc k p hi
  simp only [VO.c] at h1 h2 hr
  left
  refine ⟨(),?_,trivial,rfl⟩
  have hL1:(lst k p (l.take i)).length + 1 < 4294967296 :=by omega
  cases d:looksB k p x
  ·rw [if_neg (by rw [d]; simp)] at hs
   rw [d] at h1
   simp only [rA,seval,e81,e59,e53,VO.c,hlt,hr,hi0,hwi,h1,hs,i64c]
  ·rw [if_pos d] at hs
   rw [d] at h1
   simp only [rA,seval,e81,e59,e53,VO.c,hlt,hr,hi0,hwi,h1,h2,hs,i64c,LIM,hL1,rwO,rwS,List.map_append,List.map_cons,List.map_nil]
 ·intro a _
  simp only [rA,seval,e81,List.take_length]
def blist (b:VBook) (k p:ByteArray):List VO :=if implB b = true then lst k p b.objects else []
def bnow (b:VBook):Int :=if implB b = true then b.now else 0
theorem k57 (b:VBook) (k p:ByteArray) (hw:b.w≤4194304):EV Try.prog E 57 [.val 0 true (b.c .shr),.val 0 false [.p (.string k)],.val 0 false [.p (.string p)]] =
  some ⟨[(false,[.sl .own 7 ((blist b k p).map (VO.c .own))]),(false,[.p (.int .i64 (bnow b))])],[]⟩ :=by
 refine eVi Try.func57 rfl ?_
 have h1 :=kS b hw
 have h2 :=k81 b.objects k p (obj_sum hw)
 simp only [VBook.c] at h1
 unfold blist bnow
 cases d:implB b
 ·rw [d] at h1
  simp only [rA,seval,e57,e16,Try.f57,VBook.c,h1,List.map_nil]
 ·rw [d] at h1
  simp only [rA,seval,e57,e16,e81,Try.f57,VBook.c,h1,h2,rwO]
theorem k56 (b:VBook) (k p:ByteArray) (hw:b.w≤4194304):EV Try.prog E 56 [.val 0 true (b.c .shr),.val 0 false [.p (.string k)],.val 0 false [.p (.string p)]] =
  some ⟨[(false,[.sl .own 7 ((blist b k p).map (VO.c .own))]),(false,[.p (.int .i64 (bnow b))])],[]⟩ :=by
 refine eVi Try.func56 rfl ?_
 have h1 :=k17 b hw
 have hos :=obj_sum hw
 simp only [VBook.c] at h1
 unfold blist bnow
 cases d:implB b
 ·rw [d] at h1
  simp only [rA,seval,e56,e17,Try.f56,VBook.c,h1,List.map_nil]
 rw [d] at h1
 simp only [rA,seval,e56,e17,Try.f56,VBook.c,h1]
 rw [for_block b.objects (fun i (_:Unit) =>⟨7,[(1,.val 0 false [.p (.string k)]),(2,.val 1 false [.p (.string p)]),(3,.box 2 2 (b.c .shr)),(8,.val 3 false [.sl .own 7 ((lst k p (b.objects.take i)).map (VO.c .own))]),(15,.val 4 false [.sl .shr 7 (b.objects.map (VO.c .shr))]),(16,.val 5 false [.p (.int .i64 b.objects.length)]),(17,.val 6 false [.p (.int .i64 i)])]⟩) (fun i _ =>True)
  (fun r i a =>.norm ⟨2,[(3,.box 0 0 (b.c .shr)),(8,.val 1 false [.sl .own 7 ((lst k p b.objects).map (VO.c .own))])]⟩) ?_ ?_ (a :=()) trivial (by simp only [rA,seval,e56,VBook.c,lst,List.take_zero,List.filter_nil,List.map_nil] <;> rfl)]
 ·simp only [rA,seval,e56,VBook.c,rwO]
 ·intro i x r a hd hi _
  have hlen :=(List.getElem?_eq_some_iff.1 hi).1
  have hlt:((i:Int) < (b.objects.length:Int)) :=by omega
  have hr :=getElem?_map_some (f :=VO.c .shr) hi
  have hi0:(0:Int)≤(i:Int) :=by omega
  have hwi :=wrap64 (n :=(i:Int) + 1) (by omega) (by omega)
  have hxl :=object_le hw (List.mem_of_getElem? hi)
  have h2 :=k31 x k p
  have h3 :=k32 x hxl
  have hll :=lst_len k p b.objects i
  have hs :=lst_snoc k p hi
  simp only [VO.c] at h2 h3 hr
  left
  refine ⟨(),?_,trivial,rfl⟩
  have hL1:(lst k p (b.objects.take i)).length + 1 < 4294967296 :=by omega
  cases e:looksB k p x
  ·rw [if_neg (by rw [e]; simp)] at hs
   rw [e] at h2
   simp only [rA,seval,e56,e31,e32,VBook.c,VO.c,hlt,hr,hi0,hwi,h2,hs,i64c]
  ·rw [if_pos e] at hs
   rw [e] at h2
   simp only [rA,seval,e56,e31,e32,VBook.c,VO.c,hlt,hr,hi0,hwi,h2,h3,hs,i64c,LIM,hL1,rwO,rwS,List.map_append,List.map_cons,List.map_nil]
 ·intro a _
  simp only [rA,seval,e56,VBook.c,List.take_length]
def passB (w:VWa) (c:VC):Bool :=!decide (c.version≤w.from_) && looksB w.kind w.prefix_ c.object
def lastV (l:List VC):Int :=match l[l.length - 1]? with
 | some c =>c.version
 | none =>0
def nxt (w:VWa) (most:Int):List VC→List VC→List VC × Option Int
 | [],acc =>(acc,none)
 | c :: r,acc =>if passB w c = true then (if (acc.length:Int) = most then (acc,some (lastV acc)) else nxt w most r (acc ++ [c])) else nxt w most r acc
def nilN:VNe :=⟨0,[],0⟩
theorem k33 (b:VBook) (w:VWa) (most:Int) (hw:b.w≤4194304) (hm:i64ok most):EV Try.prog E 33 [.val 0 true (b.c .shr),.val 0 true (w.c),.val 0 false [.p (.int .i64 most)]] =
  some ⟨[(true,(if most < 1∨¬ (inR w.from_ 0 b.now = true) then ⟨1,[],0⟩ else if w.from_ < b.floor then ⟨2,[],0⟩ else ⟨0,(nxt w most b.history []).1,(nxt w most b.history []).2.getD b.now⟩:VNe).c .own)],[]⟩ :=by
 refine eVi Try.func33 rfl ?_
 have h75 :=k39 w.from_ 0 b.now
 have hhl:b.history.length≤4194304 :=by unfold VBook.w wSBookChange at hw; omega
 by_cases c1:most < 1
 ·rw [if_pos (.inl c1)]
  simp only [rA,seval,e33,Try.f33,VBook.c,VWa.c,VNe.c,c1,List.map_nil]
 cases c2:inR w.from_ 0 b.now
 ·rw [if_pos (.inr (by simp))]
  rw [c2] at h75
  simp only [rA,seval,e33,e39,Try.f33,VBook.c,VWa.c,VNe.c,c1,h75,List.map_nil]
 rw [c2] at h75
 rw [if_neg (by simp; omega)]
 by_cases c3:w.from_ < b.floor
 ·rw [if_pos c3]
  simp only [rA,seval,e33,e39,Try.f33,VBook.c,VWa.c,VNe.c,c1,h75,c3,List.map_nil]
 rw [if_neg c3]
 simp only [rA,seval,e33,e39,Try.f33,VBook.c,VWa.c,VNe.c,c1,h75,c3]
 rw [for_block b.history (fun i (acc:List VC) =>⟨6,[(2,.val 0 false [.p (.int .i64 most)]),(3,.box 1 1 (b.c .shr)),(4,.box 2 2 w.c),(6,.box 3 3 (nilN.c .own)),(7,.box 4 4 ((⟨0,acc,b.now⟩:VNe).c .own)),(8,.val 5 false [.p (.int .i64 i)])]⟩) (fun i acc =>acc.length≤i)
  (fun r i acc =>match (nxt w most r acc).2 with
   | none =>.norm ⟨2,[(6,.box 0 0 (nilN.c .own)),(7,.box 1 1 ((⟨0,(nxt w most r acc).1,b.now⟩:VNe).c .own))]⟩
   | some v =>.ret ⟨[(true,(⟨0,(nxt w most r acc).1,v⟩:VNe).c .own)],[]⟩) ?_ ?_ (a :=[]) (Nat.zero_le _) (by simp only [rA,seval,e33,VBook.c,VWa.c,VNe.c,nilN,List.map_nil] <;> rfl)]
 ·cases h:(nxt w most b.history []).2 with
  | none =>simp only [rA,seval,e33,VNe.c,nilN,rwC,Option.getD_none,List.map_nil]
  | some v =>simp only [rA,seval,e33,VNe.c,Option.getD_some]
 ·intro i x r acc hd hi hacc
  have hlen :=(List.getElem?_eq_some_iff.1 hi).1
  have hlt:((i:Int) < (b.history.length:Int)) :=by omega
  have hr :=getElem?_map_some (f :=VC.c .shr) hi
  have hi0:(0:Int)≤(i:Int) :=by omega
  have hwi :=wrap64 (n :=(i:Int) + 1) (by omega) (by omega)
  have hxl :=change_le hw (List.mem_of_getElem? hi)
  have h1 :=k59 x.object w.kind w.prefix_
  have h2 :=k53 x.object hxl
  simp only [VO.c,VC.c] at h1 h2 hr
  by_cases d1:x.version≤w.from_
  ·left
   have hn:nxt w most (x :: r) acc = nxt w most r acc :=by
    rw [nxt,if_neg]; unfold passB; rw [decide_eq_true d1]; simp
   refine ⟨acc,?_,by omega,by rw [hn]⟩
   simp only [rA,seval,e33,VBook.c,VWa.c,VNe.c,VC.c,VO.c,nilN,List.map_nil,hlt,hr,hi0,hwi,d1,i64c]
  cases d2:looksB w.kind w.prefix_ x.object
  ·left
   have hn:nxt w most (x :: r) acc = nxt w most r acc :=by
    rw [nxt,if_neg]; unfold passB; rw [d2]; simp
   refine ⟨acc,?_,by omega,by rw [hn]⟩
   rw [d2] at h1
   simp only [rA,seval,e33,e59,VBook.c,VWa.c,VNe.c,VC.c,VO.c,nilN,List.map_nil,hlt,hr,hi0,hwi,d1,h1,i64c]
  rw [d2] at h1
  have hp:passB w x = true :=by unfold passB; rw [decide_eq_false d1,d2]; rfl
  by_cases d3:(acc.length:Int) = most
  ·have hn:nxt w most (x :: r) acc = (acc,some (lastV acc)) :=by rw [nxt,if_pos hp,if_pos d3]
   have hz:acc[acc.length - 1]? = some (acc[acc.length - 1]'(by omega)) :=List.getElem?_eq_getElem (by omega)
   have hv:lastV acc = (acc[acc.length - 1]'(by omega)).version :=by unfold lastV; rw [hz]
   generalize acc[acc.length - 1]'(by omega) = z at hz hv
   have hrz :=getElem?_map_some (f :=VC.c .own) hz
   have hwm:IntKind.i64.wrap (most - 1) = ((acc.length - 1:Nat):Int) :=by rw [wrap64 (by omega) (by omega)]; omega
   have hm0:(0:Int)≤((acc.length - 1:Nat):Int) :=by omega
   have hm1:acc.length - 1 < acc.length :=by omega
   simp only [VC.c] at hrz
   right
   rw [hn,hv]
   simp only [rA,seval,e33,e59,VBook.c,VWa.c,VNe.c,VC.c,VO.c,nilN,List.map_nil,hlt,hr,hi0,d1,h1,d3,hwm,hm0,hm1,hrz,rwC,rwO,rwS]
  ·left
   have hn:nxt w most (x :: r) acc = nxt w most r (acc ++ [x]) :=by rw [nxt,if_pos hp,if_neg d3]
   refine ⟨acc ++ [x],?_,by rw [List.length_append]; simp; omega,by rw [hn]⟩
   have hL:acc.length + 1 < 4294967296 :=by omega
   simp only [rA,seval,e33,e59,e53,VBook.c,VWa.c,VNe.c,VC.c,VO.c,nilN,List.map_nil,hlt,hr,hi0,hwi,d1,h1,h2,d3,hL,LIM,rwC,rwO,rwS,List.map_append,List.map_cons,i64c]
 ·intro a _
  simp only [rA,seval,e33,VBook.c,VWa.c,VNe.c,nxt,nilN]
def nextB (b:VBook) (w:VWa) (most:Int):VNe :=if implB b = true then (if most < 1∨¬ (inR w.from_ 0 b.now = true) then ⟨1,[],0⟩ else if w.from_ < b.floor then ⟨2,[],0⟩ else ⟨0,(nxt w most b.history []).1,(nxt w most b.history []).2.getD b.now⟩) else ⟨1,[],0⟩
theorem k8 (b:VBook) (w:VWa) (most:Int) (hw:b.w≤4194304) (hm:i64ok most):EV Try.prog E 8 [.val 0 true (b.c .shr),.val 0 true (w.c),.val 0 false [.p (.int .i64 most)]] = some ⟨[(true,(nextB b w most).c .own)],[]⟩ :=by
 refine eVi Try.func8 rfl ?_
 have h1 :=kS b hw
 have h2 :=k33 b w most hw hm
 unfold nextB
 cases d:implB b
 ·rw [d] at h1
  simp only [VBook.c] at h1
  simp only [rA,seval,e8,e16,Try.f8,VBook.c,VWa.c,VNe.c,h1,List.map_nil]
 ·rw [d] at h1
  rw [if_pos rfl]
  generalize (if most < 1∨¬ (inR w.from_ 0 b.now = true) then ⟨1,[],0⟩ else if w.from_ < b.floor then ⟨2,[],0⟩ else ⟨0,(nxt w most b.history []).1,(nxt w most b.history []).2.getD b.now⟩:VNe) = y at *
  simp only [VBook.c,VWa.c,VNe.c] at h1 h2
  simp only [rA,seval,e8,e16,e33,Try.f8,VBook.c,VWa.c,VNe.c,h1,h2,rwC]
theorem k7 (b:VBook) (w:VWa) (most:Int) (hw:b.w≤4194304) (hm:i64ok most):EV Try.prog E 7 [.val 0 true (b.c .shr),.val 0 true (w.c),.val 0 false [.p (.int .i64 most)]] = some ⟨[(true,(nextB b w most).c .own)],[]⟩ :=by
 refine eVi Try.func7 rfl ?_
 have h0 :=k17 b hw
 have hhl:b.history.length≤4194304 :=by unfold VBook.w wSBookChange at hw; omega
 simp only [VBook.c] at h0
 have one:most < 1∨w.from_ < 0∨implB b = false∨b.now < w.from_→nextB b w most = ⟨1,[],0⟩ :=by
  unfold nextB inR
  intro h
  cases d:implB b
  ·rfl
  ·rw [if_pos rfl,if_pos]
   rcases h with h | h | h | h
   ·exact .inl h
   ·right; simp; omega
   ·rw [d] at h; cases h
   ·right; simp; omega
 by_cases c1:most < 1
 ·rw [one (.inl c1)]
  simp only [rA,seval,e7,Try.f7,VBook.c,VWa.c,VNe.c,c1,List.map_nil]
 by_cases c2:w.from_ < 0
 ·rw [one (.inr (.inl c2))]
  simp only [rA,seval,e7,Try.f7,VBook.c,VWa.c,VNe.c,c1,c2,List.map_nil]
 cases d:implB b
 ·rw [one (.inr (.inr (.inl d)))]
  rw [d] at h0
  simp only [rA,seval,e7,e17,Try.f7,VBook.c,VWa.c,VNe.c,c1,c2,h0,List.map_nil]
 rw [d] at h0
 by_cases c3:b.now < w.from_
 ·rw [one (.inr (.inr (.inr c3)))]
  simp only [rA,seval,e7,e17,Try.f7,VBook.c,VWa.c,VNe.c,c1,c2,h0,c3,List.map_nil]
 have hnb:nextB b w most = if w.from_ < b.floor then ⟨2,[],0⟩ else ⟨0,(nxt w most b.history []).1,(nxt w most b.history []).2.getD b.now⟩ :=by
  unfold nextB
  rw [if_pos d,if_neg]
  unfold inR
  simp
  omega
 rw [hnb]
 by_cases c4:w.from_ < b.floor
 ·rw [if_pos c4]
  simp only [rA,seval,e7,e17,Try.f7,VBook.c,VWa.c,VNe.c,c1,c2,h0,c3,c4,List.map_nil]
 rw [if_neg c4]
 simp only [rA,seval,e7,e17,Try.f7,VBook.c,VWa.c,VNe.c,c1,c2,h0,c3,c4]
 rw [for_block b.history (fun i (acc:List VC) =>⟨8,[(2,.val 0 false [.p (.int .i64 most)]),(3,.box 1 1 (b.c .shr)),(4,.box 2 2 w.c),(6,.box 3 3 (nilN.c .own)),(7,.box 4 4 ((⟨0,acc,b.now⟩:VNe).c .own)),(40,.val 5 false [.sl .shr 9 (b.history.map (VC.c .shr))]),(41,.val 6 false [.p (.int .i64 b.history.length)]),(42,.val 7 false [.p (.int .i64 i)])]⟩) (fun i acc =>acc.length≤i)
  (fun r i acc =>.norm ⟨2,[(6,.box 0 0 (nilN.c .own)),(7,.box 1 1 ((⟨0,(nxt w most r acc).1,(nxt w most r acc).2.getD b.now⟩:VNe).c .own))]⟩) ?_ ?_ (a :=[]) (Nat.zero_le _) (by simp only [rA,seval,e7,VBook.c,VWa.c,VNe.c,nilN,List.map_nil] <;> rfl)]
 ·simp only [rA,seval,e7,VNe.c,nilN,rwC,List.map_nil]
 ·intro i x r acc hd hi hacc
  have hlen :=(List.getElem?_eq_some_iff.1 hi).1
  have hlt:((i:Int) < (b.history.length:Int)) :=by omega
  have hr :=getElem?_map_some (f :=VC.c .shr) hi
  have hi0:(0:Int)≤(i:Int) :=by omega
  have hwi :=wrap64 (n :=(i:Int) + 1) (by omega) (by omega)
  have hxl :=change_le hw (List.mem_of_getElem? hi)
  have h1 :=k31 x.object w.kind w.prefix_
  have h2 :=k32 x.object hxl
  simp only [VO.c,VC.c] at h1 h2 hr
  by_cases d1:x.version≤w.from_
  ·left
   have hn:nxt w most (x :: r) acc = nxt w most r acc :=by
    rw [nxt,if_neg]; unfold passB; rw [decide_eq_true d1]; simp
   refine ⟨acc,?_,by omega,by rw [hn]⟩
   simp only [rA,seval,e7,VBook.c,VWa.c,VNe.c,VC.c,VO.c,nilN,List.map_nil,hlt,hr,hi0,hwi,d1,i64c]
  cases d2:looksB w.kind w.prefix_ x.object
  ·left
   have hn:nxt w most (x :: r) acc = nxt w most r acc :=by
    rw [nxt,if_neg]; unfold passB; rw [d2]; simp
   refine ⟨acc,?_,by omega,by rw [hn]⟩
   rw [d2] at h1
   simp only [rA,seval,e7,e31,VBook.c,VWa.c,VNe.c,VC.c,VO.c,nilN,List.map_nil,hlt,hr,hi0,hwi,d1,h1,i64c]
  rw [d2] at h1
  have hp:passB w x = true :=by unfold passB; rw [decide_eq_false d1,d2]; rfl
  by_cases d3:(acc.length:Int) = most
  ·have hn:nxt w most (x :: r) acc = (acc,some (lastV acc)) :=by rw [nxt,if_pos hp,if_pos d3]
   have hz:acc[acc.length - 1]? = some (acc[acc.length - 1]'(by omega)) :=List.getElem?_eq_getElem (by omega)
   have hv:lastV acc = (acc[acc.length - 1]'(by omega)).version :=by unfold lastV; rw [hz]
   generalize acc[acc.length - 1]'(by omega) = z at hz hv
   have hrz :=getElem?_map_some (f :=VC.c .own) hz
   have hwm:IntKind.i64.wrap (most - 1) = ((acc.length - 1:Nat):Int) :=by rw [wrap64 (by omega) (by omega)]; omega
   have hm0:(0:Int)≤((acc.length - 1:Nat):Int) :=by omega
   have hm1:acc.length - 1 < acc.length :=by omega
   simp only [VC.c] at hrz
   right
   rw [hn,hv]
   simp only [Option.getD_some]
   simp only [rA,seval,e7,e31,VBook.c,VWa.c,VNe.c,VC.c,VO.c,nilN,List.map_nil,hlt,hr,hi0,d1,h1,d3,hwm,hm0,hm1,hrz,rwC,rwO,rwS]
  ·left
   have hn:nxt w most (x :: r) acc = nxt w most r (acc ++ [x]) :=by rw [nxt,if_pos hp,if_neg d3]
   refine ⟨acc ++ [x],?_,by rw [List.length_append]; simp; omega,by rw [hn]⟩
   have hL:acc.length + 1 < 4294967296 :=by omega
   simp only [rA,seval,e7,e31,e32,VBook.c,VWa.c,VNe.c,VC.c,VO.c,nilN,List.map_nil,hlt,hr,hi0,hwi,d1,h1,h2,d3,hL,LIM,rwC,rwO,rwS,List.map_append,List.map_cons,i64c]
 ·intro a _
  simp only [rA,seval,e7,VBook.c,VWa.c,VNe.c,nxt,nilN,Option.getD_none]
theorem k34 (x:VO) (hl:x.holds.length≤4194304):EV Try.prog E 34 [.val 0 true (VO.c .shr x),.val 0 true (VO.c .shr x)] = some ⟨[(false,[.p (.bool true)])],[]⟩ :=by
 refine eVi Try.func34 rfl ?_
 simp only [rA,seval,e34,Try.f34,VO.c,rwS,beq_self_eq_true]
 rw [for_block x.holds (fun i (_:Unit) =>⟨3,[(2,.box 0 0 (x.c .shr)),(3,.box 1 1 (x.c .shr)),(5,.val 2 false [.p (.int .i64 i)])]⟩) (fun _ _ =>True) (fun _ _ _ =>.norm ⟨0,[]⟩) ?_ ?_ (a :=()) trivial (by simp only [rA,seval,e34,VO.c] <;> rfl)]
 ·simp only [rA,seval,e34]
 ·intro i s r a hd hi _
  left
  have hlen :=(List.getElem?_eq_some_iff.1 hi).1
  have hlt:(i:Int) < (x.holds.length:Int) :=by omega
  have hr :=getElem?_map_some (f :=strC) hi
  have hi0:(0:Int)≤(i:Int) :=by omega
  have hwi :=wrap64 (n :=(i:Int) + 1) (by omega) (by omega)
  refine ⟨(),?_,trivial,rfl⟩
  simp only [strC] at hr
  simp only [rA,seval,e34,VO.c,hlt,hlen,hr,hi0,hwi,rwS,i64c]
 ·intro a _
  simp only [rA,seval,e34,VO.c,rwS]
theorem k11 (x:VC) (hl:x.object.holds.length≤4194304):EV Try.prog E 11 [.val 0 true (VC.c .shr x),.val 0 true (VC.c .shr x)] = some ⟨[(false,[.p (.bool true)])],[]⟩ :=by
 refine eVi Try.func11 rfl ?_
 have h :=k34 x.object hl
 simp only [VO.c] at h
 simp only [rA,seval,e11,e34,Try.f11,VC.c,h,rwS,beq_self_eq_true]
theorem k18 (l:List VO) (hll:l.length≤4194304) (hl:∀ x ∈ l,x.holds.length≤4194304):EV Try.prog E 18 [.val 0 false [.sl .shr 7 (l.map (VO.c .shr))],.val 0 false [.sl .shr 7 (l.map (VO.c .shr))]] = some ⟨[(false,[.p (.bool true)])],[]⟩ :=by
 refine eVi Try.func18 rfl ?_
 simp only [rA,seval,e18,Try.f18,rwO]
 rw [for_block l (fun i (_:Unit) =>⟨3,[(0,.val 0 false [.sl .shr 7 (l.map (VO.c .shr))]),(1,.val 1 false [.sl .shr 7 (l.map (VO.c .shr))]),(5,.val 2 false [.p (.int .i64 i)])]⟩) (fun _ _ =>True) (fun _ _ _ =>.norm ⟨0,[]⟩) ?_ ?_ (a :=()) trivial (by simp only [rA,seval,e18] <;> rfl)]
 ·simp only [rA,seval,e18]
 ·intro i s r a hd hi _
  left
  have hlen :=(List.getElem?_eq_some_iff.1 hi).1
  have hlt:(i:Int) < (l.length:Int) :=by omega
  have hr :=getElem?_map_some (f :=VO.c .shr) hi
  have hi0:(0:Int)≤(i:Int) :=by omega
  have hwi :=wrap64 (n :=(i:Int) + 1) (by omega) (by omega)
  have h :=k34 s (hl s (List.mem_of_getElem? hi))
  refine ⟨(),?_,trivial,rfl⟩
  simp only [VO.c] at hr h
  simp only [rA,seval,e18,e34,VO.c,hlt,hlen,hr,hi0,hwi,h,rwO,rwS,i64c]
 ·intro a _
  simp only [rA,seval,e18,rwO]
theorem k9 (l:List VC) (hll:l.length≤4194304) (hl:∀ x ∈ l,x.object.holds.length≤4194304):EV Try.prog E 9 [.val 0 false [.sl .shr 9 (l.map (VC.c .shr))],.val 0 false [.sl .shr 9 (l.map (VC.c .shr))]] = some ⟨[(false,[.p (.bool true)])],[]⟩ :=by
 refine eVi Try.func9 rfl ?_
 simp only [rA,seval,e9,Try.f9,rwC]
 rw [for_block l (fun i (_:Unit) =>⟨3,[(0,.val 0 false [.sl .shr 9 (l.map (VC.c .shr))]),(1,.val 1 false [.sl .shr 9 (l.map (VC.c .shr))]),(5,.val 2 false [.p (.int .i64 i)])]⟩) (fun _ _ =>True) (fun _ _ _ =>.norm ⟨0,[]⟩) ?_ ?_ (a :=()) trivial (by simp only [rA,seval,e9] <;> rfl)]
 ·simp only [rA,seval,e9]
 ·intro i s r a hd hi _
  left
  have hlen :=(List.getElem?_eq_some_iff.1 hi).1
  have hlt:(i:Int) < (l.length:Int) :=by omega
  have hr :=getElem?_map_some (f :=VC.c .shr) hi
  have hi0:(0:Int)≤(i:Int) :=by omega
  have hwi :=wrap64 (n :=(i:Int) + 1) (by omega) (by omega)
  have h :=k11 s (hl s (List.mem_of_getElem? hi))
  refine ⟨(),?_,trivial,rfl⟩
  simp only [VC.c] at hr h
  simp only [rA,seval,e9,e11,VC.c,hlt,hlen,hr,hi0,hwi,h,rwC,rwS,i64c]
 ·intro a _
  simp only [rA,seval,e9,rwC]
theorem k14 (b:VBook) (hw:b.w≤4194304) (ho:∀ x ∈ b.objects,x.holds.length≤4194304) (hh:∀ x ∈ b.history,x.object.holds.length≤4194304):EV Try.prog E 14 [.val 0 true (b.c .shr),.val 0 true (b.c .shr)] = some ⟨[(false,[.p (.bool true)])],[]⟩ :=by
 refine eVi Try.func14 rfl ?_
 have h1:b.objects.length≤4194304 :=by unfold VBook.w wSBookObject at hw; omega
 have h2:b.history.length≤4194304 :=by unfold VBook.w wSBookChange at hw; omega
 have h3:b.tickets.length≤4194304 :=by unfold VBook.w wSBookTicket at hw; omega
 have h18 :=k18 b.objects h1 ho
 have h9 :=k9 b.history h2 hh
 simp only [rA,seval,e14,e18,e9,Try.f14,VBook.c,h18,h9,rwO,rwC,rwT,List.length_map]
 rw [for_block b.tickets (fun i (_:Unit) =>⟨3,[(2,.box 0 0 (b.c .shr)),(3,.box 1 1 (b.c .shr)),(5,.val 2 false [.p (.int .i64 i)])]⟩) (fun _ _ =>True) (fun _ _ _ =>.norm ⟨0,[]⟩) ?_ ?_ (a :=()) trivial (by simp only [rA,seval,e14,VBook.c] <;> rfl)]
 ·simp only [rA,seval,e14]
 ·intro i s r a hd hi _
  left
  have hlen :=(List.getElem?_eq_some_iff.1 hi).1
  have hlt:(i:Int) < (b.tickets.length:Int) :=by omega
  have hr :=getElem?_map_some (f :=VT.c) hi
  have hi0:(0:Int)≤(i:Int) :=by omega
  have hwi :=wrap64 (n :=(i:Int) + 1) (by omega) (by omega)
  refine ⟨(),?_,trivial,rfl⟩
  simp only [VT.c] at hr
  simp only [rA,seval,e14,VBook.c,VT.c,hlt,hlen,hr,hi0,hwi,rwO,rwC,rwT,i64c,List.length_map]
 ·intro a _
  simp only [rA,seval,e14,VBook.c,rwO,rwC,rwT,List.length_map]
end Go.Proofs.Ytgekblcbdhjmfaa
