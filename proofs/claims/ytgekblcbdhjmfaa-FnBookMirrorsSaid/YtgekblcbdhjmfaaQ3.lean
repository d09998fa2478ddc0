/- What BookValid's functions compute: the specification's history. -/
import Derived.Test.YtgekblcbdhjmfaaQ1
import Derived.Sort.Walk0
namespace Go.Proofs.Ytgekblcbdhjmfaa
open Go.Sx
set_option maxRecDepth 100000
set_option maxHeartbeats 8000000
set_option linter.unusedVariables false
set_option linter.unusedSimpArgs false
def lastO (h:List VC) (o:VO):Nat→Option VC
 | 0 =>none
 | n + 1 =>match h[n]? with
  | some c =>if keyO c.object o = 0 then some c else lastO h o n
  | none =>none
theorem last_cases (h:List VC) (o:VO):∀ n,n≤h.length→(lastF h o n = -1∧lastO h o n = none)∨∃ j c,lastF h o n = ((j:Nat):Int)∧j < n∧h[j]? = some c∧keyO c.object o = 0∧lastO h o n = some c
 | 0,_ =>.inl ⟨rfl,rfl⟩
 | n + 1,hn =>by
  have hj:h[n]? = some (h[n]'(by omega)) :=List.getElem?_eq_getElem (by omega)
  generalize h[n]'(by omega) = c at hj
  by_cases d:keyO c.object o = 0
  ·exact .inr ⟨n,c,by simp [lastF,hj,d],by omega,hj,d,by simp [lastO,hj,d]⟩
  ·have e1:lastF h o (n + 1) = lastF h o n :=by simp [lastF,hj,d]
   have e2:lastO h o (n + 1) = lastO h o n :=by simp [lastO,hj,d]
   rw [e1,e2]
   rcases last_cases h o n (by omega) with h1 | ⟨j,c,h1,h2,h3,h4,h5⟩
   ·exact .inl h1
   ·exact .inr ⟨j,c,h1,by omega,h3,h4,h5⟩
def endS (c:VC):Bool :=if c.gone = true then c.object.ending && (decide ((c.object.holds.length:Int) = 0) && !decide (c.object.born = c.object.version)) else !(c.object.ending && decide ((c.object.holds.length:Int) = 0))
def lastOk (b:VBook) (i:Nat) (c:VC):Bool :=match lastO b.history c.object i with
 | none =>creaB c || decide (c.object.born≤b.floor)
 | some d =>(creaB c == d.gone) && (creaB c || decide (c.object.born = d.object.born))
def hist1 (b:VBook) (i:Nat) (c:VC):Bool :=decide (c.version = b.floor + 1 + i) && (decide (c.object.version = c.version) && (partsB c.object b.now && (endS c && lastOk b i c)))
def hist1F (b:VBook):Nat→List VC→Bool
 | _,[] =>true
 | i,c :: r =>hist1 b i c && hist1F b (i + 1) r
def hist2 (b:VBook) (o:VO):Bool :=match lastO b.history o b.history.length with
 | none =>decide (o.version≤b.floor)
 | some d =>!d.gone && sameB d.object o
def hist3 (b:VBook) (i:Nat) (c:VC):Bool :=!decide (lastF b.history c.object b.history.length = (i:Int)) || (c.gone || (bfind b.objects c.object.kind c.object.name).2)
def hist3F (b:VBook):Nat→List VC→Bool
 | _,[] =>true
 | i,c :: r =>hist3 b i c && hist3F b (i + 1) r
theorem beqB:(false == false) = true∧(false == true) = false∧(true == false) = false∧(true == true) = true :=⟨rfl,rfl,rfl,rfl⟩
theorem change_le {b:VBook} {c:VC} (hw:b.w≤4194304) (h:c ∈ b.history):c.object.holds.length≤4194304 :=by
 have :=wSBookChange_mem h
 exact holds_le (n :=4194304) (by unfold VC.w at this; unfold VBook.w wSBookChange at hw; omega)
theorem object_le {b:VBook} {c:VO} (hw:b.w≤4194304) (h:c ∈ b.objects):c.holds.length≤4194304 :=by
 have :=wSBookObject_mem h
 exact holds_le (n :=4194304) (by unfold VBook.w wSBookObject at hw; omega)
theorem k41 (b:VBook) (hw:b.w≤4194304) (hf0:0≤b.floor) (hf1:b.floor≤b.now) (hf2:b.now≤1000000):EV Try.prog E 41 [.val 0 true (b.c .shr)] =
  some ⟨[(false,[.p (.bool (decide ((b.history.length:Int)≤200) && (decide ((b.history.length:Int) = b.now - b.floor) && (hist1F b 0 b.history && (b.objects.all (hist2 b) && hist3F b 0 b.history)))))])],[]⟩ :=by
 refine eVi Try.func41 rfl ?_
 have hll:b.objects.length≤4194304 :=by unfold VBook.w wSBookObject at hw; omega
 have hhl:b.history.length≤4194304 :=by unfold VBook.w wSBookChange at hw; omega
 by_cases c0:(200:Int) < (b.history.length:Int)
 ·have c0':¬ (b.history.length:Int)≤200 :=by omega
  simp only [rA,seval,e41,Try.f41,VBook.c,c0,c0']
 have c0':(b.history.length:Int)≤200 :=by omega
 have hwf :=wrap64 (n :=b.now - b.floor) (by omega) (by omega)
 by_cases c1:(b.history.length:Int) = b.now - b.floor
 case neg =>simp only [rA,seval,e41,Try.f41,VBook.c,c0,c0',hwf,c1]
 have c1' :=eq_true c1
 simp only [rA,seval,e41,Try.f41,VBook.c,c0,c0',hwf,c1']
 rw [for_block b.history (fun i (_:Unit) =>⟨2,[(1,.box 0 0 (b.c .shr)),(3,.val 1 false [.p (.int .i64 i)])]⟩) (fun i _ =>True)
  (fun r i a =>if hist1F b i r = true then .norm ⟨1,[(1,.box 0 0 (b.c .shr))]⟩ else .ret ⟨[(false,[.p (.bool false)])],[]⟩) ?_ ?_ (a :=()) trivial (by simp only [rA,seval,e41,VBook.c] <;> rfl)]
 ·cases e1:hist1F b 0 b.history
  ·simp only [rA,seval,e41,e1]
  simp only [rA,seval,e41,VBook.c,e1]
  rw [for_block b.objects (fun i (_:Unit) =>⟨2,[(1,.box 0 0 (b.c .shr)),(7,.val 1 false [.p (.int .i64 i)])]⟩) (fun i _ =>True)
   (fun r i a =>if r.all (hist2 b) = true then .norm ⟨1,[(1,.box 0 0 (b.c .shr))]⟩ else .ret ⟨[(false,[.p (.bool false)])],[]⟩) ?_ ?_ (a :=()) trivial (by simp only [rA,seval,e41,VBook.c] <;> rfl)]
  ·cases e2:b.objects.all (hist2 b)
   ·simp only [rA,seval,e41,e2]
   simp only [rA,seval,e41,VBook.c,e2]
   rw [for_block b.history (fun i (_:Unit) =>⟨2,[(1,.box 0 0 (b.c .shr)),(9,.val 1 false [.p (.int .i64 i)])]⟩) (fun i _ =>True)
    (fun r i a =>if hist3F b i r = true then .norm ⟨0,[]⟩ else .ret ⟨[(false,[.p (.bool false)])],[]⟩) ?_ ?_ (a :=()) trivial (by simp only [rA,seval,e41,VBook.c] <;> rfl)]
   ·cases e3:hist3F b 0 b.history
    ·simp only [rA,seval,e41,e3]
    ·simp only [rA,seval,e41,e3]
   ·intro i x r a hd hi _
    have hlen :=(List.getElem?_eq_some_iff.1 hi).1
    have hlt:((i:Int) < (b.history.length:Int)) :=by omega
    have hr :=getElem?_map_some (f :=VC.c .shr) hi
    have hi0:(0:Int)≤(i:Int) :=by omega
    have hwi :=wrap64 (n :=(i:Int) + 1) (by omega) (by omega)
    have h2 :=k67 b.history x.object b.history.length (Nat.le_refl _) hhl
    have h4 :=k70 b x.object.kind x.object.name hw
    simp only [VBook.c,VO.c,VC.c] at h2 hr h4
    have hE:hist3F b i (x :: r) = (hist3 b i x && hist3F b (i + 1) r) :=rfl
    unfold hist3 at hE
    by_cases d1:lastF b.history x.object b.history.length = (i:Int)
    case neg =>
     left
     simp only [d1,decide_false,Bool.not_false,Bool.true_or,Bool.true_and] at hE
     refine ⟨(),?_,trivial,by rw [hE]⟩
     simp only [rA,seval,e41,e67,VBook.c,VC.c,VO.c,hlt,hr,hi0,h2,d1,hwi,i64c]
    rw [d1] at h2
    have gg:∃ g,x.gone = g :=⟨_,rfl⟩
    obtain ⟨g,gg⟩ :=gg
    simp only [gg] at hr
    cases g
    ·cases d2:(bfind b.objects x.object.kind x.object.name).2
     ·right
      rw [d2] at h4
      simp only [d1,decide_true,Bool.not_true,Bool.false_or,gg,d2,Bool.false_and] at hE
      simp only [rA,seval,e41,e67,e70,VBook.c,VC.c,VO.c,hlt,hr,hi0,h2,h4,hE,rwS]
     ·left
      rw [d2] at h4
      simp only [d1,decide_true,Bool.not_true,Bool.false_or,gg,d2,Bool.true_and] at hE
      refine ⟨(),?_,trivial,by rw [hE]⟩
      simp only [rA,seval,e41,e67,e70,VBook.c,VC.c,VO.c,hlt,hr,hi0,h2,h4,hwi,i64c,rwS]
    ·left
     simp only [d1,decide_true,Bool.not_true,Bool.false_or,gg,Bool.true_or,Bool.true_and] at hE
     refine ⟨(),?_,trivial,by rw [hE]⟩
     simp only [rA,seval,e41,e67,VBook.c,VC.c,VO.c,hlt,hr,hi0,h2,hwi,i64c]
   ·intro a _
    simp only [rA,seval,e41,VBook.c,hist3F]
  ·intro i x r a hd hi _
   have hlen :=(List.getElem?_eq_some_iff.1 hi).1
   have hlt:((i:Int) < (b.objects.length:Int)) :=by omega
   have hr :=getElem?_map_some (f :=VO.c .shr) hi
   have hi0:(0:Int)≤(i:Int) :=by omega
   have hwi :=wrap64 (n :=(i:Int) + 1) (by omega) (by omega)
   have h2 :=k67 b.history x b.history.length (Nat.le_refl _) hhl
   have hxl :=object_le hw (List.mem_of_getElem? hi)
   simp only [VO.c,VC.c] at h2 hr
   have hE:(x :: r).all (hist2 b) = (hist2 b x && r.all (hist2 b)) :=by rw [List.all_cons]
   rcases last_cases b.history x b.history.length (Nat.le_refl _) with ⟨l1,l2⟩ | ⟨j,q,l1,l2,l3,l4,l5⟩
   ·rw [l1] at h2
    have hH:hist2 b x = decide (x.version≤b.floor) :=by unfold hist2; rw [l2]
    rw [hH] at hE
    by_cases d:x.version≤b.floor
    ·left
     have d':¬ b.floor < x.version :=by omega
     simp only [d,decide_true,Bool.true_and] at hE
     refine ⟨(),?_,trivial,by rw [hE]⟩
     simp only [rA,seval,e41,e67,VBook.c,VC.c,VO.c,hlt,hr,hi0,h2,d',hwi,i64c]
    ·right
     have d':b.floor < x.version :=by omega
     simp only [d,decide_false,Bool.false_and] at hE
     simp only [rA,seval,e41,e67,VBook.c,VC.c,VO.c,hlt,hr,hi0,h2,d',hE]
   ·rw [l1] at h2
    have hH:hist2 b x = (!q.gone && sameB q.object x) :=by unfold hist2; rw [l5]
    rw [hH] at hE
    have hrj :=getElem?_map_some (f :=VC.c .shr) l3
    have hj0:(0:Int)≤(j:Int) :=by omega
    have hj1:¬ ((j:Int) < 0) :=by omega
    have hql :=change_le hw (List.mem_of_getElem? l3)
    have h5 :=k69 q.object x hql hxl
    have qq:∃ z,q.gone = z :=⟨_,rfl⟩
    obtain ⟨z,qq⟩ :=qq
    simp only [VC.c,VO.c,qq] at hrj h5
    rw [qq] at hE
    cases z
    ·cases d:sameB q.object x
     ·right
      rw [d] at h5 hE
      simp only [Bool.not_false,Bool.and_false,Bool.false_and] at hE
      simp only [rA,seval,e41,e67,e69,VBook.c,VC.c,VO.c,hlt,hr,hi0,h2,h5,hrj,hj0,hj1,hE]
     ·left
      rw [d] at h5 hE
      simp only [Bool.not_false,Bool.and_true,Bool.true_and] at hE
      refine ⟨(),?_,trivial,by rw [hE]⟩
      simp only [rA,seval,e41,e67,e69,VBook.c,VC.c,VO.c,hlt,hr,hi0,h2,h5,hrj,hj0,hj1,hwi,i64c]
    ·right
     simp only [Bool.not_true,Bool.false_and] at hE
     simp only [rA,seval,e41,e67,e69,VBook.c,VC.c,VO.c,hlt,hr,hi0,h2,h5,hrj,hj0,hj1,hE]
  ·intro a _
   simp only [rA,seval,e41,VBook.c,List.all_nil]
 ·intro i x r a hd hi _
  have hlen :=(List.getElem?_eq_some_iff.1 hi).1
  have hlt:((i:Int) < (b.history.length:Int)) :=by omega
  have hr :=getElem?_map_some (f :=VC.c .shr) hi
  have hi0:(0:Int)≤(i:Int) :=by omega
  have hwi :=wrap64 (n :=(i:Int) + 1) (by omega) (by omega)
  have hw1 :=wrap64 (n :=b.floor + 1) (by omega) (by omega)
  have hw2 :=wrap64 (n :=b.floor + 1 + i) (by omega) (by omega)
  have hxl :=change_le hw (List.mem_of_getElem? hi)
  have h1 :=k65 x.object b.now hxl
  have h2 :=k67 b.history x.object i (by omega) hhl
  have h3 :=k68 x
  simp only [VO.c,VC.c] at h1 h2 h3 hr
  by_cases d1:x.version = b.floor + 1 + i
  case neg =>
   right
   have hF:hist1F b i (x :: r) = false :=by simp [hist1F,hist1,d1]
   simp only [rA,seval,e41,e65,VBook.c,VC.c,VO.c,hlt,hr,hi0,hw1,hw2,d1,hF]
  have d1' :=eq_true d1
  by_cases d2:x.object.version = x.version
  case neg =>
   right
   have hF:hist1F b i (x :: r) = false :=by simp [hist1F,hist1,d2]
   simp only [rA,seval,e41,e65,VBook.c,VC.c,VO.c,hlt,hr,hi0,hw1,hw2,d1',d2,hF]
  have d2' :=eq_true d2
  cases d3:partsB x.object b.now
  ·right
   have hF:hist1F b i (x :: r) = false :=by simp [hist1F,hist1,d3]
   rw [d3] at h1
   simp only [rA,seval,e41,e65,VBook.c,VC.c,VO.c,hlt,hr,hi0,hw1,hw2,d1',d2',h1,hF]
  rw [d3] at h1
  have hE:hist1F b i (x :: r) = ((endS x && lastOk b i x) && hist1F b (i + 1) r) :=by simp [hist1F,hist1,d1,d2,d3]
  have ee:∃ g e,x.gone = g∧x.object.ending = e :=⟨_,_,rfl,rfl⟩
  obtain ⟨g,e,eg,ee⟩ :=ee
  simp only [eg,ee] at h1 h2 h3 hr
  cases d4:endS x
  ·right
   rw [d4,Bool.false_and,Bool.false_and] at hE
   unfold endS at d4
   rw [eg,ee] at d4
   cases g
   ·cases e
    ·simp at d4
    ·by_cases d5:(x.object.holds.length:Int) = 0
     ·simp only [rA,seval,e41,e65,VBook.c,VC.c,VO.c,hlt,hr,hi0,hw1,hw2,d1',d2',h1,hE,d5]
     ·rw [decide_eq_false d5] at d4
      simp at d4
   ·cases e
    ·simp only [rA,seval,e41,e65,VBook.c,VC.c,VO.c,hlt,hr,hi0,hw1,hw2,d1',d2',h1,hE]
    ·by_cases d5:(x.object.holds.length:Int) = 0
     ·by_cases d6:x.object.born = x.object.version
      ·have d6' :=eq_true d6
       have d7:¬ (0:Int) < (x.object.holds.length:Int) :=by omega
       simp only [rA,seval,e41,e65,VBook.c,VC.c,VO.c,hlt,hr,hi0,hw1,hw2,d1',d2',h1,hE,d7,d6']
      ·rw [decide_eq_true d5,decide_eq_false d6] at d4
       simp at d4
     ·have d7:(0:Int) < (x.object.holds.length:Int) :=by omega
      simp only [rA,seval,e41,e65,VBook.c,VC.c,VO.c,hlt,hr,hi0,hw1,hw2,d1',d2',h1,hE,d7]
  have EE:g = false∧e = false∧True∨g = false∧e = true∧¬ (x.object.holds.length:Int) = 0∨g = true∧e = true∧¬ (0:Int) < (x.object.holds.length:Int)∧¬ x.object.born = x.object.version :=by
   unfold endS at d4
   rw [eg,ee] at d4
   cases g <;> cases e
   ·exact .inl ⟨rfl,rfl,trivial⟩
   ·refine .inr (.inl ⟨rfl,rfl,fun h =>?_⟩)
    rw [decide_eq_true h] at d4
    simp at d4
   ·simp at d4
   ·by_cases h5:(x.object.holds.length:Int) = 0
    ·by_cases h6:x.object.born = x.object.version
     ·rw [decide_eq_true h6] at d4
      simp at d4
     ·exact .inr (.inr ⟨rfl,rfl,by omega,h6⟩)
    ·rw [decide_eq_false h5] at d4
     simp at d4
  rw [d4,Bool.true_and] at hE
  rcases last_cases b.history x.object i (by omega) with ⟨l1,l2⟩ | ⟨j,q,l1,l2,l3,l4,l5⟩
  ·rw [l1] at h2
   have hL:lastOk b i x = (creaB x || decide (x.object.born≤b.floor)) :=by unfold lastOk; rw [l2]
   rw [hL] at hE
   rcases EE with ⟨rfl,rfl,-⟩ | ⟨rfl,rfl,d5⟩ | ⟨rfl,rfl,d5,d6⟩
   all_goals cases d8:creaB x
   all_goals (rw [d8] at h3 hE)
   all_goals by_cases d9:b.floor < x.object.born
   all_goals (have d9':decide (x.object.born≤b.floor) = !decide (b.floor < x.object.born) :=by rw [Bool.eq_iff_iff]; simp)
   all_goals (rw [d9'] at hE)
   all_goals (simp only [d9,decide_true,decide_false,Bool.not_true,Bool.not_false,Bool.or_true,Bool.or_false,Bool.true_and,Bool.false_and] at hE)
   all_goals first
    | (right; simp only [rA,seval,e41,e65,e67,e68,VBook.c,VC.c,VO.c,hlt,hr,hi0,hw1,hw2,d1',d2',h1,h2,h3,hE,d5,d6,d9]; done)
    | (right; simp only [rA,seval,e41,e65,e67,e68,VBook.c,VC.c,VO.c,hlt,hr,hi0,hw1,hw2,d1',d2',h1,h2,h3,hE,d5,d9]; done)
    | (right; simp only [rA,seval,e41,e65,e67,e68,VBook.c,VC.c,VO.c,hlt,hr,hi0,hw1,hw2,d1',d2',h1,h2,h3,hE,d9]; done)
    | (left; refine ⟨(),?_,trivial,by rw [hE]⟩; simp only [rA,seval,e41,e65,e67,e68,VBook.c,VC.c,VO.c,hlt,hr,hi0,hw1,hw2,d1',d2',h1,h2,h3,d5,d6,d9,hwi,i64c]; done)
    | (left; refine ⟨(),?_,trivial,by rw [hE]⟩; simp only [rA,seval,e41,e65,e67,e68,VBook.c,VC.c,VO.c,hlt,hr,hi0,hw1,hw2,d1',d2',h1,h2,h3,d5,d9,hwi,i64c]; done)
    | (left; refine ⟨(),?_,trivial,by rw [hE]⟩; simp only [rA,seval,e41,e65,e67,e68,VBook.c,VC.c,VO.c,hlt,hr,hi0,hw1,hw2,d1',d2',h1,h2,h3,d9,hwi,i64c]; done)
  ·rw [l1] at h2
   have hL:lastOk b i x = ((creaB x == q.gone) && (creaB x || decide (x.object.born = q.object.born))) :=by unfold lastOk; rw [l5]
   rw [hL] at hE
   have hrj :=getElem?_map_some (f :=VC.c .shr) l3
   have hj0:(0:Int)≤(j:Int) :=by omega
   have hj1:¬ ((j:Int) < 0) :=by omega
   have qq:∃ z,q.gone = z :=⟨_,rfl⟩
   obtain ⟨z,qq⟩ :=qq
   simp only [VC.c,qq] at hrj
   rw [qq] at hE
   rcases EE with ⟨rfl,rfl,-⟩ | ⟨rfl,rfl,d5⟩ | ⟨rfl,rfl,d5,d6⟩
   all_goals cases d8:creaB x
   all_goals (rw [d8] at h3 hE)
   all_goals cases z
   all_goals by_cases d9:x.object.born = q.object.born
   all_goals (simp only [d9,eq_self,decide_true,decide_false,Bool.not_true,Bool.not_false,Bool.or_true,Bool.or_false,Bool.true_and,Bool.false_and,beq_self_eq_true,show (false == true) = false from rfl,show (true == false) = false from rfl] at hE)
   all_goals (first | (have d9' :=eq_false d9) | (have d9' :=eq_true d9))
   all_goals first
    | (right; simp only [rA,seval,e41,e65,e67,e68,VBook.c,VC.c,VO.c,hlt,hr,hi0,hw1,hw2,d1',d2',h1,h2,h3,hE,d5,d6,d9',hrj,hj0,hj1,beqB]; done)
    | (right; simp only [rA,seval,e41,e65,e67,e68,VBook.c,VC.c,VO.c,hlt,hr,hi0,hw1,hw2,d1',d2',h1,h2,h3,hE,d5,d9',hrj,hj0,hj1,beqB]; done)
    | (right; simp only [rA,seval,e41,e65,e67,e68,VBook.c,VC.c,VO.c,hlt,hr,hi0,hw1,hw2,d1',d2',h1,h2,h3,hE,d9',hrj,hj0,hj1,beqB]; done)
    | (left; refine ⟨(),?_,trivial,by rw [hE]⟩; simp only [rA,seval,e41,e65,e67,e68,VBook.c,VC.c,VO.c,hlt,hr,hi0,hw1,hw2,d1',d2',h1,h2,h3,d5,d6,d9',hrj,hj0,hj1,hwi,i64c,beqB]; done)
    | (left; refine ⟨(),?_,trivial,by rw [hE]⟩; simp only [rA,seval,e41,e65,e67,e68,VBook.c,VC.c,VO.c,hlt,hr,hi0,hw1,hw2,d1',d2',h1,h2,h3,d5,d9',hrj,hj0,hj1,hwi,i64c,beqB]; done)
    | (left; refine ⟨(),?_,trivial,by rw [hE]⟩; simp only [rA,seval,e41,e65,e67,e68,VBook.c,VC.c,VO.c,hlt,hr,hi0,hw1,hw2,d1',d2',h1,h2,h3,d9',hrj,hj0,hj1,hwi,i64c,beqB]; done)
 ·intro a _
  simp only [rA,seval,e41,VBook.c,hist1F]
theorem k16 (b:VBook) (hw:b.w≤4194304):EV Try.prog E 16 [.val 0 true (b.c .shr)] = some ⟨[(false,[.p (.bool (inR b.now 0 1000000 && (inR b.floor 0 b.now && ((decide ((b.objects.length:Int)≤100) && objsF b 0 b.objects) && ((decide ((b.history.length:Int)≤200) && (decide ((b.history.length:Int) = b.now - b.floor) && (hist1F b 0 b.history && (b.objects.all (hist2 b) && hist3F b 0 b.history)))) && (decide ((b.tickets.length:Int)≤50) && tickF b.now none b.tickets))))))])],[]⟩ :=by
 refine eVi Try.func16 rfl ?_
 have h1 :=k39 b.now 0 1000000
 have h2 :=k39 b.floor 0 b.now
 have h3 :=k40 b hw
 have h5 :=k42 b hw
 cases c1:inR b.now 0 1000000
 ·simp only [rA,seval,e16,e39,e40,e41,e42,Try.f16,VBook.c,h1,c1]
 cases c2:inR b.floor 0 b.now
 ·simp only [rA,seval,e16,e39,e40,e41,e42,Try.f16,VBook.c,h1,c1,h2,c2]
 have hn:0≤b.floor∧b.floor≤b.now∧b.now≤1000000 :=by
  unfold inR at c1 c2
  simp only [Bool.and_eq_true,decide_eq_true_eq] at c1 c2
  exact ⟨c2.1,c2.2,c1.2⟩
 have h4 :=k41 b hw hn.1 hn.2.1 hn.2.2
 simp only [VBook.c] at h3 h4 h5
 generalize (decide ((b.objects.length:Int)≤100) && objsF b 0 b.objects) = z3 at *
 generalize (decide ((b.history.length:Int)≤200) && (decide ((b.history.length:Int) = b.now - b.floor) && (hist1F b 0 b.history && (b.objects.all (hist2 b) && hist3F b 0 b.history)))) = z4 at *
 generalize (decide ((b.tickets.length:Int)≤50) && tickF b.now none b.tickets) = z5 at *
 cases z3
 ·simp only [rA,seval,e16,e39,e40,e41,e42,Try.f16,VBook.c,h1,c1,h2,c2,h3]
 cases z4
 ·simp only [rA,seval,e16,e39,e40,e41,e42,Try.f16,VBook.c,h1,c1,h2,c2,h3,h4]
 ·simp only [rA,seval,e16,e39,e40,e41,e42,Try.f16,VBook.c,h1,c1,h2,c2,h3,h4,h5]
def verC (o:VO):List C :=[.p (.int .i64 o.version),.p (.bool true)]
def objR (o:VO):List C :=keyC o.kind o.name ++ o.c .shr
def chgR (c:VC):List C :=keyC c.object.kind c.object.name ++ c.c .shr
def isO (k n:ByteArray) (o:VO):Bool :=decide (k = o.kind) && decide (n = o.name)
def isC (k n:ByteArray) (c:VC):Bool :=decide (k = c.object.kind) && decide (n = c.object.name)
def oput (l:List VO) (o:VO):List VO :=mput (isO o.kind o.name) o l
def cput (l:List VC) (c:VC):List VC :=mput (isC c.object.kind c.object.name) c l
def osF (l:List VO):List VO :=l.foldl oput []
def csF (l:List VC):List VC :=l.foldl cput []
theorem osF_snoc {l:List VO} {i:Nat} {x:VO} (h:l[i]? = some x):osF (l.take (i + 1)) = oput (osF (l.take i)) x :=by
 rw [take_snoc h,osF,List.foldl_append]; rfl
theorem csF_snoc {l:List VC} {i:Nat} {x:VC} (h:l[i]? = some x):csF (l.take (i + 1)) = cput (csF (l.take i)) x :=by
 rw [take_snoc h,csF,List.foldl_append]; rfl
theorem find_ver (v:Int) (l:List VO):findR [.int .i64 v] 1 (l.map verC) = some (fstR (fun o =>decide (v = o.version)) verC l) :=
 findR_map (key :=fun o =>[.int .i64 o.version]) (fun o =>rfl) (fun o =>by simp [eqVals,bin,intBin,bnd,Sx.asBool]) l
theorem find_obj (k n:ByteArray) (l:List VO):findR [.string k,.string n] 2 (l.map objR) = some (fstR (isO k n) objR l) :=
 findR_map (key :=fun o =>[.string o.kind,.string o.name]) (fun o =>rfl) (fun o =>by simp [eqVals,bin,strBin,bnd,Sx.asBool,isO]) l
theorem find_chg (k n:ByteArray) (l:List VC):findR [.string k,.string n] 2 (l.map chgR) = some (fstR (isC k n) chgR l) :=
 findR_map (key :=fun o =>[.string o.object.kind,.string o.object.name]) (fun o =>rfl) (fun o =>by simp [eqVals,bin,strBin,bnd,Sx.asBool,isC]) l
theorem put_obj {l:List VO} {i:Nat} {x:VO} (h:l[i]? = some x):Go.Sx.putR [.string x.kind,.string x.name] (x.c .shr) ((osF (l.take i)).map objR) (fstR (isO x.kind x.name) objR (osF (l.take i))) = (osF (l.take (i + 1))).map objR :=by
 rw [osF_snoc h]
 exact putR_map (f :=objR) rfl _
theorem put_chg {l:List VC} {i:Nat} {x:VC} (h:l[i]? = some x):Go.Sx.putR [.string x.object.kind,.string x.object.name] (x.c .shr) ((csF (l.take i)).map chgR) (fstR (isC x.object.kind x.object.name) chgR (csF (l.take i))) = (csF (l.take (i + 1))).map chgR :=by
 rw [csF_snoc h]
 exact putR_map (f :=chgR) rfl _
theorem ver_snoc {l:List VO} {i:Nat} {x:VO} (h:l[i]? = some x):(l.take (i + 1)).map verC = (l.take i).map verC ++ [[.p (.int .i64 x.version),.p (.bool true)]] :=by
 rw [take_snoc h,List.map_append]; rfl
def chk3 (b:VBook) (c:VC):Bool :=match (osF b.objects).find? (isO c.object.kind c.object.name) with
 | some o =>!c.gone && sameB o c.object
 | none =>c.gone
def chk4 (b:VBook) (o:VO):Bool :=((csF b.history).find? (isC o.kind o.name)).isSome || decide (o.version≤b.floor)
def implB (b:VBook):Bool :=inR b.now 0 1000000 && (inR b.floor 0 b.now && (decide ((b.objects.length:Int)≤100) && (decide ((b.history.length:Int)≤200) && (decide ((b.history.length:Int) = b.now - b.floor) && (decide ((b.tickets.length:Int)≤50) &&
 (objsF b 0 b.objects && (hist1F b 0 b.history && ((csF b.history).all (chk3 b) && ((osF b.objects).all (chk4 b) && tickF b.now none b.tickets)))))))))
theorem mput_cons {β:Type} (p:β→Bool) (x y:β) (l:List β):mput p x (y :: l) = if p y = true then x :: l else y :: mput p x l :=by
 unfold mput
 rw [List.findIdx?_cons]
 by_cases h:p y = true
 ·simp [h]
 ·simp only [h]
  cases l.findIdx? p <;> simp
theorem find_mput {β:Type} (p q:β→Bool) (x:β) (h1:q x = true→∀ y,q y = p y) (h2:q x = false→∀ y,p y = true→q y = false):∀ l:List β,(mput p x l).find? q = if q x = true then some x else l.find? q
 | [] =>by
  unfold mput
  simp only [List.findIdx?_nil,List.nil_append,List.find?_cons,List.find?_nil]
  cases q x <;> rfl
 | y :: l =>by
  rw [mput_cons]
  by_cases h:p y = true
  ·rw [if_pos h,List.find?_cons,List.find?_cons]
   cases hq:q x
   ·rw [h2 hq y h]; simp
   ·simp
  ·rw [if_neg h,List.find?_cons,find_mput p q x h1 h2 l,List.find?_cons]
   cases hq:q x
   ·cases q y <;> simp
   ·have e:q y = false :=by rw [h1 hq]; simpa using h
    rw [e]
theorem isC_key (o:VO) (c:VC):isC o.kind o.name c = decide (keyO c.object o = 0) :=by
 rw [Bool.eq_iff_iff]
 simp only [isC,Bool.and_eq_true,decide_eq_true_eq,key_zero]
 exact ⟨fun h =>⟨h.1.symm,h.2.symm⟩,fun h =>⟨h.1.symm,h.2.symm⟩⟩
theorem csF_find (h:List VC) (o:VO):∀ i,i≤h.length→(csF (h.take i)).find? (isC o.kind o.name) = lastO h o i
 | 0,_ =>rfl
 | i + 1,hi =>by
  have hj:h[i]? = some (h[i]'(by omega)) :=List.getElem?_eq_getElem (by omega)
  generalize h[i]'(by omega) = c at hj
  rw [csF_snoc hj,cput,find_mput,csF_find h o i (by omega),isC_key]
  ·simp only [lastO,hj]
   by_cases d:keyO c.object o = 0 <;> simp [d]
  ·intro e y
   simp only [isC,Bool.and_eq_true,decide_eq_true_eq] at e
   rw [e.1,e.2]
  ·intro e y e2
   simp only [isC,Bool.and_eq_true,decide_eq_true_eq] at e2
   rw [← e]
   simp only [isC,e2.1,e2.2]
theorem end_eq {x:VC} {now:Int} (h:partsB x.object now = true):endB x.object x.gone = endS x :=by
 have hb:x.object.born≤x.object.version :=by
  simp only [partsB,inR,Bool.and_eq_true,decide_eq_true_eq] at h
  omega
 unfold endB endS
 cases x.gone
 ·rw [if_neg (by simp),if_neg (by simp)]
  by_cases e1:(x.object.holds.length:Int) = 0
  ·have e2:¬ (0:Int) < (x.object.holds.length:Int) :=by omega
   rw [decide_eq_true e1,decide_eq_false e2]
   cases x.object.ending <;> rfl
  ·have e2:(0:Int) < (x.object.holds.length:Int) :=by omega
   rw [decide_eq_false e1,decide_eq_true e2]
   cases x.object.ending <;> rfl
 ·rw [if_pos rfl,if_pos rfl]
  have:decide (x.object.born < x.object.version) = !decide (x.object.born = x.object.version) :=by
   rw [Bool.eq_iff_iff]
   simp
   omega
  rw [this]
theorem mem_mput {β:Type} {p:β→Bool} {x y:β}:∀ {l:List β},y ∈ mput p x l→y = x∨y ∈ l
 | [],h =>by simp [mput] at h; exact .inl h
 | z :: l,h =>by
  rw [mput_cons] at h
  split at h
  ·rcases List.mem_cons.1 h with h | h
   ·exact .inl h
   ·exact .inr (List.mem_cons_of_mem _ h)
  ·rcases List.mem_cons.1 h with h | h
   ·exact .inr (h ▸ List.mem_cons_self)
   ·rcases mem_mput h with h | h
    ·exact .inl h
    ·exact .inr (List.mem_cons_of_mem _ h)
theorem osF_mem {l:List VO} {y:VO} (h:y ∈ osF l):y ∈ l :=by
 have key:∀ (l a:List VO),y ∈ l.foldl oput a→y ∈ a∨y ∈ l :=by
  intro l
  induction l with
  | nil =>intro a h; exact .inl h
  | cons x l ih =>
   intro a h
   rcases ih _ h with h | h
   ·rcases mem_mput h with h | h
    ·exact .inr (h ▸ List.mem_cons_self)
    ·exact .inl h
   ·exact .inr (List.mem_cons_of_mem _ h)
 rcases key l [] h with h | h
 ·cases h
 ·exact h
theorem csF_mem {l:List VC} {y:VC} (h:y ∈ csF l):y ∈ l :=by
 have key:∀ (l a:List VC),y ∈ l.foldl cput a→y ∈ a∨y ∈ l :=by
  intro l
  induction l with
  | nil =>intro a h; exact .inl h
  | cons x l ih =>
   intro a h
   rcases ih _ h with h | h
   ·rcases mem_mput h with h | h
    ·exact .inr (h ▸ List.mem_cons_self)
    ·exact .inl h
   ·exact .inr (List.mem_cons_of_mem _ h)
 rcases key l [] h with h | h
 ·cases h
 ·exact h
theorem k17 (b:VBook) (hw:b.w≤4194304):EV Try.prog E 17 [.val 0 true (b.c .shr)] = some ⟨[(false,[.p (.bool (implB b))])],[]⟩ :=by
 refine eVi Try.func17 rfl ?_
 have hll:b.objects.length≤4194304 :=by unfold VBook.w wSBookObject at hw; omega
 have hhl:b.history.length≤4194304 :=by unfold VBook.w wSBookChange at hw; omega
 have htl:b.tickets.length≤4194304 :=by unfold VBook.w wSBookTicket at hw; omega
 unfold implB inR
 by_cases c1:0≤b.now
 case neg =>
  have d1:b.now < 0 :=by omega
  simp only [rA,seval,e17,Try.f17,VBook.c,c1,d1]
 have d1:¬ b.now < 0 :=by omega
 by_cases c2:b.now≤1000000
 case neg =>
  have d2:1000000 < b.now :=by omega
  simp only [rA,seval,e17,Try.f17,VBook.c,c1,d1,c2,d2]
 have d2:¬ 1000000 < b.now :=by omega
 by_cases c3:0≤b.floor
 case neg =>
  have d3:b.floor < 0 :=by omega
  simp only [rA,seval,e17,Try.f17,VBook.c,c1,d1,c2,d2,c3,d3]
 have d3:¬ b.floor < 0 :=by omega
 by_cases c4:b.floor≤b.now
 case neg =>
  have d4:b.now < b.floor :=by omega
  simp only [rA,seval,e17,Try.f17,VBook.c,c1,d1,c2,d2,c3,d3,c4,d4]
 have d4:¬ b.now < b.floor :=by omega
 by_cases c5:(b.objects.length:Int)≤100
 case neg =>
  have d5:100 < (b.objects.length:Int) :=by omega
  simp only [rA,seval,e17,Try.f17,VBook.c,c1,d1,c2,d2,c3,d3,c4,d4,c5,d5]
 have d5:¬ 100 < (b.objects.length:Int) :=by omega
 by_cases c6:(b.history.length:Int)≤200
 case neg =>
  have d6:200 < (b.history.length:Int) :=by omega
  simp only [rA,seval,e17,Try.f17,VBook.c,c1,d1,c2,d2,c3,d3,c4,d4,c5,d5,c6,d6]
 have d6:¬ 200 < (b.history.length:Int) :=by omega
 have hwf :=wrap64 (n :=b.now - b.floor) (by omega) (by omega)
 by_cases c7:(b.history.length:Int) = b.now - b.floor
 case neg =>simp only [rA,seval,e17,Try.f17,VBook.c,c1,d1,c2,d2,c3,d3,c4,d4,c5,d5,c6,d6,hwf,c7]
 have c7' :=eq_true c7
 by_cases c8:(b.tickets.length:Int)≤50
 case neg =>
  have d8:50 < (b.tickets.length:Int) :=by omega
  simp only [rA,seval,e17,Try.f17,VBook.c,c1,d1,c2,d2,c3,d3,c4,d4,c5,d5,c6,d6,hwf,c7',c8,d8]
 have d8:¬ 50 < (b.tickets.length:Int) :=by omega
 simp only [rA,seval,e17,Try.f17,VBook.c,c1,d1,c2,d2,c3,d3,c4,d4,c5,d5,c6,d6,hwf,c7',c8,d8]
 rw [for_block b.objects (fun i (_:Unit) =>⟨6,[(1,.box 0 0 (b.c .shr)),(3,.val 1 false [.mp .own 0 false false 1 ((b.objects.take i).map verC)]),(4,.val 2 false [.mp .own 0 true true 2 ((osF (b.objects.take i)).map objR)]),(76,.val 3 false [.sl .shr 7 (b.objects.map (VO.c .shr))]),(77,.val 4 false [.p (.int .i64 b.objects.length)]),(78,.val 5 false [.p (.int .i64 i)])]⟩) (fun i _ =>True)
  (fun r i a =>if objsF b i r = true then .norm ⟨2,[(1,.box 0 0 (b.c .shr)),(4,.val 1 false [.mp .own 0 true true 2 ((osF b.objects).map objR)])]⟩ else .ret ⟨[(false,[.p (.bool false)])],[]⟩) ?_ ?_ (a :=()) trivial (by simp only [rA,seval,e17,VBook.c,List.take_zero,osF,List.foldl_nil] <;> rfl)]
 ·cases e1:objsF b 0 b.objects
  ·simp only [rA,seval,e17,e1]
  simp only [rA,seval,e17,VBook.c,e1]
  rw [for_block b.history (fun i (_:Unit) =>⟨6,[(1,.box 0 0 (b.c .shr)),(4,.val 1 false [.mp .own 0 true true 2 ((osF b.objects).map objR)]),(7,.val 2 false [.mp .own 0 true true 2 ((csF (b.history.take i)).map chgR)]),(121,.val 3 false [.sl .shr 9 (b.history.map (VC.c .shr))]),(122,.val 4 false [.p (.int .i64 b.history.length)]),(123,.val 5 false [.p (.int .i64 i)])]⟩) (fun i _ =>True)
   (fun r i a =>if hist1F b i r = true then .norm ⟨3,[(1,.box 0 0 (b.c .shr)),(4,.val 1 false [.mp .own 0 true true 2 ((osF b.objects).map objR)]),(7,.val 2 false [.mp .own 0 true true 2 ((csF b.history).map chgR)])]⟩ else .ret ⟨[(false,[.p (.bool false)])],[]⟩) ?_ ?_ (a :=()) trivial (by simp only [rA,seval,e17,VBook.c,List.take_zero,csF,List.foldl_nil] <;> rfl)]
  ·cases e2:hist1F b 0 b.history
   ·simp only [rA,seval,e17,e2]
   simp only [rA,seval,e17,VBook.c,e2]
   rw [range_all (csF b.history) (chk3 b) (fun c r =>⟨4,[(1,.box 0 0 (b.c .shr)),(4,.val 1 false [.mp .own 0 true true 2 ((osF b.objects).map objR)]),(7,.val 2 false [.mp .shr 0 true true 2 ((csF b.history).map chgR)]),(204,.val 3 false [match c with | none =>.mp .own 1 true true 2 (r.map chgR) | some x =>.mp .own 2 true true 2 (chgR x :: r.map chgR)])]⟩)
    (.norm ⟨3,[(1,.box 0 0 (b.c .shr)),(4,.val 1 false [.mp .own 0 true true 2 ((osF b.objects).map objR)]),(7,.val 2 false [.mp .shr 0 true true 2 ((csF b.history).map chgR)])]⟩) ⟨[(false,[.p (.bool false)])],[]⟩ ?_ ?_ ?_ ?_ (by simp only [rA,seval,e17,VBook.c])]
   ·cases e3:(csF b.history).all (chk3 b)
    ·simp only [rA,seval,e17,e3]
    simp only [rA,seval,e17,VBook.c,e3]
    rw [range_all (osF b.objects) (chk4 b) (fun c r =>⟨3,[(1,.box 0 0 (b.c .shr)),(7,.val 1 false [.mp .shr 0 true true 2 ((csF b.history).map chgR)]),(229,.val 2 false [match c with | none =>.mp .own 1 true true 2 (r.map objR) | some x =>.mp .own 2 true true 2 (objR x :: r.map objR)])]⟩)
     (.norm ⟨1,[(1,.box 0 0 (b.c .shr))]⟩) ⟨[(false,[.p (.bool false)])],[]⟩ ?_ ?_ ?_ ?_ (by simp only [rA,seval,e17,VBook.c])]
    ·cases e4:(osF b.objects).all (chk4 b)
     ·simp only [rA,seval,e17,e4]
     simp only [rA,seval,e17,VBook.c,e4]
     rw [for_block b.tickets (fun i (_:Unit) =>⟨4,[(1,.box 0 0 (b.c .shr)),(251,.val 1 false [.sl .shr 5 (b.tickets.map VT.c)]),(252,.val 2 false [.p (.int .i64 b.tickets.length)]),(253,.val 3 false [.p (.int .i64 i)])]⟩) (fun i _ =>True)
      (fun r i a =>if tickF b.now (prevO b.tickets i) r = true then .norm ⟨0,[]⟩ else .ret ⟨[(false,[.p (.bool false)])],[]⟩) ?_ ?_ (a :=()) trivial (by simp only [rA,seval,e17,VBook.c] <;> rfl)]
     ·cases h:tickF b.now none b.tickets
      ·simp only [rA,seval,e17,h,prevO]
      ·simp only [rA,seval,e17,h,prevO]
     ·intro i x r a hd hi _
      have hlen :=(List.getElem?_eq_some_iff.1 hi).1
      have hlt:((i:Int) < (b.tickets.length:Int)) :=by omega
      have hr :=getElem?_map_some (f :=VT.c) hi
      have hi0:(0:Int)≤(i:Int) :=by omega
      have hwi :=wrap64 (n :=(i:Int) + 1) (by omega) (by omega)
      have hp':prevO b.tickets (i + 1) = some x :=hi
      have h1 :=k47 x.client
      simp only [VT.c] at hr
      have hF:tickF b.now (prevO b.tickets i) (x :: r) = (tick1 b.now (prevO b.tickets i) x && tickF b.now (some x) r) :=rfl
      cases t1:nameB x.client
      ·right
       have hf:tick1 b.now (prevO b.tickets i) x = false :=by simp [tick1,t1]
       rw [hf,Bool.false_and] at hF
       simp only [rA,seval,e17,e47,VBook.c,VT.c,hlt,hr,hi0,h1,t1,hF]
      by_cases n1:x.number < 1
      ·right
       have hf:tick1 b.now (prevO b.tickets i) x = false :=by
        have e:inR x.number 1 1000000 = false :=by simp only [inR,decide_eq_false (show ¬ 1≤x.number by omega),Bool.false_and]
        simp [tick1,e]
       rw [hf,Bool.false_and] at hF
       rcases prevO_cases b.tickets (Nat.le_of_lt hlen) htl with ⟨h0,hp⟩ | ⟨p,h0,hj0,hw2,hj,hp⟩
       ·simp only [rA,seval,e17,e47,VBook.c,VT.c,hlt,hr,hi0,h1,t1,hF,h0,n1]
       ·have hrj :=getElem?_map_some (f :=VT.c) hj
        simp only [VT.c] at hrj
        cases t6:Op.bytesLess p.client.toList x.client.toList
        ·simp only [rA,seval,e17,e47,VBook.c,VT.c,hlt,hr,hi0,h1,t1,hF,h0,hj0,hw2,hrj,t6]
        ·simp only [rA,seval,e17,e47,VBook.c,VT.c,hlt,hr,hi0,h1,t1,hF,h0,hj0,hw2,hrj,t6,n1]
      by_cases n2:1000000 < x.number
      ·right
       have hf:tick1 b.now (prevO b.tickets i) x = false :=by
        have e:inR x.number 1 1000000 = false :=by simp only [inR,decide_eq_false (show ¬ x.number≤1000000 by omega),Bool.and_false]
        simp [tick1,e]
       rw [hf,Bool.false_and] at hF
       rcases prevO_cases b.tickets (Nat.le_of_lt hlen) htl with ⟨h0,hp⟩ | ⟨p,h0,hj0,hw2,hj,hp⟩
       ·simp only [rA,seval,e17,e47,VBook.c,VT.c,hlt,hr,hi0,h1,t1,hF,h0,n1,n2]
       ·have hrj :=getElem?_map_some (f :=VT.c) hj
        simp only [VT.c] at hrj
        cases t6:Op.bytesLess p.client.toList x.client.toList
        ·simp only [rA,seval,e17,e47,VBook.c,VT.c,hlt,hr,hi0,h1,t1,hF,h0,hj0,hw2,hrj,t6]
        ·simp only [rA,seval,e17,e47,VBook.c,VT.c,hlt,hr,hi0,h1,t1,hF,h0,hj0,hw2,hrj,t6,n1,n2]
      have i1:inR x.number 1 1000000 = true :=by simp only [inR,decide_eq_true (show 1≤x.number by omega),decide_eq_true (show x.number≤1000000 by omega),Bool.and_self]
      by_cases n3:(x.print.size:Int) = 8
      case neg =>
       right
       have hf:tick1 b.now (prevO b.tickets i) x = false :=by simp [tick1,n3]
       rw [hf,Bool.false_and] at hF
       rcases prevO_cases b.tickets (Nat.le_of_lt hlen) htl with ⟨h0,hp⟩ | ⟨p,h0,hj0,hw2,hj,hp⟩
       ·simp only [rA,seval,e17,e47,VBook.c,VT.c,hlt,hr,hi0,h1,t1,hF,h0,n1,n2,n3]
       ·have hrj :=getElem?_map_some (f :=VT.c) hj
        simp only [VT.c] at hrj
        cases t6:Op.bytesLess p.client.toList x.client.toList
        ·simp only [rA,seval,e17,e47,VBook.c,VT.c,hlt,hr,hi0,h1,t1,hF,h0,hj0,hw2,hrj,t6]
        ·simp only [rA,seval,e17,e47,VBook.c,VT.c,hlt,hr,hi0,h1,t1,hF,h0,hj0,hw2,hrj,t6,n1,n2,n3]
      by_cases n4:x.code < 0
      ·right
       have hf:tick1 b.now (prevO b.tickets i) x = false :=by
        have e:inR x.code 0 9 = false :=by simp only [inR,decide_eq_false (show ¬ 0≤x.code by omega),Bool.false_and]
        simp [tick1,e]
       rw [hf,Bool.false_and] at hF
       rcases prevO_cases b.tickets (Nat.le_of_lt hlen) htl with ⟨h0,hp⟩ | ⟨p,h0,hj0,hw2,hj,hp⟩
       ·simp only [rA,seval,e17,e47,VBook.c,VT.c,hlt,hr,hi0,h1,t1,hF,h0,n1,n2,n3,n4]
       ·have hrj :=getElem?_map_some (f :=VT.c) hj
        simp only [VT.c] at hrj
        cases t6:Op.bytesLess p.client.toList x.client.toList
        ·simp only [rA,seval,e17,e47,VBook.c,VT.c,hlt,hr,hi0,h1,t1,hF,h0,hj0,hw2,hrj,t6]
        ·simp only [rA,seval,e17,e47,VBook.c,VT.c,hlt,hr,hi0,h1,t1,hF,h0,hj0,hw2,hrj,t6,n1,n2,n3,n4]
      by_cases n5:9 < x.code
      ·right
       have hf:tick1 b.now (prevO b.tickets i) x = false :=by
        have e:inR x.code 0 9 = false :=by simp only [inR,decide_eq_false (show ¬ x.code≤9 by omega),Bool.and_false]
        simp [tick1,e]
       rw [hf,Bool.false_and] at hF
       rcases prevO_cases b.tickets (Nat.le_of_lt hlen) htl with ⟨h0,hp⟩ | ⟨p,h0,hj0,hw2,hj,hp⟩
       ·simp only [rA,seval,e17,e47,VBook.c,VT.c,hlt,hr,hi0,h1,t1,hF,h0,n1,n2,n3,n4,n5]
       ·have hrj :=getElem?_map_some (f :=VT.c) hj
        simp only [VT.c] at hrj
        cases t6:Op.bytesLess p.client.toList x.client.toList
        ·simp only [rA,seval,e17,e47,VBook.c,VT.c,hlt,hr,hi0,h1,t1,hF,h0,hj0,hw2,hrj,t6]
        ·simp only [rA,seval,e17,e47,VBook.c,VT.c,hlt,hr,hi0,h1,t1,hF,h0,hj0,hw2,hrj,t6,n1,n2,n3,n4,n5]
      have i2:inR x.code 0 9 = true :=by simp only [inR,decide_eq_true (show 0≤x.code by omega),decide_eq_true (show x.code≤9 by omega),Bool.and_self]
      by_cases n6:x.version < 0
      ·right
       have hf:tick1 b.now (prevO b.tickets i) x = false :=by
        have e:inR x.version 0 b.now = false :=by simp only [inR,decide_eq_false (show ¬ 0≤x.version by omega),Bool.false_and]
        simp [tick1,e]
       rw [hf,Bool.false_and] at hF
       rcases prevO_cases b.tickets (Nat.le_of_lt hlen) htl with ⟨h0,hp⟩ | ⟨p,h0,hj0,hw2,hj,hp⟩
       ·simp only [rA,seval,e17,e47,VBook.c,VT.c,hlt,hr,hi0,h1,t1,hF,h0,n1,n2,n3,n4,n5,n6]
       ·have hrj :=getElem?_map_some (f :=VT.c) hj
        simp only [VT.c] at hrj
        cases t6:Op.bytesLess p.client.toList x.client.toList
        ·simp only [rA,seval,e17,e47,VBook.c,VT.c,hlt,hr,hi0,h1,t1,hF,h0,hj0,hw2,hrj,t6]
        ·simp only [rA,seval,e17,e47,VBook.c,VT.c,hlt,hr,hi0,h1,t1,hF,h0,hj0,hw2,hrj,t6,n1,n2,n3,n4,n5,n6]
      by_cases n7:b.now < x.version
      ·right
       have hf:tick1 b.now (prevO b.tickets i) x = false :=by
        have e:inR x.version 0 b.now = false :=by simp only [inR,decide_eq_false (show ¬ x.version≤b.now by omega),Bool.and_false]
        simp [tick1,e]
       rw [hf,Bool.false_and] at hF
       rcases prevO_cases b.tickets (Nat.le_of_lt hlen) htl with ⟨h0,hp⟩ | ⟨p,h0,hj0,hw2,hj,hp⟩
       ·simp only [rA,seval,e17,e47,VBook.c,VT.c,hlt,hr,hi0,h1,t1,hF,h0,n1,n2,n3,n4,n5,n6,n7]
       ·have hrj :=getElem?_map_some (f :=VT.c) hj
        simp only [VT.c] at hrj
        cases t6:Op.bytesLess p.client.toList x.client.toList
        ·simp only [rA,seval,e17,e47,VBook.c,VT.c,hlt,hr,hi0,h1,t1,hF,h0,hj0,hw2,hrj,t6]
        ·simp only [rA,seval,e17,e47,VBook.c,VT.c,hlt,hr,hi0,h1,t1,hF,h0,hj0,hw2,hrj,t6,n1,n2,n3,n4,n5,n6,n7]
      have i3:inR x.version 0 b.now = true :=by simp only [inR,decide_eq_true (show 0≤x.version by omega),decide_eq_true (show x.version≤b.now by omega),Bool.and_self]
      have hf:tick1 b.now (prevO b.tickets i) x = ahead (prevO b.tickets i) x :=by simp [tick1,t1,i1,i2,i3,n3]
      rw [hf] at hF
      rcases prevO_cases b.tickets (Nat.le_of_lt hlen) htl with ⟨h0,hp⟩ | ⟨p,h0,hj0,hw2,hj,hp⟩
      ·left
       rw [show ahead (prevO b.tickets i) x = true by rw [hp]; rfl,Bool.true_and] at hF
       refine ⟨(),?_,trivial,by rw [hF,hp']⟩
       simp only [rA,seval,e17,e47,VBook.c,VT.c,hlt,hr,hi0,h1,t1,h0,n1,n2,n3,n4,n5,n6,n7,hwi,i64c]
      ·have hrj :=getElem?_map_some (f :=VT.c) hj
       simp only [VT.c] at hrj
       rw [show ahead (prevO b.tickets i) x = Op.bytesLess p.client.toList x.client.toList by rw [hp]; rfl] at hF
       cases t6:Op.bytesLess p.client.toList x.client.toList
       ·right
        rw [t6,Bool.false_and] at hF
        simp only [rA,seval,e17,e47,VBook.c,VT.c,hlt,hr,hi0,h1,t1,hF,h0,hj0,hw2,hrj,t6]
       ·left
        rw [t6,Bool.true_and] at hF
        refine ⟨(),?_,trivial,by rw [hF,hp']⟩
        simp only [rA,seval,e17,e47,VBook.c,VT.c,hlt,hr,hi0,h1,t1,h0,hj0,hw2,hrj,t6,n1,n2,n3,n4,n5,n6,n7,hwi,i64c]
     ·intro a _
      simp only [rA,seval,e17,VBook.c,tickF]
    ·intro c r
     cases c <;> simp only [leftN,leftV,rA,seval,e17,List.length_map]
    ·intro c
     cases c
     ·rfl
     ·simp only [rA,seval,e17,VBook.c,List.map_nil]
    ·simp only [rA,seval,e17,VBook.c,List.map_nil]
    ·intro c r i x hsub hx
     have hn :=nextR_map (f :=objR) hx
     have fc :=find_chg x.kind x.name (csF b.history)
     simp only [objR,VO.c,keyC,List.cons_append,List.nil_append] at hn
     rcases fstR_cases (isC x.kind x.name) chgR (csF b.history) with ⟨f1,f2⟩ | ⟨j,q,f1,f2,f3,f4,f5⟩
     ·have hC:chk4 b x = decide (x.version≤b.floor) :=by unfold chk4; rw [f1]; rfl
      rw [hC]
      rw [f2] at fc
      by_cases d:b.floor < x.version
      ·right
       refine ⟨decide_eq_false (by omega),?_⟩
       cases c <;> simp only [rA,seval,e17,VBook.c,VO.c,hn,fc,d]
      ·left
       refine ⟨decide_eq_true (by omega),?_⟩
       cases c <;> simp only [rA,seval,e17,VBook.c,VO.c,objR,keyC,hn,fc,d]
     ·have hC:chk4 b x = true :=by unfold chk4; rw [f1]; rfl
      rw [f5] at fc
      simp only [chgR,VC.c,keyC,List.cons_append,List.nil_append] at fc
      left
      refine ⟨hC,?_⟩
      cases c <;> simp only [rA,seval,e17,VBook.c,VO.c,objR,keyC,hn,fc]
   ·intro c r
    cases c <;> simp only [leftN,leftV,rA,seval,e17,List.length_map]
   ·intro c
    cases c
    ·rfl
    ·simp only [rA,seval,e17,VBook.c,List.map_nil]
   ·simp only [rA,seval,e17,VBook.c,List.map_nil]
   ·intro c r i x hsub hx
    have hn :=nextR_map (f :=chgR) hx
    have hxl :=change_le hw (csF_mem (hsub x (List.mem_of_getElem? hx)))
    have fo :=find_obj x.object.kind x.object.name (osF b.objects)
    have gg:∃ g,x.gone = g :=⟨_,rfl⟩
    obtain ⟨g,gg⟩ :=gg
    simp only [chgR,VC.c,keyC,List.cons_append,List.nil_append,gg] at hn
    rcases fstR_cases (isO x.object.kind x.object.name) objR (osF b.objects) with ⟨f1,f2⟩ | ⟨j,o,f1,f2,f3,f4,f5⟩
    ·have hC:chk3 b x = g :=by unfold chk3; rw [f1]; exact gg
     rw [hC]
     rw [f2] at fo
     cases g
     ·right
      refine ⟨rfl,?_⟩
      cases c <;> simp only [rA,seval,e17,VBook.c,VC.c,VO.c,hn,fo]
     ·left
      refine ⟨rfl,?_⟩
      cases c <;> simp only [rA,seval,e17,VBook.c,VC.c,VO.c,chgR,keyC,gg,hn,fo]
    ·have hol :=object_le hw (osF_mem (List.mem_of_getElem? f2))
     have h1 :=k46 o x.object hol hxl
     have hC:chk3 b x = (!g && sameB o x.object) :=by unfold chk3; rw [f1,gg]
     rw [hC]
     rw [f5] at fo
     simp only [objR,VO.c,keyC,List.cons_append,List.nil_append] at fo h1
     cases g
     ·cases d:sameB o x.object
      ·right
       refine ⟨rfl,?_⟩
       rw [d] at h1
       cases c <;> simp only [rA,seval,e17,e46,VBook.c,VC.c,VO.c,hn,fo,h1]
      ·left
       refine ⟨rfl,?_⟩
       rw [d] at h1
       cases c <;> simp only [rA,seval,e17,e46,VBook.c,VC.c,VO.c,chgR,keyC,gg,hn,fo,h1]
     ·right
      refine ⟨rfl,?_⟩
      cases c <;> simp only [rA,seval,e17,e46,VBook.c,VC.c,VO.c,hn,fo]
  ·intro i x r a hd hi _
   have hlen :=(List.getElem?_eq_some_iff.1 hi).1
   have hlt:((i:Int) < (b.history.length:Int)) :=by omega
   have hr :=getElem?_map_some (f :=VC.c .shr) hi
   have hi0:(0:Int)≤(i:Int) :=by omega
   have hwi :=wrap64 (n :=(i:Int) + 1) (by omega) (by omega)
   have hw1 :=wrap64 (n :=b.floor + 1) (by omega) (by omega)
   have hw2 :=wrap64 (n :=b.floor + 1 + i) (by omega) (by omega)
   have hxl :=change_le hw (List.mem_of_getElem? hi)
   have h1 :=k43 x.object b.now x.gone hxl
   have h2 :=k44 x.object
   have fc :=find_chg x.object.kind x.object.name (csF (b.history.take i))
   have pc :=put_chg hi
   have fL :=csF_find b.history x.object i (by omega)
   simp only [VO.c,VC.c] at h1 h2 hr pc
   by_cases s1:x.version = b.floor + 1 + i
   case neg =>
    right
    have hF:hist1F b i (x :: r) = false :=by simp [hist1F,hist1,s1]
    simp only [rA,seval,e17,e43,VBook.c,VC.c,VO.c,hlt,hr,hi0,hw1,hw2,s1,hF]
   have s1' :=eq_true s1
   by_cases s2:x.object.version = x.version
   case neg =>
    right
    have hF:hist1F b i (x :: r) = false :=by simp [hist1F,hist1,s2]
    simp only [rA,seval,e17,e43,VBook.c,VC.c,VO.c,hlt,hr,hi0,hw1,hw2,s1',s2,hF]
   have s2' :=eq_true s2
   cases s3:partsB x.object b.now
   ·right
    have hF:hist1F b i (x :: r) = false :=by simp [hist1F,hist1,s3]
    rw [s3,Bool.false_and] at h1
    simp only [rA,seval,e17,e43,VBook.c,VC.c,VO.c,hlt,hr,hi0,hw1,hw2,s1',s2',h1,hF]
   rw [s3,Bool.true_and,end_eq s3] at h1
   have hE:hist1F b i (x :: r) = ((endS x && lastOk b i x) && hist1F b (i + 1) r) :=by simp [hist1F,hist1,s1,s2,s3]
   cases s4:endS x
   ·right
    rw [s4] at h1
    rw [s4,Bool.false_and,Bool.false_and] at hE
    simp only [rA,seval,e17,e43,VBook.c,VC.c,VO.c,hlt,hr,hi0,hw1,hw2,s1',s2',h1,hE]
   rw [s4] at h1
   rw [s4,Bool.true_and] at hE
   have hcr:creaB x = (!x.gone && decide (x.object.born = x.object.version)) :=by unfold creaB; rw [s2]
   have gg:∃ g,x.gone = g :=⟨_,rfl⟩
   obtain ⟨g,gg⟩ :=gg
   rw [gg] at hcr
   simp only [gg] at h1 hr pc
   have dd:∃ z,(x.object.born = x.object.version) = z∧(z = True∨z = False) :=by
    by_cases d:x.object.born = x.object.version
    ·exact ⟨_,eq_true d,.inl rfl⟩
    ·exact ⟨_,eq_false d,.inr rfl⟩
   obtain ⟨z,dd,hz⟩ :=dd
   rcases fstR_cases (isC x.object.kind x.object.name) chgR (csF (b.history.take i)) with ⟨f1,f2⟩ | ⟨j,q,f1,f2,f3,f4,f5⟩
   ·have hL:lastOk b i x = (creaB x || !decide (b.floor < x.object.born)) :=by
     unfold lastOk; rw [← fL,f1]
     have:decide (x.object.born≤b.floor) = !decide (b.floor < x.object.born) :=by rw [Bool.eq_iff_iff]; simp
     rw [← this]
    have fc' :=fc
    rw [f2] at fc' pc
    have dn:∃ y,(b.floor < x.object.born) = y∧(y = True∨y = False) :=by
     by_cases d:b.floor < x.object.born
     ·exact ⟨_,eq_true d,.inl rfl⟩
     ·exact ⟨_,eq_false d,.inr rfl⟩
    obtain ⟨y,dn,hy⟩ :=dn
    rw [hL,hcr] at hE
    rcases hz with rfl | rfl <;> rcases hy with rfl | rfl <;> cases g
    all_goals (simp only [dd,dn,decide_true,decide_false,Bool.not_true,Bool.not_false,Bool.or_true,Bool.or_false,Bool.true_and,Bool.false_and,Bool.and_true,Bool.and_false] at hE)
    all_goals first
     | (left; refine ⟨(),?_,trivial,by rw [hE]⟩; simp only [rA,seval,e17,e43,e44,VBook.c,VC.c,VO.c,hlt,hr,hi0,hw1,hw2,s1',s2',h1,h2,fc',pc,dd,dn,hwi,i64c]; done)
     | (right; simp only [rA,seval,e17,e43,e44,VBook.c,VC.c,VO.c,hlt,hr,hi0,hw1,hw2,s1',s2',h1,h2,fc',dd,dn,hE]; done)
   ·have hL:lastOk b i x = ((creaB x == q.gone) && (creaB x || decide (q.object.born = x.object.born))) :=by
     unfold lastOk; rw [← fL,f1]
     have:decide (x.object.born = q.object.born) = decide (q.object.born = x.object.born) :=by rw [Bool.eq_iff_iff]; simp; exact eq_comm
     rw [← this]
    have fc' :=fc
    rw [f5] at fc' pc
    simp only [chgR,VC.c,keyC,List.cons_append,List.nil_append] at fc' pc
    have dn:∃ y,(q.object.born = x.object.born) = y∧(y = True∨y = False) :=by
     by_cases d:q.object.born = x.object.born
     ·exact ⟨_,eq_true d,.inl rfl⟩
     ·exact ⟨_,eq_false d,.inr rfl⟩
    obtain ⟨y,dn,hy⟩ :=dn
    have qq:∃ z,q.gone = z :=⟨_,rfl⟩
    obtain ⟨z2,qq⟩ :=qq
    rw [hL,hcr,qq] at hE
    simp only [qq] at fc' pc
    rcases hz with rfl | rfl <;> rcases hy with rfl | rfl <;> cases g <;> cases z2
    all_goals (simp only [dd,dn,decide_true,decide_false,Bool.not_true,Bool.not_false,Bool.or_true,Bool.or_false,Bool.true_and,Bool.false_and,Bool.and_true,Bool.and_false,Bool.false_or,Bool.true_or,beqB] at hE)
    all_goals first
     | (left; refine ⟨(),?_,trivial,by rw [hE]⟩; simp only [rA,seval,e17,e43,e44,VBook.c,VC.c,VO.c,hlt,hr,hi0,hw1,hw2,s1',s2',h1,h2,fc',pc,dd,dn,hwi,i64c]; done)
     | (right; simp only [rA,seval,e17,e43,e44,VBook.c,VC.c,VO.c,hlt,hr,hi0,hw1,hw2,s1',s2',h1,h2,fc',dd,dn,hE]; done)
  ·intro a _
   simp only [rA,seval,e17,VBook.c,hist1F,List.take_length]
 ·intro i x r a hd hi _
  have hlen :=(List.getElem?_eq_some_iff.1 hi).1
  have hlt:((i:Int) < (b.objects.length:Int)) :=by omega
  have hr :=getElem?_map_some (f :=VO.c .shr) hi
  have hi0:(0:Int)≤(i:Int) :=by omega
  have hwi :=wrap64 (n :=(i:Int) + 1) (by omega) (by omega)
  have hxl :=object_le hw (List.mem_of_getElem? hi)
  have h1 :=k43 x b.now false hxl
  have h2 :=k44 x
  have fv :=find_ver x.version (b.objects.take i)
  have fo :=find_obj x.kind x.name (osF (b.objects.take i))
  have po :=put_obj hi
  have vs :=ver_snoc hi
  have hE:objsF b i (x :: r) = (objAt b i x && objsF b (i + 1) r) :=rfl
  have hA:objAt b i x = ((partsB x b.now && endB x false) && ((match prevO b.objects i with | none =>true | some p =>decide (keyO p x < 0)) && (b.objects.take i).all fun y =>!decide (y.version = x.version))) :=by
   have:endB x false = !(x.ending && decide ((x.holds.length:Int) = 0)) :=by
    unfold endB
    rw [if_neg (by simp)]
    by_cases e1:(x.holds.length:Int) = 0
    ·have e2:¬ (0:Int) < (x.holds.length:Int) :=by omega
     rw [decide_eq_true e1,decide_eq_false e2]
     cases x.ending <;> rfl
    ·have e2:(0:Int) < (x.holds.length:Int) :=by omega
     rw [decide_eq_false e1,decide_eq_true e2]
     cases x.ending <;> rfl
   rw [this]
   unfold objAt
   rw [Bool.and_assoc]
   rfl
  have hq:(∃ y,(b.objects.take i).find? (fun o =>decide (x.version = o.version)) = some y)→((b.objects.take i).all fun y =>!decide (y.version = x.version)) = false :=by
   rintro ⟨y,hy⟩
   rw [List.all_eq_false]
   have :=List.find?_some hy
   exact ⟨y,List.mem_of_find?_eq_some hy,by simp at this; simp [this]⟩
  have hq2:(b.objects.take i).find? (fun o =>decide (x.version = o.version)) = none→((b.objects.take i).all fun y =>!decide (y.version = x.version)) = true :=by
   intro h
   rw [List.all_eq_true]
   intro y hy
   have :=List.find?_eq_none.1 h y hy
   simp at this
   simp
   exact fun e =>this e.symm
  rw [hA] at hE
  generalize (partsB x b.now && endB x false) = z at *
  simp only [VO.c] at hr h1 h2 po
  cases z
  ·right
   simp only [Bool.false_and] at hE
   simp only [rA,seval,e17,e43,VBook.c,VO.c,hlt,hr,hi0,h1,hE]
  rcases fstR_cases (fun o =>decide (x.version = o.version)) verC (b.objects.take i) with ⟨f1,f2⟩ | ⟨j,y,f1,f2,f3,f4,f5⟩
  case inr =>
   right
   have hq' :=hq ⟨y,f1⟩
   rw [hq',Bool.and_false,Bool.and_false,Bool.false_and] at hE
   rw [f5] at fv
   simp only [verC] at fv
   simp only [rA,seval,e17,e43,VBook.c,VO.c,hlt,hr,hi0,h1,hE,fv]
  rw [hq2 f1,Bool.and_true,Bool.true_and] at hE
  rw [f2] at fv
  have fv' :=fv
  rcases prevO_cases b.objects (Nat.le_of_lt hlen) hll with ⟨h0,hp⟩ | ⟨p,h0,hj0,hw2,hj,hp⟩
  ·left
   rw [hp] at hE
   refine ⟨(),?_,trivial,by rw [hE,Bool.true_and]⟩
   simp only [rA,seval,e17,e43,e44,VBook.c,VO.c,hlt,hr,hi0,h1,h2,fv,fo,po,vs,h0,hwi,i64c]
  ·have hrj :=getElem?_map_some (f :=VO.c .shr) hj
   have h3 :=k44 p
   have h4 :=k45 p.kind p.name x.kind x.name
   have hk:(match prevO b.objects i with | none =>true | some p =>decide (keyO p x < 0)) = !decide (0≤keyO p x) :=by
    rw [hp,Bool.eq_iff_iff]
    simp
   rw [show (match prevO b.objects i with | none =>true | some p =>decide (keyO p x < 0)) = !decide (0≤keyO p x) from hk] at hE
   simp only [VO.c] at hrj h3
   have hkk:keyI p.kind p.name x.kind x.name = keyO p x :=rfl
   rw [hkk] at h4
   by_cases d:0≤keyO p x
   ·right
    rw [decide_eq_true d] at hE
    simp only [Bool.not_true,Bool.false_and] at hE
    simp only [rA,seval,e17,e43,e44,e45,VBook.c,VO.c,hlt,hr,hi0,h1,h2,h3,h4,fv,h0,hj0,hw2,hrj,hE,d]
   ·left
    rw [decide_eq_false d] at hE
    refine ⟨(),?_,trivial,by rw [hE]; rfl⟩
    simp only [rA,seval,e17,e43,e44,e45,VBook.c,VO.c,hlt,hr,hi0,h1,h2,h3,h4,fv,fo,po,vs,h0,hj0,hw2,hrj,d,hwi,i64c]
 ·intro a _
  simp only [rA,seval,e17,VBook.c,objsF,List.take_length]
theorem cmp_neg (a b:ByteArray):cmpS a b < 0↔a.toList < b.toList :=by
 unfold cmpS
 rw [bytesLess_eq,bytesLess_eq]
 by_cases h:a.toList < b.toList
 ·simp [h]
 ·by_cases h2:b.toList < a.toList <;> simp [h,h2]
theorem cmp_trans {a b c:ByteArray} (h1:cmpS a b < 0) (h2:cmpS b c < 0):cmpS a c < 0 :=by
 rw [cmp_neg] at *
 exact List.lt_trans h1 h2
theorem key_trans {x y z:VO} (h1:keyO x y < 0) (h2:keyO y z < 0):keyO x z < 0 :=by
 unfold keyO keyI at *
 by_cases e1:cmpS x.kind y.kind = 0
 ·rw [if_pos e1] at h1
  have k1 :=(cmp_zero _ _).1 e1
  rw [k1]
  by_cases e2:cmpS y.kind z.kind = 0
  ·rw [if_pos e2] at h2 ⊢
   exact cmp_trans h1 h2
  ·rw [if_neg e2] at h2 ⊢
   exact h2
 ·rw [if_neg e1] at h1
  by_cases e2:cmpS y.kind z.kind = 0
  ·have k2 :=(cmp_zero _ _).1 e2
   rw [← k2,if_neg e1]
   exact h1
  ·rw [if_neg e2] at h2
   have h3 :=cmp_trans h1 h2
   rw [if_neg (by omega)]
   exact h3
theorem objsF_at {b:VBook}:∀ {l:List VO} {k:Nat},objsF b k l = true→∀ i x,l[i]? = some x→objAt b (k + i) x = true
 | [],_,_,i,x,h =>by simp at h
 | y :: r,k,hF,i,x,h =>by
  rw [objsF,Bool.and_eq_true] at hF
  cases i with
  | zero =>simp at h; subst h; exact hF.1
  | succ i =>
   have :=objsF_at hF.2 i x (by simpa using h)
   rw [show k + (i + 1) = k + 1 + i by omega]
   exact this
theorem objs_lt {b:VBook} (hF:objsF b 0 b.objects = true):∀ (d j:Nat) (x y:VO),b.objects[j]? = some x→b.objects[j + d + 1]? = some y→keyO x y < 0
 | 0,j,x,y,hx,hy =>by
  have h :=objsF_at hF (j + 1) y hy
  rw [Nat.zero_add] at h
  simp only [objAt,prevO,hx,Bool.and_eq_true,decide_eq_true_eq] at h
  exact h.2.2.1
 | d + 1,j,x,y,hx,hy =>by
  have hl :=(List.getElem?_eq_some_iff.1 hy).1
  have hz:b.objects[j + 1]? = some (b.objects[j + 1]'(by omega)) :=List.getElem?_eq_getElem (by omega)
  have h1 :=objs_lt hF 0 j x _ hx hz
  have h2 :=objs_lt hF d (j + 1) _ y hz (by rw [show j + 1 + d + 1 = j + (d + 1) + 1 by omega]; exact hy)
  exact key_trans h1 h2
theorem mput_new {β:Type} {p:β→Bool} {x:β}:∀ {l:List β},(∀ y ∈ l,p y = false)→mput p x l = l ++ [x]
 | [],_ =>rfl
 | z :: l,h =>by
  rw [mput_cons,if_neg (by rw [h z List.mem_cons_self]; simp),mput_new fun y hy =>h y (List.mem_cons_of_mem _ hy)]
  rfl
theorem isO_key (o c:VO):isO o.kind o.name c = decide (keyO c o = 0) :=by
 rw [Bool.eq_iff_iff]
 simp only [isO,Bool.and_eq_true,decide_eq_true_eq,key_zero]
 exact ⟨fun h =>⟨h.1.symm,h.2.symm⟩,fun h =>⟨h.1.symm,h.2.symm⟩⟩
theorem osF_self {b:VBook} (hF:objsF b 0 b.objects = true):osF b.objects = b.objects :=by
 have key:∀ i,i≤b.objects.length→osF (b.objects.take i) = b.objects.take i :=by
  intro i
  induction i with
  | zero =>intro _; rfl
  | succ i ih =>
   intro hi
   have hx:b.objects[i]? = some (b.objects[i]'(by omega)) :=List.getElem?_eq_getElem (by omega)
   rw [osF_snoc hx,ih (by omega),take_snoc hx,oput,mput_new]
   intro y hy
   obtain ⟨j,hj,rfl⟩ :=List.getElem_of_mem hy
   rw [List.length_take] at hj
   have hy2:b.objects[j]? = some (b.objects[j]'(by omega)) :=List.getElem?_eq_getElem (by omega)
   have h :=objs_lt hF (i - j - 1) j _ (b.objects[i]'(by omega)) hy2 (by rw [show j + (i - j - 1) + 1 = i by omega]; exact hx)
   rw [isO_key,List.getElem_take]
   exact decide_eq_false (by omega)
 have :=key b.objects.length (Nat.le_refl _)
 rwa [List.take_length] at this
theorem objs_uniq {b:VBook} (hF:objsF b 0 b.objects = true) {x y:VO} (hx:x ∈ b.objects) (hy:y ∈ b.objects) (e:x.kind = y.kind∧x.name = y.name):x = y :=by
 obtain ⟨i,hi,rfl⟩ :=List.getElem_of_mem hx
 obtain ⟨j,hj,rfl⟩ :=List.getElem_of_mem hy
 have hi2:b.objects[i]? = some b.objects[i] :=List.getElem?_eq_getElem hi
 have hj2:b.objects[j]? = some b.objects[j] :=List.getElem?_eq_getElem hj
 have e2 :=(key_zero _ _).2 e
 have e3 :=(key_zero b.objects[j] b.objects[i]).2 ⟨e.1.symm,e.2.symm⟩
 rcases Nat.lt_trichotomy i j with h | h | h
 ·have :=objs_lt hF (j - i - 1) i _ _ hi2 (by rw [show i + (j - i - 1) + 1 = j by omega]; exact hj2)
  omega
 ·subst h; rfl
 ·have :=objs_lt hF (i - j - 1) j _ _ hj2 (by rw [show j + (i - j - 1) + 1 = i by omega]; exact hi2)
  omega
def same (a c:VC):Prop :=a.object.kind = c.object.kind∧a.object.name = c.object.name
theorem isC_same (a c:VC):isC a.object.kind a.object.name c = true↔same a c :=by
 simp only [isC,Bool.and_eq_true,decide_eq_true_eq,same]
theorem cput_dist {l:List VC} {x:VC} (h:l.Pairwise fun a c =>¬ same a c):(cput l x).Pairwise fun a c =>¬ same a c :=by
 unfold cput
 induction l with
 | nil =>simp [mput]
 | cons z l ih =>
  rw [mput_cons]
  rw [List.pairwise_cons] at h
  split
  ·rename_i hz
   rw [isC_same] at hz
   rw [List.pairwise_cons]
   refine ⟨fun y hy =>?_,h.2⟩
   have :=h.1 y hy
   intro e
   exact this ⟨hz.1.symm.trans e.1,hz.2.symm.trans e.2⟩
  ·rename_i hz
   rw [isC_same] at hz
   rw [List.pairwise_cons]
   refine ⟨fun y hy =>?_,ih h.2⟩
   rcases mem_mput hy with rfl | hy
   ·exact fun e =>hz ⟨e.1.symm,e.2.symm⟩
   ·exact h.1 y hy
theorem csF_dist (l:List VC):(csF l).Pairwise fun a c =>¬ same a c :=by
 have key:∀ (l a:List VC),(a.Pairwise fun a c =>¬ same a c)→(l.foldl cput a).Pairwise fun a c =>¬ same a c :=by
  intro l
  induction l with
  | nil =>intro a h; exact h
  | cons x l ih =>intro a h; exact ih _ (cput_dist h)
 exact key l [] List.Pairwise.nil
theorem find_self:∀ {l:List VC} {c:VC},(l.Pairwise fun a c =>¬ same a c)→c ∈ l→l.find? (isC c.object.kind c.object.name) = some c
 | [],_,_,h =>by cases h
 | z :: l,c,hp,h =>by
  rw [List.pairwise_cons] at hp
  rw [List.find?_cons]
  rcases List.mem_cons.1 h with rfl | h
  ·have:isC c.object.kind c.object.name c = true :=(isC_same c c).2 ⟨rfl,rfl⟩
   rw [this]
  ·have:isC c.object.kind c.object.name z = false :=by
    cases e:isC c.object.kind c.object.name z with
    | false =>rfl
    | true =>
     have e2 :=(isC_same c z).1 e
     exact absurd ⟨e2.1.symm,e2.2.symm⟩ (hp.1 c h)
   rw [this]
   exact find_self hp.2 h
theorem csF_all (b:VBook) (o:VO):(csF b.history).find? (isC o.kind o.name) = lastO b.history o b.history.length :=by
 have :=csF_find b.history o b.history.length (Nat.le_refl _)
 rwa [List.take_length] at this
theorem last_self {b:VBook} {c:VC} (h:c ∈ csF b.history):lastO b.history c.object b.history.length = some c :=by
 rw [← csF_all]
 exact find_self (csF_dist _) h
theorem last_mem {b:VBook} {o:VO} {c:VC} (h:lastO b.history o b.history.length = some c):c ∈ csF b.history∧o.kind = c.object.kind∧o.name = c.object.name :=by
 rw [← csF_all] at h
 have h2 :=List.find?_some h
 simp only [isC,Bool.and_eq_true,decide_eq_true_eq] at h2
 exact ⟨List.mem_of_find?_eq_some h,h2⟩
theorem same_comm (x y:VO):sameB x y = sameB y x :=by
 rw [Bool.eq_iff_iff]
 simp only [sameB,Bool.and_eq_true,decide_eq_true_eq,beq_iff_eq]
 constructor <;> (rintro ⟨h1,h2,h3,h4,h5,h6,h7⟩; exact ⟨h1.symm,h2.symm,h3.symm,h4.symm,h5.symm,h6.symm,h7.symm⟩)
theorem isKey_isO (k n:ByteArray):isKey k n = isO k n :=by
 funext o
 rw [Bool.eq_iff_iff]
 simp only [isKey,isO,Bool.and_eq_true,decide_eq_true_eq]
 exact ⟨fun h =>⟨h.1.symm,h.2.symm⟩,fun h =>⟨h.1.symm,h.2.symm⟩⟩
theorem bfind_some (l:List VO) (k n:ByteArray):(bfind l k n).2 = (l.find? (isO k n)).isSome :=by
 unfold bfind
 rw [isKey_isO]
 cases l.find? (isO k n) <;> rfl
theorem hist3F_all (b:VBook):∀ (l:List VC) (k:Nat),hist3F b k l = true↔∀ i c,l[i]? = some c→hist3 b (k + i) c = true
 | [],k =>by simp [hist3F]
 | x :: r,k =>by
  rw [hist3F,Bool.and_eq_true,hist3F_all b r (k + 1)]
  constructor
  ·rintro ⟨h1,h2⟩ i c hc
   cases i with
   | zero =>simp at hc; subst hc; exact h1
   | succ i =>
    have :=h2 i c (by simpa using hc)
    rwa [show k + 1 + i = k + (i + 1) by omega] at this
  ·intro h
   refine ⟨h 0 x rfl,fun i c hc =>?_⟩
   have :=h (i + 1) c (by simpa using hc)
   rwa [show k + (i + 1) = k + 1 + i by omega] at this
theorem valid_maps {b:VBook} (hF:objsF b 0 b.objects = true):(b.objects.all (hist2 b) && hist3F b 0 b.history) = ((csF b.history).all (chk3 b) && (osF b.objects).all (chk4 b)) :=by
 rw [Bool.eq_iff_iff]
 simp only [Bool.and_eq_true,List.all_eq_true,hist3F_all]
 rw [osF_self hF]
 constructor
 ·rintro ⟨h2,h3⟩
  refine ⟨fun c hc =>?_,fun o ho =>?_⟩
  ·have hL :=last_self hc
   unfold chk3
   rw [osF_self hF]
   cases hf:b.objects.find? (isO c.object.kind c.object.name) with
   | some o =>
    have ho :=List.mem_of_find?_eq_some hf
    have hk :=List.find?_some hf
    simp only [isO,Bool.and_eq_true,decide_eq_true_eq] at hk
    have h :=h2 o ho
    unfold hist2 at h
    rw [← csF_all,← hk.1,← hk.2,csF_all,hL] at h
    simp only at h ⊢
    rw [same_comm]
    exact h
   | none =>
    rcases last_cases b.history c.object b.history.length (Nat.le_refl _) with ⟨l1,l2⟩ | ⟨j,q,l1,l2,l3,l4,l5⟩
    ·rw [hL] at l2; cases l2
    ·rw [hL] at l5
     cases l5
     have h :=h3 j c l3
     rw [Nat.zero_add] at h
     unfold hist3 at h
     rw [l1,bfind_some,hf] at h
     simpa using h
  ·have h :=h2 o ho
   unfold hist2 at h
   unfold chk4
   rw [csF_all]
   cases hl:lastO b.history o b.history.length with
   | some d =>simp
   | none =>rw [hl] at h; simpa using h
 ·rintro ⟨h3,h4⟩
  refine ⟨fun o ho =>?_,fun j c hc =>?_⟩
  ·unfold hist2
   cases hl:lastO b.history o b.history.length with
   | none =>
    have h :=h4 o ho
    unfold chk4 at h
    rw [csF_all,hl] at h
    simpa using h
   | some d =>
    obtain ⟨hm,hk⟩ :=last_mem hl
    have h :=h3 d hm
    unfold chk3 at h
    rw [osF_self hF] at h
    have hne:∃ o',b.objects.find? (isO d.object.kind d.object.name) = some o' :=by
     cases hf:b.objects.find? (isO d.object.kind d.object.name) with
     | some o' =>exact ⟨o',rfl⟩
     | none =>
      have :=List.find?_eq_none.1 hf o ho
      simp only [isO,Bool.and_eq_true,decide_eq_true_eq] at this
      exact absurd ⟨hk.1.symm,hk.2.symm⟩ this
    obtain ⟨o',hf⟩ :=hne
    have ho' :=List.mem_of_find?_eq_some hf
    have hk' :=List.find?_some hf
    simp only [isO,Bool.and_eq_true,decide_eq_true_eq] at hk'
    have:o = o' :=objs_uniq hF ho ho' ⟨hk.1.trans hk'.1,hk.2.trans hk'.2⟩
    subst this
    rw [hf] at h
    simp only at h ⊢
    rw [same_comm]
    exact h
  ·rw [Nat.zero_add]
   unfold hist3
   by_cases hl:lastF b.history c.object b.history.length = (j:Int)
   ·cases hg:c.gone
    ·rcases last_cases b.history c.object b.history.length (Nat.le_refl _) with ⟨l1,l2⟩ | ⟨i,q,l1,l2,l3,l4,l5⟩
     ·rw [l1] at hl; omega
     ·rw [l1] at hl
      have:i = j :=by omega
      subst this
      rw [hc] at l3
      cases l3
      have hm :=(last_mem l5).1
      have h :=h3 c hm
      unfold chk3 at h
      rw [osF_self hF] at h
      rw [bfind_some]
      cases hf:b.objects.find? (isO c.object.kind c.object.name) with
      | some o =>simp
      | none =>rw [hf,hg] at h; cases h
    ·simp
   ·simp [hl]
theorem valid_eq (b:VBook):(inR b.now 0 1000000 && (inR b.floor 0 b.now && ((decide ((b.objects.length:Int)≤100) && objsF b 0 b.objects) && ((decide ((b.history.length:Int)≤200) && (decide ((b.history.length:Int) = b.now - b.floor) && (hist1F b 0 b.history && (b.objects.all (hist2 b) && hist3F b 0 b.history)))) && (decide ((b.tickets.length:Int)≤50) && tickF b.now none b.tickets))))) = implB b :=by
 unfold implB
 cases hF:objsF b 0 b.objects
 ·simp
 ·rw [valid_maps hF]
  generalize inR b.now 0 1000000 = a1
  generalize inR b.floor 0 b.now = a2
  generalize decide ((b.objects.length:Int)≤100) = a3
  generalize decide ((b.history.length:Int)≤200) = a4
  generalize decide ((b.history.length:Int) = b.now - b.floor) = a5
  generalize hist1F b 0 b.history = a6
  generalize (csF b.history).all (chk3 b) = a7
  generalize (osF b.objects).all (chk4 b) = a8
  generalize decide ((b.tickets.length:Int)≤50) = a9
  generalize tickF b.now none b.tickets = a10
  cases a1 <;> cases a2 <;> cases a3 <;> cases a4 <;> cases a5 <;> cases a6 <;> cases a7 <;> cases a8 <;> cases a9 <;> rfl
theorem kS (b:VBook) (hw:b.w≤4194304):EV Try.prog E 16 [.val 0 true (b.c .shr)] = some ⟨[(false,[.p (.bool (implB b))])],[]⟩ :=by
 rw [k16 b hw,valid_eq]
theorem obj_sum {b:VBook} (hw:b.w≤4194304):sumWBookObject b.objects + b.objects.length≤4194304 :=by
 unfold VBook.w wSBookObject at hw; omega
theorem hist_at {b:VBook}:∀ {l:List VC} {k:Nat},hist1F b k l = true→∀ i x,l[i]? = some x→hist1 b (k + i) x = true
 | [],_,_,i,x,h =>by simp at h
 | y :: r,k,hF,i,x,h =>by
  rw [hist1F,Bool.and_eq_true] at hF
  cases i with
  | zero =>simp at h; subst h; exact hF.1
  | succ i =>
   have :=hist_at hF.2 i x (by simpa using h)
   rw [show k + (i + 1) = k + 1 + i by omega]
   exact this
theorem valid_facts {b:VBook} (h:implB b = true):0≤b.now∧b.now≤1000000∧0≤b.floor∧b.floor≤b.now∧(b.history.length:Int) = b.now - b.floor∧∀ (i:Nat) (x:VC),b.history[i]? = some x→x.version = b.floor + 1 + i∧x.object.version = x.version :=by
 simp only [implB,inR,Bool.and_eq_true,decide_eq_true_eq] at h
 refine ⟨h.1.1,h.1.2,h.2.1.1,h.2.1.2,h.2.2.2.2.1,fun i x hx =>?_⟩
 have :=hist_at h.2.2.2.2.2.2.2.1 i x hx
 simp only [hist1,Bool.and_eq_true,decide_eq_true_eq] at this
 rw [Nat.zero_add] at this
 exact ⟨this.1,this.2.1⟩
def cutB (b:VBook) (n:Nat):VBook :=⟨b.now,b.floor + n,b.objects,b.history.drop n,b.tickets⟩
def cutN (b:VBook) (fl:Int):Nat :=(min (max fl b.floor) b.now - b.floor).toNat
def nilB:VBook :=⟨0,0,[],[],[]⟩
def bcut (b:VBook) (fl:Int):VBook :=if implB b = true then cutB b (cutN b fl) else nilB
theorem drop_sum (l:List VC) (n:Nat):wSBookChange (l.drop n)≤wSBookChange l :=by
 induction l generalizing n with
 | nil =>simp
 | cons x l ih =>
  cases n with
  | zero =>exact Nat.le_refl _
  | succ n =>
   have :=ih n
   unfold wSBookChange at *
   simp only [List.drop_succ_cons,List.length_cons,sumWBookChange]
   omega
theorem k13 (b:VBook) (fl:Int) (hw:b.w≤4194304):EV Try.prog E 13 [.val 0 true (b.c .shr),.val 0 false [.p (.int .i64 fl)]] = some ⟨[(true,(bcut b fl).c .own)],[]⟩ :=by
 refine eVi Try.func13 rfl ?_
 have h1 :=k17 b hw
 have h2 :=k36 b hw
 simp only [VBook.c] at h1 h2
 unfold bcut
 cases d:implB b
 ·rw [d] at h1
  simp only [rA,seval,e13,e17,Try.f13,VBook.c,nilB,h1,List.map_nil]
 rw [d] at h1
 obtain ⟨v1,v2,v3,v4,v5,v6⟩ :=valid_facts d
 have hsub :=wrap64 (n :=min (max fl b.floor) b.now - b.floor) (by omega) (by omega)
 have hn:min (max fl b.floor) b.now - b.floor = (cutN b fl:Int) :=by unfold cutN; omega
 have hn0:(0:Int)≤(cutN b fl:Int) :=by omega
 have hnl:cutN b fl≤b.history.length :=by unfold cutN; omega
 have h3 :=k37 (b.history.drop (cutN b fl)) (Nat.le_trans (drop_sum _ _) (by unfold VBook.w at hw; omega))
 have hsl:List.take (b.history.length - cutN b fl) (List.drop (cutN b fl) (b.history.map (VC.c .shr))) = (b.history.drop (cutN b fl)).map (VC.c .shr) :=by
  rw [← List.map_drop,List.take_of_length_le]
  simp
 have hf:b.floor + (cutN b fl:Int) = min (max fl b.floor) b.now :=by omega
 rw [hn] at hsub
 simp only [rA,seval,e13,e17,e36,e37,Try.f13,VBook.c,cutB,h1,h2,h3,hn,hsub,hn0,hnl,hsl,hf,rwO,rwC,rwT,rwS,Nat.le_refl]
theorem cut_zero (b:VBook):cutB b 0 = b :=by
 cases b
 simp [cutB]
theorem k15 (b:VBook) (fl:Int) (hw:b.w≤4194304):EV Try.prog E 15 [.val 0 true (b.c .shr),.val 0 false [.p (.int .i64 fl)]] = some ⟨[(true,(bcut b fl).c .own)],[]⟩ :=by
 refine eVi Try.func15 rfl ?_
 have h1 :=kS b hw
 have h2 :=k38 b hw
 simp only [VBook.c] at h1 h2
 unfold bcut
 cases d:implB b
 ·rw [d] at h1
  simp only [rA,seval,e15,e16,Try.f15,VBook.c,nilB,h1,List.map_nil]
 rw [d] at h1
 obtain ⟨v1,v2,v3,v4,v5,v6⟩ :=valid_facts d
 simp only [rA,seval,e15,e16,e38,Try.f15,VBook.c,h1,h2,rwO,rwC,rwT]
 rw [while_block (fun j:Nat =>⟨3,[(1,.val 0 false [.p (.int .i64 fl)]),(4,.box 1 1 (nilB.c .own)),(5,.box 2 2 ((cutB b j).c .own))]⟩) (fun j =>j≤cutN b fl)
  (fun j =>.norm ⟨2,[(4,.box 0 0 (nilB.c .own)),(5,.box 1 1 ((cutB b (cutN b fl)).c .own))]⟩) (fun j =>b.history.length - j) ?_ (i :=0) (Nat.zero_le _) (by simp only [rA,seval,e15,VBook.c,cut_zero,nilB,List.map_nil])]
 ·simp only [rA,seval,e15,VBook.c,cutB,nilB,rwO,rwC,rwT,List.map_nil]
 ·intro j hj
  have hjl:j≤b.history.length :=by unfold cutN at hj; omega
  have hdl:(b.history.drop j).length = b.history.length - j :=List.length_drop
  by_cases e:j = cutN b fl
  ·right
   rw [← e]
   have cc:¬ (b.floor + (j:Int) < fl)∨(b.floor + (j:Int) < fl)∧¬ (0:Int) < ((b.history.drop j).length:Int) :=by
    by_cases h:b.floor + (j:Int) < fl
    ·right
     refine ⟨h,?_⟩
     unfold cutN at e
     omega
    ·exact .inl h
   rcases cc with h | ⟨h,h'⟩
   ·simp only [rA,seval,e15,VBook.c,cutB,nilB,List.map_nil,h]
   ·simp only [rA,seval,e15,VBook.c,cutB,nilB,List.map_nil,h,h']
  ·left
   have hlt:j < b.history.length :=by unfold cutN at hj e; omega
   have h1:b.floor + (j:Int) < fl :=by unfold cutN at hj e; omega
   have h2:(0:Int) < ((b.history.drop j).length:Int) :=by omega
   have hd:b.history.drop j = b.history[j] :: b.history.drop (j + 1) :=List.drop_eq_getElem_cons hlt
   have hv :=(v6 j b.history[j] (List.getElem?_eq_getElem hlt)).1
   generalize b.history[j] = c at hd hv
   refine ⟨j + 1,?_,by unfold cutN at hj e ⊢; omega,by omega,rfl⟩
   have hL:0 + (b.history.drop (j + 1)).length < 4294967296 :=by rw [List.length_drop]; omega
   have hL2:(b.history.drop (j + 1)).length < 4294967296 :=by rw [List.length_drop]; omega
   have hvv:c.version = b.floor + ((j + 1:Nat):Int) :=by omega
   rw [hd] at h2
   simp only [List.length_cons] at h2
   have hpos:0 < (b.history.drop (j + 1)).length + 1 :=Nat.succ_pos _
   have hpos1:1≤(b.history.drop (j + 1)).length + 1 :=Nat.succ_pos _
   have hadd:1 + (b.history.drop (j + 1)).length≤(b.history.drop (j + 1)).length + 1 :=by omega
   have hst:List.take (b.history.drop (j + 1)).length ((b.history.drop (j + 1)).map (VC.c .own)) = (b.history.drop (j + 1)).map (VC.c .own) :=List.take_of_length_le (by simp)
   cases hfr:allFreeRows ((b.history.drop (j + 1)).map (VC.c .own))
   all_goals simp only [rA,seval,e15,VBook.c,cutB,nilB,List.map_nil,h1,h2,hd,hadd,hst,hfr,List.map_cons,VC.c,hvv,LIM,hL,hL2,hpos,hpos1,Nat.le_refl,Nat.add_sub_cancel,List.getElem?_cons_zero,Int.toNat_zero,Int.toNat_one,rwC,rwO,rwS]
end Go.Proofs.Ytgekblcbdhjmfaa
