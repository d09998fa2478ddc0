/- Copies of objects,changes,books and mirrors: what the functions compute. -/
import Derived.Test.YtfpconipgllkkaaGreatMA
import Derived.Test.YtfpconipgllkkaaGreatSxD
namespace Go.Proofs.YtfpconipgllkkaaGreat
open Go.Sx
open Nat renaming reduceEqDiff → N1,reduceAdd → N2,reduceSub → N3,reduceMul → N4,reduceLeDiff → N5,reduceBEq → N6,reduceLT → N7
open Int renaming reduceLT → I1,reduceNeg → I2,reduceLE → I3,reduceEq → I4
open List renaming reduceReplicate → L1
set_option maxRecDepth 100000
set_option maxHeartbeats 16000000
set_option linter.unusedVariables false
set_option linter.unusedSimpArgs false
theorem map_snoc {α β:Type} (f:α → β) {l:List α} {i:Nat} {x:α} (h:l[i]? = some x):(l.take (i + 1)).map f = (l.take i).map f ++ [f x] :=by
 rw [take_snoc h,List.map_append]; rfl
theorem take_le {α:Type} (l:List α) (i:Nat):(l.take i).length ≤ l.length :=by rw [List.length_take]; omega
theorem k64 (l:List VO) (hw:wSBookObject l ≤ 4194304):EV Tryz.prog E 64 [.val 0 false [.sl .shr 7 (l.map (VO.c .shr))]] = some ⟨[(false,[.sl .own 7 (l.map (VO.c .own))])],[]⟩ :=by
 refine EV_intro Tryz.func64 rfl ?_
 unfold wSBookObject at hw
 simp only [rA,↓reduceIte,reduceCtorEq,N1,N2,N3,N4,N5,N6,N7,I1,I2,I3,I4,L1,e64,Tryz.f64]
 rw [for_block l (fun i (_:Unit) =>⟨3,[(0,.val 0 false [.sl .shr 7 (l.map (VO.c .shr))]),(3,.val 1 false [.sl .own 7 ((l.take i).map (VO.c .own))]),(4,.val 2 false [.p (.int .i64 i)])]⟩) (fun i _ =>True)
  (fun r i a =>.norm ⟨1,[(3,.val 0 false [.sl .own 7 (l.map (VO.c .own))])]⟩) ?_ ?_ (a :=()) trivial (by simp only [rA,↓reduceIte,reduceCtorEq,N1,N2,N3,N4,N5,N6,N7,I1,I2,I3,I4,L1,e64,List.take_zero,List.map_nil]; rfl)]
 ·simp only [rA,↓reduceIte,reduceCtorEq,N1,N2,N3,N4,N5,N6,N7,I1,I2,I3,I4,L1,e64,rowsBookObject]
 ·intro i x r a hd hi _
  have hlen :=(List.getElem?_eq_some_iff.1 hi).1
  have hlt:((i:Int) < (l.length:Int)) :=by omega
  have hr :=getElem?_map_some (f :=VO.c .shr) hi
  have hi0:(0:Int) ≤ (i:Int) :=by omega
  have hwi :=wrap64 (n :=(i:Int) + 1) (by omega) (by omega)
  have hxw :=sum_obj_le (List.mem_of_getElem? hi)
  have hxl:x.holds.length ≤ 4194304 :=holds_le (n :=4194304) (by omega)
  have h2 :=k102 x hxl
  have hll :=take_le l i
  have hs :=map_snoc (VO.c .own) hi
  simp only [VO.c] at h2 hr hs
  left
  refine ⟨(),?_,trivial,rfl⟩
  have hL1:(l.take i).length + 1 < 4294967296 :=by omega
  simp only [rA,↓reduceIte,reduceCtorEq,N1,N2,N3,N4,N5,N6,N7,I1,I2,I3,I4,L1,e64,e102,VO.c,hlt,hr,hi0,hwi,h2,hs,i64c,LIM,hL1,rowsBookObject,rowsString]
 ·intro a _
  simp only [rA,↓reduceIte,reduceCtorEq,N1,N2,N3,N4,N5,N6,N7,I1,I2,I3,I4,L1,e64,List.take_length]
theorem k75 (l:List VO) (hw:wSBookObject l ≤ 4194304):EV Tryz.prog E 75 [.val 0 false [.sl .shr 7 (l.map (VO.c .shr))]] = some ⟨[(false,[.sl .own 7 (l.map (VO.c .own))])],[]⟩ :=by
 refine EV_intro Tryz.func75 rfl ?_
 unfold wSBookObject at hw
 simp only [rA,↓reduceIte,reduceCtorEq,N1,N2,N3,N4,N5,N6,N7,I1,I2,I3,I4,L1,e75,Tryz.f75]
 rw [for_block l (fun i (_:Unit) =>⟨5,[(0,.val 0 false [.sl .shr 7 (l.map (VO.c .shr))]),(3,.val 1 false [.sl .own 7 ((l.take i).map (VO.c .own))]),(6,.val 2 false [.sl .shr 7 (l.map (VO.c .shr))]),(7,.val 3 false [.p (.int .i64 l.length)]),(8,.val 4 false [.p (.int .i64 i)])]⟩) (fun i _ =>True)
  (fun r i a =>.norm ⟨1,[(3,.val 0 false [.sl .own 7 (l.map (VO.c .own))])]⟩) ?_ ?_ (a :=()) trivial (by simp only [rA,↓reduceIte,reduceCtorEq,N1,N2,N3,N4,N5,N6,N7,I1,I2,I3,I4,L1,e75,List.take_zero,List.map_nil]; rfl)]
 ·simp only [rA,↓reduceIte,reduceCtorEq,N1,N2,N3,N4,N5,N6,N7,I1,I2,I3,I4,L1,e75,rowsBookObject]
 ·intro i x r a hd hi _
  have hlen :=(List.getElem?_eq_some_iff.1 hi).1
  have hlt:((i:Int) < (l.length:Int)) :=by omega
  have hr :=getElem?_map_some (f :=VO.c .shr) hi
  have hi0:(0:Int) ≤ (i:Int) :=by omega
  have hwi :=wrap64 (n :=(i:Int) + 1) (by omega) (by omega)
  have hxw :=sum_obj_le (List.mem_of_getElem? hi)
  have hxl:x.holds.length ≤ 4194304 :=holds_le (n :=4194304) (by omega)
  have h2 :=k90 x hxl
  have hll :=take_le l i
  have hs :=map_snoc (VO.c .own) hi
  simp only [VO.c] at h2 hr hs
  left
  refine ⟨(),?_,trivial,rfl⟩
  have hL1:(l.take i).length + 1 < 4294967296 :=by omega
  simp only [rA,↓reduceIte,reduceCtorEq,N1,N2,N3,N4,N5,N6,N7,I1,I2,I3,I4,L1,e75,e90,VO.c,hlt,hr,hi0,hwi,h2,hs,i64c,LIM,hL1,rowsBookObject,rowsString]
 ·intro a _
  simp only [rA,↓reduceIte,reduceCtorEq,N1,N2,N3,N4,N5,N6,N7,I1,I2,I3,I4,L1,e75,List.take_length]
theorem k65 (l:List VC) (hw:wSBookChange l ≤ 4194304):EV Tryz.prog E 65 [.val 0 false [.sl .shr 9 (l.map (VC.c .shr))]] = some ⟨[(false,[.sl .own 9 (l.map (VC.c .own))])],[]⟩ :=by
 refine EV_intro Tryz.func65 rfl ?_
 unfold wSBookChange at hw
 simp only [rA,↓reduceIte,reduceCtorEq,N1,N2,N3,N4,N5,N6,N7,I1,I2,I3,I4,L1,e65,Tryz.f65]
 rw [for_block l (fun i (_:Unit) =>⟨3,[(0,.val 0 false [.sl .shr 9 (l.map (VC.c .shr))]),(3,.val 1 false [.sl .own 9 ((l.take i).map (VC.c .own))]),(4,.val 2 false [.p (.int .i64 i)])]⟩) (fun i _ =>True)
  (fun r i a =>.norm ⟨1,[(3,.val 0 false [.sl .own 9 (l.map (VC.c .own))])]⟩) ?_ ?_ (a :=()) trivial (by simp only [rA,↓reduceIte,reduceCtorEq,N1,N2,N3,N4,N5,N6,N7,I1,I2,I3,I4,L1,e65,List.take_zero,List.map_nil]; rfl)]
 ·simp only [rA,↓reduceIte,reduceCtorEq,N1,N2,N3,N4,N5,N6,N7,I1,I2,I3,I4,L1,e65,rowsBookChange]
 ·intro i x r a hd hi _
  have hlen :=(List.getElem?_eq_some_iff.1 hi).1
  have hlt:((i:Int) < (l.length:Int)) :=by omega
  have hr :=getElem?_map_some (f :=VC.c .shr) hi
  have hi0:(0:Int) ≤ (i:Int) :=by omega
  have hwi :=wrap64 (n :=(i:Int) + 1) (by omega) (by omega)
  have hxw :=wSBookChange_mem (List.mem_of_getElem? hi)
  have hxl:x.object.holds.length ≤ 4194304 :=holds_le (n :=4194304) (by unfold VC.w at hxw; omega)
  have h2 :=k102 x.object hxl
  have hll :=take_le l i
  have hs :=map_snoc (VC.c .own) hi
  simp only [VO.c,VC.c] at h2 hr hs
  left
  refine ⟨(),?_,trivial,rfl⟩
  have hL1:(l.take i).length + 1 < 4294967296 :=by omega
  simp only [rA,↓reduceIte,reduceCtorEq,N1,N2,N3,N4,N5,N6,N7,I1,I2,I3,I4,L1,e65,e102,VO.c,VC.c,hlt,hr,hi0,hwi,h2,hs,i64c,LIM,hL1,rowsBookChange,rowsBookObject,rowsString]
 ·intro a _
  simp only [rA,↓reduceIte,reduceCtorEq,N1,N2,N3,N4,N5,N6,N7,I1,I2,I3,I4,L1,e65,List.take_length]
theorem k76 (l:List VC) (hw:wSBookChange l ≤ 4194304):EV Tryz.prog E 76 [.val 0 false [.sl .shr 9 (l.map (VC.c .shr))]] = some ⟨[(false,[.sl .own 9 (l.map (VC.c .own))])],[]⟩ :=by
 refine EV_intro Tryz.func76 rfl ?_
 unfold wSBookChange at hw
 simp only [rA,↓reduceIte,reduceCtorEq,N1,N2,N3,N4,N5,N6,N7,I1,I2,I3,I4,L1,e76,Tryz.f76]
 rw [for_block l (fun i (_:Unit) =>⟨5,[(0,.val 0 false [.sl .shr 9 (l.map (VC.c .shr))]),(3,.val 1 false [.sl .own 9 ((l.take i).map (VC.c .own))]),(6,.val 2 false [.sl .shr 9 (l.map (VC.c .shr))]),(7,.val 3 false [.p (.int .i64 l.length)]),(8,.val 4 false [.p (.int .i64 i)])]⟩) (fun i _ =>True)
  (fun r i a =>.norm ⟨1,[(3,.val 0 false [.sl .own 9 (l.map (VC.c .own))])]⟩) ?_ ?_ (a :=()) trivial (by simp only [rA,↓reduceIte,reduceCtorEq,N1,N2,N3,N4,N5,N6,N7,I1,I2,I3,I4,L1,e76,List.take_zero,List.map_nil]; rfl)]
 ·simp only [rA,↓reduceIte,reduceCtorEq,N1,N2,N3,N4,N5,N6,N7,I1,I2,I3,I4,L1,e76,rowsBookChange]
 ·intro i x r a hd hi _
  have hlen :=(List.getElem?_eq_some_iff.1 hi).1
  have hlt:((i:Int) < (l.length:Int)) :=by omega
  have hr :=getElem?_map_some (f :=VC.c .shr) hi
  have hi0:(0:Int) ≤ (i:Int) :=by omega
  have hwi :=wrap64 (n :=(i:Int) + 1) (by omega) (by omega)
  have hxw :=wSBookChange_mem (List.mem_of_getElem? hi)
  have hxl:x.object.holds.length ≤ 4194304 :=holds_le (n :=4194304) (by unfold VC.w at hxw; omega)
  have h2 :=k90 x.object hxl
  have hll :=take_le l i
  have hs :=map_snoc (VC.c .own) hi
  simp only [VO.c,VC.c] at h2 hr hs
  left
  refine ⟨(),?_,trivial,rfl⟩
  have hL1:(l.take i).length + 1 < 4294967296 :=by omega
  simp only [rA,↓reduceIte,reduceCtorEq,N1,N2,N3,N4,N5,N6,N7,I1,I2,I3,I4,L1,e76,e90,VO.c,VC.c,hlt,hr,hi0,hwi,h2,hs,i64c,LIM,hL1,rowsBookChange,rowsBookObject,rowsString]
 ·intro a _
  simp only [rA,↓reduceIte,reduceCtorEq,N1,N2,N3,N4,N5,N6,N7,I1,I2,I3,I4,L1,e76,List.take_length]
theorem k29 (b:VBook) (hw:b.w ≤ 4194304):EV Tryz.prog E 29 [.val 0 true (b.c .shr)] = some ⟨[(true,b.c .own)],[]⟩ :=by
 refine EV_intro Tryz.func29 rfl ?_
 have h1 :=k64 b.objects (by unfold VBook.w at hw; omega)
 have h2 :=k65 b.history (by unfold VBook.w at hw; omega)
 have h3:0 + b.tickets.length < 4294967296 :=by unfold VBook.w wSBookTicket at hw; omega
 have h4:b.tickets.length < 4294967296 :=by unfold VBook.w wSBookTicket at hw; omega
 simp only [rA,↓reduceIte,reduceCtorEq,N1,N2,N3,N4,N5,N6,N7,I1,I2,I3,I4,L1,e29,e64,e65,Tryz.f29,VBook.c,h1,h2,h3,h4,LIM,rowsBookObject,rowsBookChange,rowsBookTicket]
theorem k37 (b:VBook) (hw:b.w ≤ 4194304):EV Tryz.prog E 37 [.val 0 true (b.c .shr)] = some ⟨[(true,b.c .own)],[]⟩ :=by
 refine EV_intro Tryz.func37 rfl ?_
 have h1 :=k75 b.objects (by unfold VBook.w at hw; omega)
 have h2 :=k76 b.history (by unfold VBook.w at hw; omega)
 have h3:0 + b.tickets.length < 4294967296 :=by unfold VBook.w wSBookTicket at hw; omega
 have h4:b.tickets.length < 4294967296 :=by unfold VBook.w wSBookTicket at hw; omega
 simp only [rA,↓reduceIte,reduceCtorEq,N1,N2,N3,N4,N5,N6,N7,I1,I2,I3,I4,L1,e37,e75,e76,Tryz.f37,VBook.c,h1,h2,h3,h4,LIM,rowsBookObject,rowsBookChange,rowsBookTicket]
def neK (o x:VO):Bool :=!decide (keyO x o = 0)
def geK (o x:VO):Bool :=decide (0 ≤ keyO x o)
def putR (o:VO):Bool → List VO → List VO
 | done,[] =>if done = true then [] else [o]
 | done,x :: r =>(if (!done && geK o x) = true then [o] else []) ++ ((if neK o x = true then [x] else []) ++ putR o (done || geK o x) r)
theorem putR_done (o:VO):∀ l,putR o true l = l.filter (neK o)
 | [] =>rfl
 | x :: r =>by
  rw [putR,Bool.true_or,putR_done o r,List.filter_cons]
  simp only [Bool.not_true,Bool.false_and,Bool.false_eq_true,if_false,List.nil_append]
  split <;> simp
def putI (o:VO) (i:Int):Nat → List VO → List VO
 | _,[] =>[]
 | j,x :: r =>(if (j:Int) = i then [o] else []) ++ ((if neK o x = true then [x] else []) ++ putI o i (j + 1) r)
def endI (o:VO) (i:Int) (n:Nat):List VO :=if i = (n:Int) then [o] else []
theorem putI_late (o:VO) {i:Int}:∀ (l:List VO) (j:Nat),i < j → putI o i j l = putR o true l
 | [],_,_ =>rfl
 | x :: r,j,h =>by
  rw [putI,putR,if_neg (by omega),putI_late o r (j + 1) (by omega)]
  simp
def plc (o:VO) (l:List VO):Int :=if idxF (geK o) l 0 < 0 then (l.length:Int) else idxF (geK o) l 0
theorem idxF_shift (p:VO → Bool):∀ (l:List VO) (k:Nat),idxF p l k = if idxF p l 0 < 0 then -1 else idxF p l 0 + k
 | [],k =>by simp [idxF]
 | x :: r,k =>by
  have h1 :=idxF_shift p r (k + 1)
  have h2 :=idxF_shift p r (0 + 1)
  simp only [idxF]
  by_cases hp:p x = true
  ·simp [hp]
  ·simp only [hp,Bool.false_eq_true,if_false]
   rw [h1,h2]
   have :=(idxF_lt p (l :=r)).2
   by_cases hn:idxF p r 0 < 0
   ·simp [hn]
   ·simp only [hn,if_false]
    rw [if_neg (by omega)]
    omega
theorem ite_len (b:Bool) (x:VO):(if b = true then [x] else []).length ≤ 1 :=by cases b <;> simp
theorem ite_sum (b:Bool) (x:VO):sumWBookObject (if b = true then [x] else []) ≤ x.w :=by cases b <;> simp [sumWBookObject]
theorem put_eq (o:VO):∀ (l:List VO) (j:Nat),putI o (plc o l + j) j l ++ endI o (plc o l + j) (j + l.length) = putR o false l
 | [],j =>by
  have:plc o [] = 0 :=by unfold plc idxF; simp
  rw [this]
  simp [putI,putR,endI]
 | x :: r,j =>by
  have ih :=put_eq o r (j + 1)
  have hsh :=idxF_shift (geK o) r 1
  have hlt :=idxF_lt (geK o) (l :=r)
  cases hg:geK o x
  ·have hp:plc o (x :: r) = plc o r + 1 :=by
    unfold plc
    rw [show idxF (geK o) (x :: r) 0 = idxF (geK o) r 1 by simp only [idxF,hg]; simp]
    rw [hsh]
    by_cases hn:idxF (geK o) r 0 < 0
    ·simp [hn]
    ·simp only [hn,if_false]
     rw [if_neg (by omega)]
     omega
   have h0:0 ≤ plc o r :=by unfold plc; split <;> omega
   rw [hp,putI,putR,hg,if_neg (by omega)]
   simp only [Bool.and_false,Bool.false_eq_true,if_false,List.nil_append,Bool.or_false,List.append_assoc]
   rw [← ih]
   have e1:plc o r + 1 + (j:Int) = plc o r + ((j + 1:Nat):Int) :=by omega
   have e2:j + (x :: r).length = j + 1 + r.length :=by simp; omega
   rw [e1,e2]
  ·have hp:plc o (x :: r) = 0 :=by
    unfold plc
    rw [show idxF (geK o) (x :: r) 0 = 0 by simp only [idxF,hg]; simp]
    simp
   rw [hp,putI,putR,hg,if_pos (by omega),putI_late o r (j + 1) (by omega)]
   have:endI o (0 + (j:Int)) (j + (x :: r).length) = [] :=by unfold endI; rw [if_neg]; simp; omega
   rw [this]
   simp
theorem putR_eq (o:VO) (l:List VO):putI o (plc o l) 0 l ++ endI o (plc o l) l.length = putR o false l :=by
 have :=put_eq o l 0
 simpa using this
theorem putR_len (o:VO):∀ (d:Bool) (l:List VO),(putR o d l).length ≤ l.length + 1
 | d,[] =>by cases d <;> simp [putR]
 | true,x :: r =>by rw [putR_done]; have :=List.length_filter_le (neK o) (x :: r); omega
 | false,x :: r =>by
  rw [putR,List.length_append,List.length_append]
  have h1 :=ite_len (neK o x) x
  cases hg:geK o x
  ·have :=putR_len o false r
   simp only [Bool.and_false,Bool.or_false,Bool.false_eq_true,if_false,List.length_nil,List.length_cons]
   omega
  ·rw [Bool.or_true,putR_done]
   have :=List.length_filter_le (neK o) r
   simp only [Bool.and_true,Bool.not_false,if_true,List.length_cons,List.length_nil]
   omega
theorem sumObj_filter (p:VO → Bool):∀ l:List VO,sumWBookObject (l.filter p) ≤ sumWBookObject l
 | [] =>by simp
 | x :: r =>by
  have :=sumObj_filter p r
  rw [List.filter_cons]
  split <;> simp only [sumWBookObject] <;> omega
theorem sumObj_append:∀ a b:List VO,sumWBookObject (a ++ b) = sumWBookObject a + sumWBookObject b
 | [],b =>by simp [sumWBookObject]
 | x :: a,b =>by simp only [List.cons_append,sumWBookObject,sumObj_append a b]; omega
theorem putR_sum (o:VO):∀ (d:Bool) (l:List VO),sumWBookObject (putR o d l) ≤ sumWBookObject l + o.w
 | d,[] =>by cases d <;> simp [putR,sumWBookObject]
 | true,x :: r =>by rw [putR_done]; have :=sumObj_filter (neK o) (x :: r); omega
 | false,x :: r =>by
  rw [putR,sumObj_append,sumObj_append]
  have h1 :=ite_sum (neK o x) x
  have e:sumWBookObject (x :: r) = x.w + sumWBookObject r :=rfl
  rw [e]
  cases hg:geK o x
  ·have :=putR_sum o false r
   have e0:sumWBookObject (if (!false && false) = true then [o] else []) = 0 :=rfl
   rw [e0]
   simp only [Bool.or_false]
   omega
  ·rw [Bool.or_true,putR_done]
   have :=sumObj_filter (neK o) r
   have e0:sumWBookObject (if (!false && true) = true then [o] else []) = o.w :=by simp [sumWBookObject]
   rw [e0]
   omega
theorem putR_w (o:VO) (d:Bool) (l:List VO):wSBookObject (putR o d l) ≤ wSBookObject l + (o.w + 1) :=by
 unfold wSBookObject
 have h1 :=putR_len o d l
 have h2 :=putR_sum o d l
 omega
def jr (q:VO × C):List C :=[.p (.string q.1.kind),.p (.string q.1.name),.p (.int .i64 q.1.version),.p (.int .i64 q.1.born),.p (.string q.1.text),.p (.bool q.1.ending),q.2]
theorem own_jr (x:VO):x.c .own = jr (x,.sl .own 1 (x.holds.map strC)) :=rfl
def InvD (p:VO → Bool) (l:List VO) (j:Nat) (a:List (List C) × Nat):Prop :=∃ kept junk,a.1 = kept.map (VO.c .own) ++ (junk.map jr ++ (l.drop j).map (VO.c .own)) ∧ a.2 = kept.length ∧ kept.length + junk.length = j ∧ junk ≠ [] ∧
 (∀ q ∈ junk,q.2.loose = true) ∧ kept = (l.take j).filter (fun x =>!p x)
def stepD (p:VO → Bool) (j:Nat) (a:List (List C) × Nat) (x:VO):List (List C) × Nat :=if p x = true then (a.1.set j (jr (x,.hole)),a.2) else ((a.1.set j (jr (x,.hole))).set a.2 (x.c .own),a.2 + 1)
def runD (p:VO → Bool):Nat → List (List C) × Nat → List VO → List (List C) × Nat
 | _,a,[] =>a
 | j,a,x :: r =>runD p (j + 1) (stepD p j a x) r
theorem invD_facts {p:VO → Bool} {l:List VO} {j:Nat} {a:List (List C) × Nat} {x:VO} (h:InvD p l j a) (hx:l[j]? = some x) :
  a.1.length = l.length ∧ a.1[j]? = some (x.c .own) ∧ a.2 < j ∧ (∃ q,(a.1.set j (jr (x,.hole)))[a.2]? = some (jr q) ∧ q.2.loose = true) ∧ InvD p l (j + 1) (stepD p j a x) :=by
 obtain ⟨kept,junk,h1,h2,h3,h4,h5,h6⟩ :=h
 have hlt :=(List.getElem?_eq_some_iff.1 hx).1
 have hd:l.drop j = x :: l.drop (j + 1) :=by
  rw [List.drop_eq_getElem_cons hlt]
  congr 1
  exact (List.getElem?_eq_some_iff.1 hx).2
 have hjl:0 < junk.length :=List.length_pos_iff.2 h4
 have hset:a.1.set j (jr (x,.hole)) = kept.map (VO.c .own) ++ (junk.map jr ++ jr (x,.hole) :: (l.drop (j + 1)).map (VO.c .own)) :=by
  rw [h1,hd,List.map_cons]
  rw [List.set_append_right _ _ (by simp; omega),List.set_append_right _ _ (by simp; omega)]
  simp only [List.length_map]
  rw [show j - kept.length - junk.length = 0 by omega]
  rfl
 obtain ⟨q,junk',hj⟩:∃ q junk',junk = q :: junk' :=by
  cases junk with
  | nil =>exact absurd rfl h4
  | cons q r =>exact ⟨q,r,rfl⟩
 have htk:(l.take (j + 1)).filter (fun x =>!p x) = if p x = true then kept else kept ++ [x] :=by
  rw [take_snoc hx,List.filter_append,← h6]
  cases hp:p x <;> simp [hp]
 refine ⟨?_,?_,by omega,⟨q,?_,h5 q (by rw [hj]; simp)⟩,?_⟩
 ·rw [h1]
  simp
  omega
 ·rw [h1,hd,List.getElem?_append_right (by simp; omega),List.getElem?_append_right (by simp; omega)]
  simp only [List.length_map]
  rw [show j - kept.length - junk.length = 0 by omega]
  rfl
 ·rw [hset,h2,hj,List.getElem?_append_right (by simp)]
  simp
 ·unfold stepD
  by_cases hp:p x = true
  ·rw [if_pos hp]
   refine ⟨kept,junk ++ [(x,.hole)],?_,h2,by simp; omega,by simp,?_,by rw [htk,if_pos hp]⟩
   ·show a.1.set j (jr (x,.hole)) = _
    rw [hset]
    simp
   ·intro q' hq'
    rcases List.mem_append.1 hq' with hq' | hq'
    ·exact h5 q' hq'
    ·simp at hq'
     rw [hq']
     rfl
  ·rw [if_neg hp]
   refine ⟨kept ++ [x],junk' ++ [(x,.hole)],?_,by simp [h2],by rw [hj] at h3; simp at h3 ⊢; omega,by simp,?_,by rw [htk,if_neg hp]⟩
   ·show (a.1.set j (jr (x,.hole))).set a.2 (x.c .own) = _
    rw [hset,h2,hj,List.set_append_right _ _ (by simp)]
    simp
   ·intro q' hq'
    rcases List.mem_append.1 hq' with hq' | hq'
    ·exact h5 q' (by rw [hj]; exact List.mem_cons_of_mem _ hq')
    ·simp at hq'
     rw [hq']
     rfl
theorem runD_inv {p:VO → Bool} {l:List VO}:∀ (r:List VO) (j:Nat) {a:List (List C) × Nat},l.drop j = r → InvD p l j a → InvD p l (j + r.length) (runD p j a r)
 | [],j,a,_,h =>h
 | x :: r,j,a,hd,h =>by
  have hx:l[j]? = some x :=by
   have :=congrArg (fun t =>t[0]?) hd
   simpa using this
  have h2 :=(invD_facts h hx).2.2.2.2
  have hd':l.drop (j + 1) = r :=by
   rw [← List.drop_drop,hd]
   rfl
  have :=runD_inv r (j + 1) hd' h2
  rw [List.length_cons,show j + (r.length + 1) = j + 1 + r.length by omega]
  exact this
theorem filter_all {p:VO → Bool}:∀ {l:List VO},l.find? p = none → l.filter (fun x =>!p x) = l
 | [],_ =>rfl
 | x :: r,h =>by
  rw [List.find?_cons] at h
  cases hp:p x
  ·rw [hp] at h
   rw [List.filter_cons,hp]
   simp only [Bool.not_false,if_true]
   rw [filter_all (l :=r) h]
  ·rw [hp] at h; cases h
theorem idxF_none {p:VO → Bool} {l:List VO} (h:idxF p l 0 = -1):l.find? p = none :=by
 rcases idxF_find p l 0 with ⟨h1,_⟩ | ⟨i,o,_,_,_,h4⟩
 ·exact h1
 ·rw [h] at h4; omega
theorem take_none {p:VO → Bool}:∀ {l:List VO} {i k:Nat},idxF p l k = ((k + i:Nat):Int) → ∃ x,l[i]? = some x ∧ p x = true ∧ (l.take i).filter (fun x =>!p x) = l.take i
 | [],i,k,h =>by simp [idxF] at h; omega
 | x :: r,i,k,h =>by
  simp only [idxF] at h
  cases hp:p x
  ·rw [hp] at h
   simp only [Bool.false_eq_true,if_false] at h
   cases i with
   | zero =>
    have :=idxF_ge p r (k + 1)
    omega
   | succ i =>
    obtain ⟨y,h1,h2,h3⟩ :=take_none (l :=r) (i :=i) (k :=k + 1) (by rw [h]; omega)
    exact ⟨y,by simpa using h1,h2,by rw [List.take_succ_cons,List.filter_cons,hp]; simp only [Bool.not_false,if_true]; rw [h3]⟩
  ·rw [hp] at h
   simp only [if_true] at h
   have:i = 0 :=by omega
   subst this
   exact ⟨x,rfl,hp,rfl⟩
where idxF_ge (p:VO → Bool):∀ (l:List VO) (k:Nat),idxF p l k = -1 ∨ (k:Int) ≤ idxF p l k
 | [],k =>.inl rfl
 | x :: r,k =>by
  simp only [idxF]
  cases p x
  ·simp only [Bool.false_eq_true,if_false]
   rcases idxF_ge p r (k + 1) with h | h
   ·exact .inl h
   ·exact .inr (by omega)
  ·simp
theorem k114 {f:FuncId} {cp:List C} {p:VO → Bool} (l:List VO) (hl:l.length ≤ 4194304) (hm:(E.ann f).modes = [])
  (hp:∀ x,EV Tryz.prog E f [.val 0 true (VO.c .shr x),.rp cp] = some ⟨[(false,[.p (.bool (p x))])],[]⟩) :
  EV Tryz.prog E 114 [.val 0 false [.sl .own 7 (l.map (VO.c .own))],.fn f [cp]] = some ⟨[(false,[.sl .own 7 ((l.filter fun x =>!p x).map (VO.c .own))])],[]⟩ :=by
 refine EV_intro Tryz.func114 rfl ?_
 have h1 :=k107 l hl hm hp
 by_cases d:idxF p l 0 = -1
 ·rw [d] at h1
  rw [filter_all (idxF_none d)]
  simp only [rA,↓reduceIte,reduceCtorEq,N1,N2,N3,N4,N5,N6,N7,I1,I2,I3,I4,L1,e114,e107,Tryz.f114,h1,rowsBookObject]
 obtain ⟨i0,hi0⟩:∃ i0:Nat,idxF p l 0 = (i0:Int) :=by
  have :=(idxF_lt p (l :=l)).2
  exact ⟨(idxF p l 0).toNat,by omega⟩
 obtain ⟨y,hy,hpy,htk⟩ :=take_none (l :=l) (i :=i0) (k :=0) (by rw [hi0]; omega)
 have hyl :=(List.getElem?_eq_some_iff.1 hy).1
 rw [hi0] at h1
 have hne:¬ ((i0:Int) = -1) :=by omega
 have hw1 :=wrap64 (n :=(i0:Int) + 1) (by omega) (by omega)
 have hw1':IntKind.i64.wrap ((i0:Int) + 1) = ((i0 + 1 + 0:Nat):Int) :=by rw [hw1]; omega
 have hI0:InvD p l (i0 + 1) (l.map (VO.c .own),i0) :=by
  refine ⟨l.take i0,[(y,.sl .own 1 (y.holds.map strC))],?_,by simp; omega,by simp; omega,by simp,?_,?_⟩
  ·have hd:l.drop i0 = y :: l.drop (i0 + 1) :=by
    rw [List.drop_eq_getElem_cons hyl]
    congr 1
    exact (List.getElem?_eq_some_iff.1 hy).2
   show l.map (VO.c .own) = _
   rw [List.map_cons,← own_jr,List.map_nil,List.singleton_append,← List.map_cons,← hd,← List.map_append,List.take_append_drop]
  ·intro q hq
   simp at hq
   rw [hq]
   rfl
  ·rw [take_snoc hy,List.filter_append,htk]
   simp [hpy]
 simp only [rA,↓reduceIte,reduceCtorEq,N1,N2,N3,N4,N5,N6,N7,I1,I2,I3,I4,L1,e114,e107,Tryz.f114,h1,hne,hw1',rowsBookObject]
 rw [for_block (l.drop (i0 + 1)) (fun k (a:List (List C) × Nat) =>⟨4,[(0,.val 0 false [.sl .own 7 a.1]),(1,.fn f [cp]),(5,.val 2 false [.p (.int .i64 a.2)]),(6,.val 3 false [.p (.int .i64 ((i0 + 1 + k:Nat):Int))])]⟩) (fun k a =>InvD p l (i0 + 1 + k) a)
  (fun r k a =>.norm ⟨2,[(0,.val 0 false [.sl .own 7 (runD p (i0 + 1 + k) a r).1]),(5,.val 1 false [.p (.int .i64 (runD p (i0 + 1 + k) a r).2)])]⟩) ?_ ?_ (a :=(l.map (VO.c .own),i0)) hI0 (by simp only [rA,↓reduceIte,reduceCtorEq,N1,N2,N3,N4,N5,N6,N7,I1,I2,I3,I4,L1,e114])]
 ·have hI :=runD_inv (p :=p) (l :=l) (l.drop (i0 + 1)) (i0 + 1) rfl hI0
  rw [Nat.add_zero]
  generalize runD p (i0 + 1) (l.map (VO.c .own),i0) (l.drop (i0 + 1)) = a at hI
  obtain ⟨R,n⟩ :=a
  obtain ⟨kept,junk,e1,e2,e3,e4,e5,e6⟩ :=hI
  have hjl:i0 + 1 + (l.drop (i0 + 1)).length = l.length :=by rw [List.length_drop]; omega
  rw [hjl] at e1 e3 e6
  rw [List.take_length] at e6
  simp only at e1 e2
  rw [List.drop_length,List.map_nil,List.append_nil] at e1
  subst e6
  generalize l.filter (fun x =>!p x) = kept at e1 e2 e3
  subst e2
  have g1:R.length = l.length :=by rw [e1]; simp; omega
  have g2:kept.length ≤ R.length :=by omega
  have g3:(0:Int) ≤ (kept.length:Int) :=by omega
  have g4:List.take kept.length R = kept.map (VO.c .own) :=by rw [e1,List.take_left' (by simp)]
  have g5:kept.length + (R.length - kept.length) ≤ R.length :=by omega
  have g6:List.drop (kept.length + (R.length - kept.length)) R = [] :=List.drop_eq_nil_of_le (by omega)
  have g8:0 ≤ kept.length :=Nat.zero_le _
  have g9:R.length ≤ R.length :=Nat.le_refl _
  have hz:∀ m:Nat,wholeRows (List.replicate m [C.p (.string ⟨#[]⟩),C.p (.string ⟨#[]⟩),C.p (.int .i64 0),C.p (.int .i64 0),C.p (.string ⟨#[]⟩),C.p (.bool false),C.sl .own 1 []]) = true :=by
   intro m
   induction m with
   | zero =>rfl
   | succ m ih =>rw [List.replicate_succ]; simp only [wholeRows,ih]; rfl
  have hwa:∀ a b:List (List C),wholeRows a = true → wholeRows b = true → wholeRows (a ++ b) = true :=by
   intro a b ha hb
   induction a with
   | nil =>exact hb
   | cons r a ih =>
    simp only [wholeRows,Bool.and_eq_true,List.cons_append] at ha ⊢
    exact ⟨ha.1,ih ha.2⟩
  have g7 :=hwa _ _ (rowsBookObject kept).2.2.1 (hz (R.length - kept.length))
  have g10:List.take kept.length (kept.map (VO.c .own) ++ List.replicate (R.length - kept.length) [C.p (.string ⟨#[]⟩),C.p (.string ⟨#[]⟩),C.p (.int .i64 0),C.p (.int .i64 0),C.p (.string ⟨#[]⟩),C.p (.bool false),C.sl .own 1 []]) = kept.map (VO.c .own) :=List.take_left' (by simp)
  have g11:kept.length ≤ (kept.map (VO.c .own) ++ List.replicate (R.length - kept.length) [C.p (.string ⟨#[]⟩),C.p (.string ⟨#[]⟩),C.p (.int .i64 0),C.p (.int .i64 0),C.p (.string ⟨#[]⟩),C.p (.bool false),C.sl .own 1 []]).length :=by simp
  simp only [rA,↓reduceIte,reduceCtorEq,N1,N2,N3,N4,N5,N6,N7,I1,I2,I3,I4,L1,e114,rowsBookObject,g2,g3,g4,g5,g6,g7,g8,g9,g10,g11,List.append_nil,Nat.sub_zero,Nat.zero_add,List.drop_zero]
 ·intro k x r a hd hk hI
  rw [List.getElem?_drop] at hk
  obtain ⟨R,n⟩ :=a
  obtain ⟨g1,g2,g3,⟨q,g4,g5⟩,g6⟩ :=invD_facts hI hk
  obtain ⟨qo,qs⟩ :=q
  simp only at g1 g2 g3 g4 g5
  have hkl :=(List.getElem?_eq_some_iff.1 hk).1
  have hlt:((i0 + 1 + k:Nat):Int) < ((R.length:Nat):Int) :=by omega
  have hltn:i0 + 1 + k < R.length :=by omega
  have hltm:n < R.length :=by omega
  have hk0:(0:Int) ≤ ((i0 + 1 + k:Nat):Int) :=by omega
  have hn0:(0:Int) ≤ (n:Int) :=by omega
  have hw2:IntKind.i64.wrap (((i0 + 1 + k:Nat):Int) + 1) = ((i0 + 1 + (k + 1):Nat):Int) :=by rw [wrap64 (by omega) (by omega)]; omega
  have hw3:IntKind.i64.wrap ((n:Int) + 1) = ((n + 1:Nat):Int) :=by rw [wrap64 (by omega) (by omega)]; omega
  have hpx :=hp x
  left
  refine ⟨stepD p (i0 + 1 + k) (R,n) x,?_,g6,rfl⟩
  unfold stepD
  simp only [VO.c,jr] at g2 g4 hpx ⊢
  cases dp:p x
  ·rw [dp] at hpx
   simp only [rA,↓reduceIte,reduceCtorEq,N1,N2,N3,N4,N5,N6,N7,I1,I2,I3,I4,L1,e114,hlt,hltn,hltm,hk0,hn0,hw2,hw3,g2,g4,g5,hpx,hm,rowsString,List.length_set]
  ·rw [dp] at hpx
   simp only [rA,↓reduceIte,reduceCtorEq,N1,N2,N3,N4,N5,N6,N7,I1,I2,I3,I4,L1,e114,hlt,hltn,hltm,hk0,hn0,hw2,hw3,g2,g4,g5,hpx,hm,rowsString,List.length_set]
 ·intro a hI
  obtain ⟨R,n⟩ :=a
  obtain ⟨kept,junk,e1,e2,e3,e4,e5,e6⟩ :=hI
  have hll:i0 + 1 + (l.drop (i0 + 1)).length = l.length :=by rw [List.length_drop]; omega
  have hRl:R.length = l.length :=by
   simp only at e1
   rw [e1]
   simp
   omega
  have hn:¬ (((i0 + 1 + (l.drop (i0 + 1)).length:Nat):Int) < ((R.length:Nat):Int)) :=by omega
  simp only [rA,↓reduceIte,reduceCtorEq,N1,N2,N3,N4,N5,N6,N7,I1,I2,I3,I4,L1,e114,hn,runD]
theorem key_is (o x:VO):isKey o.kind o.name x = decide (keyO x o = 0) :=by
 have :=key_zero x o
 unfold isKey
 by_cases h1:x.kind = o.kind
 ·by_cases h2:x.name = o.name
  ·rw [decide_eq_true (this.2 ⟨h1,h2⟩)]; simp [h1,h2]
  ·rw [decide_eq_false (fun h =>h2 (this.1 h).2)]; simp [h2]
 ·rw [decide_eq_false (fun h =>h1 (this.1 h).1)]; simp [h1]
theorem k115 (x:VO) (k n:ByteArray):EV Tryz.prog E 115 [.val 0 true (VO.c .shr x),.rp (keyC k n)] = some ⟨[(false,[.p (.bool (isKey k n x))])],[]⟩ :=by
 refine EV_intro Tryz.func115 rfl ?_
 have h :=k71 x
 simp only [VO.c] at h
 unfold isKey
 simp only [rA,↓reduceIte,reduceCtorEq,N1,N2,N3,N4,N5,N6,N7,I1,I2,I3,I4,L1,e115,e71,Tryz.f115,VO.c,h]
theorem k94 (l:List VO) (o:VO) (hl:l.length ≤ 4194304):EV Tryz.prog E 94 [.val 0 false [.sl .own 7 (l.map (VO.c .own))],.val 0 true (keyC o.kind o.name)] = some ⟨[(false,[.sl .own 7 ((putR o true l).map (VO.c .own))])],[]⟩ :=by
 refine EV_intro Tryz.func94 rfl ?_
 have h :=k114 (cp :=keyC o.kind o.name) (p :=isKey o.kind o.name) l hl (show (E.ann 115).modes = [] from rfl) (fun x =>k115 x o.kind o.name)
 have e:(fun x =>!isKey o.kind o.name x) = neK o :=by
  funext x
  rw [key_is]
  rfl
 rw [e] at h
 rw [putR_done]
 simp only [rA,↓reduceIte,reduceCtorEq,N1,N2,N3,N4,N5,N6,N7,I1,I2,I3,I4,L1,e94,e114,Tryz.f94,h,rowsBookObject]
theorem k116 (x o:VO):EV Tryz.prog E 116 [.val 0 true (VO.c .shr x),.rp (keyC o.kind o.name)] = some ⟨[(false,[.p (.bool (geK o x))])],[]⟩ :=by
 refine EV_intro Tryz.func116 rfl ?_
 have h :=k71 x
 have h2 :=k72 x.kind x.name o.kind o.name
 simp only [VO.c] at h
 unfold geK keyO
 simp only [rA,↓reduceIte,reduceCtorEq,N1,N2,N3,N4,N5,N6,N7,I1,I2,I3,I4,L1,e116,e71,e72,Tryz.f116,VO.c,h,h2]
def rowsJ (l:List VO) (j:Nat):List (List C) :=(l.take j).map (fun x =>jr (x,.hole)) ++ (l.drop j).map (VO.c .own)
theorem rowsJ_at {l:List VO} {j:Nat} {x:VO} (h:l[j]? = some x):(rowsJ l j)[j]? = some (x.c .own) ∧ (rowsJ l j).set j (jr (x,.hole)) = rowsJ l (j + 1) ∧ (rowsJ l j).length = l.length :=by
 have hlt :=(List.getElem?_eq_some_iff.1 h).1
 have hd:l.drop j = x :: l.drop (j + 1) :=by
  rw [List.drop_eq_getElem_cons hlt]
  congr 1
  exact (List.getElem?_eq_some_iff.1 h).2
 have e:((l.take j).map (fun x =>jr (x,C.hole))).length = j :=by simp; omega
 unfold rowsJ
 refine ⟨?_,?_,by simp; omega⟩
 ·rw [List.getElem?_append_right (by omega),e,hd]
  simp
 ·rw [List.set_append_right _ _ (by omega),e,hd,Nat.sub_self,take_snoc h,List.map_append,List.map_cons,List.set_cons_zero]
  simp
theorem rowsJ_len (l:List VO) (j:Nat):(rowsJ l j).length = l.length :=by
 unfold rowsJ
 simp
 omega
theorem rowsJ_zero (l:List VO):rowsJ l 0 = l.map (VO.c .own) :=by simp [rowsJ]
def ocJ (o:VO) (i:Int) (j:Nat):List C :=if i < (j:Int) then jr (o,.hole) else o.c .own
theorem plc_le (o:VO) (l:List VO):0 ≤ plc o l ∧ plc o l ≤ l.length :=by
 have :=idxF_lt (geK o) (l :=l)
 unfold plc
 split <;> omega
theorem k95 (l:List VO) (o:VO) (hl:l.length ≤ 4194304):EV Tryz.prog E 95 [.val 0 false [.sl .own 7 (l.map (VO.c .own))],.val 0 true (o.c .own)] = some ⟨[(false,[.sl .own 7 ((putR o false l).map (VO.c .own))])],[]⟩ :=by
 refine EV_intro Tryz.func95 rfl ?_
 have h1 :=k71 o
 have h2 :=k107 (cp :=keyC o.kind o.name) (p :=geK o) l hl (show (E.ann 116).modes = [] from rfl) (fun x =>k116 x o)
 simp only [VO.c] at h1
 obtain ⟨p0,p1⟩ :=plc_le o l
 have hoc0:ocJ o (plc o l) 0 = o.c .own :=by unfold ocJ; rw [if_neg (by omega)]
 by_cases d:idxF (geK o) l 0 < 0
 all_goals
  have hp:plc o l = (if idxF (geK o) l 0 < 0 then (l.length:Int) else idxF (geK o) l 0) :=rfl
  simp only [d,if_true,if_false] at hp
  simp only [rA,↓reduceIte,reduceCtorEq,N1,N2,N3,N4,N5,N6,N7,I1,I2,I3,I4,L1,e95,e71,e107,Tryz.f95,VO.c,h1,h2,d,rowsBookObject,rowsString,List.map_nil,List.length_map]
  rw [for_block l (fun j (A:List VO) =>⟨8,[(0,.val 0 false [.sl .own 7 (rowsJ l j)]),(3,.box 1 1 (ocJ o (plc o l) j)),(5,.fz 2 (keyC o.kind o.name)),(6,.val 3 false [.p (.int .i64 (plc o l))]),(7,.val 4 false [.sl .own 7 (A.map (VO.c .own))]),(19,.lnk 0 0 0 1 false none none),(20,.val 6 false [.p (.int .i64 l.length)]),(21,.val 7 false [.p (.int .i64 j)])]⟩) (fun j A =>A.length ≤ 2 * j)
   (fun r j A =>.norm ⟨4,[(0,.val 0 false [.sl .own 7 (rowsJ l l.length)]),(3,.box 1 1 (ocJ o (plc o l) l.length)),(6,.val 2 false [.p (.int .i64 (plc o l))]),(7,.val 3 false [.sl .own 7 ((A ++ putI o (plc o l) j r).map (VO.c .own))])]⟩) ?_ ?_ (a :=[]) (Nat.zero_le _) (by rw [rowsJ_zero,hoc0,hp]; simp only [rA,↓reduceIte,reduceCtorEq,N1,N2,N3,N4,N5,N6,N7,I1,I2,I3,I4,L1,e95,VO.c,List.map_nil]; try rfl)]
  ·have hr :=putR_eq o l
   have hrl :=rowsJ_len l l.length
   have hpl:(putI o (plc o l) 0 l).length ≤ l.length + 1 :=by
    have :=putR_len o false l
    rw [← hr,List.length_append] at this
    omega
   rw [← hr]
   have hL:(putI o (plc o l) 0 l).length + 1 < 4294967296 :=by omega
   by_cases e:plc o l = (l.length:Int)
   ·have hoc:ocJ o (plc o l) l.length = o.c .own :=by unfold ocJ; rw [if_neg (by omega)]
    have he:endI o (plc o l) l.length = [o] :=by unfold endI; rw [if_pos e]
    rw [he,hoc,List.nil_append]
    generalize putI o (plc o l) 0 l = A at *
    simp only [rA,↓reduceIte,reduceCtorEq,N1,N2,N3,N4,N5,N6,N7,I1,I2,I3,I4,L1,e95,VO.c,hrl,e,hL,LIM,rowsBookObject,rowsString,List.map_append,List.map_cons,List.map_nil]
   ·have he:endI o (plc o l) l.length = [] :=by unfold endI; rw [if_neg e]
    rw [he,List.append_nil,List.nil_append]
    generalize putI o (plc o l) 0 l = A at *
    simp only [rA,↓reduceIte,reduceCtorEq,N1,N2,N3,N4,N5,N6,N7,I1,I2,I3,I4,L1,e95,hrl,e,rowsBookObject]
  ·intro j x r A hd' hj hA
   have hlen :=(List.getElem?_eq_some_iff.1 hj).1
   have hlt:((j:Int) < (l.length:Int)) :=by omega
   obtain ⟨g1,g2,g3⟩ :=rowsJ_at hj
   have hj0:(0:Int) ≤ (j:Int) :=by omega
   have hwi :=wrap64 (n :=(j:Int) + 1) (by omega) (by omega)
   have hx1 :=k71 x
   have hjl:j < (rowsJ l j).length :=by omega
   have hL1:A.length + 1 < 4294967296 :=by omega
   have hL2:A.length + 1 + 1 < 4294967296 :=by omega
   have hne:neK o x = !(decide (x.kind = o.kind) && decide (x.name = o.name)) :=by
    have :=key_is o x
    unfold isKey at this
    unfold neK
    rw [this]
   simp only [VO.c,jr] at g1 g2 hx1
   left
   refine ⟨A ++ ((if (j:Int) = plc o l then [o] else []) ++ (if neK o x = true then [x] else [])),?_,?_,?_⟩
   ·by_cases e:(j:Int) = plc o l
    ·have o1:ocJ o (plc o l) j = o.c .own :=by unfold ocJ; rw [if_neg (by omega)]
     have o2:ocJ o (plc o l) (j + 1) = jr (o,.hole) :=by unfold ocJ; rw [if_pos (by omega)]
     rw [o1,o2,if_pos e,hne]
     have e' :=eq_true e
     clear e
     cases n1:decide (x.kind = o.kind) <;> cases n2:decide (x.name = o.name)
     all_goals simp only [rA,↓reduceIte,reduceCtorEq,N1,N2,N3,N4,N5,N6,N7,I1,I2,I3,I4,L1,e95,e71,VO.c,jr,hlt,g1,g2,g3,hj0,hwi,hx1,hjl,hlen,hL1,hL2,LIM,e',n1,n2,rowsBookObject,rowsString,List.map_append,List.map_cons,List.map_nil,List.append_nil,List.nil_append,List.append_assoc,List.cons_append,List.length_append,List.length_cons,List.length_nil,List.length_map,i64c]
    ·have o1:ocJ o (plc o l) (j + 1) = ocJ o (plc o l) j :=by
      unfold ocJ
      by_cases e2:plc o l < (j:Int)
      ·rw [if_pos e2,if_pos (by omega)]
      ·rw [if_neg e2,if_neg (by omega)]
     rw [o1,if_neg e,hne]
     generalize ocJ o (plc o l) j = oc
     cases n1:decide (x.kind = o.kind) <;> cases n2:decide (x.name = o.name)
     all_goals simp only [rA,↓reduceIte,reduceCtorEq,N1,N2,N3,N4,N5,N6,N7,I1,I2,I3,I4,L1,e95,e71,VO.c,jr,hlt,g1,g2,g3,hj0,hwi,hx1,hjl,hlen,hL1,hL2,LIM,e,n1,n2,rowsBookObject,rowsString,List.map_append,List.map_cons,List.map_nil,List.append_nil,List.nil_append,List.append_assoc,List.cons_append,List.length_append,List.length_cons,List.length_nil,List.length_map,i64c]
   ·rw [List.length_append,List.length_append]
    have q1 :=ite_len (neK o x) x
    have q2:(if (j:Int) = plc o l then [o] else []).length ≤ 1 :=by split <;> simp
    omega
   ·rw [putI]
    simp only [List.append_assoc]
  ·intro A _
   have hn:¬ ((l.length:Int) < (l.length:Int)) :=by omega
   simp only [rA,↓reduceIte,reduceCtorEq,N1,N2,N3,N4,N5,N6,N7,I1,I2,I3,I4,L1,e95,hn,putI,List.append_nil]
def putM (o:VO):Bool → List VO → List VO
 | _,[] =>[]
 | done,x :: r =>(if (!done && geK o x) = true then [o] else []) ++ ((if neK o x = true then [x] else []) ++ putM o (done || geK o x) r)
def donM (o:VO) (done:Bool) (l:List VO):Bool :=done || l.any (geK o)
theorem putM_eq (o:VO):∀ (l:List VO) (done:Bool),putM o done l ++ (if donM o done l = true then [] else [o]) = putR o done l
 | [],done =>by simp [putM,donM,putR]
 | x :: r,done =>by
  rw [putM,putR,← putM_eq o r (done || geK o x)]
  have:donM o done (x :: r) = donM o (done || geK o x) r :=by simp [donM,Bool.or_assoc]
  rw [this]
  simp
theorem rowsShr (l:List VO):borRows (l.map (VO.c .shr)) = l.map (VO.c .shr) ∧ wholeRows (l.map (VO.c .shr)) = true ∧ allFreeRows (l.map (VO.c .shr)) = true :=by
 refine ⟨?_,(rowsBookObject l).2.2.2.1,(rowsBookObject l).2.2.2.2⟩
 induction l with
 | nil =>rfl
 | cons x r ih =>rw [List.map_cons,borRows,ih]; rfl
theorem k89 (l:List VO) (c:VC) (hl:l.length ≤ 4194304):EV Tryz.prog E 89 [.val 0 false [.sl .shr 7 (l.map (VO.c .shr))],.val 0 true (c.c .shr)] = some ⟨[(false,[.sl .own 7 ((putR c.object c.gone l).map (VO.c .shr))])],[]⟩ :=by
 refine EV_intro Tryz.func89 rfl ?_
 simp only [rA,↓reduceIte,reduceCtorEq,N1,N2,N3,N4,N5,N6,N7,I1,I2,I3,I4,L1,e89,Tryz.f89,VC.c,List.map_nil]
 rw [for_block l (fun j (a:List VO × Bool) =>⟨5,[(0,.val 0 false [.sl .shr 7 (l.map (VO.c .shr))]),(3,.box 1 1 (c.c .shr)),(5,.val 2 false [.sl .own 7 (a.1.map (VO.c .shr))]),(6,.val 3 false [.p (.bool a.2)]),(7,.val 4 false [.p (.int .i64 j)])]⟩) (fun j a =>a.1.length ≤ 2 * j)
  (fun r j a =>.norm ⟨3,[(3,.box 0 0 (c.c .shr)),(5,.val 1 false [.sl .own 7 ((a.1 ++ putM c.object a.2 r).map (VO.c .shr))]),(6,.val 2 false [.p (.bool (donM c.object a.2 r))])]⟩) ?_ ?_ (a :=([],c.gone)) (Nat.zero_le _) (by simp only [rA,↓reduceIte,reduceCtorEq,N1,N2,N3,N4,N5,N6,N7,I1,I2,I3,I4,L1,e89,VC.c,List.map_nil]; try rfl)]
 ·have hr :=putM_eq c.object l c.gone
  have hpl:(putM c.object c.gone l).length ≤ l.length + 1 :=by
   have :=putR_len c.object c.gone l
   rw [← hr,List.length_append] at this
   omega
  have hL:(putM c.object c.gone l).length + 1 < 4294967296 :=by omega
  rw [← hr,List.nil_append]
  generalize putM c.object c.gone l = A at *
  cases e:donM c.object c.gone l
  ·simp only [rA,↓reduceIte,reduceCtorEq,N1,N2,N3,N4,N5,N6,N7,I1,I2,I3,I4,L1,e89,VC.c,e,hL,LIM,rowsShr,VO.c,List.map_append,List.map_cons,List.map_nil,List.length_map]
  ·simp only [rA,↓reduceIte,reduceCtorEq,N1,N2,N3,N4,N5,N6,N7,I1,I2,I3,I4,L1,e89,e,rowsShr,List.append_nil]
 ·intro j x r a hd' hj hA
  obtain ⟨A,dn⟩ :=a
  simp only at hA
  have hlen :=(List.getElem?_eq_some_iff.1 hj).1
  have hlt:((j:Int) < (l.length:Int)) :=by omega
  have hr :=getElem?_map_some (f :=VO.c .shr) hj
  have hj0:(0:Int) ≤ (j:Int) :=by omega
  have hwi :=wrap64 (n :=(j:Int) + 1) (by omega) (by omega)
  have hk :=k98 x c.object
  have hL1:A.length + 1 < 4294967296 :=by omega
  have hL2:A.length + 1 + 1 < 4294967296 :=by omega
  have hge:geK c.object x = decide (0 ≤ keyO x c.object) :=rfl
  have hne:neK c.object x = !decide (keyO x c.object = 0) :=rfl
  simp only [VO.c] at hr hk
  left
  refine ⟨(A ++ ((if (!dn && geK c.object x) = true then [c.object] else []) ++ (if neK c.object x = true then [x] else [])),dn || geK c.object x),?_,?_,?_⟩
  ·rw [hge,hne]
   generalize keyO x c.object = kx at *
   cases d0:dn <;> cases d1:decide (0 ≤ kx) <;> cases d2:decide (kx = 0)
   all_goals simp only [rA,↓reduceIte,reduceCtorEq,N1,N2,N3,N4,N5,N6,N7,I1,I2,I3,I4,L1,e89,e98,VC.c,VO.c,hlt,hr,hj0,hwi,hk,hL1,hL2,LIM,d0,d1,d2,rowsShr,List.map_append,List.map_cons,List.map_nil,List.append_nil,List.nil_append,List.append_assoc,List.cons_append,List.length_append,List.length_cons,List.length_nil,List.length_map,i64c]
  ·show (A ++ _).length ≤ _
   rw [List.length_append,List.length_append]
   have q1 :=ite_len (neK c.object x) x
   have q2 :=ite_len (!dn && geK c.object x) c.object
   omega
  ·show O.norm _ = O.norm _
   rw [putM]
   have:donM c.object dn (x :: r) = donM c.object (dn || geK c.object x) r :=by simp [donM,Bool.or_assoc]
   simp only [List.append_assoc,this]
 ·intro a _
  obtain ⟨A,dn⟩ :=a
  have hn:¬ ((l.length:Int) < (l.length:Int)) :=by omega
  simp only [rA,↓reduceIte,reduceCtorEq,N1,N2,N3,N4,N5,N6,N7,I1,I2,I3,I4,L1,e89,hn,putM,donM,List.append_nil,List.any_nil,Bool.or_false]
def mkString (_:ByteArray) (k:Int):ByteArray :=mtx k
def mcString (_:ByteArray):Nat :=1
def mkBookObject (x:VO) (k:Int):VO :=⟨mtx (k),mtx (k + 1),k + 1 + 1,k + 1 + 1 + 1,mtx (k + 1 + 1 + 1 + 1),decide ((k + 1 + 1 + 1 + 1 + 1).tmod 3 = 0),mkL mkString mcString x.holds (k + 1 + 1 + 1 + 1 + 1 + 1)⟩
def mcBookObject (x:VO):Nat :=1 + 1 + 1 + 1 + 1 + 1 + mcL mcString x.holds
def mkBookChange (x:VC) (k:Int):VC :=⟨k,decide ((k + 1).tmod 3 = 0),⟨mtx (k + 1 + 1),mtx (k + 1 + 1 + 1),k + 1 + 1 + 1 + 1,k + 1 + 1 + 1 + 1 + 1,mtx (k + 1 + 1 + 1 + 1 + 1 + 1),decide ((k + 1 + 1 + 1 + 1 + 1 + 1 + 1).tmod 3 = 0),mkL mkString mcString x.object.holds (k + 1 + 1 + 1 + 1 + 1 + 1 + 1 + 1)⟩⟩
def mcBookChange (x:VC):Nat :=1 + 1 + 1 + 1 + 1 + 1 + 1 + 1 + mcL mcString x.object.holds
def mkBookTicket (x:VT) (k:Int):VT :=⟨mtx (k),k + 1,mtx (k + 1 + 1),k + 1 + 1 + 1,k + 1 + 1 + 1 + 1⟩
def mcBookTicket (x:VT):Nat :=1 + 1 + 1 + 1 + 1
def moBook (x:VBook) (k:Int):VBook :=⟨x.now,x.floor,mkL mkBookObject mcBookObject x.objects (k),mkL mkBookChange mcBookChange x.history (k + (mcL mcBookObject x.objects:Nat)),mkL mkBookTicket mcBookTicket x.tickets (k + (mcL mcBookObject x.objects:Nat) + (mcL mcBookChange x.history:Nat))⟩
def ocBook (x:VBook):Nat :=mcL mcBookObject x.objects + mcL mcBookChange x.history + mcL mcBookTicket x.tickets
theorem k_markText (k:Int) (h0:0 ≤ k) (hb:k ≤ 4611686018427387904):EV Tryz.prog E 83 [.val 0 false [.p (.int .i64 k)]] = some ⟨[(false,[.p (.string (mtx k))])],[]⟩ :=by
 refine EV_intro Tryz.func83 rfl ?_
 by_cases hk:k ≤ 0
 ·simp only [rA,↓reduceIte,reduceCtorEq,N1,N2,N3,N4,N5,N6,N7,I1,I2,I3,I4,L1,e83,Tryz.f83,hk,mtx]
 ·have h1:(⟨#[109]⟩:ByteArray).size + (dgs k.toNat ⟨#[]⟩).size < 9223372036854775807 :=by
   have :=dgs_size k.toNat ⟨#[]⟩
   have e1:(⟨#[109]⟩:ByteArray).size = 1 :=rfl
   have e2:(⟨#[]⟩:ByteArray).size = 0 :=rfl
   omega
  have ek:k = (k.toNat:Int) :=by omega
  simp only [rA,↓reduceIte,reduceCtorEq,N1,N2,N3,N4,N5,N6,N7,I1,I2,I3,I4,L1,e83,Tryz.f83,hk,mtx]
  rw [while_block (fun (p:Nat × ByteArray) =>⟨2,[(0,.val 0 false [.p (.int .i64 p.1)]),(3,.val 1 false [.p (.string p.2)])]⟩) (fun p =>p.1 ≤ 4611686018427387904 ∧ p.2.size + p.1 ≤ 4611686018427388004)
   (fun p =>.norm ⟨1,[(3,.val 0 false [.p (.string (dgs p.1 p.2))])]⟩) (fun p =>p.1) ?_ (i :=(k.toNat,⟨#[]⟩)) ⟨by simp only; omega,by
    have e2:(⟨#[]⟩:ByteArray).size = 0 :=rfl
    simp only [e2]; omega⟩ (by simp only [rA,↓reduceIte,reduceCtorEq,N1,N2,N3,N4,N5,N6,N7,I1,I2,I3,I4,L1,e83]; rw [← ek])]
  ·simp only [rA,↓reduceIte,reduceCtorEq,N1,N2,N3,N4,N5,N6,N7,I1,I2,I3,I4,L1,e83,h1]
  ·rintro ⟨n,s⟩ ⟨h1,h2⟩
   simp only at h1 h2
   by_cases hn:0 < (n:Int)
   ·left
    have e2:(dgt n).size = 1 :=rfl
    have e3:(dgt n).size + s.size < 9223372036854775807 :=by omega
    have e4 :=wrap64 (n :=((n / 10:Nat):Int)) (by omega) (by omega)
    refine ⟨(n / 10,dgt n ++ s),?_,⟨by simp only; omega,by simp only [ByteArray.size_append]; omega⟩,by simp only; omega,by simp only [dgs_pos (show n ≠ 0 by omega)]⟩
    unfold dgt at e3 ⊢
    simp only [rA,↓reduceIte,reduceCtorEq,N1,N2,N3,N4,N5,N6,N7,I1,I2,I3,I4,L1,e83,hn,tmod10,tdiv10,e3,e4]
   ·right
    have:n = 0 :=by omega
    subst this
    simp only [rA,↓reduceIte,reduceCtorEq,N1,N2,N3,N4,N5,N6,N7,I1,I2,I3,I4,L1,e83,hn,dgs_zero]
theorem k_markStringS (l:List ByteArray) (k:Int) (h0:0 ≤ k) (hb:k + (mcL mcString l:Nat) ≤ 4611686018427387904):EV Tryz.prog E 84 [.val 0 false [.sl .own 1 (l.map strC)],.val 0 false [.p (.int .i64 k)]] = some ⟨[(false,[.p (.int .i64 (k + (mcL mcString l:Nat)))])],[[.sl .own 1 ((mkL mkString mcString l k).map strC)]]⟩ :=by
 have hlc :=len_mcL mcString (fun x =>by unfold mcString; omega) l
 refine EV_intro Tryz.func84 rfl ?_
 simp only [rA,↓reduceIte,reduceCtorEq,N1,N2,N3,N4,N5,N6,N7,I1,I2,I3,I4,L1,e84,Tryz.f84]
 rw [for_block l (fun i (a:Int) =>⟨3,[(0,.val 0 false [.sl .own 1 ((mkTo mkString mcString i l k).map strC)]),(1,.val 1 false [.p (.int .i64 a)]),(5,.val 2 false [.p (.int .i64 i)])]⟩) (fun i a =>a = kAt mcString l k i)
   (fun r i a =>.norm ⟨2,[(0,.val 0 false [.sl .own 1 ((mkL mkString mcString l k).map strC)]),(1,.val 1 false [.p (.int .i64 (k + (mcL mcString l:Nat)))])]⟩) ?_ ?_ (a :=k) (kAt_zero mcString l k).symm (by simp only [rA,↓reduceIte,reduceCtorEq,N1,N2,N3,N4,N5,N6,N7,I1,I2,I3,I4,L1,e84,mkTo_zero]; rfl)]
 ·simp only [rA,↓reduceIte,reduceCtorEq,N1,N2,N3,N4,N5,N6,N7,I1,I2,I3,I4,L1,e84]
 ·rintro i s r a hd hi rfl
  have hlen :=(List.getElem?_eq_some_iff.1 hi).1
  have hlt:((i:Int) < (l.length:Int)) :=by omega
  have hsu :=kAt_succ mcString hi k
  have hge :=kAt_ge mcString l k i
  have hle :=kAt_le mcString hi k
  have hwi :=wrap64 (n :=(i:Int) + 1) (by omega) (by omega)
  have hi0:(0:Int) ≤ (i:Int) :=by omega
  have hr :=getElem?_map_some (f :=strC) (mkTo_get mkString mcString hi k)
  have hst :=mkTo_set mkString mcString hi k
  have hlm :=mkTo_length mkString mcString i l k
  have hgs:∀ z:List C,(((mkTo mkString mcString i l k).map strC).set i z)[i]? = some z :=fun z =>List.getElem?_set_self (by rw [List.length_map,hlm]; exact hlen)
  generalize kAt mcString l k i = a at *
  simp only [mcString] at hsu hle
  simp only [strC,mkString] at hr
  have hm0 :=k_markText (a) (by omega) (by omega)
  have hw0 :=wrap64 (n :=a + 1) (by omega) (by omega)
  left
  refine ⟨a + 1,?_,by rw [hsu]; omega,rfl⟩
  rw [← hst]
  simp only [rA,↓reduceIte,reduceCtorEq,N1,N2,N3,N4,N5,N6,N7,I1,I2,I3,I4,L1,e84,e83,hlt,hr,hwi,hi0,hlm,hlen,i64c,List.map_set,List.set_set,List.length_set,hgs,strC,mkString,hm0,hw0]
 ·rintro a rfl
  simp only [rA,↓reduceIte,reduceCtorEq,N1,N2,N3,N4,N5,N6,N7,I1,I2,I3,I4,L1,e84,kAt_all,mkTo_all,mkL_length]
theorem k_markBookObjectS (l:List VO) (k:Int) (h0:0 ≤ k) (hb:k + (mcL mcBookObject l:Nat) ≤ 4611686018427387904):EV Tryz.prog E 44 [.val 0 false [.sl .own 7 (l.map (VO.c .own))],.val 0 false [.p (.int .i64 k)]] = some ⟨[(false,[.p (.int .i64 (k + (mcL mcBookObject l:Nat)))])],[[.sl .own 7 ((mkL mkBookObject mcBookObject l k).map (VO.c .own))]]⟩ :=by
 have hlc :=len_mcL mcBookObject (fun x =>by unfold mcBookObject; omega) l
 refine EV_intro Tryz.func44 rfl ?_
 simp only [rA,↓reduceIte,reduceCtorEq,N1,N2,N3,N4,N5,N6,N7,I1,I2,I3,I4,L1,e44,Tryz.f44]
 rw [for_block l (fun i (a:Int) =>⟨3,[(0,.val 0 false [.sl .own 7 ((mkTo mkBookObject mcBookObject i l k).map (VO.c .own))]),(1,.val 1 false [.p (.int .i64 a)]),(5,.val 2 false [.p (.int .i64 i)])]⟩) (fun i a =>a = kAt mcBookObject l k i)
   (fun r i a =>.norm ⟨2,[(0,.val 0 false [.sl .own 7 ((mkL mkBookObject mcBookObject l k).map (VO.c .own))]),(1,.val 1 false [.p (.int .i64 (k + (mcL mcBookObject l:Nat)))])]⟩) ?_ ?_ (a :=k) (kAt_zero mcBookObject l k).symm (by simp only [rA,↓reduceIte,reduceCtorEq,N1,N2,N3,N4,N5,N6,N7,I1,I2,I3,I4,L1,e44,mkTo_zero]; rfl)]
 ·simp only [rA,↓reduceIte,reduceCtorEq,N1,N2,N3,N4,N5,N6,N7,I1,I2,I3,I4,L1,e44]
 ·rintro i s r a hd hi rfl
  have hlen :=(List.getElem?_eq_some_iff.1 hi).1
  have hlt:((i:Int) < (l.length:Int)) :=by omega
  have hsu :=kAt_succ mcBookObject hi k
  have hge :=kAt_ge mcBookObject l k i
  have hle :=kAt_le mcBookObject hi k
  have hwi :=wrap64 (n :=(i:Int) + 1) (by omega) (by omega)
  have hi0:(0:Int) ≤ (i:Int) :=by omega
  have hr :=getElem?_map_some (f :=(VO.c .own)) (mkTo_get mkBookObject mcBookObject hi k)
  have hst :=mkTo_set mkBookObject mcBookObject hi k
  have hlm :=mkTo_length mkBookObject mcBookObject i l k
  have hgs:∀ z:List C,(((mkTo mkBookObject mcBookObject i l k).map (VO.c .own)).set i z)[i]? = some z :=fun z =>List.getElem?_set_self (by rw [List.length_map,hlm]; exact hlen)
  generalize kAt mcBookObject l k i = a at *
  simp only [mcBookObject] at hsu hle
  simp only [VO.c,mkBookObject] at hr
  have hm0 :=k_markText (a) (by omega) (by omega)
  have hw0 :=wrap64 (n :=a + 1) (by omega) (by omega)
  have hm1 :=k_markText (a + 1) (by omega) (by omega)
  have hw1 :=wrap64 (n :=a + 1 + 1) (by omega) (by omega)
  have hw2 :=wrap64 (n :=a + 1 + 1 + 1) (by omega) (by omega)
  have hw3 :=wrap64 (n :=a + 1 + 1 + 1 + 1) (by omega) (by omega)
  have hm4 :=k_markText (a + 1 + 1 + 1 + 1) (by omega) (by omega)
  have hw4 :=wrap64 (n :=a + 1 + 1 + 1 + 1 + 1) (by omega) (by omega)
  have hw5 :=wrap64 (n :=a + 1 + 1 + 1 + 1 + 1 + 1) (by omega) (by omega)
  have hm6 :=k_markStringS s.holds (a + 1 + 1 + 1 + 1 + 1 + 1) (by omega) (by omega)
  left
  refine ⟨a + 1 + 1 + 1 + 1 + 1 + 1 + (mcL mcString s.holds:Nat),?_,by rw [hsu]; omega,rfl⟩
  rw [← hst]
  simp only [rA,↓reduceIte,reduceCtorEq,N1,N2,N3,N4,N5,N6,N7,I1,I2,I3,I4,L1,e44,e83,e84,hlt,hr,hwi,hi0,hlm,hlen,i64c,List.map_set,List.set_set,List.length_set,hgs,VO.c,mkBookObject,hm0,hw0,hm1,hw1,hw2,hw3,hm4,hw4,hw5,hm6,rowsString]
 ·rintro a rfl
  simp only [rA,↓reduceIte,reduceCtorEq,N1,N2,N3,N4,N5,N6,N7,I1,I2,I3,I4,L1,e44,kAt_all,mkTo_all,mkL_length]
theorem k_markBookChangeS (l:List VC) (k:Int) (h0:0 ≤ k) (hb:k + (mcL mcBookChange l:Nat) ≤ 4611686018427387904):EV Tryz.prog E 45 [.val 0 false [.sl .own 9 (l.map (VC.c .own))],.val 0 false [.p (.int .i64 k)]] = some ⟨[(false,[.p (.int .i64 (k + (mcL mcBookChange l:Nat)))])],[[.sl .own 9 ((mkL mkBookChange mcBookChange l k).map (VC.c .own))]]⟩ :=by
 have hlc :=len_mcL mcBookChange (fun x =>by unfold mcBookChange; omega) l
 refine EV_intro Tryz.func45 rfl ?_
 simp only [rA,↓reduceIte,reduceCtorEq,N1,N2,N3,N4,N5,N6,N7,I1,I2,I3,I4,L1,e45,Tryz.f45]
 rw [for_block l (fun i (a:Int) =>⟨3,[(0,.val 0 false [.sl .own 9 ((mkTo mkBookChange mcBookChange i l k).map (VC.c .own))]),(1,.val 1 false [.p (.int .i64 a)]),(5,.val 2 false [.p (.int .i64 i)])]⟩) (fun i a =>a = kAt mcBookChange l k i)
   (fun r i a =>.norm ⟨2,[(0,.val 0 false [.sl .own 9 ((mkL mkBookChange mcBookChange l k).map (VC.c .own))]),(1,.val 1 false [.p (.int .i64 (k + (mcL mcBookChange l:Nat)))])]⟩) ?_ ?_ (a :=k) (kAt_zero mcBookChange l k).symm (by simp only [rA,↓reduceIte,reduceCtorEq,N1,N2,N3,N4,N5,N6,N7,I1,I2,I3,I4,L1,e45,mkTo_zero]; rfl)]
 ·simp only [rA,↓reduceIte,reduceCtorEq,N1,N2,N3,N4,N5,N6,N7,I1,I2,I3,I4,L1,e45]
 ·rintro i s r a hd hi rfl
  have hlen :=(List.getElem?_eq_some_iff.1 hi).1
  have hlt:((i:Int) < (l.length:Int)) :=by omega
  have hsu :=kAt_succ mcBookChange hi k
  have hge :=kAt_ge mcBookChange l k i
  have hle :=kAt_le mcBookChange hi k
  have hwi :=wrap64 (n :=(i:Int) + 1) (by omega) (by omega)
  have hi0:(0:Int) ≤ (i:Int) :=by omega
  have hr :=getElem?_map_some (f :=(VC.c .own)) (mkTo_get mkBookChange mcBookChange hi k)
  have hst :=mkTo_set mkBookChange mcBookChange hi k
  have hlm :=mkTo_length mkBookChange mcBookChange i l k
  have hgs:∀ z:List C,(((mkTo mkBookChange mcBookChange i l k).map (VC.c .own)).set i z)[i]? = some z :=fun z =>List.getElem?_set_self (by rw [List.length_map,hlm]; exact hlen)
  generalize kAt mcBookChange l k i = a at *
  simp only [mcBookChange] at hsu hle
  simp only [VC.c,mkBookChange] at hr
  have hw0 :=wrap64 (n :=a + 1) (by omega) (by omega)
  have hw1 :=wrap64 (n :=a + 1 + 1) (by omega) (by omega)
  have hm2 :=k_markText (a + 1 + 1) (by omega) (by omega)
  have hw2 :=wrap64 (n :=a + 1 + 1 + 1) (by omega) (by omega)
  have hm3 :=k_markText (a + 1 + 1 + 1) (by omega) (by omega)
  have hw3 :=wrap64 (n :=a + 1 + 1 + 1 + 1) (by omega) (by omega)
  have hw4 :=wrap64 (n :=a + 1 + 1 + 1 + 1 + 1) (by omega) (by omega)
  have hw5 :=wrap64 (n :=a + 1 + 1 + 1 + 1 + 1 + 1) (by omega) (by omega)
  have hm6 :=k_markText (a + 1 + 1 + 1 + 1 + 1 + 1) (by omega) (by omega)
  have hw6 :=wrap64 (n :=a + 1 + 1 + 1 + 1 + 1 + 1 + 1) (by omega) (by omega)
  have hw7 :=wrap64 (n :=a + 1 + 1 + 1 + 1 + 1 + 1 + 1 + 1) (by omega) (by omega)
  have hm8 :=k_markStringS s.object.holds (a + 1 + 1 + 1 + 1 + 1 + 1 + 1 + 1) (by omega) (by omega)
  left
  refine ⟨a + 1 + 1 + 1 + 1 + 1 + 1 + 1 + 1 + (mcL mcString s.object.holds:Nat),?_,by rw [hsu]; omega,rfl⟩
  rw [← hst]
  simp only [rA,↓reduceIte,reduceCtorEq,N1,N2,N3,N4,N5,N6,N7,I1,I2,I3,I4,L1,e45,e83,e84,hlt,hr,hwi,hi0,hlm,hlen,i64c,List.map_set,List.set_set,List.length_set,hgs,VC.c,mkBookChange,hw0,hw1,hm2,hw2,hm3,hw3,hw4,hw5,hm6,hw6,hw7,hm8,rowsString]
 ·rintro a rfl
  simp only [rA,↓reduceIte,reduceCtorEq,N1,N2,N3,N4,N5,N6,N7,I1,I2,I3,I4,L1,e45,kAt_all,mkTo_all,mkL_length]
theorem k_markBookTicketS (l:List VT) (k:Int) (h0:0 ≤ k) (hb:k + (mcL mcBookTicket l:Nat) ≤ 4611686018427387904):EV Tryz.prog E 46 [.val 0 false [.sl .own 5 (l.map VT.c)],.val 0 false [.p (.int .i64 k)]] = some ⟨[(false,[.p (.int .i64 (k + (mcL mcBookTicket l:Nat)))])],[[.sl .own 5 ((mkL mkBookTicket mcBookTicket l k).map VT.c)]]⟩ :=by
 have hlc :=len_mcL mcBookTicket (fun x =>by unfold mcBookTicket; omega) l
 refine EV_intro Tryz.func46 rfl ?_
 simp only [rA,↓reduceIte,reduceCtorEq,N1,N2,N3,N4,N5,N6,N7,I1,I2,I3,I4,L1,e46,Tryz.f46]
 rw [for_block l (fun i (a:Int) =>⟨3,[(0,.val 0 false [.sl .own 5 ((mkTo mkBookTicket mcBookTicket i l k).map VT.c)]),(1,.val 1 false [.p (.int .i64 a)]),(5,.val 2 false [.p (.int .i64 i)])]⟩) (fun i a =>a = kAt mcBookTicket l k i)
   (fun r i a =>.norm ⟨2,[(0,.val 0 false [.sl .own 5 ((mkL mkBookTicket mcBookTicket l k).map VT.c)]),(1,.val 1 false [.p (.int .i64 (k + (mcL mcBookTicket l:Nat)))])]⟩) ?_ ?_ (a :=k) (kAt_zero mcBookTicket l k).symm (by simp only [rA,↓reduceIte,reduceCtorEq,N1,N2,N3,N4,N5,N6,N7,I1,I2,I3,I4,L1,e46,mkTo_zero]; rfl)]
 ·simp only [rA,↓reduceIte,reduceCtorEq,N1,N2,N3,N4,N5,N6,N7,I1,I2,I3,I4,L1,e46]
 ·rintro i s r a hd hi rfl
  have hlen :=(List.getElem?_eq_some_iff.1 hi).1
  have hlt:((i:Int) < (l.length:Int)) :=by omega
  have hsu :=kAt_succ mcBookTicket hi k
  have hge :=kAt_ge mcBookTicket l k i
  have hle :=kAt_le mcBookTicket hi k
  have hwi :=wrap64 (n :=(i:Int) + 1) (by omega) (by omega)
  have hi0:(0:Int) ≤ (i:Int) :=by omega
  have hr :=getElem?_map_some (f :=VT.c) (mkTo_get mkBookTicket mcBookTicket hi k)
  have hst :=mkTo_set mkBookTicket mcBookTicket hi k
  have hlm :=mkTo_length mkBookTicket mcBookTicket i l k
  have hgs:∀ z:List C,(((mkTo mkBookTicket mcBookTicket i l k).map VT.c).set i z)[i]? = some z :=fun z =>List.getElem?_set_self (by rw [List.length_map,hlm]; exact hlen)
  generalize kAt mcBookTicket l k i = a at *
  simp only [mcBookTicket] at hsu hle
  simp only [VT.c,mkBookTicket] at hr
  have hm0 :=k_markText (a) (by omega) (by omega)
  have hw0 :=wrap64 (n :=a + 1) (by omega) (by omega)
  have hw1 :=wrap64 (n :=a + 1 + 1) (by omega) (by omega)
  have hm2 :=k_markText (a + 1 + 1) (by omega) (by omega)
  have hw2 :=wrap64 (n :=a + 1 + 1 + 1) (by omega) (by omega)
  have hw3 :=wrap64 (n :=a + 1 + 1 + 1 + 1) (by omega) (by omega)
  have hw4 :=wrap64 (n :=a + 1 + 1 + 1 + 1 + 1) (by omega) (by omega)
  left
  refine ⟨a + 1 + 1 + 1 + 1 + 1,?_,by rw [hsu]; omega,rfl⟩
  rw [← hst]
  simp only [rA,↓reduceIte,reduceCtorEq,N1,N2,N3,N4,N5,N6,N7,I1,I2,I3,I4,L1,e46,e83,hlt,hr,hwi,hi0,hlm,hlen,i64c,List.map_set,List.set_set,List.length_set,hgs,VT.c,mkBookTicket,hm0,hw0,hw1,hm2,hw2,hw3,hw4]
 ·rintro a rfl
  simp only [rA,↓reduceIte,reduceCtorEq,N1,N2,N3,N4,N5,N6,N7,I1,I2,I3,I4,L1,e46,kAt_all,mkTo_all,mkL_length]
theorem k_markBook (x:VBook) (k:Int) (h0:0 ≤ k) (hb:k + (ocBook x:Nat) ≤ 4611686018427387904):EV Tryz.prog E 14 [.val 0 true (VBook.c .own x),.val 0 false [.p (.int .i64 k)]] = some ⟨[(false,[.p (.int .i64 (k + (ocBook x:Nat)))])],[VBook.c .own (moBook x k)]⟩ :=by
 refine EV_intro Tryz.func14 rfl ?_
 unfold ocBook at hb ⊢
 have hm0 :=k_markBookObjectS x.objects (k) (by omega) (by omega)
 have hm1 :=k_markBookChangeS x.history (k + (mcL mcBookObject x.objects:Nat)) (by omega) (by omega)
 have hm2 :=k_markBookTicketS x.tickets (k + (mcL mcBookObject x.objects:Nat) + (mcL mcBookChange x.history:Nat)) (by omega) (by omega)
 have he:k + ((mcL mcBookObject x.objects + mcL mcBookChange x.history + mcL mcBookTicket x.tickets:Nat):Int) = k + (mcL mcBookObject x.objects:Nat) + (mcL mcBookChange x.history:Nat) + (mcL mcBookTicket x.tickets:Nat) :=by omega
 rw [he]
 simp only [rA,↓reduceIte,reduceCtorEq,N1,N2,N3,N4,N5,N6,N7,I1,I2,I3,I4,L1,e14,e44,e45,e46,Tryz.f14,VBook.c,moBook,hm0,hm1,hm2,rowsBookObject,rowsBookChange,rowsBookTicket]
theorem k_heldStringS (l:List ByteArray) (k:Int) (h0:0 ≤ k) (hb:k + (mcL mcString l:Nat) ≤ 4611686018427387904):EV Tryz.prog E 110 [.val 0 false [.sl .shr 1 ((mkL mkString mcString l k).map strC)],.val 0 false [.p (.int .i64 k)]] = some ⟨[(false,[.p (.int .i64 (k + (mcL mcString l:Nat)))])],[]⟩ :=by
 have hlc :=len_mcL mcString (fun x =>by unfold mcString; omega) l
 refine EV_intro Tryz.func110 rfl ?_
 simp only [rA,↓reduceIte,reduceCtorEq,N1,N2,N3,N4,N5,N6,N7,I1,I2,I3,I4,L1,e110,Tryz.f110]
 rw [for_block l (fun i (a:Int) =>⟨3,[(0,.val 0 false [.sl .shr 1 ((mkL mkString mcString l k).map strC)]),(1,.val 1 false [.p (.int .i64 a)]),(5,.val 2 false [.p (.int .i64 i)])]⟩) (fun i a =>a = kAt mcString l k i)
   (fun r i a =>.norm ⟨1,[(1,.val 0 false [.p (.int .i64 (k + (mcL mcString l:Nat)))])]⟩) ?_ ?_ (a :=k) (kAt_zero mcString l k).symm (by simp only [rA,↓reduceIte,reduceCtorEq,N1,N2,N3,N4,N5,N6,N7,I1,I2,I3,I4,L1,e110]; rfl)]
 ·simp only [rA,↓reduceIte,reduceCtorEq,N1,N2,N3,N4,N5,N6,N7,I1,I2,I3,I4,L1,e110]
 ·rintro i s r a hd hi rfl
  have hlen :=(List.getElem?_eq_some_iff.1 hi).1
  have hlt:((i:Int) < (l.length:Int)) :=by omega
  have hsu :=kAt_succ mcString hi k
  have hge :=kAt_ge mcString l k i
  have hle :=kAt_le mcString hi k
  have hwi :=wrap64 (n :=(i:Int) + 1) (by omega) (by omega)
  have hi0:(0:Int) ≤ (i:Int) :=by omega
  have hr :=getElem?_map_some (f :=strC) (mkL_get mkString mcString hi k)
  have hlm :=mkL_length mkString mcString l k
  generalize kAt mcString l k i = a at *
  simp only [mcString] at hsu hle
  simp only [strC,mkString] at hr
  have hm0 :=k_markText (a) (by omega) (by omega)
  have hw0 :=wrap64 (n :=a + 1) (by omega) (by omega)
  left
  refine ⟨a + 1,?_,by rw [hsu]; omega,rfl⟩
  simp only [rA,↓reduceIte,reduceCtorEq,N1,N2,N3,N4,N5,N6,N7,I1,I2,I3,I4,L1,e110,e83,hlt,hr,hwi,hi0,hlm,hlen,i64c,hm0,hw0,beq_self_eq_true]
 ·rintro a rfl
  simp only [rA,↓reduceIte,reduceCtorEq,N1,N2,N3,N4,N5,N6,N7,I1,I2,I3,I4,L1,e110,kAt_all,mkL_length]
theorem k_heldBookObjectS (l:List VO) (k:Int) (h0:0 ≤ k) (hb:k + (mcL mcBookObject l:Nat) ≤ 4611686018427387904):EV Tryz.prog E 85 [.val 0 false [.sl .shr 7 ((mkL mkBookObject mcBookObject l k).map (VO.c .shr))],.val 0 false [.p (.int .i64 k)]] = some ⟨[(false,[.p (.int .i64 (k + (mcL mcBookObject l:Nat)))])],[]⟩ :=by
 have hlc :=len_mcL mcBookObject (fun x =>by unfold mcBookObject; omega) l
 refine EV_intro Tryz.func85 rfl ?_
 simp only [rA,↓reduceIte,reduceCtorEq,N1,N2,N3,N4,N5,N6,N7,I1,I2,I3,I4,L1,e85,Tryz.f85]
 rw [for_block l (fun i (a:Int) =>⟨3,[(0,.val 0 false [.sl .shr 7 ((mkL mkBookObject mcBookObject l k).map (VO.c .shr))]),(1,.val 1 false [.p (.int .i64 a)]),(5,.val 2 false [.p (.int .i64 i)])]⟩) (fun i a =>a = kAt mcBookObject l k i)
   (fun r i a =>.norm ⟨1,[(1,.val 0 false [.p (.int .i64 (k + (mcL mcBookObject l:Nat)))])]⟩) ?_ ?_ (a :=k) (kAt_zero mcBookObject l k).symm (by simp only [rA,↓reduceIte,reduceCtorEq,N1,N2,N3,N4,N5,N6,N7,I1,I2,I3,I4,L1,e85]; rfl)]
 ·simp only [rA,↓reduceIte,reduceCtorEq,N1,N2,N3,N4,N5,N6,N7,I1,I2,I3,I4,L1,e85]
 ·rintro i s r a hd hi rfl
  have hlen :=(List.getElem?_eq_some_iff.1 hi).1
  have hlt:((i:Int) < (l.length:Int)) :=by omega
  have hsu :=kAt_succ mcBookObject hi k
  have hge :=kAt_ge mcBookObject l k i
  have hle :=kAt_le mcBookObject hi k
  have hwi :=wrap64 (n :=(i:Int) + 1) (by omega) (by omega)
  have hi0:(0:Int) ≤ (i:Int) :=by omega
  have hr :=getElem?_map_some (f :=(VO.c .shr)) (mkL_get mkBookObject mcBookObject hi k)
  have hlm :=mkL_length mkBookObject mcBookObject l k
  generalize kAt mcBookObject l k i = a at *
  simp only [mcBookObject] at hsu hle
  simp only [VO.c,mkBookObject] at hr
  have hm0 :=k_markText (a) (by omega) (by omega)
  have hw0 :=wrap64 (n :=a + 1) (by omega) (by omega)
  have hm1 :=k_markText (a + 1) (by omega) (by omega)
  have hw1 :=wrap64 (n :=a + 1 + 1) (by omega) (by omega)
  have hw2 :=wrap64 (n :=a + 1 + 1 + 1) (by omega) (by omega)
  have hw3 :=wrap64 (n :=a + 1 + 1 + 1 + 1) (by omega) (by omega)
  have hm4 :=k_markText (a + 1 + 1 + 1 + 1) (by omega) (by omega)
  have hw4 :=wrap64 (n :=a + 1 + 1 + 1 + 1 + 1) (by omega) (by omega)
  have hw5 :=wrap64 (n :=a + 1 + 1 + 1 + 1 + 1 + 1) (by omega) (by omega)
  have hm6 :=k_heldStringS s.holds (a + 1 + 1 + 1 + 1 + 1 + 1) (by omega) (by omega)
  have hn6:¬ (a + 1 + 1 + 1 + 1 + 1 + 1 + (mcL mcString s.holds:Nat) < 0) :=by omega
  left
  refine ⟨a + 1 + 1 + 1 + 1 + 1 + 1 + (mcL mcString s.holds:Nat),?_,by rw [hsu]; omega,rfl⟩
  simp only [rA,↓reduceIte,reduceCtorEq,N1,N2,N3,N4,N5,N6,N7,I1,I2,I3,I4,L1,e85,e83,e110,hlt,hr,hwi,hi0,hlm,hlen,i64c,hm0,hw0,hm1,hw1,hw2,hw3,hm4,hw4,hw5,hm6,hn6,rowsString,beq_self_eq_true]
 ·rintro a rfl
  simp only [rA,↓reduceIte,reduceCtorEq,N1,N2,N3,N4,N5,N6,N7,I1,I2,I3,I4,L1,e85,kAt_all,mkL_length]
theorem k_heldBookChangeS (l:List VC) (k:Int) (h0:0 ≤ k) (hb:k + (mcL mcBookChange l:Nat) ≤ 4611686018427387904):EV Tryz.prog E 86 [.val 0 false [.sl .shr 9 ((mkL mkBookChange mcBookChange l k).map (VC.c .shr))],.val 0 false [.p (.int .i64 k)]] = some ⟨[(false,[.p (.int .i64 (k + (mcL mcBookChange l:Nat)))])],[]⟩ :=by
 have hlc :=len_mcL mcBookChange (fun x =>by unfold mcBookChange; omega) l
 refine EV_intro Tryz.func86 rfl ?_
 simp only [rA,↓reduceIte,reduceCtorEq,N1,N2,N3,N4,N5,N6,N7,I1,I2,I3,I4,L1,e86,Tryz.f86]
 rw [for_block l (fun i (a:Int) =>⟨3,[(0,.val 0 false [.sl .shr 9 ((mkL mkBookChange mcBookChange l k).map (VC.c .shr))]),(1,.val 1 false [.p (.int .i64 a)]),(5,.val 2 false [.p (.int .i64 i)])]⟩) (fun i a =>a = kAt mcBookChange l k i)
   (fun r i a =>.norm ⟨1,[(1,.val 0 false [.p (.int .i64 (k + (mcL mcBookChange l:Nat)))])]⟩) ?_ ?_ (a :=k) (kAt_zero mcBookChange l k).symm (by simp only [rA,↓reduceIte,reduceCtorEq,N1,N2,N3,N4,N5,N6,N7,I1,I2,I3,I4,L1,e86]; rfl)]
 ·simp only [rA,↓reduceIte,reduceCtorEq,N1,N2,N3,N4,N5,N6,N7,I1,I2,I3,I4,L1,e86]
 ·rintro i s r a hd hi rfl
  have hlen :=(List.getElem?_eq_some_iff.1 hi).1
  have hlt:((i:Int) < (l.length:Int)) :=by omega
  have hsu :=kAt_succ mcBookChange hi k
  have hge :=kAt_ge mcBookChange l k i
  have hle :=kAt_le mcBookChange hi k
  have hwi :=wrap64 (n :=(i:Int) + 1) (by omega) (by omega)
  have hi0:(0:Int) ≤ (i:Int) :=by omega
  have hr :=getElem?_map_some (f :=(VC.c .shr)) (mkL_get mkBookChange mcBookChange hi k)
  have hlm :=mkL_length mkBookChange mcBookChange l k
  generalize kAt mcBookChange l k i = a at *
  simp only [mcBookChange] at hsu hle
  simp only [VC.c,mkBookChange] at hr
  have hw0 :=wrap64 (n :=a + 1) (by omega) (by omega)
  have hw1 :=wrap64 (n :=a + 1 + 1) (by omega) (by omega)
  have hm2 :=k_markText (a + 1 + 1) (by omega) (by omega)
  have hw2 :=wrap64 (n :=a + 1 + 1 + 1) (by omega) (by omega)
  have hm3 :=k_markText (a + 1 + 1 + 1) (by omega) (by omega)
  have hw3 :=wrap64 (n :=a + 1 + 1 + 1 + 1) (by omega) (by omega)
  have hw4 :=wrap64 (n :=a + 1 + 1 + 1 + 1 + 1) (by omega) (by omega)
  have hw5 :=wrap64 (n :=a + 1 + 1 + 1 + 1 + 1 + 1) (by omega) (by omega)
  have hm6 :=k_markText (a + 1 + 1 + 1 + 1 + 1 + 1) (by omega) (by omega)
  have hw6 :=wrap64 (n :=a + 1 + 1 + 1 + 1 + 1 + 1 + 1) (by omega) (by omega)
  have hw7 :=wrap64 (n :=a + 1 + 1 + 1 + 1 + 1 + 1 + 1 + 1) (by omega) (by omega)
  have hm8 :=k_heldStringS s.object.holds (a + 1 + 1 + 1 + 1 + 1 + 1 + 1 + 1) (by omega) (by omega)
  have hn8:¬ (a + 1 + 1 + 1 + 1 + 1 + 1 + 1 + 1 + (mcL mcString s.object.holds:Nat) < 0) :=by omega
  left
  refine ⟨a + 1 + 1 + 1 + 1 + 1 + 1 + 1 + 1 + (mcL mcString s.object.holds:Nat),?_,by rw [hsu]; omega,rfl⟩
  simp only [rA,↓reduceIte,reduceCtorEq,N1,N2,N3,N4,N5,N6,N7,I1,I2,I3,I4,L1,e86,e83,e110,hlt,hr,hwi,hi0,hlm,hlen,i64c,hw0,hw1,hm2,hw2,hm3,hw3,hw4,hw5,hm6,hw6,hw7,hm8,hn8,rowsString,beq_self_eq_true]
 ·rintro a rfl
  simp only [rA,↓reduceIte,reduceCtorEq,N1,N2,N3,N4,N5,N6,N7,I1,I2,I3,I4,L1,e86,kAt_all,mkL_length]
theorem k_heldBookTicketS (l:List VT) (k:Int) (h0:0 ≤ k) (hb:k + (mcL mcBookTicket l:Nat) ≤ 4611686018427387904):EV Tryz.prog E 87 [.val 0 false [.sl .shr 5 ((mkL mkBookTicket mcBookTicket l k).map VT.c)],.val 0 false [.p (.int .i64 k)]] = some ⟨[(false,[.p (.int .i64 (k + (mcL mcBookTicket l:Nat)))])],[]⟩ :=by
 have hlc :=len_mcL mcBookTicket (fun x =>by unfold mcBookTicket; omega) l
 refine EV_intro Tryz.func87 rfl ?_
 simp only [rA,↓reduceIte,reduceCtorEq,N1,N2,N3,N4,N5,N6,N7,I1,I2,I3,I4,L1,e87,Tryz.f87]
 rw [for_block l (fun i (a:Int) =>⟨3,[(0,.val 0 false [.sl .shr 5 ((mkL mkBookTicket mcBookTicket l k).map VT.c)]),(1,.val 1 false [.p (.int .i64 a)]),(5,.val 2 false [.p (.int .i64 i)])]⟩) (fun i a =>a = kAt mcBookTicket l k i)
   (fun r i a =>.norm ⟨1,[(1,.val 0 false [.p (.int .i64 (k + (mcL mcBookTicket l:Nat)))])]⟩) ?_ ?_ (a :=k) (kAt_zero mcBookTicket l k).symm (by simp only [rA,↓reduceIte,reduceCtorEq,N1,N2,N3,N4,N5,N6,N7,I1,I2,I3,I4,L1,e87]; rfl)]
 ·simp only [rA,↓reduceIte,reduceCtorEq,N1,N2,N3,N4,N5,N6,N7,I1,I2,I3,I4,L1,e87]
 ·rintro i s r a hd hi rfl
  have hlen :=(List.getElem?_eq_some_iff.1 hi).1
  have hlt:((i:Int) < (l.length:Int)) :=by omega
  have hsu :=kAt_succ mcBookTicket hi k
  have hge :=kAt_ge mcBookTicket l k i
  have hle :=kAt_le mcBookTicket hi k
  have hwi :=wrap64 (n :=(i:Int) + 1) (by omega) (by omega)
  have hi0:(0:Int) ≤ (i:Int) :=by omega
  have hr :=getElem?_map_some (f :=VT.c) (mkL_get mkBookTicket mcBookTicket hi k)
  have hlm :=mkL_length mkBookTicket mcBookTicket l k
  generalize kAt mcBookTicket l k i = a at *
  simp only [mcBookTicket] at hsu hle
  simp only [VT.c,mkBookTicket] at hr
  have hm0 :=k_markText (a) (by omega) (by omega)
  have hw0 :=wrap64 (n :=a + 1) (by omega) (by omega)
  have hw1 :=wrap64 (n :=a + 1 + 1) (by omega) (by omega)
  have hm2 :=k_markText (a + 1 + 1) (by omega) (by omega)
  have hw2 :=wrap64 (n :=a + 1 + 1 + 1) (by omega) (by omega)
  have hw3 :=wrap64 (n :=a + 1 + 1 + 1 + 1) (by omega) (by omega)
  have hw4 :=wrap64 (n :=a + 1 + 1 + 1 + 1 + 1) (by omega) (by omega)
  left
  refine ⟨a + 1 + 1 + 1 + 1 + 1,?_,by rw [hsu]; omega,rfl⟩
  simp only [rA,↓reduceIte,reduceCtorEq,N1,N2,N3,N4,N5,N6,N7,I1,I2,I3,I4,L1,e87,e83,hlt,hr,hwi,hi0,hlm,hlen,i64c,hm0,hw0,hw1,hm2,hw2,hw3,hw4,beq_self_eq_true]
 ·rintro a rfl
  simp only [rA,↓reduceIte,reduceCtorEq,N1,N2,N3,N4,N5,N6,N7,I1,I2,I3,I4,L1,e87,kAt_all,mkL_length]
theorem k_heldBook (x:VBook) (k:Int) (h0:0 ≤ k) (hb:k + (ocBook x:Nat) ≤ 4611686018427387904):EV Tryz.prog E 49 [.val 0 true (VBook.c .shr (moBook x k)),.val 0 false [.p (.int .i64 k)]] = some ⟨[(false,[.p (.int .i64 (k + (ocBook x:Nat)))])],[]⟩ :=by
 refine EV_intro Tryz.func49 rfl ?_
 unfold ocBook at hb ⊢
 have hm0 :=k_heldBookObjectS x.objects (k) (by omega) (by omega)
 have hn0:¬ (k + (mcL mcBookObject x.objects:Nat) < 0) :=by omega
 have hm1 :=k_heldBookChangeS x.history (k + (mcL mcBookObject x.objects:Nat)) (by omega) (by omega)
 have hn1:¬ (k + (mcL mcBookObject x.objects:Nat) + (mcL mcBookChange x.history:Nat) < 0) :=by omega
 have hm2 :=k_heldBookTicketS x.tickets (k + (mcL mcBookObject x.objects:Nat) + (mcL mcBookChange x.history:Nat)) (by omega) (by omega)
 have hn2:¬ (k + (mcL mcBookObject x.objects:Nat) + (mcL mcBookChange x.history:Nat) + (mcL mcBookTicket x.tickets:Nat) < 0) :=by omega
 have he:k + ((mcL mcBookObject x.objects + mcL mcBookChange x.history + mcL mcBookTicket x.tickets:Nat):Int) = k + (mcL mcBookObject x.objects:Nat) + (mcL mcBookChange x.history:Nat) + (mcL mcBookTicket x.tickets:Nat) :=by omega
 rw [he]
 simp only [rA,↓reduceIte,reduceCtorEq,N1,N2,N3,N4,N5,N6,N7,I1,I2,I3,I4,L1,e49,e85,e86,e87,Tryz.f49,VBook.c,moBook,hm0,hn0,hm1,hn1,hm2,hn2,rowsBookObject,rowsBookChange,rowsBookTicket]
theorem mc_leString (x:ByteArray):mcString x ≤ 1 + 1 * x.size :=by
 unfold mcString
 omega
theorem mcL_leString (l:List ByteArray):mcL mcString l ≤ 1 * wSString l :=by
 unfold wSString
 induction l with
 | nil =>simp [mcL]
 | cons x r ih =>
  have :=mc_leString x
  simp only [mcL,sumWString,List.length_cons]
  omega
theorem mc_leBookObject (x:VO):mcBookObject x ≤ 6 + 6 * x.w :=by
 have h0 :=mcL_leString x.holds
 unfold mcBookObject VO.w
 omega
theorem mcL_leBookObject (l:List VO):mcL mcBookObject l ≤ 6 * wSBookObject l :=by
 unfold wSBookObject
 induction l with
 | nil =>simp [mcL]
 | cons x r ih =>
  have :=mc_leBookObject x
  simp only [mcL,sumWBookObject,List.length_cons]
  omega
theorem mc_leBookChange (x:VC):mcBookChange x ≤ 8 + 8 * x.w :=by
 have h0 :=mcL_leString x.object.holds
 unfold mcBookChange VC.w VO.w
 omega
theorem mcL_leBookChange (l:List VC):mcL mcBookChange l ≤ 8 * wSBookChange l :=by
 unfold wSBookChange
 induction l with
 | nil =>simp [mcL]
 | cons x r ih =>
  have :=mc_leBookChange x
  simp only [mcL,sumWBookChange,List.length_cons]
  omega
theorem mc_leBookTicket (x:VT):mcBookTicket x ≤ 5 + 5 * x.w :=by
 unfold mcBookTicket VT.w
 omega
theorem mcL_leBookTicket (l:List VT):mcL mcBookTicket l ≤ 5 * wSBookTicket l :=by
 unfold wSBookTicket
 induction l with
 | nil =>simp [mcL]
 | cons x r ih =>
  have :=mc_leBookTicket x
  simp only [mcL,sumWBookTicket,List.length_cons]
  omega
theorem oc_leBook (x:VBook):ocBook x ≤ 8 * x.w :=by
 have h0 :=mcL_leBookObject x.objects
 have h1 :=mcL_leBookChange x.history
 have h2 :=mcL_leBookTicket x.tickets
 unfold ocBook VBook.w
 omega
structure VW where
 op:Int
 kind:ByteArray
 name:ByteArray
 seen:Int
 text:ByteArray
 hold:ByteArray
def VW.c (x:VW):List C :=[.p (.int .i64 x.op),.p (.string x.kind),.p (.string x.name),.p (.int .i64 x.seen),.p (.string x.text),.p (.string x.hold)]
def VW.w (x:VW):Nat :=x.kind.size + x.name.size + x.text.size + x.hold.size
def VW.ok (x:VW):Prop :=i64ok x.op ∧ x.kind.size ≤ maxLen ∧ x.name.size ≤ maxLen ∧ i64ok x.seen ∧ x.text.size ≤ maxLen ∧ x.hold.size ≤ maxLen
theorem rowsBookWrite (l:List VW):borRows (l.map VW.c) = l.map VW.c ∧ mineRows (l.map VW.c) = true ∧ wholeRows (l.map VW.c) = true ∧ allFreeRows (l.map VW.c) = true :=flat_rows VW.c (fun _ =>rfl) l
theorem k_szBookWrite (x:VW) (left:Int) (hx:x.ok) (h0:0 ≤ left) (h1:left ≤ 1048576):EV Tryz.prog E 18 [.val 0 true (VW.c x),.val 0 false [.p (.int .i64 left)]] = some ⟨[(false,[.p (.int .i64 (subW left x.w))])],[]⟩ :=by
 refine EV_intro Tryz.func18 rfl ?_
 have hx0 :=hx
 simp only [VW.ok] at hx
 obtain ⟨o_op,o_kind,o_name,o_seen,o_text,o_hold⟩ :=hx
 have w0 :=wrap64 (n :=left - x.kind.size) (by unfold maxLen at *; omega) (by omega)
 by_cases c0:left < (x.kind.size:Nat)
 ·have e:subW left x.w = -1 :=subW_lt (by unfold VW.w; omega)
  have d0:left - (x.kind.size:Int) < 0 :=by omega
  simp only [rA,↓reduceIte,reduceCtorEq,N1,N2,N3,N4,N5,N6,N7,I1,I2,I3,I4,L1,e18,Tryz.f18,VW.c,w0,d0,e]
 have d0:¬ (left - (x.kind.size:Nat) < 0) :=by omega
 have w1 :=wrap64 (n :=left - (x.kind.size:Nat) - x.name.size) (by unfold maxLen at *; omega) (by omega)
 by_cases c1:left - (x.kind.size:Nat) < (x.name.size:Nat)
 ·have e:subW left x.w = -1 :=subW_lt (by unfold VW.w; omega)
  have d1:left - (x.kind.size:Nat) - (x.name.size:Int) < 0 :=by omega
  simp only [rA,↓reduceIte,reduceCtorEq,N1,N2,N3,N4,N5,N6,N7,I1,I2,I3,I4,L1,e18,Tryz.f18,VW.c,w0,d0,w1,d1,e]
 have d1:¬ (left - (x.kind.size:Nat) - (x.name.size:Nat) < 0) :=by omega
 have w2 :=wrap64 (n :=left - (x.kind.size:Nat) - (x.name.size:Nat) - x.text.size) (by unfold maxLen at *; omega) (by omega)
 by_cases c2:left - (x.kind.size:Nat) - (x.name.size:Nat) < (x.text.size:Nat)
 ·have e:subW left x.w = -1 :=subW_lt (by unfold VW.w; omega)
  have d2:left - (x.kind.size:Nat) - (x.name.size:Nat) - (x.text.size:Int) < 0 :=by omega
  simp only [rA,↓reduceIte,reduceCtorEq,N1,N2,N3,N4,N5,N6,N7,I1,I2,I3,I4,L1,e18,Tryz.f18,VW.c,w0,d0,w1,d1,w2,d2,e]
 have d2:¬ (left - (x.kind.size:Nat) - (x.name.size:Nat) - (x.text.size:Nat) < 0) :=by omega
 have w3 :=wrap64 (n :=left - (x.kind.size:Nat) - (x.name.size:Nat) - (x.text.size:Nat) - x.hold.size) (by unfold maxLen at *; omega) (by omega)
 by_cases c3:left - (x.kind.size:Nat) - (x.name.size:Nat) - (x.text.size:Nat) < (x.hold.size:Nat)
 ·have e:subW left x.w = -1 :=subW_lt (by unfold VW.w; omega)
  have d3:left - (x.kind.size:Nat) - (x.name.size:Nat) - (x.text.size:Nat) - (x.hold.size:Int) < 0 :=by omega
  simp only [rA,↓reduceIte,reduceCtorEq,N1,N2,N3,N4,N5,N6,N7,I1,I2,I3,I4,L1,e18,Tryz.f18,VW.c,w0,d0,w1,d1,w2,d2,w3,d3,e]
 have d3:¬ (left - (x.kind.size:Nat) - (x.name.size:Nat) - (x.text.size:Nat) - (x.hold.size:Nat) < 0) :=by omega
 have e:subW left x.w = left - (x.kind.size:Nat) - (x.name.size:Nat) - (x.text.size:Nat) - (x.hold.size:Nat) :=by rw [subW_ge (by unfold VW.w; omega)]; unfold VW.w; omega
 simp only [rA,↓reduceIte,reduceCtorEq,N1,N2,N3,N4,N5,N6,N7,I1,I2,I3,I4,L1,e18,Tryz.f18,VW.c,w0,d0,w1,d1,w2,d2,w3,d3,e]
theorem k_toBookWrite (x:VW) (hw:x.w ≤ 4194304):EV Tryz.prog E 20 [.val 0 true (VW.c x)] = some ⟨[(true,VW.c x)],[]⟩ :=by
 refine EV_intro Tryz.func20 rfl ?_
 unfold VW.w at hw
 simp only [rA,↓reduceIte,reduceCtorEq,N1,N2,N3,N4,N5,N6,N7,I1,I2,I3,I4,L1,e20,Tryz.f20,VW.c]
structure VBookDid where
 code:Int
 book:VBook
 version:Int
def VBookDid.c (f:Fl) (x:VBookDid):List C :=[.p (.int .i64 x.code),.p (.int .i64 x.book.now),.p (.int .i64 x.book.floor),.sl f 7 (x.book.objects.map (VO.c f)),.sl f 9 (x.book.history.map (VC.c f)),.sl f 5 (x.book.tickets.map VT.c),.p (.int .i64 x.version)]
def VBookDid.w (x:VBookDid):Nat :=x.book.w
def VBookDid.ok (x:VBookDid):Prop :=i64ok x.code ∧ x.book.ok ∧ i64ok x.version
theorem k_eqBookDid (x:VBookDid) (hw:x.w ≤ 4194304):EV Tryz.prog E 11 [.val 0 true (VBookDid.c .shr x),.val 0 true (VBookDid.c .shr x)] = some ⟨[(false,[.p (.bool true)])],[]⟩ :=by
 refine EV_intro Tryz.func11 rfl ?_
 unfold VBookDid.w at hw
 have h0 :=k_eqBook x.book (by omega)
 simp only [VBook.c] at h0
 simp only [rA,↓reduceIte,reduceCtorEq,N1,N2,N3,N4,N5,N6,N7,I1,I2,I3,I4,L1,e11,e12,Tryz.f11,VBookDid.c,h0,beq_self_eq_true]
def moBookDid (x:VBookDid) (k:Int):VBookDid :=⟨x.code,moBook x.book (k),x.version⟩
def ocBookDid (x:VBookDid):Nat :=ocBook x.book
theorem k_markBookDid (x:VBookDid) (k:Int) (h0:0 ≤ k) (hb:k + (ocBookDid x:Nat) ≤ 4611686018427387904):EV Tryz.prog E 16 [.val 0 true (VBookDid.c .own x),.val 0 false [.p (.int .i64 k)]] = some ⟨[(false,[.p (.int .i64 (k + (ocBookDid x:Nat)))])],[VBookDid.c .own (moBookDid x k)]⟩ :=by
 refine EV_intro Tryz.func16 rfl ?_
 unfold ocBookDid at hb ⊢
 have hm0 :=k_markBook x.book (k) (by omega) (by omega)
 simp only [VBook.c,moBook] at hm0
 have he:k + ((ocBook x.book:Nat):Int) = k + (ocBook x.book:Nat) :=by omega
 rw [he]
 simp only [rA,↓reduceIte,reduceCtorEq,N1,N2,N3,N4,N5,N6,N7,I1,I2,I3,I4,L1,e16,e14,Tryz.f16,VBookDid.c,moBookDid,moBook,hm0,rowsBookObject,rowsBookChange,rowsBookTicket]
theorem k_heldBookDid (x:VBookDid) (k:Int) (h0:0 ≤ k) (hb:k + (ocBookDid x:Nat) ≤ 4611686018427387904):EV Tryz.prog E 17 [.val 0 true (VBookDid.c .shr (moBookDid x k)),.val 0 false [.p (.int .i64 k)]] = some ⟨[(false,[.p (.int .i64 (k + (ocBookDid x:Nat)))])],[]⟩ :=by
 refine EV_intro Tryz.func17 rfl ?_
 unfold ocBookDid at hb ⊢
 have hm0 :=k_heldBook x.book (k) (by omega) (by omega)
 simp only [VBook.c,moBook] at hm0
 have hn0:¬ (k + (ocBook x.book:Nat) < 0) :=by omega
 have he:k + ((ocBook x.book:Nat):Int) = k + (ocBook x.book:Nat) :=by omega
 rw [he]
 simp only [rA,↓reduceIte,reduceCtorEq,N1,N2,N3,N4,N5,N6,N7,I1,I2,I3,I4,L1,e17,e49,Tryz.f17,VBookDid.c,moBookDid,moBook,hm0,hn0,rowsBookObject,rowsBookChange,rowsBookTicket]
theorem oc_leBookDid (x:VBookDid):ocBookDid x ≤ 8 * x.w :=by
 have h0 :=mcL_leBookObject x.book.objects
 have h1 :=mcL_leBookChange x.book.history
 have h2 :=mcL_leBookTicket x.book.tickets
 unfold ocBookDid ocBook VBookDid.w VBook.w
 omega
theorem szNil:((⟨#[]⟩:ByteArray).size:Int) = 0 :=rfl
def nilT:ByteArray :=⟨#[]⟩
def wrB (w:VW):Bool :=inR w.op 1 5 && (nameB w.kind && (nameB w.name && (decide (0 ≤ w.seen) && (decide ((w.text.size:Int) ≤ 300) && ((decide (w.hold = ⟨#[]⟩) || nameB w.hold) &&
 ((decide (w.op ≤ 2) || decide (w.text = ⟨#[]⟩)) && ((!decide (w.op = 1) || decide (w.seen = 0)) && (decide (w.op = 1) || if w.op ≤ 3 then decide (w.hold = ⟨#[]⟩) else !decide (w.hold = ⟨#[]⟩)))))))))

theorem k51 (w:VW):EV Tryz.prog E 51 [.val 0 true (VW.c w)] = some ⟨[(false,[.p (.bool (wrB w))])],[]⟩ :=by
 refine EV_intro Tryz.func51 rfl ?_
 obtain ⟨op,kind,name,seen,text,hold⟩ :=w
 have h1 :=k74 kind
 have h2 :=k74 name
 have h3 :=k74 hold
 unfold wrB
 unfold inR
 by_cases c1:1 ≤ op
 case neg =>
  have d1:op < 1 :=by omega
  simp only [rA,↓reduceIte,reduceCtorEq,N1,N2,N3,N4,N5,N6,N7,I1,I2,I3,I4,L1,e51,e74,Tryz.f51,VW.c,h1,h2,c1,d1]
 have d1:¬ (op < 1) :=by omega
 by_cases c2:op ≤ 5
 case neg =>
  have d2:5 < op :=by omega
  simp only [rA,↓reduceIte,reduceCtorEq,N1,N2,N3,N4,N5,N6,N7,I1,I2,I3,I4,L1,e51,e74,Tryz.f51,VW.c,h1,h2,c1,d1,c2,d2]
 have d2:¬ (5 < op) :=by omega
 cases c3:nameB kind
 ·simp only [rA,↓reduceIte,reduceCtorEq,N1,N2,N3,N4,N5,N6,N7,I1,I2,I3,I4,L1,e51,e74,Tryz.f51,VW.c,h1,h2,c1,d1,c2,d2,c3]
 cases c4:nameB name
 ·simp only [rA,↓reduceIte,reduceCtorEq,N1,N2,N3,N4,N5,N6,N7,I1,I2,I3,I4,L1,e51,e74,Tryz.f51,VW.c,h1,h2,c1,d1,c2,d2,c3,c4]
 by_cases c5:0 ≤ seen
 case neg =>
  have d5:seen < 0 :=by omega
  simp only [rA,↓reduceIte,reduceCtorEq,N1,N2,N3,N4,N5,N6,N7,I1,I2,I3,I4,L1,e51,e74,Tryz.f51,VW.c,h1,h2,c1,d1,c2,d2,c3,c4,c5,d5]
 have d5:¬ (seen < 0) :=by omega
 by_cases c6:(text.size:Int) ≤ 300
 case neg =>
  have d6:300 < (text.size:Int) :=by omega
  simp only [rA,↓reduceIte,reduceCtorEq,N1,N2,N3,N4,N5,N6,N7,I1,I2,I3,I4,L1,e51,e74,Tryz.f51,VW.c,h1,h2,c1,d1,c2,d2,c3,c4,c5,d5,c6,d6]
 have d6:¬ (300 < (text.size:Int)) :=by omega
 by_cases c7:hold = ⟨#[]⟩
 ·by_cases c9:text = ⟨#[]⟩ <;> by_cases c10:seen = 0 <;> rcases (show op = 1 ∨ op = 2 ∨ op = 3 ∨ op = 4 ∨ op = 5 by omega) with rfl | rfl | rfl | rfl | rfl <;>
   simp only [rA,↓reduceIte,reduceCtorEq,N1,N2,N3,N4,N5,N6,N7,I1,I2,I3,I4,L1,e51,e74,Tryz.f51,VW.c,h1,h2,c3,c4,c5,d5,c6,d6,c7,c9,c10,szNil]
 ·cases c8:nameB hold
  ·simp only [rA,↓reduceIte,reduceCtorEq,N1,N2,N3,N4,N5,N6,N7,I1,I2,I3,I4,L1,e51,e74,Tryz.f51,VW.c,h1,h2,c1,d1,c2,d2,c3,c4,c5,d5,c6,d6,c7,h3,c8]
  by_cases c9:text = ⟨#[]⟩ <;> by_cases c10:seen = 0 <;> rcases (show op = 1 ∨ op = 2 ∨ op = 3 ∨ op = 4 ∨ op = 5 by omega) with rfl | rfl | rfl | rfl | rfl <;>
   simp only [rA,↓reduceIte,reduceCtorEq,N1,N2,N3,N4,N5,N6,N7,I1,I2,I3,I4,L1,e51,e74,Tryz.f51,VW.c,h1,h2,c3,c4,c5,d5,c6,d6,c7,h3,c8,c9,c10,szNil]
theorem k62 (w:VW):EV Tryz.prog E 62 [.val 0 true (VW.c w)] = some ⟨[(false,[.p (.bool (wrB w))])],[]⟩ :=by
 refine EV_intro Tryz.func62 rfl ?_
 obtain ⟨op,kind,name,seen,text,hold⟩ :=w
 have h1 :=k61 kind
 have h2 :=k61 name
 have h3 :=k61 hold
 have h0 :=k57 op 1 5
 unfold wrB
 unfold inR at h0
 unfold inR
 by_cases c1:1 ≤ op
 case neg =>
  have d1:op < 1 :=by omega
  simp only [rA,↓reduceIte,reduceCtorEq,N1,N2,N3,N4,N5,N6,N7,I1,I2,I3,I4,L1,e62,e61,e57,Tryz.f62,VW.c,h1,h2,h0,c1,d1]
 have d1:¬ (op < 1) :=by omega
 by_cases c2:op ≤ 5
 case neg =>
  have d2:5 < op :=by omega
  simp only [rA,↓reduceIte,reduceCtorEq,N1,N2,N3,N4,N5,N6,N7,I1,I2,I3,I4,L1,e62,e61,e57,Tryz.f62,VW.c,h1,h2,h0,c1,d1,c2,d2]
 have d2:¬ (5 < op) :=by omega
 cases c3:nameB kind
 ·simp only [rA,↓reduceIte,reduceCtorEq,N1,N2,N3,N4,N5,N6,N7,I1,I2,I3,I4,L1,e62,e61,e57,Tryz.f62,VW.c,h1,h2,h0,c1,d1,c2,d2,c3]
 cases c4:nameB name
 ·simp only [rA,↓reduceIte,reduceCtorEq,N1,N2,N3,N4,N5,N6,N7,I1,I2,I3,I4,L1,e62,e61,e57,Tryz.f62,VW.c,h1,h2,h0,c1,d1,c2,d2,c3,c4]
 by_cases c5:0 ≤ seen
 case neg =>
  have d5:seen < 0 :=by omega
  simp only [rA,↓reduceIte,reduceCtorEq,N1,N2,N3,N4,N5,N6,N7,I1,I2,I3,I4,L1,e62,e61,e57,Tryz.f62,VW.c,h1,h2,h0,c1,d1,c2,d2,c3,c4,c5,d5]
 have d5:¬ (seen < 0) :=by omega
 by_cases c6:(text.size:Int) ≤ 300
 case neg =>
  have d6:300 < (text.size:Int) :=by omega
  simp only [rA,↓reduceIte,reduceCtorEq,N1,N2,N3,N4,N5,N6,N7,I1,I2,I3,I4,L1,e62,e61,e57,Tryz.f62,VW.c,h1,h2,h0,c1,d1,c2,d2,c3,c4,c5,d5,c6,d6]
 have d6:¬ (300 < (text.size:Int)) :=by omega
 by_cases c7:hold = ⟨#[]⟩
 ·by_cases c9:text = ⟨#[]⟩ <;> by_cases c10:seen = 0 <;> rcases (show op = 1 ∨ op = 2 ∨ op = 3 ∨ op = 4 ∨ op = 5 by omega) with rfl | rfl | rfl | rfl | rfl <;>
   simp only [rA,↓reduceIte,reduceCtorEq,N1,N2,N3,N4,N5,N6,N7,I1,I2,I3,I4,L1,e62,e61,e57,Tryz.f62,VW.c,h1,h2,h0,c3,c4,c5,d5,c6,d6,c7,c9,c10,szNil]
 ·cases c8:nameB hold
  ·simp only [rA,↓reduceIte,reduceCtorEq,N1,N2,N3,N4,N5,N6,N7,I1,I2,I3,I4,L1,e62,e61,e57,Tryz.f62,VW.c,h1,h2,h0,c1,d1,c2,d2,c3,c4,c5,d5,c6,d6,c7,h3,c8]
  by_cases c9:text = ⟨#[]⟩ <;> by_cases c10:seen = 0 <;> rcases (show op = 1 ∨ op = 2 ∨ op = 3 ∨ op = 4 ∨ op = 5 by omega) with rfl | rfl | rfl | rfl | rfl <;>
   simp only [rA,↓reduceIte,reduceCtorEq,N1,N2,N3,N4,N5,N6,N7,I1,I2,I3,I4,L1,e62,e61,e57,Tryz.f62,VW.c,h1,h2,h0,c3,c4,c5,d5,c6,d6,c7,h3,c8,c9,c10,szNil]

def idxT (h:ByteArray):List ByteArray → Nat → Int
 | [],_ =>-1
 | x :: r,i =>if h = x then (i:Int) else idxT h r (i + 1)
theorem idxT_ge (h:ByteArray):∀ (l:List ByteArray) (i:Nat),-1 ≤ idxT h l i
 | [],_ =>by simp [idxT]
 | x :: r,i =>by
  by_cases d:h = x
  ·simp [idxT,d]
  ·simpa [idxT,d] using idxT_ge h r (i + 1)
theorem k91 (l:List ByteArray) (h:ByteArray) (hl:l.length ≤ 4194304):EV Tryz.prog E 91 [.val 0 false [.sl .shr 1 (l.map strC)],.val 0 false [.p (.string h)]] = some ⟨[(false,[.p (.int .i64 (idxT h l 0))])],[]⟩ :=by
 refine EV_intro Tryz.func91 rfl ?_
 simp only [rA,↓reduceIte,reduceCtorEq,N1,N2,N3,N4,N5,N6,N7,I1,I2,I3,I4,L1,e91,Tryz.f91]
 rw [for_block l (fun i (_:Unit) =>⟨4,[(0,.val 0 false [.sl .shr 1 (l.map strC)]),(1,.val 1 false [.p (.string h)]),(7,.val 2 false [.p (.int .i64 l.length)]),(8,.val 3 false [.p (.int .i64 i)])]⟩) (fun i _ =>True)
   (fun r i a =>if idxT h r i < 0 then .norm ⟨0,[]⟩ else .ret ⟨[(false,[.p (.int .i64 (idxT h r i))])],[]⟩) ?_ ?_ (a :=()) trivial (by simp only [rA,↓reduceIte,reduceCtorEq,N1,N2,N3,N4,N5,N6,N7,I1,I2,I3,I4,L1,e91]; rfl)]
 ·by_cases q:idxT h l 0 < 0
  ·have e:idxT h l 0 = -1 :=by have :=idxT_ge h l 0; omega
   simp only [rA,↓reduceIte,reduceCtorEq,N1,N2,N3,N4,N5,N6,N7,I1,I2,I3,I4,L1,e91,q,e]
  ·simp only [rA,↓reduceIte,reduceCtorEq,N1,N2,N3,N4,N5,N6,N7,I1,I2,I3,I4,L1,e91,q]
 ·intro i x r a hd hi _
  have hlen :=(List.getElem?_eq_some_iff.1 hi).1
  have hlt:((i:Int) < (l.length:Int)) :=by omega
  have hr :=getElem?_map_some (f :=strC) hi
  have hwi :=wrap64 (n :=(i:Int) + 1) (by omega) (by omega)
  have hi0:(0:Int) ≤ (i:Int) :=by omega
  simp only [strC] at hr
  by_cases d:h = x
  ·right
   have hn:¬ ((i:Int) < 0) :=by omega
   simp only [rA,↓reduceIte,reduceCtorEq,N1,N2,N3,N4,N5,N6,N7,I1,I2,I3,I4,L1,e91,hlt,hr,hwi,hi0,d,idxT,hn]
  ·left
   refine ⟨(),?_,trivial,by simp [idxT,d]⟩
   simp only [rA,↓reduceIte,reduceCtorEq,N1,N2,N3,N4,N5,N6,N7,I1,I2,I3,I4,L1,e91,hlt,hr,hwi,hi0,d,i64c]
 ·intro a _
  have hn:¬ ((l.length:Int) < (l.length:Int)) :=by omega
  simp only [rA,↓reduceIte,reduceCtorEq,N1,N2,N3,N4,N5,N6,N7,I1,I2,I3,I4,L1,e91,hn,idxT]
def hasF (h:ByteArray):List ByteArray → Bool
 | [] =>false
 | x :: r =>decide (x = h) || hasF h r
theorem k111 (l:List ByteArray) (h:ByteArray) (hl:l.length ≤ 4194304):EV Tryz.prog E 111 [.val 0 false [.sl .shr 1 (l.map strC)],.val 0 false [.p (.string h)]] = some ⟨[(false,[.p (.bool (hasF h l))])],[]⟩ :=by
 refine EV_intro Tryz.func111 rfl ?_
 simp only [rA,↓reduceIte,reduceCtorEq,N1,N2,N3,N4,N5,N6,N7,I1,I2,I3,I4,L1,e111,Tryz.f111]
 rw [for_block l (fun i (_:Unit) =>⟨3,[(0,.val 0 false [.sl .shr 1 (l.map strC)]),(1,.val 1 false [.p (.string h)]),(5,.val 2 false [.p (.int .i64 i)])]⟩) (fun i _ =>True)
   (fun r i a =>if hasF h r = true then .ret ⟨[(false,[.p (.bool true)])],[]⟩ else .norm ⟨0,[]⟩) ?_ ?_ (a :=()) trivial (by simp only [rA,↓reduceIte,reduceCtorEq,N1,N2,N3,N4,N5,N6,N7,I1,I2,I3,I4,L1,e111]; rfl)]
 ·cases q:hasF h l
  ·simp only [rA,↓reduceIte,reduceCtorEq,N1,N2,N3,N4,N5,N6,N7,I1,I2,I3,I4,L1,e111,q]
  ·simp only [rA,↓reduceIte,reduceCtorEq,N1,N2,N3,N4,N5,N6,N7,I1,I2,I3,I4,L1,e111,q]
 ·intro i x r a hd hi _
  have hlen :=(List.getElem?_eq_some_iff.1 hi).1
  have hlt:((i:Int) < (l.length:Int)) :=by omega
  have hr :=getElem?_map_some (f :=strC) hi
  have hwi :=wrap64 (n :=(i:Int) + 1) (by omega) (by omega)
  have hi0:(0:Int) ≤ (i:Int) :=by omega
  simp only [strC] at hr
  by_cases d:x = h
  ·right
   simp only [rA,↓reduceIte,reduceCtorEq,N1,N2,N3,N4,N5,N6,N7,I1,I2,I3,I4,L1,e111,hlt,hr,hwi,hi0,d,hasF]
  ·left
   refine ⟨(),?_,trivial,by simp [hasF,d]⟩
   simp only [rA,↓reduceIte,reduceCtorEq,N1,N2,N3,N4,N5,N6,N7,I1,I2,I3,I4,L1,e111,hlt,hr,hwi,hi0,d,i64c]
 ·intro a _
  have hn:¬ ((l.length:Int) < (l.length:Int)) :=by omega
  simp only [rA,↓reduceIte,reduceCtorEq,N1,N2,N3,N4,N5,N6,N7,I1,I2,I3,I4,L1,e111,hn,hasF]
theorem idxT_spec (h:ByteArray):∀ (l:List ByteArray) (k:Nat),(hasF h l = false ∧ idxT h l k = -1) ∨ (hasF h l = true ∧ ∃ i,i < l.length ∧ idxT h l k = ((k + i:Nat):Int))
 | [],k =>.inl ⟨rfl,rfl⟩
 | x :: r,k =>by
  by_cases d:h = x
  ·subst d
   exact .inr ⟨by simp [hasF],0,by simp,by simp [idxT]⟩
  ·have d':¬ x = h :=fun e =>d e.symm
   rcases idxT_spec h r (k + 1) with ⟨h1,h2⟩ | ⟨h1,i,hi,h2⟩
   ·exact .inl ⟨by simp [hasF,d',h1],by simp [idxT,d,h2]⟩
   ·exact .inr ⟨by simp [hasF,h1],i + 1,by simp; omega,by simp only [idxT,if_neg d,h2]; omega⟩
theorem hasF_mem (h:ByteArray):∀ l:List ByteArray,hasF h l = true ↔ h ∈ l
 | [] =>by simp [hasF]
 | x :: r =>by
  simp only [hasF,Bool.or_eq_true,decide_eq_true_eq,List.mem_cons,hasF_mem h r]
  exact ⟨fun e =>e.imp Eq.symm id,fun e =>e.imp Eq.symm id⟩
def insI (l:List ByteArray) (h:ByteArray):List ByteArray :=sortT (l ++ [h])
def delI (l:List ByteArray) (h:ByteArray):List ByteArray :=l.take (idxT h l 0).toNat ++ l.drop ((idxT h l 0).toNat + 1)
def cntT (h:ByteArray):List ByteArray → Nat
 | [] =>0
 | x :: r =>if Op.bytesLess x.toList h.toList = true then cntT h r + 1 else 0
def insS (l:List ByteArray) (h:ByteArray):List ByteArray :=l.take (cntT h l) ++ [h] ++ l.drop (cntT h l)
def delS (l:List ByteArray) (h:ByteArray):List ByteArray :=l.filter fun x =>!decide (x = h)

theorem less_lt:∀ a b:List UInt8,Op.bytesLess a b = true ↔ a < b
 | [],[] =>by simp [Op.bytesLess]
 | [],b :: s =>by simp [Op.bytesLess]
 | a :: r,[] =>by simp [Op.bytesLess]
 | a :: r,b :: s =>by
  rw [List.cons_lt_cons_iff,← less_lt r s]
  simp [Op.bytesLess]
theorem toList_data (x:ByteArray):x.toList = x.data.toList :=ByteArray.toList_eq x
theorem toList_inj {x y:ByteArray} (h:x.toList = y.toList):x = y :=by
 rw [toList_data,toList_data] at h
 exact ByteArray.ext (Array.toList_inj.1 h)
def ltT (x y:ByteArray):Prop :=x.toList < y.toList
theorem ltT_irrefl (x:ByteArray):¬ ltT x x :=List.lt_irrefl _
theorem ltT_trans {x y z:ByteArray} (h:ltT x y) (k:ltT y z):ltT x z :=List.lt_trans h k
theorem ltT_total {x y:ByteArray} (h:¬ ltT x y) (k:x ≠ y):ltT y x :=by
 rcases List.le_total x.toList y.toList with q | q
 ·exfalso
  have:¬ y.toList < x.toList :=q
  exact k (toList_inj (List.le_antisymm q (List.not_lt.1 h)))
 ·rcases Classical.em (ltT y x) with r | r
  ·exact r
  ·exact absurd (toList_inj (List.le_antisymm (List.not_lt.1 r) q)) k
abbrev Asc (l:List ByteArray):Prop :=List.Pairwise ltT l

theorem cnt_spec (h:ByteArray):∀ l:List ByteArray,Asc l → (∀ x ∈ l.take (cntT h l),ltT x h) ∧ ∀ x ∈ l.drop (cntT h l),¬ ltT x h
 | [],_ =>by simp [cntT]
 | x :: r,ha =>by
  obtain ⟨h1,h2⟩ :=List.pairwise_cons.1 ha
  by_cases d:Op.bytesLess x.toList h.toList = true
  ·obtain ⟨a,b⟩ :=cnt_spec h r h2
   simp only [cntT,if_pos d,List.take_succ_cons,List.drop_succ_cons,List.mem_cons]
   refine ⟨fun y hy =>?_,b⟩
   rcases hy with rfl | hy
   ·exact (less_lt _ _).1 d
   ·exact a y hy
  ·simp only [cntT,if_neg d,List.take_zero,List.drop_zero]
   refine ⟨fun y hy =>(by cases hy),fun y hy =>?_⟩
   have hx:¬ ltT x h :=fun e =>d ((less_lt _ _).2 e)
   rcases List.mem_cons.1 hy with rfl | hy
   ·exact hx
   ·exact fun e =>hx (ltT_trans (h1 y hy) e)
theorem insS_asc {l:List ByteArray} (ha:Asc l) {h:ByteArray} (hn:hasF h l = false):Asc (insS l h) :=by
 obtain ⟨a,b⟩ :=cnt_spec h l ha
 have hd:∀ x ∈ l.drop (cntT h l),ltT h x :=fun x hx =>ltT_total (b x hx) fun e =>by
  subst e
  have :=(hasF_mem x l).2 (List.mem_of_mem_drop hx)
  rw [hn] at this
  cases this
 have hsp :=ha
 rw [← List.take_append_drop (cntT h l) l] at hsp
 obtain ⟨p1,p2,p3⟩ :=List.pairwise_append.1 hsp
 unfold insS
 rw [List.append_assoc]
 refine List.pairwise_append.2 ⟨p1,List.pairwise_cons.2 ⟨hd,p2⟩,fun x hx y hy =>?_⟩
 rcases List.mem_cons.1 hy with rfl | hy
 ·exact a x hx
 ·exact p3 x hx y hy
theorem insS_perm (l:List ByteArray) (h:ByteArray):(insS l h).Perm (l ++ [h]) :=by
 unfold insS
 have e:l.take (cntT h l) ++ [h] ++ l.drop (cntT h l) = l.take (cntT h l) ++ ([h] ++ l.drop (cntT h l)) :=List.append_assoc _ _ _
 rw [e]
 refine (List.Perm.append_left _ (List.perm_append_comm)).trans ?_
 rw [← List.append_assoc,List.take_append_drop]
theorem sort_eq {l m:List ByteArray} (hp:m.Perm l) (ha:Asc m):sortT l = m :=by
 have h1:(l.map fun b =>b.data.toList).mergeSort (fun x y =>decide (x ≤ y)) = m.map fun b =>b.data.toList :=by
  refine List.Perm.eq_of_pairwise (le :=fun a b =>a ≤ b) (fun a b _ _ h1 h2 =>List.le_antisymm h1 h2) ?_ ?_ ((List.mergeSort_perm _ _).trans (hp.symm.map _))
  ·refine (List.pairwise_mergeSort (le :=fun x y:List UInt8 =>decide (x ≤ y)) (fun a b c h1 h2 =>?_) (fun a b =>?_) _).imp fun h =>of_decide_eq_true h
   ·exact decide_eq_true (List.le_trans (of_decide_eq_true h1) (of_decide_eq_true h2))
   ·rcases List.le_total a b with h | h
    ·simp [h]
    ·simp [h]
  ·refine List.pairwise_map.2 (ha.imp fun {x y} h =>?_)
   have h:x.toList < y.toList :=h
   rw [toList_data,toList_data] at h
   exact List.le_of_lt h
 unfold sortT
 rw [h1,List.map_map]
 have e:((fun l:List UInt8 =>(⟨l.toArray⟩:ByteArray)) ∘ fun b:ByteArray =>b.data.toList) = id :=by funext b; rfl
 rw [e,List.map_id]
theorem ins_eq {l:List ByteArray} (ha:Asc l) {h:ByteArray} (hn:hasF h l = false):insI l h = insS l h :=sort_eq (insS_perm l h) (insS_asc ha hn)

theorem asc_ne {x:ByteArray} {r:List ByteArray} (h:∀ y ∈ r,ltT x y):r.filter (fun y =>!decide (y = x)) = r :=by
 refine List.filter_eq_self.2 fun y hy =>?_
 have :=h y hy
 simp
 rintro rfl
 exact ltT_irrefl _ this
theorem idxT_shift (h:ByteArray):∀ (l:List ByteArray) (k:Nat),hasF h l = true → (idxT h l (k + 1)).toNat = (idxT h l k).toNat + 1
 | [],k,hh =>by simp [hasF] at hh
 | x :: r,k,hh =>by
  by_cases d:h = x
  ·simp only [idxT,if_pos d]; omega
  ·have d':¬ x = h :=fun e =>d e.symm
   simp only [idxT,if_neg d]
   exact idxT_shift h r (k + 1) (by simpa [hasF,d'] using hh)
theorem del_eq:∀ {l:List ByteArray},Asc l → ∀ {h:ByteArray},hasF h l = true → delI l h = delS l h
 | [],_,h,hh =>by simp [hasF] at hh
 | x :: r,ha,h,hh =>by
  obtain ⟨h1,h2⟩ :=List.pairwise_cons.1 ha
  by_cases d:h = x
  ·subst d
   simp only [delI,delS,idxT,if_true,Int.toNat_natCast,List.take_zero,List.nil_append,Nat.zero_add,List.drop_succ_cons,List.drop_zero,decide_true,Bool.not_true]
   rw [List.filter_cons_of_neg (by simp),asc_ne h1]
  ·have d':¬ x = h :=fun e =>d e.symm
   have hr:hasF h r = true :=by simpa [hasF,d'] using hh
   have ih :=del_eq h2 hr
   have hs :=idxT_shift h r 0 hr
   simp only [delI,delS] at ih ⊢
   simp only [idxT,if_neg d]
   rw [hs,List.take_succ_cons,List.drop_succ_cons,List.filter_cons_of_pos (by simp [d']),← ih]
   rfl
theorem ascF_asc:∀ (l:List ByteArray) (p:Option ByteArray),ascF p l = true → Asc l ∧ ∀ q,p = some q → ∀ x ∈ l,ltT q x
 | [],_,_ =>⟨List.Pairwise.nil,fun _ _ x hx =>by cases hx⟩
 | x :: r,none,h =>by
  simp only [ascF,Bool.and_eq_true] at h
  obtain ⟨h1,h2⟩ :=ascF_asc r (some x) h.2
  exact ⟨List.pairwise_cons.2 ⟨h2 x rfl,h1⟩,fun q hq =>by cases hq⟩
 | x :: r,some p,h =>by
  simp only [ascF,Bool.and_eq_true] at h
  obtain ⟨h1,h2⟩ :=ascF_asc r (some x) h.2.2
  have hp:ltT p x :=(less_lt _ _).1 h.2.1
  refine ⟨List.pairwise_cons.2 ⟨h2 x rfl,h1⟩,fun q hq y hy =>?_⟩
  cases hq
  rcases List.mem_cons.1 hy with rfl | hy
  ·exact hp
  ·exact ltT_trans hp (h2 x rfl y hy)
def chO (f4 f5:List ByteArray → ByteArray → List ByteArray) (w:VW) (v:Int) (o:VO):VO :=
 if w.op = 1 then ⟨w.kind,w.name,v,v,w.text,false,if w.hold = ⟨#[]⟩ then [] else [w.hold]⟩
 else if w.op = 2 then ⟨o.kind,o.name,v,o.born,w.text,o.ending,o.holds⟩
 else if w.op = 3 then ⟨o.kind,o.name,v,o.born,o.text,true,o.holds⟩
 else if w.op = 4 then ⟨o.kind,o.name,v,o.born,o.text,o.ending,f4 o.holds w.hold⟩
 else ⟨o.kind,o.name,v,o.born,o.text,o.ending,f5 o.holds w.hold⟩
def chC (b:VBook) (w:VW) (o:VO) (there:Bool):Int :=
 if there = decide (w.op = 1) then 3
 else if w.seen ≠ 0 ∧ w.seen ≠ o.version then 4
 else if o.ending = true ∧ w.op ≠ 5 then 5
 else if w.op = 1 ∧ 100 ≤ b.objects.length then 7
 else if w.op = 4 ∧ hasF w.hold o.holds = true then 6
 else if w.op = 4 ∧ 5 ≤ o.holds.length then 7
 else if w.op = 5 ∧ hasF w.hold o.holds = false then 6
 else if 1000000 ≤ b.now then 8
 else 0
def goneO (o:VO):Bool :=o.ending && decide (o.holds.length = 0)
def bookC (b:VBook) (c:VC):VBook :=
 ⟨c.version,if b.history.length < 200 then b.floor else ((b.history ++ [c]).head?.map (·.version)).getD 0,putR c.object c.gone b.objects,if b.history.length < 200 then b.history ++ [c] else (b.history ++ [c]).drop 1,b.tickets⟩
def chG (f4 f5:List ByteArray → ByteArray → List ByteArray) (w:VW) (v:Int) (o:VO):VC :=⟨v,goneO (chO f4 f5 w v o),chO f4 f5 w v o⟩
def bookI (b:VBook) (w:VW) (o:VO) (t:Bool):VBook :=if chC b w o t = 0 then bookC b (chG insI delI w (b.now + 1) o) else b
def verI (b:VBook) (w:VW) (o:VO) (t:Bool):Int :=if chC b w o t = 4 then o.version else if chC b w o t = 0 then b.now + 1 else 0

theorem k92 (l:List ByteArray) (h:ByteArray) (hl:l.length ≤ 4194302):EV Tryz.prog E 92 [.val 0 false [.sl .own 1 (l.map strC ++ [[.p (.string h)]])]] = some ⟨[],[[.sl .own 1 ((insI l h).map strC)]]⟩ :=by
 refine EV_sum (k :=0) rfl ?_
 have e:l.map strC ++ [[.p (.string h)]] = rowsT (l ++ [h]) :=by simp [rowsT,strC]
 have e2:(l ++ [h]).length < 4194304 :=by simp; omega
 rw [show sumOf 0 = sumSort from rfl]
 simp only [sumSort,e,textsOf_rowsT,e2,if_true]
 rfl
theorem k93 (l:List ByteArray) (h:ByteArray) (i:Nat) (hi:i < l.length) (h2:idxT h l 0 = (i:Int)):EV Tryz.prog E 93 [.val 0 false [.sl .own 1 (l.map strC)],.val 0 false [.p (.int .i64 i)],.val 0 false [.p (.int .i64 ((i:Int) + 1))]] = some ⟨[(false,[.sl .own 1 ((delI l h).map strC)])],[]⟩ :=by
 refine EV_sum (k :=1) rfl ?_
 have e:l.map strC = rowsT l :=rfl
 have e2:0 ≤ (i:Int) ∧ (i:Int) < (i:Int) + 1 ∧ (i:Int) + 1 ≤ (l.length:Int) :=by omega
 rw [show sumOf 1 = sumDel from rfl]
 simp only [sumDel,e,textsOf_rowsT,e2,and_self,if_true]
 unfold delI
 rw [h2,Int.toNat_natCast,show ((i:Int) + 1).toNat = i + 1 by omega]
 rfl
theorem z3:Int.toNat 1 = 1 :=rfl
theorem pos3 (n:Nat):1 + n ≤ n + 1 :=by omega
theorem pos2 (n:Nat):1 ≤ n + 1 :=by omega
theorem z2:Int.toNat 0 = 0 :=rfl
theorem c0n:((0:Nat):Int) = 0 :=rfl
theorem pos1 (n:Nat):0 < n + 1 :=by omega
theorem len1 (l:List (List C)) (x:List C):(((l ++ [x]).length:Nat):Int) = (l.length:Int) + 1 :=by simp
theorem len2 (l:List (List C)) (x:List C):(((l ++ [x]).length + 1:Nat):Int) = (l.length:Int) + 1 + 1 :=by simp
theorem bb:(false == false) = true ∧ (true == true) = true ∧ (true == false) = false ∧ (false == true) = false :=⟨rfl,rfl,rfl,rfl⟩
theorem uf:type_of% (And.intro VBook.c.eq_1 (And.intro VW.c.eq_1 (And.intro VO.c.eq_1 (And.intro VC.c.eq_1 (And.intro nilObj.eq_1 (And.intro bb (And.intro @List.length_map.{0,0} (And.intro @List.map_cons.{0,0} (And.intro @List.map_nil.{0,0} (And.intro @List.length_nil.{0} (And.intro strC.eq_1 (And.intro rowsString (And.intro rowsBookObject (And.intro rowsBookChange rowsBookTicket)))))))))))))) :=And.intro VBook.c.eq_1 (And.intro VW.c.eq_1 (And.intro VO.c.eq_1 (And.intro VC.c.eq_1 (And.intro nilObj.eq_1 (And.intro bb (And.intro @List.length_map.{0,0} (And.intro @List.map_cons.{0,0} (And.intro @List.map_nil.{0,0} (And.intro @List.length_nil.{0} (And.intro strC.eq_1 (And.intro rowsString (And.intro rowsBookObject (And.intro rowsBookChange rowsBookTicket)))))))))))))
theorem ug:type_of% (And.intro len1 (And.intro len2 (And.intro pos1 (And.intro pos2 (And.intro pos3 (And.intro z2 (And.intro z3 (And.intro @Nat.le_refl (And.intro @Nat.add_sub_cancel (And.intro @List.take_length.{0} (And.intro @List.getElem?_cons_zero.{0} (And.intro @List.drop_succ_cons.{0} (And.intro @List.drop_zero.{0} @List.map_append.{0,0}))))))))))))) :=And.intro len1 (And.intro len2 (And.intro pos1 (And.intro pos2 (And.intro pos3 (And.intro z2 (And.intro z3 (And.intro @Nat.le_refl (And.intro @Nat.add_sub_cancel (And.intro @List.take_length.{0} (And.intro @List.getElem?_cons_zero.{0} (And.intro @List.drop_succ_cons.{0} (And.intro @List.drop_zero.{0} @List.map_append.{0,0}))))))))))))
end Go.Proofs.YtfpconipgllkkaaGreat
